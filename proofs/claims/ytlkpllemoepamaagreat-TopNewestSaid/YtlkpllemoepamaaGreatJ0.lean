/- Laws and walks. No condition beyond what each says. -/
import Derived.Test.YtlkpllemoepamaaGreatLibE
import Derived.Laws.BitsLemmas
import Derived.Laws.MathBits
import Derived.Shelf.Sort.Plain
import Derived.Shelf.Slices.In.SortNone
namespace Go.Proofs.YtlkpllemoepamaaGreat
open Go Go.Gm Tryz
set_option linter.unusedVariables false
set_option linter.unusedSimpArgs false
set_option maxHeartbeats 4000000
set_option maxRecDepth 8000
theorem Ycd:type_of% @underlying45:=@underlying45
theorem Yce:type_of% @underlying31:=@underlying31
theorem Ycf:type_of% @underlying23:=@underlying23
theorem Ycg:type_of% @underlying22:=@underlying22
theorem Ych:type_of% @underlying220:=@underlying220
theorem Yci:type_of% @underlying28:=@underlying28
theorem Ycj:type_of% @underlying161:=@underlying161
theorem Yck:type_of% @underlying162:=@underlying162
theorem Ycl:type_of% @underlying3:=@underlying3
theorem Ycm:type_of% @underlying287:=@underlying287
theorem Ycn:type_of% @underlying226:=@underlying226
theorem Yco:type_of% @underlying213:=@underlying213
theorem Ycp:type_of% @underlying278:=@underlying278
theorem Ycq:type_of% @underlying250:=@underlying250
theorem Ycr:type_of% @underlying127:=@underlying127
theorem Ycs:type_of% @underlying4:=@underlying4
theorem Yct:type_of% @underlying9:=@underlying9
theorem Ycu:type_of% @underlying175:=@underlying175
theorem Ycv:type_of% @underlying247:=@underlying247
theorem Ycw:type_of% @underlying105:=@underlying105
theorem Zy {x:Int} (h : -9223372036854775808≤x∧x≤9223372036854775807):IntKind.wrap .i64 x=x:=ZgB ⟨by simp [IntKind.min,IntKind.signed,IntKind.bits];omega,by simp [IntKind.max,IntKind.signed,IntKind.bits];omega⟩
theorem Zd {i:Nat} (h:i<9223372036854775807):IntKind.wrap .i64 ((i:Int)+1)=((i+1:Nat):Int):=by rw [Zy ow];omega
theorem Zam {x:Int} (h:0≤x∧x≤18446744073709551615):IntKind.wrap .u64 x=x:=ZgB ⟨by simp [IntKind.min,IntKind.signed,IntKind.bits];omega,by simp [IntKind.max,IntKind.signed,IntKind.bits];omega⟩
theorem Zaj (x:Int):IntKind.wrap .u64 x=x % 18446744073709551616:=by simp [IntKind.wrap,IntKind.bits,IntKind.signed]
theorem Zpy {x:Int} (h:inR .i64 x) : -9223372036854775808≤x∧x≤9223372036854775807:=by simpa [inR,IntKind.min,IntKind.max,IntKind.signed,IntKind.bits] using h
theorem ZgF {x:Int} (h:inR .u64 x):0≤x∧x≤18446744073709551615:=by simpa [inR,IntKind.min,IntKind.max,IntKind.signed,IntKind.bits] using h
theorem Sat.lenSl {α:Type} {R:α→List PV} {B:Zbn} {E:En} {a:Act} {w:World} {F:Fp} (h:Sat B E a w F) {i:Nat} {l:List α} (hl:Go.Gm.look E.s i=some (SF.pv (PV.sl R l))):l.length≤9223372036854775807:=by
 obtain ⟨_,cap,_,h1,h2,_⟩:=h.s i _ hl
 unfold maxLen at h2
 omega
def Zm (n:Int):List PV:=[.int .i64 n]
theorem Za9.any {ss:List SF} : Za9 ss .any:=fun _ _ _ _ _=>trivial
theorem ZaW {α:Type} [Inhabited α] {x y:List α} (hl:x.length=y.length) (h:∀ j,j<x.length→Nn x j=Nn y j):x=y:=by
 apply Ya3 hl
 intro j h1 h2
 have:=h j h1
 rwa [nth_eq h1,nth_eq h2] at this
theorem ZnY {α:Type} [Inhabited α] {q:List α} {k:Nat} (h:k<q.length):q.take k ++ [Nn q k] = q.take (k+1):=by
 rw [nth_eq h,List.take_succ_eq_append_getElem h]
theorem nth_mem {α:Type} [Inhabited α] {q:List α} {k:Nat} (h:k<q.length):Nn q k ∈ q:=by rw [nth_eq h];exact Ya2 h
theorem Zrd {α:Type} [Inhabited α] {l:List α} {i:Nat} (h:i<l.length):l.drop i=Nn l i :: l.drop (i+1):=by rw [nth_eq h];exact Ya8 h
theorem Zo {α:Type} [Inhabited α] {l:List α} {i:Nat} (h:i<l.length):l.take (i+1)=l.take i ++ [Nn l i]:=(ZnY h).symm
theorem Ent.adr0 {b:Nat} : Ent (.adr (.val (.pointer (some ⟨b,0,none⟩))) 0) (.pv (.is (.pointer (some ⟨b,0,none⟩)))):=fun _ _ _ _ h=>by
 have e:_=Value.pointer (some ⟨b,0,none⟩):=h
 exact ⟨e,by rw [e];rfl⟩
def ZtX (v rv:Value) (room:Int) (l:List Int):List RS:=[.pt (.val v) 271 [.pv (.is rv),.pv (.int .i64 room)],.ob (.val rv) (Zw 3 1 Zm l)]
def stH (v:Value) (room:Int) (l:List Int):HP:=.ex fun rv:Value=>.star (ZtX v rv room l)
def ZbR (n:Int):Int:=if 65536<(if n<0 then 0 else n) then 65536 else (if n<0 then 0 else n)
theorem ZfN {n:Int} (h:0≤n∧n≤65536):ZbR n=n:=by unfold ZbR;rw [Yc (show ¬ n<0 by omega),Yc ow]
theorem Zog (n:Int):0≤ZbR n∧ZbR n≤65536:=by unfold ZbR;split <;> split <;> omega
def ZqD (room:Int) (l:List Int):Int:=if room - l.length=0 then 2 else 0
def ZmZ (room:Int) (l:List Int) (x:Int):List Int:=if room - l.length=0 then l else l ++ [x]
theorem Zet {v:Value} {room:Int} {l:List Int} {w:World} {f y:Ys} (h:(stH v room l).p w f y):∃ b,v = .pointer (some ⟨b,0,none⟩):=by
 obtain ⟨rv,g⟩:=h
 exact HP.star_pt g
theorem ZiH {room:Int} {l:List Int} (h:(l.length:Int)<room) (x:Int):ZqD room l=0∧ZmZ room l x=l ++ [x]:=⟨Yc ow,Yc ow⟩
theorem nth_last {α:Type} [Inhabited α] {l:List α} {x:α} : Nn (l ++ [x]) l.length=x:=by rw [nth_eq (by simp)];simp
theorem Zid {k:IntKind} {a:Int} {b:Bool} (v:Value) (w:World) (y:Ys) (w':World) (y':Ys) (h:(PV.tup [.int k a,.bool b]).p v w y):(PV.tup [.int k a,.bool b]).p v w' y':=by
 obtain ⟨vs,e,h⟩:=h
 exact ⟨vs,e,by
  match vs,h with
  | [u1,u2],h=>exact h⟩
theorem Zll (n:Int):FnP prog 199 [.int .i64 n] (.int .i64 (ZbR n)):=by
 refine FnP.mk func199 Z ntmps199 Z fun B a w F V hfr G=>Ya ?_
 refine rZ G (qI qZ) V [2,0] [0] fun G=>Ya ?_
 refine rZ G (qR rr (qf (Zoz .t qi) r1 qz (qf (o_min .t qi) r1 qz (qO rr qZ)))) V [2] [0] fun G=>Yh ?_
 refine Zs hfr G Z Z Z .refl
theorem Ztt (n:Int):FnG prog 161 1 [.int .i64 n] [.star []] (PV.ptr) (fun v=>[stH v (ZbR n) []]):=by
 refine FnG.mk func161 Z ntmps161 Z kr fun B F0 a w F V hG G=>Ya ?_
 refine rZ G (qC qZ) V [2,0] [1,0] fun G=>Ya ?_
 refine Zb G (qR rr (qf (oP (Zll n) func199 (Args.one .t)) r1 qz (qf (oB [(1,.tmp 4)] [.slice none 0 0,.int .i64 0] [(0,1),(1,1)] (.one Z .t one_int kr .nil)) r1 qz (qf (oX 101 .t) r1 qz (qO rr qZ))))) V [2] [101,1,0] (fun _=>rfl) (fun _=>rfl) fun τ a w F G=>?_
 try dsimp only [RS.sub,SF.sub,CF.sub,csub,Anc.sub,List.map,Zf,xL,xM,Nat.reduceAdd,xD,xE,xT,xU,xC,xN,zCF,Zm] at G
 generalize τ 6=v6 at G
 refine Za (Yh ?_)
 obtain ⟨b,rfl⟩:=G.shape 101 rfl
 have G:=G.fresh 3 rfl
 have G:=G.turn 3 Z (ZaA (T:=3) (sz:=1) (R:=Zm))
 obtain ⟨F,G⟩:=G.push 1 3 Z Z Z kr
 obtain ⟨F,G⟩:=G.push 1 101 Z Z Z kr
 have G:=G.turn 1 Z (r':=RS.hp (stH (.pointer (some ⟨b,0,none⟩)) (ZbR n) [])) (fun _ _ _ _ h=>⟨_,h⟩)
 refine Z2 (h':=fun v=>stH v (ZbR n) []) hG G Z (.tmp Z .nil) (.one .ptr) rfl
theorem ZtS (room:Int) (l:List Int):FnP prog 253 [.ref [.sl Zm l,.int .i64 room]] (.int .i64 l.length):=by
 refine FnP.mk func253 Z ntmps253 Z fun B a w F V hfr G=>Ya ?_
 refine rZ G (qI qZ) V [2,0] [0] fun G=>(Ya (Ya ?_))
 refine rZ G (qR rr (qf (Zcc underlying227 .t) r1 qz qZ)) V [4,2,0] [0] fun G=>?_
 refine Zc G Z (fun hc0=>?_) (fun hc0=>?_)
 ·simp at hc0
 refine Ye (Za (Ya (rZ G (qR rr (qf (ZC .t) r1 qz (qf (oG 0 .t) r1 qz (qf (oG 0 .t) r1 qz (qf (oR false 1 .t) r1 qz (qu Ycd r1 (qO rr qZ))))))) V [2] [0] fun G=>Yh ?_)))
 refine Zs hfr G Z Z Z .refl
theorem ZrI (room:Int) (l:List Int) (hr:0≤room∧room≤65536) (hn:(l.length:Int)≤room):FnP prog 242 [.ref [.sl Zm l,.int .i64 room]] (.int .i64 (room - l.length)):=by
 refine FnP.mk func242 Z ntmps242 Z fun B a w F V hfr G=>Ya ?_
 refine rZ G (qI qZ) V [2,0] [0] fun G=>(Ya (Ya ?_))
 refine rZ G (qR rr (qf (Zcc underlying227 .t) r1 qz qZ)) V [4,2,0] [0] fun G=>?_
 refine Zc G Z (fun hc0=>?_) (fun hc0=>?_)
 ·simp at hc0
 refine Ye (Za (Ya (Zv G (qR rr (qf (ZC .t) r1 qz (qf (oG 1 .t) r1 qz (qf (oR false 1 .t) r1 qz (qR rr (qf (ZC .t) r1 qz (qf (oG 0 .t) r1 qz (qf (oG 0 .t) r1 qz (qf (oR false 1 .t) r1 qz (qu Ycd r1 (qf (o_sub .t .t) r2 qz (qO rr qZ)))))))))))) V [2] [0] Z Z fun a w F G=>?_)))
 try dsimp only [List.map,xD,xE,xT,xU,ldSF,Zm] at G
 refine Za (Yh (Zs hfr G Z Z Z (.int (Zy ow))))
theorem ZvH (b:Nat) (room:Int) (l:List Int) (x:Int) (hl:l.length≤70000):FnG prog 243 1 [.is (.pointer (some ⟨b,0,none⟩)),.int .i64 x] [stH (.pointer (some ⟨b,0,none⟩)) room l] (.tup []) (fun _=>[stH (.pointer (some ⟨b,0,none⟩)) room (l ++ [x])]):=by
 refine FnG.mk func243 Z ntmps243 Z kr fun B F0 a w F V hG G=>?_
 obtain ⟨rv,G⟩:=G.open_ex 1 rfl
 obtain ⟨F,G⟩:=G.peel 1 2 Z rfl
 obtain ⟨F,G⟩:=G.peel 1 3 Z rfl
 obtain ⟨F,G⟩:=G.nM [1,0] [3,2,0]
 refine Zb G (qR rr (qR rr (qf (o_nilCheck 2 .is (by rfl)) r1 r1 (qf (oF 0 2 .adr) r1 r1 (qa 2 r1 r1 (qR rr (qf (o_buildSliceE (sz:=1) (zs:=[.int .i64 0]) (r:=[(0,.tmp 9)]) (l:=[_]) Ycd kr kr kr kr Z Z (.one Z .t one_int kr .nil) Z) r1 qz (qf (ZP (sz:=1) (bs:=8) 3 (.mk' Ycd kr kr) (by intro x;rfl) .is (.arr (l':=[_]) .t) (by simp only [Yl,Yw];omega) (by decide)) ⟨rfl,rfl,tv⟩ ⟨rfl,tv⟩ (qf (o_nilCheck 2 .is (by rfl)) r1 r1 (qf (oF 0 2 .adr) r1 r1 (qf (o_storeS 2 .adr kr kr) r2 r1 qZ))))))))))) V [] [3,2,0] (fun _=>rfl) (fun _=>rfl) fun τ a w F G=>?_
 try dsimp only [RS.sub,SF.sub,CF.sub,csub,Anc.sub,List.map,Zf,xL,xM,Nat.reduceAdd,xD,xE,xT,xU,xC,xN,zCF,ldSF,Zm] at G
 generalize τ 11=v11 at G
 have G:=G.fresh 1 rfl
 obtain ⟨F,G⟩:=G.push 1 3 Z Z Z kr
 obtain ⟨F,G⟩:=G.push 1 2 Z Z Z kr
 have G:=G.turn 1 Z (r':=RS.hp (stH (.pointer (some ⟨b,0,none⟩)) room (l ++ [x]))) (fun _ _ _ _ h=>⟨_,h⟩)
 refine Zac hG G Z .nil Za9.none rfl
theorem Zr1 (b:Nat) (room:Int) (l:List Int) (x:Int) (hr:0≤room∧room≤65536) (hn:(l.length:Int)≤room):FnG prog 221 1 [.is (.pointer (some ⟨b,0,none⟩)),.int .i64 x] [stH (.pointer (some ⟨b,0,none⟩)) room l] (.int .i64 (ZqD room l)) (fun _=>[stH (.pointer (some ⟨b,0,none⟩)) room (ZmZ room l x)]):=by
 refine FnG.mk func221 Z ntmps221 Z kr fun B F0 a w F V hG G=>?_
 obtain ⟨rv,G⟩:=G.open_ex 1 rfl
 obtain ⟨F,G⟩:=G.peel 1 2 Z rfl
 obtain ⟨F,G⟩:=G.peel 1 3 Z rfl
 obtain ⟨F,G⟩:=G.nM [1,0] [3,2,0]
 refine Ya (rZ G (qI qZ) V [4,1,0] [3,2,0] fun G=>(Ya (Ya ?_)))
 refine rZ G (qR rr (qf (ZbQ (cells:=[.pv (.is rv),.pv _]) 2 3 0 (ZrI room l hr hn) (fun _ _ _ _ _ h=>h) Z func242 Z kr Z Z (Zaf.one .is)) r1 r2 (qf (o_eql .t qi) r1 qz qZ))) V [7,4,1,0] [3,2,0] fun G=>?_
 refine Zc G Z (fun hc0=>?_) (fun hc0=>?_)
 ·have hf:room - (l.length:Int)=0:=by simpa using hc0
  have hg:2=ZqD room l:=(Yf hf).symm
  have hg2:ZmZ room l x=l:=Yf hf
  refine Ya (rZ G (qI qZ) V [4,1,0] [3,2,0] fun G=>(Yh (Zk ?_)))
  have G:=G.fresh 1 rfl
  obtain ⟨F,G⟩:=G.push 1 3 Z Z Z kr
  obtain ⟨F,G⟩:=G.push 1 2 Z Z Z kr
  have G:=G.turn 1 Z (r':=RS.hp (stH (.pointer (some ⟨b,0,none⟩)) room (ZmZ room l x))) (fun _ _ _ _ h=>⟨_,(by rw [hg2];exact h)⟩)
  refine Zac hG G Z (.tmp Z .nil) (.one (.int (by rw [hg]))) rfl
 have hf:¬ room - (l.length:Int)=0:=by simpa using hc0
 have hg:0=ZqD room l:=(Yc hf).symm
 have hg2:ZmZ room l x=l ++ [x]:=Yc hf
 refine Ye (Za (Ya (Zap 3 G kr (cG Z (oM .t) r1 trivial (cG Z (o_nilCheck 2 .is (by rfl)) r1 r1 (cG Z (oF 0 2 .adr) r1 r1 ChainN.nil))) kr (by rw [V];kernel_rfl) fun a w F G=>?_)))
 obtain ⟨F,G⟩:=G.nM [10,4,1] [3,2,0]
 try dsimp only [Zm] at G
 have G:=G.fresh 1 rfl
 obtain ⟨F,G⟩:=G.push 1 3 Z Z Z kr
 obtain ⟨F,G⟩:=G.push 1 2 Z Z Z kr
 have G:=G.turn 1 Z (r':=RS.hp (stH (.pointer (some ⟨b,0,none⟩)) room l)) (fun _ _ _ _ h=>⟨_,h⟩)
 obtain ⟨F,G⟩:=G.nM [10,4,1] [1,0]
 refine ZaH G kr (cG Z (oM .t) r1 trivial (cG Z (ZJ 1 (ZvH b room l x ow) func243 Z kr (Args.two (.conv .t (Ent.adr0)) .t)) r2 r1 ChainN.nil)) kr (by rw [V];kernel_rfl) fun a w F G=>?_
 obtain ⟨F,G⟩:=G.nM [4] [1,0]
 try dsimp only [Zm] at G
 refine Za (Ya (rZ G (qI qZ) V [4] [1,0] fun G=>Yh ?_))
 have G:=G.turn 1 Z (r':=RS.hp (stH (.pointer (some ⟨b,0,none⟩)) room (ZmZ room l x))) (fun _ _ _ _ h=>by rw [hg2];exact h)
 refine Zac hG G Z (.tmp Z .nil) (.one (.int (by rw [hg]))) rfl
theorem Zok (b:Nat) (room:Int) (l:List Int) (x:Int) (hr:0≤room∧room≤65536) (h:(l.length:Int)<room):FnG prog 221 1 [.is (.pointer (some ⟨b,0,none⟩)),.int .i64 x] [stH (.pointer (some ⟨b,0,none⟩)) room l] (.int .i64 0) (fun _=>[stH (.pointer (some ⟨b,0,none⟩)) room (l ++ [x])]):=by
 have:=Zr1 b room l x hr ow
 rw [(ZiH h x).1,(ZiH h x).2] at this;exact this
theorem Zp3 (room:Int) (l:List Int) (x:Int) (hl:l.length≤70000):FnP prog 244 [.ref [.sl Zm (l ++ [x]),.int .i64 room]] (.tup [.int .i64 x,.bool true]):=by
 refine FnP.mk func244 Z ntmps244 Z fun B a w F V hfr G=>?_
 have hw1:IntKind.wrap .i64 (((l ++ [x]).length:Int) - 1)=((l.length:Nat):Int):=by rw [Zy (by rw [Yd,YM];omega),Yd,YM];omega
 refine Ya (rZ G (qI qB) V [3,2,0] [0] fun G=>(Ya (Ya ?_)))
 refine rZ G (qR rr (qf (oP (ZtS room (l ++ [x])) func253 (Args.one .t)) r1 qz (qf (o_eql .t qi) r1 qz qZ))) V [6,3,2,0] [0] fun G=>?_
 refine Zc G Z (fun hc0=>?_) (fun hc0=>?_)
 ·simp at hc0;try omega
 refine Ye (Za (Ya (Zv G (qR rr (qf (ZC .t) r1 qz (qf (oG 0 .t) r1 qz (qf (oG 0 .t) r1 qz (qf (oR false 1 .t) r1 qz (qR rr (qf (ZC .t) r1 qz (qf (oG 0 .t) r1 qz (qf (oG 0 .t) r1 qz (qf (oR false 1 .t) r1 qz (qu Ycd r1 (qf (o_sub .t qi) r1 qz (qf (o_indexAddr_sl (sz:=1) (.mk Ycd kr) (by intro x;rfl) .t .t (by rw [hw1];omega) (by rw [hw1,Yd,YM];omega)) r2 qz (qf (oR false 1 .t) r1 qz (qO rr qB))))))))))))))) V [3,2] [0] Z Z fun a w F G=>?_)))
 try dsimp only [List.map,xD,xE,xT,xU,ldSF,Zm] at G
 try simp only [Yb] at G
 rw [hw1,Yb,nth_last] at G
 refine Za (Yh (Z5 hfr G Z (.tmp Z (.tmp Z .nil)) (.two .refl .refl)))
theorem ZtH (b:Nat) (room:Int) (l:List Int) (x:Int) (hl:l.length≤70000):FnG prog 245 1 [.is (.pointer (some ⟨b,0,none⟩))] [stH (.pointer (some ⟨b,0,none⟩)) room (l ++ [x])] (.tup []) (fun _=>[stH (.pointer (some ⟨b,0,none⟩)) room l]):=by
 refine FnG.mk func245 Z ntmps245 Z kr fun B F0 a w F V hG G=>?_
 obtain ⟨rv,G⟩:=G.open_ex 1 rfl
 obtain ⟨F,G⟩:=G.peel 1 2 Z rfl
 obtain ⟨F,G⟩:=G.peel 1 3 Z rfl
 obtain ⟨F,G⟩:=G.nM [0] [3,2,0]
 have hw1:IntKind.wrap .i64 (((l ++ [x]).length:Int) - 1)=((l.length:Nat):Int):=by rw [Zy (by rw [Yd,YM];omega),Yd,YM];omega
 refine Zax G (qR rr (qR rr (qf (o_nilCheck 2 .is (by rfl)) r1 r1 (qf (oF 0 2 .adr) r1 r1 (qa 2 r1 r1 (qR rr (qf (o_nilCheck 2 .is (by rfl)) r1 r1 (qf (oF 0 2 .adr) r1 r1 (qa 2 r1 r1 (qf (ZX 3 Ycd .is) r1 r1 (qf (o_sub .t qi) r1 qz (qf (ZbI (sz:=1) 3 (.mk Ycd kr) (by intro x;rfl) .is .t (by rw [hw1];omega) (by rw [hw1,Yd,YM];omega)) r2 r1 (qf (o_nilCheck 2 .is (by rfl)) r1 r1 (qf (oF 0 2 .adr) r1 r1 (qf (o_storeS 2 .adr kr kr) r2 r1 qZ))))))))))))))) V [] [3,2,0] (fun _=>rfl) (fun _=>rfl) fun τ a w F G=>?_
 try dsimp only [RS.sub,SF.sub,CF.sub,csub,Anc.sub,List.map,Zf,xL,xM,Nat.reduceAdd,xD,xE,xT,xU,xC,xN,zCF,ldSF,Zm] at G
 generalize τ 13=v13 at G
 rw [hw1,Yb,List.take_left] at G
 have G:=G.fresh 1 rfl
 obtain ⟨F,G⟩:=G.push 1 3 Z Z Z kr
 obtain ⟨F,G⟩:=G.push 1 2 Z Z Z kr
 have G:=G.turn 1 Z (r':=RS.hp (stH (.pointer (some ⟨b,0,none⟩)) room l)) (fun _ _ _ _ h=>⟨_,h⟩)
 refine Zac hG G Z .nil Za9.none rfl
theorem Zt0 (b:Nat) (room:Int) (l:List Int) (x:Int) (hl:l.length≤70000):FnG prog 223 1 [.is (.pointer (some ⟨b,0,none⟩))] [stH (.pointer (some ⟨b,0,none⟩)) room (l ++ [x])] (.tup [.int .i64 x,.bool true]) (fun _=>[stH (.pointer (some ⟨b,0,none⟩)) room l]):=by
 refine FnG.mk func223 Z ntmps223 Z kr fun B F0 a w F V hG G=>?_
 obtain ⟨rv,G⟩:=G.open_ex 1 rfl
 obtain ⟨F,G⟩:=G.peel 1 2 Z rfl
 obtain ⟨F,G⟩:=G.peel 1 3 Z rfl
 obtain ⟨F,G⟩:=G.nM [0] [3,2,0]
 refine Ya (rZ G (qI qB) V [3,2,0] [3,2,0] fun G=>Ya ?_)
 refine rZ G (qR rr (qf (ZbQ (cells:=[.pv (.is rv),.pv _]) 2 3 0 (Zp3 room l x hl) Zid Z func244 Z kr Z Z (Zaf.one .is)) r1 r2 (qR rr (qf (o_extract .t Z) r1 qz (qf (o_extract .t Z) r1 qz (qO rr (qO rr qZ))))))) V [5,4,3,2,0] [3,2,0] fun G=>(Ya (Ya ?_))
 refine rZ G (qR rr qZ) V [11,5,4,3,2,0] [3,2,0] fun G=>?_
 refine Zc G Z (fun hc0=>?_) (fun hc0=>?_)
 ·refine Zap 3 G kr (cG Z (oM .t) r1 trivial (cG Z (o_nilCheck 2 .is (by rfl)) r1 r1 (cG Z (oF 0 2 .adr) r1 r1 ChainN.nil))) kr (by rw [V];kernel_rfl) fun a w F G=>?_
  obtain ⟨F,G⟩:=G.nM [14,5,4,3,2] [3,2,0]
  try dsimp only [Zm] at G
  have G:=G.fresh 1 rfl
  obtain ⟨F,G⟩:=G.push 1 3 Z Z Z kr
  obtain ⟨F,G⟩:=G.push 1 2 Z Z Z kr
  have G:=G.turn 1 Z (r':=RS.hp (stH (.pointer (some ⟨b,0,none⟩)) room (l ++ [x]))) (fun _ _ _ _ h=>⟨_,h⟩)
  obtain ⟨F,G⟩:=G.nM [14,5,4,3,2] [1,0]
  refine ZaH G kr (cG Z (ZJ 1 (ZtH b room l x hl) func245 Z kr (Args.one (.conv .t (Ent.adr0)))) r1 r1 ChainN.nil) kr (by rw [V];kernel_rfl) fun a w F G=>?_
  obtain ⟨F,G⟩:=G.nM [5,4,3,2] [1,0]
  try dsimp only [Zm] at G
  refine Za (Ya (rZ G (qR rr (qR rr (qO rr (qO rr qZ)))) V [3,2] [1,0] fun G=>Yh ?_))
  refine Zac hG G Z (.tmp Z (.tmp Z .nil)) (.two .refl .refl) rfl
 simp at hc0
def rV (v:Value):List PV:=[.is v]
theorem ZcA {w:World} {y:Ys} : ∀ {rs:List RS} {f:Ys},stars w y rs f → ∀ r ∈ rs,∃ f1:Ys,(∀ b,f1 b→f b)∧r.holds tau0 w f1 y
 | [],f,_,r,h=>by cases h
 | x :: rs,f,⟨f1,f2,h1,h2,h3,h4,h5⟩,r,hr=>by
  rcases Yj.1 hr with rfl | hr
  ·exact ⟨f1,fun b hb=>(h1 b).2 (.inl hb),h4⟩
  ·obtain ⟨g,g1,g2⟩:=ZcA h5 r hr
   exact ⟨g,fun b hb=>(h1 b).2 (.inr (g1 b hb)),g2⟩
structure Z9 where
 kind:Int
 label:Int
 node:Int
 deriving DecidableEq,Inhabited
def Zau (e:Z9):List PV:=[.int .i64 e.kind,.int .i64 e.label,.int .i64 e.node]
def Zav (l:List Z9):List PV:=[.sl Zau l]
def Znw (p:Value×List Z9):HP:=Zw 217 3 Zau p.2 p.1
def Ze3 (hs:List Value) (L:List (List Z9)):List (Value×List Z9):=(List.range hs.length).map fun k=>(Nn hs k,Nn L k)
theorem Zlg (hs:List Value) (L:List (List Z9)):(Ze3 hs L).length=hs.length:=by unfold Ze3;simp
theorem ZoO {hs:List Value} {L:List (List Z9)} {k:Nat} (h:k<hs.length):(Ze3 hs L)[k]? = some (Nn hs k,Nn L k):=by unfold Ze3;simp [h]
theorem ZrV (hs:List Value) (L:List (List Z9)):(Ze3 hs L).map (·.1)=hs:=by
 apply Ya3 (by simp [Ze3])
 intro j h1 h2
 simp [Ze3,nth_eq h2]
theorem ZqL {hs:List Value} {L:List (List Z9)} (h:hs.length=L.length):(Ze3 hs L).map (·.2)=L:=by
 apply Ya3 (by simp [Ze3,h])
 intro j h1 h2
 simp [Ze3,nth_eq h2]
def ZiX (L:List (List Z9)) (v:Value):HP:=.ex fun hs:List Value=>.and (hs.length=L.length) (.star [.ob (.val v) (Zw 220 1 rV hs),ZsZ Znw (Ze3 hs L)])
theorem ZlF {w:World} {y y':Ys} : ∀ {ps:List (Value×List Z9)} {xs:List Value},PVs ((ps.map (·.1)).flatMap rV) xs w y→(∀ p ∈ ps,(PV.sl Zau p.2).p p.1 w y')→PVs ((ps.map (·.2)).flatMap Zav) xs w y'
 | [],[],_,_=>trivial
 | p :: ps,x :: xs,h,k=>by
  have e:x=p.1:=h.1.2.1
  refine ⟨⟨h.1.1,?_⟩,ZlF (ps:=ps) h.2 fun q hq=>k q (YC _ hq)⟩
  rw [e];exact k p YaE
 | [],_ :: _,h,_=>h.elim
 | _ :: _,[],h,_=>h.elim
theorem Zjz {L:List (List Z9)} {v:Value} : ZuU (ZiX L v) v (.sl Zav L):=fun w f y y' ⟨hs,hl,h⟩ hle hf hb=>by
 obtain ⟨f1,g1,g2⟩:=ZcA h (.ob (.val v) (Zw 220 1 rV hs)) (by simp)
 obtain ⟨f2,m1,m2⟩:=ZcA h (ZsZ Znw (Ze3 hs L)) (by simp)
 have hrow:(Zw 220 1 rV hs v).p w f1 y:=g2
 have hfam:stars w y ((Ze3 hs L).map fun x=>RS.hp (Znw x)) f2:=m2
 obtain ⟨xs,k1,k2,k3⟩:=hrow
 obtain ⟨ad,cap,e8,h8,h9,h10⟩:=ZO k1
 rw [hl] at e8 h8
 refine ⟨ad,cap,e8,h8,h9,?_⟩
 rcases h10 with h10 | ⟨b',rfl,h11,h12⟩
 ·exact .inl (YQ (by rw [← hl];exact h10))
 ·have hb':f1 b':=(k3 b').2 h11
  refine .inr ⟨b',0,xs,rfl,hf b' (g1 b' hb'),hb b' (g1 b' hb'),h12,?_⟩
  have key:=ZlF (y:=y) (y':=y') (ps:=Ze3 hs L) (xs:=xs) (w:=w) (by rw [ZrV];exact k2) fun p hp=>by
   obtain ⟨f3,n1,n2⟩:=ZcA hfam (RS.hp (Znw p)) (Yu.2 ⟨p,hp,rfl⟩)
   exact Zio w f3 y y' n2 hle (fun b h=>hf b (m1 b (n1 b h))) (fun b h=>hb b (m1 b (n1 b h)))
  rwa [ZqL hl] at key
def ZnJ (O I:List (List Z9)) (n:Nat) (v:Value):HP:=.ex fun ov:Value=>.ex fun iv:Value=>.star [.pt (.val v) 215 [.pv (.is ov),.pv (.is iv),.pv (.int .i64 n)],RS.hp (ZiX O ov),RS.hp (ZiX I iv)]
abbrev ZeJ (O I:List (List Z9)) (n:Nat):PV:=.ref [.sl Zav O,.sl Zav I,.int .i64 n]
theorem Zfk {O I:List (List Z9)} {n:Nat} {v:Value} : ZuU (ZnJ O I n v) v (ZeJ O I n):=fun w f y y' ⟨ov,iv,h⟩ hle hf hb=>by
 obtain ⟨f1,g1,g2⟩:=ZcA h (.pt (.val v) 215 [.pv (.is ov),.pv (.is iv),.pv (.int .i64 n)]) (by simp)
 obtain ⟨f2,m1,m2⟩:=ZcA h (RS.hp (ZiX O ov)) (by simp)
 obtain ⟨f3,n1,n2⟩:=ZcA h (RS.hp (ZiX I iv)) (by simp)
 have hO:=Zjz w f2 y y' m2 hle (fun b k=>hf b (m1 b k)) (fun b k=>hb b (m1 b k))
 have hI:=Zjz w f3 y y' n2 hle (fun b k=>hf b (n1 b k)) (fun b k=>hb b (n1 b k))
 obtain ⟨b,vs,k1,k2,k3,k4⟩:=g2
 have hb1:f1 b:=(k3 b).2 rfl
 refine ⟨b,0,vs.toList,k1,hf b (g1 b hb1),hb b (g1 b hb1),ZB.mk fun j u hj=>?_,?_⟩
 ·simp only [Y4]
  simp [World.cell?,k2]
  simpa using hj
 ·generalize vs.toList=us at k4
  match us,k4 with
  | [u1,u2,u3],k4=>
   have e1:u1=ov:=k4.1.2.1
   have e2:u2=iv:=k4.2.1.2.1
   refine ⟨⟨k4.1.1,?_⟩,⟨k4.2.1.1,?_⟩,⟨k4.2.2.1.1,k4.2.2.1.2⟩,tv⟩
   ·rw [e1];exact hO
   ·rw [e2];exact hI
structure Zx where
 src:Int
 dst:Int
 kind:Int
 label:Int
 deriving DecidableEq,Inhabited
def Zan (a:Zx):List PV:=[.int .i64 a.src,.int .i64 a.dst,.int .i64 a.kind,.int .i64 a.label]
def endO (x:Zx):Z9:=⟨x.kind,x.label,x.dst⟩
def endI (x:Zx):Z9:=⟨x.kind,x.label,x.src⟩
def ofB (mask kind:Int):Bool:=decide (bits .and .i64 (mask.fdiv (2 ^ min (IntKind.wrap .u64 kind).toNat (IntKind.bits .i64))) 1=1)
def ZaJ (n:Nat) (x:Zx):Bool:=(((((decide (0≤x.src∧x.src<n)) && decide (0≤x.dst∧x.dst<n)) && decide (1≤x.kind)) && decide (x.kind≤3)) && decide (0≤x.label)) && decide (x.label≤1048575)
theorem Zch (O I:List (List Z9)) (m:Nat):FnP prog 158 [ZeJ O I m] (.int .i64 (O.length:Int)):=by
 refine FnP.mk func158 Z ntmps158 Z fun B a w F V hfr G=>Ya ?_
 refine rZ G (qI qZ) V [2,0] [0] fun G=>(Ya (Ya ?_))
 refine rZ G (qR rr (qf (Zcc underlying167 .t) r1 qz qZ)) V [4,2,0] [0] fun G=>?_
 refine Zc G Z (fun hc0=>?_) (fun hc0=>?_)
 ·simp at hc0
 refine Ye (Za (Ya (rZ G (qR rr (qf (ZC .t) r1 qz (qf (oG 0 .t) r1 qz (qf (oR false 1 .t) r1 qz (qu Yco r1 (qO rr qZ)))))) V [2] [0] fun G=>Yh ?_)))
 refine Zs hfr G Z Z Z .refl
theorem Zd0 (O I:List (List Z9)) (m:Nat) (u:Int):FnP prog 194 [ZeJ O I m,.int .i64 u] (.bool (decide (0≤u∧u<O.length))):=by
 refine FnP.mk func194 Z ntmps194 Z fun B a w F V hfr G=>Ya ?_
 refine rZ G qB V [4,1,0] [0] fun G=>Ya ?_
 refine rZ G (qR rr (qf (Zbq .t qi) r1 qz (qR rr (qm Z Z Z Z (qm Z Z Z Z (qk Z (fun h=>oP (Zch O I m) func158 (Args.one (.w h))) r2 qz (qk Z (fun h=>ZaD (.w h) (.w h)) r3 qz (qf (ZD .t .t) r2 qz (qO rr qZ))))))))) V [4] [0] fun G=>Yh ?_
 refine Zs hfr G Z Z Z (.bool (by by_cases h:0≤u <;> simp [h]))
theorem Zja (O I:List (List Z9)) (m:Nat) (x:Zx):FnP prog 154 [ZeJ O I m,.agg (Zan x)] (.bool (ZaJ O.length x)):=by
 refine FnP.mk func154 Z ntmps154 Z fun B a w F V hfr G=>Ya ?_
 refine Zb G (qx 101 r1 qB) V [4,3,0] [101,0] (fun _=>rfl) (fun _=>rfl) fun τ a w F G=>?_
 try dsimp only [RS.sub,SF.sub,CF.sub,csub,Anc.sub,List.map,zCF,Zau,Zav,Zm,Zan] at G
 generalize τ 3=v3 at G
 refine Za (Ya (rZ G (qR rr (qg 0 101 r1 r1 (qa 101 r1 r1 (qf (oP (Zd0 O I m x.src) func194 (Args.two .t .t)) r2 qz (qR rr (qm Z Z Z Z (qv 1 101 Z r2 r1 (qw 101 Z r2 r1 (qk Z (fun h=>oP (Zd0 O I m x.dst) func194 (Args.two (.w h) (.w h))) r3 qz (qf (ZD .t .t) r2 qz (qR rr (qv 2 101 Z r2 r1 (qw 101 Z r2 r1 (qk Z (fun h=>Zbq (.w h) qi) r2 qz (qf (ZD .t .t) r2 qz (qR rr (qv 2 101 Z r2 r1 (qw 101 Z r2 r1 (qk Z (fun h=>Zkb (.w h) qi) r2 qz (qf (ZD .t .t) r2 qz (qR rr (qv 3 101 Z r2 r1 (qw 101 Z r2 r1 (qk Z (fun h=>Zbq (.w h) qi) r2 qz (qf (ZD .t .t) r2 qz (qR rr (qv 3 101 Z r2 r1 (qw 101 Z r2 r1 (qk Z (fun h=>Zkb (.w h) qi) r2 qz (qf (ZD .t .t) r2 qz (qO rr qZ))))))))))))))))))))))))))))))) V [4] [0] fun G=>Yh ?_))
 refine Zs hfr G Z Z Z (.bool (by unfold ZaJ;simp))
theorem ZlA (x:Zx):FnP prog 156 [.agg (Zan x)] (.tup [.agg (Zau (endO x)),.agg (Zau (endI x))]):=by
 refine FnP.mk func156 Z ntmps156 Z fun B a w F V hfr G=>Ya ?_
 refine Zb G (qx 101 r1 (qf (oH [.int .i64 0,.int .i64 0,.int .i64 0] 102) trivial qz (qf (oH [.int .i64 0,.int .i64 0,.int .i64 0] 103) trivial qz qZ))) V [3,2,1] [103,102,101,0] (fun _=>rfl) (fun _=>rfl) fun τ a w F G=>?_
 try dsimp only [RS.sub,SF.sub,CF.sub,csub,Anc.sub,List.map,zCF,Zau,Zav,Zm,Zan] at G
 generalize τ 1=v1,τ 2=v2,τ 3=v3 at G
 refine Za (Ya (Zv G (qg 2 101 r1 r1 (qa 101 r1 r1 (qg 3 101 r1 r1 (qa 101 r1 r1 (qg 1 101 r1 r1 (qa 101 r1 r1 (qf (oB [(0,.tmp 5),(1,.tmp 7),(2,.tmp 9)] [.int .i64 0,.int .i64 0,.int .i64 0] [(0,1),(1,1),(2,1)] (.one Z .t one_int kr (.one Z .t one_int kr (.one Z .t one_int kr .nil)))) r3 qz (qg 2 101 r1 r1 (qa 101 r1 r1 (qg 3 101 r1 r1 (qa 101 r1 r1 (qg 0 101 r1 r1 (qa 101 r1 r1 (qf (oB [(0,.tmp 12),(1,.tmp 14),(2,.tmp 16)] [.int .i64 0,.int .i64 0,.int .i64 0] [(0,1),(1,1),(2,1)] (.one Z .t one_int kr (.one Z .t one_int kr (.one Z .t one_int kr .nil)))) r3 qz (qs 3 102 r2 r1 (qs 3 103 r2 r1 qZ)))))))))))))))) V [3,2] [103,102,0] Z Z fun a w F G=>?_))
 try dsimp only [List.map,Zf,xL,xM,Nat.reduceAdd,xD,xE,xT,xU,xC,xN,zCF,ldSF,Zau,Zav,Zm,Zan] at G
 refine Za (Yh (Z5 hfr G Z (.cl 102 true 3 Z Z (.cl 103 true 3 Z Z .nil)) (.two (.aggU Z Z) (.aggU Z Z))))
theorem ZsS (mask kind:Int):FnP prog 210 [.int .i64 mask,.int .i64 kind] (.bool (ofB mask kind)):=by
 refine FnP.mk func210 Z ntmps210 Z fun B a w F V hfr G=>Ya ?_
 refine rZ G qB V [4,1,0] [0] fun G=>Ya ?_
 refine rZ G (qR rr (qR rr (qf (o_conv Yck kr .t) r1 qz (qf (Zcb .t .t  (by rw [Zaj];omega)) r2 qz (qf (o_and .t qi) r1 qz (qf (o_eql .t qi) r1 qz (qO rr qZ))))))) V [4] [0] fun G=>Yh ?_
 refine Zs hfr G Z Z Z (.bool Z)
theorem Zuy (x:Int):IntKind.wrap .u8 x=x % 256:=by simp [IntKind.wrap,IntKind.bits,IntKind.signed]
def ZfM (s:List UInt8):Nat:=s.foldl (fun a c=>a*10+(c.toNat - 48)) 0
theorem Zke {x:Int} (h:0≤x∧x≤18446744073709551615):bits .and .u64 x 4294967295=x % 4294967296:=by
 obtain ⟨X,rfl⟩:=Yae h.1
 have h1:(BitVec.ofInt 64 (X:Int)).toNat=X:=by rw [YaF];omega
 have h2:(BitVec.ofInt 64 (4294967295:Int)).toNat=2 ^ 32 - 1:=by decide
 show IntKind.wrap .u64 (((BitVec.ofInt 64 (X:Int) &&& BitVec.ofInt 64 4294967295).toNat:Nat):Int)=_
 rw [Ybq,h1,h2,YaR,Zaj]
 omega
theorem ZvE {x:Int} : x.fdiv (2 ^ min (32:Int).toNat (IntKind.bits .u64))=x / 4294967296:=by
 rw [YaQ _ (by decide)]
 rfl
theorem ZuN (x y:Int):FnP prog 255 [.int .u64 x,.int .u64 y] (.tup [.int .u64 (x*y / 18446744073709551616),.int .u64 (x*y % 18446744073709551616)]):=by
 refine FnP.mk func255 Z ntmps255 Z fun B a w F V hfr G=>?_
 have hx:=ZgF (G.range (i:=0) rfl)
 have hy:=ZgF (G.range (i:=1) rfl)
 have h3:∀ {z:Int},0≤IntKind.wrap .u64 z∧IntKind.wrap .u64 z≤18446744073709551615:=fun {z}=>ZgF (Zb3 _ _)
 refine Ya (rZ G (qI (qI qZ)) V [5,4,1,0] [0] fun G=>Ya ?_)
 refine rZ G (qR rr (qf (o_and .t qi) r1 qz (qO rr qZ))) V [6,5,4,1,0] [0] fun G=>Ya ?_
 refine rZ G (qR rr (qf (Zcb .t qi (by decide)) r1 qz (qO rr qZ))) V [7,6,5,4,1,0] [0] fun G=>Ya ?_
 refine rZ G (qR rr (qf (o_and .t qi) r1 qz (qO rr qZ))) V [8,7,6,5,4,1,0] [0] fun G=>Ya ?_
 refine rZ G (qR rr (qf (Zcb .t qi (by decide)) r1 qz (qO rr qZ))) V [9,8,7,6,5,4,1,0] [0] fun G=>Ya ?_
 refine rZ G (qR rr (qR rr (qf (ZmL .t .t) r2 qz (qO rr qZ)))) V [10,9,8,7,6,5,4,1,0] [0] fun G=>Ya ?_
 refine rZ G (qR rr (qR rr (qf (ZmL .t .t) r2 qz (qR rr (qf (Zcb .t qi (by decide)) r1 qz (qf (o_add .t .t) r2 qz (qO rr qZ))))))) V [11,9,7,6,5,4,1,0] [0] fun G=>Ya ?_
 refine rZ G (qR rr (qf (o_and .t qi) r1 qz (qO rr qZ))) V [12,11,9,7,6,5,4,1,0] [0] fun G=>Ya ?_
 refine rZ G (qR rr (qf (Zcb .t qi (by decide)) r1 qz (qO rr qZ))) V [13,12,9,7,6,5,4,1,0] [0] fun G=>Ya ?_
 refine rZ G (qR rr (qR rr (qR rr (qf (ZmL .t .t) r2 qz (qf (o_add .t .t) r2 qz (qO rr qZ)))))) V [13,12,9,7,5,4,1,0] [0] fun G=>Ya ?_
 refine rZ G (qR rr (qR rr (qf (ZmL .t .t) r2 qz (qR rr (qf (o_add .t .t) r2 qz (qR rr (qf (Zcb .t qi (by decide)) r1 qz (qf (o_add .t .t) r2 qz (qO rr qZ))))))))) V [5,4,1,0] [0] fun G=>Ya ?_
 refine rZ G (qR rr (qR rr (qf (ZmL .t .t) r2 qz (qO rr qZ)))) V [5,4] [0] fun G=>Yh ?_
 refine Z5 hfr G Z (.tmp Z (.tmp Z .nil)) (.two (.int (by simp only [ZvE,Zke hx,Zke hy,Zke h3];simp only [Zaj];exact mul64_arith x y hx.1 ow hy.1 ow)) (.int (by rw [Zaj])))
structure Zql where
 key:Int
 val:Int
 deriving DecidableEq,Inhabited
section
variable {out t T:List Zql} {k x:Int} {e:Zql} {d:Bool}
end
def ZaC (v:Int):List Int→Int
 | []=>-1
 | x :: l=>if x=v then 0 else if ZaC v l<0 then -1 else ZaC v l+1
theorem ZfZ {v:Int} : ∀ {l:List Int},(∀ k,k<l.length→Nn l k≠v)→ZaC v l = -1
 | [],_=>rfl
 | x :: l,h=>by
  have h0:x≠v:=h 0 (by simp)
  rw [ZaC,Yc h0,ZfZ (l:=l) fun k hk=>by have:=h (k+1) (by simpa using hk);exact this,Yf (by decide)]
theorem Zpi {v:Int} : ∀ {l:List Int} {i:Nat},i<l.length→Nn l i=v→(∀ k,k<i→Nn l k≠v)→ZaC v l=i
 | [],i,h,_,_=>by simp at h
 | x :: l,0,_,h,_=>by rw [ZaC,Yf (show x=v from h)];rfl
 | x :: l,i+1,h,h1,h2=>by
  have h0:x≠v:=h2 0 ow
  have:=Zpi (l:=l) (i:=i) (by simpa using h) h1 fun k hk=>h2 (k+1) ow
  rw [ZaC,Yc h0,this,Yc ow];omega
theorem Zed {v:Int} {l:List Int} (h:v ∈ l):∃ i:Nat,ZaC v l=i∧i<l.length∧Nn l i=v ∧ ∀ k,k<i→Nn l k≠v:=by
 induction l with
 | nil=>cases h
 | cons x l ih=>
  by_cases hx:x=v
  ·exact ⟨0,by rw [ZaC,Yf hx];rfl,by simp,hx,fun k hk=>absurd hk (Y3 k)⟩
  ·obtain ⟨i,h1,h2,h3,h4⟩:=ih (by rcases Yj.1 h with h | h;exact absurd h.symm hx;exact h)
   refine ⟨i+1,by rw [ZaC,Yc hx,h1,Yc ow];omega,by simpa using h2,h3,fun k hk=>?_⟩
   cases k with
   | zero=>exact hx
   | succ k=>exact h4 k ow
theorem Zmq {v:Int} {l:List Int} (h:v ∉ l):ZaC v l = -1:=ZfZ fun k hk e=>h (e ▸ nth_mem hk)
theorem ZgY (v:Int) (l:List Int) : -1≤ZaC v l∧ZaC v l<l.length:=by
 by_cases h:v ∈ l
 ·obtain ⟨i,h1,h2,_⟩:=Zed h
  omega
 ·rw [Zmq h];omega
theorem ZqT {v:Int} {l:List Int} : 0≤ZaC v l ↔ v ∈ l:=by
 constructor
 ·intro h
  by_cases hm:v ∈ l
  ·exact hm
  ·rw [Zmq hm] at h;omega
 ·intro h
  obtain ⟨i,h1,_⟩:=Zed h
  omega
def ZvV (l:List Int) (j x:Int):List Int:=if 0≤j∧j≤l.length then l.take j.toNat++x :: l.drop j.toNat else l
def Zfz (l:List Int):Prop:=(∀ x ∈ l,1≤x∧x≤1048575)∧l.Nodup
instance (l:List Int):Decidable (Zfz l):=by unfold Zfz;exact inferInstance
theorem Zfz.take {l:List Int} (h:Zfz l) (i:Nat):Zfz (l.take i):=⟨fun x hx=>h.1 x (Yak hx),h.2.sublist (List.take_sublist i l)⟩
def leI (x y:Int):Bool:=decide (x≤y)
theorem Zpn {a b:List Int} : a.mergeSort leI=b.mergeSort leI ↔ a.Perm b:=by
 constructor
 ·intro h
  exact (YaU a leI).symm.trans (h ▸ YaU b leI)
 ·intro h
  have hs:∀ l:List Int,List.Pairwise (fun x y=>x≤y) (l.mergeSort leI):=fun l=>by
   have:=List.pairwise_mergeSort (le:=leI) (fun a b c h1 h2=>by simp [leI] at *;omega) (fun a b=>by simp [leI];omega) l
   exact this.imp fun h=>by simpa [leI] using h
  exact List.Perm.eq_of_pairwise (fun x y _ _ h1 h2=>Int.le_antisymm h1 h2) (hs a) (hs b) (((YaU a leI).trans h).trans (YaU b leI).symm)
def Zei (l:List Int) (tx:Int):Int×Bool:=
 if tx≠0∧ZaC tx l<0 then (0,false) else
 if (l.length:Int)≤(if tx=0 then -1 else ZaC tx l)+1 then (0,false) else (Nn l ((if tx=0 then -1 else ZaC tx l)+1).toNat,true)
def withO (l:List Int) (tx:Int):List Int:=if tx ∈ l then l else l ++ [tx]
def withoutO (l:List Int) (tx:Int):List Int:=l.filter fun x=>decide (x≠tx)
def ZrK (l:List Int) (tx place:Int):List Int×Int:=if ZaC tx l<0 then ([],3) else if ¬ (0≤place∧place<l.length) then ([],1) else (ZvV (l.eraseIdx (ZaC tx l).toNat) place tx,0)
def ZpR (a b:List Int):Prop:=Zfz a∧Zfz b∧a.Perm b
instance (a b:List Int):Decidable (ZpR a b):=by unfold ZpR;exact inferInstance
def ZjT:Go.Shelf.Ren:=⟨fun | 189=>92 | 125=>142 | 257=>141 | 128=>189 | 129=>190 | 294=>180 | 295=>181 | 296=>182 | 297=>183 | 298=>184 | 299=>185 | 216=>186 | 300=>187 | 301=>188 | 328=>212 | 329=>213 | 330=>214 | 331=>215 | 332=>216 | 215=>151 | 343=>240 | n=>n,fun | 28=>45 | 3=>3 | 46=>162 | 0=>0 | 51=>260 | 53=>175 | 4=>4 | 183=>253 | 182=>252 | 131=>43 | 5=>5 | 9=>9 | 218=>290 | 222=>294 | 228=>309 | 229=>107 | n=>n,fun  | n=>n⟩
theorem ZlD:Lays.n189 prog ZjT where
 mixed:=by kernel_rfl
 f125:=func142.trans (Y1 some kr)
 f128:=func189.trans (Y1 some kr)
 f129:=func190.trans (Y1 some kr)
 f189:=func92.trans (Y1 some kr)
 f215:=func151.trans (Y1 some kr)
 f216:=func186.trans (Y1 some kr)
 f257:=func141.trans (Y1 some kr)
 f294:=func180.trans (Y1 some kr)
 f295:=func181.trans (Y1 some kr)
 f296:=func182.trans (Y1 some kr)
 f297:=func183.trans (Y1 some kr)
 f298:=func184.trans (Y1 some kr)
 f299:=func185.trans (Y1 some kr)
 f300:=func187.trans (Y1 some kr)
 f301:=func188.trans (Y1 some kr)
 f328:=func212.trans (Y1 some kr)
 f329:=func213.trans (Y1 some kr)
 f330:=func214.trans (Y1 some kr)
 f331:=func215.trans (Y1 some kr)
 f332:=func216.trans (Y1 some kr)
 f343:=func240.trans (Y1 some kr)
 t0:=underlying0
 a0:=Tryz.isAgg0
 z0:=Tryz.sizeOf0
 v0:=Tryz.zeroValue0
 t3:=Ycl
 a3:=Tryz.isAgg3
 z3:=Tryz.sizeOf3
 v3:=Tryz.zeroValue3
 t4:=Ycs
 a4:=Tryz.isAgg4
 z4:=Tryz.sizeOf4
 v4:=Tryz.zeroValue4
 t5:=underlying5
 a5:=Tryz.isAgg5
 z5:=Tryz.sizeOf5
 v5:=Tryz.zeroValue5
 t9:=Yct
 a9:=Tryz.isAgg9
 z9:=Tryz.sizeOf9
 v9:=Tryz.zeroValue9
 t28:=Ycd
 a28:=Tryz.isAgg45
 z28:=Tryz.sizeOf45
 v28:=Tryz.zeroValue45
 t46:=Yck
 a46:=Tryz.isAgg162
 z46:=Tryz.sizeOf162
 v46:=Tryz.zeroValue162
 t51:=underlying260
 a51:=Tryz.isAgg260
 z51:=Tryz.sizeOf260
 v51:=Tryz.zeroValue260
 t53:=Ycu
 a53:=Tryz.isAgg175
 z53:=Tryz.sizeOf175
 v53:=Tryz.zeroValue175
 t131:=underlying43
 a131:=Tryz.isAgg43
 z131:=Tryz.sizeOf43
 v131:=Tryz.zeroValue43
 t182:=underlying252
 a182:=Tryz.isAgg252
 z182:=Tryz.sizeOf252
 v182:=Tryz.zeroValue252
 t183:=underlying253
 a183:=Tryz.isAgg253
 z183:=Tryz.sizeOf253
 v183:=Tryz.zeroValue253
 t218:=underlying290
 a218:=Tryz.isAgg290
 z218:=Tryz.sizeOf290
 v218:=Tryz.zeroValue290
 t222:=underlying294
 a222:=Tryz.isAgg294
 z222:=Tryz.sizeOf294
 v222:=Tryz.zeroValue294
 t228:=underlying309
 a228:=Tryz.isAgg309
 z228:=Tryz.sizeOf309
 v228:=Tryz.zeroValue309
 t229:=underlying107
 a229:=Tryz.isAgg107
 z229:=Tryz.sizeOf107
 v229:=Tryz.zeroValue107
theorem Zp0 (w:World):Calls prog 92 #[.slice none 0 0] w (fun e w'=>e = .returned (.tuple #[])∧w' = w):=
 Go.calls_of_every_depth fun D=>Go.Proofs.AnyS.slices_Sort_int_none_in ZlD D none 0 w
theorem Zmh {w:World} {y:Ys} : ∀ {l:List Int} {xs:List Value},PVs (l.flatMap Zm) xs w y→xs=l.map (Value.int .i64) ∧ ∀ x ∈ l,inR .i64 x
 | [],[],_=>⟨rfl,fun x hx=>by cases hx⟩
 | [],_ :: _,h=>h.elim
 | x :: l,[],h=>h.elim
 | x :: l,v :: xs,h=>by
  have h1:v = .int .i64 x∧inR .i64 x:=h.1.2
  obtain ⟨h2,h3⟩:=Zmh (l:=l) (xs:=xs) h.2
  exact ⟨by rw [h1.1,h2];rfl,fun z hz=>by rcases Yj.1 hz with rfl | hz;exact h1.2;exact h3 z hz⟩
theorem Zge {w:World} {y:Ys} : ∀ {l:List Int},(∀ x ∈ l,inR .i64 x)→PVs (l.flatMap Zm) (l.map (Value.int .i64)) w y
 | [],_=>trivial
 | x :: l,h=>⟨⟨rfl,rfl,h x (by simp)⟩,Zge fun z hz=>h z (by simp [hz])⟩
theorem ZsA {l:List Int} {j:Nat} (hj:j<l.length):(l.toArray)[j]! = l[j]:=by simp [hj]
theorem ZkO {w:World} {g n:Nat} {d:List Int} {os:Array Obj} {cur:Array Value} {e:TypeId} (hg:w.heap[g]? = some (.cells cur e (0,0))) (b:Nat) (hb:b<w.heap.size) :
  (Go.Sort.grow (Go.Sort.putRow (Value.int .i64) (Go.Sort.ahead w n) g 0 d.toArray) os).heap[b]? = if b=g then some (.cells (Go.Sort.putCells (Value.int .i64) 0 d.toArray cur) e (0,0)) else w.heap[b]?:=by
 unfold Go.Sort.grow Go.Sort.putRow Go.Sort.mapBlock Go.Sort.ahead
 simp only
 rw [Array.getElem?_append_left (by simpa using hb),Array.getElem?_modify]
 by_cases h:g=b
 ·subst h
  rw [Yf rfl,Yf rfl,hg];rfl
 ·rw [Yc h,Yc (fun e=>h e.symm)]
theorem ZsD {cur:Array Value} {d:List Int} (h:d.length≤cur.size):(Go.Sort.putCells (Value.int .i64) 0 d.toArray cur).toList.take d.length=d.map (Value.int .i64):=by
 apply Ya3
 ·simp [Go.Sort.putCells];omega
 ·intro i h1 h2
  have hi:i<d.length:=by simpa using h2
  simp [Go.Sort.putCells,hi]
theorem ZiV (v:Value) (l:List Int) (hlm:l.length≤1000000):FnG prog 92 1 [.is v] [Zw 3 1 Zm l v] (.tup []) (fun _=>[Zw 3 1 Zm (l.mergeSort leI) v]):=fun w F vs hw hle hvs hpr=>by
 match vs,hvs with
 | [u],hvs=>
  have hu:u=v:=hvs.1.1
  subst hu
  obtain ⟨xs,⟨hxl,hx⟩,hp,hf⟩:=hpr 0 _ rfl
  rcases hx with ⟨rfl,h0⟩ | ⟨g,cap,cur,rfl,_,hg,hn,hcap,hcs,hct⟩
  ·have hl:l = []:=YQ h0
   subst hl
   refine (Zp0 w).mono ?_
   rintro e w' ⟨rfl,rfl⟩
   refine ⟨.tuple #[],F,rfl,hw,⟨rfl,rfl,rfl,YL _,fun _ _ _=>rfl,fun _ _=>rfl,fun n hn b hb=>.inl ⟨n,hn,hb⟩⟩,hle,⟨[],rfl,tv⟩,fun i h hi=>?_⟩
   match i,hi with
   | 0,hi=>simp at hi;subst hi;exact ⟨xs,⟨hxl,.inl ⟨rfl,rfl⟩⟩,by simpa using hp,hf⟩
  ·have hgs:g<w.heap.size:=(YW.1 hg).1
   obtain ⟨hxe,hin⟩:=Zmh hp
   have hcl:l.length≤cur.size:=by rw [hcs];omega
   have hbig:l.length<4611686018427387904:=by omega
   have hcur:∀ j (hj:j<l.length),cur[j]? = some (.int .i64 l[j]):=fun j hj=>by
    have h1:(cur.toList.take (l.length*1))[j]? = (l.map (Value.int .i64))[j]?:=by rw [hct,hxe]
    rw [YbA ow] at h1
    simpa [hj] using h1
   have hH:Go.Sort.Holds (Value.int .i64) w g 0 l.toArray:=fun j hj=>by
    have hj':j<l.length:=by simpa using hj
    refine ⟨?_,?_⟩
    ·rw [ZsA hj',Y4,Z0 hg];exact hcur j hj'
    ·simp [World.frozen?,hg]
   have hcalls:Calls prog 92 #[.slice (some ⟨g,0,none⟩) l.length cap] w fun e w'=>e = .returned (.tuple #[]) ∧ ∃ n os,w' = Go.Sort.grow (Go.Sort.putRow (Value.int .i64) (Go.Sort.ahead w n) g 0 (l.mergeSort leI).toArray) os:=Go.Proofs.Any.slices_Sort_int ZlD g 0 cap l w hH hgs hbig
   refine hcalls.mono ?_
   rintro e w' ⟨rfl,n,os,rfl⟩
   have hsl:(l.mergeSort leI).length=l.length:=Ybu l
   have hheap:=fun b hb=>ZkO (n:=n) (d:=l.mergeSort leI) (os:=os) hg b hb
   have hsz:(Go.Sort.grow (Go.Sort.putRow (Value.int .i64) (Go.Sort.ahead w n) g 0 (l.mergeSort leI).toArray) os).heap.size=w.heap.size+os.size:=by simp [Go.Sort.ahead]
   have hfg:F 1 g:=(hf g).2 rfl
   have hst:Stp (List.range' 1 1) w F (Go.Sort.grow (Go.Sort.putRow (Value.int .i64) (Go.Sort.ahead w n) g 0 (l.mergeSort leI).toArray) os) F:=
    ⟨rfl,rfl,rfl,by rw [hsz];omega,fun b hb hn=>by
     rw [hheap b hb,Yc (fun e=>by subst e;exact hn 1 (by simp) hfg)],fun _ _=>rfl,fun n hn b hb=>.inl ⟨n,hn,hb⟩⟩
   refine ⟨.tuple #[],F,rfl,⟨hw.dis,fun n b hb=>by rw [hsz];have:=hw.bd n b hb;omega⟩,hst,hle,⟨[],rfl,tv⟩,fun i h hi=>?_⟩
   match i,hi with
   | 0,hi=>
    simp only [YbG,Y6] at hi
    subst hi
    refine ⟨(l.mergeSort leI).map (Value.int .i64),⟨by simp,.inr ⟨g,cap,_,by rw [hsl],Yy _,(hheap g hgs).trans (Yf Z),by omega,hcap,by simp [Go.Sort.putCells,hcs],?_⟩⟩,Zge fun x hx=>hin x ((YaU l leI).mem_iff.1 hx),hf⟩
    rw [Nat.mul_one];exact ZsD ow
structure Zg where
 src:Int
 dst:Int
 kind:Int
 key:Int
 deriving DecidableEq,Inhabited
structure Zb0 where
 tx:Int
 key:Int
 nth:Int
 deriving DecidableEq,Inhabited
def Zq (e:Zg):List PV:=[.int .i64 e.src,.int .i64 e.dst,.int .i64 e.kind,.int .i64 e.key]
def ZT (v:Zb0):List PV:=[.int .i64 v.tx,.int .i64 v.key,.int .i64 v.nth]
def noE:Zg:=⟨0,0,0,0⟩
def noV:Zb0:=⟨0,0,0⟩
def idB (n:Int):Bool:=decide (1≤n) && decide (n≤1048575)
def ZcK (v:Zb0):Bool:=if v.tx=0 then idB v.key && decide (v.nth=0) else ((idB v.tx && idB v.key) && decide (1≤v.nth)) && decide (v.nth≤4095)
def ZvU (v:Zb0):Int:=(v.tx*1048576+v.key)*4096+v.nth
def Zs5 (v:Zb0):Int×Int:=if ZcK v then (ZvU v,0) else (0,1)
theorem ZkV {n:Int} : idB n=true ↔ 1≤n∧n≤1048575:=by unfold idB;rw [Yt,Yq,Yq]
theorem Znf (k:Int):decide (k<1) = !decide (1≤k):=by rw [← decide_not];exact decide_eq_decide.2 ow
theorem ZpX (m k:Int):decide (m<k) = !decide (k≤m):=by rw [← decide_not];exact decide_eq_decide.2 ow
theorem or64 (x y:Nat) (hx:x<18446744073709551616) (hy:y<18446744073709551616):bits .or .u64 (x:Int) (y:Int)=((x ||| y:Nat):Int):=by
 have h1:(BitVec.ofInt 64 (x:Int)).toNat=x:=by rw [YaF];omega
 have h2:(BitVec.ofInt 64 (y:Int)).toNat=y:=by rw [YaF];omega
 show IntKind.wrap .u64 (((BitVec.ofInt 64 (x:Int) ||| BitVec.ofInt 64 (y:Int)).toNat:Nat):Int)=_
 rw [BitVec.toNat_or,h1,h2]
 exact Zam (by have:=Nat.or_lt_two_pow (n:=64) hx hy;omega)
theorem Zsd {q:Nat} (h:q<18446744073709551616):IntKind.wrap .u64 (q:Int)=q:=Zam ow
theorem ofN {q:Nat} (h:q<18446744073709551616):(BitVec.ofInt 64 (q:Int)).toNat=q:=by rw [YaF];omega
theorem ZsW {K:Int} (k:Nat) (hk:min K.toNat (IntKind.bits .u64)=k) (x y:Int) (hx:0≤x) (hy:0≤y) (hyk:y<2 ^ k) (hb:x*2 ^ k+y<18446744073709551616):bits .or .u64 (IntKind.wrap .u64 (x*2 ^ min K.toNat (IntKind.bits .u64))) y=x*2 ^ k+y:=by
 obtain ⟨X,rfl⟩:=Yae hx
 obtain ⟨Y,rfl⟩:=Yae hy
 rw [hk]
 have e2:(X:Int)*2 ^ k=((X*2 ^ k:Nat):Int):=by rw [Int.natCast_mul,Int.natCast_pow];rfl
 have hY:Y<2 ^ k:=by exact_mod_cast hyk
 have hor:X*2 ^ k ||| Y=X*2 ^ k+Y:=by rw [Nat.mul_comm];exact (Nat.two_pow_add_eq_or_of_lt hY X).symm
 rw [e2] at hb ⊢
 generalize X*2 ^ k=Q at hb hor ⊢
 rw [Zsd ow,or64 _ _ ow ow,hor]
 omega
theorem Zlm {v:Zb0} (h:ZcK v=true):bits .or .u64 (IntKind.wrap .u64 (bits .or .u64 (IntKind.wrap .u64 (IntKind.wrap .u64 v.tx*2 ^ min (20:Int).toNat (IntKind.bits .u64))) (IntKind.wrap .u64 v.key)*2 ^ min (12:Int).toNat (IntKind.bits .u64))) (IntKind.wrap .u64 v.nth)=ZvU v:=by
 have hb:(0≤v.tx∧v.tx≤1048575)∧(1≤v.key∧v.key≤1048575)∧(0≤v.nth∧v.nth≤4095):=by
  unfold ZcK at h
  split at h <;> simp only [Yt,Yq,ZkV] at h <;> omega
 obtain ⟨h1,h2,h3⟩:=hb
 rw [Zam (x:=v.tx) ow,Zam (x:=v.key) ow,Zam (x:=v.nth) ow]
 rw [ZsW 20 rfl v.tx v.key ow ow ow ow,ZsW 12 rfl (v.tx*2 ^ 20+v.key) v.nth ow ow ow ow]
 unfold ZvU
 omega
theorem mask {x:Int} (h:0≤x∧x≤18446744073709551615) {K:Int} (k:Nat) (hk:min K.toNat (IntKind.bits .u64)=k) (hk2:k<64):bits .and .u64 x (IntKind.wrap .u64 (IntKind.wrap .u64 (1*2 ^ min K.toNat (IntKind.bits .u64)) - 1))=x % 2 ^ k:=by
 obtain ⟨X,rfl⟩:=Yae h.1
 rw [hk,Int.one_mul]
 have hp1:2 ^ k<2 ^ 64:=Nat.pow_lt_pow_right (by decide) hk2
 have hp:2 ^ k<18446744073709551616:=hp1
 have hp0:0<2 ^ k:=Nat.two_pow_pos k
 have e2:(2:Int) ^ k=((2 ^ k:Nat):Int):=by norm_cast
 have e3:∀ q:Nat,0<q→(q:Int) - 1=((q - 1:Nat):Int):=fun q h=>by omega
 rw [e2,Zsd hp,e3 _ hp0,Zsd ow]
 show IntKind.wrap .u64 (((BitVec.ofInt 64 (X:Int) &&& BitVec.ofInt 64 ((2 ^ k - 1:Nat):Int)).toNat:Nat):Int)=_
 rw [Ybq,ofN ow,ofN ow,YaR]
 have hm:=Nat.mod_le X (2 ^ k)
 rw [Zsd ow]
 norm_cast
theorem Zwm (n:Int):FnP prog 178 [.int .i64 n] (.bool (idB n)):=by
 refine FnP.mk func178 Z ntmps178 Z fun B a w F V hfr G=>Ya ?_
 refine rZ G qB V [2,0] [0] fun G=>Ya ?_
 refine rZ G (qR rr (qf (Zbq .t qi) r1 qz (qR rr (qm Z Z Z Z (qk Z (fun h=>Zkb (.w h) qi) r2 qz (qf (ZD .t .t) r2 qz (qO rr qZ))))))) V [2] [0] fun G=>Yh ?_
 refine Zs hfr G Z Z Z .refl
theorem ZgX (v:Zb0):((!(decide (v.tx=0) && decide (v.nth=0)) && ((!idB v.tx || decide (v.nth<1)) || decide (4095<v.nth))) || !idB v.key) = !ZcK v:=by
 unfold ZcK
 by_cases h:v.tx=0
 ·rw [Yf h,Yag h]
  have hi:idB v.tx=false:=by rw [h];rfl
  rw [hi]
  cases decide (v.nth=0) <;> cases idB v.key <;> simp
 ·rw [Yc h,YF h,Znf,ZpX 4095]
  cases idB v.tx <;> cases idB v.key <;> cases decide (1≤v.nth) <;> cases decide (v.nth≤4095) <;> rfl
theorem Zn7 (v:Zb0):FnP prog 137 [.agg (ZT v)] (.tup [.int .u64 (Zs5 v).1,.int .i64 (Zs5 v).2]):=by
 refine FnP.mk func137 Z ntmps137 Z fun B a w F V hfr G=>Ya ?_
 refine Zb G (qx 101 r1 (qI (qI qZ))) V [3,2,1] [101,0] (fun _=>rfl) (fun _=>rfl) fun τ a w F G=>?_
 try dsimp only [RS.sub,SF.sub,CF.sub,csub,Anc.sub,List.map,zCF] at G
 generalize τ 1=v1 at G
 refine Za (Ya (rZ G (qg 0 101 r1 r1 (qa 101 r1 r1 (qf (o_eql .t qi) r1 qz (qR rr (qv 2 101 Z r2 r1 (qw 101 Z r2 r1 (qk Z (fun h=>o_eql (.w h) qi) r2 qz (qf (ZD .t .t) r2 qz (qO rr qZ))))))))) V [4,3,2,1] [101,0] fun G=>(Ya (Ya ?_))))
 refine Ze G (qR rr (qf (o_not .t) r1 qz (qR rr (qv 0 101 Z r2 r1 (qw 101 Z r2 r1 (qk Z (fun h=>oP (Zwm _) func178 (Args.one (.w h))) r2 qz (qk Z (fun h=>o_not (.w h)) r2 qz (qk Z (fun h=>oM (.w h)) r2 qz (ZA.cons (ZaE.cond2 Z Z (fun h=>Z8 (off:=2) 101 .is kr (by rfl))) r2 r1 (ZA.cons (ZaE.cond2 Z Z (fun h=>ZbT (ag:=false) (sz:=1) 101 (.w h .adr) kr kr kr (by rfl))) r2 r1 (ZA.cons (ZaE.cond2 Z Z (fun h=>ZaD (.w h) qi)) r2 qz (qk Z (fun h=>Zal (.w h) (.wc h)) r3 qz (qk Z (fun h=>oM (.w h)) r2 qz (ZA.cons (ZaE.cond2 Z Z (fun h=>Z8 (off:=2) 101 .is kr (by rfl))) r2 r1 (ZA.cons (ZaE.cond2 Z Z (fun h=>ZbT (ag:=false) (sz:=1) 101 (.w h .adr) kr kr kr (by rfl))) r2 r1 (ZA.cons (ZaE.cond2 Z Z (fun h=>ZaG (.w h) qi)) r2 qz (qk Z (fun h=>Zal (.w h) (.wc h)) r3 qz (qf (ZD .t .t) r2 qz (qR rr (qv 1 101 Z r2 r1 (qw 101 Z r2 r1 (qk Z (fun h=>oP (Zwm _) func178 (Args.one (.w h))) r2 qz (qk Z (fun h=>o_not (.w h)) r2 qz (qf (Zal .t .t) r2 qz qZ)))))))))))))))))))))))) V [36,3,2,1] [101,0] Z Z fun a w F G=>?_
 try dsimp only [List.map,xD,xE,xT,xU,ldSF] at G
 refine Za (Zc G Z (fun hc0=>?_) (fun hc0=>?_))
 ·rw [ZgX] at hc0
  have hr:ZcK v=false:=by simpa using hc0
  have hg:Zs5 v=(0,1):=by unfold Zs5;rw [hr];rfl
  refine Ya (rZ G (qI (qI qZ)) V [3,2,1] [101,0] fun G=>(Yh (Zk ?_)))
  refine Z5 hfr G Z (.tmp Z (.tmp Z .nil)) (.two (.int (by rw [hg];try exact Zlm hr)) (.int (by rw [hg])))
 rw [ZgX] at hc0
 have hr:ZcK v=true:=by simpa using hc0
 have hg:Zs5 v=(ZvU v,0):=Yf hr
 refine Ye (Za (Ya (rZ G (qg 0 101 r1 r1 (qa 101 r1 r1 (qf (o_conv Ycu kr .t) r1 qz (qf (o_shl .t qi (by decide)) r1 qz (qg 1 101 r1 r1 (qa 101 r1 r1 (qf (o_conv Ycu kr .t) r1 qz (qf (ZsO .t .t) r2 qz (qf (o_shl .t qi (by decide)) r1 qz (qg 2 101 r1 r1 (qa 101 r1 r1 (qf (o_conv Ycu kr .t) r1 qz (qf (ZsO .t .t) r2 qz (qO rr (qI qZ))))))))))))))) V [3,2] [0] fun G=>Yh ?_)))
 refine Z5 hfr G Z (.tmp Z (.tmp Z .nil)) (.two (.int (by rw [hg];try exact Zlm hr)) (.int (by rw [hg])))
def Zdb (x y:Int):Int:=if x<y then -1 else if y<x then 1 else 0
def Ze9 (e:Zg):List Int:=[e.src,e.kind,e.key,e.dst]
def ZgG:List Int→List Int→Int
 | x :: xs,y :: ys=>if x=y then ZgG xs ys else Zdb x y
 | _,_=>0
def cmpE (e f:Zg):Int:=ZgG (Ze9 e) (Ze9 f)
theorem ZcM {x y:Int} : Zdb x y=0 ↔ x=y:=by unfold Zdb;split <;> (try split) <;> omega
theorem Zn3:∀ (k:Nat) (xs ys:List Int),k<xs.length→k<ys.length→(∀ j,j<k→Nn xs j=Nn ys j)→Nn xs k≠Nn ys k→ZgG xs ys=Zdb (Nn xs k) (Nn ys k)
 | _,[],_,h,_,_,_=>by simp at h
 | _,_ :: _,[],_,h,_,_=>by simp at h
 | 0,x :: xs,y :: ys,_,_,_,hn=>by
  have hn':x≠y:=hn
  unfold ZgG
  rw [Yc hn']
  rfl
 | k+1,x :: xs,y :: ys,h1,h2,hj,hn=>by
  have h0:x=y:=hj 0 ow
  unfold ZgG
  rw [Yf h0]
  exact Zn3 k xs ys (by simpa using h1) (by simpa using h2) (fun j h=>hj (j+1) ow) hn
theorem Zmc:∀ (xs ys:List Int),xs.length=ys.length→(∀ j,j<xs.length→Nn xs j=Nn ys j)→ZgG xs ys=0
 | [],[],_,_=>rfl
 | [],_ :: _,h,_=>by simp at h
 | _ :: _,[],h,_=>by simp at h
 | x :: xs,y :: ys,h,hj=>by
  have h0:x=y:=hj 0 (by simp)
  unfold ZgG
  rw [Yf h0]
  exact Zmc xs ys (by simpa using h) (fun j h=>hj (j+1) (by simpa using h))
theorem Zqv (n:Int):FnP prog 151 [.int .i64 n] (.bool false):=by
 refine FnP.mk func151 Z ntmps151 Z fun B a w F V hfr G=>Ya ?_
 refine rZ G qB V [2,0] [0] fun G=>Ya ?_
 refine rZ G (qR rr (qR rr (qf (o_neq .t .t) r2 qz (qO rr qZ)))) V [2] [0] fun G=>Yh ?_
 refine Zs hfr G Z Z Z (.bool (by simp))
theorem ZvI (m n:Int):FnP prog 110 [.int .i64 m,.int .i64 n] (.int .i64 (Zdb m n)):=by
 refine FnP.mk func110 Z ntmps110 Z fun B a w F V hfr G=>Ya ?_
 refine rZ G (qI qZ) V [4,1,0] [0] fun G=>Ya ?_
 refine rZ G (qR rr (qf (oP (Zqv _) func151 (Args.one .t)) r1 qz (qO rr qZ))) V [5,4,1,0] [0] fun G=>Ya ?_
 refine rZ G (qR rr (qf (oP (Zqv _) func151 (Args.one .t)) r1 qz (qO rr qZ))) V [6,5,4,1,0] [0] fun G=>(Ya (Ya ?_))
 refine rZ G (qR rr qZ) V [11,6,4,1,0] [0] fun G=>?_
 refine Zc G Z (fun hc0=>?_) (fun hc0=>?_)
 ·cases hc0
 refine Ye (Za (Ya (Ya (rZ G (qR rr qZ) V [13,4,1,0] [0] fun G=>?_))))
 refine Zc G Z (fun hc1=>?_) (fun hc1=>?_)
 ·cases hc1
 refine Ye (Za (Ya (Ya (rZ G (qR rr (qR rr (qL r2))) V [16,4,1,0] [0] fun G=>?_))))
 refine Zc G Z (fun hc2=>?_) (fun hc2=>?_)
 ·have hg:Zdb m n = -1:=Yf (Yr hc2)
  refine Ya (rZ G (qI qZ) V [4,1,0] [0] fun G=>(Yh (Zk ?_)))
  refine Zs hfr G Z Z Z (.int (by rw [hg]))
 have h1:¬ m<n:=YH hc2
 refine Ye (Za (Ya (Ya (rZ G (qR rr (qR rr (qf (ZaG .t .t) r2 qz qZ))) V [19,4] [0] fun G=>?_))))
 refine Zc G Z (fun hc3=>?_) (fun hc3=>?_)
 ·have hg:Zdb m n=1:=by unfold Zdb;rw [Yc h1,Yf (Yr hc3)]
  refine Ya (rZ G (qI qZ) V [4] [0] fun G=>(Yh (Zk ?_)))
  refine Zs hfr G Z Z Z (.int (by rw [hg]))
 have hg:Zdb m n=0:=by unfold Zdb;rw [Yc h1,Yc (YH hc3)]
 refine Ye (Za (Ya (rZ G (qI qZ) V [4] [0] fun G=>Yh ?_)))
 refine Zs hfr G Z Z Z (.int (by rw [hg]))
theorem Zox (d e:Zg):FnP prog 174 [.agg (Zq d),.agg (Zq e)] (.int .i64 (cmpE d e)):=by
 refine FnP.mk func174 Z ntmps174 Z fun B a w F V hfr G=>Ya ?_
 refine Zb G (qx 101 r1 (qx 102 r1 (qI qZ))) V [4,3,2] [102,101,0] (fun _=>rfl) (fun _=>rfl) fun τ a w F G=>?_
 try dsimp only [RS.sub,SF.sub,CF.sub,csub,Anc.sub,List.map,zCF] at G
 generalize τ 2=v2,τ 3=v3 at G
 refine Za (Ya (Zb G (qg 0 101 r1 r1 (qa 101 r1 r1 (qg 2 101 r1 r1 (qa 101 r1 r1 (qg 3 101 r1 r1 (qa 101 r1 r1 (qg 1 101 r1 r1 (qa 101 r1 r1 (qf (Zbr (sz:=1) (r:=[(0,.tmp 10),(1,.tmp 12),(2,.tmp 14),(3,.tmp 16)]) (zs:=[.int .i64 0,.int .i64 0,.int .i64 0,.int .i64 0]) (pl:=[(0,1),(1,1),(2,1),(3,1)]) underlying289 kr kr Z (.one Z .t one_int kr (.one Z .t one_int kr (.one Z .t one_int kr (.one Z .t one_int kr .nil)))) (by rfl)) r4 qz (qf (oH [.int .i64 0,.int .i64 0,.int .i64 0,.int .i64 0] 103) trivial qz (qS 4 103 r2 r1 qZ))))))))))) V [5,4,3] [103,102,0] (fun _=>rfl) (fun _=>rfl) fun τ a w F G=>?_))
 try dsimp only [RS.sub,SF.sub,CF.sub,csub,Anc.sub,List.map,Zf,xL,xM,Nat.reduceAdd,xD,xE,xT,xU,xC,xN,zCF,ldSF] at G
 generalize τ 5=v5 at G
 refine Za (Ya (Zb G (qg 0 102 r1 r1 (qa 102 r1 r1 (qg 2 102 r1 r1 (qa 102 r1 r1 (qg 3 102 r1 r1 (qa 102 r1 r1 (qg 1 102 r1 r1 (qa 102 r1 r1 (qf (Zbr (sz:=1) (r:=[(0,.tmp 19),(1,.tmp 21),(2,.tmp 23),(3,.tmp 25)]) (zs:=[.int .i64 0,.int .i64 0,.int .i64 0,.int .i64 0]) (pl:=[(0,1),(1,1),(2,1),(3,1)]) underlying289 kr kr Z (.one Z .t one_int kr (.one Z .t one_int kr (.one Z .t one_int kr (.one Z .t one_int kr .nil)))) (by rfl)) r4 qz (qf (oH [.int .i64 0,.int .i64 0,.int .i64 0,.int .i64 0] 104) trivial qz (qS 4 104 r2 r1 qZ))))))))))) V [6,5,4] [104,103,0] (fun _=>rfl) (fun _=>rfl) fun τ a w F G=>?_))
 try dsimp only [RS.sub,SF.sub,CF.sub,csub,Anc.sub,List.map,Zf,xL,xM,Nat.reduceAdd,xD,xE,xT,xU,xC,xN,zCF,ldSF] at G
 generalize τ 6=v6 at G
 refine Za (Ya (Ya (rZ G (qJ qZ) V [27,6,5,4] [104,103,0] fun G=>Yg ?_)))
 replace G:=G.turn 103 Z (r':=.ob (.val v5) (ZnG 289 (fun x=>PV.int .i64 x) (Ze9 d))) (fun τ w f y h=>ZhR (f:=(fun x=>PV.int .i64 x)) (l:=Ze9 d) τ w f y h)
 replace G:=G.turn 104 Z (r':=.ob (.val v6) (ZnG 289 (fun x=>PV.int .i64 x) (Ze9 e))) (fun τ w f y h=>ZhR (f:=(fun x=>PV.int .i64 x)) (l:=Ze9 e) τ w f y h)
 obtain ⟨F,G⟩:=G.nM [27,6,5] [104,103,0]
 refine Zbf (σ:=Nat) (fun s=>(⟨[(5,.pv (.is v5)),(6,.pv (.is v6)),(27,.pv (.int .i64 s))],[(0,frame B),(103,.ob (.val v5) (ZnG 289 (fun x=>PV.int .i64 x) (Ze9 d))),(104,.ob (.val v6) (ZnG 289 (fun x=>PV.int .i64 x) (Ze9 e)))]⟩:En)) (fun s=>s≤4 ∧ ∀ j,j<s→Nn (Ze9 d) j=Nn (Ze9 e) j) (fun s=>4 - s) 0 G ⟨by decide,fun j hj=>absurd hj (Y3 j)⟩ ?_
 clear G;intro k a w F hC G
 try dsimp only at hC
 try dsimp only at G
 obtain ⟨hk,hq⟩:=hC
 refine Ya (rZ G (qf (ZaD .t qi) r1 qz qZ) V [28,27,6,5] [104,103,0] fun G=>Ya ?_)
 refine Zc G Z (fun hc0=>?_) (fun hc0=>?_)
 ·have hkl:k<4:=by simp at hc0;omega
  refine Ye (Za (Ya (Yg (Ya (rZ G (qR rr (qO rr qZ)) V [27,7,6,5] [104,103,0] fun G=>Ya ?_)))))
  refine Zv G (qR rr (qf (Zb8 (sz:=1) 103 underlying289 kr .is .t ow ow) r2 r1 (qf (Zi1 103 .adr kr kr (by simp only [Ze9,Yl,Yw];omega)) r1 r1 (qR rr (qf (Zb8 (sz:=1) 104 underlying289 kr .is .t ow ow) r2 r1 (qf (Zi1 104 .adr kr kr (by simp only [Ze9,Yl,Yw];omega)) r1 r1 (qf (oP (ZvI _ _) func110 (Args.two .t .t)) r2 qz (qO rr qZ)))))))) V [27,8,6,5] [104,103,0] Z Z fun a w F G=>?_
  try dsimp only [List.map,xD,xE,xT,xU,ldSF] at G
  simp only [Y4,Nat.mul_one,Yb] at G
  refine Za (Ya (rZ G (qR rr (qf (o_neq .t qi) r1 qz qZ)) V [38,27,8,6,5] [104,103,0] fun G=>?_))
  refine Zc G Z (fun hc1=>?_) (fun hc1=>?_)
  ·have hne:Zdb (Nn (Ze9 d) k) (Nn (Ze9 e) k)≠0:=by simpa using hc1
   have hg:cmpE d e=Zdb (Nn (Ze9 d) k) (Nn (Ze9 e) k):=Zn3 k _ _ hkl hkl hq (fun e=>hne (ZcM.2 e))
   refine Ya (rZ G (qR rr (qO rr qZ)) V [27,6,5,4] [104,103,0] fun G=>(Yh (Zz (Zk (Zk (Zz (Zk ?_)))))))
   refine Zs hfr G Z Z Z (.int (by rw [hg]))
  have hqk:Nn (Ze9 d) k=Nn (Ze9 e) k:=ZcM.1 (by simpa using hc1)
  refine Ye (Zh (Za (rZ G (qp r1 (qR rr qZ)) V [27,6,5] [104,103,0] fun G=>?_)))
  replace G:=G.ent (i:=27) (s':=.pv (.int .i64 ((k+1:Nat):Int))) Z (.int (Zd ow))
  obtain ⟨F,G⟩:=G.nM [27,6,5] [104,103,0]
  exact ⟨k+1,F,⟨by omega,fun j hj=>by rcases Y0 (Y7 hj) with h | h;exact hq j h;rw [h];exact hqk⟩,G,by omega⟩
 have hg:cmpE d e=0:=Zmc _ _ rfl fun j hj=>hq j (by simp only [Ze9,Yl,Yw] at hj;simp at hc0;omega)
 refine Yx (Zi (Zi (Zn (Za (Ya (rZ G (qI qZ) V [4] [104,103,0] fun G=>Yh ?_))))))
 refine Zs hfr G Z Z Z (.int (by rw [hg]))
theorem ZtI (x:Int) (hx:0≤x∧x<256):FnP prog 190 [.int .u64 x] (.any):=by
 refine FnP.mk func190 Z ntmps190 Z fun B a w F V hfr G=>?_
 have u8w:IntKind.wrap .u8 x=x:=ZgB ⟨by simp [IntKind.min,IntKind.signed,IntKind.bits];omega,by simp [IntKind.max,IntKind.signed,IntKind.bits];omega⟩
 have hx256:x<(256:Nat):=by omega
 refine Ya (rZ G (qI qZ) V [2,0] [0] fun G=>(Ya (Ya ?_)))
 refine rZ G (qR rr (qf (Zbq .t qi) r1 qz qZ)) V [4,2,0] [0] fun G=>?_
 refine Zc G Z (fun hc0=>?_) (fun hc0=>?_)
 ·simp at hc0;omega
 refine Ye (Za (Ya (Ya (rZ G (qR rr (qf (Zbq .t qi) r1 qz qZ)) V [8,2,0] [0] fun G=>?_))))
 refine Zc G Z (fun hc1=>?_) (fun hc1=>?_)
 ·simp at hc1;omega
 refine Ye (Za (Ya (Ya (rZ G (qR rr (qf (Zbq .t qi) r1 qz qZ)) V [14,2,0] [0] fun G=>?_))))
 refine Zc G Z (fun hc2=>?_) (fun hc2=>?_)
 ·simp at hc2;omega
 refine Ye (Za (Ya (rZ G (qR rr (qR rr (qf (o_conv underlying5 kr .t) r1 qz (qf (Znb Yct (.cs kr) .t (by rw [u8w];omega) (by rw [u8w];exact hx256)) r1 qz (qf (o_conv Ycl kr .t) r1 qz (qf (o_add .t .t) r2 qz (qO rr qZ))))))) V [2] [0] fun G=>Yh ?_)))
 refine Zs hfr G Z Z Z .any
theorem ZsF (x:Int) (hx:0≤x∧x<256):FnP prog 142 [.int .u64 x] (.any):=by
 refine FnP.mk func142 Z ntmps142 Z fun B a w F V hfr G=>Ya ?_
 refine rZ G (qI qZ) V [2,0] [0] fun G=>Ya ?_
 refine wp_cond (by rfl) ?_
 refine Ye (Za (Ya (rZ G (qR rr (qf (oP (ZtI x hx) func190 (Args.one .t)) r1 qz (qO rr qZ))) V [2] [0] fun G=>Yh ?_)))
 refine Zs hfr G Z Z Z .any
theorem Zq7 (v:Value) (l:List Zg) (hl:l.length≤12) (hs:∀ j,0<j→j<l.length→¬ cmpE (Nn l j) (Nn l (j - 1))<0):FnG prog 232 1 [.is v,.int .i64 0,.int .i64 l.length,.is (.func (.func 174) #[] #[])] [Zw 42 4 Zq l v] (.tup []) (fun _=>[Zw 42 4 Zq l v]):=by
 refine FnG.mk func232 Z ntmps232 Z kr fun B F0 a w F V hG G=>?_
 have G:=G.turn 1 Z (r':=RS.ob (.val v) (Zw 42 4 Zq l)) (fun _ _ _ _ h=>h)
 obtain ⟨F,G⟩:=G.nM [3,2,1,0] [1,0]
 refine Ya (rZ G (qR rr (qp r1 (qO rr qZ))) V [8,3,2,1,0] [1,0] fun G=>Yg ?_)
 replace G:=G.ent (i:=8) (s':=.pv (.int .i64 ((1:Nat):Int))) Z (.int (by decide))
 obtain ⟨F,G⟩:=G.nM [8,3,2,1,0] [1,0]
 refine Zbf (σ:=Nat) (fun s=>(⟨[(0,.pv (.is v)),(1,.pv (.int .i64 0)),(2,.pv (.int .i64 l.length)),(3,.pv (.is (.func (.func 174) #[] #[]))),(8,.pv (.int .i64 s))],[(0,frame B),(1,.ob (.val v) (Zw 42 4 Zq l))]⟩:En)) (fun s=>1≤s∧s≤13) (fun s=>13 - s) 1 G ⟨by decide,by decide⟩ ?_
 clear G;intro i a w F hC G
 try dsimp only at hC
 try dsimp only at G
 obtain ⟨hi1,hi2⟩:=hC
 have hw:IntKind.wrap .i64 ((i:Int) - 1)=((i - 1:Nat):Int):=by rw [Zy ow];omega
 refine Ya (Ya (rZ G (qR rr (qR rr (qL r2))) V [14,8,3,2,1,0] [1,0] fun G=>?_))
 refine Zc G Z (fun hc0=>?_) (fun hc0=>?_)
 ·have hil:i<l.length:=by simp at hc0;omega
  refine Ye (Za (Ya (Yg (Ya (rZ G (qR rr (qO rr qZ)) V [9,8,3,2,1,0] [1,0] fun G=>Yg ?_)))))
  obtain ⟨F,G⟩:=G.nM [9,8,3,2,1,0] [1,0]
  refine Zbf (σ:=Unit) (fun s=>(⟨[(0,.pv (.is v)),(1,.pv (.int .i64 0)),(2,.pv (.int .i64 l.length)),(3,.pv (.is (.func (.func 174) #[] #[]))),(8,.pv (.int .i64 i)),(9,.pv (.int .i64 i))],[(0,frame B),(1,.ob (.val v) (Zw 42 4 Zq l))]⟩:En)) (fun s=>True) (fun s=>0) () G trivial ?_
  clear G;intro u a w F hC G
  try dsimp only at hC
  try dsimp only at G
  refine Ya (Ya (Zv G (qR rr (qR rr (qf (ZaG .t .t) r2 qz (qR rr (qm Z Z Z Z (qm Z Z Z Z (qm Z Z Z Z (qk Z (fun h=>o_indexAddr_row (sz:=4) 1 (.mk Yce kr) (.w h .is) (.w h) ow ow (by rfl)) r3 r1 (qk Z (fun h=>Zt (ag:=true) (sz':=4) (sz:=4) 1 (.w h) (by intro x;rfl) ow kr kr kr) r2 r1 (qm Z Z Z Z (qm Z Z Z Z (qk Z (fun h=>o_sub (.w h) qi) r2 qz (qk Z (fun h=>o_indexAddr_row (sz:=4) 1 (.mk Yce kr) (.w h .is) (.w h) (by rw [hw];omega) (by rw [hw];omega) (by rfl)) r3 r1 (qk Z (fun h=>Zt (ag:=true) (sz':=4) (sz:=4) 1 (.w h) (by intro x;rfl) (by rw [hw];omega) kr kr kr) r2 r1 (qk Z (fun h=>ZqU (.w h) (Zox _ _) func174 Z kr (Args.two (.pagg (.w h)) (.pagg (.w h)))) r4 qz (qk Z (fun h=>ZaD (.w h) qi) r2 qz (qf (ZD .t .t) r2 qz qZ))))))))))))))))) V [34,9,8,3,2,1,0] [1,0] Z Z fun a w F G=>?_))
  try dsimp only [List.map,xD,xE,xT,xU,ldSF] at G
  refine Za (Zc G Z (fun hc1=>?_) (fun hc1=>?_))
  ·simp only [Yt,Yq,Yb,hw] at hc1
   exact (hs i ow ow hc1.2).elim
  refine Yx (Zi (Zi (Zn (Zh (Za (rZ G (qR rr (qp r1 (qO rr qZ))) V [8,3,2,1,0] [1,0] fun G=>?_))))))
  replace G:=G.ent (i:=8) (s':=.pv (.int .i64 ((i+1:Nat):Int))) Z (.int (Zd ow))
  obtain ⟨F,G⟩:=G.nM [8,3,2,1,0] [1,0]
  exact ⟨i+1,F,⟨by omega,by omega⟩,G,by omega⟩
 refine Yx (Zi (Zi (Zn ?_)))
 have G:=G.turn 1 Z (r':=RS.hp (Zw 42 4 Zq l v)) (fun _ _ _ _ h=>h)
 refine Zac hG G Z .nil Za9.none rfl
theorem Zwf (v:Value) (l:List Zg) (hl:l.length≤12) (hs:∀ j,0<j→j<l.length→¬ cmpE (Nn l j) (Nn l (j - 1))<0):FnG prog 211 1 [.is v,.int .i64 0,.int .i64 l.length,.any,.is (.func (.func 174) #[] #[])] [Zw 42 4 Zq l v] (.tup []) (fun _=>[Zw 42 4 Zq l v]):=by
 refine FnG.mk func211 Z ntmps211 Z kr fun B F0 a w F V hG G=>?_
 have G:=G.turn 1 Z (r':=RS.ob (.val v) (Zw 42 4 Zq l)) (fun _ _ _ _ h=>h)
 obtain ⟨F,G⟩:=G.nM [4,3,2,1,0] [1,0]
 refine Ya (rZ G qB V [10,4,3,2,1,0] [1,0] fun G=>Ya ?_)
 refine rZ G qB V [11,10,4,3,2,1,0] [1,0] fun G=>Yg ?_
 obtain ⟨F,G⟩:=G.nM [4,2,1,0] [1,0]
 refine Zbf (σ:=Unit) (fun s=>(⟨[(0,.pv (.is v)),(1,.pv (.int .i64 0)),(2,.pv (.int .i64 l.length)),(4,.pv (.is (.func (.func 174) #[] #[])))],[(0,frame B),(1,.ob (.val v) (Zw 42 4 Zq l))]⟩:En)) (fun s=>True) (fun s=>0) () G trivial ?_
 clear G;intro u a w F hC G
 try dsimp only at hC
 try dsimp only at G
 refine Yg (Ya (Ze G (qR rr (qR rr (qf (o_sub .t .t) r2 qz (qO rr qZ)))) V [12,4,2,1,0] [1,0] Z Z fun a w F G=>?_))
 skip
 refine Za (Ya (Ya (rZ G (qR rr (qf (Zkb .t qi) r1 qz qZ)) V [25,12,4,2,1,0] [1,0] fun G=>?_)))
 refine Zc G Z (fun hc0=>?_) (fun hc0=>?_)
 ·refine Ya (rZ G (qR rr (qR rr (qR rr (qR rr (qf (Zbi 1 (Zq7 v l hl hs) func232 Z kr (Args.four .t .t .t .t)) r4 r1 qZ))))) V [12,4,2,1,0] [1,0] fun G=>(Yh (Zk (Zz (Zk (Zz ?_))))))
  have G:=G.turn 1 Z (r':=RS.hp (Zw 42 4 Zq l v)) (fun _ _ _ _ h=>h)
  refine Zac hG G Z .nil Za9.none rfl
 rw [Zy ow] at hc0
 simp at hc0
 omega
theorem Zm9 (v:Value) (l:List Zg) (hl:l.length≤12) (hs:∀ j,0<j→j<l.length→¬ cmpE (Nn l j) (Nn l (j - 1))<0):FnG prog 173 1 [.is v,.is (.func (.func 174) #[] #[])] [Zw 42 4 Zq l v] (.tup []) (fun _=>[Zw 42 4 Zq l v]):=by
 refine FnG.mk func173 Z ntmps173 Z kr fun B F0 a w F V hG G=>?_
 have G:=G.turn 1 Z (r':=RS.ob (.val v) (Zw 42 4 Zq l)) (fun _ _ _ _ h=>h)
 obtain ⟨F,G⟩:=G.nM [1,0] [1,0]
 refine Ya (Ze G (qR rr (qf (ZX 1 Yce .is) r1 r1 (qO rr qZ))) V [4,1,0] [1,0] Z Z fun a w F G=>?_)
 have hxl:0≤IntKind.wrap .u64 (l.length:Int)∧IntKind.wrap .u64 (l.length:Int)<256:=by rw [Zaj];omega
 refine Za (Ze G (qR rr (qR rr (qR rr (qf (o_conv Yck kr .t) r1 qz (qf (oP (ZsF _ hxl) func142 (Args.one .t)) r1 qz (qR rr (qf (Zbi 1 (Zwf v l hl hs) func211 Z kr (Args.five .t qi .t .t .t)) r4 r1 qZ))))))) V [] [1,0] Z Z fun a w F G=>?_)
 have G:=G.turn 1 Z (r':=RS.hp (Zw 42 4 Zq l v)) (fun _ _ _ _ h=>h)
 refine Zac hG G Z .nil Za9.none rfl
theorem ZrF (w:World) (yy:Ys):PVs (Zq noE) [.int .i64 0,.int .i64 0,.int .i64 0,.int .i64 0] w yy:=by
 have h:inR .i64 0:=by simp [inR,IntKind.min,IntKind.max,IntKind.signed,IntKind.bits]
 exact ⟨⟨rfl,rfl,h⟩,⟨rfl,rfl,h⟩,⟨rfl,rfl,h⟩,⟨rfl,rfl,h⟩,tv⟩
theorem ZcS:inR .i64 0:=by show IntKind.min .i64≤0∧0≤IntKind.max .i64;decide
def Zr {α:Type} [DecidableEq α]:List α→List α
 | []=>[]
 | [x]=>[x]
 | x :: y :: l=>if x=y then Zr (y :: l) else x :: Zr (y :: l)
theorem ZcI {α:Type} [DecidableEq α] (a b:α):∀ l:List α,Zr (l ++ [a,b])=if a=b then Zr (l ++ [a]) else Zr (l ++ [a]) ++ [b]
 | []=>by
  show (if a=b then [b] else a :: [b])=if a=b then [a] else [a] ++ [b]
  split
  ·rename_i h;rw [h]
  ·rfl
 | [x]=>by
  have ih:=ZcI a b []
  show (if x=a then Zr ([] ++ [a,b]) else x :: Zr ([] ++ [a,b]))=if a=b then (if x=a then Zr ([] ++ [a]) else x :: Zr ([] ++ [a])) else (if x=a then Zr ([] ++ [a]) else x :: Zr ([] ++ [a])) ++ [b]
  rw [ih]
  by_cases h1:x=a <;> by_cases h2:a=b <;> simp [h1,h2]
 | x :: y :: l=>by
  have ih:=ZcI a b (y :: l)
  show (if x=y then Zr (y :: l ++ [a,b]) else x :: Zr (y :: l ++ [a,b]))=if a=b then (if x=y then Zr (y :: l ++ [a]) else x :: Zr (y :: l ++ [a])) else (if x=y then Zr (y :: l ++ [a]) else x :: Zr (y :: l ++ [a])) ++ [b]
  rw [ih]
  by_cases h1:x=y <;> by_cases h2:a=b <;> simp [h1,h2]
theorem Zbu {α:Type} [DecidableEq α] [Inhabited α] {l:List α} {p:Nat} (h1:1≤p) (h2:p<l.length):Zr (l.take (p+1))=if Nn l (p - 1)=Nn l p then Zr (l.take p) else Zr (l.take p) ++ [Nn l p]:=by
 obtain ⟨q,rfl⟩:∃ q,p=q+1:=⟨p - 1,by omega⟩
 rw [Zo h2,Zo (show q<l.length by omega),YN]
 exact ZcI _ _ _
theorem Zb2 {α:Type} [DecidableEq α]:∀ {l:List α},l.length≤1→Zr l=l
 | [],_=>rfl
 | [x],_=>rfl
 | x :: y :: l,h=>by simp at h
structure STO {α:Type} (lt:α→α→Bool):Prop where
 irr:∀ a,lt a a=false
 tr:∀ a b c,lt a b=true→lt b c=true→lt a c=true
 tot:∀ a b,lt a b=false→lt b a=false→a=b
section
variable {α:Type} {lt:α→α→Bool}
theorem STO.asym (h:STO lt) {a b:α} (k:lt a b=true):lt b a=false:=by
 cases e:lt b a with
 | false=>rfl
 | true=>have:=h.tr a b a k e;rw [h.irr] at this;cases this
theorem STO.ne (h:STO lt) {a b:α} (k:lt a b=true):a≠b:=fun e=>by subst e;rw [h.irr] at k;cases k
theorem STO.le (h:STO lt) {a b c:α} (h1:lt a b=true) (h2:lt c b=false):lt a c=true:=by
 cases e:lt a c with
 | true=>rfl
 | false=>
  cases e2:lt c a with
  | true=>have:=h.tr c a b e2 h1;rw [h2] at this;cases this
  | false=>have:=h.tot a c e e2;subst this;rw [h1] at h2;cases h2
abbrev ZoZ (lt:α→α→Bool) (l:List α):Prop:=l.Pairwise fun a b=>lt a b=true
theorem Zfu (h:STO lt):∀ {a b:List α},ZoZ lt a→ZoZ lt b→(∀ x,x ∈ a ↔ x ∈ b)→a=b
 | [],[],_,_,_=>rfl
 | [],y :: b,_,_,k=>by have:=(k y).2 (by simp);cases this
 | x :: a,[],_,_,k=>by have:=(k x).1 (by simp);cases this
 | x :: a,y :: b,ha,hb,k=>by
  have ha':=Yo.1 ha
  have hb':=Yo.1 hb
  have e:x=y:=by
   rcases Yj.1 ((k x).1 (by simp)) with e | e
   ·exact e
   ·rcases Yj.1 ((k y).2 (by simp)) with e2 | e2
    ·exact e2.symm
    ·have h1:=h.asym (hb'.1 x e);rw [ha'.1 y e2] at h1;cases h1
  subst e
  congr 1
  refine Zfu h ha'.2 hb'.2 fun z=>⟨fun hz=>?_,fun hz=>?_⟩
  ·rcases Yj.1 ((k z).1 (by simp [hz])) with e | e
   ·exact absurd e.symm (h.ne (ha'.1 z hz))
   ·exact e
  ·rcases Yj.1 ((k z).2 (by simp [hz])) with e | e
   ·exact absurd e.symm (h.ne (hb'.1 z hz))
   ·exact e
theorem Zld (h:STO lt) (l:List α):(l.mergeSort fun x y=>!lt y x).Pairwise (fun a b=>lt b a=false):=by
 have:=List.pairwise_mergeSort (le:=fun x y=>!lt y x) (fun a b c h1 h2=>by
  simp at h1 h2 ⊢
  cases e:lt c a with
  | false=>rfl
  | true=>have:=h.le e h1;rw [h2] at this;cases this) (fun a b=>by
  cases e:lt b a with
  | false=>simp
  | true=>simp [h.asym e]) l
 exact this.imp fun h=>by simpa using h
variable [DecidableEq α]
def ZeH (lt:α→α→Bool) (e:α):List α→Bool→List α
 | [],d=>if d then [] else [e]
 | x :: l,d=>(if d=false∧lt x e=false then [e] else [])++(if x=e then [] else [x])++ZeH lt e l (d || !lt x e)
def Zm8 (lt:α→α→Bool) (l:List α) (e:α):List α:=ZeH lt e l false
theorem Zjy (lt:α→α→Bool) (e:α):∀ (l:List α) (d:Bool),(ZeH lt e l d).length≤l.length+(if d then 0 else 1)
 | [],d=>by cases d <;> simp [ZeH]
 | x :: l,d=>by
  have ih:=Zjy lt e l (d || !lt x e)
  have h1:(if x=e then ([]:List α) else [x]).length≤1:=by split <;> simp
  have h2:(if d=false∧lt x e=false then [e] else ([]:List α)).length+(if (d || !lt x e)=true then 0 else 1)≤if d=true then 0 else 1:=by
   cases d <;> cases lt x e <;> simp
  rw [ZeH,Yd,Yd,Yl]
  omega
theorem ZeO (h:STO lt) {e:α} : ∀ {l:List α},(∀ x ∈ l,lt e x=true)→ZeH lt e l true=l
 | [],_=>rfl
 | x :: l,k=>by
  have h1:=k x (by simp)
  rw [ZeH,Yb0,ZeO h fun y hy=>k y (by simp [hy]),Yc (by simp),Yc (h.ne h1).symm]
  rfl
theorem ZkY (h:STO lt) {e:α} : ∀ {l:List α},ZoZ lt l→ZoZ lt (Zm8 lt l e) ∧ ∀ x,x ∈ Zm8 lt l e ↔ x ∈ l∨x=e
 | [],_=>by simp [Zm8,ZeH]
 | y :: l,k=>by
  have h':=Yo.1 k
  unfold Zm8
  cases h1:lt y e with
  | true=>
   have e1:ZeH lt e (y :: l) false=y :: ZeH lt e l false:=by
    rw [ZeH,Yc (by rw [h1];simp),Yc (h.ne h1),h1];rfl
   have ih:=ZkY h (e:=e) h'.2
   rw [e1]
   refine ⟨Yo.2 ⟨fun p hp=>?_,ih.1⟩,fun x=>?_⟩
   ·rcases (ih.2 p).1 hp with hp | rfl
    ·exact h'.1 p hp
    ·exact h1
   ·have:=ih.2 x
    unfold Zm8 at this
    simp only [Yj,this,or_assoc]
  | false=>
   by_cases h2:y=e
   ·subst h2
    rw [ZeH,Yf ⟨rfl,h1⟩,Yf rfl,h1,show (false || !false)=true from rfl,ZeO h h'.1]
    exact ⟨k,fun x=>by simp;intro e;exact .inl e⟩
   ·have h3:lt e y=true:=by
     cases e3:lt e y with
     | true=>rfl
     | false=>exact absurd (h.tot y e h1 e3) h2
    rw [ZeH,Yf ⟨rfl,h1⟩,Yc h2,h1,show (false || !false)=true from rfl,ZeO h fun x hx=>h.tr e y x h3 (h'.1 x hx)]
    refine ⟨Yo.2 ⟨fun p hp=>?_,k⟩,fun x=>by simp;constructor <;> (rintro (h | h | h) <;> simp [h])⟩
    rcases Yj.1 hp with rfl | hp
    ·exact h3
    ·exact h.tr e y p h3 (h'.1 p hp)
def ZbD (lt:α→α→Bool) (l:List α):List α:=l.foldl (Zm8 lt) []
theorem ZbM (h:STO lt) (l:List α):ZoZ lt (ZbD lt l) ∧ ∀ x,x ∈ ZbD lt l ↔ x ∈ l:=by
 have key:∀ (l acc:List α),ZoZ lt acc→ZoZ lt (l.foldl (Zm8 lt) acc) ∧ ∀ x,x ∈ l.foldl (Zm8 lt) acc ↔ x ∈ acc∨x ∈ l:=by
  intro l
  induction l with
  | nil=>intro acc k;exact ⟨k,fun x=>by simp⟩
  | cons y l ih=>
   intro acc k
   have h1:=ZkY h (e:=y) k
   have h2:=ih (Zm8 lt acc y) h1.1
   refine ⟨h2.1,fun x=>?_⟩
   rw [Yan,h2.2 x,h1.2 x,Yj,or_assoc]
 have:=key l [] List.Pairwise.nil
 exact ⟨this.1,fun x=>by rw [show ZbD lt l=l.foldl (Zm8 lt) [] from rfl,this.2 x];simp⟩
theorem ZcZ (h:STO lt):∀ {l:List α},l.Pairwise (fun a b=>lt b a=false)→ZoZ lt (Zr l) ∧ ∀ x,x ∈ Zr l ↔ x ∈ l
 | [],_=>by simp [Zr]
 | [x],_=>by simp [Zr]
 | x :: y :: l,k=>by
  have h':=Yo.1 k
  have ih:=ZcZ h h'.2
  show ZoZ lt (if x=y then Zr (y :: l) else x :: Zr (y :: l)) ∧ ∀ z,z ∈ (if x=y then Zr (y :: l) else x :: Zr (y :: l)) ↔ _
  split
  ·rename_i e
   subst e
   exact ⟨ih.1,fun z=>by rw [ih.2 z];simp⟩
  ·rename_i e
   have hxy:lt x y=true:=by
    cases e2:lt x y with
    | true=>rfl
    | false=>exact absurd (h.tot x y e2 (h'.1 y (by simp))) e
   refine ⟨Yo.2 ⟨fun z hz=>?_,ih.1⟩,fun z=>by rw [Yj,ih.2 z,← Yj]⟩
   rcases Yj.1 ((ih.2 z).1 hz) with rfl | hz2
   ·exact hxy
   ·exact h.le hxy ((Yo.1 h'.2).1 z hz2)
theorem Zi9 (h:STO lt) (l:List α):Zr (l.mergeSort fun x y=>!lt y x)=ZbD lt l:=
 Zfu h (ZcZ h (Zld h l)).1 (ZbM h l).1 fun x=>by rw [(ZcZ h (Zld h l)).2,(ZbM h l).2];exact (YaU l _).mem_iff
end
theorem Zvb (d e:Zg):(decide (d.src=e.src) && (decide (d.dst=e.dst) && (decide (d.kind=e.kind) && (decide (d.key=e.key) && true))))=decide (d=e):=by
 cases d;cases e
 rw [Yai]
 simp
def ltE (a b:Zg):Bool:=decide (cmpE a b<0)
theorem Zml (a b:Zg):(cmpE a b<0 ↔ a.src<b.src∨a.src=b.src∧(a.kind<b.kind∨a.kind=b.kind∧(a.key<b.key∨a.key=b.key∧a.dst<b.dst))):=by
 unfold cmpE Ze9 ZgG
 by_cases h1:a.src=b.src
 ·rw [Yf h1]
  unfold ZgG
  by_cases h2:a.kind=b.kind
  ·rw [Yf h2]
   unfold ZgG
   by_cases h3:a.key=b.key
   ·rw [Yf h3]
    unfold ZgG
    by_cases h4:a.dst=b.dst
    ·rw [Yf h4];unfold ZgG;simp;omega
    ·rw [Yc h4];unfold Zdb;split <;> (try split) <;> omega
   ·rw [Yc h3];unfold Zdb;split <;> (try split) <;> omega
  ·rw [Yc h2];unfold Zdb;split <;> (try split) <;> omega
 ·rw [Yc h1];unfold Zdb;split <;> (try split) <;> omega
theorem Ztf (a b:Zg):ltE a b=true ↔ a.src<b.src∨a.src=b.src∧(a.kind<b.kind∨a.kind=b.kind∧(a.key<b.key∨a.key=b.key∧a.dst<b.dst)):=by unfold ltE;rw [Yq,Zml]
theorem ZkE (a b:Zg):ltE a b=false ↔ ¬ (a.src<b.src∨a.src=b.src∧(a.kind<b.kind∨a.kind=b.kind∧(a.key<b.key∨a.key=b.key∧a.dst<b.dst))):=by unfold ltE;rw [YD,Zml]
theorem Zb4:STO ltE where
 irr a:=by rw [ZkE];omega
 tr a b c h1 h2:=by rw [Ztf] at *;omega
 tot a b h1 h2:=by
  rw [ZkE] at h1 h2
  cases a;cases b
  simp only [Zg.mk.injEq] at *
  omega
def ZcP (l:List Zg):List Zg:=l.mergeSort fun x y=>!ltE y x
theorem Zm6 (l:List Zg):Zr (ZcP l)=ZbD ltE l:=Zi9 Zb4 l
theorem ZjN (l:List Zg):(ZcP l).length=l.length:=Ybu l
theorem Zct {α:Type} [Inhabited α] {p:α→Bool} {l:List α} {j:Nat} (h:j<l.length):(l.take (j+1)).filter p=(l.take j).filter p++if p (Nn l j)=true then [Nn l j] else []:=by
 rw [Zo h,Yaa]
 congr 1
 by_cases e:p (Nn l j)=true
 ·rw [Yf e];simp [e]
 ·rw [Yc e];simp at e;simp [e]
def Z3 {α:Type} [Inhabited α] (p:α→Bool) (l:List α):Int:=match l.findIdx? p with
 | some i=>i
 | none=>-1
theorem Zbm {α:Type} [Inhabited α] {p:α→Bool} {l:List α} (h:∀ k,k<l.length→p (Nn l k)=false):Z3 p l = -1:=by
 unfold Z3
 have:l.findIdx? p=none:=List.findIdx?_eq_none_iff.2 fun x hx=>by
  obtain ⟨k,hk,rfl⟩:=Ya0.1 hx
  rw [← nth_eq hk];exact h k hk
 rw [this]
theorem Zcl {α:Type} [Inhabited α] {p:α→Bool} {l:List α} {i:Nat} (hi:i<l.length) (h:p (Nn l i)=true) (h2:∀ k,k<i→p (Nn l k)=false):Z3 p l=i:=by
 unfold Z3
 have:l.findIdx? p=some i:=List.findIdx?_eq_some_iff_getElem.2 ⟨hi,by rw [← nth_eq hi];exact h,fun k hk=>by rw [← nth_eq ow,h2 k hk];decide⟩
 rw [this]
theorem Zaw {α:Type} [Inhabited α] (p:α→Bool) (l:List α):(Z3 p l = -1 ∧ ∀ k,k<l.length→p (Nn l k)=false) ∨ ∃ i:Nat,Z3 p l=i∧i<l.length∧p (Nn l i)=true ∧ ∀ k,k<i→p (Nn l k)=false:=by
 cases h:l.findIdx? p with
 | none=>
  left
  refine ⟨by unfold Z3;rw [h],fun k hk=>?_⟩
  have:=List.findIdx?_eq_none_iff.1 h l[k] (Ya2 hk)
  rw [nth_eq hk];exact this
 | some i=>
  right
  obtain ⟨h1,h2,h3⟩:=List.findIdx?_eq_some_iff_getElem.1 h
  refine ⟨i,by unfold Z3;rw [h],h1,by rw [nth_eq h1];exact h2,fun k hk=>?_⟩
  rw [nth_eq ow]
  simpa using h3 k hk
theorem Zdh {α:Type} [Inhabited α] {p:α→Bool} {l:List α} (h:∀ k,k<l.length→p (Nn l k)=false):l.filter (fun x=>!p x)=l:=by
 rw [Ybj]
 intro x hx
 obtain ⟨k,hk,rfl⟩:=Ya0.1 hx
 rw [← nth_eq hk,h k hk];rfl
theorem ZeC {α:Type} [Inhabited α] {p:α→Bool} {l:List α} {i:Nat} (hi:i<l.length) (hip:p (Nn l i)=true) (hib:∀ k,k<i→p (Nn l k)=false):l.take i=(l.take (i+1)).filter fun x=>!p x:=by
 have h:(l.take i).filter (fun x=>!p x)=l.take i:=Zdh fun k hk=>by
  rw [Yi] at hk
  rw [nth_eq (by rw [Yi];omega),List.getElem_take,← nth_eq ow]
  exact hib k ow
 rw [Zct (p:=fun x=>!p x) hi,hip,h];simp
theorem Zfe (l:List Int) (hl:l.length≤1000000):FnG prog 42 1 [.sl Zm l] [.star []] (PV.one) (fun v=>[Zw 3 1 Zm l v]):=by
 refine FnG.mk func42 Z ntmps42 Z kr fun B F0 a w F V hG G=>?_
 obtain ⟨F,G⟩:=G.nM [0] [0]
 refine Ya (rZ G (qC qZ) V [2,0] [0] fun G=>(Ya (Ya ?_)))
 refine Ze G (qR rr (qf (ZbA Ycd .t) r1 qz qZ)) V [4,2,0] [0] Z Z fun a w F G=>?_
 obtain ⟨β4,hβ4,G⟩:=G.pickBool 4 rfl
 obtain ⟨F,G⟩:=G.nM [4,2,0] [0]
 refine Za (Zc G Z (fun hc0=>?_) (fun hc0=>?_))
 ·have hg:l = []:=hβ4 hc0
  refine Ya (rZ G (qC qZ) V [2,0] [0] fun G=>(Yh (Zk ?_)))
  have G:=G.fresh 1 rfl
  have G:=G.turn 1 Z (ZaA (T:=3) (sz:=1) (R:=Zm))
  have G:=G.turn 1 Z (r':=RS.hp (Zw 3 1 Zm l (.slice none 0 0))) (fun _ _ _ _ h=>by rw [hg];exact h)
  refine Z2 (h':=fun v=>Zw 3 1 Zm l v) hG G Z (.tmp Z .nil) (.one .one) rfl
 have hg:l = [] ++ l:=rfl
 refine Ye (Za (Ya (Zb G (qf (Za4 (R:=Zm) (sz:=1) 101 Ycd kr) trivial qz (qR rr (qf (ZP (sz:=1) (bs:=8) 101 (.mk' Ycd kr kr) (by intro x;rfl) .same (.sl .t) (by simp only [Yd,Yw];omega) (by decide)) ⟨rfl,rfl,tv⟩ ⟨rfl,tv⟩ (qO rr qZ)))) V [2] [101,0] (fun _=>rfl) (fun _=>rfl) fun τ a w F G=>?_)))
 try dsimp only [RS.sub,SF.sub,CF.sub,csub,Anc.sub,List.map,Zf,xL,xM,Nat.reduceAdd,xD,xE,xT,xU,xC,xN,zCF,Zm] at G
 generalize τ 7=v7 at G
 refine Za (Yh ?_)
 obtain ⟨F,G⟩:=G.rename 101 1 Z rfl
 have G:=G.turn 1 Z (r':=RS.hp (Zw 3 1 Zm l v7)) (fun _ _ _ _ h=>by rw [hg];exact h)
 refine Z2 (h':=fun v=>Zw 3 1 Zm l v) hG G Z (.tmp Z .nil) (.one .one) rfl
theorem ZtP (l : List Int) (p : Int → Bool) (f : FuncId) (fn : Func) (cps : List PV) (hf : prog.funcs[f]? = some fn) (hb : fn.body.isSome = true) (hnn : (fn.name == "runtime.NumGoroutine") = false) (hw : ∀ x, FnP prog f (.int .i64 x :: cps) (.bool (p x))) : FnP prog 193 [.sl Zm l, .clos f cps] (.int .i64 (Z3 p l)) := by
 refine FnP.mk func193 Z ntmps193 Z fun B a w F V hfr G=>?_
 have hll:=Sat.lenSl G (i:=0) rfl
 refine Ya (rZ G (qI qZ) V [4,1,0] [0] fun G=>(Ya (Ya ?_)))
 refine rZ G (qR rr (qu Ycd r1 (qJ qZ))) V [8,7,4,1,0] [0] fun G=>Yg ?_
 refine Zj (σ:=(Nat)) [0,1,4,7] [0] (fun s=>[(8,.pv (.int .i64 (s:Int)))]) (fun s=>[]) (fun s=>s≤l.length∧(∀ k,k<s→p (Nn l k)=false)) (fun s=>l.length - s) (0) G ⟨rfl,rfl,rfl,rfl,rfl,tv⟩ ⟨rfl,tv⟩ ⟨Yy _,fun k hk=>absurd hk (Y3 k)⟩ ?_
 clear G;intro i a w F hC G
 try dsimp only at hC
 obtain ⟨F,G⟩:=G.nM [8,7,4,1,0] [0]
 try dsimp only at G
 obtain ⟨hi,hq⟩:=hC
 refine Ya (rZ G (qL r2) V [9,8,7,4,1,0] [0] fun G=>Ya ?_)
 refine Zc G Z (fun hc0=>?_) (fun hc0=>?_)
 ·skip
  have hil:i<l.length:=by simp at hc0;omega
  refine Ye (Za (Ya (Yg (Ya (rZ G (qR rr (qO rr qZ)) V [8,7,5,4,1,0] [0] fun G=>Ya ?_)))))
  refine Ze G (qR rr (qR rr (qR rr (qy 1 Ycd r2 (qf (oR false 1 .t) r1 qz (qf (ZM (avs:=[.int .i64 (Nn l i)]) .t (hw (Nn l i)) hf hb hnn (Args.one .t)) r2 qz qZ)))))) V [16,8,7,5,4,1,0] [0] Z Z fun a w F G=>?_
  try simp only [Yb] at G
  refine Za (Zc G Z (fun hc1=>?_) (fun hc1=>?_))
  ·skip
   have hg:(i:Int)=Z3 p l:=(Zcl hil hc1 hq).symm
   refine Ya (rZ G (qR rr (qO rr qZ)) V [8,7,4,1,0] [0] fun G=>(Yh (Zz (Zk (Zk (Zz (Zk ?_)))))))
   refine Zs hfr G Z Z Z (.int hg)
  have hne:p (Nn l i)=false:=hc1
  refine Ye (Zh (Za (rZ G (qp r1 (qR rr qZ)) V [8,7,4,1,0] [0] fun G=>?_)))
  replace G:=G.ent (i:=8) (s':=.pv (.int .i64 ((i+1:Nat):Int))) Z (.int (Zd ow))
  obtain ⟨F,G⟩:=G.nM [7,4,1,0,8] [0]
  exact ⟨(i+1),F,⟨by omega,(fun k hk=>by rcases Y0 (Y7 hk) with h | h;exact hq k h;rw [h];exact hne)⟩,G,by omega⟩
 have hil:i=l.length:=by simp at hc0;omega
 have hg : -1=Z3 p l:=(Zbm fun k hk=>hq k (by simp at hc0;omega)).symm
 refine Yx (Zi (Zi (Zn (Za (Ya (rZ G (qI qZ) V [4] [0] fun G=>Yh ?_))))))
 refine Zs hfr G Z Z Z (.int hg)
theorem ZtO (v : Value) (l : List Int) (hll : l.length ≤ 1000000) (p : Int → Bool) (f : FuncId) (fn : Func) (cps : List PV) (hf : prog.funcs[f]? = some fn) (hb : fn.body.isSome = true) (hnn : (fn.name == "runtime.NumGoroutine") = false) (hw : ∀ x, FnP prog f (.int .i64 x :: cps) (.bool (p x))) : FnG prog 149 1 [.is v, .clos f cps] [Zw 3 1 Zm l v] (PV.one) (fun v => [Zw 3 1 Zm (l.filter fun x => !p x) v]) := by
 refine FnG.mk func149 Z ntmps149 Z kr fun B F0 a w F V hG G=>?_
 replace G:=G.turn 1 Z (r':=.ob (.val v) (Zw 3 1 Zm l)) (fun _ _ _ _ h=>h)
 refine Ya (rZ G (qC qZ) V [4,1,0] [1,0] fun G=>Ya ?_)
 refine rZ G (qR rr (qR rr (qf (OpC.lendRow 1 [8] (oP (ZtP l p f fn cps hf hb hnn hw) func193 (Args.two .t .t)) ⟨rfl,tv,tv⟩ (.pv (fun _ _ _ _ h=>h)) trivial (by rfl)) r2 r1 (qO rr qZ)))) V [5,4,1,0] [1,0] fun G=>(Ya (Ya ?_))
 refine rZ G (qR rr (qf (o_eql .t qi) r1 qz qZ)) V [12,5,4,1,0] [1,0] fun G=>?_
 refine Zc G Z (fun hc0=>?_) (fun hc0=>?_)
 ·skip
  have hno:=(Zaw p l).resolve_right (by rintro ⟨i,h1,_⟩;simp at hc0;omega)
  have hg:(l.filter fun x=>!p x)=l:=Zdh hno.2
  refine Ya (rZ G (qR rr (qO rr qZ)) V [5,4,1,0] [1,0] fun G=>(Yh (Zk ?_)))
  have G:=G.turn 1 Z (r':=RS.hp (Zw 3 1 Zm (l.filter fun x=>!p x) v)) (fun _ _ _ _ h=>by rw [hg];exact h)
  refine Z2 (h':=fun v=>Zw 3 1 Zm (l.filter fun x=>!p x) v) hG G Z (.tmp Z .nil) (.one .one) rfl
 obtain ⟨i0,hi0,hi1,hip,hib⟩:=(Zaw p l).resolve_left (by rintro ⟨h1,_⟩;simp [h1] at hc0)
 have hst0:=ZeC hi1 hip hib
 refine Ye (Za (Ya (Ya (rZ G (qR rr (qp r1 (qO rr qZ))) V [6,5,4,1,0] [1,0] fun G=>Yg ?_))))
 have hC0:i0<i0+1∧i0+1≤l.length∧l.length=l.length∧l.take i0=(l.take (i0+1)).filter (fun x=>!p x) ∧ ∀ k,i0+1≤k→k<l.length→Nn l k=Nn l k:=⟨by omega,by omega,rfl,hst0,fun k _ _=>rfl⟩
 replace G:=G.ent (i:=5) (s':=.pv (.int .i64 (i0:Int))) Z (.int hi0)
 replace G:=G.ent (i:=6) (s':=.pv (.int .i64 ((i0+1:Nat):Int))) Z (.int (by rw [hi0,Zy ow];omega))
 refine Zj (σ:=Nat×Nat×List Int) [0,1,4] [0] (fun s=>[(5,.pv (.int .i64 (s.1:Int))),(6,.pv (.int .i64 (s.2.1:Int)))]) (fun s=>[(1,.ob (.val v) (Zw 3 1 Zm s.2.2))]) (fun s=>s.1<s.2.1∧s.2.1≤l.length∧s.2.2.length=l.length∧s.2.2.take s.1=(l.take s.2.1).filter (fun x=>!p x) ∧ ∀ k,s.2.1≤k→k<l.length→Nn s.2.2 k=Nn l k) (fun s=>l.length - s.2.1) ((i0),(i0+1),(l)) G ⟨rfl,rfl,rfl,rfl,rfl,tv⟩ ⟨rfl,rfl,tv⟩ hC0 ?_
 clear G;intro s a w F hC G
 obtain ⟨i,j,l1⟩:=s
 try dsimp only at hC
 obtain ⟨F,G⟩:=G.nM [6,5,4,1,0] [1,0]
 try dsimp only at G
 obtain ⟨hij,hj,hll1,htk,hrest⟩:=hC
 refine Ya (Ya (rZ G (qR rr (qR rr (qf (ZX 1 Ycd .is) r1 r1 (qL r2)))) V [19,6,5,4,1,0] [1,0] fun G=>?_))
 refine Zc G Z (fun hc1=>?_) (fun hc1=>?_)
 ·skip
  have hjl:j<l.length:=by simp at hc1;omega
  have hnj:Nn l1 j=(Nn l j):=hrest j (YL _) hjl
  have hfs:=Zct (p:=fun x=>!p x) hjl
  refine Ye (Za (Ya (Yg (Ya (Ze G (qR rr (qR rr (qf (o_indexAddr_row (sz:=1) 1 (.mk Ycd kr) .is .t ow ow (by rfl)) r2 r1 (qf (Zt (ag:=false) (sz':=1) (sz:=1) 1 .t (by intro x;rfl) ow kr kr kr) r1 r1 (qO rr qZ))))) V [7,6,5,4,1,0] [1,0] Z Z fun a w F G=>?_)))))
  try simp only [Yb] at G
  rw [hnj] at G
  refine Za (Ya (rZ G (qR rr (qR rr (qf (ZM (avs:=[.int .i64 (Nn l j)]) .t (hw (Nn l j)) hf hb hnn (Args.one .t)) r2 qz (qf (o_not .t) r1 qz qZ)))) V [29,7,6,5,4,1,0] [1,0] fun G=>?_))
  refine Zc G Z (fun hc2=>?_) (fun hc2=>?_)
  ·skip
   have hp:p (Nn l j)=false:=by simpa using hc2
   obtain ⟨i2,hi2e⟩:∃ i2,i2=i+1:=⟨_,rfl⟩
   have hi2:IntKind.wrap .i64 ((i:Int)+1)=(i2:Int):=by rw [hi2e];exact Zd ow
   obtain ⟨l2,hl2⟩:∃ l2,l2=l1.set i (Nn l j):=⟨_,rfl⟩
   have hC2:i2<j+1∧j+1≤l.length∧l2.length=l.length∧l2.take i2=(l.take (j+1)).filter (fun x=>!p x) ∧ ∀ k,j+1≤k→k<l.length→Nn l2 k=Nn l k:=⟨by omega,by omega,by rw [hl2,YJ];exact hll1,by rw [hl2,hi2e,hfs,hp,← htk,Zo (by rw [YJ];omega),YbH (YL _),nth_eq (by rw [YJ];omega),Yba];rfl,fun k hk hk2=>by rw [hl2,nth_eq (by rw [YJ];omega),YbI ow,← nth_eq ow];exact hrest k ow hk2⟩
   refine Ya (Ze G (qR rr (qR rr (qR rr (qf (o_indexAddr_row (sz:=1) 1 (.mk Ycd kr) .is .t ow ow (by rfl)) r2 r1 (qf (ZH (R:=Zm) (sz:=1) (v:=(Nn l j)) 1 .t (by intro x;rfl) ow .t Z one_int kr) r2 r1 qZ))))) V [6,5,4,1,0] [1,0] Z Z fun a w F G=>?_)
   try simp only [Yb] at G
   rw [← hl2] at G
   refine Za (Ze G (qR rr (qp r1 (qO rr qZ))) V [6,5,4,1,0] [1,0] Z Z fun a w F G=>Zh (Za ?_))
   refine rZ G (qR rr (qp r1 (qO rr qZ))) V [6,5,4,1,0] [1,0] fun G=>?_
   have hmu:l.length - (j+1)<l.length - j:=by omega
   replace G:=G.ent (i:=5) (s':=.pv (.int .i64 (i2:Int))) Z (.int hi2)
   replace G:=G.ent (i:=6) (s':=.pv (.int .i64 ((j+1:Nat):Int))) Z (.int (Zd ow))
   obtain ⟨F,G⟩:=G.nM [4,1,0,6,5] [0,1]
   exact ⟨((i2),(j+1),(l2)),F,hC2,G,hmu⟩
  have hp:p (Nn l j)=true:=by simpa using hc2
  obtain ⟨i2,hi2e⟩:∃ i2,i2=i:=⟨_,rfl⟩
  have hi2:(i:Int)=(i2:Int):=by rw [hi2e]
  obtain ⟨l2,hl2⟩:∃ l2,l2=l1:=⟨_,rfl⟩
  rw [← hl2] at G
  have hC2:i2<j+1∧j+1≤l.length∧l2.length=l.length∧l2.take i2=(l.take (j+1)).filter (fun x=>!p x) ∧ ∀ k,j+1≤k→k<l.length→Nn l2 k=Nn l k:=⟨by omega,by omega,by rw [hl2];exact hll1,by rw [hl2,hi2e,hfs,hp,htk];simp,fun k hk hk2=>by rw [hl2];exact hrest k ow hk2⟩
  refine Ye (Zh (Za (rZ G (qR rr (qp r1 (qO rr qZ))) V [6,5,4,1,0] [1,0] fun G=>?_)))
  have hmu:l.length - (j+1)<l.length - j:=by omega
  replace G:=G.ent (i:=5) (s':=.pv (.int .i64 (i2:Int))) Z (.int hi2)
  replace G:=G.ent (i:=6) (s':=.pv (.int .i64 ((j+1:Nat):Int))) Z (.int (Zd ow))
  obtain ⟨F,G⟩:=G.nM [4,1,0,6,5] [0,1]
  exact ⟨((i2),(j+1),(l2)),F,hC2,G,hmu⟩
 have hjl:j=l.length:=by simp at hc1;omega
 have hil2:i<l.length:=by omega
 have hg:(l.filter fun x=>!p x)=(l1.take i++List.replicate (l1.length - i) (0:Int)).take i:=by rw [YY (by rw [Yi];omega),YaS,Yb7,htk,hjl,Yz]
 refine Yx (Zi (Zi (Zn (Za (Ya (rZ G (qR rr (qR rr (qf (Z6 (sz:=1) 1 (.mk Ycd kr) .is .t ow ow) r2 r1 (qf (ZbF (R:=Zm) (z:=(0:Int)) (zs:=[.int .i64 0]) 1 Ycd kr Z Z (fun _ _=>⟨⟨rfl,rfl,ZcS⟩,tv⟩) (by intro x;rfl) .t (by simp;omega)) r1 r1 qZ)))) V [5,4,0] [1,0] fun G=>Ya ?_))))))
 refine Zb G (qR rr (qR rr (qf (ZbI (sz:=1) 1 (.mk Ycd kr) (by intro x;rfl) .is .t ow (by simp;omega)) r2 r1 (qO rr qZ)))) V [4] [1,0] (fun _=>rfl) (fun _=>rfl) fun τ a w F G=>?_
 try dsimp only [RS.sub,SF.sub,CF.sub,csub,Anc.sub,List.map,Zm] at G
 generalize τ 41=v41 at G
 refine Za (Yh ?_)
 have G:=G.turn 1 Z (r':=RS.hp (Zw 3 1 Zm (l.filter fun x=>!p x) v41)) (fun _ _ _ _ h=>by rw [hg];exact h)
 refine Z2 (h':=fun v=>Zw 3 1 Zm (l.filter fun x=>!p x) v) hG G Z (.tmp Z .nil) (.one .one) rfl
theorem ZkD (v:Value) (l:List Int) (hll:l.length≤1000000):FnG prog 179 1 [.is v] [Zw 3 1 Zm l v] (PV.one) (fun v=>[Zw 3 1 Zm (Zr l) v]):=by
 refine FnG.mk func179 Z ntmps179 Z kr fun B F0 a w F V hG G=>?_
 replace G:=G.turn 1 Z (r':=.ob (.val v) (Zw 3 1 Zm l)) (fun _ _ _ _ h=>h)
 refine Ya (rZ G (qC qZ) V [2,0] [1,0] fun G=>(Ya (Ya ?_)))
 refine rZ G (qR rr (qf (ZX 1 Ycd .is) r1 r1 (qf (ZaD .t qi) r1 qz qZ))) V [8,2,0] [1,0] fun G=>?_
 refine Zc G Z (fun hc0=>?_) (fun hc0=>?_)
 ·have hg:(Zr l)=l:=Zb2 (by simp at hc0;omega)
  refine Ya (rZ G (qR rr (qO rr qZ)) V [2,0] [1,0] fun G=>(Yh (Zk ?_)))
  have G:=G.turn 1 Z (r':=RS.hp (Zw 3 1 Zm (Zr l) v)) (fun _ _ _ _ h=>by rw [hg];exact h)
  refine Z2 (h':=fun v=>Zw 3 1 Zm (Zr l) v) hG G Z (.tmp Z .nil) (.one .one) rfl
 have hl2:2≤l.length:=by simp at hc0;omega
 refine Ye (Za (Ya (Ya (rZ G (qI qZ) V [3,2,0] [1,0] fun G=>Yg ?_))))
 refine Zj (σ:=Nat) [0,2] [0,1] (fun s=>[(3,.pv (.int .i64 (s:Int)))]) (fun s=>[]) (fun s=>1≤s∧s≤l.length∧Zr (l.take s)=l.take s) (fun s=>l.length - s) (1) G ⟨rfl,rfl,rfl,tv⟩ ⟨rfl,rfl,tv⟩ ⟨by omega,by omega,Zb2 (by rw [Yi];omega)⟩ ?_
 clear G;intro k a w F hC G
 try dsimp only at hC
 obtain ⟨F,G⟩:=G.nM [3,2,0] [1,0]
 try dsimp only at G
 obtain ⟨hk1,hkl,hkc⟩:=hC
 have hkw:IntKind.wrap .i64 ((k:Int) - 1)=(k:Int) - 1:=Zy ow
 refine Ya (Ya (rZ G (qR rr (qR rr (qf (ZX 1 Ycd .is) r1 r1 (qL r2)))) V [13,3,2,0] [1,0] fun G=>?_))
 refine Zc G Z (fun hc1=>?_) (fun hc1=>?_)
 ·have hil:k<l.length:=by simp at hc1;omega
  have hst:=Zbu (l:=l) hk1 hil
  have hy0:(IntKind.wrap .i64 ((k:Int) - 1)).toNat=k - 1:=by rw [hkw];omega
  refine Ye (Za (Ya (Yg (Ya (Zv G (qR rr (qR rr (qf (o_indexAddr_row (sz:=1) 1 (.mk Ycd kr) .is .t ow ow (by rfl)) r2 r1 (qf (Zt (ag:=false) (sz':=1) (sz:=1) 1 .t (by intro x;rfl) ow kr kr kr) r1 r1 (qR rr (qR rr (qf (o_sub .t qi) r1 qz (qf (o_indexAddr_row (sz:=1) 1 (.mk Ycd kr) .is .t (by rw [hkw];omega) (by rw [hkw];omega) (by rfl)) r2 r1 (qf (Zt (ag:=false) (sz':=1) (sz:=1) 1 .t (by intro x;rfl) (by rw [hkw];omega) kr kr kr) r1 r1 (qf (o_eql .t .t) r2 qz qZ)))))))))) V [25,3,2,0] [1,0] Z Z fun a w F G=>?_)))))
  try dsimp only [List.map,xD,xE,xT,xU,ldSF,Zm] at G
  try simp only [Yb] at G
  refine Za (Zc G Z (fun hc2=>?_) (fun hc2=>?_))
  ·have heq:Nn l (k - 1)=Nn l k:=by rw [hy0] at hc2;simp at hc2;exact hc2.symm
   rw [Yf heq,hkc] at hst
   have hst0:=hst.symm
   refine Ya (rZ G (qR rr (qR rr (qf (Z6 (sz:=1) 1 (.mk Ycd kr) .is .t ow ow) r2 r1 (qO rr qZ)))) V [4,3,2,0] [1,0] fun G=>(Ya (Ya ?_)))
   refine rZ G (qI qZ) V [5,4,3,2,0] [1,0] fun G=>Yg ?_
   have hC0:1≤1∧1≤l.length - k∧k≤k∧k≤k+1 - 1∧l.length=l.length∧l.take k=Zr (l.take (k+1)) ∧ ∀ q,k+1 - 1≤q→q<l.length→Nn l q=Nn l q:=⟨by omega,by omega,by omega,by omega,rfl,hst0,fun q _ _=>rfl⟩
   refine Zj (σ:=Nat×Nat×List Int) [0,2,4] [0] (fun s=>[(3,.pv (.int .i64 (s.1:Int))),(5,.pv (.int .i64 (s.2.1:Int)))]) (fun s=>[(1,.ob (.val v) (Zw 3 1 Zm s.2.2))]) (fun s=>1≤s.2.1∧s.2.1≤l.length - k∧k≤s.1∧s.1≤k+s.2.1 - 1∧s.2.2.length=l.length∧s.2.2.take s.1=Zr (l.take (k+s.2.1)) ∧ ∀ q,k+s.2.1 - 1≤q→q<l.length→Nn s.2.2 q=Nn l q) (fun s=>l.length - s.2.1) ((k),(1),(l)) G ⟨rfl,rfl,rfl,rfl,rfl,tv⟩ ⟨rfl,rfl,tv⟩ hC0 ?_
   clear G;intro s a w F hC G
   obtain ⟨k1,j,l1⟩:=s
   try dsimp only at hC
   obtain ⟨F,G⟩:=G.nM [5,4,3,2,0] [1,0]
   try dsimp only at G
   obtain ⟨hj1,hjk,hkk,hkj,hl1,htk,hrest⟩:=hC
   have hjw:IntKind.wrap .i64 ((j:Int) - 1)=(j:Int) - 1:=Zy ow
   refine Ya (Ya (rZ G (qR rr (qR rr (qf (ZiG 1 Ycd .t ow) r1 r1 (qL r2)))) V [32,5,4,3,2,0] [1,0] fun G=>?_))
   refine Zc G Z (fun hc3=>?_) (fun hc3=>?_)
   ·have hjl:k+j<l.length:=by simp at hc3;omega
    have hx1:(Nn l1 (((k:Int)).toNat+((j:Int)).toNat))=Nn l (k+j):=by rw [Yb,Yb];exact hrest _ ow hjl
    have hx0:Nn l1 (((k:Int)).toNat+(IntKind.wrap .i64 ((j:Int) - 1)).toNat)=Nn l (k+j - 1):=by rw [hjw,show ((k:Int)).toNat+((j:Int) - 1).toNat=k+j - 1 by omega];exact hrest _ ow ow
    have hstp:=Zbu (l:=l) (p:=k+j) ow hjl
    refine Ye (Za (Ya (Yg (Ya (Zv G (qR rr (qR rr (qf (o_indexAddr_sub (sz:=1) 1 (.mk Ycd kr) .t .t ow ow (by rfl)) r2 r1 (qf (Zt (ag:=false) (sz':=1) (sz:=1) 1 .t (by intro x;rfl) ow kr kr kr) r1 r1 (qR rr (qR rr (qf (o_sub .t qi) r1 qz (qf (o_indexAddr_sub (sz:=1) 1 (.mk Ycd kr) .t .t (by rw [hjw];omega) (by rw [hjw];omega) (by rfl)) r2 r1 (qf (Zt (ag:=false) (sz':=1) (sz:=1) 1 .t (by intro x;rfl) (by rw [hjw];omega) kr kr kr) r1 r1 (qf (o_neq .t .t) r2 qz qZ)))))))))) V [44,5,4,3,2,0] [1,0] Z Z fun a w F G=>?_)))))
    try dsimp only [List.map,xD,xE,xT,xU,ldSF,Zm] at G
    try simp only [Yb] at G
    refine Za (Zc G Z (fun hc4=>?_) (fun hc4=>?_))
    ·have hne:¬ Nn l (k+j - 1)=Nn l (k+j):=by rw [← hx1,← hx0];simp at hc4 ⊢;exact fun e=>hc4 e.symm
     rw [Yc hne] at hstp
     obtain ⟨i2,hi2e⟩:∃ i2,i2=k1+1:=⟨_,rfl⟩
     have hi2:IntKind.wrap .i64 ((k1:Int)+1)=(i2:Int):=by rw [hi2e];exact Zd ow
     obtain ⟨l2,hl2e⟩:∃ l2,l2=l1.set k1 (Nn l1 (k+j)):=⟨_,rfl⟩
     have hx1b:Nn l1 (k+j)=Nn l (k+j):=hrest _ ow hjl
     have hC2:1≤j+1∧j+1≤l.length - k∧k≤i2∧i2≤k+(j+1) - 1∧l2.length=l.length∧l2.take i2=Zr (l.take (k+(j+1))) ∧ ∀ q,k+(j+1) - 1≤q→q<l.length→Nn l2 q=Nn l q:=⟨by omega,by omega,by omega,by omega,by rw [hl2e,YJ];exact hl1,by rw [hl2e,hi2e,Zo (by rw [YJ];omega),YbH (YL _),htk,nth_eq (by rw [YJ];omega),Yba,hx1b];exact hstp.symm,fun q hq hq2=>by rw [hl2e,nth_eq (by rw [YJ];omega),YbI ow,← nth_eq ow];exact hrest q ow hq2⟩
     refine Ya (Ze G (qR rr (qR rr (qR rr (qR rr (qf (o_indexAddr_sub (sz:=1) 1 (.mk Ycd kr) .t .t ow ow (by rfl)) r2 r1 (qf (Zt (ag:=false) (sz':=1) (sz:=1) 1 .t (by intro x;rfl) ow kr kr kr) r1 r1 (qf (o_indexAddr_row (sz:=1) 1 (.mk Ycd kr) .is .t ow ow (by rfl)) r2 r1 (qf (ZH (R:=Zm) (sz:=1) (v:=(Nn l1 (((k:Int)).toNat+((j:Int)).toNat))) 1 .t (by intro x;rfl) ow .t Z one_int kr) r2 r1 qZ)))))))) V [5,4,3,2,0] [1,0] Z Z fun a w F G=>?_)
     try simp only [Yb] at G
     rw [← hl2e] at G
     refine Za (Ze G (qR rr (qp r1 (qO rr qZ))) V [5,4,3,2,0] [1,0] Z Z fun a w F G=>Zh (Za ?_))
     refine rZ G (qR rr (qp r1 (qO rr qZ))) V [5,4,3,2,0] [1,0] fun G=>?_
     have hmu:l.length - (j+1)<l.length - j:=by omega
     replace G:=G.ent (i:=3) (s':=.pv (.int .i64 (i2:Int))) Z (.int hi2)
     replace G:=G.ent (i:=5) (s':=.pv (.int .i64 ((j+1:Nat):Int))) Z (.int (Zd ow))
     obtain ⟨F,G⟩:=G.nM [4,2,0,5,3] [0,1]
     exact ⟨((i2),(j+1),(l2)),F,hC2,G,hmu⟩
    have heq2:Nn l (k+j - 1)=Nn l (k+j):=by rw [← hx1,← hx0];simp at hc4 ⊢;exact hc4.symm
    rw [Yf heq2] at hstp
    obtain ⟨i2,hi2e⟩:∃ i2,i2=k1:=⟨_,rfl⟩
    have hi2:(k1:Int)=(i2:Int):=by rw [hi2e]
    obtain ⟨l2,hl2e⟩:∃ l2,l2=l1:=⟨_,rfl⟩
    rw [← hl2e] at G
    have hC2:1≤j+1∧j+1≤l.length - k∧k≤i2∧i2≤k+(j+1) - 1∧l2.length=l.length∧l2.take i2=Zr (l.take (k+(j+1))) ∧ ∀ q,k+(j+1) - 1≤q→q<l.length→Nn l2 q=Nn l q:=⟨by omega,by omega,by omega,by omega,by rw [hl2e];exact hl1,by rw [hl2e,hi2e,htk];exact hstp.symm,fun q hq hq2=>by rw [hl2e];exact hrest q ow hq2⟩
    refine Ye (Zh (Za (rZ G (qR rr (qp r1 (qO rr qZ))) V [5,4,3,2,0] [1,0] fun G=>?_)))
    have hmu:l.length - (j+1)<l.length - j:=by omega
    replace G:=G.ent (i:=3) (s':=.pv (.int .i64 (i2:Int))) Z (.int hi2)
    replace G:=G.ent (i:=5) (s':=.pv (.int .i64 ((j+1:Nat):Int))) Z (.int (Zd ow))
    obtain ⟨F,G⟩:=G.nM [4,2,0,5,3] [0,1]
    exact ⟨((i2),(j+1),(l2)),F,hC2,G,hmu⟩
   have hjl:k+j=l.length:=by simp at hc3;omega
   have hg:(Zr l)=(l1.take k1++List.replicate (l1.length - k1) (0:Int)).take k1:=by rw [YY (by rw [Yi];omega),YaS,Yb7,htk,hjl,Yz]
   refine Yx (Zi (Zi (Zn (Za (Ya (rZ G (qR rr (qR rr (qf (Z6 (sz:=1) 1 (.mk Ycd kr) .is .t ow ow) r2 r1 (qf (ZbF (R:=Zm) (z:=(0:Int)) (zs:=[.int .i64 0]) 1 Ycd kr Z Z (fun _ _=>⟨⟨rfl,rfl,ZcS⟩,tv⟩) (by intro x;rfl) .t (by simp;omega)) r1 r1 qZ)))) V [3,2,0] [1,0] fun G=>Ya ?_))))))
   refine Zb G (qR rr (qR rr (qf (ZbI (sz:=1) 1 (.mk Ycd kr) (by intro x;rfl) .is .t ow (by simp;omega)) r2 r1 (qO rr qZ)))) V [3,2,0] [1,0] (fun _=>rfl) (fun _=>rfl) fun τ a w F G=>?_
   try dsimp only [RS.sub,SF.sub,CF.sub,csub,Anc.sub,List.map,Zm] at G
   generalize τ 59=v59 at G
   refine Za (Yh (Zz (Zk (Zk (Zz (Zk ?_))))))
   have G:=G.turn 1 Z (r':=RS.hp (Zw 3 1 Zm (Zr l) v59)) (fun _ _ _ _ h=>by rw [hg];exact h)
   refine Z2 (h':=fun v=>Zw 3 1 Zm (Zr l) v) hG G Z (.tmp Z .nil) (.one .one) rfl
  have hne:¬ Nn l (k - 1)=Nn l k:=by rw [hy0] at hc2;simp at hc2;exact fun e=>hc2 e.symm
  rw [Yc hne] at hst
  refine Ye (Zh (Za (rZ G (qR rr (qp r1 (qO rr qZ))) V [3,2,0] [1,0] fun G=>?_)))
  replace G:=G.ent (i:=3) (s':=.pv (.int .i64 ((k+1:Nat):Int))) Z (.int (Zd ow))
  obtain ⟨F,G⟩:=G.nM [2,0,3] [1,0]
  exact ⟨(k+1),F,⟨by omega,by omega,by rw [hst,hkc,← Zo hil]⟩,G,by omega⟩
 have hg:(Zr l)=l:=by rw [show k=l.length by simp at hc1;omega,Yz] at hkc;exact hkc
 refine Yx (Zi (Zi (Zn (Za (Ya (rZ G (qR rr (qO rr qZ)) V [2] [1,0] fun G=>Yh ?_))))))
 have G:=G.turn 1 Z (r':=RS.hp (Zw 3 1 Zm (Zr l) v)) (fun _ _ _ _ h=>by rw [hg];exact h)
 refine Z2 (h':=fun v=>Zw 3 1 Zm (Zr l) v) hG G Z (.tmp Z .nil) (.one .one) rfl
def Zdv (n:Int):List Int→Bool→List Int
 | [],d=>if d then [] else [n]
 | x :: l,d=>(if d=false∧n≤x then [n] else [])++(if x=n then [] else [x])++Zdv n l (d || decide (n≤x))
def Zm2 (l:List Int) (n:Int):List Int:=Zdv n l false
abbrev Zdz (l:List Int):Prop:=l.Pairwise fun a b=>a<b
theorem ZeB {n:Int} : ∀ {l:List Int},(∀ x ∈ l,n<x)→Zdv n l true=l
 | [],_=>rfl
 | x :: l,h=>by
  have:=h x (by simp)
  rw [Zdv,Yb0,ZeB fun y hy=>h y (by simp [hy]),Yc (by simp),Yc ow]
  rfl
theorem ZlS {n:Int} : ∀ {l:List Int},Zdz l→Zdz (Zm2 l n) ∧ ∀ x,x ∈ Zm2 l n ↔ x ∈ l∨x=n
 | [],_=>by simp [Zm2,Zdv]
 | y :: l,h=>by
  have h':=Yo.1 h
  unfold Zm2
  by_cases h1:y<n
  ·have e:Zdv n (y :: l) false=y :: Zdv n l false:=by
    rw [Zdv,Yc ow,Yc ow,show (false || decide (n≤y))=false by simp;omega];rfl
   have ih:=ZlS (n:=n) h'.2
   rw [e]
   refine ⟨Yo.2 ⟨fun p hp=>?_,ih.1⟩,fun x=>?_⟩
   ·rcases (ih.2 p).1 hp with hp | rfl
    ·exact h'.1 p hp
    ·exact h1
   ·have:=ih.2 x
    unfold Zm2 at this
    simp only [Yj,this]
    constructor
    ·rintro (h | h | h)
     ·exact .inl (.inl h)
     ·exact .inl (.inr h)
     ·exact .inr h
    ·rintro ((h | h) | h)
     ·exact .inl h
     ·exact .inr (.inl h)
     ·exact .inr (.inr h)
  ·by_cases h2:y=n
   ·subst h2
    rw [Zdv,Yf ⟨rfl,Yao _⟩,Yf rfl,show (false || decide (y≤y))=true by simp,ZeB h'.1]
    exact ⟨h,fun x=>by simp;intro e;exact .inl e⟩
   ·rw [Zdv,Yf ⟨rfl,by omega⟩,Yc h2,show (false || decide (n≤y))=true by simp;omega,ZeB fun x hx=>by have:=h'.1 x hx;omega]
    refine ⟨Yo.2 ⟨fun p hp=>?_,h⟩,fun x=>by simp;constructor <;> (rintro (h | h | h) <;> simp [h])⟩
    rcases Yj.1 hp with rfl | hp
    ·omega
    ·have:=h'.1 p hp;omega
def Zbp (l:List Int):List Int:=l.foldl Zm2 []
theorem ZW (l:List Int):Zdz (Zbp l) ∧ ∀ x,x ∈ Zbp l ↔ x ∈ l:=by
 have key:∀ (l acc:List Int),Zdz acc→Zdz (l.foldl Zm2 acc) ∧ ∀ x,x ∈ l.foldl Zm2 acc ↔ x ∈ acc∨x ∈ l:=by
  intro l
  induction l with
  | nil=>intro acc h;exact ⟨h,fun x=>by simp⟩
  | cons y l ih=>
   intro acc h
   have h1:=ZlS (n:=y) h
   have h2:=ih (Zm2 acc y) h1.1
   refine ⟨h2.1,fun x=>?_⟩
   rw [Yan,h2.2 x,h1.2 x,Yj]
   constructor
   ·rintro ((h | h) | h)
    ·exact .inl h
    ·exact .inr (.inl h)
    ·exact .inr (.inr h)
   ·rintro (h | h | h)
    ·exact .inl (.inl h)
    ·exact .inl (.inr h)
    ·exact .inr h
 have:=key l [] List.Pairwise.nil
 exact ⟨this.1,fun x=>by rw [show Zbp l=l.foldl Zm2 [] from rfl,this.2 x];simp⟩
theorem ZeN:∀ {a b:List Int},Zdz a→Zdz b→(∀ x,x ∈ a ↔ x ∈ b)→a=b
 | [],[],_,_,_=>rfl
 | [],y :: b,_,_,h=>by have:=(h y).2 (by simp);cases this
 | x :: a,[],_,_,h=>by have:=(h x).1 (by simp);cases this
 | x :: a,y :: b,ha,hb,h=>by
  have ha':=Yo.1 ha
  have hb':=Yo.1 hb
  have e:x=y:=by
   rcases Yj.1 ((h x).1 (by simp)) with e | e
   ·exact e
   ·rcases Yj.1 ((h y).2 (by simp)) with e2 | e2
    ·exact e2.symm
    ·have:=hb'.1 x e;have:=ha'.1 y e2;omega
  subst e
  congr 1
  refine ZeN ha'.2 hb'.2 fun z=>⟨fun hz=>?_,fun hz=>?_⟩
  ·rcases Yj.1 ((h z).1 (by simp [hz])) with e | e
   ·have:=ha'.1 z hz;omega
   ·exact e
  ·rcases Yj.1 ((h z).2 (by simp [hz])) with e | e
   ·have:=hb'.1 z hz;omega
   ·exact e
def ZaS:List Int→List Int
 | []=>[]
 | x :: l=>match ZaS l with
  | []=>[x]
  | y :: m=>if x=y then y :: m else x :: y :: m
theorem Zek:∀ (x:Int) (l:List Int),∃ m,ZaS (x :: l)=x :: m
 | x,[]=>⟨[],rfl⟩
 | x,y :: l=>by
  obtain ⟨m,hm⟩:=Zek y l
  unfold ZaS
  rw [hm]
  by_cases h:x=y
  ·subst h;exact ⟨m,Yf rfl⟩
  ·exact ⟨y :: m,Yc h⟩
theorem Zd3 (x y:Int) (l:List Int):ZaS (x :: y :: l)=if x=y then ZaS (y :: l) else x :: ZaS (y :: l):=by
 obtain ⟨m,hm⟩:=Zek y l
 conv=>lhs;unfold ZaS
 rw [hm]
theorem Zc5:∀ {l:List Int},l.Pairwise (fun a b=>a≤b)→Zdz (ZaS l) ∧ ∀ x,x ∈ ZaS l ↔ x ∈ l
 | [],_=>by simp [ZaS]
 | [x],_=>by simp [ZaS]
 | x :: y :: l,h=>by
  have h':=Yo.1 h
  have ih:=Zc5 h'.2
  rw [Zd3]
  split
  ·rename_i e
   subst e
   exact ⟨ih.1,fun z=>by rw [ih.2 z];simp⟩
  ·rename_i e
   refine ⟨Yo.2 ⟨fun z hz=>?_,ih.1⟩,fun z=>by rw [Yj,ih.2 z,← Yj]⟩
   have h1:=h'.1 y (by simp)
   rcases Yj.1 ((ih.2 z).1 hz) with rfl | hz2
   ·omega
   ·have:=(Yo.1 h'.2).1 z hz2
    omega
theorem Zo4 (l:List Int):List.Pairwise (fun x y=>x≤y) (l.mergeSort leI):=by
 have:=List.pairwise_mergeSort (le:=leI) (fun a b c h1 h2=>by simp [leI] at *;omega) (fun a b=>by simp [leI];omega) l
 exact this.imp fun h=>by simpa [leI] using h
theorem ZdL (l:List Int):ZaS (l.mergeSort leI)=Zbp l:=
 ZeN (Zc5 (Zo4 l)).1 (ZW l).1 fun x=>by rw [(Zc5 (Zo4 l)).2,(ZW l).2];exact (YaU l leI).mem_iff
theorem Zde:∀ l:List Int,Zr l=ZaS l
 | []=>rfl
 | [x]=>rfl
 | x :: y :: l=>by
  rw [Zd3,← Zde (y :: l)];rfl
theorem ZjF {n:Int} : ∀ (l:List Int) (d:Bool),(Zdv n l d).length≤l.length+1
 | [],d=>by cases d <;> simp [Zdv]
 | x :: l,d=>by
  have h1:=ZjF (n:=n) l (d || decide (n≤x))
  have h2:∀ l:List Int,(Zdv n l true).length≤l.length:=fun l=>by
   induction l with
   | nil=>simp [Zdv]
   | cons y l ih=>
    rw [Zdv,Yc (by simp),Yd,Yd,Yb0]
    split <;> simp <;> omega
  rw [Zdv,Yd,Yd]
  have h3:=h2 l
  by_cases hA:d=false∧n≤x
  ·rw [show (d || decide (n≤x))=true by simp [hA.2],Yf hA]
   split <;> simp <;> omega
  ·rw [Yc hA]
   split <;> simp <;> omega
structure OpD where
 read:Bool
 key:Int
 tx:Int
 nth:Int
 deriving DecidableEq,Inhabited
structure TxD where
 id:Int
 done:Bool
 ops:List OpD
 deriving DecidableEq,Inhabited
structure OrdD where
 key:Int
 txs:List Int
 deriving DecidableEq,Inhabited
structure Zp where
 txs:List TxD
 orders:List OrdD
 deriving DecidableEq,Inhabited
structure Zhk where
 was:List TxD
 now:List TxD
 old:List OrdD
 new:List OrdD
 deriving DecidableEq,Inhabited
def rOp (o:OpD):List PV:=[.bool o.read,.int .i64 o.key,.int .i64 o.tx,.int .i64 o.nth]
def rTx (t:TxD):List PV:=[.int .i64 t.id,.bool t.done,.sl rOp t.ops]
def ZG (o:OrdD):List PV:=[.int .i64 o.key,.sl Zm o.txs]
def Zu (h:Zp):List PV:=[.sl rTx h.txs,.sl ZG h.orders]
theorem Zsk (l:List OpD) (hl:l.length≤1000000):FnG prog 102 1 [.sl rOp l] [.star []] (PV.one) (fun v=>[Zw 60 4 rOp l v]):=by
 refine FnG.mk func102 Z ntmps102 Z kr fun B F0 a w F V hG G=>?_
 obtain ⟨F,G⟩:=G.nM [0] [0]
 refine Ya (rZ G (qC qZ) V [2,0] [0] fun G=>(Ya (Ya ?_)))
 refine Ze G (qR rr (qf (ZbA Yci .t) r1 qz qZ)) V [4,2,0] [0] Z Z fun a w F G=>?_
 obtain ⟨β4,hβ4,G⟩:=G.pickBool 4 rfl
 obtain ⟨F,G⟩:=G.nM [4,2,0] [0]
 refine Za (Zc G Z (fun hc0=>?_) (fun hc0=>?_))
 ·have hg:l = []:=hβ4 hc0
  refine Ya (rZ G (qC qZ) V [2,0] [0] fun G=>(Yh (Zk ?_)))
  have G:=G.fresh 1 rfl
  have G:=G.turn 1 Z (ZaA (T:=60) (sz:=4) (R:=rOp))
  have G:=G.turn 1 Z (r':=RS.hp (Zw 60 4 rOp l (.slice none 0 0))) (fun _ _ _ _ h=>by rw [hg];exact h)
  refine Z2 (h':=fun v=>Zw 60 4 rOp l v) hG G Z (.tmp Z .nil) (.one .one) rfl
 have hg:l = [] ++ l:=rfl
 refine Ye (Za (Ya (Zb G (qf (Za4 (R:=rOp) (sz:=4) 101 Yci kr) trivial qz (qR rr (qf (ZP (sz:=4) (bs:=32) 101 (.mk' Yci kr kr) (by intro x;rfl) .same (.sl .t) (by simp only [Yd,Yw];omega) (by decide)) ⟨rfl,rfl,tv⟩ ⟨rfl,tv⟩ (qO rr qZ)))) V [2] [101,0] (fun _=>rfl) (fun _=>rfl) fun τ a w F G=>?_)))
 try dsimp only [RS.sub,SF.sub,CF.sub,csub,Anc.sub,List.map,Zf,xL,xM,Nat.reduceAdd,xD,xE,xT,xU,xC,xN,zCF,rOp] at G
 generalize τ 7=v7 at G
 refine Za (Yh ?_)
 obtain ⟨F,G⟩:=G.rename 101 1 Z rfl
 have G:=G.turn 1 Z (r':=RS.hp (Zw 60 4 rOp l v7)) (fun _ _ _ _ h=>by rw [hg];exact h)
 refine Z2 (h':=fun v=>Zw 60 4 rOp l v) hG G Z (.tmp Z .nil) (.one .one) rfl
def ZcJ (o:OpD):Bool:=if o.read=true then ZcK ⟨o.tx,o.key,o.nth⟩ else (idB o.key && decide (o.tx=0)) && decide (o.nth=0)
def ofO (o:OpD):Zb0:=if o.read=true then ⟨o.tx,o.key,o.nth⟩ else noV
def Zc4 (o:OpD):Int:=if ZcJ o=true then 0 else 1
theorem ZnS {o:OpD} (h:ZcJ o=true):(1≤o.key∧o.key≤1048575)∧(0≤o.tx∧o.tx≤1048575)∧(0≤o.nth∧o.nth≤4095):=by
 unfold ZcJ at h
 split at h
 ·unfold ZcK at h
  dsimp only at h
  split at h <;> simp only [Yt,Yq,ZkV] at h <;> omega
 ·simp only [Yt,Yq,ZkV] at h
  omega
theorem Zhl {o:OpD} (h:o.read=true):ZcJ o=ZcK (ofO o):=by unfold ZcJ ofO;rw [Yf h,Yf h]
theorem ZfC {o:OpD} (h:o.read=false):ZcJ o=((idB o.key && decide (o.tx=0)) && decide (o.nth=0)):=by unfold ZcJ;rw [Yc (by rw [h];decide)]
theorem ZmN (v:Zb0):(Zs5 v).2=if ZcK v=true then 0 else 1:=by unfold Zs5;split <;> rfl
theorem Zl0 (o:OpD):FnP prog 120 [.agg (rOp o)] (.agg (ZT (ofO o))):=by
 refine FnP.mk func120 Z ntmps120 Z fun B a w F V hfr G=>Ya ?_
 refine Zb G (qx 101 r1 (qf (oH [.int .i64 0,.int .i64 0,.int .i64 0] 102) trivial qz qZ)) V [2,1] [102,101,0] (fun _=>rfl) (fun _=>rfl) fun τ a w F G=>?_
 try dsimp only [RS.sub,SF.sub,CF.sub,csub,Anc.sub,List.map,zCF] at G
 generalize τ 1=v1,τ 2=v2 at G
 refine Za (Ya (Ya (rZ G (qg 0 101 r1 r1 (qa 101 r1 r1 (qf (o_not .t) r1 qz qZ))) V [5,2,1] [102,101,0] fun G=>?_)))
 refine Zc G Z (fun hc0=>?_) (fun hc0=>?_)
 ·have hr:o.read=false:=by simpa using hc0
  refine Ya (rZ G (qf (oB [] [.int .i64 0,.int .i64 0,.int .i64 0] [(0,1),(1,1),(2,1)] .nil) trivial qz (qs 3 102 r2 r1 qZ)) V [2,1] [102,101,0] fun G=>(Yh (Zk ?_)))
  refine Z5 hfr G Z (.cl 102 true 3 Z Z .nil) (.one (.aggU Z (by unfold ofO;rw [hr];rfl)))
 have hr:o.read=true:=by simpa using hc0
 refine Ye (Za (Ya (rZ G (qg 2 101 r1 r1 (qa 101 r1 r1 (qg 1 101 r1 r1 (qa 101 r1 r1 (qg 3 101 r1 r1 (qa 101 r1 r1 (qf (oB [(0,.tmp 8),(1,.tmp 10),(2,.tmp 12)] [.int .i64 0,.int .i64 0,.int .i64 0] [(0,1),(1,1),(2,1)] (.one Z .t one_int kr (.one Z .t one_int kr (.one Z .t one_int kr .nil)))) r3 qz (qs 3 102 r2 r1 qZ)))))))) V [2] [102,101,0] fun G=>Yh ?_)))
 refine Z5 hfr G Z (.cl 102 true 3 Z Z .nil) (.one (.aggU Z (by unfold ofO;rw [hr];rfl)))
theorem ZoD (o:OpD):FnP prog 86 [.agg (rOp o)] (.int .i64 (Zc4 o)):=by
 refine FnP.mk func86 Z ntmps86 Z fun B a w F V hfr G=>Ya ?_
 refine Zb G (qx 101 r1 (qI qZ)) V [2,1] [101,0] (fun _=>rfl) (fun _=>rfl) fun τ a w F G=>?_
 try dsimp only [RS.sub,SF.sub,CF.sub,csub,Anc.sub,List.map,zCF] at G
 generalize τ 1=v1 at G
 refine Za (Ya (Ya (rZ G (qg 0 101 r1 r1 (qa 101 r1 r1 qZ)) V [6,2,1] [101,0] fun G=>?_)))
 refine Zc G Z (fun hc0=>?_) (fun hc0=>?_)
 ·have hg:(Zs5 (ofO o)).2=Zc4 o:=by rw [ZmN];unfold Zc4;rw [Zhl hc0]
  refine Ya (rZ G (qe 4 101 r1 r1 (qf (oP (Zl0 o) func120 (Args.one (.pagg .t))) r1 qz (qf (oP (Zn7 (ofO o)) func137 (Args.one .t)) r1 qz (qR rr (qf (o_extract .t Z) r1 qz (qf (o_extract .t Z) r1 qz (qO rr (qO rr qZ)))))))) V [4,2,1] [101,0] fun G=>Ya ?_)
  refine rZ G (qR rr (qO rr qZ)) V [2,1] [101,0] fun G=>(Yh (Zk ?_))
  refine Zs hfr G Z Z Z (.int hg)
 have hr:o.read=false:=hc0
 refine Ye (Za (Ya (Ya (rZ G (qe 4 101 r1 r1 (qg 1 101 r1 r1 (qa 101 r1 r1 (qf (oB [(1,.tmp 16)] [.bool false,.int .i64 0,.int .i64 0,.int .i64 0] [(0,1),(1,1),(2,1),(3,1)] (.one Z .t one_int kr .nil)) r1 qz (qf (o_neqS (ks:=[false,true,true,true]) kr .t .t (.bool (.int (.int (.int .nil))))) r2 qz (qR rr (qv 1 101 Z r2 r1 (qw 101 Z r2 r1 (qk Z (fun h=>ZaD (.w h) qi) r2 qz (qf (Zal .t .t) r2 qz (qR rr (qv 1 101 Z r2 r1 (qw 101 Z r2 r1 (qk Z (fun h=>ZaG (.w h) qi) r2 qz (qf (Zal .t .t) r2 qz qZ))))))))))))))) V [28,2] [101,0] fun G=>?_))))
 refine Zc G Z (fun hc1=>?_) (fun hc1=>?_)
 ·have hg:(1:Int)=Zc4 o:=by
    unfold Zc4
    rw [Yc]
    rw [ZfC hr]
    simp [hr,idB] at hc1 ⊢
    omega
  refine Ya (rZ G (qI qZ) V [2] [101,0] fun G=>(Yh (Zk ?_)))
  refine Zs hfr G Z Z Z (.int hg)
 have hg:(0:Int)=Zc4 o:=by
   unfold Zc4
   rw [Yf]
   rw [ZfC hr]
   simp [hr,idB] at hc1 ⊢
   omega
 refine Ye (Za (Ya (rZ G (qI qZ) V [2] [101,0] fun G=>Yh ?_)))
 refine Zs hfr G Z Z Z (.int hg)
theorem Zt9 (t : TxD) (hl : t.ops.length ≤ 1000000) (p : OpD → Bool) (f : FuncId) (fn : Func) (cps : List PV) (hf : prog.funcs[f]? = some fn) (hb : fn.body.isSome = true) (hnn : (fn.name == "runtime.NumGoroutine") = false) (hw : ∀ x, FnP prog f (.agg (rOp x) :: cps) (.bool (p x))) : FnP prog 139 [.agg (rTx t), .clos f cps] (.sl Zm (Zbp ((t.ops.filter p).map OpD.key))) := by
 refine FnP.mk func139 Z ntmps139 Z fun B a w F V hfr G=>Ya ?_
 refine Zb G (qx 101 r1 (qC qZ)) V [4,2,1] [101,0] (fun _=>rfl) (fun _=>rfl) fun τ a w F G=>?_
 try dsimp only [RS.sub,SF.sub,CF.sub,csub,Anc.sub,List.map,zCF,Zm,rOp,rTx] at G
 generalize τ 2=v2 at G
 refine Za (Ya (rZ G (qC qZ) V [5,4,2,1] [101,0] fun G=>(Ya (Ya ?_))))
 refine rZ G (qg 2 101 r1 r1 (qa 101 r1 r1 (qu Yci r1 (qJ qZ)))) V [11,10,9,5,4,1] [101,0] fun G=>Yg ?_
 replace G:=G.fresh 50 rfl
 replace G:=G.turn 50 Z (ZaA (T:=3) (sz:=1) (R:=Zm))
 refine Zj (σ:=(Nat)×(Value)×(List Int)) [1,4,9,10] [0,101] (fun s=>[(11,.pv (.int .i64 (s.1:Int))),(5,.pv (.is s.2.1))]) (fun s=>[(50,.ob (.val s.2.1) (Zw 3 1 Zm s.2.2))]) (fun s=>s.1≤t.ops.length∧(s.2.2=(((t.ops.take s.1).filter p).map OpD.key))) (fun s=>t.ops.length - s.1) ((0),(.slice none 0 0),([])) G ⟨rfl,rfl,rfl,rfl,rfl,rfl,tv⟩ ⟨rfl,rfl,rfl,tv⟩ ⟨Yy _,rfl⟩ ?_
 clear G;intro s a w F hC G
 obtain ⟨i,v,out⟩:=s
 try dsimp only at hC
 obtain ⟨F,G⟩:=G.nM [11,10,9,5,4,1] [101,50,0]
 try dsimp only at G
 obtain ⟨hi,hq⟩:=hC
 have hol:out.length≤i:=by rw [hq,YG];exact Y2 (Yac _ _) (by rw [Yi];omega)
 refine Ya (rZ G (qL r2) V [12,11,10,9,5,4,1] [101,50,0] fun G=>Ya ?_)
 refine Zc G Z (fun hc0=>?_) (fun hc0=>?_)
 ·skip
  have hil:i<t.ops.length:=by simp at hc0;omega
  refine Ye (Za (Ya (Yg (Ya (Zb G (qy 4 Yci r2 (qf (oR true 4 .t) r1 qz (qf (oH [.bool false,.int .i64 0,.int .i64 0,.int .i64 0] 102) trivial qz (qS 4 102 r2 r1 qZ)))) V [11,10,9,7,5,4,1] [102,101,50,0] (fun _=>rfl) (fun _=>rfl) fun τ a w F G=>?_)))))
  try dsimp only [RS.sub,SF.sub,CF.sub,csub,Anc.sub,List.map,Zf,xL,xM,Nat.reduceAdd,xD,xE,xT,xU,xC,xN,zCF,ldSF,Zm,rOp,rTx] at G
  generalize τ 7=v7 at G
  try simp only [Yb] at G
  refine Za (Ya (rZ G (qR rr (qe 4 102 r1 r1 (qf (ZM (avs:=[.agg (rOp (Nn t.ops i))]) .t (hw (Nn t.ops i)) hf hb hnn (Args.one (.pagg .t))) r2 qz qZ))) V [17,11,10,9,7,5,4,1] [102,101,50,0] fun G=>?_))
  refine Zc G Z (fun hc1=>?_) (fun hc1=>?_)
  ·skip
   have hBq:p (Nn t.ops i)=true:=by simpa using hc1
   refine Zb G (qR rr (qg 1 102 r1 r1 (qa 102 r1 r1 (qf (o_buildSliceE (sz:=1) (zs:=[.int .i64 0]) (r:=[(0,.tmp 20)]) (l:=[_]) Ycd kr kr kr kr Z Z (.one Z .t one_int kr .nil) Z) r1 qz (qf (ZP (sz:=1) (bs:=8) 50 (.mk' Ycd kr kr) (by intro x;rfl) .is (.arr (l':=[(Nn t.ops i).key]) .t) (by simp only [Yd,Yl,Yw,Yi,YE];omega) (by decide)) ⟨rfl,rfl,tv⟩ ⟨rfl,tv⟩ (qO rr qZ)))))) V [11,10,9,5,4,1] [102,101,50,0] (fun _=>rfl) (fun _=>rfl) fun τ a w F G=>?_
   try dsimp only [RS.sub,SF.sub,CF.sub,csub,Anc.sub,List.map,Zf,xL,xM,Nat.reduceAdd,xD,xE,xT,xU,xC,xN,zCF,ldSF,Zm,rOp,rTx] at G
   generalize τ 22=v22 at G
   refine Zh (Za (rZ G (qp r1 (qR rr qZ)) V [11,10,9,5,4,1] [102,101,50,0] fun G=>?_))
   replace G:=G.ent (i:=11) (s':=.pv (.int .i64 ((i+1:Nat):Int))) Z (.int (Zd ow))
   obtain ⟨F,G⟩:=G.nM [10,9,4,1,5,11] [101,0,50]
   exact ⟨((i+1),_,_),F,⟨by omega,(by rw [Zo hil,Yaa,YO,← hq];simp [hBq])⟩,G,by omega⟩
  have hBq:p (Nn t.ops i)=false:=by simpa using hc1
  refine Ye (Zh (Za (rZ G (qp r1 (qR rr qZ)) V [11,10,9,5,4,1] [102,101,50,0] fun G=>?_)))
  replace G:=G.ent (i:=11) (s':=.pv (.int .i64 ((i+1:Nat):Int))) Z (.int (Zd ow))
  obtain ⟨F,G⟩:=G.nM [10,9,4,1,5,11] [101,0,50]
  exact ⟨((i+1),_,_),F,⟨by omega,(by rw [Zo hil,Yaa,YO,← hq];simp [hBq])⟩,G,by omega⟩
 have hil:i=t.ops.length:=by simp at hc0;omega
 refine Yx (Zi (Zi (Zn (Za (Ya (rZ G (qR rr (qf (Zbi 50 (ZiV _ out ow) func92 Z kr (Args.one .t)) r1 r1 qZ)) V [5,4] [101,50,0] fun G=>Ya ?_))))))
 refine Zb G (qR rr (qf (o_callRowN 50 (ZkD _ _ (by rw [Ybu];omega)) func179 Z kr (Args.one .t) pvOne1) r1 r1 (qO rr qZ))) V [4] [101,50,0] (fun _=>rfl) (fun _=>rfl) fun τ a w F G=>?_
 try dsimp only [RS.sub,SF.sub,CF.sub,csub,Anc.sub,List.map,Zm,rOp,rTx] at G
 generalize τ 27=v27 at G
 refine Za (Yh ?_)
 obtain ⟨F,G⟩:=G.give 50 4 Z rfl
 refine Zs hfr G Z Z Z (.sl (by rw [Zde,ZdL,hq,hil,Yz]))
theorem Zf8 (l:List Int):(Zbp l).length≤l.length:=by
 have key:∀ (l acc:List Int),(l.foldl Zm2 acc).length≤acc.length+l.length:=fun l=>by
  induction l with
  | nil=>intro acc;simp
  | cons x l ih=>
   intro acc
   have h1:=ih (Zm2 acc x)
   have h2:(Zm2 acc x).length≤acc.length+1:=ZjF acc false
   rw [Yan,Yl];omega
 have:=key l []
 simpa [Zbp] using this
theorem Ent.fnClos {f:FuncId} : Ent (.pv (.is (.func (.func f) #[] #[]))) (.pv (.clos f [])):=fun τ w y v h=>⟨[],h.1,tv⟩
theorem Zur (o:OpD):FnP prog 140 [.agg (rOp o)] (.bool (!o.read)):=by
 refine FnP.mk func140 Z ntmps140 Z fun B a w F V hfr G=>Ya ?_
 refine Zb G (qx 101 r1 qB) V [2,1] [101,0] (fun _=>rfl) (fun _=>rfl) fun τ a w F G=>?_
 try dsimp only [RS.sub,SF.sub,CF.sub,csub,Anc.sub,List.map,zCF,rOp] at G
 generalize τ 1=v1 at G
 refine Za (Ya (rZ G (qg 0 101 r1 r1 (qa 101 r1 r1 (qf (o_not .t) r1 qz (qO rr qZ)))) V [2] [0] fun G=>Yh ?_))
 refine Zs hfr G Z Z Z (.bool Z)
theorem ZpZ (t:TxD) (hl:t.ops.length≤1000000):FnP prog 91 [.agg (rTx t)] (.sl Zm (Zbp ((t.ops.filter fun o=>!o.read).map OpD.key))):=by
 refine FnP.mk func91 Z ntmps91 Z fun B a w F V hfr G=>Ya ?_
 refine Zb G (qx 101 r1 (qC qZ)) V [2,1] [101,0] (fun _=>rfl) (fun _=>rfl) fun τ a w F G=>?_
 try dsimp only [RS.sub,SF.sub,CF.sub,csub,Anc.sub,List.map,zCF,rTx,Zm] at G
 generalize τ 1=v1 at G
 refine Za (Ya (rZ G (qe 3 101 r1 r1 (qf (oP (Zt9 t hl (fun o=>!o.read) 140 f140 [] func140 Z kr (fun o=>Zur o)) func139 (Args.two (.pagg .t) (.conv .f (Ent.fnClos)))) r1 qz (qO rr qZ))) V [2] [0] fun G=>Yh ?_))
 refine Zs hfr G Z Z Z (.sl Z)
theorem Zdc (t:TxD) (n:Int) (hl:t.ops.length≤1000000):FnP prog 29 [.agg (rTx t),.int .i64 n] (.int .i64 (((t.ops.filter fun o=>!o.read && decide (o.key=n)).length:Nat):Int)):=by
 refine FnP.mk func29 Z ntmps29 Z fun B a w F V hfr G=>?_
 have hll:t.ops.length≤1000000:=hl
 refine Ya (Zb G (qx 101 r1 (qI qZ)) V [4,2,1] [101,0] (fun _=>rfl) (fun _=>rfl) fun τ a w F G=>?_)
 try dsimp only [RS.sub,SF.sub,CF.sub,csub,Anc.sub,List.map,zCF,Zm,rOp,rTx] at G
 generalize τ 2=v2 at G
 refine Za (Ya (rZ G (qI qZ) V [5,4,2,1] [101,0] fun G=>(Ya (Ya ?_))))
 refine rZ G (qg 2 101 r1 r1 (qa 101 r1 r1 (qu Yci r1 (qJ qZ)))) V [11,10,9,5,4,1] [0] fun G=>Yg ?_
 refine Zj (σ:=(Nat)) [1,4,9,10] [0] (fun s=>[(11,.pv (.int .i64 (s:Int))),(5,.pv (.int .i64 ((((t.ops.take s).filter fun o=>!o.read && decide (o.key=n)).length:Nat):Int)))]) (fun s=>[]) (fun s=>s≤t.ops.length∧(True)) (fun s=>t.ops.length - s) (0) G ⟨rfl,rfl,rfl,rfl,rfl,rfl,tv⟩ ⟨rfl,tv⟩ ⟨Yy _,tv⟩ ?_
 clear G;intro i a w F hC G
 try dsimp only at hC
 obtain ⟨F,G⟩:=G.nM [11,10,9,5,4,1] [0]
 try dsimp only at G
 obtain ⟨hi,hq⟩:=hC
 refine Ya (rZ G (qL r2) V [12,11,10,9,5,4,1] [0] fun G=>Ya ?_)
 refine Zc G Z (fun hc0=>?_) (fun hc0=>?_)
 ·have hil:i<t.ops.length:=by simp at hc0;omega
  refine Ye (Za (Ya (Yg (Ya (Zb G (qy 4 Yci r2 (qf (oR true 4 .t) r1 qz (qf (oH [.bool false,.int .i64 0,.int .i64 0,.int .i64 0] 102) trivial qz (qS 4 102 r2 r1 qZ)))) V [11,10,9,7,5,4,1] [102,0] (fun _=>rfl) (fun _=>rfl) fun τ a w F G=>?_)))))
  try dsimp only [RS.sub,SF.sub,CF.sub,csub,Anc.sub,List.map,Zf,xL,xM,Nat.reduceAdd,xD,xE,xT,xU,xC,xN,zCF,ldSF,Zm,rOp,rTx] at G
  generalize τ 7=v7 at G
  try simp only [Yb] at G
  refine Za (Ya (rZ G (qg 0 102 r1 r1 (qa 102 r1 r1 (qf (o_not .t) r1 qz (qR rr (qv 1 102 Z r2 r1 (qw 102 Z r2 r1 (qm Z Z Z Z (qk Z (fun h=>o_eql (.w h) (.w h)) r3 qz (qf (ZD .t .t) r2 qz qZ))))))))) V [23,11,10,9,5,4,1] [0] fun G=>?_))
  refine Zc G Z (fun hc1=>?_) (fun hc1=>?_)
  ·have hstp:((t.ops.take (i+1)).filter fun o=>!o.read && decide (o.key=n))=((t.ops.take i).filter fun o=>!o.read && decide (o.key=n))++(if (!(Nn t.ops i).read && decide ((Nn t.ops i).key=n))=true then [(Nn t.ops i)] else []):=by rw [Zo hil,Yaa];simp only [YbW,List.filter_nil]
   have hle:((t.ops.take i).filter fun o=>!o.read && decide (o.key=n)).length≤i:=Y2 (Yac _ _) (by rw [Yi];omega)
   have hBq:(!(Nn t.ops i).read && decide ((Nn t.ops i).key=n))=true:=hc1
   have hcc:IntKind.wrap .i64 (((((t.ops.take i).filter fun o=>!o.read && decide (o.key=n)).length:Nat):Int)+1)=((((t.ops.take (i+1)).filter fun o=>!o.read && decide (o.key=n)).length:Nat):Int):=by rw [hstp,Yf hBq,Yd,Zy ow];simp
   refine Ze G (qR rr (qp r1 (qO rr qZ))) V [11,10,9,5,4,1] [0] Z Z fun a w F G=>Zh (Za ?_)
   refine rZ G (qp r1 (qR rr qZ)) V [11,10,9,5,4,1] [0] fun G=>?_
   replace G:=G.ent (i:=11) (s':=.pv (.int .i64 ((i+1:Nat):Int))) Z (.int (Zd ow))
   replace G:=G.ent (i:=5) (s':=.pv (.int .i64 ((((t.ops.take (i+1)).filter fun o=>!o.read && decide (o.key=n)).length:Nat):Int))) Z (.int hcc)
   obtain ⟨F,G⟩:=G.nM [10,9,4,1,5,11] [0]
   exact ⟨(i+1),F,⟨by omega,tv⟩,G,by omega⟩
  have hstp:((t.ops.take (i+1)).filter fun o=>!o.read && decide (o.key=n))=((t.ops.take i).filter fun o=>!o.read && decide (o.key=n))++(if (!(Nn t.ops i).read && decide ((Nn t.ops i).key=n))=true then [(Nn t.ops i)] else []):=by rw [Zo hil,Yaa];simp only [YbW,List.filter_nil]
  have hle:((t.ops.take i).filter fun o=>!o.read && decide (o.key=n)).length≤i:=Y2 (Yac _ _) (by rw [Yi];omega)
  have hBq:(!(Nn t.ops i).read && decide ((Nn t.ops i).key=n))=false:=hc1
  have hcc:((((t.ops.take i).filter fun o=>!o.read && decide (o.key=n)).length:Nat):Int)=((((t.ops.take (i+1)).filter fun o=>!o.read && decide (o.key=n)).length:Nat):Int):=by rw [hstp,Yc (by rw [hBq];simp),YR]
  refine Ye (Zh (Za (rZ G (qp r1 (qR rr qZ)) V [11,10,9,5,4,1] [0] fun G=>?_)))
  replace G:=G.ent (i:=11) (s':=.pv (.int .i64 ((i+1:Nat):Int))) Z (.int (Zd ow))
  replace G:=G.ent (i:=5) (s':=.pv (.int .i64 ((((t.ops.take (i+1)).filter fun o=>!o.read && decide (o.key=n)).length:Nat):Int))) Z (.int hcc)
  obtain ⟨F,G⟩:=G.nM [10,9,4,1,5,11] [0]
  exact ⟨(i+1),F,⟨by omega,tv⟩,G,by omega⟩
 have hil:i=t.ops.length:=by simp at hc0;omega
 refine Yx (Zi (Zi (Zn (Za (Ya (rZ G (qR rr (qO rr qZ)) V [4] [0] fun G=>Yh ?_))))))
 refine Zs hfr G Z Z Z (.int (by rw [hil,Yz]))
def wcnt (l:List OpD) (k:Int):Nat:=(l.filter fun o=>!o.read && decide (o.key=k)).length
theorem ZiU {l:List OpD} {i:Nat} (h:i<l.length) (k:Int):wcnt (l.take (i+1)) k=wcnt (l.take i) k+if (Nn l i).read=false∧(Nn l i).key=k then 1 else 0:=by
 unfold wcnt
 rw [Zo h,Yaa,Yd]
 congr 1
 by_cases h1:(Nn l i).read=false∧(Nn l i).key=k
 ·rw [Yf h1];simp [h1.1,h1.2]
 ·rw [Yc h1]
  have:(!(Nn l i).read && decide ((Nn l i).key=k))=false:=by
   cases hr:(Nn l i).read with
   | true=>rfl
   | false=>simp;exact fun e=>h1 ⟨hr,e⟩
  simp [this]
theorem ZtW (l:List OpD) (i:Nat) (k:Int):wcnt (l.take i) k≤i:=Y2 (Yac _ _) (by rw [Yi];omega)
def Zbb (id:Int):List OpD→List OpD→Int
 | _,[]=>0
 | s,o :: r=>if ZcJ o=false then 1 else if o.read=true∧o.tx=id∧(wcnt s o.key:Int)<o.nth then 6 else Zbb id (s ++ [o]) r
def ZaF (t:TxD):Int:=if ¬ (1≤t.id∧t.id≤1048575) then 1 else if 4095<t.ops.length then 9 else Zbb t.id [] t.ops
theorem Zdi {id:Int} {l:List OpD} {i:Nat} (h:i<l.length):Zbb id (l.take i) (l.drop i)=if ZcJ (Nn l i)=false then 1 else if (Nn l i).read=true∧(Nn l i).tx=id∧(wcnt (l.take i) (Nn l i).key:Int)<(Nn l i).nth then 6 else Zbb id (l.take (i+1)) (l.drop (i+1)):=by
 rw [Zrd h,Zbb,Zo h]
theorem ZkN {id:Int} {l:List OpD} {i:Nat} (h:i=l.length):Zbb id (l.take i) (l.drop i)=0:=by rw [h,List.drop_length];rfl
def Zdu (id:Int) (o:OpD):Bool:=(o.read && !decide (o.tx=0)) && !decide (o.tx=id)
def ZaY (id:Int) (out:List Zb0) (o:OpD):List Zb0:=if Zdu id o=true∧ofO o ∉ out then out ++ [ofO o] else out
def Zdy (id:Int) (l:List OpD):List Zb0:=l.foldl (ZaY id) []
def ZfF (t:TxD):List Zb0:=Zdy t.id t.ops
theorem ZkL {id:Int} {l:List OpD} {i:Nat} (h:i<l.length):Zdy id (l.take (i+1))=ZaY id (Zdy id (l.take i)) (Nn l i):=by
 unfold Zdy
 rw [Zo h,Yat]
 rfl
theorem ZiL (id:Int) (out:List Zb0) (o:OpD):(ZaY id out o).length≤out.length+1:=by
 unfold ZaY
 split <;> simp
theorem ZmA (id:Int) (l:List OpD) (i:Nat):(Zdy id (l.take i)).length≤i:=by
 have key:∀ (l:List OpD) (out:List Zb0),(l.foldl (ZaY id) out).length≤out.length+l.length:=by
  intro l
  induction l with
  | nil=>intro out;simp
  | cons x l ih=>
   intro out
   have h1:=ih (ZaY id out x)
   have h2:=ZiL id out x
   rw [Yan,Yl];omega
 have:=key (l.take i) []
 rw [Yi] at this
 unfold Zdy
 simp at this ⊢
 omega
structure Zbg where
 key:Int
 nth:Int
 deriving DecidableEq,Inhabited
def Zbo (p:Zbg):List Int:=[p.key,p.nth]
def ZdA (v:Zb0):List Int:=[v.tx,v.key,v.nth]
def Zcv (es:List (GE Zbg Int)) (s:List OpD):Prop:=∀ k n,0≤n→(gGet (⟨k,n⟩:Zbg) es).getD 0=if n=0 then (wcnt s k:Int) else if n≤wcnt s k then 1 else 0
theorem Zqt:Zcv [] []:=fun k n h=>by
 show (0:Int)=_
 have:wcnt [] k=0:=rfl
 rw [this]
 split
 ·rfl
 ·rw [Yc (by simp;omega)]
theorem ZnP {es:List (GE Zbg Int)} {l:List OpD} {i:Nat} (h:Zcv es (l.take i)) (hi:i<l.length) (hr:(Nn l i).read=true):Zcv es (l.take (i+1)):=fun k n hn=>by
 rw [h k n hn,ZiU hi,Yc (c:=(Nn l i).read=false∧(Nn l i).key=k) (by simp [hr]),Ybr]
theorem Zqn {es es2:List (GE Zbg Int)} {l:List OpD} {i:Nat} {c:Int} (h:Zcv es (l.take i)) (hi:i<l.length) (hr:(Nn l i).read=false) (hc:c=(wcnt (l.take i) (Nn l i).key:Int)+1)
  (he:∀ p,(gGet p es2).getD 0=if p = ⟨(Nn l i).key,c⟩ then 1 else if p = ⟨(Nn l i).key,0⟩ then c else (gGet p es).getD 0):Zcv es2 (l.take (i+1)):=fun k n hn=>by
 have hk:=h k n hn
 rw [he,hk,ZiU hi]
 by_cases e:(Nn l i).key=k
 ·rw [Yf (c:=(Nn l i).read=false∧_) ⟨hr,e⟩]
  rw [e] at hc
  rw [e]
  by_cases e2:n=c
  ·subst e2
   rw [Yf rfl,Yc ow,Yf ow]
  ·rw [Yc (by simp [e2])]
   by_cases e3:n=0
   ·subst e3
    rw [Yf rfl,Yf rfl,hc];simp
   ·rw [Yc (by simp [e3]),Yc e3,Yc e3]
    by_cases e4:n≤(wcnt (l.take i) k:Int)
    ·rw [Yf e4,Yf ow]
    ·rw [Yc e4,Yc ow]
 ·rw [Yc (c:=(Nn l i).read=false∧_) (by simp [e]),Ybr,Yc (by simp;exact fun h=>absurd h.symm e),Yc (by simp;exact fun h=>absurd h.symm e)]
def Zel (es:List (GE Zb0 Int)) (i:Nat) (out:List Zb0):Prop:=∀ v,0≤(gGet v es).getD 0∧(gGet v es).getD 0≤i∧(0<(gGet v es).getD 0 ↔ v ∈ out)
theorem ZrQ:Zel [] 0 []:=fun v=>⟨Yao _,Yao _,by show (0:Int)<0 ↔ _;simp⟩
theorem ZqQ {es:List (GE Zb0 Int)} {i:Nat} {out:List Zb0} (h:Zel es i out):Zel es (i+1) out:=fun v=>⟨(h v).1,by have:=(h v).2.1;omega,(h v).2.2⟩
theorem Zrj {es es2:List (GE Zb0 Int)} {i:Nat} {out:List Zb0} {v:Zb0} (h:Zel es i out) (he:∀ u,(gGet u es2).getD 0=if u=v then (gGet v es).getD 0+1 else (gGet u es).getD 0):Zel es2 (i+1) (if v ∈ out then out else out ++ [v]):=fun u=>by
 have h1:=h u
 have h2:=h v
 rw [he u]
 by_cases e:u=v
 ·subst e
  rw [Yf rfl]
  refine ⟨by omega,by omega,?_⟩
  constructor
  ·intro _;split <;> simp_all
  ·intro _;omega
 ·rw [Yc e]
  refine ⟨by omega,by omega,?_⟩
  rw [h1.2.2]
  split
  ·rfl
  ·simp [e]
theorem Zht {κ:Type} [DecidableEq κ] {k p:κ} {x:Int} (s:List (GE κ Int)×Nat):(gGet p (gSet k x (gEns 0 k s).1)).getD 0=if p=k then x else (gGet p s.1).getD 0:=by
 rw [Zdr];split <;> rfl
theorem ZrE {κ:Type} [DecidableEq κ] {k p:κ} {x:Int} (s:List (GE κ Int)×Nat):(gGet p (gPut k x s).1).getD 0=if p=k then x else (gGet p s.1).getD 0:=by
 rw [Zdk];split <;> rfl
theorem Zgj:Zny prog 137 (fun k=>∀ x ∈ Zbo k,inR .i64 x) (kvS Zbo):=ZdT (n:=2) (fun _=>rfl) (fun a b h=>by cases a;cases b;simpa [Zbo] using h) kr
theorem ZpK:Zny prog 33 (fun k=>∀ x ∈ ZdA k,inR .i64 x) (kvS ZdA):=ZdT (n:=3) (fun _=>rfl) (fun a b h=>by cases a;cases b;simpa [ZdA] using h) kr
theorem ZjB {es:List (GE Zbg Int)} {s:List OpD} {o:OpD} {id:Int} (h:Zcv es s) (hk:ZcJ o=true) (hr:o.read=true) (hid:1≤id):(o.tx=id∧(gGet (⟨o.key,o.nth⟩:Zbg) es).getD 0=0) ↔ (o.read=true∧o.tx=id∧(wcnt s o.key:Int)<o.nth):=by
 have hb:=ZnS hk
 have h1:=h o.key o.nth ow
 constructor
 ·rintro ⟨e1,e2⟩
  refine ⟨hr,e1,?_⟩
  have hn:1≤o.nth:=by
   rw [Zhl hr] at hk
   unfold ofO at hk
   rw [Yf hr] at hk
   unfold ZcK at hk
   rw [Yc (show ¬ o.tx=0 by omega)] at hk
   simp at hk
   omega
  rw [e2,Yc ow] at h1
  split at h1
  ·cases h1
  ·omega
 ·rintro ⟨_,e1,e2⟩
  refine ⟨e1,?_⟩
  rw [h1,Yc ow,Yc ow]
theorem ZjW (t:TxD):FnP prog 44 [.agg (rTx t)] (.int .i64 (ZaF t)):=by
 refine FnP.mk func44 Z ntmps44 Z fun B a w F V hfr G=>Ya ?_
 refine Zb G (qx 101 r1 (qI qZ)) V [2,1] [101,0] (fun _=>rfl) (fun _=>rfl) fun τ a w F G=>?_
 try dsimp only [RS.sub,SF.sub,CF.sub,csub,Anc.sub,List.map,zCF,Zm,rOp,rTx] at G
 generalize τ 1=v1 at G
 refine Za (Ya (Yg (Ya (rZ G (qg 0 101 r1 r1 (qa 101 r1 r1 (qf (ZaD .t qi) r1 qz (qR rr (qv 0 101 Z r2 r1 (qw 101 Z r2 r1 (qk Z (fun h=>ZaG (.w h) qi) r2 qz (qf (Zal .t .t) r2 qz (qO rr qZ))))))))) V [7,2,1] [101,0] fun G=>?_))))
 refine Zc G Z (fun hc0=>?_) (fun hc0=>?_)
 ·have hg:1=ZaF t:=by unfold ZaF;rw [Yf (by simp at hc0;omega)]
  refine Ya (rZ G (qI qZ) V [2,1] [101,0] fun G=>(Yh (Zz (Zk ?_))))
  refine Zs hfr G Z Z Z (.int hg)
 have hid:1≤t.id∧t.id≤1048575:=by simp at hc0;omega
 refine Ya (rZ G (qg 2 101 r1 r1 (qa 101 r1 r1 (qu Yci r1 (qf (ZaG .t qi) r1 qz (qO rr qZ))))) V [16,2,1] [101,0] fun G=>?_)
 refine Zc G Z (fun hc1=>?_) (fun hc1=>?_)
 ·have hg:9=ZaF t:=by unfold ZaF;rw [Yc ow,Yf (by simp at hc1;omega)]
  refine Ya (rZ G (qI qZ) V [2,1] [101,0] fun G=>(Yh (Zz (Zk ?_))))
  refine Zs hfr G Z Z Z (.int hg)
 have hlen:t.ops.length≤4095:=by simp at hc1;omega
 have hT:ZaF t=Zbb t.id [] t.ops:=by unfold ZaF;rw [Yc ow,Yc ow]
 refine Ye (Zh (Za (Ya (Zb G (qf (Za0 (ek:=(fun n:Int=>PV.int .i64 n)) (ok:=(fun k=>∀ x ∈ Zbo k,inR .i64 x)) (kv:=(kvS Zbo)) 102) trivial qz (qO rr qZ)) V [3,2,1] [102,101,0] (fun _=>rfl) (fun _=>rfl) fun τ a w F G=>?_))))
 try dsimp only [RS.sub,SF.sub,CF.sub,csub,Anc.sub,List.map,Zf,xL,xM,Nat.reduceAdd,xD,xE,xT,xU,xC,xN,zCF,Zm,rOp,rTx] at G
 generalize τ 21=v21 at G
 refine Za (Ya (Ya (rZ G (qg 2 101 r1 r1 (qa 101 r1 r1 (qu Yci r1 (qJ qZ)))) V [25,24,23,3,2,1] [102,101,0] fun G=>Yg ?_)))
 refine Zj (σ:=(Nat)×(List (GE Zbg Int))×(Nat)) [1,2,3,23,24] [0,101] (fun s=>[(25,.pv (.int .i64 (s.1:Int)))]) (fun s=>[(102,.ob (.val v21) (ZbH (fun n:Int=>PV.int .i64 n) (fun k=>∀ x ∈ Zbo k,inR .i64 x) (kvS Zbo) s.2.1 s.2.2))]) (fun s=>s.1≤t.ops.length∧(Zbb t.id [] t.ops=Zbb t.id (t.ops.take s.1) (t.ops.drop s.1)∧Zcv s.2.1 (t.ops.take s.1))) (fun s=>t.ops.length - s.1) ((0),([]),(0)) G ⟨rfl,rfl,rfl,rfl,rfl,rfl,tv⟩ ⟨rfl,rfl,rfl,tv⟩ ⟨Yy _,⟨rfl,Zqt⟩⟩ ?_
 clear G;intro s a w F hC G
 obtain ⟨i,es,ck⟩:=s
 try dsimp only at hC
 obtain ⟨F,G⟩:=G.nM [25,24,23,3,2,1] [102,101,0]
 try dsimp only at G
 obtain ⟨hi,hq⟩:=hC
 obtain ⟨hrt,hsp⟩:=hq
 have hwl:=fun k=>ZtW t.ops i k
 refine Ya (rZ G (qL r2) V [26,25,24,23,3,2,1] [102,101,0] fun G=>Ya ?_)
 refine Zc G Z (fun hc2=>?_) (fun hc2=>?_)
 ·have hil:i<t.ops.length:=by simp at hc2;omega
  refine Ye (Za (Ya (Yg (Ya (Zb G (qy 4 Yci r2 (qf (oR true 4 .t) r1 qz (qf (oH [.bool false,.int .i64 0,.int .i64 0,.int .i64 0] 103) trivial qz (qS 4 103 r2 r1 qZ)))) V [25,24,23,5,3,2,1] [103,102,101,0] (fun _=>rfl) (fun _=>rfl) fun τ a w F G=>?_)))))
  try dsimp only [RS.sub,SF.sub,CF.sub,csub,Anc.sub,List.map,Zf,xL,xM,Nat.reduceAdd,xD,xE,xT,xU,xC,xN,zCF,ldSF,Zm,rOp,rTx] at G
  generalize τ 5=v5 at G
  try simp only [Yb] at G
  refine Za (Ya (Ya (rZ G (qe 4 103 r1 r1 (qf (oP (ZoD (Nn t.ops i)) func86 (Args.one (.pagg .t))) r1 qz (qO rr qZ))) V [25,24,23,6,5,3,2,1] [103,102,101,0] fun G=>Ya ?_)))
  refine rZ G (qR rr (qf (o_neq .t qi) r1 qz qZ)) V [32,25,24,23,6,5,3,2,1] [103,102,101,0] fun G=>?_
  refine Zc G Z (fun hc3=>?_) (fun hc3=>?_)
  ·have hk:ZcJ (Nn t.ops i)=false:=by unfold Zc4 at hc3;simpa using hc3
   have hg:Zc4 (Nn t.ops i)=ZaF t:=by rw [hT,hrt,Zdi hil,Yf hk];unfold Zc4;rw [hk];rfl
   refine Ya (rZ G (qR rr (qO rr qZ)) V [25,24,23,5,3,2,1] [103,102,101,0] fun G=>(Yh (Zk (Zz (Zk (Zk (Zz (Zk ?_))))))))
   refine Zs hfr G Z Z Z (.int hg)
  have hk:ZcJ (Nn t.ops i)=true:=by unfold Zc4 at hc3;simpa using hc3
  refine Ye (Za (Ya (Ya (rZ G (qg 0 103 r1 r1 (qa 103 r1 r1 (qf (o_not .t) r1 qz qZ))) V [36,25,24,23,5,3,2,1] [103,102,101,0] fun G=>?_))))
  refine Zc G Z (fun hc4=>?_) (fun hc4=>?_)
  ·have hr:(Nn t.ops i).read=false:=by simpa using hc4
   have hm0:=hsp (Nn t.ops i).key 0 (Yao _)
   rw [Yf rfl] at hm0
   have hwc:IntKind.wrap .i64 (((gGet (⟨(Nn t.ops i).key,0⟩:Zbg) es).getD 0)+1)=(wcnt (t.ops.take i) (Nn t.ops i).key:Int)+1:=by rw [hm0];exact Zy (by have:=hwl (Nn t.ops i).key;omega)
   refine Ya ?_
   replace G:=G.turnZ 102 (0) (⟨(Nn t.ops i).key,0⟩:Zbg) rfl
   refine Zbd 102 8 (m1:=1) (m2:=2) kr G kr (qR rr (qg 1 103 r1 r1 (qa 103 r1 r1 (qf (oB [(0,.tmp 39),(1,_)] [.int .i64 0,.int .i64 0] [(0,1),(1,1)] (.one Z .t one_int kr (.one Z qi one_int kr .nil))) r1 qz (qf (Zcg (ek:=(fun n:Int=>PV.int .i64 n)) (z0:=(0)) 102 underlying134 Zgj kr (fun _ _=>⟨rfl,ZcS⟩) .is (ZK.agg (enc:=Zbo) (k:=(⟨(Nn t.ops i).key,0⟩:Zbg)) (.pagg .t) Z)) r2 r1 (qp r1 (qf (Zbc (ek:=(fun n:Int=>PV.int .i64 n)) (z0:=(0)) 102 underlying134 Zgj kr (fun _ _=>⟨rfl,ZcS⟩) .is (ZK.agg (enc:=Zbo) (k:=(⟨(Nn t.ops i).key,0⟩:Zbg)) (.pagg .t) Z) (by intros;first | rfl | simp [Anc.v,upd])) r2 r1 (qf (o_extract .t Z) r1 qz (qf (ZaL 102 (ZbL _ _ _) .is .t .t) r3 r1 qZ))))))))) kr kr kr Z Z Z (fun _ _ _ _ h=>.inr h) (by rw [V];kernel_rfl) fun a w F G=>?_
   obtain ⟨F,G⟩:=G.nM [25,24,23,5,3,2,1] [103,102,101,0]
   try dsimp only [List.map,Zf,xL,xM,Nat.reduceAdd,xD,xE,xT,xU,xC,xN,zCF,ldSF,Zm,rOp,rTx] at G
   obtain ⟨es1,he1⟩:∃ z,z=gSet (⟨(Nn t.ops i).key,0⟩:Zbg) (IntKind.wrap .i64 (((gGet (⟨(Nn t.ops i).key,0⟩:Zbg) es).getD 0)+1)) (gEns 0 (⟨(Nn t.ops i).key,0⟩:Zbg) (es,ck)).1:=⟨_,rfl⟩
   obtain ⟨ck1,hc1⟩:∃ z,z=(gEns 0 (⟨(Nn t.ops i).key,0⟩:Zbg) (es,ck)).2:=⟨_,rfl⟩
   rw [← he1,← hc1] at G
   refine Za (Ya (Zv G (qR rr (qg 1 103 r1 r1 (qa 103 r1 r1 (qR rr (qg 1 103 r1 r1 (qa 103 r1 r1 (qf (oB [(0,.tmp 50),(1,_)] [.int .i64 0,.int .i64 0] [(0,1),(1,1)] (.one Z .t one_int kr (.one Z qi one_int kr .nil))) r1 qz (qf (Zat (ek:=(fun n:Int=>PV.int .i64 n)) (z0:=(0)) 102 underlying134 Zgj kr (fun _ _=>⟨rfl,ZcS⟩) .is (ZK.agg (enc:=Zbo) (k:=(⟨(Nn t.ops i).key,0⟩:Zbg)) (.pagg .t) Z)) r2 r1 (qf (oB [(0,.tmp 47),(1,.tmp 52)] [.int .i64 0,.int .i64 0] [(0,1),(1,1)] (.one Z .t one_int kr (.one Z .t one_int kr .nil))) r2 qz (qf (o_mapUpdateG (ek:=(fun n:Int=>PV.int .i64 n)) 102 underlying134 Zgj .is (ZK.agg (enc:=Zbo) (k:=(⟨(Nn t.ops i).key,(gGet (⟨(Nn t.ops i).key,0⟩:Zbg) es1).getD 0⟩:Zbg)) (.pagg .t) Z) qi) r2 r1 qZ)))))))))) V [25,24,23,5,3,2,1] [103,102,101,0] Z Z fun a w F G=>?_))
   try dsimp only [List.map,Zf,xL,xM,Nat.reduceAdd,xD,xE,xT,xU,xC,xN,zCF,ldSF,Zm,rOp,rTx] at G
   have hv1:∀ p,(gGet p es1).getD 0=if p=(⟨(Nn t.ops i).key,0⟩:Zbg) then (wcnt (t.ops.take i) (Nn t.ops i).key:Int)+1 else (gGet p es).getD 0:=fun p=>by rw [he1,Zht,hwc]
   obtain ⟨es2,he2⟩:∃ z,z=(gPut (⟨(Nn t.ops i).key,(gGet (⟨(Nn t.ops i).key,0⟩:Zbg) es1).getD 0⟩:Zbg) 1 (es1,ck1)).1:=⟨_,rfl⟩
   obtain ⟨ck2,hc2⟩:∃ z,z=(gPut (⟨(Nn t.ops i).key,(gGet (⟨(Nn t.ops i).key,0⟩:Zbg) es1).getD 0⟩:Zbg) 1 (es1,ck1)).2:=⟨_,rfl⟩
   rw [← he2,← hc2] at G
   have hR2:Zbb t.id [] t.ops=Zbb t.id (t.ops.take (i+1)) (t.ops.drop (i+1))∧Zcv es2 (t.ops.take (i+1)):=⟨by rw [hrt,Zdi hil,Yc (by rw [hk];decide),Yc (by rw [hr];simp)],Zqn hsp hil hr rfl (fun p=>by rw [he2,ZrE];dsimp only;rw [hv1,hv1,Yf rfl])⟩
   refine Za (Yx (Zi (Zn (Za (rZ G (qp r1 (qR rr qZ)) V [25,24,23,3,2,1] [103,102,101,0] fun G=>?_)))))
   replace G:=G.ent (i:=25) (s':=.pv (.int .i64 ((i+1:Nat):Int))) Z (.int (Zd ow))
   obtain ⟨F,G⟩:=G.nM [24,23,3,2,1,25] [101,0,102]
   exact ⟨((i+1),(es2),(ck2)),F,⟨by omega,hR2⟩,G,by omega⟩
  have hr:(Nn t.ops i).read=true:=by simpa using hc4
  refine Ye (Za (Ya (rZ G (qg 2 103 r1 r1 (qa 103 r1 r1 (qg 0 101 r1 r1 (qa 101 r1 r1 (qf (o_eql .t .t) r2 qz (qR rr (qm Z Z Z Z (qv 1 103 Z r2 r1 (qw 103 Z r2 r1 (qv 3 103 Z r2 r1 (qw 103 Z r2 r1 (qk Z (fun h=>Zj4 (r:=[(0,.tmp 62),(1,.tmp 64)]) (zs:=[.int .i64 0,.int .i64 0]) (pl:=[(0,1),(1,1)]) kr kr (.one Z (.w h) one_int kr (.one Z (.w h) one_int kr .nil)) (by rfl)) r3 qz (qk Z (fun h=>Zat (ek:=(fun n:Int=>PV.int .i64 n)) (z0:=(0)) 102 underlying134 Zgj kr (fun _ _=>⟨rfl,ZcS⟩) (.w h .is) (ZK.agg (enc:=Zbo) (k:=(⟨(Nn t.ops i).key,(Nn t.ops i).nth⟩:Zbg)) (.pagg (.w h)) Z)) r3 r1 (qk Z (fun h=>o_eql (.w h) qi) r2 qz (qf (ZD .t .t) r2 qz qZ))))))))))))))) V [68,25,24,23,3,2,1] [103,102,101,0] fun G=>?_)))
  refine Zc G Z (fun hc5=>?_) (fun hc5=>?_)
  ·have hg:6=ZaF t:=by rw [hT,hrt,Zdi hil,Yc (by rw [hk];decide),Yf ((ZjB hsp hk hr hid.1).1 (by simpa using hc5))]
   refine Ya (rZ G (qI qZ) V [25,24,23,3,2,1] [103,102,101,0] fun G=>(Yh (Zz (Zk (Zk (Zz (Zk ?_)))))))
   refine Zs hfr G Z Z Z (.int hg)
  have hno:=fun h9=>(by simpa using hc5:¬ ((Nn t.ops i).tx=t.id∧(gGet (⟨(Nn t.ops i).key,(Nn t.ops i).nth⟩:Zbg) es).getD 0=0)) ((ZjB hsp hk hr hid.1).2 h9)
  obtain ⟨es2,he2⟩:∃ z,z=es:=⟨_,rfl⟩
  obtain ⟨ck2,hc2⟩:∃ z,z=ck:=⟨_,rfl⟩
  have hR2:Zbb t.id [] t.ops=Zbb t.id (t.ops.take (i+1)) (t.ops.drop (i+1))∧Zcv es2 (t.ops.take (i+1)):=⟨by rw [hrt,Zdi hil,Yc (by rw [hk];decide),Yc hno],by rw [he2];exact ZnP hsp hil hr⟩
  rw [← he2,← hc2] at G
  refine Ye (Zh (Za (rZ G (qp r1 (qR rr qZ)) V [25,24,23,3,2,1] [103,102,101,0] fun G=>?_)))
  replace G:=G.ent (i:=25) (s':=.pv (.int .i64 ((i+1:Nat):Int))) Z (.int (Zd ow))
  obtain ⟨F,G⟩:=G.nM [24,23,3,2,1,25] [101,0,102]
  exact ⟨((i+1),(es2),(ck2)),F,⟨by omega,hR2⟩,G,by omega⟩
 have hil:i=t.ops.length:=by simp at hc2;omega
 have hg:0=ZaF t:=by rw [hT,hrt,ZkN hil]
 refine Yx (Zi (Zi (Zn (Za (Ya (rZ G (qI qZ) V [2] [102,101,0] fun G=>Yh ?_))))))
 refine Zs hfr G Z Z Z (.int hg)
theorem ZpP (t:TxD) (hl:t.ops.length≤1000000):FnP prog 88 [.agg (rTx t)] (.sl ZT (ZfF t)):=by
 refine FnP.mk func88 Z ntmps88 Z fun B a w F V hfr G=>Ya ?_
 refine Zb G (qx 101 r1 (qC qZ)) V [2,1] [101,0] (fun _=>rfl) (fun _=>rfl) fun τ a w F G=>?_
 try dsimp only [RS.sub,SF.sub,CF.sub,csub,Anc.sub,List.map,zCF,Zm,rOp,rTx,ZT] at G
 generalize τ 1=v1 at G
 refine Za (Ya (rZ G (qC qZ) V [3,2,1] [101,0] fun G=>Ya ?_))
 refine Zb G (qf (Za0 (ek:=(fun n:Int=>PV.int .i64 n)) (ok:=(fun k=>∀ x ∈ ZdA k,inR .i64 x)) (kv:=(kvS ZdA)) 102) trivial qz (qO rr qZ)) V [4,3,2,1] [102,101,0] (fun _=>rfl) (fun _=>rfl) fun τ a w F G=>?_
 try dsimp only [RS.sub,SF.sub,CF.sub,csub,Anc.sub,List.map,Zf,xL,xM,Nat.reduceAdd,xD,xE,xT,xU,xC,xN,zCF,Zm,rOp,rTx,ZT] at G
 generalize τ 8=v8 at G
 refine Za (Ya (Ya (rZ G (qg 2 101 r1 r1 (qa 101 r1 r1 (qu Yci r1 (qJ qZ)))) V [12,11,10,4,3,2,1] [102,101,0] fun G=>Yg ?_)))
 replace G:=G.fresh 50 rfl
 replace G:=G.turn 50 Z (ZaA (T:=33) (sz:=3) (R:=ZT))
 refine Zj (σ:=(Nat)×(List (GE Zb0 Int))×(Nat)×(Value)×(List Zb0)) [1,2,4,10,11] [0,101] (fun s=>[(12,.pv (.int .i64 (s.1:Int))),(3,.pv (.is s.2.2.2.1))]) (fun s=>[(102,.ob (.val v8) (ZbH (fun n:Int=>PV.int .i64 n) (fun k=>∀ x ∈ ZdA k,inR .i64 x) (kvS ZdA) s.2.1 s.2.2.1)),(50,.ob (.val s.2.2.2.1) (Zw 33 3 ZT s.2.2.2.2))]) (fun s=>s.1≤t.ops.length∧(s.2.2.2.2=Zdy t.id (t.ops.take s.1)∧Zel s.2.1 s.1 s.2.2.2.2)) (fun s=>t.ops.length - s.1) ((0),([]),(0),(.slice none 0 0),([])) G ⟨rfl,rfl,rfl,rfl,rfl,rfl,rfl,tv⟩ ⟨rfl,rfl,rfl,rfl,tv⟩ ⟨Yy _,⟨rfl,ZrQ⟩⟩ ?_
 clear G;intro s a w F hC G
 obtain ⟨i,es,ck,v,out⟩:=s
 try dsimp only at hC
 obtain ⟨F,G⟩:=G.nM [12,11,10,4,3,2,1] [102,101,50,0]
 try dsimp only at G
 obtain ⟨hi,hq⟩:=hC
 obtain ⟨hou,hvi⟩:=hq
 have hol:out.length≤i:=by rw [hou];exact ZmA _ _ _
 have hst:=fun hil:i<t.ops.length=>ZkL (id:=t.id) hil
 refine Ya (rZ G (qL r2) V [13,12,11,10,4,3,2,1] [102,101,50,0] fun G=>Ya ?_)
 refine Zc G Z (fun hc0=>?_) (fun hc0=>?_)
 ·have hil:i<t.ops.length:=by simp at hc0;omega
  refine Ye (Za (Ya (Yg (Ya (Zb G (qy 4 Yci r2 (qf (oR true 4 .t) r1 qz (qf (oH [.bool false,.int .i64 0,.int .i64 0,.int .i64 0] 103) trivial qz (qS 4 103 r2 r1 qZ)))) V [12,11,10,6,4,3,2,1] [103,102,101,50,0] (fun _=>rfl) (fun _=>rfl) fun τ a w F G=>?_)))))
  try dsimp only [RS.sub,SF.sub,CF.sub,csub,Anc.sub,List.map,Zf,xL,xM,Nat.reduceAdd,xD,xE,xT,xU,xC,xN,zCF,ldSF,Zm,rOp,rTx,ZT] at G
  generalize τ 6=v6 at G
  try simp only [Yb] at G
  refine Za (Ya (Zb G (qe 4 103 r1 r1 (qf (oP (Zl0 (Nn t.ops i)) func120 (Args.one (.pagg .t))) r1 qz (qf (oH [.int .i64 0,.int .i64 0,.int .i64 0] 104) trivial qz (qf (oA 3 104 .same (.conv .t .agg)) r2 r1 qZ)))) V [12,11,10,7,6,4,3,2,1] [104,103,102,101,50,0] (fun _=>rfl) (fun _=>rfl) fun τ a w F G=>?_))
  try dsimp only [RS.sub,SF.sub,CF.sub,csub,Anc.sub,List.map,Zf,xL,xM,Nat.reduceAdd,xD,xE,xT,xU,xC,xN,zCF,ldSF,Zm,rOp,rTx,ZT] at G
  generalize τ 7=v7 at G
  refine Za (Ya (Ya (rZ G (qg 0 103 r1 r1 (qa 103 r1 r1 (qf (o_not .t) r1 qz (qR rr (qv 0 104 Z r2 r1 (qw 104 Z r2 r1 (qk Z (fun h=>o_eql (.w h) qi) r2 qz (qf (Zal .t .t) r2 qz (qR rr (qv 0 104 Z r2 r1 (qw 104 Z r2 r1 (qv 0 101 Z r2 r1 (qw 101 Z r2 r1 (qk Z (fun h=>o_eql (.w h) (.w h)) r3 qz (qf (Zal .t .t) r2 qz qZ))))))))))))))) V [32,12,11,10,7,4,3,2,1] [104,103,102,101,50,0] fun G=>?_)))
  refine Zc G Z (fun hc1=>?_) (fun hc1=>?_)
  ·have hno:Zdu t.id (Nn t.ops i)=false:=by unfold Zdu;unfold ofO at hc1;cases hr:(Nn t.ops i).read <;> simp [hr] at hc1 ⊢;omega
   obtain ⟨es2,he2⟩:∃ z,z=es:=⟨_,rfl⟩
   obtain ⟨ck2,hc2⟩:∃ z,z=ck:=⟨_,rfl⟩
   obtain ⟨out2,ho2⟩:∃ z,z=out:=⟨_,rfl⟩
   have hR2:out2=Zdy t.id (t.ops.take (i+1))∧Zel es2 (i+1) out2:=⟨by rw [ho2,hou,hst hil];unfold ZaY;rw [Yc (by rw [hno];simp)],by rw [he2,ho2];exact ZqQ hvi⟩
   rw [← he2,← hc2,← ho2] at G
   refine Yx (Zi (Zn (Za (rZ G (qp r1 (qR rr qZ)) V [12,11,10,4,3,2,1] [103,102,101,50,0] fun G=>?_))))
   replace G:=G.ent (i:=12) (s':=.pv (.int .i64 ((i+1:Nat):Int))) Z (.int (Zd ow))
   obtain ⟨F,G⟩:=G.nM [11,10,4,2,1,3,12] [101,0,50,102]
   exact ⟨((i+1),(es2),(ck2),_,(out2)),F,⟨by omega,hR2⟩,G,by omega⟩
  have hyes:Zdu t.id (Nn t.ops i)=true:=by unfold Zdu;unfold ofO at hc1;cases hr:(Nn t.ops i).read <;> simp [hr] at hc1 ⊢;exact hc1
  have hvr:=hvi (ofO (Nn t.ops i))
  have hw1:IntKind.wrap .i64 (((gGet (ofO (Nn t.ops i)) es).getD 0)+1)=((gGet (ofO (Nn t.ops i)) es).getD 0)+1:=Zy (by have:=Sat.lenSl G (i:=10) rfl;omega)
  refine Ye (Za (Ya ?_))
  replace G:=G.turnZ 102 (0) (ofO (Nn t.ops i)) rfl
  refine Zbd 102 6 (m1:=1) (m2:=2) kr G kr (qR rr (qe 3 104 r1 r1 (qf (Zcg (ek:=(fun n:Int=>PV.int .i64 n)) (z0:=(0)) 102 underlying200 ZpK kr (fun _ _=>⟨rfl,ZcS⟩) .is (ZK.agg (enc:=ZdA) (k:=(ofO (Nn t.ops i))) (.pagg .t) Z)) r2 r1 (qp r1 (qf (Zbc (ek:=(fun n:Int=>PV.int .i64 n)) (z0:=(0)) 102 underlying200 ZpK kr (fun _ _=>⟨rfl,ZcS⟩) .is (ZK.agg (enc:=ZdA) (k:=(ofO (Nn t.ops i))) (.pagg .t) Z) (by intros;first | rfl | simp [Anc.v,upd])) r2 r1 (qf (o_extract .t Z) r1 qz (qf (ZaL 102 (ZbL _ _ _) .is .t .t) r3 r1 qZ))))))) kr kr kr Z Z Z (fun _ _ _ _ h=>.inr h) (by rw [V];kernel_rfl) fun a w F G=>?_
  obtain ⟨F,G⟩:=G.nM [12,11,10,7,4,3,2,1] [104,103,102,101,50,0]
  try dsimp only [List.map,xD,xE,xT,xU,ldSF,Zm,rOp,rTx,ZT] at G
  obtain ⟨es2,he2⟩:∃ z,z=gSet (ofO (Nn t.ops i)) (IntKind.wrap .i64 (((gGet (ofO (Nn t.ops i)) es).getD 0)+1)) (gEns 0 (ofO (Nn t.ops i)) (es,ck)).1:=⟨_,rfl⟩
  obtain ⟨ck2,hc2⟩:∃ z,z=(gEns 0 (ofO (Nn t.ops i)) (es,ck)).2:=⟨_,rfl⟩
  rw [← he2,← hc2] at G
  have hvv:∀ u,(gGet u es2).getD 0=if u=(ofO (Nn t.ops i)) then ((gGet (ofO (Nn t.ops i)) es).getD 0)+1 else (gGet u es).getD 0:=fun u=>by rw [he2,Zht,hw1]
  have hmv:(gGet (ofO (Nn t.ops i)) es2).getD 0=((gGet (ofO (Nn t.ops i)) es).getD 0)+1:=by rw [hvv,Yf rfl]
  have hvs:=Zrj hvi hvv
  refine Za (Ya (rZ G (qR rr (qe 3 104 r1 r1 (qf (Zat (ek:=(fun n:Int=>PV.int .i64 n)) (z0:=(0)) 102 underlying200 ZpK kr (fun _ _=>⟨rfl,ZcS⟩) .is (ZK.agg (enc:=ZdA) (k:=(ofO (Nn t.ops i))) (.pagg .t) Z)) r2 r1 (qf (o_eql .t qi) r1 qz qZ)))) V [42,12,11,10,7,4,3,2,1] [104,103,102,101,50,0] fun G=>?_))
  refine Zc G Z (fun hc2=>?_) (fun hc2=>?_)
  ·have hnm:(ofO (Nn t.ops i)) ∉ out:=by rw [← hvr.2.2];rw [hmv] at hc2;simp at hc2;omega
   obtain ⟨out2,ho2⟩:∃ z,z=out ++ [(ofO (Nn t.ops i))]:=⟨_,rfl⟩
   have hR2:out2=Zdy t.id (t.ops.take (i+1))∧Zel es2 (i+1) out2:=⟨by rw [ho2,hst hil];unfold ZaY;rw [Yf ⟨hyes,by rw [← hou];exact hnm⟩,← hou],by have:=hvs;rw [Yc hnm] at this;rw [ho2];exact this⟩
   refine Zb G (qR rr (qe 3 104 r1 r1 (qf (o_buildSliceE (sz:=3) (zs:=[.int .i64 0,.int .i64 0,.int .i64 0]) (r:=[(0,.tmp 44)]) (l:=[_,_,_]) underlying139 kr kr kr kr Z Z (.agg Z .t kr kr .nil) Z) r1 qz (qf (ZP (sz:=3) (bs:=24) 50 (.mk' underlying139 kr kr) (by intro x;rfl) .is (.arr (l':=[_]) .t) (by simp only [Yd,Yl,Yw,Yi,YE];omega) (by decide)) ⟨rfl,rfl,tv⟩ ⟨rfl,tv⟩ (qO rr qZ))))) V [12,11,10,4,3,2,1] [103,102,101,50,0] (fun _=>rfl) (fun _=>rfl) fun τ a w F G=>?_
   try dsimp only [RS.sub,SF.sub,CF.sub,csub,Anc.sub,List.map,Zf,xL,xM,Nat.reduceAdd,xD,xE,xT,xU,xC,xN,zCF,ldSF,Zm,rOp,rTx,ZT] at G
   generalize τ 46=v46 at G
   rw [← ho2] at G
   refine Zh (Za (rZ G (qp r1 (qR rr qZ)) V [12,11,10,4,3,2,1] [103,102,101,50,0] fun G=>?_))
   replace G:=G.ent (i:=12) (s':=.pv (.int .i64 ((i+1:Nat):Int))) Z (.int (Zd ow))
   obtain ⟨F,G⟩:=G.nM [11,10,4,2,1,3,12] [101,0,50,102]
   exact ⟨((i+1),(es2),(ck2),_,(out2)),F,⟨by omega,hR2⟩,G,by omega⟩
  have hnm:(ofO (Nn t.ops i)) ∈ out:=by rw [← hvr.2.2];rw [hmv] at hc2;simp at hc2;omega
  obtain ⟨out2,ho2⟩:∃ z,z=out:=⟨_,rfl⟩
  have hR2:out2=Zdy t.id (t.ops.take (i+1))∧Zel es2 (i+1) out2:=⟨by rw [ho2,hst hil];unfold ZaY;rw [Yc (by rw [← hou];simp [hnm])];exact hou,by have:=hvs;rw [Yf hnm] at this;rw [ho2];exact this⟩
  rw [← ho2] at G
  refine Ye (Zh (Za (rZ G (qp r1 (qR rr qZ)) V [12,11,10,4,3,2,1] [103,102,101,50,0] fun G=>?_)))
  replace G:=G.ent (i:=12) (s':=.pv (.int .i64 ((i+1:Nat):Int))) Z (.int (Zd ow))
  obtain ⟨F,G⟩:=G.nM [11,10,4,2,1,3,12] [101,0,50,102]
  exact ⟨((i+1),(es2),(ck2),_,(out2)),F,⟨by omega,hR2⟩,G,by omega⟩
 have hil:i=t.ops.length:=by simp at hc0;omega
 refine Yx (Zi (Zi (Zn (Za (Ya (rZ G (qR rr (qO rr qZ)) V [2] [102,101,50,0] fun G=>Yh ?_))))))
 obtain ⟨F,G⟩:=G.give 50 2 Z rfl
 refine Zs hfr G Z Z Z (.sl (by rw [hou,hil,Yz];rfl))
theorem Zqk (l:List Int) (v:Int):FnP prog 39 [.sl Zm l,.int .i64 v] (.int .i64 (ZaC v l)):=by
 refine FnP.mk func39 Z ntmps39 Z fun B a w F V hfr G=>?_
 have hll:=Sat.lenSl G (i:=0) rfl
 refine Ya (rZ G (qI qZ) V [4,1,0] [0] fun G=>(Ya (Ya ?_)))
 refine rZ G (qR rr (qu Ycd r1 (qJ qZ))) V [8,7,4,1,0] [0] fun G=>Yg ?_
 refine Zj (σ:=(Nat)) [0,1,4,7] [0] (fun s=>[(8,.pv (.int .i64 (s:Int)))]) (fun s=>[]) (fun s=>s≤l.length∧(∀ k,k<s→Nn l k≠v)) (fun s=>l.length - s) (0) G ⟨rfl,rfl,rfl,rfl,rfl,tv⟩ ⟨rfl,tv⟩ ⟨Yy _,fun k hk=>absurd hk (Y3 k)⟩ ?_
 clear G;intro i a w F hC G
 try dsimp only at hC
 obtain ⟨F,G⟩:=G.nM [8,7,4,1,0] [0]
 try dsimp only at G
 obtain ⟨hi,hq⟩:=hC
 refine Ya (rZ G (qL r2) V [9,8,7,4,1,0] [0] fun G=>Ya ?_)
 refine Zc G Z (fun hc0=>?_) (fun hc0=>?_)
 ·have hil:i<l.length:=by simp at hc0;omega
  refine Ye (Za (Ya (Yg (Ya (rZ G (qR rr (qO rr qZ)) V [8,7,5,4,1,0] [0] fun G=>Ya ?_)))))
  refine Ze G (qR rr (qR rr (qR rr (qy 1 Ycd r2 (qf (oR false 1 .t) r1 qz (qf (o_eql .t .t) r2 qz qZ)))))) V [16,8,7,5,4,1,0] [0] Z Z fun a w F G=>?_
  try simp only [Yb] at G
  refine Za (Zc G Z (fun hc1=>?_) (fun hc1=>?_))
  ·have hg:(i:Int)=ZaC v l:=(Zpi hil (by simp at hc1;omega) hq).symm
   refine Ya (rZ G (qR rr (qO rr qZ)) V [8,7,4,1,0] [0] fun G=>(Yh (Zz (Zk (Zk (Zz (Zk ?_)))))))
   refine Zs hfr G Z Z Z (.int hg)
  have hne:Nn l i≠v:=by simp at hc1;omega
  refine Ye (Zh (Za (rZ G (qp r1 (qR rr qZ)) V [8,7,4,1,0] [0] fun G=>?_)))
  replace G:=G.ent (i:=8) (s':=.pv (.int .i64 ((i+1:Nat):Int))) Z (.int (Zd ow))
  obtain ⟨F,G⟩:=G.nM [7,4,1,0,8] [0]
  exact ⟨(i+1),F,⟨by omega,(fun k hk=>by rcases Y0 (Y7 hk) with h | h;exact hq k h;rw [h];exact hne)⟩,G,by omega⟩
 have hil:i=l.length:=by simp at hc0;omega
 have hg : -1=ZaC v l:=(ZfZ fun k hk=>hq k (by simp at hc0;omega)).symm
 refine Yx (Zi (Zi (Zn (Za (Ya (rZ G (qI qZ) V [4] [0] fun G=>Yh ?_))))))
 refine Zs hfr G Z Z Z (.int hg)
theorem Zmz (l:List Int) (v:Int):FnP prog 148 [.sl Zm l,.int .i64 v] (.bool (decide (v ∈ l))):=by
 refine FnP.mk func148 Z ntmps148 Z fun B a w F V hfr G=>Ya ?_
 refine rZ G qB V [4,1,0] [0] fun G=>Ya ?_
 refine rZ G (qR rr (qR rr (qf (oP (Zqk l v) func39 (Args.two .t .t)) r2 qz (qf (Zbq .t qi) r1 qz (qO rr qZ))))) V [4] [0] fun G=>Yh ?_
 refine Zs hfr G Z Z Z (.bool (by rw [decide_eq_decide];exact ZqT))
theorem Ztp (x y:List Int):FnP prog 93 [.sl Zm x,.sl Zm y] (.bool (decide (x=y))):=by
 refine FnP.mk func93 Z ntmps93 Z fun B a w F V hfr G=>?_
 have hxl:=Sat.lenSl G (i:=0) rfl
 refine Ya (rZ G qB V [4,1,0] [0] fun G=>(Ya (Ya ?_)))
 refine rZ G (qR rr (qu Ycd r1 (qR rr (qu Ycd r1 (qf (o_neq .t .t) r2 qz qZ))))) V [10,4,1,0] [0] fun G=>?_
 refine Zc G Z (fun hc0=>?_) (fun hc0=>?_)
 ·have hg:false=decide (x=y):=by
    rw [Yaq,YD]
    intro h
    subst h
    simp at hc0
  refine Ya (rZ G qB V [4,1,0] [0] fun G=>(Yh (Zk ?_)))
  refine Zs hfr G Z Z Z (.bool hg)
 have hl:x.length=y.length:=by simp at hc0;omega
 refine Ye (Za (Ya (Ya (rZ G (qR rr (qu Ycd r1 (qJ qZ))) V [13,12,4,1,0] [0] fun G=>Yg ?_))))
 obtain ⟨F,G⟩:=G.nM [13,12,1,0] [0]
 refine Zbf (σ:=Nat) (fun s=>(⟨[(0,.pv (.sl Zm x)),(1,.pv (.sl Zm y)),(12,.pv (.int .i64 x.length)),(13,.pv (.int .i64 s))],[(0,frame B)]⟩:En)) (fun s=>s≤x.length ∧ ∀ j,j<s→Nn x j=Nn y j) (fun s=>x.length - s) 0 G ⟨Yy _,fun j hj=>absurd hj (Y3 j)⟩ ?_
 clear G;intro i a w F hC G
 try dsimp only at hC
 try dsimp only at G
 obtain ⟨hi,hq⟩:=hC
 refine Ya (rZ G (qL r2) V [14,13,12,1,0] [0] fun G=>Ya ?_)
 refine Zc G Z (fun hc1=>?_) (fun hc1=>?_)
 ·have hil:i<x.length:=by simp at hc1;omega
  refine Ye (Za (Ya (Yg (Ya (rZ G (qR rr (qO rr qZ)) V [13,12,5,1,0] [0] fun G=>Ya ?_)))))
  refine Zv G (qR rr (qR rr (qy 1 Ycd r2 (qf (oR false 1 .t) r1 qz (qR rr (qR rr (qy 1 Ycd r2 (qf (oR false 1 .t) r1 qz (qf (o_neq .t .t) r2 qz qZ))))))))) V [24,13,12,1,0] [0] Z Z fun a w F G=>?_
  try dsimp only [List.map,xD,xE,xT,xU,ldSF] at G
  refine Za (Zc G Z (fun hc2=>?_) (fun hc2=>?_))
  ·have hg:false=decide (x=y):=by
     rw [Yaq,YD]
     intro h
     subst h
     simp at hc2
   refine Ya (rZ G qB V [13,12,4,1,0] [0] fun G=>(Yh (Zz (Zk (Zk (Zz (Zk ?_)))))))
   refine Zs hfr G Z Z Z (.bool hg)
  rw [Yb] at hc2
  have hqi:Nn x i=Nn y i:=by simpa using hc2
  refine Ye (Zh (Za (rZ G (qp r1 (qR rr qZ)) V [13,12,1,0] [0] fun G=>?_)))
  replace G:=G.ent (i:=13) (s':=.pv (.int .i64 ((i+1:Nat):Int))) Z (.int (Zd ow))
  obtain ⟨F,G⟩:=G.nM [13,12,1,0] [0]
  exact ⟨i+1,F,⟨by omega,fun j hj=>by rcases Y0 (Y7 hj) with h | h;exact hq j h;rw [h];exact hqi⟩,G,by omega⟩
 have hg:true=decide (x=y):=by
   rw [Yaq,Yq]
   exact ZaW hl fun j hj=>hq j (by simp at hc1;omega)
 refine Yx (Zi (Zi (Zn (Za (Ya (rZ G qB V [4] [0] fun G=>Yh ?_))))))
 refine Zs hfr G Z Z Z (.bool hg)
theorem ZvC (x y:List Int) (hx:x.length≤1000000) (hy:y.length≤1000000):FnP prog 47 [.sl Zm x,.sl Zm y] (.bool (decide (x.Perm y))):=by
 refine FnP.mk func47 Z ntmps47 Z fun B a w F V hfr G=>Ya ?_
 refine rZ G qB V [4,1,0] [0] fun G=>Ya ?_
 replace G:=G.fresh 101 rfl
 replace G:=G.fresh 102 rfl
 refine Zb G (qR rr (qf (Zaq 101 (Zfe x hx) func42 Z kr (Args.one .t) pvOne1) r1 r1 (qR rr (qf (Zaq 102 (Zfe y hy) func42 Z kr (Args.one .t) pvOne1) r1 r1 (qO rr (qO rr qZ)))))) V [6,5,4] [102,101,0] (fun _=>rfl) (fun _=>rfl) fun τ a w F G=>?_
 try dsimp only [RS.sub,SF.sub,CF.sub,csub,Anc.sub,List.map,Zm] at G
 generalize τ 8=v8,τ 10=v10 at G
 refine Za (Ya (rZ G (qR rr (qf (Zbi 101 (ZiV _ x hx) func92 Z kr (Args.one .t)) r1 r1 qZ)) V [6,5,4] [102,101,0] fun G=>Ya ?_))
 refine rZ G (qR rr (qf (Zbi 102 (ZiV _ y hy) func92 Z kr (Args.one .t)) r1 r1 qZ)) V [6,5,4] [102,101,0] fun G=>Ya ?_
 refine rZ G (qR rr (qR rr (qf (OpC.lendRow 102 [16] (OpC.lendRow 101 [15] (oP (Ztp _ _) func93 (Args.two .t .t)) ⟨rfl,tv,tv⟩ (.pv (fun _ _ _ _ h=>h)) trivial (by rfl)) ⟨tv,rfl,tv⟩ (.pv (fun _ _ _ _ h=>h)) trivial (by rfl)) r2 r2 (qO rr qZ)))) V [4] [102,101,0] fun G=>Yh ?_
 refine Zs hfr G Z Z Z (.bool (by rw [decide_eq_decide];exact Zpn))
def zeroT:TxD:=⟨0,false,[]⟩
def ZaZ (l:List TxD):Prop:=l.length≤1000 ∧ ∀ t ∈ l,t.ops.length≤1000
def ZcY (l:List OrdD):Prop:=l.length≤4000 ∧ ∀ o ∈ l,o.txs.length≤1000
def Za7 (h:Zp):Prop:=ZaZ h.txs∧ZcY h.orders
theorem ZaZ.at {l:List TxD} (h:ZaZ l) {i:Nat} (hi:i<l.length):(Nn l i).ops.length≤1000:=h.2 _ (nth_mem hi)
theorem ZcY.at {l:List OrdD} (h:ZcY l) {i:Nat} (hi:i<l.length):(Nn l i).txs.length≤1000:=h.2 _ (nth_mem hi)
def ZU (l:List TxD) (id:Int):Option TxD:=l.find? fun t=>decide (t.id=id)
theorem Zrm {l:List TxD} {id:Int} {i:Nat} (hi:i<l.length) (h:(Nn l i).id=id) (hq:∀ k,k<i→(Nn l k).id≠id):ZU l id=some (Nn l i):=by
 unfold ZU
 rw [List.find?_eq_some_iff_getElem]
 refine ⟨by simpa using h,i,hi,(nth_eq hi).symm,fun j hj=>?_⟩
 have:=hq j hj
 rw [nth_eq ow] at this
 simpa using this
theorem Zm0 {l:List TxD} {id:Int} (hq:∀ k,k<l.length→(Nn l k).id≠id):ZU l id=none:=by
 unfold ZU
 rw [Ybv]
 intro x hx
 obtain ⟨k,hk,e⟩:=Yab hx
 have:=hq k hk
 rw [nth_eq hk,e] at this
 simpa using this
theorem findT_mem {l:List TxD} {id:Int} {t:TxD} (h:ZU l id=some t):t ∈ l∧t.id=id:=⟨List.mem_of_find?_eq_some h,by have:=List.find?_some h;simpa using this⟩
def Zj0 (h:Zp) (v:Zb0):Bool:=if v.tx=0∧v.nth=0 then decide (1≤v.key∧v.key≤1048575) else (ZU h.txs v.tx).isSome && (decide (1≤v.nth) && decide (v.nth≤(wcnt ((ZU h.txs v.tx).getD zeroT).ops v.key:Int)))
def Zdw (h:Zp) (t:TxD):Bool:=(ZfF t).all (Zj0 h)
def Z7 (t:TxD):List Int:=Zbp ((t.ops.filter fun o=>!o.read).map OpD.key)
theorem Zc7 {t:TxD} {k:Int} : k ∈ Z7 t ↔ 0<wcnt t.ops k:=by
 unfold Z7
 rw [(ZW _).2,Yu]
 unfold wcnt
 rw [List.length_pos_iff_exists_mem]
 constructor
 ·rintro ⟨o,ho,e⟩
  rw [YS] at ho
  exact ⟨o,by rw [YS];exact ⟨ho.1,by simp [e];simpa using ho.2⟩⟩
 ·rintro ⟨o,ho⟩
  rw [YS] at ho
  simp at ho
  exact ⟨o,by rw [YS];simp [ho.1,ho.2.1],ho.2.2⟩
theorem Zen (t:TxD):(Z7 t).length≤t.ops.length:=Y2 (Zf8 _) (by rw [YG];exact Yac _ _)
def Z4 (l:List TxD) (k:Int):List Int:=(l.filter fun t=>t.done && decide (0<wcnt t.ops k)).map TxD.id
theorem ZeX (l:List TxD) (k:Int):(Z4 l k).length≤l.length:=by unfold Z4;rw [YG];exact Yac _ _
theorem Zeh {l:List TxD} {i:Nat} (hi:i<l.length) (k:Int):Z4 (l.take (i+1)) k=Z4 (l.take i) k++if (Nn l i).done=true∧0<wcnt (Nn l i).ops k then [(Nn l i).id] else []:=by
 unfold Z4
 rw [Zo hi,Yaa,YO]
 congr 1
 by_cases h:(Nn l i).done=true∧0<wcnt (Nn l i).ops k
 ·rw [Yf h,Yar (by simp [h.1,h.2])];rfl
 ·rw [Yc h,Yas (by simp;intro e;exact Nat.eq_zero_of_not_pos fun e2=>h ⟨e,e2⟩)];rfl
def Zcu (l:List TxD):List Int:=Zbp ((l.filter fun t=>t.done).flatMap Z7)
theorem ZrM {l:List TxD} (h:ZaZ l) (i:Nat):(Zcu (l.take i)).length≤1000*i:=by
 unfold Zcu
 refine Y2 (Zf8 _) ?_
 have key:∀ l:List TxD,(∀ t ∈ l,t.ops.length≤1000)→((l.filter fun t=>t.done).flatMap Z7).length≤1000*l.length:=by
  intro l
  induction l with
  | nil=>intro _;simp
  | cons t l ih=>
   intro h
   have h1:=ih fun x hx=>h x (by simp [hx])
   have h2:=h t (by simp)
   have h3:=Zen t
   by_cases hd:t.done=true
   ·rw [Yar (by simpa using hd),YZ,Yd,Yl]
    omega
   ·rw [Yas (by simpa using hd),Yl]
    omega
 have h1:=key (l.take i) fun t ht=>h.2 t (Yak ht)
 have h2:(l.take i).length≤i:=by rw [Yi];omega
 exact Y2 h1 (Ybk _ h2)
theorem Zqo {l:List TxD} (h:ZaZ l):(Zcu l).length≤1000000:=by
 have h1:=ZrM h l.length
 rw [Yz] at h1
 have:=h.1
 omega
theorem Zc2 {l:List TxD} {k:Int} : k ∈ Zcu l ↔ Z4 l k≠[]:=by
 unfold Zcu
 rw [(ZW _).2,YaI]
 unfold Z4
 rw [ne_eq,List.map_eq_nil_iff,Ybm]
 constructor
 ·rintro ⟨t,ht,hk⟩ hn
  rw [YS] at ht
  have:=hn t ht.1
  simp [ht.2] at this
  have:=Zc7.1 hk
  simp_all
 ·intro hn
  simp only [Classical.not_forall] at hn
  obtain ⟨t,ht,h2⟩:=hn
  simp at h2
  exact ⟨t,by rw [YS];exact ⟨ht,by simpa using h2.1⟩,Zc7.2 (Nat.pos_of_ne_zero h2.2)⟩
def ZnE (h:Zp) (i:Nat):Prop:=(0<i→(Nn h.txs (i - 1)).id<(Nn h.txs i).id)∧ZaF (Nn h.txs i)=0∧Zdw h (Nn h.txs i)=true
instance (h:Zp) (i:Nat):Decidable (ZnE h i):=by unfold ZnE;exact inferInstance
def Zrt (h:Zp) (i:Nat):Prop:=(Nn h.orders i).key=Nn (Zcu h.txs) i∧(Nn h.orders i).txs.Perm (Z4 h.txs (Nn h.orders i).key)
instance (h:Zp) (i:Nat):Decidable (Zrt h i):=by unfold Zrt;exact inferInstance
def ZV (h:Zp):Prop:=h.txs.length≤4096∧(∀ i,i<h.txs.length→ZnE h i)∧h.orders.length=(Zcu h.txs).length ∧ ∀ i,i<h.orders.length→Zrt h i
instance (h:Zp):Decidable (ZV h):=by unfold ZV;exact inferInstance
def ZfR (h:Zp) (i:Nat):Prop:=(0<i→(Nn h.orders (i - 1)).key<(Nn h.orders i).key)∧(Nn h.orders i).txs≠[]∧(Nn h.orders i).txs.Perm (Z4 h.txs (Nn h.orders i).key)
theorem Zfq:∀ {l:List Int},(∀ i,i<l.length→0<i→Nn l (i - 1)<Nn l i)→Zdz l
 | [],_=>List.Pairwise.nil
 | [x],_=>by simp
 | x :: y :: l,h=>by
  have ih:=Zfq (l:=y :: l) fun i hi h0=>by
   have:=h (i+1) (by simpa using hi) ow
   obtain ⟨j,rfl⟩:∃ j,i=j+1:=⟨i - 1,by omega⟩
   have hj:j<l.length:=by simpa using hi
   rw [nth_eq (l:=x :: y :: l) (by simp;omega),nth_eq (l:=x :: y :: l) (by simp;omega)] at this
   rw [nth_eq (l:=y :: l) (by simp;omega),nth_eq (l:=y :: l) (by simp;omega)]
   exact this
  have h1:=h 1 (by simp) ow
  rw [nth_eq (by simp),nth_eq (by simp)] at h1
  simp at h1
  have ih2:=Yo.1 ih
  refine Yo.2 ⟨fun z hz=>?_,ih⟩
  rcases Yj.1 hz with rfl | hz
  ·exact h1
  ·have:=ih2.1 z hz;omega
theorem Zto {l:List Int} (h:Zdz l) {i:Nat} (hi:i<l.length) (h0:0<i):Nn l (i - 1)<Nn l i:=by
 rw [nth_eq hi,nth_eq ow]
 exact Yaz.1 h (i - 1) i ow hi ow
theorem Zkq:∀ {b a:List Int},Zdz a→Zdz b→(∀ x ∈ a,x ∈ b)→a.length≤b.length∧(a.length=b.length→a=b)
 | [],a,_,_,h=>by
  have:a = []:=List.eq_nil_iff_forall_not_mem.2 fun x hx=>by cases h x hx
  subst this;simp
 | y :: b,[],_,_,_=>⟨by simp,fun h=>by simp at h⟩
 | y :: b,x :: a,ha,hb,h=>by
  have ha':=Yo.1 ha
  have hb':=Yo.1 hb
  by_cases e:x=y
  ·subst e
   have ih:=Zkq (b:=b) (a:=a) ha'.2 hb'.2 fun z hz=>by
    rcases Yj.1 (h z (by simp [hz])) with e | e
    ·have:=ha'.1 z hz;omega
    ·exact e
   exact ⟨by simp;exact ih.1,fun hl=>by rw [ih.2 (by simpa using hl)]⟩
  ·have hx:y<x:=by
    rcases Yj.1 (h x (by simp)) with e2 | e2
    ·exact absurd e2 e
    ·exact hb'.1 x e2
   have ih:=Zkq (b:=b) (a:=x :: a) ha hb'.2 fun z hz=>by
    rcases Yj.1 (h z hz) with e2 | e2
    ·rcases Yj.1 hz with e3 | e3
     ·omega
     ·have:=ha'.1 z e3;omega
    ·exact e2
   exact ⟨by have:=ih.1;simp at this ⊢;omega,fun hl=>by have:=ih.1;simp at this hl;omega⟩
theorem Zcs {α β:Type} [Inhabited α] [Inhabited β] {f:α→β} {l:List α} {i:Nat} (h:i<l.length):Nn (l.map f) i=f (Nn l i):=by
 rw [nth_eq (by simpa using h),nth_eq h];simp
theorem Zdm (h:Zp):(h.orders.length=(Zcu h.txs).length ∧ ∀ i,i<h.orders.length→ZfR h i) ↔ (h.orders.length=(Zcu h.txs).length ∧ ∀ i,i<h.orders.length→Zrt h i):=by
 have hK:Zdz (Zcu h.txs):=(ZW _).1
 constructor
 ·rintro ⟨hl,hq⟩
  refine ⟨hl,?_⟩
  have hO:Zdz (h.orders.map OrdD.key):=Zfq fun i hi h0=>by
   have hi':i<h.orders.length:=by simpa using hi
   rw [Zcs ow,Zcs hi']
   exact (hq i hi').1 h0
  have hsub:∀ x ∈ h.orders.map OrdD.key,x ∈ Zcu h.txs:=fun x hx=>by
   obtain ⟨o,ho,rfl⟩:=Yu.1 hx
   obtain ⟨k,hk,e⟩:=Yab ho
   have:=hq k hk
   unfold ZfR at this
   rw [nth_eq hk,e] at this
   rw [Zc2]
   intro e2
   rw [e2] at this
   exact this.2.1 (List.Perm.eq_nil this.2.2)
  have he:=(Zkq hO hK hsub).2 (by simpa using hl)
  intro i hi
  refine ⟨?_,(hq i hi).2.2⟩
  rw [← he,Zcs hi]
 ·rintro ⟨hl,hq⟩
  refine ⟨hl,fun i hi=>?_⟩
  have hin:(Nn h.orders i).key ∈ Zcu h.txs:=by rw [(hq i hi).1];exact nth_mem ow
  refine ⟨fun h0=>?_,fun e=>?_,(hq i hi).2⟩
  ·rw [(hq i hi).1,(hq (i - 1) ow).1]
   exact Zto hK ow h0
  ·have:=(hq i hi).2
   rw [e] at this
   exact Zc2.1 hin this.symm.eq_nil
theorem ZgP {h:Zp} (hb:4096<h.txs.length):false=decide (ZV h):=(YF fun hr=>by have:=hr.1;omega).symm
theorem ZiF {h:Zp} {i:Nat} (hi:i<h.txs.length) (hb:¬ ZnE h i):false=decide (ZV h):=(YF fun hr=>hb (hr.2.1 i hi)).symm
theorem Zir {h:Zp} (hb:h.orders.length≠(Zcu h.txs).length):false=decide (ZV h):=(YF fun hr=>hb hr.2.2.1).symm
theorem ZgM {h:Zp} {i:Nat} (hi:i<h.orders.length) (hb:¬ ZfR h i):false=decide (ZV h):=(YF fun hr=>hb (((Zdm h).2 hr.2.2).2 i hi)).symm
theorem ZkS {h:Zp} (h1:h.txs.length≤4096) (h2:∀ i,i<h.txs.length→ZnE h i) (h3:h.orders.length=(Zcu h.txs).length) (h4:∀ i,i<h.orders.length→ZfR h i):true=decide (ZV h):=(Yag ⟨h1,h2,(Zdm h).1 ⟨h3,h4⟩⟩).symm
def ZuA (l:List Int):Option (List Int):=if l = [] then none else some l
theorem ZlH (l:List Int):(ZuA l).getD [] = l:=by
 unfold ZuA
 split
 ·rename_i h;rw [h];rfl
 ·rfl
def WrL (es:List (GE Int (List Int))) (l:List TxD):Prop:=GNd es ∧ ∀ k,gGet k es=ZuA (Z4 l k)
def WrV (es:List (GE Int (Value×List Int))) (l:List TxD) (id:Int) (ks:List Int):Prop:=GNd es ∧ ∀ k,(gGet k es).map (·.2)=ZuA (Z4 l k++if k ∈ ks then [id] else [])
theorem ZtQ {id:Int} : WrV [] [] id []:=⟨by simp [GNd],fun k=>by simp [gGet,Z4,ZuA]⟩
theorem Zrv {es:List (GE Int (Value×List Int))} {l:List TxD} {id:Int} (h:WrV es l id []):WrL (ZeV es) l:=⟨by unfold GNd;rw [ZkM];exact h.1,fun k=>by rw [Zhg,h.2];simp⟩
theorem Zro {es:List (GE Int (Value×List Int))} {l:List TxD} {id id':Int} (h:WrV es l id []):WrV es l id' []:=⟨h.1,fun k=>by rw [h.2];simp⟩
theorem Zuq {es:List (GE Int (Value×List Int))} {l:List TxD} {i:Nat} {id:Int} (h:WrV es (l.take i) id []) (hi:i<l.length) (hd:(Nn l i).done=false):WrV es (l.take (i+1)) id []:=⟨h.1,fun k=>by rw [h.2,Zeh hi];simp [hd]⟩
theorem Ztm {es:List (GE Int (Value×List Int))} {l:List TxD} {i:Nat} {id:Int} (h:WrV es (l.take i) (Nn l i).id (Z7 (Nn l i))) (hi:i<l.length) (hd:(Nn l i).done=true):WrV es (l.take (i+1)) id []:=⟨h.1,fun k=>by
 rw [h.2,Zeh hi]
 congr 1
 simp only [YbV,Yp,YR]
 congr 1
 by_cases hk:k ∈ Z7 (Nn l i)
 ·rw [Yf hk,Yf ⟨hd,Zc7.1 hk⟩]
 ·rw [Yc hk,Yc fun h9=>hk (Zc7.2 h9.2)]⟩
theorem Zs8 {es:List (GE Int (Value×List Int))} {l:List TxD} {id:Int} {ks:List Int} {j:Nat} (h:WrV es l id (ks.take j)) (hn:ks.Nodup) (hj:j<ks.length):((gGet (Nn ks j) es).getD ZhY).2=Z4 l (Nn ks j):=by
 have h1:=h.2 (Nn ks j)
 have hni:Nn ks j ∉ ks.take j:=fun hm=>by
  rw [nth_eq hj] at hm
  obtain ⟨k,hk,e⟩:=Yab hm
  rw [Yi] at hk
  rw [List.getElem_take] at e
  have h3:=Yaz.1 hn k j ow hj ow
  exact h3 e
 rw [Yc hni,YR] at h1
 have h2:=ZlH (Z4 l (Nn ks j))
 rw [← h1] at h2
 rw [← h2]
 cases gGet (Nn ks j) es <;> rfl
theorem Zuk {es:List (GE Int (Value×List Int))} {l:List TxD} {id:Int} {ks:List Int} {j ck:Nat} {v:Value} (h:WrV es l id (ks.take j)) (hn:ks.Nodup) (hj:j<ks.length):WrV (gPut (Nn ks j) (v,((gGet (Nn ks j) es).getD ZhY).2 ++ [id]) (es,ck)).1 l id (ks.take (j+1)):=⟨GNd.put h.1,fun k=>by
 rw [Zdk,Zs8 h hn hj,Zo hj]
 by_cases e:k=Nn ks j
 ·subst e
  rw [Yf rfl,Yf (by simp)]
  simp [ZuA]
 ·rw [Yc e,h.2]
  simp [e]⟩
theorem ZvL {es:List (GE Int (List Int))} {l:List TxD} (h:WrL es l) (k:Int):(gGet k es).getD [] = Z4 l k:=by rw [h.2,ZlH]
theorem Zvg {es:List (GE Int (List Int))} {l:List TxD} (h:WrL es l):es.length=(Zcu l).length:=by
 have h1:(es.map (·.key)).Perm (Zcu l):=by
  refine (List.perm_ext_iff_of_nodup h.1 ((ZW _).1.imp fun h=>Int.ne_of_lt h)).2 fun k=>?_
  rw [← Zfi,h.2,show (k ∈ Zbp ((l.filter fun t=>t.done).flatMap Z7)) ↔ Z4 l k≠[] from Zc2]
  unfold ZuA
  split <;> simp_all
 simpa using h1.length_eq
theorem Zft (t:TxD):(Z7 t).Nodup:=(ZW _).1.imp fun h=>Int.ne_of_lt h
theorem Zi6 {α:Type} {R:α→List PV} {w:World} {y:Ys} : (PV.sl R ([]:List α)).p (.slice none 0 0) w y:=⟨none,0,rfl,YL _,by unfold maxLen;omega,.inl rfl⟩
theorem ZhO (t:TxD) (hl:t.ops.length≤1000000):FnP prog 62 [.agg (rTx t)] (.agg (rTx t)):=by
 refine FnP.mk func62 Z ntmps62 Z fun B a w F V hfr G=>Ya ?_
 refine Zb G (qx 101 r1 (qf (oH [.int .i64 0,.bool false,.slice none 0 0] 102) trivial qz qZ)) V [2,1] [102,101,0] (fun _=>rfl) (fun _=>rfl) fun τ a w F G=>?_
 try dsimp only [RS.sub,SF.sub,CF.sub,csub,Anc.sub,List.map,zCF,Zu,rTx,ZG,ZT,Zm,rOp] at G
 generalize τ 1=v1,τ 2=v2 at G
 refine Za (Ya ?_)
 replace G:=G.fresh 103 rfl
 refine Zb G (qg 2 101 r1 r1 (qa 101 r1 r1 (qf (Zaq 103 (Zsk t.ops hl) func102 Z kr (Args.one .t) pvOne1) r1 r1 (qg 2 101 r1 r1 (qf (o_storeS 101 .adr kr kr) r2 r1 qZ))))) V [2,1] [103,102,101,0] (fun _=>rfl) (fun _=>rfl) fun τ a w F G=>?_
 try dsimp only [RS.sub,SF.sub,CF.sub,csub,Anc.sub,List.map,Zf,xL,xM,Nat.reduceAdd,xD,xE,xT,xU,xC,xN,zCF,ldSF,Zu,rTx,ZG,ZT,Zm,rOp] at G
 generalize τ 5=v5 at G
 obtain ⟨F,G⟩:=G.giveCell 103 101 2 Z Z Z Z rfl
 try dsimp only [List.set] at G
 obtain ⟨F,G⟩:=G.nM [2,1] [102,101,0]
 refine Za (Ya (rZ G (qe 3 101 r1 r1 (qs 3 102 r2 r1 qZ)) V [2] [102,101,0] fun G=>Yh ?_))
 refine Z5 hfr G Z (.cl 102 true 3 Z Z .nil) (.one (.aggU Z Z))
theorem find_c (g:Zp) (id:Int) (hs:ZaZ g.txs):FnP prog 28 [.agg (Zu g),.int .i64 id] (.tup [.agg (rTx ((ZU g.txs id).getD zeroT)),.bool (ZU g.txs id).isSome]):=by
 refine FnP.mk func28 Z ntmps28 Z fun B a w F V hfr G=>?_
 have hsl:=hs.1
 refine Ya (Zb G (qx 101 r1 (qf (oH [.int .i64 0,.bool false,.slice none 0 0] 102) trivial qz qB)) V [5,4,2,1] [102,101,0] (fun _=>rfl) (fun _=>rfl) fun τ a w F G=>?_)
 try dsimp only [RS.sub,SF.sub,CF.sub,csub,Anc.sub,List.map,zCF,Zu,rTx,ZG,ZT,Zm,rOp] at G
 generalize τ 2=v2,τ 4=v4 at G
 refine Za (Ya (Ya (rZ G (qg 0 101 r1 r1 (qa 101 r1 r1 (qu Ycg r1 (qJ qZ)))) V [11,10,9,5,4,1] [102,101,0] fun G=>Yg ?_)))
 refine Zj (σ:=(Nat)) [1,4,5,9,10] [0,101,102] (fun s=>[(11,.pv (.int .i64 (s:Int)))]) (fun s=>[]) (fun s=>s≤g.txs.length∧(∀ k,k<s→(Nn g.txs k).id≠id)) (fun s=>g.txs.length - s) (0) G ⟨rfl,rfl,rfl,rfl,rfl,rfl,tv⟩ ⟨rfl,rfl,rfl,tv⟩ ⟨Yy _,fun k hk=>absurd hk (Y3 k)⟩ ?_
 clear G;intro i a w F hC G
 try dsimp only at hC
 obtain ⟨F,G⟩:=G.nM [11,10,9,5,4,1] [102,101,0]
 try dsimp only at G
 obtain ⟨hi,hq⟩:=hC
 refine Ya (rZ G (qL r2) V [12,11,10,9,5,4,1] [102,101,0] fun G=>Ya ?_)
 refine Zc G Z (fun hc0=>?_) (fun hc0=>?_)
 ·have hil:i<g.txs.length:=by simp at hc0;omega
  refine Ye (Za (Ya (Yg (Ya (Zb G (qy 3 Ycg r2 (qf (oR true 3 .t) r1 qz (qf (oH [.int .i64 0,.bool false,.slice none 0 0] 103) trivial qz (qS 3 103 r2 r1 qZ)))) V [11,10,9,7,5,4,1] [103,102,101,0] (fun _=>rfl) (fun _=>rfl) fun τ a w F G=>?_)))))
  try dsimp only [RS.sub,SF.sub,CF.sub,csub,Anc.sub,List.map,Zf,xL,xM,Nat.reduceAdd,xD,xE,xT,xU,xC,xN,zCF,ldSF,Zu,rTx,ZG,ZT,Zm,rOp] at G
  generalize τ 7=v7 at G
  try simp only [Yb] at G
  refine Za (Ya (rZ G (qg 0 103 r1 r1 (qa 103 r1 r1 (qR rr (qf (o_eql .t .t) r2 qz qZ)))) V [18,11,10,9,7,5,4,1] [103,102,101,0] fun G=>?_))
  refine Zc G Z (fun hc1=>?_) (fun hc1=>?_)
  ·have hg:ZU g.txs id=some (Nn g.txs i):=Zrm hil (by simpa using hc1) hq
   refine Ya (rZ G (qe 3 103 r1 r1 (qf (oP (ZhO (Nn g.txs i) (by have:=hs.at hil;omega)) func62 (Args.one (.pagg .t))) r1 qz (qf (oA 3 102 .is (.conv .t .agg)) r2 r1 qB))) V [11,10,9,5,4,1] [103,102,101,0] fun G=>(Yh (Zz (Zk (Zk (Zz (Zk ?_)))))))
   refine Z5 hfr G Z (.cl 102 true 3 Z Z (.tmp Z .nil)) (.two (by rw [hg];first | exact .aggU Z Z | exact .aggLe Z ⟨.refl,.refl,.nilSl,tv⟩) (.bool (by rw [hg];rfl)))
  have hne:(Nn g.txs i).id≠id:=by simpa using hc1
  refine Ye (Zh (Za (rZ G (qp r1 (qR rr qZ)) V [11,10,9,5,4,1] [103,102,101,0] fun G=>?_)))
  replace G:=G.ent (i:=11) (s':=.pv (.int .i64 ((i+1:Nat):Int))) Z (.int (Zd ow))
  obtain ⟨F,G⟩:=G.nM [10,9,5,4,1,11] [102,101,0]
  exact ⟨(i+1),F,⟨by omega,(fun k hk=>by rcases Y0 (Y7 hk) with h9 | h9;exact hq k h9;rw [h9];exact hne)⟩,G,by omega⟩
 have hil:i=g.txs.length:=by simp at hc0;omega
 have hg:ZU g.txs id=none:=Zm0 (by rw [← hil];exact hq)
 refine Yx (Zi (Zi (Zn (Za (Ya (rZ G (qf (oB [] [.int .i64 0,.bool false,.slice none 0 0] [(0,1),(1,1),(2,1)] .nil) trivial qz (qs 3 102 r2 r1 qB)) V [5,4] [102,101,0] fun G=>Yh ?_))))))
 refine Z5 hfr G Z (.cl 102 true 3 Z Z (.tmp Z .nil)) (.two (by rw [hg];first | exact .aggU Z Z | exact .aggLe Z ⟨.refl,.refl,.nilSl,tv⟩) (.bool (by rw [hg];rfl)))
theorem Zv1 (g:Zp) (v:Zb0) (hs:ZaZ g.txs):FnP prog 90 [.agg (Zu g),.agg (ZT v)] (.bool (Zj0 g v)):=by
 refine FnP.mk func90 Z ntmps90 Z fun B a w F V hfr G=>Ya ?_
 refine Zb G (qx 101 r1 (qx 102 r1 qB)) V [4,3,2] [102,101,0] (fun _=>rfl) (fun _=>rfl) fun τ a w F G=>?_
 try dsimp only [RS.sub,SF.sub,CF.sub,csub,Anc.sub,List.map,zCF,Zu,rTx,ZG,ZT,Zm,rOp] at G
 generalize τ 2=v2,τ 3=v3 at G
 refine Za (Ya (Ya (rZ G (qg 0 102 r1 r1 (qa 102 r1 r1 (qf (o_eql .t qi) r1 qz (qR rr (qv 2 102 Z r2 r1 (qw 102 Z r2 r1 (qk Z (fun h=>o_eql (.w h) qi) r2 qz (qf (ZD .t .t) r2 qz qZ)))))))) V [14,4,3,2] [102,101,0] fun G=>?_)))
 refine Zc G Z (fun hc0=>?_) (fun hc0=>?_)
 ·have h0:(v.tx=0∧v.nth=0):=by simpa using hc0
  have hu:Zj0 g v=decide (1≤v.key∧v.key≤1048575):=by unfold Zj0;rw [Yf h0]
  refine Ya (rZ G (qg 1 102 r1 r1 (qa 102 r1 r1 (qf (Zbq .t qi) r1 qz (qR rr (qv 1 102 Z r2 r1 (qw 102 Z r2 r1 (qk Z (fun h=>Zkb (.w h) qi) r2 qz (qf (ZD .t .t) r2 qz (qO rr qZ))))))))) V [4,3,2] [102,101,0] fun G=>(Yh (Zk ?_)))
  refine Zs hfr G Z Z Z (.bool (by first | (rw [hu,Yb2];done) | (rw [hu];unfold idB;rw [Yb2];done) | (unfold Zj0 wcnt;rw [Yc h0,Bool.and_assoc])))
 have h0:¬ (v.tx=0∧v.nth=0):=by simpa using hc0
 have hfl:((ZU g.txs v.tx).getD zeroT).ops.length≤1000:=by cases hf:ZU g.txs v.tx with | none=>simp [zeroT] | some t=>exact hs.2 _ (findT_mem hf).1
 refine Ye (Za (Ya (Zb G (qe 2 101 r1 r1 (qg 0 102 r1 r1 (qa 102 r1 r1 (qf (oP (find_c g v.tx hs) func28 (Args.two (.pagg .t) .t)) r2 qz (qR rr (qf (o_extract .t Z) r1 qz (qf (o_extract .t Z) r1 qz (qf (oH [.int .i64 0,.bool false,.slice none 0 0] 103) trivial qz (qf (oA 3 103 .same (.conv .t .agg)) r2 r1 (qO rr qZ)))))))))) V [6,5,4,3] [103,102,101,0] (fun _=>rfl) (fun _=>rfl) fun τ a w F G=>?_)))
 try dsimp only [RS.sub,SF.sub,CF.sub,csub,Anc.sub,List.map,Zf,xL,xM,Nat.reduceAdd,xD,xE,xT,xU,xC,xN,zCF,ldSF,Zu,rTx,ZG,ZT,Zm,rOp] at G
 generalize τ 5=v5 at G
 refine Za (Ya (Zv G (qR rr (qR rr (qv 2 102 Z r2 r1 (qw 102 Z r2 r1 (qk Z (fun h=>Zbq (.w h) qi) r2 qz (qf (ZD .t .t) r2 qz (qR rr (qk Z (fun h=>oL true 3 103 .is) r2 r1 (qv 1 102 Z r2 r1 (qw 102 Z r2 r1 (qk Z (fun h=>oP (Zdc ((ZU g.txs v.tx).getD zeroT) v.key ow) func29 (Args.two (.pagg (.w h)) (.w h))) r3 qz (qv 2 102 Z r2 r1 (qw 102 Z r2 r1 (qk Z (fun h=>Zbq (.w h) (.w h)) r3 qz (qf (ZD .t .t) r2 qz (qO rr qZ)))))))))))))))) V [4] [103,102,101,0] Z Z fun a w F G=>?_))
 try dsimp only [List.map,xD,xE,xT,xU,ldSF,Zu,rTx,ZG,ZT,Zm,rOp] at G
 refine Za (Yh (Zs hfr G Z Z Z (.bool (by first | (rw [hu,Yb2];done) | (rw [hu];unfold idB;rw [Yb2];done) | (unfold Zj0 wcnt;rw [Yc h0,Bool.and_assoc])))))
theorem Zjt {α:Type} [Inhabited α] {p:α→Bool} {l:List α} : decide (0≤Z3 p l)=l.any p:=by
 rcases Zaw p l with ⟨h1,h2⟩ | ⟨i,h1,h2,h3,h4⟩
 ·rw [h1,Yaq,show decide ((0:Int) ≤ -1)=false by decide,List.any_eq_false]
  intro x hx
  obtain ⟨k,hk,e⟩:=Yab hx
  have:=h2 k hk
  rw [nth_eq hk,e] at this
  simp [this]
 ·rw [h1,show decide ((0:Int)≤(i:Int))=true by simp,Yaq,YaA]
  exact ⟨_,nth_mem h2,h3⟩
theorem Ztu {α:Type} {p:α→Bool} {l:List α} : (!l.any fun v=>!p v)=l.all p:=by
 induction l with
 | nil=>rfl
 | cons x l ih=>rw [YbQ,List.all_cons,← ih];cases p x <;> simp
theorem ZuK (l : List Zb0) (p : Zb0 → Bool) (f : FuncId) (fn : Func) (cps : List PV) (hf : prog.funcs[f]? = some fn) (hb : fn.body.isSome = true) (hnn : (fn.name == "runtime.NumGoroutine") = false) (hw : ∀ x, FnP prog f (.agg (ZT x) :: cps) (.bool (p x))) : FnP prog 138 [.sl ZT l, .clos f cps] (.int .i64 (Z3 p l)) := by
 refine FnP.mk func138 Z ntmps138 Z fun B a w F V hfr G=>?_
 have hll:=Sat.lenSl G (i:=0) rfl
 refine Ya (rZ G (qI qZ) V [4,1,0] [0] fun G=>(Ya (Ya ?_)))
 refine rZ G (qR rr (qu underlying139 r1 (qJ qZ))) V [8,7,4,1,0] [0] fun G=>Yg ?_
 refine Zj (σ:=(Nat)) [0,1,4,7] [0] (fun s=>[(8,.pv (.int .i64 (s:Int)))]) (fun s=>[]) (fun s=>s≤l.length∧(∀ k,k<s→p (Nn l k)=false)) (fun s=>l.length - s) (0) G ⟨rfl,rfl,rfl,rfl,rfl,tv⟩ ⟨rfl,tv⟩ ⟨Yy _,fun k hk=>absurd hk (Y3 k)⟩ ?_
 clear G;intro i a w F hC G
 try dsimp only at hC
 obtain ⟨F,G⟩:=G.nM [8,7,4,1,0] [0]
 try dsimp only at G
 obtain ⟨hi,hq⟩:=hC
 refine Ya (rZ G (qL r2) V [9,8,7,4,1,0] [0] fun G=>Ya ?_)
 refine Zc G Z (fun hc0=>?_) (fun hc0=>?_)
 ·skip
  have hil:i<l.length:=by simp at hc0;omega
  refine Ye (Za (Ya (Yg (Ya (rZ G (qR rr (qO rr qZ)) V [8,7,5,4,1,0] [0] fun G=>Ya ?_)))))
  refine Ze G (qR rr (qR rr (qR rr (qy 3 underlying139 r2 (qf (oR true 3 .t) r1 qz (qf (ZM (avs:=[.agg (ZT (Nn l i))]) .t (hw (Nn l i)) hf hb hnn (Args.one (.pagg .t))) r2 qz qZ)))))) V [16,8,7,5,4,1,0] [0] Z Z fun a w F G=>?_
  try simp only [Yb] at G
  refine Za (Zc G Z (fun hc1=>?_) (fun hc1=>?_))
  ·skip
   have hg:(i:Int)=Z3 p l:=(Zcl hil hc1 hq).symm
   refine Ya (rZ G (qR rr (qO rr qZ)) V [8,7,4,1,0] [0] fun G=>(Yh (Zz (Zk (Zk (Zz (Zk ?_)))))))
   refine Zs hfr G Z Z Z (.int hg)
  have hne:p (Nn l i)=false:=hc1
  refine Ye (Zh (Za (rZ G (qp r1 (qR rr qZ)) V [8,7,4,1,0] [0] fun G=>?_)))
  replace G:=G.ent (i:=8) (s':=.pv (.int .i64 ((i+1:Nat):Int))) Z (.int (Zd ow))
  obtain ⟨F,G⟩:=G.nM [7,4,1,0,8] [0]
  exact ⟨(i+1),F,⟨by omega,(fun k hk=>by rcases Y0 (Y7 hk) with h | h;exact hq k h;rw [h];exact hne)⟩,G,by omega⟩
 have hil:i=l.length:=by simp at hc0;omega
 have hg : -1=Z3 p l:=(Zbm fun k hk=>hq k (by simp at hc0;omega)).symm
 refine Yx (Zi (Zi (Zn (Za (Ya (rZ G (qI qZ) V [4] [0] fun G=>Yh ?_))))))
 refine Zs hfr G Z Z Z (.int hg)
theorem ZtZ (l : List Zb0) (p : Zb0 → Bool) (f : FuncId) (fn : Func) (cps : List PV) (hf : prog.funcs[f]? = some fn) (hb : fn.body.isSome = true) (hnn : (fn.name == "runtime.NumGoroutine") = false) (hw : ∀ x, FnP prog f (.agg (ZT x) :: cps) (.bool (p x))) : FnP prog 87 [.sl ZT l, .clos f cps] (.bool (l.any p)) := by
 refine FnP.mk func87 Z ntmps87 Z fun B a w F V hfr G=>Ya ?_
 refine rZ G qB V [4,1,0] [0] fun G=>Ya ?_
 refine rZ G (qR rr (qR rr (qf (oP (ZuK l p f fn cps hf hb hnn hw) func138 (Args.two .t .t)) r2 qz (qf (Zbq .t qi) r1 qz (qO rr qZ))))) V [4] [0] fun G=>Yh ?_
 refine Zs hfr G Z Z Z (.bool (by rw [Zjt]))
theorem ZpT (v:Zb0) (g:Zp) (hs:ZaZ g.txs):FnP prog 89 [.agg (ZT v),.ref (Zu g)] (.bool (!Zj0 g v)):=by
 refine FnP.mk func89 Z ntmps89 Z fun B a w F V hfr G=>Ya ?_
 refine Zb G (qx 101 r1 qB) V [3,2,1] [101,0] (fun _=>rfl) (fun _=>rfl) fun τ a w F G=>?_
 try dsimp only [RS.sub,SF.sub,CF.sub,csub,Anc.sub,List.map,zCF,Zu,rTx,ZG,ZT,Zm,rOp] at G
 generalize τ 2=v2 at G
 refine Za (Ya (rZ G (qf (oR true 2 .t) r1 qz (qe 3 101 r1 r1 (qf (oP (Zv1 g v hs) func90 (Args.two (.pagg .t) (.pagg .t))) r2 qz (qf (o_not .t) r1 qz (qO rr qZ))))) V [3] [101,0] fun G=>Yh ?_))
 refine Zs hfr G Z Z Z .refl
theorem Zk8 (g:Zp) (t:TxD) (hs:ZaZ g.txs) (ht:t.ops.length≤1000):FnP prog 45 [.agg (Zu g),.agg (rTx t)] (.bool (Zdw g t)):=by
 refine FnP.mk func45 Z ntmps45 Z fun B a w F V hfr G=>Ya ?_
 refine Zb G (qx 101 r1 (qx 102 r1 qB)) V [4,3,2] [102,101,0] (fun _=>rfl) (fun _=>rfl) fun τ a w F G=>?_
 try dsimp only [RS.sub,SF.sub,CF.sub,csub,Anc.sub,List.map,zCF,Zu,rTx,ZG,ZT,Zm,rOp] at G
 generalize τ 2=v2,τ 3=v3 at G
 refine Za (Ya (Zap 2 G kr (cG Z (oL true 3 102 .is) r1 r1 (cG Z (oP (ZpP t ow) func88 (Args.one (.pagg .t))) r1 trivial ChainN.nil)) kr (by rw [V];kernel_rfl) fun a w F G=>?_))
 obtain ⟨F,G⟩:=G.nM [6,4,2] [102,101,0]
 try dsimp only [List.map,xD,xE,xT,xU,ldSF,Zu,rTx,ZG,ZT,Zm,rOp] at G
 obtain ⟨F,G⟩:=G.giveRef 101 2 Z Z rfl
 obtain ⟨F,G⟩:=G.nM [6,4,2] [102,0]
 try dsimp only [Go.Gm.unCF] at G
 refine ZaH G kr (cG Z (ZaO (Args.one .t)) r1 trivial (cG Z (oP (ZtZ (ZfF t) (fun v=>!Zj0 g v) 89 f89 [.ref (Zu g)] func89 Z kr (fun v=>ZpT v g hs)) func87 (Args.two .t .t)) r2 trivial (cG Z (o_not .t) r1 trivial (cG Z (oN .t) r1 trivial ChainN.nil)))) kr (by rw [V];kernel_rfl) fun a w F G=>?_
 obtain ⟨F,G⟩:=G.nM [4] [102,0]
 try dsimp only [Zu,rTx,ZG,ZT,Zm,rOp] at G
 refine Za (Yh (Zs hfr G Z Z Z (.bool (by rw [Ztu];rfl))))
end Go.Proofs.YtlkpllemoepamaaGreat
