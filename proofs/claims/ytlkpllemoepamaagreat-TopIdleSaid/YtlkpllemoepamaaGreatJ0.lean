/- Texts put together. No condition beyond those that each theorem says. -/
import Derived.Test.YtlkpllemoepamaaGreatLibW
import Derived.Test.YtlkpllemoepamaaGreatLibL
import Derived.Test.YtlkpllemoepamaaGreatLibE
import Derived.Laws.BitsLemmas
import Derived.Laws.MathBits
import Derived.Shelf.Sort.Plain
import Derived.Shelf.Slices.In.SortNone
namespace Go.Proofs.YtlkpllemoepamaaGreat
open Go Go.Gm Tryz
set_option linter.unusedVariables false
set_option linter.unusedSimpArgs false
set_option maxHeartbeats 4000000
set_option maxRecDepth 8000
theorem Ycd:type_of% @underlying45:=@underlying45
theorem Yce:type_of% @underlying31:=@underlying31
theorem Ycf:type_of% @underlying23:=@underlying23
theorem Ycg:type_of% @underlying22:=@underlying22
theorem Ych:type_of% @underlying220:=@underlying220
theorem Yci:type_of% @underlying28:=@underlying28
theorem Ycj:type_of% @underlying161:=@underlying161
theorem Yck:type_of% @underlying162:=@underlying162
theorem Ycl:type_of% @underlying3:=@underlying3
theorem Ycm:type_of% @underlying287:=@underlying287
theorem Ycn:type_of% @underlying226:=@underlying226
theorem Yco:type_of% @underlying213:=@underlying213
theorem Ycp:type_of% @underlying278:=@underlying278
theorem Ycq:type_of% @underlying250:=@underlying250
theorem Ycr:type_of% @underlying127:=@underlying127
theorem Ycs:type_of% @underlying4:=@underlying4
theorem Yct:type_of% @underlying9:=@underlying9
theorem Ycu:type_of% @underlying175:=@underlying175
theorem Ycv:type_of% @underlying247:=@underlying247
theorem Ycw:type_of% @underlying105:=@underlying105
theorem Zz {x:Int} (h : -9223372036854775808≤x∧x≤9223372036854775807):IntKind.wrap .i64 x=x:=Zf3 ⟨by simp [IntKind.min,IntKind.signed,IntKind.bits];omega,by simp [IntKind.max,IntKind.signed,IntKind.bits];omega⟩
theorem Zd {i:Nat} (h:i<9223372036854775807):IntKind.wrap .i64 ((i:Int)+1)=((i+1:Nat):Int):=by rw [Zz ow];omega
theorem Zan {x:Int} (h:0≤x∧x≤18446744073709551615):IntKind.wrap .u64 x=x:=Zf3 ⟨by simp [IntKind.min,IntKind.signed,IntKind.bits];omega,by simp [IntKind.max,IntKind.signed,IntKind.bits];omega⟩
theorem Zak (x:Int):IntKind.wrap .u64 x=x % 18446744073709551616:=by simp [IntKind.wrap,IntKind.bits,IntKind.signed]
theorem Zoy {x:Int} (h:inR .i64 x) : -9223372036854775808≤x∧x≤9223372036854775807:=by simpa [inR,IntKind.min,IntKind.max,IntKind.signed,IntKind.bits] using h
theorem Zgm {x:Int} (h:inR .u64 x):0≤x∧x≤18446744073709551615:=by simpa [inR,IntKind.min,IntKind.max,IntKind.signed,IntKind.bits] using h
theorem Sat.lenSl {α:Type} {R:α→List PV} {B:Zbo} {E:En} {a:Act} {w:World} {F:Fp} (h:Sat B E a w F) {i:Nat} {l:List α} (hl:Go.Gm.look E.s i=some (SF.pv (PV.sl R l))):l.length≤9223372036854775807:=by
 obtain ⟨_,cap,_,h1,h2,_⟩:=h.s i _ hl
 unfold maxLen at h2
 omega
def Zn (n:Int):List PV:=[.int .i64 n]
theorem Zbd.any {ss:List SF} : Zbd ss .any:=fun _ _ _ _ _=>trivial
theorem ZaV {α:Type} [Inhabited α] {x y:List α} (hl:x.length=y.length) (h:∀ j,j<x.length→Nn x j=Nn y j):x=y:=by
 apply Ya3 hl
 intro j h1 h2
 have:=h j h1
 rwa [nth_eq h1,nth_eq h2] at this
theorem ZpS {α:Type} [Inhabited α] {q:List α} {k:Nat} (h:k<q.length):q.take k ++ [Nn q k] = q.take (k+1):=by
 rw [nth_eq h,List.take_succ_eq_append_getElem h]
theorem nth_mem {α:Type} [Inhabited α] {q:List α} {k:Nat} (h:k<q.length):Nn q k ∈ q:=by rw [nth_eq h];exact Ya2 h
theorem Zr8 {α:Type} [Inhabited α] {l:List α} {i:Nat} (h:i<l.length):l.drop i=Nn l i :: l.drop (i+1):=by rw [nth_eq h];exact Ya8 h
theorem Zp {α:Type} [Inhabited α] {l:List α} {i:Nat} (h:i<l.length):l.take (i+1)=l.take i ++ [Nn l i]:=(ZpS h).symm
theorem Ent.adr0 {b:Nat} : Ent (.adr (.val (.pointer (some ⟨b,0,none⟩))) 0) (.pv (.is (.pointer (some ⟨b,0,none⟩)))):=fun _ _ _ _ h=>by
 have e:_=Value.pointer (some ⟨b,0,none⟩):=h
 exact ⟨e,by rw [e];rfl⟩
def Zup (v rv:Value) (room:Int) (l:List Int):List RS:=[.pt (.val v) 271 [.pv (.is rv),.pv (.int .i64 room)],.ob (.val rv) (Zy 3 1 Zn l)]
def stH (v:Value) (room:Int) (l:List Int):HP:=.ex fun rv:Value=>.star (Zup v rv room l)
def ZbX (n:Int):Int:=if 65536<(if n<0 then 0 else n) then 65536 else (if n<0 then 0 else n)
theorem Zga {n:Int} (h:0≤n∧n≤65536):ZbX n=n:=by unfold ZbX;rw [Yc (show ¬ n<0 by omega),Yc ow]
theorem ZpO (n:Int):0≤ZbX n∧ZbX n≤65536:=by unfold ZbX;split <;> split <;> omega
def Zq8 (room:Int) (l:List Int):Int:=if room - l.length=0 then 2 else 0
def ZmK (room:Int) (l:List Int) (x:Int):List Int:=if room - l.length=0 then l else l ++ [x]
theorem ZeE {v:Value} {room:Int} {l:List Int} {w:World} {f y:Ys} (h:(stH v room l).p w f y):∃ b,v = .pointer (some ⟨b,0,none⟩):=by
 obtain ⟨rv,g⟩:=h
 exact HP.star_pt g
theorem ZiG {room:Int} {l:List Int} (h:(l.length:Int)<room) (x:Int):Zq8 room l=0∧ZmK room l x=l ++ [x]:=⟨Yc ow,Yc ow⟩
theorem nth_last {α:Type} [Inhabited α] {l:List α} {x:α} : Nn (l ++ [x]) l.length=x:=by rw [nth_eq (by simp)];simp
theorem Zhs {k:IntKind} {a:Int} {b:Bool} (v:Value) (w:World) (y:Ys) (w':World) (y':Ys) (h:(PV.tup [.int k a,.bool b]).p v w y):(PV.tup [.int k a,.bool b]).p v w' y':=by
 obtain ⟨vs,e,h⟩:=h
 exact ⟨vs,e,by
  match vs,h with
  | [u1,u2],h=>exact h⟩
theorem ZkX (n:Int):FnP prog 199 [.int .i64 n] (.int .i64 (ZbX n)):=by
 refine FnP.mk func199 rfl ntmps199 rfl fun B a w F V hfr G=>Ya ?_
 refine rZ G (qI qZ) V [2,0] [0] fun G=>Ya ?_
 refine rZ G (qR rr (qf (Zqc .t qi) r1 qz (qf (o_min .t qi) r1 qz (qO rr qZ)))) V [2] [0] fun G=>Yh ?_
 refine Zs hfr G rfl rfl rfl .refl
theorem ZuA (n:Int):FnG prog 161 1 [.int .i64 n] [.star []] (PV.ptr) (fun v=>[stH v (ZbX n) []]):=by
 refine FnG.mk func161 rfl ntmps161 rfl kr fun B F0 a w F V hG G=>Ya ?_
 refine rZ G (qC qZ) V [2,0] [1,0] fun G=>Ya ?_
 refine Zb G (qR rr (qf (oP (ZkX n) func199 (Args.one .t)) r1 qz (qf (oB [(1,.tmp 4)] [.slice none 0 0,.int .i64 0] [(0,1),(1,1)] (.one rfl .t one_int kr .nil)) r1 qz (qf (oX 101 .t) r1 qz (qO rr qZ))))) V [2] [101,1,0] (fun _=>rfl) (fun _=>rfl) fun τ a w F G=>?_
 try dsimp only [RS.sub,SF.sub,CF.sub,csub,Anc.sub,List.map,Zf,xL,xM,Nat.reduceAdd,xD,xE,xT,xU,xC,xN,zCF,Zn] at G
 generalize τ 6=v6 at G
 refine Za (Yh ?_)
 obtain ⟨b,rfl⟩:=G.shape 101 rfl
 have G:=G.fresh 3 rfl
 have G:=G.turn 3 rfl (ZaE (T:=3) (sz:=1) (R:=Zn))
 obtain ⟨F,G⟩:=G.push 1 3 rfl rfl rfl kr
 obtain ⟨F,G⟩:=G.push 1 101 rfl rfl rfl kr
 have G:=G.turn 1 rfl (r':=RS.hp (stH (.pointer (some ⟨b,0,none⟩)) (ZbX n) [])) (fun _ _ _ _ h=>⟨_,h⟩)
 refine Z1 (h':=fun v=>stH v (ZbX n) []) hG G rfl (.tmp rfl .nil) (.one .ptr) rfl
theorem Zs2 (room:Int) (l:List Int):FnP prog 253 [.ref [.sl Zn l,.int .i64 room]] (.int .i64 l.length):=by
 refine FnP.mk func253 rfl ntmps253 rfl fun B a w F V hfr G=>Ya ?_
 refine rZ G (qI qZ) V [2,0] [0] fun G=>(Ya (Ya ?_))
 refine rZ G (qR rr (qf (Zcm underlying227 .t) r1 qz qZ)) V [4,2,0] [0] fun G=>?_
 refine Zc G rfl (fun hc0=>?_) (fun hc0=>?_)
 ·simp at hc0
 refine Ye (Za (Ya (rZ G (qR rr (qf (ZD .t) r1 qz (qf (oG 0 .t) r1 qz (qf (oG 0 .t) r1 qz (qf (oR false 1 .t) r1 qz (qu Ycd r1 (qO rr qZ))))))) V [2] [0] fun G=>Yh ?_)))
 refine Zs hfr G rfl rfl rfl .refl
theorem Zr7 (room:Int) (l:List Int) (hr:0≤room∧room≤65536) (hn:(l.length:Int)≤room):FnP prog 242 [.ref [.sl Zn l,.int .i64 room]] (.int .i64 (room - l.length)):=by
 refine FnP.mk func242 rfl ntmps242 rfl fun B a w F V hfr G=>Ya ?_
 refine rZ G (qI qZ) V [2,0] [0] fun G=>(Ya (Ya ?_))
 refine rZ G (qR rr (qf (Zcm underlying227 .t) r1 qz qZ)) V [4,2,0] [0] fun G=>?_
 refine Zc G rfl (fun hc0=>?_) (fun hc0=>?_)
 ·simp at hc0
 refine Ye (Za (Ya (Zv G (qR rr (qf (ZD .t) r1 qz (qf (oG 1 .t) r1 qz (qf (oR false 1 .t) r1 qz (qR rr (qf (ZD .t) r1 qz (qf (oG 0 .t) r1 qz (qf (oG 0 .t) r1 qz (qf (oR false 1 .t) r1 qz (qu Ycd r1 (qf (o_sub .t .t) r2 qz (qO rr qZ)))))))))))) V [2] [0] rfl rfl fun a w F G=>?_)))
 try dsimp only [List.map,xD,xE,xT,xU,ldSF,Zn] at G
 refine Za (Yh (Zs hfr G rfl rfl rfl (.int (Zz ow))))
theorem Zu3 (b:Nat) (room:Int) (l:List Int) (x:Int) (hl:l.length≤70000):FnG prog 243 1 [.is (.pointer (some ⟨b,0,none⟩)),.int .i64 x] [stH (.pointer (some ⟨b,0,none⟩)) room l] (.tup []) (fun _=>[stH (.pointer (some ⟨b,0,none⟩)) room (l ++ [x])]):=by
 refine FnG.mk func243 rfl ntmps243 rfl kr fun B F0 a w F V hG G=>?_
 obtain ⟨rv,G⟩:=G.open_ex 1 rfl
 obtain ⟨F,G⟩:=G.peel 1 2 rfl rfl
 obtain ⟨F,G⟩:=G.peel 1 3 rfl rfl
 obtain ⟨F,G⟩:=G.nM [1,0] [3,2,0]
 refine Zb G (qR rr (qR rr (qf (o_nilCheck 2 .is (by rfl)) r1 r1 (qf (oF 0 2 .adr) r1 r1 (qa 2 r1 r1 (qR rr (qf (o_buildSliceE (sz:=1) (zs:=[.int .i64 0]) (r:=[(0,.tmp 9)]) (l:=[_]) Ycd kr kr kr kr rfl rfl (.one rfl .t one_int kr .nil) rfl) r1 qz (qf (ZR (sz:=1) (bs:=8) 3 (.mk' Ycd kr kr) (by intro x;rfl) .is (.arr (l':=[_]) .t) (by simp only [Yl,Yy];omega) (by decide)) ⟨rfl,rfl,tv⟩ ⟨rfl,tv⟩ (qf (o_nilCheck 2 .is (by rfl)) r1 r1 (qf (oF 0 2 .adr) r1 r1 (qf (o_storeS 2 .adr kr kr) r2 r1 qZ))))))))))) V [] [3,2,0] (fun _=>rfl) (fun _=>rfl) fun τ a w F G=>?_
 try dsimp only [RS.sub,SF.sub,CF.sub,csub,Anc.sub,List.map,Zf,xL,xM,Nat.reduceAdd,xD,xE,xT,xU,xC,xN,zCF,ldSF,Zn] at G
 generalize τ 11=v11 at G
 have G:=G.fresh 1 rfl
 obtain ⟨F,G⟩:=G.push 1 3 rfl rfl rfl kr
 obtain ⟨F,G⟩:=G.push 1 2 rfl rfl rfl kr
 have G:=G.turn 1 rfl (r':=RS.hp (stH (.pointer (some ⟨b,0,none⟩)) room (l ++ [x]))) (fun _ _ _ _ h=>⟨_,h⟩)
 refine Zaf hG G rfl .nil Zbd.none rfl
theorem Zsb (b:Nat) (room:Int) (l:List Int) (x:Int) (hr:0≤room∧room≤65536) (hn:(l.length:Int)≤room):FnG prog 221 1 [.is (.pointer (some ⟨b,0,none⟩)),.int .i64 x] [stH (.pointer (some ⟨b,0,none⟩)) room l] (.int .i64 (Zq8 room l)) (fun _=>[stH (.pointer (some ⟨b,0,none⟩)) room (ZmK room l x)]):=by
 refine FnG.mk func221 rfl ntmps221 rfl kr fun B F0 a w F V hG G=>?_
 obtain ⟨rv,G⟩:=G.open_ex 1 rfl
 obtain ⟨F,G⟩:=G.peel 1 2 rfl rfl
 obtain ⟨F,G⟩:=G.peel 1 3 rfl rfl
 obtain ⟨F,G⟩:=G.nM [1,0] [3,2,0]
 refine Ya (rZ G (qI qZ) V [4,1,0] [3,2,0] fun G=>(Ya (Ya ?_)))
 refine rZ G (qR rr (qf (ZbO (cells:=[.pv (.is rv),.pv _]) 2 3 0 (Zr7 room l hr hn) (fun _ _ _ _ _ h=>h) rfl func242 rfl kr rfl rfl (Zag.one .is)) r1 r2 (qf (o_eql .t qi) r1 qz qZ))) V [7,4,1,0] [3,2,0] fun G=>?_
 refine Zc G rfl (fun hc0=>?_) (fun hc0=>?_)
 ·have hf:room - (l.length:Int)=0:=by simpa using hc0
  have hg:2=Zq8 room l:=(Yf hf).symm
  have hg2:ZmK room l x=l:=Yf hf
  refine Ya (rZ G (qI qZ) V [4,1,0] [3,2,0] fun G=>(Yh (Zk ?_)))
  have G:=G.fresh 1 rfl
  obtain ⟨F,G⟩:=G.push 1 3 rfl rfl rfl kr
  obtain ⟨F,G⟩:=G.push 1 2 rfl rfl rfl kr
  have G:=G.turn 1 rfl (r':=RS.hp (stH (.pointer (some ⟨b,0,none⟩)) room (ZmK room l x))) (fun _ _ _ _ h=>⟨_,(by rw [hg2];exact h)⟩)
  refine Zaf hG G rfl (.tmp rfl .nil) (.one (.int (by rw [hg]))) rfl
 have hf:¬ room - (l.length:Int)=0:=by simpa using hc0
 have hg:0=Zq8 room l:=(Yc hf).symm
 have hg2:ZmK room l x=l ++ [x]:=Yc hf
 refine Ye (Za (Ya (Zat 3 G kr (cG rfl (oM .t) r1 trivial (cG rfl (o_nilCheck 2 .is (by rfl)) r1 r1 (cG rfl (oF 0 2 .adr) r1 r1 ChainN.nil))) kr (by rw [V];kernel_rfl) fun a w F G=>?_)))
 obtain ⟨F,G⟩:=G.nM [10,4,1] [3,2,0]
 try dsimp only [Zn] at G
 have G:=G.fresh 1 rfl
 obtain ⟨F,G⟩:=G.push 1 3 rfl rfl rfl kr
 obtain ⟨F,G⟩:=G.push 1 2 rfl rfl rfl kr
 have G:=G.turn 1 rfl (r':=RS.hp (stH (.pointer (some ⟨b,0,none⟩)) room l)) (fun _ _ _ _ h=>⟨_,h⟩)
 obtain ⟨F,G⟩:=G.nM [10,4,1] [1,0]
 refine ZaG G kr (cG rfl (oM .t) r1 trivial (cG rfl (ZK 1 (Zu3 b room l x ow) func243 rfl kr (Args.two (.conv .t (Ent.adr0)) .t)) r2 r1 ChainN.nil)) kr (by rw [V];kernel_rfl) fun a w F G=>?_
 obtain ⟨F,G⟩:=G.nM [4] [1,0]
 try dsimp only [Zn] at G
 refine Za (Ya (rZ G (qI qZ) V [4] [1,0] fun G=>Yh ?_))
 have G:=G.turn 1 rfl (r':=RS.hp (stH (.pointer (some ⟨b,0,none⟩)) room (ZmK room l x))) (fun _ _ _ _ h=>by rw [hg2];exact h)
 refine Zaf hG G rfl (.tmp rfl .nil) (.one (.int (by rw [hg]))) rfl
theorem ZnI (b:Nat) (room:Int) (l:List Int) (x:Int) (hr:0≤room∧room≤65536) (h:(l.length:Int)<room):FnG prog 221 1 [.is (.pointer (some ⟨b,0,none⟩)),.int .i64 x] [stH (.pointer (some ⟨b,0,none⟩)) room l] (.int .i64 0) (fun _=>[stH (.pointer (some ⟨b,0,none⟩)) room (l ++ [x])]):=by
 have:=Zsb b room l x hr ow
 rw [(ZiG h x).1,(ZiG h x).2] at this;exact this
theorem Zo3 (room:Int) (l:List Int) (x:Int) (hl:l.length≤70000):FnP prog 244 [.ref [.sl Zn (l ++ [x]),.int .i64 room]] (.tup [.int .i64 x,.bool true]):=by
 refine FnP.mk func244 rfl ntmps244 rfl fun B a w F V hfr G=>?_
 have hw1:IntKind.wrap .i64 (((l ++ [x]).length:Int) - 1)=((l.length:Nat):Int):=by rw [Zz (by rw [Yd,YM];omega),Yd,YM];omega
 refine Ya (rZ G (qI qB) V [3,2,0] [0] fun G=>(Ya (Ya ?_)))
 refine rZ G (qR rr (qf (oP (Zs2 room (l ++ [x])) func253 (Args.one .t)) r1 qz (qf (o_eql .t qi) r1 qz qZ))) V [6,3,2,0] [0] fun G=>?_
 refine Zc G rfl (fun hc0=>?_) (fun hc0=>?_)
 ·simp at hc0;try omega
 refine Ye (Za (Ya (Zv G (qR rr (qf (ZD .t) r1 qz (qf (oG 0 .t) r1 qz (qf (oG 0 .t) r1 qz (qf (oR false 1 .t) r1 qz (qR rr (qf (ZD .t) r1 qz (qf (oG 0 .t) r1 qz (qf (oG 0 .t) r1 qz (qf (oR false 1 .t) r1 qz (qu Ycd r1 (qf (o_sub .t qi) r1 qz (qf (o_indexAddr_sl (sz:=1) (.mk Ycd kr) (by intro x;rfl) .t .t (by rw [hw1];omega) (by rw [hw1,Yd,YM];omega)) r2 qz (qf (oR false 1 .t) r1 qz (qO rr qB))))))))))))))) V [3,2] [0] rfl rfl fun a w F G=>?_)))
 try dsimp only [List.map,xD,xE,xT,xU,ldSF,Zn] at G
 try simp only [Yb] at G
 rw [hw1,Yb,nth_last] at G
 refine Za (Yh (Z6 hfr G rfl (.tmp rfl (.tmp rfl .nil)) (.two .refl .refl)))
theorem ZtO (b:Nat) (room:Int) (l:List Int) (x:Int) (hl:l.length≤70000):FnG prog 245 1 [.is (.pointer (some ⟨b,0,none⟩))] [stH (.pointer (some ⟨b,0,none⟩)) room (l ++ [x])] (.tup []) (fun _=>[stH (.pointer (some ⟨b,0,none⟩)) room l]):=by
 refine FnG.mk func245 rfl ntmps245 rfl kr fun B F0 a w F V hG G=>?_
 obtain ⟨rv,G⟩:=G.open_ex 1 rfl
 obtain ⟨F,G⟩:=G.peel 1 2 rfl rfl
 obtain ⟨F,G⟩:=G.peel 1 3 rfl rfl
 obtain ⟨F,G⟩:=G.nM [0] [3,2,0]
 have hw1:IntKind.wrap .i64 (((l ++ [x]).length:Int) - 1)=((l.length:Nat):Int):=by rw [Zz (by rw [Yd,YM];omega),Yd,YM];omega
 refine ZaD G (qR rr (qR rr (qf (o_nilCheck 2 .is (by rfl)) r1 r1 (qf (oF 0 2 .adr) r1 r1 (qa 2 r1 r1 (qR rr (qf (o_nilCheck 2 .is (by rfl)) r1 r1 (qf (oF 0 2 .adr) r1 r1 (qa 2 r1 r1 (qf (ZU 3 Ycd .is) r1 r1 (qf (o_sub .t qi) r1 qz (qf (ZbH (sz:=1) 3 (.mk Ycd kr) (by intro x;rfl) .is .t (by rw [hw1];omega) (by rw [hw1,Yd,YM];omega)) r2 r1 (qf (o_nilCheck 2 .is (by rfl)) r1 r1 (qf (oF 0 2 .adr) r1 r1 (qf (o_storeS 2 .adr kr kr) r2 r1 qZ))))))))))))))) V [] [3,2,0] (fun _=>rfl) (fun _=>rfl) fun τ a w F G=>?_
 try dsimp only [RS.sub,SF.sub,CF.sub,csub,Anc.sub,List.map,Zf,xL,xM,Nat.reduceAdd,xD,xE,xT,xU,xC,xN,zCF,ldSF,Zn] at G
 generalize τ 13=v13 at G
 rw [hw1,Yb,List.take_left] at G
 have G:=G.fresh 1 rfl
 obtain ⟨F,G⟩:=G.push 1 3 rfl rfl rfl kr
 obtain ⟨F,G⟩:=G.push 1 2 rfl rfl rfl kr
 have G:=G.turn 1 rfl (r':=RS.hp (stH (.pointer (some ⟨b,0,none⟩)) room l)) (fun _ _ _ _ h=>⟨_,h⟩)
 refine Zaf hG G rfl .nil Zbd.none rfl
theorem Ztr (b:Nat) (room:Int) (l:List Int) (x:Int) (hl:l.length≤70000):FnG prog 223 1 [.is (.pointer (some ⟨b,0,none⟩))] [stH (.pointer (some ⟨b,0,none⟩)) room (l ++ [x])] (.tup [.int .i64 x,.bool true]) (fun _=>[stH (.pointer (some ⟨b,0,none⟩)) room l]):=by
 refine FnG.mk func223 rfl ntmps223 rfl kr fun B F0 a w F V hG G=>?_
 obtain ⟨rv,G⟩:=G.open_ex 1 rfl
 obtain ⟨F,G⟩:=G.peel 1 2 rfl rfl
 obtain ⟨F,G⟩:=G.peel 1 3 rfl rfl
 obtain ⟨F,G⟩:=G.nM [0] [3,2,0]
 refine Ya (rZ G (qI qB) V [3,2,0] [3,2,0] fun G=>Ya ?_)
 refine rZ G (qR rr (qf (ZbO (cells:=[.pv (.is rv),.pv _]) 2 3 0 (Zo3 room l x hl) Zhs rfl func244 rfl kr rfl rfl (Zag.one .is)) r1 r2 (qR rr (qf (Zh .t rfl) r1 qz (qf (Zh .t rfl) r1 qz (qO rr (qO rr qZ))))))) V [5,4,3,2,0] [3,2,0] fun G=>(Ya (Ya ?_))
 refine rZ G (qR rr qZ) V [11,5,4,3,2,0] [3,2,0] fun G=>?_
 refine Zc G rfl (fun hc0=>?_) (fun hc0=>?_)
 ·refine Zat 3 G kr (cG rfl (oM .t) r1 trivial (cG rfl (o_nilCheck 2 .is (by rfl)) r1 r1 (cG rfl (oF 0 2 .adr) r1 r1 ChainN.nil))) kr (by rw [V];kernel_rfl) fun a w F G=>?_
  obtain ⟨F,G⟩:=G.nM [14,5,4,3,2] [3,2,0]
  try dsimp only [Zn] at G
  have G:=G.fresh 1 rfl
  obtain ⟨F,G⟩:=G.push 1 3 rfl rfl rfl kr
  obtain ⟨F,G⟩:=G.push 1 2 rfl rfl rfl kr
  have G:=G.turn 1 rfl (r':=RS.hp (stH (.pointer (some ⟨b,0,none⟩)) room (l ++ [x]))) (fun _ _ _ _ h=>⟨_,h⟩)
  obtain ⟨F,G⟩:=G.nM [14,5,4,3,2] [1,0]
  refine ZaG G kr (cG rfl (ZK 1 (ZtO b room l x hl) func245 rfl kr (Args.one (.conv .t (Ent.adr0)))) r1 r1 ChainN.nil) kr (by rw [V];kernel_rfl) fun a w F G=>?_
  obtain ⟨F,G⟩:=G.nM [5,4,3,2] [1,0]
  try dsimp only [Zn] at G
  refine Za (Ya (rZ G (qR rr (qR rr (qO rr (qO rr qZ)))) V [3,2] [1,0] fun G=>Yh ?_))
  refine Zaf hG G rfl (.tmp rfl (.tmp rfl .nil)) (.two .refl .refl) rfl
 simp at hc0
def rV (v:Value):List PV:=[.is v]
theorem Zct {w:World} {y:Ys} : ∀ {rs:List RS} {f:Ys},stars w y rs f → ∀ r ∈ rs,∃ f1:Ys,(∀ b,f1 b→f b)∧r.holds tau0 w f1 y
 | [],f,_,r,h=>by cases h
 | x :: rs,f,⟨f1,f2,h1,h2,h3,h4,h5⟩,r,hr=>by
  rcases Yj.1 hr with rfl | hr
  ·exact ⟨f1,fun b hb=>(h1 b).2 (.inl hb),h4⟩
  ·obtain ⟨g,g1,g2⟩:=Zct h5 r hr
   exact ⟨g,fun b hb=>(h1 b).2 (.inr (g1 b hb)),g2⟩
structure Z8 where
 kind:Int
 label:Int
 node:Int
 deriving DecidableEq,Inhabited
def Zav (e:Z8):List PV:=[.int .i64 e.kind,.int .i64 e.label,.int .i64 e.node]
def Zau (l:List Z8):List PV:=[.sl Zav l]
def Znv (p:Value×List Z8):HP:=Zy 217 3 Zav p.2 p.1
def ZeX (hs:List Value) (L:List (List Z8)):List (Value×List Z8):=(List.range hs.length).map fun k=>(Nn hs k,Nn L k)
theorem Zl5 (hs:List Value) (L:List (List Z8)):(ZeX hs L).length=hs.length:=by unfold ZeX;simp
theorem Zow {hs:List Value} {L:List (List Z8)} {k:Nat} (h:k<hs.length):(ZeX hs L)[k]? = some (Nn hs k,Nn L k):=by unfold ZeX;simp [h]
theorem Zq4 (hs:List Value) (L:List (List Z8)):(ZeX hs L).map (·.1)=hs:=by
 apply Ya3 (by simp [ZeX])
 intro j h1 h2
 simp [ZeX,nth_eq h2]
theorem Zq9 {hs:List Value} {L:List (List Z8)} (h:hs.length=L.length):(ZeX hs L).map (·.2)=L:=by
 apply Ya3 (by simp [ZeX,h])
 intro j h1 h2
 simp [ZeX,nth_eq h2]
def ZjH (L:List (List Z8)) (v:Value):HP:=.ex fun hs:List Value=>.and (hs.length=L.length) (.star [.ob (.val v) (Zy 220 1 rV hs),ZsY Znv (ZeX hs L)])
theorem ZlL {w:World} {y y':Ys} : ∀ {ps:List (Value×List Z8)} {xs:List Value},PVs ((ps.map (·.1)).flatMap rV) xs w y→(∀ p ∈ ps,(PV.sl Zav p.2).p p.1 w y')→PVs ((ps.map (·.2)).flatMap Zau) xs w y'
 | [],[],_,_=>trivial
 | p :: ps,x :: xs,h,k=>by
  have e:x=p.1:=h.1.2.1
  refine ⟨⟨h.1.1,?_⟩,ZlL (ps:=ps) h.2 fun q hq=>k q (YC _ hq)⟩
  rw [e];exact k p YaD
 | [],_ :: _,h,_=>h.elim
 | _ :: _,[],h,_=>h.elim
theorem ZiW {L:List (List Z8)} {v:Value} : ZuP (ZjH L v) v (.sl Zau L):=fun w f y y' ⟨hs,hl,h⟩ hle hf hb=>by
 obtain ⟨f1,g1,g2⟩:=Zct h (.ob (.val v) (Zy 220 1 rV hs)) (by simp)
 obtain ⟨f2,m1,m2⟩:=Zct h (ZsY Znv (ZeX hs L)) (by simp)
 have hrow:(Zy 220 1 rV hs v).p w f1 y:=g2
 have hfam:stars w y ((ZeX hs L).map fun x=>RS.hp (Znv x)) f2:=m2
 obtain ⟨xs,k1,k2,k3⟩:=hrow
 obtain ⟨ad,cap,e8,h8,h9,h10⟩:=ZO k1
 rw [hl] at e8 h8
 refine ⟨ad,cap,e8,h8,h9,?_⟩
 rcases h10 with h10 | ⟨b',rfl,h11,h12⟩
 ·exact .inl (YR (by rw [← hl];exact h10))
 ·have hb':f1 b':=(k3 b').2 h11
  refine .inr ⟨b',0,xs,rfl,hf b' (g1 b' hb'),hb b' (g1 b' hb'),h12,?_⟩
  have key:=ZlL (y:=y) (y':=y') (ps:=ZeX hs L) (xs:=xs) (w:=w) (by rw [Zq4];exact k2) fun p hp=>by
   obtain ⟨f3,n1,n2⟩:=Zct hfam (RS.hp (Znv p)) (Yv.2 ⟨p,hp,rfl⟩)
   exact Zig w f3 y y' n2 hle (fun b h=>hf b (m1 b (n1 b h))) (fun b h=>hb b (m1 b (n1 b h)))
  rwa [Zq9 hl] at key
def Znr (O I:List (List Z8)) (n:Nat) (v:Value):HP:=.ex fun ov:Value=>.ex fun iv:Value=>.star [.pt (.val v) 215 [.pv (.is ov),.pv (.is iv),.pv (.int .i64 n)],RS.hp (ZjH O ov),RS.hp (ZjH I iv)]
abbrev Zez (O I:List (List Z8)) (n:Nat):PV:=.ref [.sl Zau O,.sl Zau I,.int .i64 n]
theorem Ze8 {O I:List (List Z8)} {n:Nat} {v:Value} : ZuP (Znr O I n v) v (Zez O I n):=fun w f y y' ⟨ov,iv,h⟩ hle hf hb=>by
 obtain ⟨f1,g1,g2⟩:=Zct h (.pt (.val v) 215 [.pv (.is ov),.pv (.is iv),.pv (.int .i64 n)]) (by simp)
 obtain ⟨f2,m1,m2⟩:=Zct h (RS.hp (ZjH O ov)) (by simp)
 obtain ⟨f3,n1,n2⟩:=Zct h (RS.hp (ZjH I iv)) (by simp)
 have hO:=ZiW w f2 y y' m2 hle (fun b k=>hf b (m1 b k)) (fun b k=>hb b (m1 b k))
 have hI:=ZiW w f3 y y' n2 hle (fun b k=>hf b (n1 b k)) (fun b k=>hb b (n1 b k))
 obtain ⟨b,vs,k1,k2,k3,k4⟩:=g2
 have hb1:f1 b:=(k3 b).2 rfl
 refine ⟨b,0,vs.toList,k1,hf b (g1 b hb1),hb b (g1 b hb1),ZC.mk fun j u hj=>?_,?_⟩
 ·simp only [Y3]
  simp [World.cell?,k2]
  simpa using hj
 ·generalize vs.toList=us at k4
  match us,k4 with
  | [u1,u2,u3],k4=>
   have e1:u1=ov:=k4.1.2.1
   have e2:u2=iv:=k4.2.1.2.1
   refine ⟨⟨k4.1.1,?_⟩,⟨k4.2.1.1,?_⟩,⟨k4.2.2.1.1,k4.2.2.1.2⟩,tv⟩
   ·rw [e1];exact hO
   ·rw [e2];exact hI
structure Zx where
 src:Int
 dst:Int
 kind:Int
 label:Int
 deriving DecidableEq,Inhabited
def Zao (a:Zx):List PV:=[.int .i64 a.src,.int .i64 a.dst,.int .i64 a.kind,.int .i64 a.label]
def endO (x:Zx):Z8:=⟨x.kind,x.label,x.dst⟩
def endI (x:Zx):Z8:=⟨x.kind,x.label,x.src⟩
def ofB (mask kind:Int):Bool:=decide (bits .and .i64 (mask.fdiv (2 ^ min (IntKind.wrap .u64 kind).toNat (IntKind.bits .i64))) 1=1)
def ZaK (n:Nat) (x:Zx):Bool:=(((((decide (0≤x.src∧x.src<n)) && decide (0≤x.dst∧x.dst<n)) && decide (1≤x.kind)) && decide (x.kind≤3)) && decide (0≤x.label)) && decide (x.label≤1048575)
theorem Zcj (O I:List (List Z8)) (m:Nat):FnP prog 158 [Zez O I m] (.int .i64 (O.length:Int)):=by
 refine FnP.mk func158 rfl ntmps158 rfl fun B a w F V hfr G=>Ya ?_
 refine rZ G (qI qZ) V [2,0] [0] fun G=>(Ya (Ya ?_))
 refine rZ G (qR rr (qf (Zcm underlying167 .t) r1 qz qZ)) V [4,2,0] [0] fun G=>?_
 refine Zc G rfl (fun hc0=>?_) (fun hc0=>?_)
 ·simp at hc0
 refine Ye (Za (Ya (rZ G (qR rr (qf (ZD .t) r1 qz (qf (oG 0 .t) r1 qz (qf (oR false 1 .t) r1 qz (qu Yco r1 (qO rr qZ)))))) V [2] [0] fun G=>Yh ?_)))
 refine Zs hfr G rfl rfl rfl .refl
theorem Zel (O I:List (List Z8)) (m:Nat) (u:Int):FnP prog 194 [Zez O I m,.int .i64 u] (.bool (decide (0≤u∧u<O.length))):=by
 refine FnP.mk func194 rfl ntmps194 rfl fun B a w F V hfr G=>Ya ?_
 refine rZ G qB V [4,1,0] [0] fun G=>Ya ?_
 refine rZ G (qR rr (qf (Zbq .t qi) r1 qz (qR rr (qm rfl rfl rfl rfl (qm rfl rfl rfl rfl (qk rfl (fun h=>oP (Zcj O I m) func158 (Args.one (.w h))) r2 qz (qk rfl (fun h=>ZaA (.w h) (.w h)) r3 qz (qf (ZE .t .t) r2 qz (qO rr qZ))))))))) V [4] [0] fun G=>Yh ?_
 refine Zs hfr G rfl rfl rfl (.bool (by by_cases h:0≤u <;> simp [h]))
theorem ZiT (O I:List (List Z8)) (m:Nat) (x:Zx):FnP prog 154 [Zez O I m,.agg (Zao x)] (.bool (ZaK O.length x)):=by
 refine FnP.mk func154 rfl ntmps154 rfl fun B a w F V hfr G=>Ya ?_
 refine Zb G (qx 101 r1 qB) V [4,3,0] [101,0] (fun _=>rfl) (fun _=>rfl) fun τ a w F G=>?_
 try dsimp only [RS.sub,SF.sub,CF.sub,csub,Anc.sub,List.map,zCF,Zav,Zau,Zn,Zao] at G
 generalize τ 3=v3 at G
 refine Za (Ya (rZ G (qR rr (qg 0 101 r1 r1 (qa 101 r1 r1 (qf (oP (Zel O I m x.src) func194 (Args.two .t .t)) r2 qz (qR rr (qm rfl rfl rfl rfl (qv 1 101 rfl r2 r1 (qw 101 rfl r2 r1 (qk rfl (fun h=>oP (Zel O I m x.dst) func194 (Args.two (.w h) (.w h))) r3 qz (qf (ZE .t .t) r2 qz (qR rr (qv 2 101 rfl r2 r1 (qw 101 rfl r2 r1 (qk rfl (fun h=>Zbq (.w h) qi) r2 qz (qf (ZE .t .t) r2 qz (qR rr (qv 2 101 rfl r2 r1 (qw 101 rfl r2 r1 (qk rfl (fun h=>Zkz (.w h) qi) r2 qz (qf (ZE .t .t) r2 qz (qR rr (qv 3 101 rfl r2 r1 (qw 101 rfl r2 r1 (qk rfl (fun h=>Zbq (.w h) qi) r2 qz (qf (ZE .t .t) r2 qz (qR rr (qv 3 101 rfl r2 r1 (qw 101 rfl r2 r1 (qk rfl (fun h=>Zkz (.w h) qi) r2 qz (qf (ZE .t .t) r2 qz (qO rr qZ))))))))))))))))))))))))))))))) V [4] [0] fun G=>Yh ?_))
 refine Zs hfr G rfl rfl rfl (.bool (by unfold ZaK;simp))
theorem Zl6 (x:Zx):FnP prog 156 [.agg (Zao x)] (.tup [.agg (Zav (endO x)),.agg (Zav (endI x))]):=by
 refine FnP.mk func156 rfl ntmps156 rfl fun B a w F V hfr G=>Ya ?_
 refine Zb G (qx 101 r1 (qf (oH [.int .i64 0,.int .i64 0,.int .i64 0] 102) trivial qz (qf (oH [.int .i64 0,.int .i64 0,.int .i64 0] 103) trivial qz qZ))) V [3,2,1] [103,102,101,0] (fun _=>rfl) (fun _=>rfl) fun τ a w F G=>?_
 try dsimp only [RS.sub,SF.sub,CF.sub,csub,Anc.sub,List.map,zCF,Zav,Zau,Zn,Zao] at G
 generalize τ 1=v1,τ 2=v2,τ 3=v3 at G
 refine Za (Ya (Zv G (qg 2 101 r1 r1 (qa 101 r1 r1 (qg 3 101 r1 r1 (qa 101 r1 r1 (qg 1 101 r1 r1 (qa 101 r1 r1 (qf (oB [(0,.tmp 5),(1,.tmp 7),(2,.tmp 9)] [.int .i64 0,.int .i64 0,.int .i64 0] [(0,1),(1,1),(2,1)] (.one rfl .t one_int kr (.one rfl .t one_int kr (.one rfl .t one_int kr .nil)))) r3 qz (qg 2 101 r1 r1 (qa 101 r1 r1 (qg 3 101 r1 r1 (qa 101 r1 r1 (qg 0 101 r1 r1 (qa 101 r1 r1 (qf (oB [(0,.tmp 12),(1,.tmp 14),(2,.tmp 16)] [.int .i64 0,.int .i64 0,.int .i64 0] [(0,1),(1,1),(2,1)] (.one rfl .t one_int kr (.one rfl .t one_int kr (.one rfl .t one_int kr .nil)))) r3 qz (qs 3 102 r2 r1 (qs 3 103 r2 r1 qZ)))))))))))))))) V [3,2] [103,102,0] rfl rfl fun a w F G=>?_))
 try dsimp only [List.map,Zf,xL,xM,Nat.reduceAdd,xD,xE,xT,xU,xC,xN,zCF,ldSF,Zav,Zau,Zn,Zao] at G
 refine Za (Yh (Z6 hfr G rfl (.cl 102 true 3 rfl rfl (.cl 103 true 3 rfl rfl .nil)) (.two (.aggU rfl rfl) (.aggU rfl rfl))))
theorem ZsZ (mask kind:Int):FnP prog 210 [.int .i64 mask,.int .i64 kind] (.bool (ofB mask kind)):=by
 refine FnP.mk func210 rfl ntmps210 rfl fun B a w F V hfr G=>Ya ?_
 refine rZ G qB V [4,1,0] [0] fun G=>Ya ?_
 refine rZ G (qR rr (qR rr (qf (o_conv Yck kr .t) r1 qz (qf (Zci .t .t  (by rw [Zak];omega)) r2 qz (qf (o_and .t qi) r1 qz (qf (o_eql .t qi) r1 qz (qO rr qZ))))))) V [4] [0] fun G=>Yh ?_
 refine Zs hfr G rfl rfl rfl (.bool rfl)
theorem Zt5 (x:Int):IntKind.wrap .u8 x=x % 256:=by simp [IntKind.wrap,IntKind.bits,IntKind.signed]
def ZfN (s:List UInt8):Nat:=s.foldl (fun a c=>a*10+(c.toNat - 48)) 0
theorem Zkp {x:Int} (h:0≤x∧x≤18446744073709551615):bits .and .u64 x 4294967295=x % 4294967296:=by
 obtain ⟨X,rfl⟩:=Yae h.1
 have h1:(BitVec.ofInt 64 (X:Int)).toNat=X:=by rw [YaE];omega
 have h2:(BitVec.ofInt 64 (4294967295:Int)).toNat=2 ^ 32 - 1:=by decide
 show IntKind.wrap .u64 (((BitVec.ofInt 64 (X:Int) &&& BitVec.ofInt 64 4294967295).toNat:Nat):Int)=_
 rw [Ybq,h1,h2,YaR,Zak]
 omega
theorem Zu0 {x:Int} : x.fdiv (2 ^ min (32:Int).toNat (IntKind.bits .u64))=x / 4294967296:=by
 rw [YaQ _ (by decide)]
 rfl
theorem Ztd (x y:Int):FnP prog 255 [.int .u64 x,.int .u64 y] (.tup [.int .u64 (x*y / 18446744073709551616),.int .u64 (x*y % 18446744073709551616)]):=by
 refine FnP.mk func255 rfl ntmps255 rfl fun B a w F V hfr G=>?_
 have hx:=Zgm (G.range (i:=0) rfl)
 have hy:=Zgm (G.range (i:=1) rfl)
 have h3:∀ {z:Int},0≤IntKind.wrap .u64 z∧IntKind.wrap .u64 z≤18446744073709551615:=fun {z}=>Zgm (ZbS _ _)
 refine Ya (rZ G (qI (qI qZ)) V [5,4,1,0] [0] fun G=>Ya ?_)
 refine rZ G (qR rr (qf (o_and .t qi) r1 qz (qO rr qZ))) V [6,5,4,1,0] [0] fun G=>Ya ?_
 refine rZ G (qR rr (qf (Zci .t qi (by decide)) r1 qz (qO rr qZ))) V [7,6,5,4,1,0] [0] fun G=>Ya ?_
 refine rZ G (qR rr (qf (o_and .t qi) r1 qz (qO rr qZ))) V [8,7,6,5,4,1,0] [0] fun G=>Ya ?_
 refine rZ G (qR rr (qf (Zci .t qi (by decide)) r1 qz (qO rr qZ))) V [9,8,7,6,5,4,1,0] [0] fun G=>Ya ?_
 refine rZ G (qR rr (qR rr (qf (Zm8 .t .t) r2 qz (qO rr qZ)))) V [10,9,8,7,6,5,4,1,0] [0] fun G=>Ya ?_
 refine rZ G (qR rr (qR rr (qf (Zm8 .t .t) r2 qz (qR rr (qf (Zci .t qi (by decide)) r1 qz (qf (o_add .t .t) r2 qz (qO rr qZ))))))) V [11,9,7,6,5,4,1,0] [0] fun G=>Ya ?_
 refine rZ G (qR rr (qf (o_and .t qi) r1 qz (qO rr qZ))) V [12,11,9,7,6,5,4,1,0] [0] fun G=>Ya ?_
 refine rZ G (qR rr (qf (Zci .t qi (by decide)) r1 qz (qO rr qZ))) V [13,12,9,7,6,5,4,1,0] [0] fun G=>Ya ?_
 refine rZ G (qR rr (qR rr (qR rr (qf (Zm8 .t .t) r2 qz (qf (o_add .t .t) r2 qz (qO rr qZ)))))) V [13,12,9,7,5,4,1,0] [0] fun G=>Ya ?_
 refine rZ G (qR rr (qR rr (qf (Zm8 .t .t) r2 qz (qR rr (qf (o_add .t .t) r2 qz (qR rr (qf (Zci .t qi (by decide)) r1 qz (qf (o_add .t .t) r2 qz (qO rr qZ))))))))) V [5,4,1,0] [0] fun G=>Ya ?_
 refine rZ G (qR rr (qR rr (qf (Zm8 .t .t) r2 qz (qO rr qZ)))) V [5,4] [0] fun G=>Yh ?_
 refine Z6 hfr G rfl (.tmp rfl (.tmp rfl .nil)) (.two (.int (by simp only [Zu0,Zkp hx,Zkp hy,Zkp h3];simp only [Zak];exact mul64_arith x y hx.1 ow hy.1 ow)) (.int (by rw [Zak])))
structure Zqh where
 key:Int
 val:Int
 deriving DecidableEq,Inhabited
section
variable {out t T:List Zqh} {k x:Int} {e:Zqh} {d:Bool}
end
def ZaC (v:Int):List Int→Int
 | []=>-1
 | x :: l=>if x=v then 0 else if ZaC v l<0 then -1 else ZaC v l+1
theorem Zgc {v:Int} : ∀ {l:List Int},(∀ k,k<l.length→Nn l k≠v)→ZaC v l = -1
 | [],_=>rfl
 | x :: l,h=>by
  have h0:x≠v:=h 0 (by simp)
  rw [ZaC,Yc h0,Zgc (l:=l) fun k hk=>by have:=h (k+1) (by simpa using hk);exact this,Yf (by decide)]
theorem ZnY {v:Int} : ∀ {l:List Int} {i:Nat},i<l.length→Nn l i=v→(∀ k,k<i→Nn l k≠v)→ZaC v l=i
 | [],i,h,_,_=>by simp at h
 | x :: l,0,_,h,_=>by rw [ZaC,Yf (show x=v from h)];rfl
 | x :: l,i+1,h,h1,h2=>by
  have h0:x≠v:=h2 0 ow
  have:=ZnY (l:=l) (i:=i) (by simpa using h) h1 fun k hk=>h2 (k+1) ow
  rw [ZaC,Yc h0,this,Yc ow];omega
theorem Zd9 {v:Int} {l:List Int} (h:v ∈ l):∃ i:Nat,ZaC v l=i∧i<l.length∧Nn l i=v ∧ ∀ k,k<i→Nn l k≠v:=by
 induction l with
 | nil=>cases h
 | cons x l ih=>
  by_cases hx:x=v
  ·exact ⟨0,by rw [ZaC,Yf hx];rfl,by simp,hx,fun k hk=>absurd hk (Y2 k)⟩
  ·obtain ⟨i,h1,h2,h3,h4⟩:=ih (by rcases Yj.1 h with h | h;exact absurd h.symm hx;exact h)
   refine ⟨i+1,by rw [ZaC,Yc hx,h1,Yc ow];omega,by simpa using h2,h3,fun k hk=>?_⟩
   cases k with
   | zero=>exact hx
   | succ k=>exact h4 k ow
theorem Zl8 {v:Int} {l:List Int} (h:v ∉ l):ZaC v l = -1:=Zgc fun k hk e=>h (e ▸ nth_mem hk)
theorem ZgX (v:Int) (l:List Int) : -1≤ZaC v l∧ZaC v l<l.length:=by
 by_cases h:v ∈ l
 ·obtain ⟨i,h1,h2,_⟩:=Zd9 h
  omega
 ·rw [Zl8 h];omega
theorem Zr3 {v:Int} {l:List Int} : 0≤ZaC v l ↔ v ∈ l:=by
 constructor
 ·intro h
  by_cases hm:v ∈ l
  ·exact hm
  ·rw [Zl8 hm] at h;omega
 ·intro h
  obtain ⟨i,h1,_⟩:=Zd9 h
  omega
def ZvS (l:List Int) (j x:Int):List Int:=if 0≤j∧j≤l.length then l.take j.toNat++x :: l.drop j.toNat else l
def Zfr (l:List Int):Prop:=(∀ x ∈ l,1≤x∧x≤1048575)∧l.Nodup
instance (l:List Int):Decidable (Zfr l):=by unfold Zfr;exact inferInstance
theorem Zfr.take {l:List Int} (h:Zfr l) (i:Nat):Zfr (l.take i):=⟨fun x hx=>h.1 x (Yak hx),h.2.sublist (List.take_sublist i l)⟩
def leI (x y:Int):Bool:=decide (x≤y)
theorem ZnU {a b:List Int} : a.mergeSort leI=b.mergeSort leI ↔ a.Perm b:=by
 constructor
 ·intro h
  exact (YaU a leI).symm.trans (h ▸ YaU b leI)
 ·intro h
  have hs:∀ l:List Int,List.Pairwise (fun x y=>x≤y) (l.mergeSort leI):=fun l=>by
   have:=List.pairwise_mergeSort (le:=leI) (fun a b c h1 h2=>by simp [leI] at *;omega) (fun a b=>by simp [leI];omega) l
   exact this.imp fun h=>by simpa [leI] using h
  exact List.Perm.eq_of_pairwise (fun x y _ _ h1 h2=>Int.le_antisymm h1 h2) (hs a) (hs b) (((YaU a leI).trans h).trans (YaU b leI).symm)
def Zef (l:List Int) (tx:Int):Int×Bool:=
 if tx≠0∧ZaC tx l<0 then (0,false) else
 if (l.length:Int)≤(if tx=0 then -1 else ZaC tx l)+1 then (0,false) else (Nn l ((if tx=0 then -1 else ZaC tx l)+1).toNat,true)
def withO (l:List Int) (tx:Int):List Int:=if tx ∈ l then l else l ++ [tx]
def withoutO (l:List Int) (tx:Int):List Int:=l.filter fun x=>decide (x≠tx)
def Zrm (l:List Int) (tx place:Int):List Int×Int:=if ZaC tx l<0 then ([],3) else if ¬ (0≤place∧place<l.length) then ([],1) else (ZvS (l.eraseIdx (ZaC tx l).toNat) place tx,0)
def Zob (a b:List Int):Prop:=Zfr a∧Zfr b∧a.Perm b
instance (a b:List Int):Decidable (Zob a b):=by unfold Zob;exact inferInstance
def ZjA:Go.Shelf.Ren:=⟨fun | 189=>92 | 125=>142 | 257=>141 | 128=>189 | 129=>190 | 294=>180 | 295=>181 | 296=>182 | 297=>183 | 298=>184 | 299=>185 | 216=>186 | 300=>187 | 301=>188 | 328=>212 | 329=>213 | 330=>214 | 331=>215 | 332=>216 | 215=>151 | 343=>240 | n=>n,fun | 28=>45 | 3=>3 | 46=>162 | 0=>0 | 51=>260 | 53=>175 | 4=>4 | 183=>253 | 182=>252 | 131=>43 | 5=>5 | 9=>9 | 218=>290 | 222=>294 | 228=>309 | 229=>107 | n=>n,fun  | n=>n⟩
theorem Zmk:Lays.n189 prog ZjA where
 mixed:=by kernel_rfl
 f125:=func142.trans (Y4 some kr)
 f128:=func189.trans (Y4 some kr)
 f129:=func190.trans (Y4 some kr)
 f189:=func92.trans (Y4 some kr)
 f215:=func151.trans (Y4 some kr)
 f216:=func186.trans (Y4 some kr)
 f257:=func141.trans (Y4 some kr)
 f294:=func180.trans (Y4 some kr)
 f295:=func181.trans (Y4 some kr)
 f296:=func182.trans (Y4 some kr)
 f297:=func183.trans (Y4 some kr)
 f298:=func184.trans (Y4 some kr)
 f299:=func185.trans (Y4 some kr)
 f300:=func187.trans (Y4 some kr)
 f301:=func188.trans (Y4 some kr)
 f328:=func212.trans (Y4 some kr)
 f329:=func213.trans (Y4 some kr)
 f330:=func214.trans (Y4 some kr)
 f331:=func215.trans (Y4 some kr)
 f332:=func216.trans (Y4 some kr)
 f343:=func240.trans (Y4 some kr)
 t0:=underlying0
 a0:=Tryz.isAgg0
 z0:=Tryz.sizeOf0
 v0:=Tryz.zeroValue0
 t3:=Ycl
 a3:=Tryz.isAgg3
 z3:=Tryz.sizeOf3
 v3:=Tryz.zeroValue3
 t4:=Ycs
 a4:=Tryz.isAgg4
 z4:=Tryz.sizeOf4
 v4:=Tryz.zeroValue4
 t5:=underlying5
 a5:=Tryz.isAgg5
 z5:=Tryz.sizeOf5
 v5:=Tryz.zeroValue5
 t9:=Yct
 a9:=Tryz.isAgg9
 z9:=Tryz.sizeOf9
 v9:=Tryz.zeroValue9
 t28:=Ycd
 a28:=Tryz.isAgg45
 z28:=Tryz.sizeOf45
 v28:=Tryz.zeroValue45
 t46:=Yck
 a46:=Tryz.isAgg162
 z46:=Tryz.sizeOf162
 v46:=Tryz.zeroValue162
 t51:=underlying260
 a51:=Tryz.isAgg260
 z51:=Tryz.sizeOf260
 v51:=Tryz.zeroValue260
 t53:=Ycu
 a53:=Tryz.isAgg175
 z53:=Tryz.sizeOf175
 v53:=Tryz.zeroValue175
 t131:=underlying43
 a131:=Tryz.isAgg43
 z131:=Tryz.sizeOf43
 v131:=Tryz.zeroValue43
 t182:=underlying252
 a182:=Tryz.isAgg252
 z182:=Tryz.sizeOf252
 v182:=Tryz.zeroValue252
 t183:=underlying253
 a183:=Tryz.isAgg253
 z183:=Tryz.sizeOf253
 v183:=Tryz.zeroValue253
 t218:=underlying290
 a218:=Tryz.isAgg290
 z218:=Tryz.sizeOf290
 v218:=Tryz.zeroValue290
 t222:=underlying294
 a222:=Tryz.isAgg294
 z222:=Tryz.sizeOf294
 v222:=Tryz.zeroValue294
 t228:=underlying309
 a228:=Tryz.isAgg309
 z228:=Tryz.sizeOf309
 v228:=Tryz.zeroValue309
 t229:=underlying107
 a229:=Tryz.isAgg107
 z229:=Tryz.sizeOf107
 v229:=Tryz.zeroValue107
theorem Zpk (w:World):Calls prog 92 #[.slice none 0 0] w (fun e w'=>e = .returned (.tuple #[])∧w' = w):=
 Go.calls_of_every_depth fun D=>Go.Proofs.AnyS.slices_Sort_int_none_in Zmk D none 0 w
theorem Zmm {w:World} {y:Ys} : ∀ {l:List Int} {xs:List Value},PVs (l.flatMap Zn) xs w y→xs=l.map (Value.int .i64) ∧ ∀ x ∈ l,inR .i64 x
 | [],[],_=>⟨rfl,fun x hx=>by cases hx⟩
 | [],_ :: _,h=>h.elim
 | x :: l,[],h=>h.elim
 | x :: l,v :: xs,h=>by
  have h1:v = .int .i64 x∧inR .i64 x:=h.1.2
  obtain ⟨h2,h3⟩:=Zmm (l:=l) (xs:=xs) h.2
  exact ⟨by rw [h1.1,h2];rfl,fun z hz=>by rcases Yj.1 hz with rfl | hz;exact h1.2;exact h3 z hz⟩
theorem Zfo {w:World} {y:Ys} : ∀ {l:List Int},(∀ x ∈ l,inR .i64 x)→PVs (l.flatMap Zn) (l.map (Value.int .i64)) w y
 | [],_=>trivial
 | x :: l,h=>⟨⟨rfl,rfl,h x (by simp)⟩,Zfo fun z hz=>h z (by simp [hz])⟩
theorem Zq5 {l:List Int} {j:Nat} (hj:j<l.length):(l.toArray)[j]! = l[j]:=by simp [hj]
theorem ZkE {w:World} {g n:Nat} {d:List Int} {os:Array Obj} {cur:Array Value} {e:TypeId} (hg:w.heap[g]? = some (.cells cur e (0,0))) (b:Nat) (hb:b<w.heap.size) :
  (Go.Sort.grow (Go.Sort.putRow (Value.int .i64) (Go.Sort.ahead w n) g 0 d.toArray) os).heap[b]? = if b=g then some (.cells (Go.Sort.putCells (Value.int .i64) 0 d.toArray cur) e (0,0)) else w.heap[b]?:=by
 unfold Go.Sort.grow Go.Sort.putRow Go.Sort.mapBlock Go.Sort.ahead
 simp only
 rw [Array.getElem?_append_left (by simpa using hb),Array.getElem?_modify]
 by_cases h:g=b
 ·subst h
  rw [Yf rfl,Yf rfl,hg];rfl
 ·rw [Yc h,Yc (fun e=>h e.symm)]
theorem ZqK {cur:Array Value} {d:List Int} (h:d.length≤cur.size):(Go.Sort.putCells (Value.int .i64) 0 d.toArray cur).toList.take d.length=d.map (Value.int .i64):=by
 apply Ya3
 ·simp [Go.Sort.putCells];omega
 ·intro i h1 h2
  have hi:i<d.length:=by simpa using h2
  simp [Go.Sort.putCells,hi]
theorem Zjp (v:Value) (l:List Int) (hlm:l.length≤1000000):FnG prog 92 1 [.is v] [Zy 3 1 Zn l v] (.tup []) (fun _=>[Zy 3 1 Zn (l.mergeSort leI) v]):=fun w F vs hw hle hvs hpr=>by
 match vs,hvs with
 | [u],hvs=>
  have hu:u=v:=hvs.1.1
  subst hu
  obtain ⟨xs,⟨hxl,hx⟩,hp,hf⟩:=hpr 0 _ rfl
  rcases hx with ⟨rfl,h0⟩ | ⟨g,cap,cur,rfl,_,hg,hn,hcap,hcs,hct⟩
  ·have hl:l = []:=YR h0
   subst hl
   refine (Zpk w).mono ?_
   rintro e w' ⟨rfl,rfl⟩
   refine ⟨.tuple #[],F,rfl,hw,⟨rfl,rfl,rfl,YL _,fun _ _ _=>rfl,fun _ _=>rfl,fun n hn b hb=>.inl ⟨n,hn,hb⟩⟩,hle,⟨[],rfl,tv⟩,fun i h hi=>?_⟩
   match i,hi with
   | 0,hi=>simp at hi;subst hi;exact ⟨xs,⟨hxl,.inl ⟨rfl,rfl⟩⟩,by simpa using hp,hf⟩
  ·have hgs:g<w.heap.size:=(YW.1 hg).1
   obtain ⟨hxe,hin⟩:=Zmm hp
   have hcl:l.length≤cur.size:=by rw [hcs];omega
   have hbig:l.length<4611686018427387904:=by omega
   have hcur:∀ j (hj:j<l.length),cur[j]? = some (.int .i64 l[j]):=fun j hj=>by
    have h1:(cur.toList.take (l.length*1))[j]? = (l.map (Value.int .i64))[j]?:=by rw [hct,hxe]
    rw [Ybz ow] at h1
    simpa [hj] using h1
   have hH:Go.Sort.Holds (Value.int .i64) w g 0 l.toArray:=fun j hj=>by
    have hj':j<l.length:=by simpa using hj
    refine ⟨?_,?_⟩
    ·rw [Zq5 hj',Y3,ZY hg];exact hcur j hj'
    ·simp [World.frozen?,hg]
   have hcalls:Calls prog 92 #[.slice (some ⟨g,0,none⟩) l.length cap] w fun e w'=>e = .returned (.tuple #[]) ∧ ∃ n os,w' = Go.Sort.grow (Go.Sort.putRow (Value.int .i64) (Go.Sort.ahead w n) g 0 (l.mergeSort leI).toArray) os:=Go.Proofs.Any.slices_Sort_int Zmk g 0 cap l w hH hgs hbig
   refine hcalls.mono ?_
   rintro e w' ⟨rfl,n,os,rfl⟩
   have hsl:(l.mergeSort leI).length=l.length:=Ybt l
   have hheap:=fun b hb=>ZkE (n:=n) (d:=l.mergeSort leI) (os:=os) hg b hb
   have hsz:(Go.Sort.grow (Go.Sort.putRow (Value.int .i64) (Go.Sort.ahead w n) g 0 (l.mergeSort leI).toArray) os).heap.size=w.heap.size+os.size:=by simp [Go.Sort.ahead]
   have hfg:F 1 g:=(hf g).2 rfl
   have hst:Stp (List.range' 1 1) w F (Go.Sort.grow (Go.Sort.putRow (Value.int .i64) (Go.Sort.ahead w n) g 0 (l.mergeSort leI).toArray) os) F:=
    ⟨rfl,rfl,rfl,by rw [hsz];omega,fun b hb hn=>by
     rw [hheap b hb,Yc (fun e=>by subst e;exact hn 1 (by simp) hfg)],fun _ _=>rfl,fun n hn b hb=>.inl ⟨n,hn,hb⟩⟩
   refine ⟨.tuple #[],F,rfl,⟨hw.dis,fun n b hb=>by rw [hsz];have:=hw.bd n b hb;omega⟩,hst,hle,⟨[],rfl,tv⟩,fun i h hi=>?_⟩
   match i,hi with
   | 0,hi=>
    simp only [YbF,Y6] at hi
    subst hi
    refine ⟨(l.mergeSort leI).map (Value.int .i64),⟨by simp,.inr ⟨g,cap,_,by rw [hsl],Yx _,(hheap g hgs).trans (Yf rfl),by omega,hcap,by simp [Go.Sort.putCells,hcs],?_⟩⟩,Zfo fun x hx=>hin x ((YaU l leI).mem_iff.1 hx),hf⟩
    rw [Nat.mul_one];exact ZqK ow
structure Zg where
 src:Int
 dst:Int
 kind:Int
 key:Int
 deriving DecidableEq,Inhabited
structure Zb0 where
 tx:Int
 key:Int
 nth:Int
 deriving DecidableEq,Inhabited
def Zq (e:Zg):List PV:=[.int .i64 e.src,.int .i64 e.dst,.int .i64 e.kind,.int .i64 e.key]
def ZT (v:Zb0):List PV:=[.int .i64 v.tx,.int .i64 v.key,.int .i64 v.nth]
def noE:Zg:=⟨0,0,0,0⟩
def noV:Zb0:=⟨0,0,0⟩
def idB (n:Int):Bool:=decide (1≤n) && decide (n≤1048575)
def ZcK (v:Zb0):Bool:=if v.tx=0 then idB v.key && decide (v.nth=0) else ((idB v.tx && idB v.key) && decide (1≤v.nth)) && decide (v.nth≤4095)
def ZvF (v:Zb0):Int:=(v.tx*1048576+v.key)*4096+v.nth
def ZsQ (v:Zb0):Int×Int:=if ZcK v then (ZvF v,0) else (0,1)
theorem Zj5 {n:Int} : idB n=true ↔ 1≤n∧n≤1048575:=by unfold idB;rw [Yr,Yq,Yq]
theorem ZmM (k:Int):decide (k<1) = !decide (1≤k):=by rw [← decide_not];exact decide_eq_decide.2 ow
theorem ZoS (m k:Int):decide (m<k) = !decide (k≤m):=by rw [← decide_not];exact decide_eq_decide.2 ow
theorem or64 (x y:Nat) (hx:x<18446744073709551616) (hy:y<18446744073709551616):bits .or .u64 (x:Int) (y:Int)=((x ||| y:Nat):Int):=by
 have h1:(BitVec.ofInt 64 (x:Int)).toNat=x:=by rw [YaE];omega
 have h2:(BitVec.ofInt 64 (y:Int)).toNat=y:=by rw [YaE];omega
 show IntKind.wrap .u64 (((BitVec.ofInt 64 (x:Int) ||| BitVec.ofInt 64 (y:Int)).toNat:Nat):Int)=_
 rw [BitVec.toNat_or,h1,h2]
 exact Zan (by have:=Nat.or_lt_two_pow (n:=64) hx hy;omega)
theorem Zrx {q:Nat} (h:q<18446744073709551616):IntKind.wrap .u64 (q:Int)=q:=Zan ow
theorem ofN {q:Nat} (h:q<18446744073709551616):(BitVec.ofInt 64 (q:Int)).toNat=q:=by rw [YaE];omega
theorem ZsT {K:Int} (k:Nat) (hk:min K.toNat (IntKind.bits .u64)=k) (x y:Int) (hx:0≤x) (hy:0≤y) (hyk:y<2 ^ k) (hb:x*2 ^ k+y<18446744073709551616):bits .or .u64 (IntKind.wrap .u64 (x*2 ^ min K.toNat (IntKind.bits .u64))) y=x*2 ^ k+y:=by
 obtain ⟨X,rfl⟩:=Yae hx
 obtain ⟨Y,rfl⟩:=Yae hy
 rw [hk]
 have e2:(X:Int)*2 ^ k=((X*2 ^ k:Nat):Int):=by rw [Int.natCast_mul,Int.natCast_pow];rfl
 have hY:Y<2 ^ k:=by exact_mod_cast hyk
 have hor:X*2 ^ k ||| Y=X*2 ^ k+Y:=by rw [Nat.mul_comm];exact (Nat.two_pow_add_eq_or_of_lt hY X).symm
 rw [e2] at hb ⊢
 generalize X*2 ^ k=Q at hb hor ⊢
 rw [Zrx ow,or64 _ _ ow ow,hor]
 omega
theorem Zmh {v:Zb0} (h:ZcK v=true):bits .or .u64 (IntKind.wrap .u64 (bits .or .u64 (IntKind.wrap .u64 (IntKind.wrap .u64 v.tx*2 ^ min (20:Int).toNat (IntKind.bits .u64))) (IntKind.wrap .u64 v.key)*2 ^ min (12:Int).toNat (IntKind.bits .u64))) (IntKind.wrap .u64 v.nth)=ZvF v:=by
 have hb:(0≤v.tx∧v.tx≤1048575)∧(1≤v.key∧v.key≤1048575)∧(0≤v.nth∧v.nth≤4095):=by
  unfold ZcK at h
  split at h <;> simp only [Yr,Yq,Zj5] at h <;> omega
 obtain ⟨h1,h2,h3⟩:=hb
 rw [Zan (x:=v.tx) ow,Zan (x:=v.key) ow,Zan (x:=v.nth) ow]
 rw [ZsT 20 rfl v.tx v.key ow ow ow ow,ZsT 12 rfl (v.tx*2 ^ 20+v.key) v.nth ow ow ow ow]
 unfold ZvF
 omega
theorem mask {x:Int} (h:0≤x∧x≤18446744073709551615) {K:Int} (k:Nat) (hk:min K.toNat (IntKind.bits .u64)=k) (hk2:k<64):bits .and .u64 x (IntKind.wrap .u64 (IntKind.wrap .u64 (1*2 ^ min K.toNat (IntKind.bits .u64)) - 1))=x % 2 ^ k:=by
 obtain ⟨X,rfl⟩:=Yae h.1
 rw [hk,Int.one_mul]
 have hp1:2 ^ k<2 ^ 64:=Nat.pow_lt_pow_right (by decide) hk2
 have hp:2 ^ k<18446744073709551616:=hp1
 have hp0:0<2 ^ k:=Nat.two_pow_pos k
 have e2:(2:Int) ^ k=((2 ^ k:Nat):Int):=by norm_cast
 have e3:∀ q:Nat,0<q→(q:Int) - 1=((q - 1:Nat):Int):=fun q h=>by omega
 rw [e2,Zrx hp,e3 _ hp0,Zrx ow]
 show IntKind.wrap .u64 (((BitVec.ofInt 64 (X:Int) &&& BitVec.ofInt 64 ((2 ^ k - 1:Nat):Int)).toNat:Nat):Int)=_
 rw [Ybq,ofN ow,ofN ow,YaR]
 have hm:=Nat.mod_le X (2 ^ k)
 rw [Zrx ow]
 norm_cast
theorem Zwd (n:Int):FnP prog 178 [.int .i64 n] (.bool (idB n)):=by
 refine FnP.mk func178 rfl ntmps178 rfl fun B a w F V hfr G=>Ya ?_
 refine rZ G qB V [2,0] [0] fun G=>Ya ?_
 refine rZ G (qR rr (qf (Zbq .t qi) r1 qz (qR rr (qm rfl rfl rfl rfl (qk rfl (fun h=>Zkz (.w h) qi) r2 qz (qf (ZE .t .t) r2 qz (qO rr qZ))))))) V [2] [0] fun G=>Yh ?_
 refine Zs hfr G rfl rfl rfl .refl
theorem Zho (v:Zb0):((!(decide (v.tx=0) && decide (v.nth=0)) && ((!idB v.tx || decide (v.nth<1)) || decide (4095<v.nth))) || !idB v.key) = !ZcK v:=by
 unfold ZcK
 by_cases h:v.tx=0
 ·rw [Yf h,Yag h]
  have hi:idB v.tx=false:=by rw [h];rfl
  rw [hi]
  cases decide (v.nth=0) <;> cases idB v.key <;> simp
 ·rw [Yc h,YF h,ZmM,ZoS 4095]
  cases idB v.tx <;> cases idB v.key <;> cases decide (1≤v.nth) <;> cases decide (v.nth≤4095) <;> rfl
theorem ZoE (v:Zb0):FnP prog 137 [.agg (ZT v)] (.tup [.int .u64 (ZsQ v).1,.int .i64 (ZsQ v).2]):=by
 refine FnP.mk func137 rfl ntmps137 rfl fun B a w F V hfr G=>Ya ?_
 refine Zb G (qx 101 r1 (qI (qI qZ))) V [3,2,1] [101,0] (fun _=>rfl) (fun _=>rfl) fun τ a w F G=>?_
 try dsimp only [RS.sub,SF.sub,CF.sub,csub,Anc.sub,List.map,zCF] at G
 generalize τ 1=v1 at G
 refine Za (Ya (rZ G (qg 0 101 r1 r1 (qa 101 r1 r1 (qf (o_eql .t qi) r1 qz (qR rr (qv 2 101 rfl r2 r1 (qw 101 rfl r2 r1 (qk rfl (fun h=>o_eql (.w h) qi) r2 qz (qf (ZE .t .t) r2 qz (qO rr qZ))))))))) V [4,3,2,1] [101,0] fun G=>(Ya (Ya ?_))))
 refine Ze G (qR rr (qf (o_not .t) r1 qz (qR rr (qv 0 101 rfl r2 r1 (qw 101 rfl r2 r1 (qk rfl (fun h=>oP (Zwd _) func178 (Args.one (.w h))) r2 qz (qk rfl (fun h=>o_not (.w h)) r2 qz (qk rfl (fun h=>oM (.w h)) r2 qz (ZB.cons (ZaF.cond2 rfl rfl (fun h=>Z9 (off:=2) 101 .is kr (by rfl))) r2 r1 (ZB.cons (ZaF.cond2 rfl rfl (fun h=>ZbY (ag:=false) (sz:=1) 101 (.w h .adr) kr kr kr (by rfl))) r2 r1 (ZB.cons (ZaF.cond2 rfl rfl (fun h=>ZaA (.w h) qi)) r2 qz (qk rfl (fun h=>Zal (.w h) (.wc h)) r3 qz (qk rfl (fun h=>oM (.w h)) r2 qz (ZB.cons (ZaF.cond2 rfl rfl (fun h=>Z9 (off:=2) 101 .is kr (by rfl))) r2 r1 (ZB.cons (ZaF.cond2 rfl rfl (fun h=>ZbY (ag:=false) (sz:=1) 101 (.w h .adr) kr kr kr (by rfl))) r2 r1 (ZB.cons (ZaF.cond2 rfl rfl (fun h=>ZaP (.w h) qi)) r2 qz (qk rfl (fun h=>Zal (.w h) (.wc h)) r3 qz (qf (ZE .t .t) r2 qz (qR rr (qv 1 101 rfl r2 r1 (qw 101 rfl r2 r1 (qk rfl (fun h=>oP (Zwd _) func178 (Args.one (.w h))) r2 qz (qk rfl (fun h=>o_not (.w h)) r2 qz (qf (Zal .t .t) r2 qz qZ)))))))))))))))))))))))) V [36,3,2,1] [101,0] rfl rfl fun a w F G=>?_
 try dsimp only [List.map,xD,xE,xT,xU,ldSF] at G
 refine Za (Zc G rfl (fun hc0=>?_) (fun hc0=>?_))
 ·rw [Zho] at hc0
  have hr:ZcK v=false:=by simpa using hc0
  have hg:ZsQ v=(0,1):=by unfold ZsQ;rw [hr];rfl
  refine Ya (rZ G (qI (qI qZ)) V [3,2,1] [101,0] fun G=>(Yh (Zk ?_)))
  refine Z6 hfr G rfl (.tmp rfl (.tmp rfl .nil)) (.two (.int (by rw [hg];try exact Zmh hr)) (.int (by rw [hg])))
 rw [Zho] at hc0
 have hr:ZcK v=true:=by simpa using hc0
 have hg:ZsQ v=(ZvF v,0):=Yf hr
 refine Ye (Za (Ya (rZ G (qg 0 101 r1 r1 (qa 101 r1 r1 (qf (o_conv Ycu kr .t) r1 qz (qf (o_shl .t qi (by decide)) r1 qz (qg 1 101 r1 r1 (qa 101 r1 r1 (qf (o_conv Ycu kr .t) r1 qz (qf (ZsG .t .t) r2 qz (qf (o_shl .t qi (by decide)) r1 qz (qg 2 101 r1 r1 (qa 101 r1 r1 (qf (o_conv Ycu kr .t) r1 qz (qf (ZsG .t .t) r2 qz (qO rr (qI qZ))))))))))))))) V [3,2] [0] fun G=>Yh ?_)))
 refine Z6 hfr G rfl (.tmp rfl (.tmp rfl .nil)) (.two (.int (by rw [hg];try exact Zmh hr)) (.int (by rw [hg])))
def Zc7 (x y:Int):Int:=if x<y then -1 else if y<x then 1 else 0
def Zfc (e:Zg):List Int:=[e.src,e.kind,e.key,e.dst]
def Zgz:List Int→List Int→Int
 | x :: xs,y :: ys=>if x=y then Zgz xs ys else Zc7 x y
 | _,_=>0
def cmpE (e f:Zg):Int:=Zgz (Zfc e) (Zfc f)
theorem ZcJ {x y:Int} : Zc7 x y=0 ↔ x=y:=by unfold Zc7;split <;> (try split) <;> omega
theorem Zqo:∀ (k:Nat) (xs ys:List Int),k<xs.length→k<ys.length→(∀ j,j<k→Nn xs j=Nn ys j)→Nn xs k≠Nn ys k→Zgz xs ys=Zc7 (Nn xs k) (Nn ys k)
 | _,[],_,h,_,_,_=>by simp at h
 | _,_ :: _,[],_,h,_,_=>by simp at h
 | 0,x :: xs,y :: ys,_,_,_,hn=>by
  have hn':x≠y:=hn
  unfold Zgz
  rw [Yc hn']
  rfl
 | k+1,x :: xs,y :: ys,h1,h2,hj,hn=>by
  have h0:x=y:=hj 0 ow
  unfold Zgz
  rw [Yf h0]
  exact Zqo k xs ys (by simpa using h1) (by simpa using h2) (fun j h=>hj (j+1) ow) hn
theorem Zlh:∀ (xs ys:List Int),xs.length=ys.length→(∀ j,j<xs.length→Nn xs j=Nn ys j)→Zgz xs ys=0
 | [],[],_,_=>rfl
 | [],_ :: _,h,_=>by simp at h
 | _ :: _,[],h,_=>by simp at h
 | x :: xs,y :: ys,h,hj=>by
  have h0:x=y:=hj 0 (by simp)
  unfold Zgz
  rw [Yf h0]
  exact Zlh xs ys (by simpa using h) (fun j h=>hj (j+1) (by simpa using h))
theorem ZnG (n:Int):FnP prog 151 [.int .i64 n] (.bool false):=by
 refine FnP.mk func151 rfl ntmps151 rfl fun B a w F V hfr G=>Ya ?_
 refine rZ G qB V [2,0] [0] fun G=>Ya ?_
 refine rZ G (qR rr (qR rr (qf (o_neq .t .t) r2 qz (qO rr qZ)))) V [2] [0] fun G=>Yh ?_
 refine Zs hfr G rfl rfl rfl (.bool (by simp))
theorem Zvh (m n:Int):FnP prog 110 [.int .i64 m,.int .i64 n] (.int .i64 (Zc7 m n)):=by
 refine FnP.mk func110 rfl ntmps110 rfl fun B a w F V hfr G=>Ya ?_
 refine rZ G (qI qZ) V [4,1,0] [0] fun G=>Ya ?_
 refine rZ G (qR rr (qf (oP (ZnG _) func151 (Args.one .t)) r1 qz (qO rr qZ))) V [5,4,1,0] [0] fun G=>Ya ?_
 refine rZ G (qR rr (qf (oP (ZnG _) func151 (Args.one .t)) r1 qz (qO rr qZ))) V [6,5,4,1,0] [0] fun G=>(Ya (Ya ?_))
 refine rZ G (qR rr qZ) V [11,6,4,1,0] [0] fun G=>?_
 refine Zc G rfl (fun hc0=>?_) (fun hc0=>?_)
 ·cases hc0
 refine Ye (Za (Ya (Ya (rZ G (qR rr qZ) V [13,4,1,0] [0] fun G=>?_))))
 refine Zc G rfl (fun hc1=>?_) (fun hc1=>?_)
 ·cases hc1
 refine Ye (Za (Ya (Ya (rZ G (qR rr (qR rr (qL r2))) V [16,4,1,0] [0] fun G=>?_))))
 refine Zc G rfl (fun hc2=>?_) (fun hc2=>?_)
 ·have hg:Zc7 m n = -1:=Yf (Yt hc2)
  refine Ya (rZ G (qI qZ) V [4,1,0] [0] fun G=>(Yh (Zk ?_)))
  refine Zs hfr G rfl rfl rfl (.int (by rw [hg]))
 have h1:¬ m<n:=YJ hc2
 refine Ye (Za (Ya (Ya (rZ G (qR rr (qR rr (qf (ZaP .t .t) r2 qz qZ))) V [19,4] [0] fun G=>?_))))
 refine Zc G rfl (fun hc3=>?_) (fun hc3=>?_)
 ·have hg:Zc7 m n=1:=by unfold Zc7;rw [Yc h1,Yf (Yt hc3)]
  refine Ya (rZ G (qI qZ) V [4] [0] fun G=>(Yh (Zk ?_)))
  refine Zs hfr G rfl rfl rfl (.int (by rw [hg]))
 have hg:Zc7 m n=0:=by unfold Zc7;rw [Yc h1,Yc (YJ hc3)]
 refine Ye (Za (Ya (rZ G (qI qZ) V [4] [0] fun G=>Yh ?_)))
 refine Zs hfr G rfl rfl rfl (.int (by rw [hg]))
theorem Zon (d e:Zg):FnP prog 174 [.agg (Zq d),.agg (Zq e)] (.int .i64 (cmpE d e)):=by
 refine FnP.mk func174 rfl ntmps174 rfl fun B a w F V hfr G=>Ya ?_
 refine Zb G (qx 101 r1 (qx 102 r1 (qI qZ))) V [4,3,2] [102,101,0] (fun _=>rfl) (fun _=>rfl) fun τ a w F G=>?_
 try dsimp only [RS.sub,SF.sub,CF.sub,csub,Anc.sub,List.map,zCF] at G
 generalize τ 2=v2,τ 3=v3 at G
 refine Za (Ya (Zb G (qg 0 101 r1 r1 (qa 101 r1 r1 (qg 2 101 r1 r1 (qa 101 r1 r1 (qg 3 101 r1 r1 (qa 101 r1 r1 (qg 1 101 r1 r1 (qa 101 r1 r1 (qf (Zby (sz:=1) (r:=[(0,.tmp 10),(1,.tmp 12),(2,.tmp 14),(3,.tmp 16)]) (zs:=[.int .i64 0,.int .i64 0,.int .i64 0,.int .i64 0]) (pl:=[(0,1),(1,1),(2,1),(3,1)]) underlying289 kr kr rfl (.one rfl .t one_int kr (.one rfl .t one_int kr (.one rfl .t one_int kr (.one rfl .t one_int kr .nil)))) (by rfl)) r4 qz (qf (oH [.int .i64 0,.int .i64 0,.int .i64 0,.int .i64 0] 103) trivial qz (qS 4 103 r2 r1 qZ))))))))))) V [5,4,3] [103,102,0] (fun _=>rfl) (fun _=>rfl) fun τ a w F G=>?_))
 try dsimp only [RS.sub,SF.sub,CF.sub,csub,Anc.sub,List.map,Zf,xL,xM,Nat.reduceAdd,xD,xE,xT,xU,xC,xN,zCF,ldSF] at G
 generalize τ 5=v5 at G
 refine Za (Ya (Zb G (qg 0 102 r1 r1 (qa 102 r1 r1 (qg 2 102 r1 r1 (qa 102 r1 r1 (qg 3 102 r1 r1 (qa 102 r1 r1 (qg 1 102 r1 r1 (qa 102 r1 r1 (qf (Zby (sz:=1) (r:=[(0,.tmp 19),(1,.tmp 21),(2,.tmp 23),(3,.tmp 25)]) (zs:=[.int .i64 0,.int .i64 0,.int .i64 0,.int .i64 0]) (pl:=[(0,1),(1,1),(2,1),(3,1)]) underlying289 kr kr rfl (.one rfl .t one_int kr (.one rfl .t one_int kr (.one rfl .t one_int kr (.one rfl .t one_int kr .nil)))) (by rfl)) r4 qz (qf (oH [.int .i64 0,.int .i64 0,.int .i64 0,.int .i64 0] 104) trivial qz (qS 4 104 r2 r1 qZ))))))))))) V [6,5,4] [104,103,0] (fun _=>rfl) (fun _=>rfl) fun τ a w F G=>?_))
 try dsimp only [RS.sub,SF.sub,CF.sub,csub,Anc.sub,List.map,Zf,xL,xM,Nat.reduceAdd,xD,xE,xT,xU,xC,xN,zCF,ldSF] at G
 generalize τ 6=v6 at G
 refine Za (Ya (Ya (rZ G (qJ qZ) V [27,6,5,4] [104,103,0] fun G=>Yg ?_)))
 replace G:=G.turn 103 rfl (r':=.ob (.val v5) (ZnB 289 (fun x=>PV.int .i64 x) (Zfc d))) (fun τ w f y h=>ZhQ (f:=(fun x=>PV.int .i64 x)) (l:=Zfc d) τ w f y h)
 replace G:=G.turn 104 rfl (r':=.ob (.val v6) (ZnB 289 (fun x=>PV.int .i64 x) (Zfc e))) (fun τ w f y h=>ZhQ (f:=(fun x=>PV.int .i64 x)) (l:=Zfc e) τ w f y h)
 obtain ⟨F,G⟩:=G.nM [27,6,5] [104,103,0]
 refine Zbf (σ:=Nat) (fun s=>(⟨[(5,.pv (.is v5)),(6,.pv (.is v6)),(27,.pv (.int .i64 s))],[(0,frame B),(103,.ob (.val v5) (ZnB 289 (fun x=>PV.int .i64 x) (Zfc d))),(104,.ob (.val v6) (ZnB 289 (fun x=>PV.int .i64 x) (Zfc e)))]⟩:En)) (fun s=>s≤4 ∧ ∀ j,j<s→Nn (Zfc d) j=Nn (Zfc e) j) (fun s=>4 - s) 0 G ⟨by decide,fun j hj=>absurd hj (Y2 j)⟩ ?_
 clear G;intro k a w F hC G
 try dsimp only at hC
 try dsimp only at G
 obtain ⟨hk,hq⟩:=hC
 refine Ya (rZ G (qf (ZaA .t qi) r1 qz qZ) V [28,27,6,5] [104,103,0] fun G=>Ya ?_)
 refine Zc G rfl (fun hc0=>?_) (fun hc0=>?_)
 ·have hkl:k<4:=by simp at hc0;omega
  refine Ye (Za (Ya (Yg (Ya (rZ G (qR rr (qO rr qZ)) V [27,7,6,5] [104,103,0] fun G=>Ya ?_)))))
  refine Zv G (qR rr (qf (Zb5 (sz:=1) 103 underlying289 kr .is .t ow ow) r2 r1 (qf (Zit 103 .adr kr kr (by simp only [Zfc,Yl,Yy];omega)) r1 r1 (qR rr (qf (Zb5 (sz:=1) 104 underlying289 kr .is .t ow ow) r2 r1 (qf (Zit 104 .adr kr kr (by simp only [Zfc,Yl,Yy];omega)) r1 r1 (qf (oP (Zvh _ _) func110 (Args.two .t .t)) r2 qz (qO rr qZ)))))))) V [27,8,6,5] [104,103,0] rfl rfl fun a w F G=>?_
  try dsimp only [List.map,xD,xE,xT,xU,ldSF] at G
  simp only [Y3,Nat.mul_one,Yb] at G
  refine Za (Ya (rZ G (qR rr (qf (o_neq .t qi) r1 qz qZ)) V [38,27,8,6,5] [104,103,0] fun G=>?_))
  refine Zc G rfl (fun hc1=>?_) (fun hc1=>?_)
  ·have hne:Zc7 (Nn (Zfc d) k) (Nn (Zfc e) k)≠0:=by simpa using hc1
   have hg:cmpE d e=Zc7 (Nn (Zfc d) k) (Nn (Zfc e) k):=Zqo k _ _ hkl hkl hq (fun e=>hne (ZcJ.2 e))
   refine Ya (rZ G (qR rr (qO rr qZ)) V [27,6,5,4] [104,103,0] fun G=>(Yh (ZA (Zk (Zk (ZA (Zk ?_)))))))
   refine Zs hfr G rfl rfl rfl (.int (by rw [hg]))
  have hqk:Nn (Zfc d) k=Nn (Zfc e) k:=ZcJ.1 (by simpa using hc1)
  refine Ye (Zi (Za (rZ G (qp r1 (qR rr qZ)) V [27,6,5] [104,103,0] fun G=>?_)))
  replace G:=G.ent (i:=27) (s':=.pv (.int .i64 ((k+1:Nat):Int))) rfl (.int (Zd ow))
  obtain ⟨F,G⟩:=G.nM [27,6,5] [104,103,0]
  exact ⟨k+1,F,⟨by omega,fun j hj=>by rcases Y0 (Y7 hj) with h | h;exact hq j h;rw [h];exact hqk⟩,G,by omega⟩
 have hg:cmpE d e=0:=Zlh _ _ rfl fun j hj=>hq j (by simp only [Zfc,Yl,Yy] at hj;simp at hc0;omega)
 refine Yw (Zj (Zj (Zo (Za (Ya (rZ G (qI qZ) V [4] [104,103,0] fun G=>Yh ?_))))))
 refine Zs hfr G rfl rfl rfl (.int (by rw [hg]))
theorem Zs4 (x:Int) (hx:0≤x∧x<256):FnP prog 190 [.int .u64 x] (.any):=by
 refine FnP.mk func190 rfl ntmps190 rfl fun B a w F V hfr G=>?_
 have u8w:IntKind.wrap .u8 x=x:=Zf3 ⟨by simp [IntKind.min,IntKind.signed,IntKind.bits];omega,by simp [IntKind.max,IntKind.signed,IntKind.bits];omega⟩
 have hx256:x<(256:Nat):=by omega
 refine Ya (rZ G (qI qZ) V [2,0] [0] fun G=>(Ya (Ya ?_)))
 refine rZ G (qR rr (qf (Zbq .t qi) r1 qz qZ)) V [4,2,0] [0] fun G=>?_
 refine Zc G rfl (fun hc0=>?_) (fun hc0=>?_)
 ·simp at hc0;omega
 refine Ye (Za (Ya (Ya (rZ G (qR rr (qf (Zbq .t qi) r1 qz qZ)) V [8,2,0] [0] fun G=>?_))))
 refine Zc G rfl (fun hc1=>?_) (fun hc1=>?_)
 ·simp at hc1;omega
 refine Ye (Za (Ya (Ya (rZ G (qR rr (qf (Zbq .t qi) r1 qz qZ)) V [14,2,0] [0] fun G=>?_))))
 refine Zc G rfl (fun hc2=>?_) (fun hc2=>?_)
 ·simp at hc2;omega
 refine Ye (Za (Ya (rZ G (qR rr (qR rr (qf (o_conv underlying5 kr .t) r1 qz (qf (Zmu Yct (.cs kr) .t (by rw [u8w];omega) (by rw [u8w];exact hx256)) r1 qz (qf (o_conv Ycl kr .t) r1 qz (qf (o_add .t .t) r2 qz (qO rr qZ))))))) V [2] [0] fun G=>Yh ?_)))
 refine Zs hfr G rfl rfl rfl .any
theorem ZrG (x:Int) (hx:0≤x∧x<256):FnP prog 142 [.int .u64 x] (.any):=by
 refine FnP.mk func142 rfl ntmps142 rfl fun B a w F V hfr G=>Ya ?_
 refine rZ G (qI qZ) V [2,0] [0] fun G=>Ya ?_
 refine wp_cond (by rfl) ?_
 refine Ye (Za (Ya (rZ G (qR rr (qf (oP (Zs4 x hx) func190 (Args.one .t)) r1 qz (qO rr qZ))) V [2] [0] fun G=>Yh ?_)))
 refine Zs hfr G rfl rfl rfl .any
theorem ZqZ (v:Value) (l:List Zg) (hl:l.length≤12) (hs:∀ j,0<j→j<l.length→¬ cmpE (Nn l j) (Nn l (j - 1))<0):FnG prog 232 1 [.is v,.int .i64 0,.int .i64 l.length,.is (.func (.func 174) #[] #[])] [Zy 42 4 Zq l v] (.tup []) (fun _=>[Zy 42 4 Zq l v]):=by
 refine FnG.mk func232 rfl ntmps232 rfl kr fun B F0 a w F V hG G=>?_
 have G:=G.turn 1 rfl (r':=RS.ob (.val v) (Zy 42 4 Zq l)) (fun _ _ _ _ h=>h)
 obtain ⟨F,G⟩:=G.nM [3,2,1,0] [1,0]
 refine Ya (rZ G (qR rr (qp r1 (qO rr qZ))) V [8,3,2,1,0] [1,0] fun G=>Yg ?_)
 replace G:=G.ent (i:=8) (s':=.pv (.int .i64 ((1:Nat):Int))) rfl (.int (by decide))
 obtain ⟨F,G⟩:=G.nM [8,3,2,1,0] [1,0]
 refine Zbf (σ:=Nat) (fun s=>(⟨[(0,.pv (.is v)),(1,.pv (.int .i64 0)),(2,.pv (.int .i64 l.length)),(3,.pv (.is (.func (.func 174) #[] #[]))),(8,.pv (.int .i64 s))],[(0,frame B),(1,.ob (.val v) (Zy 42 4 Zq l))]⟩:En)) (fun s=>1≤s∧s≤13) (fun s=>13 - s) 1 G ⟨by decide,by decide⟩ ?_
 clear G;intro i a w F hC G
 try dsimp only at hC
 try dsimp only at G
 obtain ⟨hi1,hi2⟩:=hC
 have hw:IntKind.wrap .i64 ((i:Int) - 1)=((i - 1:Nat):Int):=by rw [Zz ow];omega
 refine Ya (Ya (rZ G (qR rr (qR rr (qL r2))) V [14,8,3,2,1,0] [1,0] fun G=>?_))
 refine Zc G rfl (fun hc0=>?_) (fun hc0=>?_)
 ·have hil:i<l.length:=by simp at hc0;omega
  refine Ye (Za (Ya (Yg (Ya (rZ G (qR rr (qO rr qZ)) V [9,8,3,2,1,0] [1,0] fun G=>Yg ?_)))))
  obtain ⟨F,G⟩:=G.nM [9,8,3,2,1,0] [1,0]
  refine Zbf (σ:=Unit) (fun s=>(⟨[(0,.pv (.is v)),(1,.pv (.int .i64 0)),(2,.pv (.int .i64 l.length)),(3,.pv (.is (.func (.func 174) #[] #[]))),(8,.pv (.int .i64 i)),(9,.pv (.int .i64 i))],[(0,frame B),(1,.ob (.val v) (Zy 42 4 Zq l))]⟩:En)) (fun s=>True) (fun s=>0) () G trivial ?_
  clear G;intro u a w F hC G
  try dsimp only at hC
  try dsimp only at G
  refine Ya (Ya (Zv G (qR rr (qR rr (qf (ZaP .t .t) r2 qz (qR rr (qm rfl rfl rfl rfl (qm rfl rfl rfl rfl (qm rfl rfl rfl rfl (qk rfl (fun h=>o_indexAddr_row (sz:=4) 1 (.mk Yce kr) (.w h .is) (.w h) ow ow (by rfl)) r3 r1 (qk rfl (fun h=>Zu (ag:=true) (sz':=4) (sz:=4) 1 (.w h) (by intro x;rfl) ow kr kr kr) r2 r1 (qm rfl rfl rfl rfl (qm rfl rfl rfl rfl (qk rfl (fun h=>o_sub (.w h) qi) r2 qz (qk rfl (fun h=>o_indexAddr_row (sz:=4) 1 (.mk Yce kr) (.w h .is) (.w h) (by rw [hw];omega) (by rw [hw];omega) (by rfl)) r3 r1 (qk rfl (fun h=>Zu (ag:=true) (sz':=4) (sz:=4) 1 (.w h) (by intro x;rfl) (by rw [hw];omega) kr kr kr) r2 r1 (qk rfl (fun h=>Zr5 (.w h) (Zon _ _) func174 rfl kr (Args.two (.pagg (.w h)) (.pagg (.w h)))) r4 qz (qk rfl (fun h=>ZaA (.w h) qi) r2 qz (qf (ZE .t .t) r2 qz qZ))))))))))))))))) V [34,9,8,3,2,1,0] [1,0] rfl rfl fun a w F G=>?_))
  try dsimp only [List.map,xD,xE,xT,xU,ldSF] at G
  refine Za (Zc G rfl (fun hc1=>?_) (fun hc1=>?_))
  ·simp only [Yr,Yq,Yb,hw] at hc1
   exact (hs i ow ow hc1.2).elim
  refine Yw (Zj (Zj (Zo (Zi (Za (rZ G (qR rr (qp r1 (qO rr qZ))) V [8,3,2,1,0] [1,0] fun G=>?_))))))
  replace G:=G.ent (i:=8) (s':=.pv (.int .i64 ((i+1:Nat):Int))) rfl (.int (Zd ow))
  obtain ⟨F,G⟩:=G.nM [8,3,2,1,0] [1,0]
  exact ⟨i+1,F,⟨by omega,by omega⟩,G,by omega⟩
 refine Yw (Zj (Zj (Zo ?_)))
 have G:=G.turn 1 rfl (r':=RS.hp (Zy 42 4 Zq l v)) (fun _ _ _ _ h=>h)
 refine Zaf hG G rfl .nil Zbd.none rfl
theorem ZvZ (v:Value) (l:List Zg) (hl:l.length≤12) (hs:∀ j,0<j→j<l.length→¬ cmpE (Nn l j) (Nn l (j - 1))<0):FnG prog 211 1 [.is v,.int .i64 0,.int .i64 l.length,.any,.is (.func (.func 174) #[] #[])] [Zy 42 4 Zq l v] (.tup []) (fun _=>[Zy 42 4 Zq l v]):=by
 refine FnG.mk func211 rfl ntmps211 rfl kr fun B F0 a w F V hG G=>?_
 have G:=G.turn 1 rfl (r':=RS.ob (.val v) (Zy 42 4 Zq l)) (fun _ _ _ _ h=>h)
 obtain ⟨F,G⟩:=G.nM [4,3,2,1,0] [1,0]
 refine Ya (rZ G qB V [10,4,3,2,1,0] [1,0] fun G=>Ya ?_)
 refine rZ G qB V [11,10,4,3,2,1,0] [1,0] fun G=>Yg ?_
 obtain ⟨F,G⟩:=G.nM [4,2,1,0] [1,0]
 refine Zbf (σ:=Unit) (fun s=>(⟨[(0,.pv (.is v)),(1,.pv (.int .i64 0)),(2,.pv (.int .i64 l.length)),(4,.pv (.is (.func (.func 174) #[] #[])))],[(0,frame B),(1,.ob (.val v) (Zy 42 4 Zq l))]⟩:En)) (fun s=>True) (fun s=>0) () G trivial ?_
 clear G;intro u a w F hC G
 try dsimp only at hC
 try dsimp only at G
 refine Yg (Ya (Ze G (qR rr (qR rr (qf (o_sub .t .t) r2 qz (qO rr qZ)))) V [12,4,2,1,0] [1,0] rfl rfl fun a w F G=>?_))
 skip
 refine Za (Ya (Ya (rZ G (qR rr (qf (Zkz .t qi) r1 qz qZ)) V [25,12,4,2,1,0] [1,0] fun G=>?_)))
 refine Zc G rfl (fun hc0=>?_) (fun hc0=>?_)
 ·refine Ya (rZ G (qR rr (qR rr (qR rr (qR rr (qf (Zbk 1 (ZqZ v l hl hs) func232 rfl kr (Args.four .t .t .t .t)) r4 r1 qZ))))) V [12,4,2,1,0] [1,0] fun G=>(Yh (Zk (ZA (Zk (ZA ?_))))))
  have G:=G.turn 1 rfl (r':=RS.hp (Zy 42 4 Zq l v)) (fun _ _ _ _ h=>h)
  refine Zaf hG G rfl .nil Zbd.none rfl
 rw [Zz ow] at hc0
 simp at hc0
 omega
theorem Zmq (v:Value) (l:List Zg) (hl:l.length≤12) (hs:∀ j,0<j→j<l.length→¬ cmpE (Nn l j) (Nn l (j - 1))<0):FnG prog 173 1 [.is v,.is (.func (.func 174) #[] #[])] [Zy 42 4 Zq l v] (.tup []) (fun _=>[Zy 42 4 Zq l v]):=by
 refine FnG.mk func173 rfl ntmps173 rfl kr fun B F0 a w F V hG G=>?_
 have G:=G.turn 1 rfl (r':=RS.ob (.val v) (Zy 42 4 Zq l)) (fun _ _ _ _ h=>h)
 obtain ⟨F,G⟩:=G.nM [1,0] [1,0]
 refine Ya (Ze G (qR rr (qf (ZU 1 Yce .is) r1 r1 (qO rr qZ))) V [4,1,0] [1,0] rfl rfl fun a w F G=>?_)
 have hxl:0≤IntKind.wrap .u64 (l.length:Int)∧IntKind.wrap .u64 (l.length:Int)<256:=by rw [Zak];omega
 refine Za (Ze G (qR rr (qR rr (qR rr (qf (o_conv Yck kr .t) r1 qz (qf (oP (ZrG _ hxl) func142 (Args.one .t)) r1 qz (qR rr (qf (Zbk 1 (ZvZ v l hl hs) func211 rfl kr (Args.five .t qi .t .t .t)) r4 r1 qZ))))))) V [] [1,0] rfl rfl fun a w F G=>?_)
 have G:=G.turn 1 rfl (r':=RS.hp (Zy 42 4 Zq l v)) (fun _ _ _ _ h=>h)
 refine Zaf hG G rfl .nil Zbd.none rfl
theorem Zrq (w:World) (yy:Ys):PVs (Zq noE) [.int .i64 0,.int .i64 0,.int .i64 0,.int .i64 0] w yy:=by
 have h:inR .i64 0:=by simp [inR,IntKind.min,IntKind.max,IntKind.signed,IntKind.bits]
 exact ⟨⟨rfl,rfl,h⟩,⟨rfl,rfl,h⟩,⟨rfl,rfl,h⟩,⟨rfl,rfl,h⟩,tv⟩
end Go.Proofs.YtlkpllemoepamaaGreat
