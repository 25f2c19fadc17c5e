/- Texts put together. No condition beyond those that each theorem says. -/
import Derived.Test.YtlkpllemoepamaaGreatLibW
import Derived.Test.YtlkpllemoepamaaGreatLibL
import Derived.Test.YtlkpllemoepamaaGreatLibE
import Derived.Laws.BitsLemmas
import Derived.Laws.MathBits
import Derived.Shelf.Sort.Plain
import Derived.Shelf.Slices.In.SortNone
namespace Go.Proofs.YtlkpllemoepamaaGreat
open Go Go.Gm Tryz
set_option linter.unusedVariables false
set_option linter.unusedSimpArgs false
set_option maxHeartbeats 4000000
set_option maxRecDepth 8000
theorem ZA {x:Int} (h : -9223372036854775808≤x∧x≤9223372036854775807):IntKind.wrap .i64 x=x:=Zf7 ⟨by simp [IntKind.min,IntKind.signed,IntKind.bits];omega,by simp [IntKind.max,IntKind.signed,IntKind.bits];omega⟩
theorem Zd {i:Nat} (h:i<9223372036854775807):IntKind.wrap .i64 ((i:Int)+1)=((i+1:Nat):Int):=by rw [ZA ow];omega
theorem Zan {x:Int} (h:0≤x∧x≤18446744073709551615):IntKind.wrap .u64 x=x:=Zf7 ⟨by simp [IntKind.min,IntKind.signed,IntKind.bits];omega,by simp [IntKind.max,IntKind.signed,IntKind.bits];omega⟩
theorem Zal (x:Int):IntKind.wrap .u64 x=x % 18446744073709551616:=by simp [IntKind.wrap,IntKind.bits,IntKind.signed]
theorem Zpr {x:Int} (h:inR .i64 x) : -9223372036854775808≤x∧x≤9223372036854775807:=by simpa [inR,IntKind.min,IntKind.max,IntKind.signed,IntKind.bits] using h
theorem ZfR {x:Int} (h:inR .u64 x):0≤x∧x≤18446744073709551615:=by simpa [inR,IntKind.min,IntKind.max,IntKind.signed,IntKind.bits] using h
theorem Sat.lenSl {α:Type} {R:α→List PV} {B:Zbk} {E:En} {a:Act} {w:World} {F:Fp} (h:Sat B E a w F) {i:Nat} {l:List α} (hl:Go.Gm.look E.s i=some (SF.pv (PV.sl R l))):l.length≤9223372036854775807:=by
 obtain ⟨_,cap,_,h1,h2,_⟩:=h.s i _ hl
 unfold maxLen at h2
 omega
def Zn (n:Int):List PV:=[.int .i64 n]
theorem Zba.any {ss:List SF} : Zba ss .any:=fun _ _ _ _ _=>trivial
theorem Za3 {α:Type} [Inhabited α] {x y:List α} (hl:x.length=y.length) (h:∀ j,j<x.length→Nn x j=Nn y j):x=y:=by
 apply Ya6 hl
 intro j h1 h2
 have:=h j h1
 rwa [nth_eq h1,nth_eq h2] at this
theorem ZnP {α:Type} [Inhabited α] {q:List α} {k:Nat} (h:k<q.length):q.take k ++ [Nn q k] = q.take (k+1):=by
 rw [nth_eq h,List.take_succ_eq_append_getElem h]
theorem nth_mem {α:Type} [Inhabited α] {q:List α} {k:Nat} (h:k<q.length):Nn q k ∈ q:=by rw [nth_eq h];exact Ybd h
theorem Zrx {α:Type} [Inhabited α] {l:List α} {i:Nat} (h:i<l.length):l.drop i=Nn l i :: l.drop (i+1):=by rw [nth_eq h];exact Yba h
theorem Zp {α:Type} [Inhabited α] {l:List α} {i:Nat} (h:i<l.length):l.take (i+1)=l.take i ++ [Nn l i]:=(ZnP h).symm
theorem Ent.adr0 {b:Nat} : Ent (.adr (.val (.pointer (some ⟨b,0,none⟩))) 0) (.pv (.is (.pointer (some ⟨b,0,none⟩)))):=fun _ _ _ _ h=>by
 have e:_=Value.pointer (some ⟨b,0,none⟩):=h
 exact ⟨e,by rw [e];rfl⟩
def Zun (v rv:Value) (room:Int) (l:List Int):List RS:=[.pt (.val v) 271 [.pv (.is rv),.pv (.int .i64 room)],.ob (.val rv) (Zu 3 1 Zn l)]
def stH (v:Value) (room:Int) (l:List Int):HP:=.ex fun rv:Value=>.star (Zun v rv room l)
def ZbY (n:Int):Int:=if 65536<(if n<0 then 0 else n) then 65536 else (if n<0 then 0 else n)
theorem ZfP {n:Int} (h:0≤n∧n≤65536):ZbY n=n:=by unfold ZbY;rw [Yc (show ¬ n<0 by omega),Yc ow]
theorem ZpK (n:Int):0≤ZbY n∧ZbY n≤65536:=by unfold ZbY;split <;> split <;> omega
def Zqv (room:Int) (l:List Int):Int:=if room - l.length=0 then 2 else 0
def ZmU (room:Int) (l:List Int) (x:Int):List Int:=if room - l.length=0 then l else l ++ [x]
theorem ZeL {v:Value} {room:Int} {l:List Int} {w:World} {f y:Ys} (h:(stH v room l).p w f y):∃ b,v = .pointer (some ⟨b,0,none⟩):=by
 obtain ⟨rv,g⟩:=h
 exact HP.star_pt g
theorem Zjs {room:Int} {l:List Int} (h:(l.length:Int)<room) (x:Int):Zqv room l=0∧ZmU room l x=l ++ [x]:=⟨Yc ow,Yc ow⟩
theorem nth_last {α:Type} [Inhabited α] {l:List α} {x:α} : Nn (l ++ [x]) l.length=x:=by rw [nth_eq (by simp)];simp
theorem Zh5 {k:IntKind} {a:Int} {b:Bool} (v:Value) (w:World) (y:Ys) (w':World) (y':Ys) (h:(PV.tup [.int k a,.bool b]).p v w y):(PV.tup [.int k a,.bool b]).p v w' y':=by
 obtain ⟨vs,e,h⟩:=h
 exact ⟨vs,e,by
  match vs,h with
  | [u1,u2],h=>exact h⟩
theorem Zlj (n:Int):FnP prog 199 [.int .i64 n] (.int .i64 (ZbY n)):=by
 refine FnP.mk func199 rfl ntmps199 rfl fun B a w F V hfr G=>Ya ?_
 refine rZ G (qI qZ) V [2,0] [0] fun G=>Ya ?_
 refine rZ G (qR rr (qf (Zpn .t qi) r1 qz (qf (o_min .t qi) r1 qz (qO rr qZ)))) V [2] [0] fun G=>Yh ?_
 refine Zr hfr G rfl rfl rfl .refl
theorem ZtF (n:Int):FnG prog 161 1 [.int .i64 n] [.star []] (PV.ptr) (fun v=>[stH v (ZbY n) []]):=by
 refine FnG.mk func161 rfl ntmps161 rfl kr fun B F0 a w F V hG G=>Ya ?_
 refine rZ G (qC qZ) V [2,0] [1,0] fun G=>Ya ?_
 refine Zb G (qR rr (qf (oP (Zlj n) func199 (Args.one .t)) r1 qz (qf (oB [(1,.tmp 4)] [.slice none 0 0,.int .i64 0] [(0,1),(1,1)] (.one rfl .t one_int kr .nil)) r1 qz (qf (oX 101 .t) r1 qz (qO rr qZ))))) V [2] [101,1,0] (fun _=>rfl) (fun _=>rfl) fun τ a w F G=>?_
 try dsimp only [RS.sub,SF.sub,CF.sub,csub,Anc.sub,List.map,Zf,xL,xM,Nat.reduceAdd,xD,xE,xT,xU,xC,xN,zCF,Zn] at G
 generalize τ 6=v6 at G
 refine Za (Yh ?_)
 obtain ⟨b,rfl⟩:=G.shape 101 rfl
 have G:=G.fresh 3 rfl
 have G:=G.turn 3 rfl (ZaD (T:=3) (sz:=1) (R:=Zn))
 obtain ⟨F,G⟩:=G.push 1 3 rfl rfl rfl kr
 obtain ⟨F,G⟩:=G.push 1 101 rfl rfl rfl kr
 have G:=G.turn 1 rfl (r':=RS.hp (stH (.pointer (some ⟨b,0,none⟩)) (ZbY n) [])) (fun _ _ _ _ h=>⟨_,h⟩)
 refine Z2 (h':=fun v=>stH v (ZbY n) []) hG G rfl (.tmp rfl .nil) (.one .ptr) rfl
theorem ZtJ (room:Int) (l:List Int):FnP prog 253 [.ref [.sl Zn l,.int .i64 room]] (.int .i64 l.length):=by
 refine FnP.mk func253 rfl ntmps253 rfl fun B a w F V hfr G=>Ya ?_
 refine rZ G (qI qZ) V [2,0] [0] fun G=>(Ya (Ya ?_))
 refine rZ G (qR rr (qf (Zcm underlying227 .t) r1 qz qZ)) V [4,2,0] [0] fun G=>?_
 refine Zc G rfl (fun hc0=>?_) (fun hc0=>?_)
 ·simp at hc0
 refine Ye (Za (Ya (rZ G (qR rr (qf (ZD .t) r1 qz (qf (oG 0 .t) r1 qz (qf (oG 0 .t) r1 qz (qf (oR false 1 .t) r1 qz (qu underlying45 r1 (qO rr qZ))))))) V [2] [0] fun G=>Yh ?_)))
 refine Zr hfr G rfl rfl rfl .refl
theorem Zqp (room:Int) (l:List Int) (hr:0≤room∧room≤65536) (hn:(l.length:Int)≤room):FnP prog 242 [.ref [.sl Zn l,.int .i64 room]] (.int .i64 (room - l.length)):=by
 refine FnP.mk func242 rfl ntmps242 rfl fun B a w F V hfr G=>Ya ?_
 refine rZ G (qI qZ) V [2,0] [0] fun G=>(Ya (Ya ?_))
 refine rZ G (qR rr (qf (Zcm underlying227 .t) r1 qz qZ)) V [4,2,0] [0] fun G=>?_
 refine Zc G rfl (fun hc0=>?_) (fun hc0=>?_)
 ·simp at hc0
 refine Ye (Za (Ya (Zv G (qR rr (qf (ZD .t) r1 qz (qf (oG 1 .t) r1 qz (qf (oR false 1 .t) r1 qz (qR rr (qf (ZD .t) r1 qz (qf (oG 0 .t) r1 qz (qf (oG 0 .t) r1 qz (qf (oR false 1 .t) r1 qz (qu underlying45 r1 (qf (o_sub .t .t) r2 qz (qO rr qZ)))))))))))) V [2] [0] rfl rfl fun a w F G=>?_)))
 try dsimp only [List.map,xD,xE,xT,xU,ldSF,Zn] at G
 refine Za (Yh (Zr hfr G rfl rfl rfl (.int (ZA ow))))
theorem Zu9 (b:Nat) (room:Int) (l:List Int) (x:Int) (hl:l.length≤70000):FnG prog 243 1 [.is (.pointer (some ⟨b,0,none⟩)),.int .i64 x] [stH (.pointer (some ⟨b,0,none⟩)) room l] (.tup []) (fun _=>[stH (.pointer (some ⟨b,0,none⟩)) room (l ++ [x])]):=by
 refine FnG.mk func243 rfl ntmps243 rfl kr fun B F0 a w F V hG G=>?_
 obtain ⟨rv,G⟩:=G.open_ex 1 rfl
 obtain ⟨F,G⟩:=G.peel 1 2 rfl rfl
 obtain ⟨F,G⟩:=G.peel 1 3 rfl rfl
 obtain ⟨F,G⟩:=G.nM [1,0] [3,2,0]
 refine Zb G (qR rr (qR rr (qf (o_nilCheck 2 .is (by rfl)) r1 r1 (qf (oF 0 2 .adr) r1 r1 (qa 2 r1 r1 (qR rr (qf (o_buildSliceE (sz:=1) (zs:=[.int .i64 0]) (r:=[(0,.tmp 9)]) (l:=[_]) underlying45 kr kr kr kr rfl rfl (.one rfl .t one_int kr .nil) rfl) r1 qz (qf (ZV (sz:=1) (bs:=8) 3 (.mk' underlying45 kr kr) (by intro x;rfl) .is (.arr (l':=[_]) .t) (by simp only [Yl,Yy];omega) (by decide)) ⟨rfl,rfl,tv⟩ ⟨rfl,tv⟩ (qf (o_nilCheck 2 .is (by rfl)) r1 r1 (qf (oF 0 2 .adr) r1 r1 (qf (o_storeS 2 .adr kr kr) r2 r1 qZ))))))))))) V [] [3,2,0] (fun _=>rfl) (fun _=>rfl) fun τ a w F G=>?_
 try dsimp only [RS.sub,SF.sub,CF.sub,csub,Anc.sub,List.map,Zf,xL,xM,Nat.reduceAdd,xD,xE,xT,xU,xC,xN,zCF,ldSF,Zn] at G
 generalize τ 11=v11 at G
 have G:=G.fresh 1 rfl
 obtain ⟨F,G⟩:=G.push 1 3 rfl rfl rfl kr
 obtain ⟨F,G⟩:=G.push 1 2 rfl rfl rfl kr
 have G:=G.turn 1 rfl (r':=RS.hp (stH (.pointer (some ⟨b,0,none⟩)) room (l ++ [x]))) (fun _ _ _ _ h=>⟨_,h⟩)
 refine Zad hG G rfl .nil Zba.none rfl
theorem Zqg (b:Nat) (room:Int) (l:List Int) (x:Int) (hr:0≤room∧room≤65536) (hn:(l.length:Int)≤room):FnG prog 221 1 [.is (.pointer (some ⟨b,0,none⟩)),.int .i64 x] [stH (.pointer (some ⟨b,0,none⟩)) room l] (.int .i64 (Zqv room l)) (fun _=>[stH (.pointer (some ⟨b,0,none⟩)) room (ZmU room l x)]):=by
 refine FnG.mk func221 rfl ntmps221 rfl kr fun B F0 a w F V hG G=>?_
 obtain ⟨rv,G⟩:=G.open_ex 1 rfl
 obtain ⟨F,G⟩:=G.peel 1 2 rfl rfl
 obtain ⟨F,G⟩:=G.peel 1 3 rfl rfl
 obtain ⟨F,G⟩:=G.nM [1,0] [3,2,0]
 refine Ya (rZ G (qI qZ) V [4,1,0] [3,2,0] fun G=>(Ya (Ya ?_)))
 refine rZ G (qR rr (qf (ZbX (cells:=[.pv (.is rv),.pv _]) 2 3 0 (Zqp room l hr hn) (fun _ _ _ _ _ h=>h) rfl func242 rfl kr rfl rfl (Zaf.one .is)) r1 r2 (qf (o_eql .t qi) r1 qz qZ))) V [7,4,1,0] [3,2,0] fun G=>?_
 refine Zc G rfl (fun hc0=>?_) (fun hc0=>?_)
 ·have hf:room - (l.length:Int)=0:=by simpa using hc0
  have hg:2=Zqv room l:=(Yf hf).symm
  have hg2:ZmU room l x=l:=Yf hf
  refine Ya (rZ G (qI qZ) V [4,1,0] [3,2,0] fun G=>(Yh (Zl ?_)))
  have G:=G.fresh 1 rfl
  obtain ⟨F,G⟩:=G.push 1 3 rfl rfl rfl kr
  obtain ⟨F,G⟩:=G.push 1 2 rfl rfl rfl kr
  have G:=G.turn 1 rfl (r':=RS.hp (stH (.pointer (some ⟨b,0,none⟩)) room (ZmU room l x))) (fun _ _ _ _ h=>⟨_,(by rw [hg2];exact h)⟩)
  refine Zad hG G rfl (.tmp rfl .nil) (.one (.int (by rw [hg]))) rfl
 have hf:¬ room - (l.length:Int)=0:=by simpa using hc0
 have hg:0=Zqv room l:=(Yc hf).symm
 have hg2:ZmU room l x=l ++ [x]:=Yc hf
 refine Ye (Za (Ya (Zap 3 G kr (cG rfl (oM .t) r1 trivial (cG rfl (o_nilCheck 2 .is (by rfl)) r1 r1 (cG rfl (oF 0 2 .adr) r1 r1 ChainN.nil))) kr (by rw [V];kernel_rfl) fun a w F G=>?_)))
 obtain ⟨F,G⟩:=G.nM [10,4,1] [3,2,0]
 try dsimp only [Zn] at G
 have G:=G.fresh 1 rfl
 obtain ⟨F,G⟩:=G.push 1 3 rfl rfl rfl kr
 obtain ⟨F,G⟩:=G.push 1 2 rfl rfl rfl kr
 have G:=G.turn 1 rfl (r':=RS.hp (stH (.pointer (some ⟨b,0,none⟩)) room l)) (fun _ _ _ _ h=>⟨_,h⟩)
 obtain ⟨F,G⟩:=G.nM [10,4,1] [1,0]
 refine ZaJ G kr (cG rfl (oM .t) r1 trivial (cG rfl (ZK 1 (Zu9 b room l x ow) func243 rfl kr (Args.two (.conv .t (Ent.adr0)) .t)) r2 r1 ChainN.nil)) kr (by rw [V];kernel_rfl) fun a w F G=>?_
 obtain ⟨F,G⟩:=G.nM [4] [1,0]
 try dsimp only [Zn] at G
 refine Za (Ya (rZ G (qI qZ) V [4] [1,0] fun G=>Yh ?_))
 have G:=G.turn 1 rfl (r':=RS.hp (stH (.pointer (some ⟨b,0,none⟩)) room (ZmU room l x))) (fun _ _ _ _ h=>by rw [hg2];exact h)
 refine Zad hG G rfl (.tmp rfl .nil) (.one (.int (by rw [hg]))) rfl
theorem Zn4 (b:Nat) (room:Int) (l:List Int) (x:Int) (hr:0≤room∧room≤65536) (h:(l.length:Int)<room):FnG prog 221 1 [.is (.pointer (some ⟨b,0,none⟩)),.int .i64 x] [stH (.pointer (some ⟨b,0,none⟩)) room l] (.int .i64 0) (fun _=>[stH (.pointer (some ⟨b,0,none⟩)) room (l ++ [x])]):=by
 have:=Zqg b room l x hr ow
 rw [(Zjs h x).1,(Zjs h x).2] at this;exact this
theorem Zpc (room:Int) (l:List Int) (x:Int) (hl:l.length≤70000):FnP prog 244 [.ref [.sl Zn (l ++ [x]),.int .i64 room]] (.tup [.int .i64 x,.bool true]):=by
 refine FnP.mk func244 rfl ntmps244 rfl fun B a w F V hfr G=>?_
 have hw1:IntKind.wrap .i64 (((l ++ [x]).length:Int) - 1)=((l.length:Nat):Int):=by rw [ZA (by rw [Yd,YM];omega),Yd,YM];omega
 refine Ya (rZ G (qI qB) V [3,2,0] [0] fun G=>(Ya (Ya ?_)))
 refine rZ G (qR rr (qf (oP (ZtJ room (l ++ [x])) func253 (Args.one .t)) r1 qz (qf (o_eql .t qi) r1 qz qZ))) V [6,3,2,0] [0] fun G=>?_
 refine Zc G rfl (fun hc0=>?_) (fun hc0=>?_)
 ·simp at hc0;try omega
 refine Ye (Za (Ya (Zv G (qR rr (qf (ZD .t) r1 qz (qf (oG 0 .t) r1 qz (qf (oG 0 .t) r1 qz (qf (oR false 1 .t) r1 qz (qR rr (qf (ZD .t) r1 qz (qf (oG 0 .t) r1 qz (qf (oG 0 .t) r1 qz (qf (oR false 1 .t) r1 qz (qu underlying45 r1 (qf (o_sub .t qi) r1 qz (qf (o_indexAddr_sl (sz:=1) (.mk underlying45 kr) (by intro x;rfl) .t .t (by rw [hw1];omega) (by rw [hw1,Yd,YM];omega)) r2 qz (qf (oR false 1 .t) r1 qz (qO rr qB))))))))))))))) V [3,2] [0] rfl rfl fun a w F G=>?_)))
 try dsimp only [List.map,xD,xE,xT,xU,ldSF,Zn] at G
 try simp only [Yb] at G
 rw [hw1,Yb,nth_last] at G
 refine Za (Yh (Zab hfr G rfl (.tmp rfl (.tmp rfl .nil)) (.two .refl .refl)))
theorem ZtW (b:Nat) (room:Int) (l:List Int) (x:Int) (hl:l.length≤70000):FnG prog 245 1 [.is (.pointer (some ⟨b,0,none⟩))] [stH (.pointer (some ⟨b,0,none⟩)) room (l ++ [x])] (.tup []) (fun _=>[stH (.pointer (some ⟨b,0,none⟩)) room l]):=by
 refine FnG.mk func245 rfl ntmps245 rfl kr fun B F0 a w F V hG G=>?_
 obtain ⟨rv,G⟩:=G.open_ex 1 rfl
 obtain ⟨F,G⟩:=G.peel 1 2 rfl rfl
 obtain ⟨F,G⟩:=G.peel 1 3 rfl rfl
 obtain ⟨F,G⟩:=G.nM [0] [3,2,0]
 have hw1:IntKind.wrap .i64 (((l ++ [x]).length:Int) - 1)=((l.length:Nat):Int):=by rw [ZA (by rw [Yd,YM];omega),Yd,YM];omega
 refine ZaP G (qR rr (qR rr (qf (o_nilCheck 2 .is (by rfl)) r1 r1 (qf (oF 0 2 .adr) r1 r1 (qa 2 r1 r1 (qR rr (qf (o_nilCheck 2 .is (by rfl)) r1 r1 (qf (oF 0 2 .adr) r1 r1 (qa 2 r1 r1 (qf (ZS 3 underlying45 .is) r1 r1 (qf (o_sub .t qi) r1 qz (qf (ZbE (sz:=1) 3 (.mk underlying45 kr) (by intro x;rfl) .is .t (by rw [hw1];omega) (by rw [hw1,Yd,YM];omega)) r2 r1 (qf (o_nilCheck 2 .is (by rfl)) r1 r1 (qf (oF 0 2 .adr) r1 r1 (qf (o_storeS 2 .adr kr kr) r2 r1 qZ))))))))))))))) V [] [3,2,0] (fun _=>rfl) (fun _=>rfl) fun τ a w F G=>?_
 try dsimp only [RS.sub,SF.sub,CF.sub,csub,Anc.sub,List.map,Zf,xL,xM,Nat.reduceAdd,xD,xE,xT,xU,xC,xN,zCF,ldSF,Zn] at G
 generalize τ 13=v13 at G
 rw [hw1,Yb,List.take_left] at G
 have G:=G.fresh 1 rfl
 obtain ⟨F,G⟩:=G.push 1 3 rfl rfl rfl kr
 obtain ⟨F,G⟩:=G.push 1 2 rfl rfl rfl kr
 have G:=G.turn 1 rfl (r':=RS.hp (stH (.pointer (some ⟨b,0,none⟩)) room l)) (fun _ _ _ _ h=>⟨_,h⟩)
 refine Zad hG G rfl .nil Zba.none rfl
theorem Zuh (b:Nat) (room:Int) (l:List Int) (x:Int) (hl:l.length≤70000):FnG prog 223 1 [.is (.pointer (some ⟨b,0,none⟩))] [stH (.pointer (some ⟨b,0,none⟩)) room (l ++ [x])] (.tup [.int .i64 x,.bool true]) (fun _=>[stH (.pointer (some ⟨b,0,none⟩)) room l]):=by
 refine FnG.mk func223 rfl ntmps223 rfl kr fun B F0 a w F V hG G=>?_
 obtain ⟨rv,G⟩:=G.open_ex 1 rfl
 obtain ⟨F,G⟩:=G.peel 1 2 rfl rfl
 obtain ⟨F,G⟩:=G.peel 1 3 rfl rfl
 obtain ⟨F,G⟩:=G.nM [0] [3,2,0]
 refine Ya (rZ G (qI qB) V [3,2,0] [3,2,0] fun G=>Ya ?_)
 refine rZ G (qR rr (qf (ZbX (cells:=[.pv (.is rv),.pv _]) 2 3 0 (Zpc room l x hl) Zh5 rfl func244 rfl kr rfl rfl (Zaf.one .is)) r1 r2 (qR rr (qf (Zj .t rfl) r1 qz (qf (Zj .t rfl) r1 qz (qO rr (qO rr qZ))))))) V [5,4,3,2,0] [3,2,0] fun G=>(Ya (Ya ?_))
 refine rZ G (qR rr qZ) V [11,5,4,3,2,0] [3,2,0] fun G=>?_
 refine Zc G rfl (fun hc0=>?_) (fun hc0=>?_)
 ·refine Zap 3 G kr (cG rfl (oM .t) r1 trivial (cG rfl (o_nilCheck 2 .is (by rfl)) r1 r1 (cG rfl (oF 0 2 .adr) r1 r1 ChainN.nil))) kr (by rw [V];kernel_rfl) fun a w F G=>?_
  obtain ⟨F,G⟩:=G.nM [14,5,4,3,2] [3,2,0]
  try dsimp only [Zn] at G
  have G:=G.fresh 1 rfl
  obtain ⟨F,G⟩:=G.push 1 3 rfl rfl rfl kr
  obtain ⟨F,G⟩:=G.push 1 2 rfl rfl rfl kr
  have G:=G.turn 1 rfl (r':=RS.hp (stH (.pointer (some ⟨b,0,none⟩)) room (l ++ [x]))) (fun _ _ _ _ h=>⟨_,h⟩)
  obtain ⟨F,G⟩:=G.nM [14,5,4,3,2] [1,0]
  refine ZaJ G kr (cG rfl (ZK 1 (ZtW b room l x hl) func245 rfl kr (Args.one (.conv .t (Ent.adr0)))) r1 r1 ChainN.nil) kr (by rw [V];kernel_rfl) fun a w F G=>?_
  obtain ⟨F,G⟩:=G.nM [5,4,3,2] [1,0]
  try dsimp only [Zn] at G
  refine Za (Ya (rZ G (qR rr (qR rr (qO rr (qO rr qZ)))) V [3,2] [1,0] fun G=>Yh ?_))
  refine Zad hG G rfl (.tmp rfl (.tmp rfl .nil)) (.two .refl .refl) rfl
 simp at hc0
def rV (v:Value):List PV:=[.is v]
theorem Zcv {w:World} {y:Ys} : ∀ {rs:List RS} {f:Ys},stars w y rs f → ∀ r ∈ rs,∃ f1:Ys,(∀ b,f1 b→f b)∧r.holds tau0 w f1 y
 | [],f,_,r,h=>by cases h
 | x :: rs,f,⟨f1,f2,h1,h2,h3,h4,h5⟩,r,hr=>by
  rcases Yk.1 hr with rfl | hr
  ·exact ⟨f1,fun b hb=>(h1 b).2 (.inl hb),h4⟩
  ·obtain ⟨g,g1,g2⟩:=Zcv h5 r hr
   exact ⟨g,fun b hb=>(h1 b).2 (.inr (g1 b hb)),g2⟩
structure Z9 where
 kind:Int
 label:Int
 node:Int
 deriving DecidableEq,Inhabited
def Zau (e:Z9):List PV:=[.int .i64 e.kind,.int .i64 e.label,.int .i64 e.node]
def Zav (l:List Z9):List PV:=[.sl Zau l]
def Znl (p:Value×List Z9):HP:=Zu 217 3 Zau p.2 p.1
def Ze0 (hs:List Value) (L:List (List Z9)):List (Value×List Z9):=(List.range hs.length).map fun k=>(Nn hs k,Nn L k)
theorem Zlf (hs:List Value) (L:List (List Z9)):(Ze0 hs L).length=hs.length:=by unfold Ze0;simp
theorem ZoD {hs:List Value} {L:List (List Z9)} {k:Nat} (h:k<hs.length):(Ze0 hs L)[k]? = some (Nn hs k,Nn L k):=by unfold Ze0;simp [h]
theorem Zri (hs:List Value) (L:List (List Z9)):(Ze0 hs L).map (·.1)=hs:=by
 apply Ya6 (by simp [Ze0])
 intro j h1 h2
 simp [Ze0,nth_eq h2]
theorem Zrq {hs:List Value} {L:List (List Z9)} (h:hs.length=L.length):(Ze0 hs L).map (·.2)=L:=by
 apply Ya6 (by simp [Ze0,h])
 intro j h1 h2
 simp [Ze0,nth_eq h2]
def Zi8 (L:List (List Z9)) (v:Value):HP:=.ex fun hs:List Value=>.and (hs.length=L.length) (.star [.ob (.val v) (Zu 220 1 rV hs),ZsC Znl (Ze0 hs L)])
theorem ZkI {w:World} {y y':Ys} : ∀ {ps:List (Value×List Z9)} {xs:List Value},PVs ((ps.map (·.1)).flatMap rV) xs w y→(∀ p ∈ ps,(PV.sl Zau p.2).p p.1 w y')→PVs ((ps.map (·.2)).flatMap Zav) xs w y'
 | [],[],_,_=>trivial
 | p :: ps,x :: xs,h,k=>by
  have e:x=p.1:=h.1.2.1
  refine ⟨⟨h.1.1,?_⟩,ZkI (ps:=ps) h.2 fun q hq=>k q (YC _ hq)⟩
  rw [e];exact k p YaE
 | [],_ :: _,h,_=>h.elim
 | _ :: _,[],h,_=>h.elim
theorem Zi9 {L:List (List Z9)} {v:Value} : Zux (Zi8 L v) v (.sl Zav L):=fun w f y y' ⟨hs,hl,h⟩ hle hf hb=>by
 obtain ⟨f1,g1,g2⟩:=Zcv h (.ob (.val v) (Zu 220 1 rV hs)) (by simp)
 obtain ⟨f2,m1,m2⟩:=Zcv h (ZsC Znl (Ze0 hs L)) (by simp)
 have hrow:(Zu 220 1 rV hs v).p w f1 y:=g2
 have hfam:stars w y ((Ze0 hs L).map fun x=>RS.hp (Znl x)) f2:=m2
 obtain ⟨xs,k1,k2,k3⟩:=hrow
 obtain ⟨ad,cap,e8,h8,h9,h10⟩:=ZL k1
 rw [hl] at e8 h8
 refine ⟨ad,cap,e8,h8,h9,?_⟩
 rcases h10 with h10 | ⟨b',rfl,h11,h12⟩
 ·exact .inl (YR (by rw [← hl];exact h10))
 ·have hb':f1 b':=(k3 b').2 h11
  refine .inr ⟨b',0,xs,rfl,hf b' (g1 b' hb'),hb b' (g1 b' hb'),h12,?_⟩
  have key:=ZkI (y:=y) (y':=y') (ps:=Ze0 hs L) (xs:=xs) (w:=w) (by rw [Zri];exact k2) fun p hp=>by
   obtain ⟨f3,n1,n2⟩:=Zcv hfam (RS.hp (Znl p)) (Yw.2 ⟨p,hp,rfl⟩)
   exact ZhS w f3 y y' n2 hle (fun b h=>hf b (m1 b (n1 b h))) (fun b h=>hb b (m1 b (n1 b h)))
  rwa [Zrq hl] at key
def Znm (O I:List (List Z9)) (n:Nat) (v:Value):HP:=.ex fun ov:Value=>.ex fun iv:Value=>.star [.pt (.val v) 215 [.pv (.is ov),.pv (.is iv),.pv (.int .i64 n)],RS.hp (Zi8 O ov),RS.hp (Zi8 I iv)]
abbrev ZeJ (O I:List (List Z9)) (n:Nat):PV:=.ref [.sl Zav O,.sl Zav I,.int .i64 n]
theorem Zfc {O I:List (List Z9)} {n:Nat} {v:Value} : Zux (Znm O I n v) v (ZeJ O I n):=fun w f y y' ⟨ov,iv,h⟩ hle hf hb=>by
 obtain ⟨f1,g1,g2⟩:=Zcv h (.pt (.val v) 215 [.pv (.is ov),.pv (.is iv),.pv (.int .i64 n)]) (by simp)
 obtain ⟨f2,m1,m2⟩:=Zcv h (RS.hp (Zi8 O ov)) (by simp)
 obtain ⟨f3,n1,n2⟩:=Zcv h (RS.hp (Zi8 I iv)) (by simp)
 have hO:=Zi9 w f2 y y' m2 hle (fun b k=>hf b (m1 b k)) (fun b k=>hb b (m1 b k))
 have hI:=Zi9 w f3 y y' n2 hle (fun b k=>hf b (n1 b k)) (fun b k=>hb b (n1 b k))
 obtain ⟨b,vs,k1,k2,k3,k4⟩:=g2
 have hb1:f1 b:=(k3 b).2 rfl
 refine ⟨b,0,vs.toList,k1,hf b (g1 b hb1),hb b (g1 b hb1),ZC.mk fun j u hj=>?_,?_⟩
 ·simp only [Y3]
  simp [World.cell?,k2]
  simpa using hj
 ·generalize vs.toList=us at k4
  match us,k4 with
  | [u1,u2,u3],k4=>
   have e1:u1=ov:=k4.1.2.1
   have e2:u2=iv:=k4.2.1.2.1
   refine ⟨⟨k4.1.1,?_⟩,⟨k4.2.1.1,?_⟩,⟨k4.2.2.1.1,k4.2.2.1.2⟩,tv⟩
   ·rw [e1];exact hO
   ·rw [e2];exact hI
structure Zy where
 src:Int
 dst:Int
 kind:Int
 label:Int
 deriving DecidableEq,Inhabited
def Zao (a:Zy):List PV:=[.int .i64 a.src,.int .i64 a.dst,.int .i64 a.kind,.int .i64 a.label]
def endO (x:Zy):Z9:=⟨x.kind,x.label,x.dst⟩
def endI (x:Zy):Z9:=⟨x.kind,x.label,x.src⟩
def ofB (mask kind:Int):Bool:=decide (bits .and .i64 (mask.fdiv (2 ^ min (IntKind.wrap .u64 kind).toNat (IntKind.bits .i64))) 1=1)
def ZaG (n:Nat) (x:Zy):Bool:=(((((decide (0≤x.src∧x.src<n)) && decide (0≤x.dst∧x.dst<n)) && decide (1≤x.kind)) && decide (x.kind≤3)) && decide (0≤x.label)) && decide (x.label≤1048575)
theorem Zce (O I:List (List Z9)) (m:Nat):FnP prog 158 [ZeJ O I m] (.int .i64 (O.length:Int)):=by
 refine FnP.mk func158 rfl ntmps158 rfl fun B a w F V hfr G=>Ya ?_
 refine rZ G (qI qZ) V [2,0] [0] fun G=>(Ya (Ya ?_))
 refine rZ G (qR rr (qf (Zcm underlying167 .t) r1 qz qZ)) V [4,2,0] [0] fun G=>?_
 refine Zc G rfl (fun hc0=>?_) (fun hc0=>?_)
 ·simp at hc0
 refine Ye (Za (Ya (rZ G (qR rr (qf (ZD .t) r1 qz (qf (oG 0 .t) r1 qz (qf (oR false 1 .t) r1 qz (qu underlying213 r1 (qO rr qZ)))))) V [2] [0] fun G=>Yh ?_)))
 refine Zr hfr G rfl rfl rfl .refl
theorem Zec (O I:List (List Z9)) (m:Nat) (u:Int):FnP prog 194 [ZeJ O I m,.int .i64 u] (.bool (decide (0≤u∧u<O.length))):=by
 refine FnP.mk func194 rfl ntmps194 rfl fun B a w F V hfr G=>Ya ?_
 refine rZ G qB V [4,1,0] [0] fun G=>Ya ?_
 refine rZ G (qR rr (qf (Zbp .t qi) r1 qz (qR rr (qm rfl rfl rfl rfl (qm rfl rfl rfl rfl (qk rfl (fun h=>oP (Zce O I m) func158 (Args.one (.w h))) r2 qz (qk rfl (fun h=>ZaC (.w h) (.w h)) r3 qz (qf (ZE .t .t) r2 qz (qO rr qZ))))))))) V [4] [0] fun G=>Yh ?_
 refine Zr hfr G rfl rfl rfl (.bool (by by_cases h:0≤u <;> simp [h]))
theorem ZjE (O I:List (List Z9)) (m:Nat) (x:Zy):FnP prog 154 [ZeJ O I m,.agg (Zao x)] (.bool (ZaG O.length x)):=by
 refine FnP.mk func154 rfl ntmps154 rfl fun B a w F V hfr G=>Ya ?_
 refine Zb G (qx 101 r1 qB) V [4,3,0] [101,0] (fun _=>rfl) (fun _=>rfl) fun τ a w F G=>?_
 try dsimp only [RS.sub,SF.sub,CF.sub,csub,Anc.sub,List.map,zCF,Zau,Zav,Zn,Zao] at G
 generalize τ 3=v3 at G
 refine Za (Ya (rZ G (qR rr (qg 0 101 r1 r1 (qa 101 r1 r1 (qf (oP (Zec O I m x.src) func194 (Args.two .t .t)) r2 qz (qR rr (qm rfl rfl rfl rfl (qv 1 101 rfl r2 r1 (qw 101 rfl r2 r1 (qk rfl (fun h=>oP (Zec O I m x.dst) func194 (Args.two (.w h) (.w h))) r3 qz (qf (ZE .t .t) r2 qz (qR rr (qv 2 101 rfl r2 r1 (qw 101 rfl r2 r1 (qk rfl (fun h=>Zbp (.w h) qi) r2 qz (qf (ZE .t .t) r2 qz (qR rr (qv 2 101 rfl r2 r1 (qw 101 rfl r2 r1 (qk rfl (fun h=>ZkF (.w h) qi) r2 qz (qf (ZE .t .t) r2 qz (qR rr (qv 3 101 rfl r2 r1 (qw 101 rfl r2 r1 (qk rfl (fun h=>Zbp (.w h) qi) r2 qz (qf (ZE .t .t) r2 qz (qR rr (qv 3 101 rfl r2 r1 (qw 101 rfl r2 r1 (qk rfl (fun h=>ZkF (.w h) qi) r2 qz (qf (ZE .t .t) r2 qz (qO rr qZ))))))))))))))))))))))))))))))) V [4] [0] fun G=>Yh ?_))
 refine Zr hfr G rfl rfl rfl (.bool (by unfold ZaG;simp))
theorem ZkP (x:Zy):FnP prog 156 [.agg (Zao x)] (.tup [.agg (Zau (endO x)),.agg (Zau (endI x))]):=by
 refine FnP.mk func156 rfl ntmps156 rfl fun B a w F V hfr G=>Ya ?_
 refine Zb G (qx 101 r1 (qf (oH [.int .i64 0,.int .i64 0,.int .i64 0] 102) trivial qz (qf (oH [.int .i64 0,.int .i64 0,.int .i64 0] 103) trivial qz qZ))) V [3,2,1] [103,102,101,0] (fun _=>rfl) (fun _=>rfl) fun τ a w F G=>?_
 try dsimp only [RS.sub,SF.sub,CF.sub,csub,Anc.sub,List.map,zCF,Zau,Zav,Zn,Zao] at G
 generalize τ 1=v1 at G
 generalize τ 2=v2 at G
 generalize τ 3=v3 at G
 refine Za (Ya (Zv G (qg 2 101 r1 r1 (qa 101 r1 r1 (qg 3 101 r1 r1 (qa 101 r1 r1 (qg 1 101 r1 r1 (qa 101 r1 r1 (qf (oB [(0,.tmp 5),(1,.tmp 7),(2,.tmp 9)] [.int .i64 0,.int .i64 0,.int .i64 0] [(0,1),(1,1),(2,1)] (.one rfl .t one_int kr (.one rfl .t one_int kr (.one rfl .t one_int kr .nil)))) r3 qz (qg 2 101 r1 r1 (qa 101 r1 r1 (qg 3 101 r1 r1 (qa 101 r1 r1 (qg 0 101 r1 r1 (qa 101 r1 r1 (qf (oB [(0,.tmp 12),(1,.tmp 14),(2,.tmp 16)] [.int .i64 0,.int .i64 0,.int .i64 0] [(0,1),(1,1),(2,1)] (.one rfl .t one_int kr (.one rfl .t one_int kr (.one rfl .t one_int kr .nil)))) r3 qz (qs 3 102 r2 r1 (qs 3 103 r2 r1 qZ)))))))))))))))) V [3,2] [103,102,0] rfl rfl fun a w F G=>?_))
 try dsimp only [List.map,Zf,xL,xM,Nat.reduceAdd,xD,xE,xT,xU,xC,xN,zCF,ldSF,Zau,Zav,Zn,Zao] at G
 refine Za (Yh (Zab hfr G rfl (.cl 102 true 3 rfl rfl (.cl 103 true 3 rfl rfl .nil)) (.two (.aggU rfl rfl) (.aggU rfl rfl))))
theorem ZsD (mask kind:Int):FnP prog 210 [.int .i64 mask,.int .i64 kind] (.bool (ofB mask kind)):=by
 refine FnP.mk func210 rfl ntmps210 rfl fun B a w F V hfr G=>Ya ?_
 refine rZ G qB V [4,1,0] [0] fun G=>Ya ?_
 refine rZ G (qR rr (qR rr (qf (o_conv underlying162 kr .t) r1 qz (qf (Zcg .t .t  (by rw [Zal];omega)) r2 qz (qf (o_and .t qi) r1 qz (qf (o_eql .t qi) r1 qz (qO rr qZ))))))) V [4] [0] fun G=>Yh ?_
 refine Zr hfr G rfl rfl rfl (.bool rfl)
theorem Zts (x:Int):IntKind.wrap .u8 x=x % 256:=by simp [IntKind.wrap,IntKind.bits,IntKind.signed]
def ZfC (s:List UInt8):Nat:=s.foldl (fun a c=>a*10+(c.toNat - 48)) 0
theorem Zkh {x:Int} (h:0≤x∧x≤18446744073709551615):bits .and .u64 x 4294967295=x % 4294967296:=by
 obtain ⟨X,rfl⟩:=Yaf h.1
 have h1:(BitVec.ofInt 64 (X:Int)).toNat=X:=by rw [YaF];omega
 have h2:(BitVec.ofInt 64 (4294967295:Int)).toNat=2 ^ 32 - 1:=by decide
 show IntKind.wrap .u64 (((BitVec.ofInt 64 (X:Int) &&& BitVec.ofInt 64 4294967295).toNat:Nat):Int)=_
 rw [Ybp,h1,h2,YaR,Zal]
 omega
theorem ZuP {x:Int} : x.fdiv (2 ^ min (32:Int).toNat (IntKind.bits .u64))=x / 4294967296:=by
 rw [YaQ _ (by decide)]
 rfl
theorem ZtX (x y:Int):FnP prog 255 [.int .u64 x,.int .u64 y] (.tup [.int .u64 (x*y / 18446744073709551616),.int .u64 (x*y % 18446744073709551616)]):=by
 refine FnP.mk func255 rfl ntmps255 rfl fun B a w F V hfr G=>?_
 have hx:=ZfR (G.range (i:=0) rfl)
 have hy:=ZfR (G.range (i:=1) rfl)
 have h3:∀ {z:Int},0≤IntKind.wrap .u64 z∧IntKind.wrap .u64 z≤18446744073709551615:=fun {z}=>ZfR (Zb4 _ _)
 refine Ya (rZ G (qI (qI qZ)) V [5,4,1,0] [0] fun G=>Ya ?_)
 refine rZ G (qR rr (qf (o_and .t qi) r1 qz (qO rr qZ))) V [6,5,4,1,0] [0] fun G=>Ya ?_
 refine rZ G (qR rr (qf (Zcg .t qi (by decide)) r1 qz (qO rr qZ))) V [7,6,5,4,1,0] [0] fun G=>Ya ?_
 refine rZ G (qR rr (qf (o_and .t qi) r1 qz (qO rr qZ))) V [8,7,6,5,4,1,0] [0] fun G=>Ya ?_
 refine rZ G (qR rr (qf (Zcg .t qi (by decide)) r1 qz (qO rr qZ))) V [9,8,7,6,5,4,1,0] [0] fun G=>Ya ?_
 refine rZ G (qR rr (qR rr (qf (ZmB .t .t) r2 qz (qO rr qZ)))) V [10,9,8,7,6,5,4,1,0] [0] fun G=>Ya ?_
 refine rZ G (qR rr (qR rr (qf (ZmB .t .t) r2 qz (qR rr (qf (Zcg .t qi (by decide)) r1 qz (qf (o_add .t .t) r2 qz (qO rr qZ))))))) V [11,9,7,6,5,4,1,0] [0] fun G=>Ya ?_
 refine rZ G (qR rr (qf (o_and .t qi) r1 qz (qO rr qZ))) V [12,11,9,7,6,5,4,1,0] [0] fun G=>Ya ?_
 refine rZ G (qR rr (qf (Zcg .t qi (by decide)) r1 qz (qO rr qZ))) V [13,12,9,7,6,5,4,1,0] [0] fun G=>Ya ?_
 refine rZ G (qR rr (qR rr (qR rr (qf (ZmB .t .t) r2 qz (qf (o_add .t .t) r2 qz (qO rr qZ)))))) V [13,12,9,7,5,4,1,0] [0] fun G=>Ya ?_
 refine rZ G (qR rr (qR rr (qf (ZmB .t .t) r2 qz (qR rr (qf (o_add .t .t) r2 qz (qR rr (qf (Zcg .t qi (by decide)) r1 qz (qf (o_add .t .t) r2 qz (qO rr qZ))))))))) V [5,4,1,0] [0] fun G=>Ya ?_
 refine rZ G (qR rr (qR rr (qf (ZmB .t .t) r2 qz (qO rr qZ)))) V [5,4] [0] fun G=>Yh ?_
 refine Zab hfr G rfl (.tmp rfl (.tmp rfl .nil)) (.two (.int (by simp only [ZuP,Zkh hx,Zkh hy,Zkh h3];simp only [Zal];exact mul64_arith x y hx.1 ow hy.1 ow)) (.int (by rw [Zal])))
structure Zn3 where
 key:Int
 val:Int
 deriving DecidableEq,Inhabited
section
variable {out t T:List Zn3} {k x:Int} {e:Zn3} {d:Bool}
end
def ZaF (v:Int):List Int→Int
 | []=>-1
 | x :: l=>if x=v then 0 else if ZaF v l<0 then -1 else ZaF v l+1
theorem ZfN {v:Int} : ∀ {l:List Int},(∀ k,k<l.length→Nn l k≠v)→ZaF v l = -1
 | [],_=>rfl
 | x :: l,h=>by
  have h0:x≠v:=h 0 (by simp)
  rw [ZaF,Yc h0,ZfN (l:=l) fun k hk=>by have:=h (k+1) (by simpa using hk);exact this,Yf (by decide)]
theorem ZpF {v:Int} : ∀ {l:List Int} {i:Nat},i<l.length→Nn l i=v→(∀ k,k<i→Nn l k≠v)→ZaF v l=i
 | [],i,h,_,_=>by simp at h
 | x :: l,0,_,h,_=>by rw [ZaF,Yf (show x=v from h)];rfl
 | x :: l,i+1,h,h1,h2=>by
  have h0:x≠v:=h2 0 ow
  have:=ZpF (l:=l) (i:=i) (by simpa using h) h1 fun k hk=>h2 (k+1) ow
  rw [ZaF,Yc h0,this,Yc ow];omega
theorem Zeg {v:Int} {l:List Int} (h:v ∈ l):∃ i:Nat,ZaF v l=i∧i<l.length∧Nn l i=v ∧ ∀ k,k<i→Nn l k≠v:=by
 induction l with
 | nil=>cases h
 | cons x l ih=>
  by_cases hx:x=v
  ·exact ⟨0,by rw [ZaF,Yf hx];rfl,by simp,hx,fun k hk=>absurd hk (Y1 k)⟩
  ·obtain ⟨i,h1,h2,h3,h4⟩:=ih (by rcases Yk.1 h with h | h;exact absurd h.symm hx;exact h)
   refine ⟨i+1,by rw [ZaF,Yc hx,h1,Yc ow];omega,by simpa using h2,h3,fun k hk=>?_⟩
   cases k with
   | zero=>exact hx
   | succ k=>exact h4 k ow
theorem ZlC {v:Int} {l:List Int} (h:v ∉ l):ZaF v l = -1:=ZfN fun k hk e=>h (e ▸ nth_mem hk)
theorem ZmS (v:Int) (l:List Int) : -1≤ZaF v l∧ZaF v l<l.length:=by
 by_cases h:v ∈ l
 ·obtain ⟨i,h1,h2,_⟩:=Zeg h
  omega
 ·rw [ZlC h];omega
theorem ZrR {v:Int} {l:List Int} : 0≤ZaF v l ↔ v ∈ l:=by
 constructor
 ·intro h
  by_cases hm:v ∈ l
  ·exact hm
  ·rw [ZlC hm] at h;omega
 ·intro h
  obtain ⟨i,h1,_⟩:=Zeg h
  omega
def ZfY (l:List Int):Prop:=(∀ x ∈ l,1≤x∧x≤1048575)∧l.Nodup
instance (l:List Int):Decidable (ZfY l):=by unfold ZfY;exact inferInstance
theorem ZfY.take {l:List Int} (h:ZfY l) (i:Nat):ZfY (l.take i):=⟨fun x hx=>h.1 x (YaM hx),h.2.sublist (List.take_sublist i l)⟩
def leI (x y:Int):Bool:=decide (x≤y)
theorem ZpP {a b:List Int} : a.mergeSort leI=b.mergeSort leI ↔ a.Perm b:=by
 constructor
 ·intro h
  exact (YaV a leI).symm.trans (h ▸ YaV b leI)
 ·intro h
  have hs:∀ l:List Int,List.Pairwise (fun x y=>x≤y) (l.mergeSort leI):=fun l=>by
   have:=List.pairwise_mergeSort (le:=leI) (fun a b c h1 h2=>by simp [leI] at *;omega) (fun a b=>by simp [leI];omega) l
   exact this.imp fun h=>by simpa [leI] using h
  exact List.Perm.eq_of_pairwise (fun x y _ _ h1 h2=>Int.le_antisymm h1 h2) (hs a) (hs b) (((YaV a leI).trans h).trans (YaV b leI).symm)
def Zei (l:List Int) (tx:Int):Int×Bool:=
 if tx≠0∧ZaF tx l<0 then (0,false) else
 if (l.length:Int)≤(if tx=0 then -1 else ZaF tx l)+1 then (0,false) else (Nn l ((if tx=0 then -1 else ZaF tx l)+1).toNat,true)
def withO (l:List Int) (tx:Int):List Int:=if tx ∈ l then l else l ++ [tx]
def withoutO (l:List Int) (tx:Int):List Int:=l.filter fun x=>decide (x≠tx)
def Zoa (a b:List Int):Prop:=ZfY a∧ZfY b∧a.Perm b
instance (a b:List Int):Decidable (Zoa a b):=by unfold Zoa;exact inferInstance
def Zjm:Go.Shelf.Ren:=⟨fun | 189=>92 | 125=>142 | 257=>141 | 128=>189 | 129=>190 | 294=>180 | 295=>181 | 296=>182 | 297=>183 | 298=>184 | 299=>185 | 216=>186 | 300=>187 | 301=>188 | 328=>212 | 329=>213 | 330=>214 | 331=>215 | 332=>216 | 215=>151 | 343=>240 | n=>n,fun | 28=>45 | 3=>3 | 46=>162 | 0=>0 | 51=>260 | 53=>175 | 4=>4 | 183=>253 | 182=>252 | 131=>43 | 5=>5 | 9=>9 | 218=>290 | 222=>294 | 228=>309 | 229=>107 | n=>n,fun  | n=>n⟩
theorem Zl0:Lays.n189 prog Zjm where
 mixed:=by kernel_rfl
 f125:=func142.trans (Y7 some kr)
 f128:=func189.trans (Y7 some kr)
 f129:=func190.trans (Y7 some kr)
 f189:=func92.trans (Y7 some kr)
 f215:=func151.trans (Y7 some kr)
 f216:=func186.trans (Y7 some kr)
 f257:=func141.trans (Y7 some kr)
 f294:=func180.trans (Y7 some kr)
 f295:=func181.trans (Y7 some kr)
 f296:=func182.trans (Y7 some kr)
 f297:=func183.trans (Y7 some kr)
 f298:=func184.trans (Y7 some kr)
 f299:=func185.trans (Y7 some kr)
 f300:=func187.trans (Y7 some kr)
 f301:=func188.trans (Y7 some kr)
 f328:=func212.trans (Y7 some kr)
 f329:=func213.trans (Y7 some kr)
 f330:=func214.trans (Y7 some kr)
 f331:=func215.trans (Y7 some kr)
 f332:=func216.trans (Y7 some kr)
 f343:=func240.trans (Y7 some kr)
 t0:=underlying0
 a0:=Tryz.isAgg0
 z0:=Tryz.sizeOf0
 v0:=Tryz.zeroValue0
 t3:=underlying3
 a3:=Tryz.isAgg3
 z3:=Tryz.sizeOf3
 v3:=Tryz.zeroValue3
 t4:=underlying4
 a4:=Tryz.isAgg4
 z4:=Tryz.sizeOf4
 v4:=Tryz.zeroValue4
 t5:=underlying5
 a5:=Tryz.isAgg5
 z5:=Tryz.sizeOf5
 v5:=Tryz.zeroValue5
 t9:=underlying9
 a9:=Tryz.isAgg9
 z9:=Tryz.sizeOf9
 v9:=Tryz.zeroValue9
 t28:=underlying45
 a28:=Tryz.isAgg45
 z28:=Tryz.sizeOf45
 v28:=Tryz.zeroValue45
 t46:=underlying162
 a46:=Tryz.isAgg162
 z46:=Tryz.sizeOf162
 v46:=Tryz.zeroValue162
 t51:=underlying260
 a51:=Tryz.isAgg260
 z51:=Tryz.sizeOf260
 v51:=Tryz.zeroValue260
 t53:=underlying175
 a53:=Tryz.isAgg175
 z53:=Tryz.sizeOf175
 v53:=Tryz.zeroValue175
 t131:=underlying43
 a131:=Tryz.isAgg43
 z131:=Tryz.sizeOf43
 v131:=Tryz.zeroValue43
 t182:=underlying252
 a182:=Tryz.isAgg252
 z182:=Tryz.sizeOf252
 v182:=Tryz.zeroValue252
 t183:=underlying253
 a183:=Tryz.isAgg253
 z183:=Tryz.sizeOf253
 v183:=Tryz.zeroValue253
 t218:=underlying290
 a218:=Tryz.isAgg290
 z218:=Tryz.sizeOf290
 v218:=Tryz.zeroValue290
 t222:=underlying294
 a222:=Tryz.isAgg294
 z222:=Tryz.sizeOf294
 v222:=Tryz.zeroValue294
 t228:=underlying309
 a228:=Tryz.isAgg309
 z228:=Tryz.sizeOf309
 v228:=Tryz.zeroValue309
 t229:=underlying107
 a229:=Tryz.isAgg107
 z229:=Tryz.sizeOf107
 v229:=Tryz.zeroValue107
theorem ZpQ (w:World):Calls prog 92 #[.slice none 0 0] w (fun e w'=>e = .returned (.tuple #[])∧w' = w):=
 Go.calls_of_every_depth fun D=>Go.Proofs.AnyS.slices_Sort_int_none_in Zl0 D none 0 w
theorem Zk8 {w:World} {y:Ys} : ∀ {l:List Int} {xs:List Value},PVs (l.flatMap Zn) xs w y→xs=l.map (Value.int .i64) ∧ ∀ x ∈ l,inR .i64 x
 | [],[],_=>⟨rfl,fun x hx=>by cases hx⟩
 | [],_ :: _,h=>h.elim
 | x :: l,[],h=>h.elim
 | x :: l,v :: xs,h=>by
  have h1:v = .int .i64 x∧inR .i64 x:=h.1.2
  obtain ⟨h2,h3⟩:=Zk8 (l:=l) (xs:=xs) h.2
  exact ⟨by rw [h1.1,h2];rfl,fun z hz=>by rcases Yk.1 hz with rfl | hz;exact h1.2;exact h3 z hz⟩
theorem Zgj {w:World} {y:Ys} : ∀ {l:List Int},(∀ x ∈ l,inR .i64 x)→PVs (l.flatMap Zn) (l.map (Value.int .i64)) w y
 | [],_=>trivial
 | x :: l,h=>⟨⟨rfl,rfl,h x (by simp)⟩,Zgj fun z hz=>h z (by simp [hz])⟩
theorem Zqi {l:List Int} {j:Nat} (hj:j<l.length):(l.toArray)[j]! = l[j]:=by simp [hj]
theorem ZkD {w:World} {g n:Nat} {d:List Int} {os:Array Obj} {cur:Array Value} {e:TypeId} (hg:w.heap[g]? = some (.cells cur e (0,0))) (b:Nat) (hb:b<w.heap.size) :
  (Go.Sort.grow (Go.Sort.putRow (Value.int .i64) (Go.Sort.ahead w n) g 0 d.toArray) os).heap[b]? = if b=g then some (.cells (Go.Sort.putCells (Value.int .i64) 0 d.toArray cur) e (0,0)) else w.heap[b]?:=by
 unfold Go.Sort.grow Go.Sort.putRow Go.Sort.mapBlock Go.Sort.ahead
 simp only
 rw [Array.getElem?_append_left (by simpa using hb),Array.getElem?_modify]
 by_cases h:g=b
 ·subst h
  rw [Yf rfl,Yf rfl,hg];rfl
 ·rw [Yc h,Yc (fun e=>h e.symm)]
theorem Zrs {cur:Array Value} {d:List Int} (h:d.length≤cur.size):(Go.Sort.putCells (Value.int .i64) 0 d.toArray cur).toList.take d.length=d.map (Value.int .i64):=by
 apply Ya6
 ·simp [Go.Sort.putCells];omega
 ·intro i h1 h2
  have hi:i<d.length:=by simpa using h2
  simp [Go.Sort.putCells,hi]
theorem Zjq (v:Value) (l:List Int) (hlm:l.length≤1000000):FnG prog 92 1 [.is v] [Zu 3 1 Zn l v] (.tup []) (fun _=>[Zu 3 1 Zn (l.mergeSort leI) v]):=fun w F vs hw hle hvs hpr=>by
 match vs,hvs with
 | [u],hvs=>
  have hu:u=v:=hvs.1.1
  subst hu
  obtain ⟨xs,⟨hxl,hx⟩,hp,hf⟩:=hpr 0 _ rfl
  rcases hx with ⟨rfl,h0⟩ | ⟨g,cap,cur,rfl,_,hg,hn,hcap,hcs,hct⟩
  ·have hl:l = []:=YR h0
   subst hl
   refine (ZpQ w).mono ?_
   rintro e w' ⟨rfl,rfl⟩
   refine ⟨.tuple #[],F,rfl,hw,⟨rfl,rfl,rfl,YN _,fun _ _ _=>rfl,fun _ _=>rfl,fun n hn b hb=>.inl ⟨n,hn,hb⟩⟩,hle,⟨[],rfl,tv⟩,fun i h hi=>?_⟩
   match i,hi with
   | 0,hi=>simp at hi;subst hi;exact ⟨xs,⟨hxl,.inl ⟨rfl,rfl⟩⟩,by simpa using hp,hf⟩
  ·have hgs:g<w.heap.size:=(YW.1 hg).1
   obtain ⟨hxe,hin⟩:=Zk8 hp
   have hcl:l.length≤cur.size:=by rw [hcs];omega
   have hbig:l.length<4611686018427387904:=by omega
   have hcur:∀ j (hj:j<l.length),cur[j]? = some (.int .i64 l[j]):=fun j hj=>by
    have h1:(cur.toList.take (l.length*1))[j]? = (l.map (Value.int .i64))[j]?:=by rw [hct,hxe]
    rw [YbA ow] at h1
    simpa [hj] using h1
   have hH:Go.Sort.Holds (Value.int .i64) w g 0 l.toArray:=fun j hj=>by
    have hj':j<l.length:=by simpa using hj
    refine ⟨?_,?_⟩
    ·rw [Zqi hj',Y3,Z0 hg];exact hcur j hj'
    ·simp [World.frozen?,hg]
   have hcalls:Calls prog 92 #[.slice (some ⟨g,0,none⟩) l.length cap] w fun e w'=>e = .returned (.tuple #[]) ∧ ∃ n os,w' = Go.Sort.grow (Go.Sort.putRow (Value.int .i64) (Go.Sort.ahead w n) g 0 (l.mergeSort leI).toArray) os:=Go.Proofs.Any.slices_Sort_int Zl0 g 0 cap l w hH hgs hbig
   refine hcalls.mono ?_
   rintro e w' ⟨rfl,n,os,rfl⟩
   have hsl:(l.mergeSort leI).length=l.length:=Ybt l
   have hheap:=fun b hb=>ZkD (n:=n) (d:=l.mergeSort leI) (os:=os) hg b hb
   have hsz:(Go.Sort.grow (Go.Sort.putRow (Value.int .i64) (Go.Sort.ahead w n) g 0 (l.mergeSort leI).toArray) os).heap.size=w.heap.size+os.size:=by simp [Go.Sort.ahead]
   have hfg:F 1 g:=(hf g).2 rfl
   have hst:Stp (List.range' 1 1) w F (Go.Sort.grow (Go.Sort.putRow (Value.int .i64) (Go.Sort.ahead w n) g 0 (l.mergeSort leI).toArray) os) F:=
    ⟨rfl,rfl,rfl,by rw [hsz];omega,fun b hb hn=>by
     rw [hheap b hb,Yc (fun e=>by subst e;exact hn 1 (by simp) hfg)],fun _ _=>rfl,fun n hn b hb=>.inl ⟨n,hn,hb⟩⟩
   refine ⟨.tuple #[],F,rfl,⟨hw.dis,fun n b hb=>by rw [hsz];have:=hw.bd n b hb;omega⟩,hst,hle,⟨[],rfl,tv⟩,fun i h hi=>?_⟩
   match i,hi with
   | 0,hi=>
    simp only [YbF,Y8] at hi
    subst hi
    refine ⟨(l.mergeSort leI).map (Value.int .i64),⟨by simp,.inr ⟨g,cap,_,by rw [hsl],Yx _,(hheap g hgs).trans (Yf rfl),by omega,hcap,by simp [Go.Sort.putCells,hcs],?_⟩⟩,Zgj fun x hx=>hin x ((YaV l leI).mem_iff.1 hx),hf⟩
    rw [Nat.mul_one];exact Zrs ow
structure Zg where
 src:Int
 dst:Int
 kind:Int
 key:Int
 deriving DecidableEq,Inhabited
structure ZbT where
 tx:Int
 key:Int
 nth:Int
 deriving DecidableEq,Inhabited
def Zs (e:Zg):List PV:=[.int .i64 e.src,.int .i64 e.dst,.int .i64 e.kind,.int .i64 e.key]
def ZW (v:ZbT):List PV:=[.int .i64 v.tx,.int .i64 v.key,.int .i64 v.nth]
def noE:Zg:=⟨0,0,0,0⟩
def noV:ZbT:=⟨0,0,0⟩
def idB (n:Int):Bool:=decide (1≤n) && decide (n≤1048575)
def ZcQ (v:ZbT):Bool:=if v.tx=0 then idB v.key && decide (v.nth=0) else ((idB v.tx && idB v.key) && decide (1≤v.nth)) && decide (v.nth≤4095)
def Zvs (v:ZbT):Int:=(v.tx*1048576+v.key)*4096+v.nth
def Zsx (v:ZbT):Int×Int:=if ZcQ v then (Zvs v,0) else (0,1)
theorem Zks {n:Int} : idB n=true ↔ 1≤n∧n≤1048575:=by unfold idB;rw [Yr,Yu,Yu]
theorem Znc (k:Int):decide (k<1) = !decide (1≤k):=by rw [← decide_not];exact decide_eq_decide.2 ow
theorem ZoF (m k:Int):decide (m<k) = !decide (k≤m):=by rw [← decide_not];exact decide_eq_decide.2 ow
theorem or64 (x y:Nat) (hx:x<18446744073709551616) (hy:y<18446744073709551616):bits .or .u64 (x:Int) (y:Int)=((x ||| y:Nat):Int):=by
 have h1:(BitVec.ofInt 64 (x:Int)).toNat=x:=by rw [YaF];omega
 have h2:(BitVec.ofInt 64 (y:Int)).toNat=y:=by rw [YaF];omega
 show IntKind.wrap .u64 (((BitVec.ofInt 64 (x:Int) ||| BitVec.ofInt 64 (y:Int)).toNat:Nat):Int)=_
 rw [BitVec.toNat_or,h1,h2]
 exact Zan (by have:=Nat.or_lt_two_pow (n:=64) hx hy;omega)
theorem Zrp {q:Nat} (h:q<18446744073709551616):IntKind.wrap .u64 (q:Int)=q:=Zan ow
theorem ofN {q:Nat} (h:q<18446744073709551616):(BitVec.ofInt 64 (q:Int)).toNat=q:=by rw [YaF];omega
theorem Zsl {K:Int} (k:Nat) (hk:min K.toNat (IntKind.bits .u64)=k) (x y:Int) (hx:0≤x) (hy:0≤y) (hyk:y<2 ^ k) (hb:x*2 ^ k+y<18446744073709551616):bits .or .u64 (IntKind.wrap .u64 (x*2 ^ min K.toNat (IntKind.bits .u64))) y=x*2 ^ k+y:=by
 obtain ⟨X,rfl⟩:=Yaf hx
 obtain ⟨Y,rfl⟩:=Yaf hy
 rw [hk]
 have e2:(X:Int)*2 ^ k=((X*2 ^ k:Nat):Int):=by rw [Int.natCast_mul,Int.natCast_pow];rfl
 have hY:Y<2 ^ k:=by exact_mod_cast hyk
 have hor:X*2 ^ k ||| Y=X*2 ^ k+Y:=by rw [Nat.mul_comm];exact (Nat.two_pow_add_eq_or_of_lt hY X).symm
 rw [e2] at hb ⊢
 generalize X*2 ^ k=Q at hb hor ⊢
 rw [Zrp ow,or64 _ _ ow ow,hor]
 omega
theorem Zl7 {v:ZbT} (h:ZcQ v=true):bits .or .u64 (IntKind.wrap .u64 (bits .or .u64 (IntKind.wrap .u64 (IntKind.wrap .u64 v.tx*2 ^ min (20:Int).toNat (IntKind.bits .u64))) (IntKind.wrap .u64 v.key)*2 ^ min (12:Int).toNat (IntKind.bits .u64))) (IntKind.wrap .u64 v.nth)=Zvs v:=by
 have hb:(0≤v.tx∧v.tx≤1048575)∧(1≤v.key∧v.key≤1048575)∧(0≤v.nth∧v.nth≤4095):=by
  unfold ZcQ at h
  split at h <;> simp only [Yr,Yu,Zks] at h <;> omega
 obtain ⟨h1,h2,h3⟩:=hb
 rw [Zan (x:=v.tx) ow,Zan (x:=v.key) ow,Zan (x:=v.nth) ow]
 rw [Zsl 20 rfl v.tx v.key ow ow ow ow,Zsl 12 rfl (v.tx*2 ^ 20+v.key) v.nth ow ow ow ow]
 unfold Zvs
 omega
theorem mask {x:Int} (h:0≤x∧x≤18446744073709551615) {K:Int} (k:Nat) (hk:min K.toNat (IntKind.bits .u64)=k) (hk2:k<64):bits .and .u64 x (IntKind.wrap .u64 (IntKind.wrap .u64 (1*2 ^ min K.toNat (IntKind.bits .u64)) - 1))=x % 2 ^ k:=by
 obtain ⟨X,rfl⟩:=Yaf h.1
 rw [hk,Int.one_mul]
 have hp1:2 ^ k<2 ^ 64:=Nat.pow_lt_pow_right (by decide) hk2
 have hp:2 ^ k<18446744073709551616:=hp1
 have hp0:0<2 ^ k:=Nat.two_pow_pos k
 have e2:(2:Int) ^ k=((2 ^ k:Nat):Int):=by norm_cast
 have e3:∀ q:Nat,0<q→(q:Int) - 1=((q - 1:Nat):Int):=fun q h=>by omega
 rw [e2,Zrp hp,e3 _ hp0,Zrp ow]
 show IntKind.wrap .u64 (((BitVec.ofInt 64 (X:Int) &&& BitVec.ofInt 64 ((2 ^ k - 1:Nat):Int)).toNat:Nat):Int)=_
 rw [Ybp,ofN ow,ofN ow,YaR]
 have hm:=Nat.mod_le X (2 ^ k)
 rw [Zrp ow]
 norm_cast
theorem ZvS (n:Int):FnP prog 178 [.int .i64 n] (.bool (idB n)):=by
 refine FnP.mk func178 rfl ntmps178 rfl fun B a w F V hfr G=>Ya ?_
 refine rZ G qB V [2,0] [0] fun G=>Ya ?_
 refine rZ G (qR rr (qf (Zbp .t qi) r1 qz (qR rr (qm rfl rfl rfl rfl (qk rfl (fun h=>ZkF (.w h) qi) r2 qz (qf (ZE .t .t) r2 qz (qO rr qZ))))))) V [2] [0] fun G=>Yh ?_
 refine Zr hfr G rfl rfl rfl .refl
theorem Zg1 (v:ZbT):((!(decide (v.tx=0) && decide (v.nth=0)) && ((!idB v.tx || decide (v.nth<1)) || decide (4095<v.nth))) || !idB v.key) = !ZcQ v:=by
 unfold ZcQ
 by_cases h:v.tx=0
 ·rw [Yf h,Yac h]
  have hi:idB v.tx=false:=by rw [h];rfl
  rw [hi]
  cases decide (v.nth=0) <;> cases idB v.key <;> simp
 ·rw [Yc h,YB h,Znc,ZoF 4095]
  cases idB v.tx <;> cases idB v.key <;> cases decide (1≤v.nth) <;> cases decide (v.nth≤4095) <;> rfl
theorem ZoB (v:ZbT):FnP prog 137 [.agg (ZW v)] (.tup [.int .u64 (Zsx v).1,.int .i64 (Zsx v).2]):=by
 refine FnP.mk func137 rfl ntmps137 rfl fun B a w F V hfr G=>Ya ?_
 refine Zb G (qx 101 r1 (qI (qI qZ))) V [3,2,1] [101,0] (fun _=>rfl) (fun _=>rfl) fun τ a w F G=>?_
 try dsimp only [RS.sub,SF.sub,CF.sub,csub,Anc.sub,List.map,zCF] at G
 generalize τ 1=v1 at G
 refine Za (Ya (rZ G (qg 0 101 r1 r1 (qa 101 r1 r1 (qf (o_eql .t qi) r1 qz (qR rr (qv 2 101 rfl r2 r1 (qw 101 rfl r2 r1 (qk rfl (fun h=>o_eql (.w h) qi) r2 qz (qf (ZE .t .t) r2 qz (qO rr qZ))))))))) V [4,3,2,1] [101,0] fun G=>(Ya (Ya ?_))))
 refine Ze G (qR rr (qf (o_not .t) r1 qz (qR rr (qv 0 101 rfl r2 r1 (qw 101 rfl r2 r1 (qk rfl (fun h=>oP (ZvS _) func178 (Args.one (.w h))) r2 qz (qk rfl (fun h=>o_not (.w h)) r2 qz (qk rfl (fun h=>oM (.w h)) r2 qz (ZB.cons (ZaE.cond2 rfl rfl (fun h=>Z8 (off:=2) 101 .is kr (by rfl))) r2 r1 (ZB.cons (ZaE.cond2 rfl rfl (fun h=>ZbV (ag:=false) (sz:=1) 101 (.w h .adr) kr kr kr (by rfl))) r2 r1 (ZB.cons (ZaE.cond2 rfl rfl (fun h=>ZaC (.w h) qi)) r2 qz (qk rfl (fun h=>ZaA (.w h) (.wc h)) r3 qz (qk rfl (fun h=>oM (.w h)) r2 qz (ZB.cons (ZaE.cond2 rfl rfl (fun h=>Z8 (off:=2) 101 .is kr (by rfl))) r2 r1 (ZB.cons (ZaE.cond2 rfl rfl (fun h=>ZbV (ag:=false) (sz:=1) 101 (.w h .adr) kr kr kr (by rfl))) r2 r1 (ZB.cons (ZaE.cond2 rfl rfl (fun h=>ZaR (.w h) qi)) r2 qz (qk rfl (fun h=>ZaA (.w h) (.wc h)) r3 qz (qf (ZE .t .t) r2 qz (qR rr (qv 1 101 rfl r2 r1 (qw 101 rfl r2 r1 (qk rfl (fun h=>oP (ZvS _) func178 (Args.one (.w h))) r2 qz (qk rfl (fun h=>o_not (.w h)) r2 qz (qf (ZaA .t .t) r2 qz qZ)))))))))))))))))))))))) V [36,3,2,1] [101,0] rfl rfl fun a w F G=>?_
 try dsimp only [List.map,xD,xE,xT,xU,ldSF] at G
 refine Za (Zc G rfl (fun hc0=>?_) (fun hc0=>?_))
 ·rw [Zg1] at hc0
  have hr:ZcQ v=false:=by simpa using hc0
  have hg:Zsx v=(0,1):=by unfold Zsx;rw [hr];rfl
  refine Ya (rZ G (qI (qI qZ)) V [3,2,1] [101,0] fun G=>(Yh (Zl ?_)))
  refine Zab hfr G rfl (.tmp rfl (.tmp rfl .nil)) (.two (.int (by rw [hg];try exact Zl7 hr)) (.int (by rw [hg])))
 rw [Zg1] at hc0
 have hr:ZcQ v=true:=by simpa using hc0
 have hg:Zsx v=(Zvs v,0):=Yf hr
 refine Ye (Za (Ya (rZ G (qg 0 101 r1 r1 (qa 101 r1 r1 (qf (o_conv underlying175 kr .t) r1 qz (qf (o_shl .t qi (by decide)) r1 qz (qg 1 101 r1 r1 (qa 101 r1 r1 (qf (o_conv underlying175 kr .t) r1 qz (qf (Zst .t .t) r2 qz (qf (o_shl .t qi (by decide)) r1 qz (qg 2 101 r1 r1 (qa 101 r1 r1 (qf (o_conv underlying175 kr .t) r1 qz (qf (Zst .t .t) r2 qz (qO rr (qI qZ))))))))))))))) V [3,2] [0] fun G=>Yh ?_)))
 refine Zab hfr G rfl (.tmp rfl (.tmp rfl .nil)) (.two (.int (by rw [hg];try exact Zl7 hr)) (.int (by rw [hg])))
def Zc6 (x y:Int):Int:=if x<y then -1 else if y<x then 1 else 0
def Zfk (e:Zg):List Int:=[e.src,e.kind,e.key,e.dst]
def Zgu:List Int→List Int→Int
 | x :: xs,y :: ys=>if x=y then Zgu xs ys else Zc6 x y
 | _,_=>0
def cmpE (e f:Zg):Int:=Zgu (Zfk e) (Zfk f)
theorem ZcP {x y:Int} : Zc6 x y=0 ↔ x=y:=by unfold Zc6;split <;> (try split) <;> omega
theorem Zpi:∀ (k:Nat) (xs ys:List Int),k<xs.length→k<ys.length→(∀ j,j<k→Nn xs j=Nn ys j)→Nn xs k≠Nn ys k→Zgu xs ys=Zc6 (Nn xs k) (Nn ys k)
 | _,[],_,h,_,_,_=>by simp at h
 | _,_ :: _,[],_,h,_,_=>by simp at h
 | 0,x :: xs,y :: ys,_,_,_,hn=>by
  have hn':x≠y:=hn
  unfold Zgu
  rw [Yc hn']
  rfl
 | k+1,x :: xs,y :: ys,h1,h2,hj,hn=>by
  have h0:x=y:=hj 0 ow
  unfold Zgu
  rw [Yf h0]
  exact Zpi k xs ys (by simpa using h1) (by simpa using h2) (fun j h=>hj (j+1) ow) hn
theorem Zk0:∀ (xs ys:List Int),xs.length=ys.length→(∀ j,j<xs.length→Nn xs j=Nn ys j)→Zgu xs ys=0
 | [],[],_,_=>rfl
 | [],_ :: _,h,_=>by simp at h
 | _ :: _,[],h,_=>by simp at h
 | x :: xs,y :: ys,h,hj=>by
  have h0:x=y:=hj 0 (by simp)
  unfold Zgu
  rw [Yf h0]
  exact Zk0 xs ys (by simpa using h) (fun j h=>hj (j+1) (by simpa using h))
theorem ZnX (n:Int):FnP prog 151 [.int .i64 n] (.bool false):=by
 refine FnP.mk func151 rfl ntmps151 rfl fun B a w F V hfr G=>Ya ?_
 refine rZ G qB V [2,0] [0] fun G=>Ya ?_
 refine rZ G (qR rr (qR rr (qf (o_neq .t .t) r2 qz (qO rr qZ)))) V [2] [0] fun G=>Yh ?_
 refine Zr hfr G rfl rfl rfl (.bool (by simp))
theorem Zvg (m n:Int):FnP prog 110 [.int .i64 m,.int .i64 n] (.int .i64 (Zc6 m n)):=by
 refine FnP.mk func110 rfl ntmps110 rfl fun B a w F V hfr G=>Ya ?_
 refine rZ G (qI qZ) V [4,1,0] [0] fun G=>Ya ?_
 refine rZ G (qR rr (qf (oP (ZnX _) func151 (Args.one .t)) r1 qz (qO rr qZ))) V [5,4,1,0] [0] fun G=>Ya ?_
 refine rZ G (qR rr (qf (oP (ZnX _) func151 (Args.one .t)) r1 qz (qO rr qZ))) V [6,5,4,1,0] [0] fun G=>(Ya (Ya ?_))
 refine rZ G (qR rr qZ) V [11,6,4,1,0] [0] fun G=>?_
 refine Zc G rfl (fun hc0=>?_) (fun hc0=>?_)
 ·cases hc0
 refine Ye (Za (Ya (Ya (rZ G (qR rr qZ) V [13,4,1,0] [0] fun G=>?_))))
 refine Zc G rfl (fun hc1=>?_) (fun hc1=>?_)
 ·cases hc1
 refine Ye (Za (Ya (Ya (rZ G (qR rr (qR rr (qL r2))) V [16,4,1,0] [0] fun G=>?_))))
 refine Zc G rfl (fun hc2=>?_) (fun hc2=>?_)
 ·have hg:Zc6 m n = -1:=Yf (Yq hc2)
  refine Ya (rZ G (qI qZ) V [4,1,0] [0] fun G=>(Yh (Zl ?_)))
  refine Zr hfr G rfl rfl rfl (.int (by rw [hg]))
 have h1:¬ m<n:=YJ hc2
 refine Ye (Za (Ya (Ya (rZ G (qR rr (qR rr (qf (ZaR .t .t) r2 qz qZ))) V [19,4] [0] fun G=>?_))))
 refine Zc G rfl (fun hc3=>?_) (fun hc3=>?_)
 ·have hg:Zc6 m n=1:=by unfold Zc6;rw [Yc h1,Yf (Yq hc3)]
  refine Ya (rZ G (qI qZ) V [4] [0] fun G=>(Yh (Zl ?_)))
  refine Zr hfr G rfl rfl rfl (.int (by rw [hg]))
 have hg:Zc6 m n=0:=by unfold Zc6;rw [Yc h1,Yc (YJ hc3)]
 refine Ye (Za (Ya (rZ G (qI qZ) V [4] [0] fun G=>Yh ?_)))
 refine Zr hfr G rfl rfl rfl (.int (by rw [hg]))
theorem Zor (d e:Zg):FnP prog 174 [.agg (Zs d),.agg (Zs e)] (.int .i64 (cmpE d e)):=by
 refine FnP.mk func174 rfl ntmps174 rfl fun B a w F V hfr G=>Ya ?_
 refine Zb G (qx 101 r1 (qx 102 r1 (qI qZ))) V [4,3,2] [102,101,0] (fun _=>rfl) (fun _=>rfl) fun τ a w F G=>?_
 try dsimp only [RS.sub,SF.sub,CF.sub,csub,Anc.sub,List.map,zCF] at G
 generalize τ 2=v2 at G
 generalize τ 3=v3 at G
 refine Za (Ya (Zb G (qg 0 101 r1 r1 (qa 101 r1 r1 (qg 2 101 r1 r1 (qa 101 r1 r1 (qg 3 101 r1 r1 (qa 101 r1 r1 (qg 1 101 r1 r1 (qa 101 r1 r1 (qf (Zbx (sz:=1) (r:=[(0,.tmp 10),(1,.tmp 12),(2,.tmp 14),(3,.tmp 16)]) (zs:=[.int .i64 0,.int .i64 0,.int .i64 0,.int .i64 0]) (pl:=[(0,1),(1,1),(2,1),(3,1)]) underlying289 kr kr rfl (.one rfl .t one_int kr (.one rfl .t one_int kr (.one rfl .t one_int kr (.one rfl .t one_int kr .nil)))) (by rfl)) r4 qz (qf (oH [.int .i64 0,.int .i64 0,.int .i64 0,.int .i64 0] 103) trivial qz (qS 4 103 r2 r1 qZ))))))))))) V [5,4,3] [103,102,0] (fun _=>rfl) (fun _=>rfl) fun τ a w F G=>?_))
 try dsimp only [RS.sub,SF.sub,CF.sub,csub,Anc.sub,List.map,Zf,xL,xM,Nat.reduceAdd,xD,xE,xT,xU,xC,xN,zCF,ldSF] at G
 generalize τ 5=v5 at G
 refine Za (Ya (Zb G (qg 0 102 r1 r1 (qa 102 r1 r1 (qg 2 102 r1 r1 (qa 102 r1 r1 (qg 3 102 r1 r1 (qa 102 r1 r1 (qg 1 102 r1 r1 (qa 102 r1 r1 (qf (Zbx (sz:=1) (r:=[(0,.tmp 19),(1,.tmp 21),(2,.tmp 23),(3,.tmp 25)]) (zs:=[.int .i64 0,.int .i64 0,.int .i64 0,.int .i64 0]) (pl:=[(0,1),(1,1),(2,1),(3,1)]) underlying289 kr kr rfl (.one rfl .t one_int kr (.one rfl .t one_int kr (.one rfl .t one_int kr (.one rfl .t one_int kr .nil)))) (by rfl)) r4 qz (qf (oH [.int .i64 0,.int .i64 0,.int .i64 0,.int .i64 0] 104) trivial qz (qS 4 104 r2 r1 qZ))))))))))) V [6,5,4] [104,103,0] (fun _=>rfl) (fun _=>rfl) fun τ a w F G=>?_))
 try dsimp only [RS.sub,SF.sub,CF.sub,csub,Anc.sub,List.map,Zf,xL,xM,Nat.reduceAdd,xD,xE,xT,xU,xC,xN,zCF,ldSF] at G
 generalize τ 6=v6 at G
 refine Za (Ya (Ya (rZ G (qJ qZ) V [27,6,5,4] [104,103,0] fun G=>Yg ?_)))
 replace G:=G.turn 103 rfl (r':=.ob (.val v5) (Znp 289 (fun x=>PV.int .i64 x) (Zfk d))) (fun τ w f y h=>Zhu (f:=(fun x=>PV.int .i64 x)) (l:=Zfk d) τ w f y h)
 replace G:=G.turn 104 rfl (r':=.ob (.val v6) (Znp 289 (fun x=>PV.int .i64 x) (Zfk e))) (fun τ w f y h=>Zhu (f:=(fun x=>PV.int .i64 x)) (l:=Zfk e) τ w f y h)
 obtain ⟨F,G⟩:=G.nM [27,6,5] [104,103,0]
 refine Zbw (σ:=Nat) (fun s=>(⟨[(5,.pv (.is v5)),(6,.pv (.is v6)),(27,.pv (.int .i64 s))],[(0,frame B),(103,.ob (.val v5) (Znp 289 (fun x=>PV.int .i64 x) (Zfk d))),(104,.ob (.val v6) (Znp 289 (fun x=>PV.int .i64 x) (Zfk e)))]⟩:En)) (fun s=>s≤4 ∧ ∀ j,j<s→Nn (Zfk d) j=Nn (Zfk e) j) (fun s=>4 - s) 0 G ⟨by decide,fun j hj=>absurd hj (Y1 j)⟩ ?_
 clear G;intro k a w F hC G
 try dsimp only at hC
 try dsimp only at G
 obtain ⟨hk,hq⟩:=hC
 refine Ya (rZ G (qf (ZaC .t qi) r1 qz qZ) V [28,27,6,5] [104,103,0] fun G=>Ya ?_)
 refine Zc G rfl (fun hc0=>?_) (fun hc0=>?_)
 ·have hkl:k<4:=by simp at hc0;omega
  refine Ye (Za (Ya (Yg (Ya (rZ G (qR rr (qO rr qZ)) V [27,7,6,5] [104,103,0] fun G=>Ya ?_)))))
  refine Zv G (qR rr (qf (Zcc (sz:=1) 103 underlying289 kr .is .t ow ow) r2 r1 (qf (ZiS 103 .adr kr kr (by simp only [Zfk,Yl,Yy];omega)) r1 r1 (qR rr (qf (Zcc (sz:=1) 104 underlying289 kr .is .t ow ow) r2 r1 (qf (ZiS 104 .adr kr kr (by simp only [Zfk,Yl,Yy];omega)) r1 r1 (qf (oP (Zvg _ _) func110 (Args.two .t .t)) r2 qz (qO rr qZ)))))))) V [27,8,6,5] [104,103,0] rfl rfl fun a w F G=>?_
  try dsimp only [List.map,xD,xE,xT,xU,ldSF] at G
  simp only [Y3,Nat.mul_one,Yb] at G
  refine Za (Ya (rZ G (qR rr (qf (o_neq .t qi) r1 qz qZ)) V [38,27,8,6,5] [104,103,0] fun G=>?_))
  refine Zc G rfl (fun hc1=>?_) (fun hc1=>?_)
  ·have hne:Zc6 (Nn (Zfk d) k) (Nn (Zfk e) k)≠0:=by simpa using hc1
   have hg:cmpE d e=Zc6 (Nn (Zfk d) k) (Nn (Zfk e) k):=Zpi k _ _ hkl hkl hq (fun e=>hne (ZcP.2 e))
   refine Ya (rZ G (qR rr (qO rr qZ)) V [27,6,5,4] [104,103,0] fun G=>(Yh (Zz (Zl (Zl (Zz (Zl ?_)))))))
   refine Zr hfr G rfl rfl rfl (.int (by rw [hg]))
  have hqk:Nn (Zfk d) k=Nn (Zfk e) k:=ZcP.1 (by simpa using hc1)
  refine Ye (Zh (Za (rZ G (qp r1 (qR rr qZ)) V [27,6,5] [104,103,0] fun G=>?_)))
  replace G:=G.ent (i:=27) (s':=.pv (.int .i64 ((k+1:Nat):Int))) rfl (.int (Zd ow))
  obtain ⟨F,G⟩:=G.nM [27,6,5] [104,103,0]
  exact ⟨k+1,F,⟨by omega,fun j hj=>by rcases YX (Y5 hj) with h | h;exact hq j h;rw [h];exact hqk⟩,G,by omega⟩
 have hg:cmpE d e=0:=Zk0 _ _ rfl fun j hj=>hq j (by simp only [Zfk,Yl,Yy] at hj;simp at hc0;omega)
 refine Yv (Zi (Zi (Zo (Za (Ya (rZ G (qI qZ) V [4] [104,103,0] fun G=>Yh ?_))))))
 refine Zr hfr G rfl rfl rfl (.int (by rw [hg]))
theorem ZtL (x:Int) (hx:0≤x∧x<256):FnP prog 190 [.int .u64 x] (.any):=by
 refine FnP.mk func190 rfl ntmps190 rfl fun B a w F V hfr G=>?_
 have u8w:IntKind.wrap .u8 x=x:=Zf7 ⟨by simp [IntKind.min,IntKind.signed,IntKind.bits];omega,by simp [IntKind.max,IntKind.signed,IntKind.bits];omega⟩
 have hx256:x<(256:Nat):=by omega
 refine Ya (rZ G (qI qZ) V [2,0] [0] fun G=>(Ya (Ya ?_)))
 refine rZ G (qR rr (qf (Zbp .t qi) r1 qz qZ)) V [4,2,0] [0] fun G=>?_
 refine Zc G rfl (fun hc0=>?_) (fun hc0=>?_)
 ·simp at hc0;omega
 refine Ye (Za (Ya (Ya (rZ G (qR rr (qf (Zbp .t qi) r1 qz qZ)) V [8,2,0] [0] fun G=>?_))))
 refine Zc G rfl (fun hc1=>?_) (fun hc1=>?_)
 ·simp at hc1;omega
 refine Ye (Za (Ya (Ya (rZ G (qR rr (qf (Zbp .t qi) r1 qz qZ)) V [14,2,0] [0] fun G=>?_))))
 refine Zc G rfl (fun hc2=>?_) (fun hc2=>?_)
 ·simp at hc2;omega
 refine Ye (Za (Ya (rZ G (qR rr (qR rr (qf (o_conv underlying5 kr .t) r1 qz (qf (Zmu underlying9 (.cs kr) .t (by rw [u8w];omega) (by rw [u8w];exact hx256)) r1 qz (qf (o_conv underlying3 kr .t) r1 qz (qf (o_add .t .t) r2 qz (qO rr qZ))))))) V [2] [0] fun G=>Yh ?_)))
 refine Zr hfr G rfl rfl rfl .any
theorem ZrI (x:Int) (hx:0≤x∧x<256):FnP prog 142 [.int .u64 x] (.any):=by
 refine FnP.mk func142 rfl ntmps142 rfl fun B a w F V hfr G=>Ya ?_
 refine rZ G (qI qZ) V [2,0] [0] fun G=>Ya ?_
 refine wp_cond (by rfl) ?_
 refine Ye (Za (Ya (rZ G (qR rr (qf (oP (ZtL x hx) func190 (Args.one .t)) r1 qz (qO rr qZ))) V [2] [0] fun G=>Yh ?_)))
 refine Zr hfr G rfl rfl rfl .any
theorem ZrZ (v:Value) (l:List Zg) (hl:l.length≤12) (hs:∀ j,0<j→j<l.length→¬ cmpE (Nn l j) (Nn l (j - 1))<0):FnG prog 232 1 [.is v,.int .i64 0,.int .i64 l.length,.is (.func (.func 174) #[] #[])] [Zu 42 4 Zs l v] (.tup []) (fun _=>[Zu 42 4 Zs l v]):=by
 refine FnG.mk func232 rfl ntmps232 rfl kr fun B F0 a w F V hG G=>?_
 have G:=G.turn 1 rfl (r':=RS.ob (.val v) (Zu 42 4 Zs l)) (fun _ _ _ _ h=>h)
 obtain ⟨F,G⟩:=G.nM [3,2,1,0] [1,0]
 refine Ya (rZ G (qR rr (qp r1 (qO rr qZ))) V [8,3,2,1,0] [1,0] fun G=>Yg ?_)
 replace G:=G.ent (i:=8) (s':=.pv (.int .i64 ((1:Nat):Int))) rfl (.int (by decide))
 obtain ⟨F,G⟩:=G.nM [8,3,2,1,0] [1,0]
 refine Zbw (σ:=Nat) (fun s=>(⟨[(0,.pv (.is v)),(1,.pv (.int .i64 0)),(2,.pv (.int .i64 l.length)),(3,.pv (.is (.func (.func 174) #[] #[]))),(8,.pv (.int .i64 s))],[(0,frame B),(1,.ob (.val v) (Zu 42 4 Zs l))]⟩:En)) (fun s=>1≤s∧s≤13) (fun s=>13 - s) 1 G ⟨by decide,by decide⟩ ?_
 clear G;intro i a w F hC G
 try dsimp only at hC
 try dsimp only at G
 obtain ⟨hi1,hi2⟩:=hC
 have hw:IntKind.wrap .i64 ((i:Int) - 1)=((i - 1:Nat):Int):=by rw [ZA ow];omega
 refine Ya (Ya (rZ G (qR rr (qR rr (qL r2))) V [14,8,3,2,1,0] [1,0] fun G=>?_))
 refine Zc G rfl (fun hc0=>?_) (fun hc0=>?_)
 ·have hil:i<l.length:=by simp at hc0;omega
  refine Ye (Za (Ya (Yg (Ya (rZ G (qR rr (qO rr qZ)) V [9,8,3,2,1,0] [1,0] fun G=>Yg ?_)))))
  obtain ⟨F,G⟩:=G.nM [9,8,3,2,1,0] [1,0]
  refine Zbw (σ:=Unit) (fun s=>(⟨[(0,.pv (.is v)),(1,.pv (.int .i64 0)),(2,.pv (.int .i64 l.length)),(3,.pv (.is (.func (.func 174) #[] #[]))),(8,.pv (.int .i64 i)),(9,.pv (.int .i64 i))],[(0,frame B),(1,.ob (.val v) (Zu 42 4 Zs l))]⟩:En)) (fun s=>True) (fun s=>0) () G trivial ?_
  clear G;intro u a w F hC G
  try dsimp only at hC
  try dsimp only at G
  refine Ya (Ya (Zv G (qR rr (qR rr (qf (ZaR .t .t) r2 qz (qR rr (qm rfl rfl rfl rfl (qm rfl rfl rfl rfl (qm rfl rfl rfl rfl (qk rfl (fun h=>o_indexAddr_row (sz:=4) 1 (.mk underlying31 kr) (.w h .is) (.w h) ow ow (by rfl)) r3 r1 (qk rfl (fun h=>Zt (ag:=true) (sz':=4) (sz:=4) 1 (.w h) (by intro x;rfl) ow kr kr kr) r2 r1 (qm rfl rfl rfl rfl (qm rfl rfl rfl rfl (qk rfl (fun h=>o_sub (.w h) qi) r2 qz (qk rfl (fun h=>o_indexAddr_row (sz:=4) 1 (.mk underlying31 kr) (.w h .is) (.w h) (by rw [hw];omega) (by rw [hw];omega) (by rfl)) r3 r1 (qk rfl (fun h=>Zt (ag:=true) (sz':=4) (sz:=4) 1 (.w h) (by intro x;rfl) (by rw [hw];omega) kr kr kr) r2 r1 (qk rfl (fun h=>Zr7 (.w h) (Zor _ _) func174 rfl kr (Args.two (.pagg (.w h)) (.pagg (.w h)))) r4 qz (qk rfl (fun h=>ZaC (.w h) qi) r2 qz (qf (ZE .t .t) r2 qz qZ))))))))))))))))) V [34,9,8,3,2,1,0] [1,0] rfl rfl fun a w F G=>?_))
  try dsimp only [List.map,xD,xE,xT,xU,ldSF] at G
  refine Za (Zc G rfl (fun hc1=>?_) (fun hc1=>?_))
  ·simp only [Yr,Yu,Yb,hw] at hc1
   exact (hs i ow ow hc1.2).elim
  refine Yv (Zi (Zi (Zo (Zh (Za (rZ G (qR rr (qp r1 (qO rr qZ))) V [8,3,2,1,0] [1,0] fun G=>?_))))))
  replace G:=G.ent (i:=8) (s':=.pv (.int .i64 ((i+1:Nat):Int))) rfl (.int (Zd ow))
  obtain ⟨F,G⟩:=G.nM [8,3,2,1,0] [1,0]
  exact ⟨i+1,F,⟨by omega,by omega⟩,G,by omega⟩
 refine Yv (Zi (Zi (Zo ?_)))
 have G:=G.turn 1 rfl (r':=RS.hp (Zu 42 4 Zs l v)) (fun _ _ _ _ h=>h)
 refine Zad hG G rfl .nil Zba.none rfl
theorem ZvB (v:Value) (l:List Zg) (hl:l.length≤12) (hs:∀ j,0<j→j<l.length→¬ cmpE (Nn l j) (Nn l (j - 1))<0):FnG prog 211 1 [.is v,.int .i64 0,.int .i64 l.length,.any,.is (.func (.func 174) #[] #[])] [Zu 42 4 Zs l v] (.tup []) (fun _=>[Zu 42 4 Zs l v]):=by
 refine FnG.mk func211 rfl ntmps211 rfl kr fun B F0 a w F V hG G=>?_
 have G:=G.turn 1 rfl (r':=RS.ob (.val v) (Zu 42 4 Zs l)) (fun _ _ _ _ h=>h)
 obtain ⟨F,G⟩:=G.nM [4,3,2,1,0] [1,0]
 refine Ya (rZ G qB V [10,4,3,2,1,0] [1,0] fun G=>Ya ?_)
 refine rZ G qB V [11,10,4,3,2,1,0] [1,0] fun G=>Yg ?_
 obtain ⟨F,G⟩:=G.nM [4,2,1,0] [1,0]
 refine Zbw (σ:=Unit) (fun s=>(⟨[(0,.pv (.is v)),(1,.pv (.int .i64 0)),(2,.pv (.int .i64 l.length)),(4,.pv (.is (.func (.func 174) #[] #[])))],[(0,frame B),(1,.ob (.val v) (Zu 42 4 Zs l))]⟩:En)) (fun s=>True) (fun s=>0) () G trivial ?_
 clear G;intro u a w F hC G
 try dsimp only at hC
 try dsimp only at G
 refine Yg (Ya (Ze G (qR rr (qR rr (qf (o_sub .t .t) r2 qz (qO rr qZ)))) V [12,4,2,1,0] [1,0] rfl rfl fun a w F G=>?_))
 skip
 refine Za (Ya (Ya (rZ G (qR rr (qf (ZkF .t qi) r1 qz qZ)) V [25,12,4,2,1,0] [1,0] fun G=>?_)))
 refine Zc G rfl (fun hc0=>?_) (fun hc0=>?_)
 ·refine Ya (rZ G (qR rr (qR rr (qR rr (qR rr (qf (Zbi 1 (ZrZ v l hl hs) func232 rfl kr (Args.four .t .t .t .t)) r4 r1 qZ))))) V [12,4,2,1,0] [1,0] fun G=>(Yh (Zl (Zz (Zl (Zz ?_))))))
  have G:=G.turn 1 rfl (r':=RS.hp (Zu 42 4 Zs l v)) (fun _ _ _ _ h=>h)
  refine Zad hG G rfl .nil Zba.none rfl
 rw [ZA ow] at hc0
 simp at hc0
 omega
theorem Zmw (v:Value) (l:List Zg) (hl:l.length≤12) (hs:∀ j,0<j→j<l.length→¬ cmpE (Nn l j) (Nn l (j - 1))<0):FnG prog 173 1 [.is v,.is (.func (.func 174) #[] #[])] [Zu 42 4 Zs l v] (.tup []) (fun _=>[Zu 42 4 Zs l v]):=by
 refine FnG.mk func173 rfl ntmps173 rfl kr fun B F0 a w F V hG G=>?_
 have G:=G.turn 1 rfl (r':=RS.ob (.val v) (Zu 42 4 Zs l)) (fun _ _ _ _ h=>h)
 obtain ⟨F,G⟩:=G.nM [1,0] [1,0]
 refine Ya (Ze G (qR rr (qf (ZS 1 underlying31 .is) r1 r1 (qO rr qZ))) V [4,1,0] [1,0] rfl rfl fun a w F G=>?_)
 have hxl:0≤IntKind.wrap .u64 (l.length:Int)∧IntKind.wrap .u64 (l.length:Int)<256:=by rw [Zal];omega
 refine Za (Ze G (qR rr (qR rr (qR rr (qf (o_conv underlying162 kr .t) r1 qz (qf (oP (ZrI _ hxl) func142 (Args.one .t)) r1 qz (qR rr (qf (Zbi 1 (ZvB v l hl hs) func211 rfl kr (Args.five .t qi .t .t .t)) r4 r1 qZ))))))) V [] [1,0] rfl rfl fun a w F G=>?_)
 have G:=G.turn 1 rfl (r':=RS.hp (Zu 42 4 Zs l v)) (fun _ _ _ _ h=>h)
 refine Zad hG G rfl .nil Zba.none rfl
theorem Zq5 (w:World) (yy:Ys):PVs (Zs noE) [.int .i64 0,.int .i64 0,.int .i64 0,.int .i64 0] w yy:=by
 have h:inR .i64 0:=by simp [inR,IntKind.min,IntKind.max,IntKind.signed,IntKind.bits]
 exact ⟨⟨rfl,rfl,h⟩,⟨rfl,rfl,h⟩,⟨rfl,rfl,h⟩,⟨rfl,rfl,h⟩,tv⟩
theorem ZcY:inR .i64 0:=by show IntKind.min .i64≤0∧0≤IntKind.max .i64;decide
def Zq {α:Type} [DecidableEq α]:List α→List α
 | []=>[]
 | [x]=>[x]
 | x :: y :: l=>if x=y then Zq (y :: l) else x :: Zq (y :: l)
theorem Zcy {α:Type} [DecidableEq α] (a b:α):∀ l:List α,Zq (l ++ [a,b])=if a=b then Zq (l ++ [a]) else Zq (l ++ [a]) ++ [b]
 | []=>by
  show (if a=b then [b] else a :: [b])=if a=b then [a] else [a] ++ [b]
  split
  ·rename_i h;rw [h]
  ·rfl
 | [x]=>by
  have ih:=Zcy a b []
  show (if x=a then Zq ([] ++ [a,b]) else x :: Zq ([] ++ [a,b]))=if a=b then (if x=a then Zq ([] ++ [a]) else x :: Zq ([] ++ [a])) else (if x=a then Zq ([] ++ [a]) else x :: Zq ([] ++ [a])) ++ [b]
  rw [ih]
  by_cases h1:x=a <;> by_cases h2:a=b <;> simp [h1,h2]
 | x :: y :: l=>by
  have ih:=Zcy a b (y :: l)
  show (if x=y then Zq (y :: l ++ [a,b]) else x :: Zq (y :: l ++ [a,b]))=if a=b then (if x=y then Zq (y :: l ++ [a]) else x :: Zq (y :: l ++ [a])) else (if x=y then Zq (y :: l ++ [a]) else x :: Zq (y :: l ++ [a])) ++ [b]
  rw [ih]
  by_cases h1:x=y <;> by_cases h2:a=b <;> simp [h1,h2]
theorem ZbA {α:Type} [DecidableEq α] [Inhabited α] {l:List α} {p:Nat} (h1:1≤p) (h2:p<l.length):Zq (l.take (p+1))=if Nn l (p - 1)=Nn l p then Zq (l.take p) else Zq (l.take p) ++ [Nn l p]:=by
 obtain ⟨q,rfl⟩:∃ q,p=q+1:=⟨p - 1,by omega⟩
 rw [Zp h2,Zp (show q<l.length by omega),YO]
 exact Zcy _ _ _
theorem Zb0 {α:Type} [DecidableEq α]:∀ {l:List α},l.length≤1→Zq l=l
 | [],_=>rfl
 | [x],_=>rfl
 | x :: y :: l,h=>by simp at h
structure STO {α:Type} (lt:α→α→Bool):Prop where
 irr:∀ a,lt a a=false
 tr:∀ a b c,lt a b=true→lt b c=true→lt a c=true
 tot:∀ a b,lt a b=false→lt b a=false→a=b
section
variable {α:Type} {lt:α→α→Bool}
theorem STO.asym (h:STO lt) {a b:α} (k:lt a b=true):lt b a=false:=by
 cases e:lt b a with
 | false=>rfl
 | true=>have:=h.tr a b a k e;rw [h.irr] at this;cases this
theorem STO.ne (h:STO lt) {a b:α} (k:lt a b=true):a≠b:=fun e=>by subst e;rw [h.irr] at k;cases k
theorem STO.le (h:STO lt) {a b c:α} (h1:lt a b=true) (h2:lt c b=false):lt a c=true:=by
 cases e:lt a c with
 | true=>rfl
 | false=>
  cases e2:lt c a with
  | true=>have:=h.tr c a b e2 h1;rw [h2] at this;cases this
  | false=>have:=h.tot a c e e2;subst this;rw [h1] at h2;cases h2
abbrev Zox (lt:α→α→Bool) (l:List α):Prop:=l.Pairwise fun a b=>lt a b=true
theorem Zfw (h:STO lt):∀ {a b:List α},Zox lt a→Zox lt b→(∀ x,x ∈ a ↔ x ∈ b)→a=b
 | [],[],_,_,_=>rfl
 | [],y :: b,_,_,k=>by have:=(k y).2 (by simp);cases this
 | x :: a,[],_,_,k=>by have:=(k x).1 (by simp);cases this
 | x :: a,y :: b,ha,hb,k=>by
  have ha':=Yo.1 ha
  have hb':=Yo.1 hb
  have e:x=y:=by
   rcases Yk.1 ((k x).1 (by simp)) with e | e
   ·exact e
   ·rcases Yk.1 ((k y).2 (by simp)) with e2 | e2
    ·exact e2.symm
    ·have h1:=h.asym (hb'.1 x e);rw [ha'.1 y e2] at h1;cases h1
  subst e
  congr 1
  refine Zfw h ha'.2 hb'.2 fun z=>⟨fun hz=>?_,fun hz=>?_⟩
  ·rcases Yk.1 ((k z).1 (by simp [hz])) with e | e
   ·exact absurd e.symm (h.ne (ha'.1 z hz))
   ·exact e
  ·rcases Yk.1 ((k z).2 (by simp [hz])) with e | e
   ·exact absurd e.symm (h.ne (hb'.1 z hz))
   ·exact e
theorem Zla (h:STO lt) (l:List α):(l.mergeSort fun x y=>!lt y x).Pairwise (fun a b=>lt b a=false):=by
 have:=List.pairwise_mergeSort (le:=fun x y=>!lt y x) (fun a b c h1 h2=>by
  simp at h1 h2 ⊢
  cases e:lt c a with
  | false=>rfl
  | true=>have:=h.le e h1;rw [h2] at this;cases this) (fun a b=>by
  cases e:lt b a with
  | false=>simp
  | true=>simp [h.asym e]) l
 exact this.imp fun h=>by simpa using h
variable [DecidableEq α]
def ZeH (lt:α→α→Bool) (e:α):List α→Bool→List α
 | [],d=>if d then [] else [e]
 | x :: l,d=>(if d=false∧lt x e=false then [e] else [])++(if x=e then [] else [x])++ZeH lt e l (d || !lt x e)
def ZmC (lt:α→α→Bool) (l:List α) (e:α):List α:=ZeH lt e l false
theorem Zjn (lt:α→α→Bool) (e:α):∀ (l:List α) (d:Bool),(ZeH lt e l d).length≤l.length+(if d then 0 else 1)
 | [],d=>by cases d <;> simp [ZeH]
 | x :: l,d=>by
  have ih:=Zjn lt e l (d || !lt x e)
  have h1:(if x=e then ([]:List α) else [x]).length≤1:=by split <;> simp
  have h2:(if d=false∧lt x e=false then [e] else ([]:List α)).length+(if (d || !lt x e)=true then 0 else 1)≤if d=true then 0 else 1:=by
   cases d <;> cases lt x e <;> simp
  rw [ZeH,Yd,Yd,Yl]
  omega
theorem ZeB (h:STO lt) {e:α} : ∀ {l:List α},(∀ x ∈ l,lt e x=true)→ZeH lt e l true=l
 | [],_=>rfl
 | x :: l,k=>by
  have h1:=k x (by simp)
  rw [ZeH,YbY,ZeB h fun y hy=>k y (by simp [hy]),Yc (by simp),Yc (h.ne h1).symm]
  rfl
theorem ZlW (h:STO lt) {e:α} : ∀ {l:List α},Zox lt l→Zox lt (ZmC lt l e) ∧ ∀ x,x ∈ ZmC lt l e ↔ x ∈ l∨x=e
 | [],_=>by simp [ZmC,ZeH]
 | y :: l,k=>by
  have h':=Yo.1 k
  unfold ZmC
  cases h1:lt y e with
  | true=>
   have e1:ZeH lt e (y :: l) false=y :: ZeH lt e l false:=by
    rw [ZeH,Yc (by rw [h1];simp),Yc (h.ne h1),h1];rfl
   have ih:=ZlW h (e:=e) h'.2
   rw [e1]
   refine ⟨Yo.2 ⟨fun p hp=>?_,ih.1⟩,fun x=>?_⟩
   ·rcases (ih.2 p).1 hp with hp | rfl
    ·exact h'.1 p hp
    ·exact h1
   ·have:=ih.2 x
    unfold ZmC at this
    simp only [Yk,this,or_assoc]
  | false=>
   by_cases h2:y=e
   ·subst h2
    rw [ZeH,Yf ⟨rfl,h1⟩,Yf rfl,h1,show (false || !false)=true from rfl,ZeB h h'.1]
    exact ⟨k,fun x=>by simp;intro e;exact .inl e⟩
   ·have h3:lt e y=true:=by
     cases e3:lt e y with
     | true=>rfl
     | false=>exact absurd (h.tot y e h1 e3) h2
    rw [ZeH,Yf ⟨rfl,h1⟩,Yc h2,h1,show (false || !false)=true from rfl,ZeB h fun x hx=>h.tr e y x h3 (h'.1 x hx)]
    refine ⟨Yo.2 ⟨fun p hp=>?_,k⟩,fun x=>by simp;constructor <;> (rintro (h | h | h) <;> simp [h])⟩
    rcases Yk.1 hp with rfl | hp
    ·exact h3
    ·exact h.tr e y p h3 (h'.1 p hp)
def ZbK (lt:α→α→Bool) (l:List α):List α:=l.foldl (ZmC lt) []
theorem ZbI (h:STO lt) (l:List α):Zox lt (ZbK lt l) ∧ ∀ x,x ∈ ZbK lt l ↔ x ∈ l:=by
 have key:∀ (l acc:List α),Zox lt acc→Zox lt (l.foldl (ZmC lt) acc) ∧ ∀ x,x ∈ l.foldl (ZmC lt) acc ↔ x ∈ acc∨x ∈ l:=by
  intro l
  induction l with
  | nil=>intro acc k;exact ⟨k,fun x=>by simp⟩
  | cons y l ih=>
   intro acc k
   have h1:=ZlW h (e:=y) k
   have h2:=ih (ZmC lt acc y) h1.1
   refine ⟨h2.1,fun x=>?_⟩
   rw [Yan,h2.2 x,h1.2 x,Yk,or_assoc]
 have:=key l [] List.Pairwise.nil
 exact ⟨this.1,fun x=>by rw [show ZbK lt l=l.foldl (ZmC lt) [] from rfl,this.2 x];simp⟩
theorem Zdb (h:STO lt):∀ {l:List α},l.Pairwise (fun a b=>lt b a=false)→Zox lt (Zq l) ∧ ∀ x,x ∈ Zq l ↔ x ∈ l
 | [],_=>by simp [Zq]
 | [x],_=>by simp [Zq]
 | x :: y :: l,k=>by
  have h':=Yo.1 k
  have ih:=Zdb h h'.2
  show Zox lt (if x=y then Zq (y :: l) else x :: Zq (y :: l)) ∧ ∀ z,z ∈ (if x=y then Zq (y :: l) else x :: Zq (y :: l)) ↔ _
  split
  ·rename_i e
   subst e
   exact ⟨ih.1,fun z=>by rw [ih.2 z];simp⟩
  ·rename_i e
   have hxy:lt x y=true:=by
    cases e2:lt x y with
    | true=>rfl
    | false=>exact absurd (h.tot x y e2 (h'.1 y (by simp))) e
   refine ⟨Yo.2 ⟨fun z hz=>?_,ih.1⟩,fun z=>by rw [Yk,ih.2 z,← Yk]⟩
   rcases Yk.1 ((ih.2 z).1 hz) with rfl | hz2
   ·exact hxy
   ·exact h.le hxy ((Yo.1 h'.2).1 z hz2)
theorem ZiR (h:STO lt) (l:List α):Zq (l.mergeSort fun x y=>!lt y x)=ZbK lt l:=
 Zfw h (Zdb h (Zla h l)).1 (ZbI h l).1 fun x=>by rw [(Zdb h (Zla h l)).2,(ZbI h l).2];exact (YaV l _).mem_iff
end
theorem Zvp (d e:Zg):(decide (d.src=e.src) && (decide (d.dst=e.dst) && (decide (d.kind=e.kind) && (decide (d.key=e.key) && true))))=decide (d=e):=by
 cases d;cases e
 rw [Yar]
 simp
def ltE (a b:Zg):Bool:=decide (cmpE a b<0)
theorem ZkV (a b:Zg):(cmpE a b<0 ↔ a.src<b.src∨a.src=b.src∧(a.kind<b.kind∨a.kind=b.kind∧(a.key<b.key∨a.key=b.key∧a.dst<b.dst))):=by
 unfold cmpE Zfk Zgu
 by_cases h1:a.src=b.src
 ·rw [Yf h1]
  unfold Zgu
  by_cases h2:a.kind=b.kind
  ·rw [Yf h2]
   unfold Zgu
   by_cases h3:a.key=b.key
   ·rw [Yf h3]
    unfold Zgu
    by_cases h4:a.dst=b.dst
    ·rw [Yf h4];unfold Zgu;simp;omega
    ·rw [Yc h4];unfold Zc6;split <;> (try split) <;> omega
   ·rw [Yc h3];unfold Zc6;split <;> (try split) <;> omega
  ·rw [Yc h2];unfold Zc6;split <;> (try split) <;> omega
 ·rw [Yc h1];unfold Zc6;split <;> (try split) <;> omega
theorem Zuf (a b:Zg):ltE a b=true ↔ a.src<b.src∨a.src=b.src∧(a.kind<b.kind∨a.kind=b.kind∧(a.key<b.key∨a.key=b.key∧a.dst<b.dst)):=by unfold ltE;rw [Yu,ZkV]
theorem Zkd (a b:Zg):ltE a b=false ↔ ¬ (a.src<b.src∨a.src=b.src∧(a.kind<b.kind∨a.kind=b.kind∧(a.key<b.key∨a.key=b.key∧a.dst<b.dst))):=by unfold ltE;rw [YK,ZkV]
theorem Zb9:STO ltE where
 irr a:=by rw [Zkd];omega
 tr a b c h1 h2:=by rw [Zuf] at *;omega
 tot a b h1 h2:=by
  rw [Zkd] at h1 h2
  cases a;cases b
  simp only [Zg.mk.injEq] at *
  omega
def ZcW (l:List Zg):List Zg:=l.mergeSort fun x y=>!ltE y x
theorem ZmT (l:List Zg):Zq (ZcW l)=ZbK ltE l:=ZiR Zb9 l
theorem Zjw (l:List Zg):(ZcW l).length=l.length:=Ybt l
theorem ZcD {α:Type} [Inhabited α] {p:α→Bool} {l:List α} {j:Nat} (h:j<l.length):(l.take (j+1)).filter p=(l.take j).filter p++if p (Nn l j)=true then [Nn l j] else []:=by
 rw [Zp h,Yai]
 congr 1
 by_cases e:p (Nn l j)=true
 ·rw [Yf e];simp [e]
 ·rw [Yc e];simp at e;simp [e]
def Z3 {α:Type} [Inhabited α] (p:α→Bool) (l:List α):Int:=match l.findIdx? p with
 | some i=>i
 | none=>-1
theorem Zbh {α:Type} [Inhabited α] {p:α→Bool} {l:List α} (h:∀ k,k<l.length→p (Nn l k)=false):Z3 p l = -1:=by
 unfold Z3
 have:l.findIdx? p=none:=List.findIdx?_eq_none_iff.2 fun x hx=>by
  obtain ⟨k,hk,rfl⟩:=Ya4.1 hx
  rw [← nth_eq hk];exact h k hk
 rw [this]
theorem Zci {α:Type} [Inhabited α] {p:α→Bool} {l:List α} {i:Nat} (hi:i<l.length) (h:p (Nn l i)=true) (h2:∀ k,k<i→p (Nn l k)=false):Z3 p l=i:=by
 unfold Z3
 have:l.findIdx? p=some i:=List.findIdx?_eq_some_iff_getElem.2 ⟨hi,by rw [← nth_eq hi];exact h,fun k hk=>by rw [← nth_eq ow,h2 k hk];decide⟩
 rw [this]
theorem Zaw {α:Type} [Inhabited α] (p:α→Bool) (l:List α):(Z3 p l = -1 ∧ ∀ k,k<l.length→p (Nn l k)=false) ∨ ∃ i:Nat,Z3 p l=i∧i<l.length∧p (Nn l i)=true ∧ ∀ k,k<i→p (Nn l k)=false:=by
 cases h:l.findIdx? p with
 | none=>
  left
  refine ⟨by unfold Z3;rw [h],fun k hk=>?_⟩
  have:=List.findIdx?_eq_none_iff.1 h l[k] (Ybd hk)
  rw [nth_eq hk];exact this
 | some i=>
  right
  obtain ⟨h1,h2,h3⟩:=List.findIdx?_eq_some_iff_getElem.1 h
  refine ⟨i,by unfold Z3;rw [h],h1,by rw [nth_eq h1];exact h2,fun k hk=>?_⟩
  rw [nth_eq ow]
  simpa using h3 k hk
theorem Zds {α:Type} [Inhabited α] {p:α→Bool} {l:List α} (h:∀ k,k<l.length→p (Nn l k)=false):l.filter (fun x=>!p x)=l:=by
 rw [Ybj]
 intro x hx
 obtain ⟨k,hk,rfl⟩:=Ya4.1 hx
 rw [← nth_eq hk,h k hk];rfl
theorem Zes {α:Type} [Inhabited α] {p:α→Bool} {l:List α} {i:Nat} (hi:i<l.length) (hip:p (Nn l i)=true) (hib:∀ k,k<i→p (Nn l k)=false):l.take i=(l.take (i+1)).filter fun x=>!p x:=by
 have h:(l.take i).filter (fun x=>!p x)=l.take i:=Zds fun k hk=>by
  rw [Yi] at hk
  rw [nth_eq (by rw [Yi];omega),List.getElem_take,← nth_eq ow]
  exact hib k ow
 rw [ZcD (p:=fun x=>!p x) hi,hip,h];simp
theorem Zfj (l:List Int) (hl:l.length≤1000000):FnG prog 42 1 [.sl Zn l] [.star []] (PV.one) (fun v=>[Zu 3 1 Zn l v]):=by
 refine FnG.mk func42 rfl ntmps42 rfl kr fun B F0 a w F V hG G=>?_
 obtain ⟨F,G⟩:=G.nM [0] [0]
 refine Ya (rZ G (qC qZ) V [2,0] [0] fun G=>(Ya (Ya ?_)))
 refine Ze G (qR rr (qf (ZbH underlying45 .t) r1 qz qZ)) V [4,2,0] [0] rfl rfl fun a w F G=>?_
 obtain ⟨β4,hβ4,G⟩:=G.pickBool 4 rfl
 obtain ⟨F,G⟩:=G.nM [4,2,0] [0]
 refine Za (Zc G rfl (fun hc0=>?_) (fun hc0=>?_))
 ·have hg:l = []:=hβ4 hc0
  refine Ya (rZ G (qC qZ) V [2,0] [0] fun G=>(Yh (Zl ?_)))
  have G:=G.fresh 1 rfl
  have G:=G.turn 1 rfl (ZaD (T:=3) (sz:=1) (R:=Zn))
  have G:=G.turn 1 rfl (r':=RS.hp (Zu 3 1 Zn l (.slice none 0 0))) (fun _ _ _ _ h=>by rw [hg];exact h)
  refine Z2 (h':=fun v=>Zu 3 1 Zn l v) hG G rfl (.tmp rfl .nil) (.one .one) rfl
 have hg:l = [] ++ l:=rfl
 refine Ye (Za (Ya (Zb G (qf (Za5 (R:=Zn) (sz:=1) 101 underlying45 kr) trivial qz (qR rr (qf (ZV (sz:=1) (bs:=8) 101 (.mk' underlying45 kr kr) (by intro x;rfl) .same (.sl .t) (by simp only [Yd,Yy];omega) (by decide)) ⟨rfl,rfl,tv⟩ ⟨rfl,tv⟩ (qO rr qZ)))) V [2] [101,0] (fun _=>rfl) (fun _=>rfl) fun τ a w F G=>?_)))
 try dsimp only [RS.sub,SF.sub,CF.sub,csub,Anc.sub,List.map,Zf,xL,xM,Nat.reduceAdd,xD,xE,xT,xU,xC,xN,zCF,Zn] at G
 generalize τ 7=v7 at G
 refine Za (Yh ?_)
 obtain ⟨F,G⟩:=G.rename 101 1 rfl rfl
 have G:=G.turn 1 rfl (r':=RS.hp (Zu 3 1 Zn l v7)) (fun _ _ _ _ h=>by rw [hg];exact h)
 refine Z2 (h':=fun v=>Zu 3 1 Zn l v) hG G rfl (.tmp rfl .nil) (.one .one) rfl
theorem ZtU (l : List Int) (p : Int → Bool) (f : FuncId) (fn : Func) (cps : List PV) (hf : prog.funcs[f]? = some fn) (hb : fn.body.isSome = true) (hnn : (fn.name == "runtime.NumGoroutine") = false) (hw : ∀ x, FnP prog f (.int .i64 x :: cps) (.bool (p x))) : FnP prog 193 [.sl Zn l, .clos f cps] (.int .i64 (Z3 p l)) := by
 refine FnP.mk func193 rfl ntmps193 rfl fun B a w F V hfr G=>?_
 have hll:=Sat.lenSl G (i:=0) rfl
 refine Ya (rZ G (qI qZ) V [4,1,0] [0] fun G=>(Ya (Ya ?_)))
 refine rZ G (qR rr (qu underlying45 r1 (qJ qZ))) V [8,7,4,1,0] [0] fun G=>Yg ?_
 refine Zk (σ:=(Nat)) [0,1,4,7] [0] (fun s=>[(8,.pv (.int .i64 (s:Int)))]) (fun s=>[]) (fun s=>s≤l.length∧(∀ k,k<s→p (Nn l k)=false)) (fun s=>l.length - s) (0) G ⟨rfl,rfl,rfl,rfl,rfl,tv⟩ ⟨rfl,tv⟩ ⟨Yx _,fun k hk=>absurd hk (Y1 k)⟩ ?_
 clear G;intro i a w F hC G
 try dsimp only at hC
 obtain ⟨F,G⟩:=G.nM [8,7,4,1,0] [0]
 try dsimp only at G
 obtain ⟨hi,hq⟩:=hC
 refine Ya (rZ G (qL r2) V [9,8,7,4,1,0] [0] fun G=>Ya ?_)
 refine Zc G rfl (fun hc0=>?_) (fun hc0=>?_)
 ·skip
  have hil:i<l.length:=by simp at hc0;omega
  refine Ye (Za (Ya (Yg (Ya (rZ G (qR rr (qO rr qZ)) V [8,7,5,4,1,0] [0] fun G=>Ya ?_)))))
  refine Ze G (qR rr (qR rr (qR rr (qy 1 underlying45 r2 (qf (oR false 1 .t) r1 qz (qf (ZO (avs:=[.int .i64 (Nn l i)]) .t (hw (Nn l i)) hf hb hnn (Args.one .t)) r2 qz qZ)))))) V [16,8,7,5,4,1,0] [0] rfl rfl fun a w F G=>?_
  try simp only [Yb] at G
  refine Za (Zc G rfl (fun hc1=>?_) (fun hc1=>?_))
  ·skip
   have hg:(i:Int)=Z3 p l:=(Zci hil hc1 hq).symm
   refine Ya (rZ G (qR rr (qO rr qZ)) V [8,7,4,1,0] [0] fun G=>(Yh (Zz (Zl (Zl (Zz (Zl ?_)))))))
   refine Zr hfr G rfl rfl rfl (.int hg)
  have hne:p (Nn l i)=false:=hc1
  refine Ye (Zh (Za (rZ G (qp r1 (qR rr qZ)) V [8,7,4,1,0] [0] fun G=>?_)))
  replace G:=G.ent (i:=8) (s':=.pv (.int .i64 ((i+1:Nat):Int))) rfl (.int (Zd ow))
  obtain ⟨F,G⟩:=G.nM [7,4,1,0,8] [0]
  exact ⟨(i+1),F,⟨by omega,(fun k hk=>by rcases YX (Y5 hk) with h | h;exact hq k h;rw [h];exact hne)⟩,G,by omega⟩
 have hil:i=l.length:=by simp at hc0;omega
 have hg : -1=Z3 p l:=(Zbh fun k hk=>hq k (by simp at hc0;omega)).symm
 refine Yv (Zi (Zi (Zo (Za (Ya (rZ G (qI qZ) V [4] [0] fun G=>Yh ?_))))))
 refine Zr hfr G rfl rfl rfl (.int hg)
theorem Zuk (v : Value) (l : List Int) (hll : l.length ≤ 1000000) (p : Int → Bool) (f : FuncId) (fn : Func) (cps : List PV) (hf : prog.funcs[f]? = some fn) (hb : fn.body.isSome = true) (hnn : (fn.name == "runtime.NumGoroutine") = false) (hw : ∀ x, FnP prog f (.int .i64 x :: cps) (.bool (p x))) : FnG prog 149 1 [.is v, .clos f cps] [Zu 3 1 Zn l v] (PV.one) (fun v => [Zu 3 1 Zn (l.filter fun x => !p x) v]) := by
 refine FnG.mk func149 rfl ntmps149 rfl kr fun B F0 a w F V hG G=>?_
 replace G:=G.turn 1 rfl (r':=.ob (.val v) (Zu 3 1 Zn l)) (fun _ _ _ _ h=>h)
 refine Ya (rZ G (qC qZ) V [4,1,0] [1,0] fun G=>Ya ?_)
 refine rZ G (qR rr (qR rr (qf (OpC.lendRow 1 [8] (oP (ZtU l p f fn cps hf hb hnn hw) func193 (Args.two .t .t)) ⟨rfl,tv,tv⟩ (.pv (fun _ _ _ _ h=>h)) trivial (by rfl)) r2 r1 (qO rr qZ)))) V [5,4,1,0] [1,0] fun G=>(Ya (Ya ?_))
 refine rZ G (qR rr (qf (o_eql .t qi) r1 qz qZ)) V [12,5,4,1,0] [1,0] fun G=>?_
 refine Zc G rfl (fun hc0=>?_) (fun hc0=>?_)
 ·skip
  have hno:=(Zaw p l).resolve_right (by rintro ⟨i,h1,_⟩;simp at hc0;omega)
  have hg:(l.filter fun x=>!p x)=l:=Zds hno.2
  refine Ya (rZ G (qR rr (qO rr qZ)) V [5,4,1,0] [1,0] fun G=>(Yh (Zl ?_)))
  have G:=G.turn 1 rfl (r':=RS.hp (Zu 3 1 Zn (l.filter fun x=>!p x) v)) (fun _ _ _ _ h=>by rw [hg];exact h)
  refine Z2 (h':=fun v=>Zu 3 1 Zn (l.filter fun x=>!p x) v) hG G rfl (.tmp rfl .nil) (.one .one) rfl
 obtain ⟨i0,hi0,hi1,hip,hib⟩:=(Zaw p l).resolve_left (by rintro ⟨h1,_⟩;simp [h1] at hc0)
 have hst0:=Zes hi1 hip hib
 refine Ye (Za (Ya (Ya (rZ G (qR rr (qp r1 (qO rr qZ))) V [6,5,4,1,0] [1,0] fun G=>Yg ?_))))
 have hC0:i0<i0+1∧i0+1≤l.length∧l.length=l.length∧l.take i0=(l.take (i0+1)).filter (fun x=>!p x) ∧ ∀ k,i0+1≤k→k<l.length→Nn l k=Nn l k:=⟨by omega,by omega,rfl,hst0,fun k _ _=>rfl⟩
 replace G:=G.ent (i:=5) (s':=.pv (.int .i64 (i0:Int))) rfl (.int hi0)
 replace G:=G.ent (i:=6) (s':=.pv (.int .i64 ((i0+1:Nat):Int))) rfl (.int (by rw [hi0,ZA ow];omega))
 refine Zk (σ:=Nat×Nat×List Int) [0,1,4] [0] (fun s=>[(5,.pv (.int .i64 (s.1:Int))),(6,.pv (.int .i64 (s.2.1:Int)))]) (fun s=>[(1,.ob (.val v) (Zu 3 1 Zn s.2.2))]) (fun s=>s.1<s.2.1∧s.2.1≤l.length∧s.2.2.length=l.length∧s.2.2.take s.1=(l.take s.2.1).filter (fun x=>!p x) ∧ ∀ k,s.2.1≤k→k<l.length→Nn s.2.2 k=Nn l k) (fun s=>l.length - s.2.1) ((i0),(i0+1),(l)) G ⟨rfl,rfl,rfl,rfl,rfl,tv⟩ ⟨rfl,rfl,tv⟩ hC0 ?_
 clear G;intro s a w F hC G
 obtain ⟨i,j,l1⟩:=s
 try dsimp only at hC
 obtain ⟨F,G⟩:=G.nM [6,5,4,1,0] [1,0]
 try dsimp only at G
 obtain ⟨hij,hj,hll1,htk,hrest⟩:=hC
 refine Ya (Ya (rZ G (qR rr (qR rr (qf (ZS 1 underlying45 .is) r1 r1 (qL r2)))) V [19,6,5,4,1,0] [1,0] fun G=>?_))
 refine Zc G rfl (fun hc1=>?_) (fun hc1=>?_)
 ·skip
  have hjl:j<l.length:=by simp at hc1;omega
  have hnj:Nn l1 j=(Nn l j):=hrest j (YN _) hjl
  have hfs:=ZcD (p:=fun x=>!p x) hjl
  refine Ye (Za (Ya (Yg (Ya (Ze G (qR rr (qR rr (qf (o_indexAddr_row (sz:=1) 1 (.mk underlying45 kr) .is .t ow ow (by rfl)) r2 r1 (qf (Zt (ag:=false) (sz':=1) (sz:=1) 1 .t (by intro x;rfl) ow kr kr kr) r1 r1 (qO rr qZ))))) V [7,6,5,4,1,0] [1,0] rfl rfl fun a w F G=>?_)))))
  try simp only [Yb] at G
  rw [hnj] at G
  refine Za (Ya (rZ G (qR rr (qR rr (qf (ZO (avs:=[.int .i64 (Nn l j)]) .t (hw (Nn l j)) hf hb hnn (Args.one .t)) r2 qz (qf (o_not .t) r1 qz qZ)))) V [29,7,6,5,4,1,0] [1,0] fun G=>?_))
  refine Zc G rfl (fun hc2=>?_) (fun hc2=>?_)
  ·skip
   have hp:p (Nn l j)=false:=by simpa using hc2
   obtain ⟨i2,hi2e⟩:∃ i2,i2=i+1:=⟨_,rfl⟩
   have hi2:IntKind.wrap .i64 ((i:Int)+1)=(i2:Int):=by rw [hi2e];exact Zd ow
   obtain ⟨l2,hl2⟩:∃ l2,l2=l1.set i (Nn l j):=⟨_,rfl⟩
   have hC2:i2<j+1∧j+1≤l.length∧l2.length=l.length∧l2.take i2=(l.take (j+1)).filter (fun x=>!p x) ∧ ∀ k,j+1≤k→k<l.length→Nn l2 k=Nn l k:=⟨by omega,by omega,by rw [hl2,YL];exact hll1,by rw [hl2,hi2e,hfs,hp,← htk,Zp (by rw [YL];omega),YbG (YN _),nth_eq (by rw [YL];omega),Ybc];rfl,fun k hk hk2=>by rw [hl2,nth_eq (by rw [YL];omega),YbH ow,← nth_eq ow];exact hrest k ow hk2⟩
   refine Ya (Ze G (qR rr (qR rr (qR rr (qf (o_indexAddr_row (sz:=1) 1 (.mk underlying45 kr) .is .t ow ow (by rfl)) r2 r1 (qf (ZH (R:=Zn) (sz:=1) (v:=(Nn l j)) 1 .t (by intro x;rfl) ow .t rfl one_int kr) r2 r1 qZ))))) V [6,5,4,1,0] [1,0] rfl rfl fun a w F G=>?_)
   try simp only [Yb] at G
   rw [← hl2] at G
   refine Za (Ze G (qR rr (qp r1 (qO rr qZ))) V [6,5,4,1,0] [1,0] rfl rfl fun a w F G=>Zh (Za ?_))
   refine rZ G (qR rr (qp r1 (qO rr qZ))) V [6,5,4,1,0] [1,0] fun G=>?_
   have hmu:l.length - (j+1)<l.length - j:=by omega
   replace G:=G.ent (i:=5) (s':=.pv (.int .i64 (i2:Int))) rfl (.int hi2)
   replace G:=G.ent (i:=6) (s':=.pv (.int .i64 ((j+1:Nat):Int))) rfl (.int (Zd ow))
   obtain ⟨F,G⟩:=G.nM [4,1,0,6,5] [0,1]
   exact ⟨((i2),(j+1),(l2)),F,hC2,G,hmu⟩
  have hp:p (Nn l j)=true:=by simpa using hc2
  obtain ⟨i2,hi2e⟩:∃ i2,i2=i:=⟨_,rfl⟩
  have hi2:(i:Int)=(i2:Int):=by rw [hi2e]
  obtain ⟨l2,hl2⟩:∃ l2,l2=l1:=⟨_,rfl⟩
  rw [← hl2] at G
  have hC2:i2<j+1∧j+1≤l.length∧l2.length=l.length∧l2.take i2=(l.take (j+1)).filter (fun x=>!p x) ∧ ∀ k,j+1≤k→k<l.length→Nn l2 k=Nn l k:=⟨by omega,by omega,by rw [hl2];exact hll1,by rw [hl2,hi2e,hfs,hp,htk];simp,fun k hk hk2=>by rw [hl2];exact hrest k ow hk2⟩
  refine Ye (Zh (Za (rZ G (qR rr (qp r1 (qO rr qZ))) V [6,5,4,1,0] [1,0] fun G=>?_)))
  have hmu:l.length - (j+1)<l.length - j:=by omega
  replace G:=G.ent (i:=5) (s':=.pv (.int .i64 (i2:Int))) rfl (.int hi2)
  replace G:=G.ent (i:=6) (s':=.pv (.int .i64 ((j+1:Nat):Int))) rfl (.int (Zd ow))
  obtain ⟨F,G⟩:=G.nM [4,1,0,6,5] [0,1]
  exact ⟨((i2),(j+1),(l2)),F,hC2,G,hmu⟩
 have hjl:j=l.length:=by simp at hc1;omega
 have hil2:i<l.length:=by omega
 have hg:(l.filter fun x=>!p x)=(l1.take i++List.replicate (l1.length - i) (0:Int)).take i:=by rw [YS (by rw [Yi];omega),YaJ,YbX,htk,hjl,Yz]
 refine Yv (Zi (Zi (Zo (Za (Ya (rZ G (qR rr (qR rr (qf (Zak (sz:=1) 1 (.mk underlying45 kr) .is .t ow ow) r2 r1 (qf (ZbO (R:=Zn) (z:=(0:Int)) (zs:=[.int .i64 0]) 1 underlying45 kr rfl rfl (fun _ _=>⟨⟨rfl,rfl,ZcY⟩,tv⟩) (by intro x;rfl) .t (by simp;omega)) r1 r1 qZ)))) V [5,4,0] [1,0] fun G=>Ya ?_))))))
 refine Zb G (qR rr (qR rr (qf (ZbE (sz:=1) 1 (.mk underlying45 kr) (by intro x;rfl) .is .t ow (by simp;omega)) r2 r1 (qO rr qZ)))) V [4] [1,0] (fun _=>rfl) (fun _=>rfl) fun τ a w F G=>?_
 try dsimp only [RS.sub,SF.sub,CF.sub,csub,Anc.sub,List.map,Zn] at G
 generalize τ 41=v41 at G
 refine Za (Yh ?_)
 have G:=G.turn 1 rfl (r':=RS.hp (Zu 3 1 Zn (l.filter fun x=>!p x) v41)) (fun _ _ _ _ h=>by rw [hg];exact h)
 refine Z2 (h':=fun v=>Zu 3 1 Zn (l.filter fun x=>!p x) v) hG G rfl (.tmp rfl .nil) (.one .one) rfl
end Go.Proofs.YtlkpllemoepamaaGreat
