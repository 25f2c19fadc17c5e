/- Texts put together. No condition beyond those that each theorem says. -/
import Derived.Test.YtlkpllemoepamaaGreatLibW
import Derived.Test.YtlkpllemoepamaaGreatLibL
import Derived.Test.YtlkpllemoepamaaGreatLibE
import Derived.Laws.BitsLemmas
import Derived.Laws.MathBits
import Derived.Shelf.Sort.Plain
import Derived.Shelf.Slices.In.SortNone
namespace Go.Proofs.YtlkpllemoepamaaGreat
open Go Go.Gm Tryz
set_option linter.unusedVariables false
set_option linter.unusedSimpArgs false
set_option maxHeartbeats 4000000
set_option maxRecDepth 8000
theorem Zy {x:Int} (h : -9223372036854775808≤x∧x≤9223372036854775807):IntKind.wrap .i64 x=x:=ZfX ⟨by simp [IntKind.min,IntKind.signed,IntKind.bits];omega,by simp [IntKind.max,IntKind.signed,IntKind.bits];omega⟩
theorem Zd {i:Nat} (h:i<9223372036854775807):IntKind.wrap .i64 ((i:Int)+1)=((i+1:Nat):Int):=by rw [Zy ow];omega
theorem Zal {x:Int} (h:0≤x∧x≤18446744073709551615):IntKind.wrap .u64 x=x:=ZfX ⟨by simp [IntKind.min,IntKind.signed,IntKind.bits];omega,by simp [IntKind.max,IntKind.signed,IntKind.bits];omega⟩
theorem Zaf (x:Int):IntKind.wrap .u64 x=x % 18446744073709551616:=by simp [IntKind.wrap,IntKind.bits,IntKind.signed]
theorem Zn6 {x:Int} (h:inR .i64 x) : -9223372036854775808≤x∧x≤9223372036854775807:=by simpa [inR,IntKind.min,IntKind.max,IntKind.signed,IntKind.bits] using h
theorem ZfH {x:Int} (h:inR .u64 x):0≤x∧x≤18446744073709551615:=by simpa [inR,IntKind.min,IntKind.max,IntKind.signed,IntKind.bits] using h
theorem Sat.lenSl {α:Type} {R:α→List PV} {B:Zbh} {E:En} {a:Act} {w:World} {F:Fp} (h:Sat B E a w F) {i:Nat} {l:List α} (hl:Go.Gm.look E.s i=some (SF.pv (PV.sl R l))):l.length≤9223372036854775807:=by
 obtain ⟨_,cap,_,h1,h2,_⟩:=h.s i _ hl
 unfold maxLen at h2
 omega
def rInt (n:Int):List PV:=[.int .i64 n]
theorem Za5.any {ss:List SF} : Za5 ss .any:=fun _ _ _ _ _=>trivial
theorem Zan {α:Type} [Inhabited α] {x y:List α} (hl:x.length=y.length) (h:∀ j,j<x.length→Nn x j=Nn y j):x=y:=by
 apply Ya0 hl
 intro j h1 h2
 have:=h j h1
 rwa [nth_eq h1,nth_eq h2] at this
theorem ZmZ {α:Type} [Inhabited α] {q:List α} {k:Nat} (h:k<q.length):q.take k ++ [Nn q k] = q.take (k+1):=by
 rw [nth_eq h,List.take_succ_eq_append_getElem h]
theorem nth_mem {α:Type} [Inhabited α] {q:List α} {k:Nat} (h:k<q.length):Nn q k ∈ q:=by rw [nth_eq h];exact Ybm h
theorem ZrW {α:Type} [Inhabited α] {l:List α} {i:Nat} (h:i<l.length):l.drop i=Nn l i :: l.drop (i+1):=by rw [nth_eq h];exact YaU h
theorem Zr {α:Type} [Inhabited α] {l:List α} {i:Nat} (h:i<l.length):l.take (i+1)=l.take i ++ [Nn l i]:=(ZmZ h).symm
theorem Ent.adr0 {b:Nat} : Ent (.adr (.val (.pointer (some ⟨b,0,none⟩))) 0) (.pv (.is (.pointer (some ⟨b,0,none⟩)))):=fun _ _ _ _ h=>by
 have e:_=Value.pointer (some ⟨b,0,none⟩):=h
 exact ⟨e,by rw [e];rfl⟩
def Zub (v rv:Value) (room:Int) (l:List Int):List RS:=[.pt (.val v) 271 [.pv (.is rv),.pv (.int .i64 room)],.ob (.val rv) (ZA 3 1 rInt l)]
def stH (v:Value) (room:Int) (l:List Int):HP:=.ex fun rv:Value=>.star (Zub v rv room l)
def ZbO (n:Int):Int:=if 65536<(if n<0 then 0 else n) then 65536 else (if n<0 then 0 else n)
theorem ZfO {n:Int} (h:0≤n∧n≤65536):ZbO n=n:=by unfold ZbO;rw [Yc (show ¬ n<0 by omega),Yc ow]
theorem Zni (n:Int):0≤ZbO n∧ZbO n≤65536:=by unfold ZbO;split <;> split <;> omega
def Zqn (room:Int) (l:List Int):Int:=if room - l.length=0 then 2 else 0
def Zl5 (room:Int) (l:List Int) (x:Int):List Int:=if room - l.length=0 then l else l ++ [x]
theorem Zeg {v:Value} {room:Int} {l:List Int} {w:World} {f y:Ys} (h:(stH v room l).p w f y):∃ b,v = .pointer (some ⟨b,0,none⟩):=by
 obtain ⟨rv,g⟩:=h
 exact HP.star_pt g
theorem Zi3 {room:Int} {l:List Int} (h:(l.length:Int)<room) (x:Int):Zqn room l=0∧Zl5 room l x=l ++ [x]:=⟨Yc ow,Yc ow⟩
theorem nth_last {α:Type} [Inhabited α] {l:List α} {x:α} : Nn (l ++ [x]) l.length=x:=by rw [nth_eq (by simp)];simp
theorem Zhm {k:IntKind} {a:Int} {b:Bool} (v:Value) (w:World) (y:Ys) (w':World) (y':Ys) (h:(PV.tup [.int k a,.bool b]).p v w y):(PV.tup [.int k a,.bool b]).p v w' y':=by
 obtain ⟨vs,e,h⟩:=h
 exact ⟨vs,e,by
  match vs,h with
  | [u1,u2],h=>exact h⟩
theorem Zlw (n:Int):FnP prog 199 [.int .i64 n] (.int .i64 (ZbO n)):=by
 refine FnP.mk func199 rfl ntmps199 rfl fun B a w F V hfr G=>Ya ?_
 refine rZ G (qI qZ) V [2,0] [0] fun G=>Ya ?_
 refine rZ G (qR rr (qf (ZnR .t qi) r1 qz (qf (o_min .t qi) r1 qz (qO rr qZ)))) V [2] [0] fun G=>Yh ?_
 refine Zo hfr G rfl rfl rfl .refl
theorem Zuh (n:Int):FnG prog 161 1 [.int .i64 n] [.star []] (PV.ptr) (fun v=>[stH v (ZbO n) []]):=by
 refine FnG.mk func161 rfl ntmps161 rfl kr fun B F0 a w F V hG G=>Ya ?_
 refine rZ G (qC qZ) V [2,0] [1,0] fun G=>Ya ?_
 refine Zb G (qR rr (qf (oP (Zlw n) func199 (Args.one .t)) r1 qz (qf (oB [(1,.tmp 4)] [.slice none 0 0,.int .i64 0] [(0,1),(1,1)] (.one rfl .t one_int kr .nil)) r1 qz (qf (oX 101 .t) r1 qz (qO rr qZ))))) V [2] [101,1,0] (fun _=>rfl) (fun _=>rfl) fun τ a w F G=>?_
 try dsimp only [RS.sub,SF.sub,CF.sub,csub,Anc.sub,List.map,Ze,xL,xM,Nat.reduceAdd,xD,xE,xT,xU,xC,xN,zCF,rInt] at G
 generalize τ 6=v6 at G
 refine Za (Yh ?_)
 obtain ⟨b,rfl⟩:=G.shape 101 rfl
 have G:=G.fresh 3 rfl
 have G:=G.turn 3 rfl (ZaA (T:=3) (sz:=1) (R:=rInt))
 obtain ⟨F,G⟩:=G.push 1 3 rfl rfl rfl kr
 obtain ⟨F,G⟩:=G.push 1 101 rfl rfl rfl kr
 have G:=G.turn 1 rfl (r':=RS.hp (stH (.pointer (some ⟨b,0,none⟩)) (ZbO n) [])) (fun _ _ _ _ h=>⟨_,h⟩)
 refine Z8 (h':=fun v=>stH v (ZbO n) []) hG G rfl (.tmp rfl .nil) (.one .ptr) rfl
theorem ZtI (room:Int) (l:List Int):FnP prog 253 [.ref [.sl rInt l,.int .i64 room]] (.int .i64 l.length):=by
 refine FnP.mk func253 rfl ntmps253 rfl fun B a w F V hfr G=>Ya ?_
 refine rZ G (qI qZ) V [2,0] [0] fun G=>(Ya (Ya ?_))
 refine rZ G (qR rr (qf (Zb3 underlying227 .t) r1 qz qZ)) V [4,2,0] [0] fun G=>?_
 refine Zc G rfl (fun hc0=>?_) (fun hc0=>?_)
 ·simp at hc0
 refine Ye (Za (Ya (rZ G (qR rr (qf (ZC .t) r1 qz (qf (oG 0 .t) r1 qz (qf (oG 0 .t) r1 qz (qf (oR false 1 .t) r1 qz (qu underlying45 r1 (qO rr qZ))))))) V [2] [0] fun G=>Yh ?_)))
 refine Zo hfr G rfl rfl rfl .refl
theorem Zrf (room:Int) (l:List Int) (hr:0≤room∧room≤65536) (hn:(l.length:Int)≤room):FnP prog 242 [.ref [.sl rInt l,.int .i64 room]] (.int .i64 (room - l.length)):=by
 refine FnP.mk func242 rfl ntmps242 rfl fun B a w F V hfr G=>Ya ?_
 refine rZ G (qI qZ) V [2,0] [0] fun G=>(Ya (Ya ?_))
 refine rZ G (qR rr (qf (Zb3 underlying227 .t) r1 qz qZ)) V [4,2,0] [0] fun G=>?_
 refine Zc G rfl (fun hc0=>?_) (fun hc0=>?_)
 ·simp at hc0
 refine Ye (Za (Ya (Zx G (qR rr (qf (ZC .t) r1 qz (qf (oG 1 .t) r1 qz (qf (oR false 1 .t) r1 qz (qR rr (qf (ZC .t) r1 qz (qf (oG 0 .t) r1 qz (qf (oG 0 .t) r1 qz (qf (oR false 1 .t) r1 qz (qu underlying45 r1 (qf (o_sub .t .t) r2 qz (qO rr qZ)))))))))))) V [2] [0] rfl rfl fun a w F G=>?_)))
 try dsimp only [List.map,xD,xE,xT,xU,ldSF,rInt] at G
 refine Za (Yh (Zo hfr G rfl rfl rfl (.int (Zy ow))))
theorem ZuZ (b:Nat) (room:Int) (l:List Int) (x:Int) (hl:l.length≤70000):FnG prog 243 1 [.is (.pointer (some ⟨b,0,none⟩)),.int .i64 x] [stH (.pointer (some ⟨b,0,none⟩)) room l] (.tup []) (fun _=>[stH (.pointer (some ⟨b,0,none⟩)) room (l ++ [x])]):=by
 refine FnG.mk func243 rfl ntmps243 rfl kr fun B F0 a w F V hG G=>?_
 obtain ⟨rv,G⟩:=G.open_ex 1 rfl
 obtain ⟨F,G⟩:=G.peel 1 2 rfl rfl
 obtain ⟨F,G⟩:=G.peel 1 3 rfl rfl
 obtain ⟨F,G⟩:=G.nM [1,0] [3,2,0]
 refine Zb G (qR rr (qR rr (qf (o_nilCheck 2 .is (by rfl)) r1 r1 (qf (oF 0 2 .adr) r1 r1 (qa 2 r1 r1 (qR rr (qf (o_buildSliceE (sz:=1) (zs:=[.int .i64 0]) (r:=[(0,.tmp 9)]) (l:=[_]) underlying45 kr kr kr kr rfl rfl (.one rfl .t one_int kr .nil) rfl) r1 qz (qf (ZW (sz:=1) (bs:=8) 3 (.mk' underlying45 kr kr) (by intro x;rfl) .is (.arr (l':=[_]) .t) (by simp only [Yl,Yy];omega) (by decide)) ⟨rfl,rfl,tv⟩ ⟨rfl,tv⟩ (qf (o_nilCheck 2 .is (by rfl)) r1 r1 (qf (oF 0 2 .adr) r1 r1 (qf (o_storeS 2 .adr kr kr) r2 r1 qZ))))))))))) V [] [3,2,0] (fun _=>rfl) (fun _=>rfl) fun τ a w F G=>?_
 try dsimp only [RS.sub,SF.sub,CF.sub,csub,Anc.sub,List.map,Ze,xL,xM,Nat.reduceAdd,xD,xE,xT,xU,xC,xN,zCF,ldSF,rInt] at G
 generalize τ 11=v11 at G
 have G:=G.fresh 1 rfl
 obtain ⟨F,G⟩:=G.push 1 3 rfl rfl rfl kr
 obtain ⟨F,G⟩:=G.push 1 2 rfl rfl rfl kr
 have G:=G.turn 1 rfl (r':=RS.hp (stH (.pointer (some ⟨b,0,none⟩)) room (l ++ [x]))) (fun _ _ _ _ h=>⟨_,h⟩)
 refine Zac hG G rfl .nil Za5.none rfl
theorem Zrt (b:Nat) (room:Int) (l:List Int) (x:Int) (hr:0≤room∧room≤65536) (hn:(l.length:Int)≤room):FnG prog 221 1 [.is (.pointer (some ⟨b,0,none⟩)),.int .i64 x] [stH (.pointer (some ⟨b,0,none⟩)) room l] (.int .i64 (Zqn room l)) (fun _=>[stH (.pointer (some ⟨b,0,none⟩)) room (Zl5 room l x)]):=by
 refine FnG.mk func221 rfl ntmps221 rfl kr fun B F0 a w F V hG G=>?_
 obtain ⟨rv,G⟩:=G.open_ex 1 rfl
 obtain ⟨F,G⟩:=G.peel 1 2 rfl rfl
 obtain ⟨F,G⟩:=G.peel 1 3 rfl rfl
 obtain ⟨F,G⟩:=G.nM [1,0] [3,2,0]
 refine Ya (rZ G (qI qZ) V [4,1,0] [3,2,0] fun G=>(Ya (Ya ?_)))
 refine rZ G (qR rr (qf (ZbN (cells:=[.pv (.is rv),.pv _]) 2 3 0 (Zrf room l hr hn) (fun _ _ _ _ _ h=>h) rfl func242 rfl kr rfl rfl (Zab.one .is)) r1 r2 (qf (o_eql .t qi) r1 qz qZ))) V [7,4,1,0] [3,2,0] fun G=>?_
 refine Zc G rfl (fun hc0=>?_) (fun hc0=>?_)
 ·have hf:room - (l.length:Int)=0:=by simpa using hc0
  have hg:2=Zqn room l:=(Yf hf).symm
  have hg2:Zl5 room l x=l:=Yf hf
  refine Ya (rZ G (qI qZ) V [4,1,0] [3,2,0] fun G=>(Yh (Zk ?_)))
  have G:=G.fresh 1 rfl
  obtain ⟨F,G⟩:=G.push 1 3 rfl rfl rfl kr
  obtain ⟨F,G⟩:=G.push 1 2 rfl rfl rfl kr
  have G:=G.turn 1 rfl (r':=RS.hp (stH (.pointer (some ⟨b,0,none⟩)) room (Zl5 room l x))) (fun _ _ _ _ h=>⟨_,(by rw [hg2];exact h)⟩)
  refine Zac hG G rfl (.tmp rfl .nil) (.one (.int (by rw [hg]))) rfl
 have hf:¬ room - (l.length:Int)=0:=by simpa using hc0
 have hg:0=Zqn room l:=(Yc hf).symm
 have hg2:Zl5 room l x=l ++ [x]:=Yc hf
 refine Ye (Za (Ya (Zad 3 G kr (cG rfl (oM .t) r1 trivial (cG rfl (o_nilCheck 2 .is (by rfl)) r1 r1 (cG rfl (oF 0 2 .adr) r1 r1 ChainN.nil))) kr (by rw [V];kernel_rfl) fun a w F G=>?_)))
 obtain ⟨F,G⟩:=G.nM [10,4,1] [3,2,0]
 try dsimp only [rInt] at G
 have G:=G.fresh 1 rfl
 obtain ⟨F,G⟩:=G.push 1 3 rfl rfl rfl kr
 obtain ⟨F,G⟩:=G.push 1 2 rfl rfl rfl kr
 have G:=G.turn 1 rfl (r':=RS.hp (stH (.pointer (some ⟨b,0,none⟩)) room l)) (fun _ _ _ _ h=>⟨_,h⟩)
 obtain ⟨F,G⟩:=G.nM [10,4,1] [1,0]
 refine Zax G kr (cG rfl (oM .t) r1 trivial (cG rfl (ZJ 1 (ZuZ b room l x ow) func243 rfl kr (Args.two (.conv .t (Ent.adr0)) .t)) r2 r1 ChainN.nil)) kr (by rw [V];kernel_rfl) fun a w F G=>?_
 obtain ⟨F,G⟩:=G.nM [4] [1,0]
 try dsimp only [rInt] at G
 refine Za (Ya (rZ G (qI qZ) V [4] [1,0] fun G=>Yh ?_))
 have G:=G.turn 1 rfl (r':=RS.hp (stH (.pointer (some ⟨b,0,none⟩)) room (Zl5 room l x))) (fun _ _ _ _ h=>by rw [hg2];exact h)
 refine Zac hG G rfl (.tmp rfl .nil) (.one (.int (by rw [hg]))) rfl
theorem Zpj (b:Nat) (room:Int) (l:List Int) (x:Int) (hr:0≤room∧room≤65536) (h:(l.length:Int)<room):FnG prog 221 1 [.is (.pointer (some ⟨b,0,none⟩)),.int .i64 x] [stH (.pointer (some ⟨b,0,none⟩)) room l] (.int .i64 0) (fun _=>[stH (.pointer (some ⟨b,0,none⟩)) room (l ++ [x])]):=by
 have:=Zrt b room l x hr ow
 rw [(Zi3 h x).1,(Zi3 h x).2] at this;exact this
theorem Znq (room:Int) (l:List Int) (x:Int) (hl:l.length≤70000):FnP prog 244 [.ref [.sl rInt (l ++ [x]),.int .i64 room]] (.tup [.int .i64 x,.bool true]):=by
 refine FnP.mk func244 rfl ntmps244 rfl fun B a w F V hfr G=>?_
 have hw1:IntKind.wrap .i64 (((l ++ [x]).length:Int) - 1)=((l.length:Nat):Int):=by rw [Zy (by rw [Yd,YK];omega),Yd,YK];omega
 refine Ya (rZ G (qI qB) V [3,2,0] [0] fun G=>(Ya (Ya ?_)))
 refine rZ G (qR rr (qf (oP (ZtI room (l ++ [x])) func253 (Args.one .t)) r1 qz (qf (o_eql .t qi) r1 qz qZ))) V [6,3,2,0] [0] fun G=>?_
 refine Zc G rfl (fun hc0=>?_) (fun hc0=>?_)
 ·simp at hc0;try omega
 refine Ye (Za (Ya (Zx G (qR rr (qf (ZC .t) r1 qz (qf (oG 0 .t) r1 qz (qf (oG 0 .t) r1 qz (qf (oR false 1 .t) r1 qz (qR rr (qf (ZC .t) r1 qz (qf (oG 0 .t) r1 qz (qf (oG 0 .t) r1 qz (qf (oR false 1 .t) r1 qz (qu underlying45 r1 (qf (o_sub .t qi) r1 qz (qf (o_indexAddr_sl (sz:=1) (.mk underlying45 kr) (by intro x;rfl) .t .t (by rw [hw1];omega) (by rw [hw1,Yd,YK];omega)) r2 qz (qf (oR false 1 .t) r1 qz (qO rr qB))))))))))))))) V [3,2] [0] rfl rfl fun a w F G=>?_)))
 try dsimp only [List.map,xD,xE,xT,xU,ldSF,rInt] at G
 try simp only [Yb] at G
 rw [hw1,Yb,nth_last] at G
 refine Za (Yh (Z2 hfr G rfl (.tmp rfl (.tmp rfl .nil)) (.two .refl .refl)))
theorem ZsI (b:Nat) (room:Int) (l:List Int) (x:Int) (hl:l.length≤70000):FnG prog 245 1 [.is (.pointer (some ⟨b,0,none⟩))] [stH (.pointer (some ⟨b,0,none⟩)) room (l ++ [x])] (.tup []) (fun _=>[stH (.pointer (some ⟨b,0,none⟩)) room l]):=by
 refine FnG.mk func245 rfl ntmps245 rfl kr fun B F0 a w F V hG G=>?_
 obtain ⟨rv,G⟩:=G.open_ex 1 rfl
 obtain ⟨F,G⟩:=G.peel 1 2 rfl rfl
 obtain ⟨F,G⟩:=G.peel 1 3 rfl rfl
 obtain ⟨F,G⟩:=G.nM [0] [3,2,0]
 have hw1:IntKind.wrap .i64 (((l ++ [x]).length:Int) - 1)=((l.length:Nat):Int):=by rw [Zy (by rw [Yd,YK];omega),Yd,YK];omega
 refine ZaI G (qR rr (qR rr (qf (o_nilCheck 2 .is (by rfl)) r1 r1 (qf (oF 0 2 .adr) r1 r1 (qa 2 r1 r1 (qR rr (qf (o_nilCheck 2 .is (by rfl)) r1 r1 (qf (oF 0 2 .adr) r1 r1 (qa 2 r1 r1 (qf (Z1 3 underlying45 .is) r1 r1 (qf (o_sub .t qi) r1 qz (qf (ZcV (sz:=1) 3 (.mk underlying45 kr) (by intro x;rfl) .is .t (by rw [hw1];omega) (by rw [hw1,Yd,YK];omega)) r2 r1 (qf (o_nilCheck 2 .is (by rfl)) r1 r1 (qf (oF 0 2 .adr) r1 r1 (qf (o_storeS 2 .adr kr kr) r2 r1 qZ))))))))))))))) V [] [3,2,0] (fun _=>rfl) (fun _=>rfl) fun τ a w F G=>?_
 try dsimp only [RS.sub,SF.sub,CF.sub,csub,Anc.sub,List.map,Ze,xL,xM,Nat.reduceAdd,xD,xE,xT,xU,xC,xN,zCF,ldSF,rInt] at G
 generalize τ 13=v13 at G
 rw [hw1,Yb,List.take_left] at G
 have G:=G.fresh 1 rfl
 obtain ⟨F,G⟩:=G.push 1 3 rfl rfl rfl kr
 obtain ⟨F,G⟩:=G.push 1 2 rfl rfl rfl kr
 have G:=G.turn 1 rfl (r':=RS.hp (stH (.pointer (some ⟨b,0,none⟩)) room l)) (fun _ _ _ _ h=>⟨_,h⟩)
 refine Zac hG G rfl .nil Za5.none rfl
theorem ZsW (b:Nat) (room:Int) (l:List Int) (x:Int) (hl:l.length≤70000):FnG prog 223 1 [.is (.pointer (some ⟨b,0,none⟩))] [stH (.pointer (some ⟨b,0,none⟩)) room (l ++ [x])] (.tup [.int .i64 x,.bool true]) (fun _=>[stH (.pointer (some ⟨b,0,none⟩)) room l]):=by
 refine FnG.mk func223 rfl ntmps223 rfl kr fun B F0 a w F V hG G=>?_
 obtain ⟨rv,G⟩:=G.open_ex 1 rfl
 obtain ⟨F,G⟩:=G.peel 1 2 rfl rfl
 obtain ⟨F,G⟩:=G.peel 1 3 rfl rfl
 obtain ⟨F,G⟩:=G.nM [0] [3,2,0]
 refine Ya (rZ G (qI qB) V [3,2,0] [3,2,0] fun G=>Ya ?_)
 refine rZ G (qR rr (qf (ZbN (cells:=[.pv (.is rv),.pv _]) 2 3 0 (Znq room l x hl) Zhm rfl func244 rfl kr rfl rfl (Zab.one .is)) r1 r2 (qR rr (qf (Zh .t rfl) r1 qz (qf (Zh .t rfl) r1 qz (qO rr (qO rr qZ))))))) V [5,4,3,2,0] [3,2,0] fun G=>(Ya (Ya ?_))
 refine rZ G (qR rr qZ) V [11,5,4,3,2,0] [3,2,0] fun G=>?_
 refine Zc G rfl (fun hc0=>?_) (fun hc0=>?_)
 ·refine Zad 3 G kr (cG rfl (oM .t) r1 trivial (cG rfl (o_nilCheck 2 .is (by rfl)) r1 r1 (cG rfl (oF 0 2 .adr) r1 r1 ChainN.nil))) kr (by rw [V];kernel_rfl) fun a w F G=>?_
  obtain ⟨F,G⟩:=G.nM [14,5,4,3,2] [3,2,0]
  try dsimp only [rInt] at G
  have G:=G.fresh 1 rfl
  obtain ⟨F,G⟩:=G.push 1 3 rfl rfl rfl kr
  obtain ⟨F,G⟩:=G.push 1 2 rfl rfl rfl kr
  have G:=G.turn 1 rfl (r':=RS.hp (stH (.pointer (some ⟨b,0,none⟩)) room (l ++ [x]))) (fun _ _ _ _ h=>⟨_,h⟩)
  obtain ⟨F,G⟩:=G.nM [14,5,4,3,2] [1,0]
  refine Zax G kr (cG rfl (ZJ 1 (ZsI b room l x hl) func245 rfl kr (Args.one (.conv .t (Ent.adr0)))) r1 r1 ChainN.nil) kr (by rw [V];kernel_rfl) fun a w F G=>?_
  obtain ⟨F,G⟩:=G.nM [5,4,3,2] [1,0]
  try dsimp only [rInt] at G
  refine Za (Ya (rZ G (qR rr (qR rr (qO rr (qO rr qZ)))) V [3,2] [1,0] fun G=>Yh ?_))
  refine Zac hG G rfl (.tmp rfl (.tmp rfl .nil)) (.two .refl .refl) rfl
 simp at hc0
def rV (v:Value):List PV:=[.is v]
theorem Zcy {w:World} {y:Ys} : ∀ {rs:List RS} {f:Ys},stars w y rs f → ∀ r ∈ rs,∃ f1:Ys,(∀ b,f1 b→f b)∧r.holds tau0 w f1 y
 | [],f,_,r,h=>by cases h
 | x :: rs,f,⟨f1,f2,h1,h2,h3,h4,h5⟩,r,hr=>by
  rcases Yi.1 hr with rfl | hr
  ·exact ⟨f1,fun b hb=>(h1 b).2 (.inl hb),h4⟩
  ·obtain ⟨g,g1,g2⟩:=Zcy h5 r hr
   exact ⟨g,fun b hb=>(h1 b).2 (.inr (g1 b hb)),g2⟩
structure Z5 where
 kind:Int
 label:Int
 node:Int
 deriving DecidableEq,Inhabited
def Zat (e:Z5):List PV:=[.int .i64 e.kind,.int .i64 e.label,.int .i64 e.node]
def Zas (l:List Z5):List PV:=[.sl Zat l]
def ZmS (p:Value×List Z5):HP:=ZA 217 3 Zat p.2 p.1
def ZeF (hs:List Value) (L:List (List Z5)):List (Value×List Z5):=(List.range hs.length).map fun k=>(Nn hs k,Nn L k)
theorem Zls (hs:List Value) (L:List (List Z5)):(ZeF hs L).length=hs.length:=by unfold ZeF;simp
theorem Zpr {hs:List Value} {L:List (List Z5)} {k:Nat} (h:k<hs.length):(ZeF hs L)[k]? = some (Nn hs k,Nn L k):=by unfold ZeF;simp [h]
theorem Zqf (hs:List Value) (L:List (List Z5)):(ZeF hs L).map (·.1)=hs:=by
 apply Ya0 (by simp [ZeF])
 intro j h1 h2
 simp [ZeF,nth_eq h2]
theorem Zrw {hs:List Value} {L:List (List Z5)} (h:hs.length=L.length):(ZeF hs L).map (·.2)=L:=by
 apply Ya0 (by simp [ZeF,h])
 intro j h1 h2
 simp [ZeF,nth_eq h2]
def Zjo (L:List (List Z5)) (v:Value):HP:=.ex fun hs:List Value=>.and (hs.length=L.length) (.star [.ob (.val v) (ZA 220 1 rV hs),Zr6 ZmS (ZeF hs L)])
theorem Zko {w:World} {y y':Ys} : ∀ {ps:List (Value×List Z5)} {xs:List Value},PVs ((ps.map (·.1)).flatMap rV) xs w y→(∀ p ∈ ps,(PV.sl Zat p.2).p p.1 w y')→PVs ((ps.map (·.2)).flatMap Zas) xs w y'
 | [],[],_,_=>trivial
 | p :: ps,x :: xs,h,k=>by
  have e:x=p.1:=h.1.2.1
  refine ⟨⟨h.1.1,?_⟩,Zko (ps:=ps) h.2 fun q hq=>k q (YB _ hq)⟩
  rw [e];exact k p YaH
 | [],_ :: _,h,_=>h.elim
 | _ :: _,[],h,_=>h.elim
theorem Zh8 {L:List (List Z5)} {v:Value} : Zuq (Zjo L v) v (.sl Zas L):=fun w f y y' ⟨hs,hl,h⟩ hle hf hb=>by
 obtain ⟨f1,g1,g2⟩:=Zcy h (.ob (.val v) (ZA 220 1 rV hs)) (by simp)
 obtain ⟨f2,m1,m2⟩:=Zcy h (Zr6 ZmS (ZeF hs L)) (by simp)
 have hrow:(ZA 220 1 rV hs v).p w f1 y:=g2
 have hfam:stars w y ((ZeF hs L).map fun x=>RS.hp (ZmS x)) f2:=m2
 obtain ⟨xs,k1,k2,k3⟩:=hrow
 obtain ⟨ad,cap,e8,h8,h9,h10⟩:=ZL k1
 rw [hl] at e8 h8
 refine ⟨ad,cap,e8,h8,h9,?_⟩
 rcases h10 with h10 | ⟨b',rfl,h11,h12⟩
 ·exact .inl (YN (by rw [← hl];exact h10))
 ·have hb':f1 b':=(k3 b').2 h11
  refine .inr ⟨b',0,xs,rfl,hf b' (g1 b' hb'),hb b' (g1 b' hb'),h12,?_⟩
  have key:=Zko (y:=y) (y':=y') (ps:=ZeF hs L) (xs:=xs) (w:=w) (by rw [Zqf];exact k2) fun p hp=>by
   obtain ⟨f3,n1,n2⟩:=Zcy hfam (RS.hp (ZmS p)) (Yu.2 ⟨p,hp,rfl⟩)
   exact ZhV w f3 y y' n2 hle (fun b h=>hf b (m1 b (n1 b h))) (fun b h=>hb b (m1 b (n1 b h)))
  rwa [Zrw hl] at key
def ZmQ (O I:List (List Z5)) (n:Nat) (v:Value):HP:=.ex fun ov:Value=>.ex fun iv:Value=>.star [.pt (.val v) 215 [.pv (.is ov),.pv (.is iv),.pv (.int .i64 n)],RS.hp (Zjo O ov),RS.hp (Zjo I iv)]
abbrev Zel (O I:List (List Z5)) (n:Nat):PV:=.ref [.sl Zas O,.sl Zas I,.int .i64 n]
theorem ZeR {O I:List (List Z5)} {n:Nat} {v:Value} : Zuq (ZmQ O I n v) v (Zel O I n):=fun w f y y' ⟨ov,iv,h⟩ hle hf hb=>by
 obtain ⟨f1,g1,g2⟩:=Zcy h (.pt (.val v) 215 [.pv (.is ov),.pv (.is iv),.pv (.int .i64 n)]) (by simp)
 obtain ⟨f2,m1,m2⟩:=Zcy h (RS.hp (Zjo O ov)) (by simp)
 obtain ⟨f3,n1,n2⟩:=Zcy h (RS.hp (Zjo I iv)) (by simp)
 have hO:=Zh8 w f2 y y' m2 hle (fun b k=>hf b (m1 b k)) (fun b k=>hb b (m1 b k))
 have hI:=Zh8 w f3 y y' n2 hle (fun b k=>hf b (n1 b k)) (fun b k=>hb b (n1 b k))
 obtain ⟨b,vs,k1,k2,k3,k4⟩:=g2
 have hb1:f1 b:=(k3 b).2 rfl
 refine ⟨b,0,vs.toList,k1,hf b (g1 b hb1),hb b (g1 b hb1),ZB.mk fun j u hj=>?_,?_⟩
 ·simp only [Y2]
  simp [World.cell?,k2]
  simpa using hj
 ·generalize vs.toList=us at k4
  match us,k4 with
  | [u1,u2,u3],k4=>
   have e1:u1=ov:=k4.1.2.1
   have e2:u2=iv:=k4.2.1.2.1
   refine ⟨⟨k4.1.1,?_⟩,⟨k4.2.1.1,?_⟩,⟨k4.2.2.1.1,k4.2.2.1.2⟩,tv⟩
   ·rw [e1];exact hO
   ·rw [e2];exact hI
structure Zw where
 src:Int
 dst:Int
 kind:Int
 label:Int
 deriving DecidableEq,Inhabited
def Zak (a:Zw):List PV:=[.int .i64 a.src,.int .i64 a.dst,.int .i64 a.kind,.int .i64 a.label]
def endO (x:Zw):Z5:=⟨x.kind,x.label,x.dst⟩
def endI (x:Zw):Z5:=⟨x.kind,x.label,x.src⟩
def ofB (mask kind:Int):Bool:=decide (bits .and .i64 (mask.fdiv (2 ^ min (IntKind.wrap .u64 kind).toNat (IntKind.bits .i64))) 1=1)
def ZaD (n:Nat) (x:Zw):Bool:=(((((decide (0≤x.src∧x.src<n)) && decide (0≤x.dst∧x.dst<n)) && decide (1≤x.kind)) && decide (x.kind≤3)) && decide (0≤x.label)) && decide (x.label≤1048575)
theorem Zcf (O I:List (List Z5)) (m:Nat):FnP prog 158 [Zel O I m] (.int .i64 (O.length:Int)):=by
 refine FnP.mk func158 rfl ntmps158 rfl fun B a w F V hfr G=>Ya ?_
 refine rZ G (qI qZ) V [2,0] [0] fun G=>(Ya (Ya ?_))
 refine rZ G (qR rr (qf (Zb3 underlying167 .t) r1 qz qZ)) V [4,2,0] [0] fun G=>?_
 refine Zc G rfl (fun hc0=>?_) (fun hc0=>?_)
 ·simp at hc0
 refine Ye (Za (Ya (rZ G (qR rr (qf (ZC .t) r1 qz (qf (oG 0 .t) r1 qz (qf (oR false 1 .t) r1 qz (qu underlying213 r1 (qO rr qZ)))))) V [2] [0] fun G=>Yh ?_)))
 refine Zo hfr G rfl rfl rfl .refl
theorem ZdE (O I:List (List Z5)) (m:Nat) (u:Int):FnP prog 194 [Zel O I m,.int .i64 u] (.bool (decide (0≤u∧u<O.length))):=by
 refine FnP.mk func194 rfl ntmps194 rfl fun B a w F V hfr G=>Ya ?_
 refine rZ G qB V [4,1,0] [0] fun G=>Ya ?_
 refine rZ G (qR rr (qf (Zbi .t qi) r1 qz (qR rr (qm rfl rfl rfl rfl (qm rfl rfl rfl rfl (qk rfl (fun h=>oP (Zcf O I m) func158 (Args.one (.w h))) r2 qz (qk rfl (fun h=>Zay (.w h) (.w h)) r3 qz (qf (ZD .t .t) r2 qz (qO rr qZ))))))))) V [4] [0] fun G=>Yh ?_
 refine Zo hfr G rfl rfl rfl (.bool (by by_cases h:0≤u <;> simp [h]))
theorem ZiE (O I:List (List Z5)) (m:Nat) (x:Zw):FnP prog 154 [Zel O I m,.agg (Zak x)] (.bool (ZaD O.length x)):=by
 refine FnP.mk func154 rfl ntmps154 rfl fun B a w F V hfr G=>Ya ?_
 refine Zb G (qx 101 r1 qB) V [4,3,0] [101,0] (fun _=>rfl) (fun _=>rfl) fun τ a w F G=>?_
 try dsimp only [RS.sub,SF.sub,CF.sub,csub,Anc.sub,List.map,zCF,Zat,Zas,rInt,Zak] at G
 generalize τ 3=v3 at G
 refine Za (Ya (rZ G (qR rr (qg 0 101 r1 r1 (qa 101 r1 r1 (qf (oP (ZdE O I m x.src) func194 (Args.two .t .t)) r2 qz (qR rr (qm rfl rfl rfl rfl (qv 1 101 rfl r2 r1 (qw 101 rfl r2 r1 (qk rfl (fun h=>oP (ZdE O I m x.dst) func194 (Args.two (.w h) (.w h))) r3 qz (qf (ZD .t .t) r2 qz (qR rr (qv 2 101 rfl r2 r1 (qw 101 rfl r2 r1 (qk rfl (fun h=>Zbi (.w h) qi) r2 qz (qf (ZD .t .t) r2 qz (qR rr (qv 2 101 rfl r2 r1 (qw 101 rfl r2 r1 (qk rfl (fun h=>Zj3 (.w h) qi) r2 qz (qf (ZD .t .t) r2 qz (qR rr (qv 3 101 rfl r2 r1 (qw 101 rfl r2 r1 (qk rfl (fun h=>Zbi (.w h) qi) r2 qz (qf (ZD .t .t) r2 qz (qR rr (qv 3 101 rfl r2 r1 (qw 101 rfl r2 r1 (qk rfl (fun h=>Zj3 (.w h) qi) r2 qz (qf (ZD .t .t) r2 qz (qO rr qZ))))))))))))))))))))))))))))))) V [4] [0] fun G=>Yh ?_))
 refine Zo hfr G rfl rfl rfl (.bool (by unfold ZaD;simp))
theorem Zkn (x:Zw):FnP prog 156 [.agg (Zak x)] (.tup [.agg (Zat (endO x)),.agg (Zat (endI x))]):=by
 refine FnP.mk func156 rfl ntmps156 rfl fun B a w F V hfr G=>Ya ?_
 refine Zb G (qx 101 r1 (qf (oH [.int .i64 0,.int .i64 0,.int .i64 0] 102) trivial qz (qf (oH [.int .i64 0,.int .i64 0,.int .i64 0] 103) trivial qz qZ))) V [3,2,1] [103,102,101,0] (fun _=>rfl) (fun _=>rfl) fun τ a w F G=>?_
 try dsimp only [RS.sub,SF.sub,CF.sub,csub,Anc.sub,List.map,zCF,Zat,Zas,rInt,Zak] at G
 generalize τ 1=v1 at G
 generalize τ 2=v2 at G
 generalize τ 3=v3 at G
 refine Za (Ya (Zx G (qg 2 101 r1 r1 (qa 101 r1 r1 (qg 3 101 r1 r1 (qa 101 r1 r1 (qg 1 101 r1 r1 (qa 101 r1 r1 (qf (oB [(0,.tmp 5),(1,.tmp 7),(2,.tmp 9)] [.int .i64 0,.int .i64 0,.int .i64 0] [(0,1),(1,1),(2,1)] (.one rfl .t one_int kr (.one rfl .t one_int kr (.one rfl .t one_int kr .nil)))) r3 qz (qg 2 101 r1 r1 (qa 101 r1 r1 (qg 3 101 r1 r1 (qa 101 r1 r1 (qg 0 101 r1 r1 (qa 101 r1 r1 (qf (oB [(0,.tmp 12),(1,.tmp 14),(2,.tmp 16)] [.int .i64 0,.int .i64 0,.int .i64 0] [(0,1),(1,1),(2,1)] (.one rfl .t one_int kr (.one rfl .t one_int kr (.one rfl .t one_int kr .nil)))) r3 qz (qs 3 102 r2 r1 (qs 3 103 r2 r1 qZ)))))))))))))))) V [3,2] [103,102,0] rfl rfl fun a w F G=>?_))
 try dsimp only [List.map,Ze,xL,xM,Nat.reduceAdd,xD,xE,xT,xU,xC,xN,zCF,ldSF,Zat,Zas,rInt,Zak] at G
 refine Za (Yh (Z2 hfr G rfl (.cl 102 true 3 rfl rfl (.cl 103 true 3 rfl rfl .nil)) (.two (.aggU rfl rfl) (.aggU rfl rfl))))
theorem Zsr (mask kind:Int):FnP prog 210 [.int .i64 mask,.int .i64 kind] (.bool (ofB mask kind)):=by
 refine FnP.mk func210 rfl ntmps210 rfl fun B a w F V hfr G=>Ya ?_
 refine rZ G qB V [4,1,0] [0] fun G=>Ya ?_
 refine rZ G (qR rr (qR rr (qf (o_conv underlying162 kr .t) r1 qz (qf (Zcl .t .t  (by rw [Zaf];omega)) r2 qz (qf (o_and .t qi) r1 qz (qf (o_eql .t qi) r1 qz (qO rr qZ))))))) V [4] [0] fun G=>Yh ?_
 refine Zo hfr G rfl rfl rfl (.bool rfl)
theorem Ztd (x:Int):IntKind.wrap .u8 x=x % 256:=by simp [IntKind.wrap,IntKind.bits,IntKind.signed]
def Zfv (s:List UInt8):Nat:=s.foldl (fun a c=>a*10+(c.toNat - 48)) 0
theorem ZjU {x:Int} (h:0≤x∧x≤18446744073709551615):bits .and .u64 x 4294967295=x % 4294967296:=by
 obtain ⟨X,rfl⟩:=Yac h.1
 have h1:(BitVec.ofInt 64 (X:Int)).toNat=X:=by rw [YaI];omega
 have h2:(BitVec.ofInt 64 (4294967295:Int)).toNat=2 ^ 32 - 1:=by decide
 show IntKind.wrap .u64 (((BitVec.ofInt 64 (X:Int) &&& BitVec.ofInt 64 4294967295).toNat:Nat):Int)=_
 rw [Ybo,h1,h2,YaT,Zaf]
 omega
theorem ZuF {x:Int} : x.fdiv (2 ^ min (32:Int).toNat (IntKind.bits .u64))=x / 4294967296:=by
 rw [YaR _ (by decide)]
 rfl
theorem Zt8 (x y:Int):FnP prog 255 [.int .u64 x,.int .u64 y] (.tup [.int .u64 (x*y / 18446744073709551616),.int .u64 (x*y % 18446744073709551616)]):=by
 refine FnP.mk func255 rfl ntmps255 rfl fun B a w F V hfr G=>?_
 have hx:=ZfH (G.range (i:=0) rfl)
 have hy:=ZfH (G.range (i:=1) rfl)
 have h3:∀ {z:Int},0≤IntKind.wrap .u64 z∧IntKind.wrap .u64 z≤18446744073709551615:=fun {z}=>ZfH (ZbM _ _)
 refine Ya (rZ G (qI (qI qZ)) V [5,4,1,0] [0] fun G=>Ya ?_)
 refine rZ G (qR rr (qf (o_and .t qi) r1 qz (qO rr qZ))) V [6,5,4,1,0] [0] fun G=>Ya ?_
 refine rZ G (qR rr (qf (Zcl .t qi (by decide)) r1 qz (qO rr qZ))) V [7,6,5,4,1,0] [0] fun G=>Ya ?_
 refine rZ G (qR rr (qf (o_and .t qi) r1 qz (qO rr qZ))) V [8,7,6,5,4,1,0] [0] fun G=>Ya ?_
 refine rZ G (qR rr (qf (Zcl .t qi (by decide)) r1 qz (qO rr qZ))) V [9,8,7,6,5,4,1,0] [0] fun G=>Ya ?_
 refine rZ G (qR rr (qR rr (qf (ZlS .t .t) r2 qz (qO rr qZ)))) V [10,9,8,7,6,5,4,1,0] [0] fun G=>Ya ?_
 refine rZ G (qR rr (qR rr (qf (ZlS .t .t) r2 qz (qR rr (qf (Zcl .t qi (by decide)) r1 qz (qf (o_add .t .t) r2 qz (qO rr qZ))))))) V [11,9,7,6,5,4,1,0] [0] fun G=>Ya ?_
 refine rZ G (qR rr (qf (o_and .t qi) r1 qz (qO rr qZ))) V [12,11,9,7,6,5,4,1,0] [0] fun G=>Ya ?_
 refine rZ G (qR rr (qf (Zcl .t qi (by decide)) r1 qz (qO rr qZ))) V [13,12,9,7,6,5,4,1,0] [0] fun G=>Ya ?_
 refine rZ G (qR rr (qR rr (qR rr (qf (ZlS .t .t) r2 qz (qf (o_add .t .t) r2 qz (qO rr qZ)))))) V [13,12,9,7,5,4,1,0] [0] fun G=>Ya ?_
 refine rZ G (qR rr (qR rr (qf (ZlS .t .t) r2 qz (qR rr (qf (o_add .t .t) r2 qz (qR rr (qf (Zcl .t qi (by decide)) r1 qz (qf (o_add .t .t) r2 qz (qO rr qZ))))))))) V [5,4,1,0] [0] fun G=>Ya ?_
 refine rZ G (qR rr (qR rr (qf (ZlS .t .t) r2 qz (qO rr qZ)))) V [5,4] [0] fun G=>Yh ?_
 refine Z2 hfr G rfl (.tmp rfl (.tmp rfl .nil)) (.two (.int (by simp only [ZuF,ZjU hx,ZjU hy,ZjU h3];simp only [Zaf];exact mul64_arith x y hx.1 ow hy.1 ow)) (.int (by rw [Zaf])))
structure Zod where
 key:Int
 val:Int
 deriving DecidableEq,Inhabited
section
variable {out t T:List Zod} {k x:Int} {e:Zod} {d:Bool}
end
def ZZ (v:Int):List Int→Int
 | []=>-1
 | x :: l=>if x=v then 0 else if ZZ v l<0 then -1 else ZZ v l+1
theorem ZdU {v:Int} : ∀ {l:List Int},(∀ k,k<l.length→Nn l k≠v)→ZZ v l = -1
 | [],_=>rfl
 | x :: l,h=>by
  have h0:x≠v:=h 0 (by simp)
  rw [ZZ,Yc h0,ZdU (l:=l) fun k hk=>by have:=h (k+1) (by simpa using hk);exact this,Yf (by decide)]
theorem Zhk {v:Int} : ∀ {l:List Int} {i:Nat},i<l.length→Nn l i=v→(∀ k,k<i→Nn l k≠v)→ZZ v l=i
 | [],i,h,_,_=>by simp at h
 | x :: l,0,_,h,_=>by rw [ZZ,Yf (show x=v from h)];rfl
 | x :: l,i+1,h,h1,h2=>by
  have h0:x≠v:=h2 0 ow
  have:=Zhk (l:=l) (i:=i) (by simpa using h) h1 fun k hk=>h2 (k+1) ow
  rw [ZZ,Yc h0,this,Yc ow];omega
theorem ZcA {v:Int} {l:List Int} (h:v ∈ l):∃ i:Nat,ZZ v l=i∧i<l.length∧Nn l i=v ∧ ∀ k,k<i→Nn l k≠v:=by
 induction l with
 | nil=>cases h
 | cons x l ih=>
  by_cases hx:x=v
  ·exact ⟨0,by rw [ZZ,Yf hx];rfl,by simp,hx,fun k hk=>absurd hk (YX k)⟩
  ·obtain ⟨i,h1,h2,h3,h4⟩:=ih (by rcases Yi.1 h with h | h;exact absurd h.symm hx;exact h)
   refine ⟨i+1,by rw [ZZ,Yc hx,h1,Yc ow];omega,by simpa using h2,h3,fun k hk=>?_⟩
   cases k with
   | zero=>exact hx
   | succ k=>exact h4 k ow
theorem Zg9 {v:Int} {l:List Int} (h:v ∉ l):ZZ v l = -1:=ZdU fun k hk e=>h (e ▸ nth_mem hk)
theorem ZgL (v:Int) (l:List Int) : -1≤ZZ v l∧ZZ v l<l.length:=by
 by_cases h:v ∈ l
 ·obtain ⟨i,h1,h2,_⟩:=ZcA h
  omega
 ·rw [Zg9 h];omega
theorem Zlm {v:Int} {l:List Int} : 0≤ZZ v l ↔ v ∈ l:=by
 constructor
 ·intro h
  by_cases hm:v ∈ l
  ·exact hm
  ·rw [Zg9 hm] at h;omega
 ·intro h
  obtain ⟨i,h1,_⟩:=ZcA h
  omega
def Zhg (l:List Int) (j x:Int):List Int:=if 0≤j∧j≤l.length then l.take j.toNat++x :: l.drop j.toNat else l
def ZfB (l:List Int):Prop:=(∀ x ∈ l,1≤x∧x≤1048575)∧l.Nodup
instance (l:List Int):Decidable (ZfB l):=by unfold ZfB;exact inferInstance
theorem ZfB.take {l:List Int} (h:ZfB l) (i:Nat):ZfB (l.take i):=⟨fun x hx=>h.1 x (YaS hx),h.2.sublist (List.take_sublist i l)⟩
def leI (x y:Int):Bool:=decide (x≤y)
theorem Zo2 {a b:List Int} : a.mergeSort leI=b.mergeSort leI ↔ a.Perm b:=by
 constructor
 ·intro h
  exact (YaW a leI).symm.trans (h ▸ YaW b leI)
 ·intro h
  have hs:∀ l:List Int,List.Pairwise (fun x y=>x≤y) (l.mergeSort leI):=fun l=>by
   have:=List.pairwise_mergeSort (le:=leI) (fun a b c h1 h2=>by simp [leI] at *;omega) (fun a b=>by simp [leI];omega) l
   exact this.imp fun h=>by simpa [leI] using h
  exact List.Perm.eq_of_pairwise (fun x y _ _ h1 h2=>Int.le_antisymm h1 h2) (hs a) (hs b) (((YaW a leI).trans h).trans (YaW b leI).symm)
def ZdQ (l:List Int) (tx:Int):Int×Bool:=
 if tx≠0∧ZZ tx l<0 then (0,false) else
 if (l.length:Int)≤(if tx=0 then -1 else ZZ tx l)+1 then (0,false) else (Nn l ((if tx=0 then -1 else ZZ tx l)+1).toNat,true)
def Zp6 (l:List Int) (tx:Int):List Int:=l.filter fun x=>decide (x≠tx)
def Zar (l:List Int) (tx place:Int):List Int×Int:=if ZZ tx l<0 then ([],3) else if ¬ (0≤place∧place<l.length) then ([],1) else (Zhg (l.eraseIdx (ZZ tx l).toNat) place tx,0)
theorem Zr2 {l:List Int} {i p:Nat} {x:Int} (hi:i<p) (hp:p<l.length) :
  ((l.take i++(l.drop (i+1)).take (p - i))++l.drop p).set p x=Zhg (l.eraseIdx i) p x:=by
 have e1:(l.take i++(l.drop (i+1)).take (p - i)).length=p:=by simp;omega
 unfold Zhg
 rw [Yf ⟨by omega,by rw [List.length_eraseIdx,Yf ow];omega⟩,Yb]
 rw [List.set_append_right _ _ ow,e1,Nat.sub_self]
 rw [YaU hp,List.set_cons_zero,List.eraseIdx_eq_take_drop_succ]
 congr 1
 ·rw [YbE,YaM,Nat.min_eq_right ow,Yj,Yav ow]
 ·congr 1
  have e3:(l.take i).drop p = []:=List.drop_eq_nil_of_le (by rw [Yj];omega)
  rw [YbF,Yj,Yav ow,e3,Yad,YbG]
  congr 1;omega
theorem ZqI {l:List Int} {i p:Nat} {x:Int} (hi:p≤i) (hp:i<l.length) :
  ((l.take (p+1)++(l.drop p).take (i - p))++l.drop (i+1)).set p x=Zhg (l.eraseIdx i) p x:=by
 unfold Zhg
 rw [Yf ⟨by omega,by rw [List.length_eraseIdx,Yf ow];omega⟩,Yb]
 rw [YJ,List.set_append_left _ _ (by simp;omega),List.take_succ_eq_append_getElem ow,List.set_append_right _ _ (by simp;omega)]
 rw [List.eraseIdx_eq_take_drop_succ]
 have e1:p - (l.take p).length=0:=by simp;omega
 rw [e1]
 simp only [List.set_cons_zero,YJ,Yap]
 congr 1
 ·rw [YbE,YaM,Yav ow,Yj]
  simp [show p - min i l.length=0 by omega]
 ·congr 1
  rw [YbF,Yj,Yav ow,show p - i=0 by omega,List.drop_zero,Yb0]
def ZnF (a b:List Int):Prop:=ZfB a∧ZfB b∧a.Perm b
instance (a b:List Int):Decidable (ZnF a b):=by unfold ZnF;exact inferInstance
theorem Zh3 {v:Int} {l:List Int} (h:v ∈ l):l.eraseIdx (ZZ v l).toNat=l.erase v:=by
 induction l with
 | nil=>cases h
 | cons x l ih=>
  by_cases hx:x=v
  ·subst hx
   rw [ZZ,Yf rfl];simp
  ·have hm:v ∈ l:=by rcases Yi.1 h with h | h;exact absurd h.symm hx;exact h
   obtain ⟨i,h1,h2,_⟩:=ZcA hm
   rw [ZZ,Yc hx,Yc ow,h1,List.erase_cons_tail (by simpa using hx),← ih hm,h1]
   rw [show ((i:Int)+1).toNat=i+1 by omega,Yb,List.eraseIdx_cons_succ]
theorem Zm3 {l:List Int} {j x:Int} (h:0≤j∧j≤l.length):(Zhg l j x).Perm (x :: l):=by
 unfold Zhg
 rw [Yf h]
 have:=(List.perm_middle (a:=x) (l₁:=l.take j.toNat) (l₂:=l.drop j.toNat))
 rwa [Yas] at this
theorem Zp9 {l:List Int} {tx place:Int} (h:tx ∈ l) (hp:0≤place∧place<l.length):Zar l tx place=(Zhg (l.erase tx) place tx,0):=by
 unfold Zar
 rw [Yc (by have:=Zlm.2 h;omega),Yc (by simpa using hp),Zh3 h]
theorem ZlV {l:List Int} {tx place:Int} (h:tx ∈ l) (hp:0≤place∧place<l.length):(Zar l tx place).1.Perm l:=by
 rw [Zp9 h hp]
 have hl:(l.erase tx).length=l.length - 1:=List.length_erase_of_mem h
 exact (Zm3 ow).trans (List.perm_cons_erase h).symm
def ZiZ:Go.Shelf.Ren:=⟨fun | 189=>92 | 125=>142 | 257=>141 | 128=>189 | 129=>190 | 294=>180 | 295=>181 | 296=>182 | 297=>183 | 298=>184 | 299=>185 | 216=>186 | 300=>187 | 301=>188 | 328=>212 | 329=>213 | 330=>214 | 331=>215 | 332=>216 | 215=>151 | 343=>240 | n=>n,fun | 28=>45 | 3=>3 | 46=>162 | 0=>0 | 51=>260 | 53=>175 | 4=>4 | 183=>253 | 182=>252 | 131=>43 | 5=>5 | 9=>9 | 218=>290 | 222=>294 | 228=>309 | 229=>107 | n=>n,fun  | n=>n⟩
theorem ZkG:Lays.n189 prog ZiZ where
 mixed:=by kernel_rfl
 f125:=func142.trans (Y7 some kr)
 f128:=func189.trans (Y7 some kr)
 f129:=func190.trans (Y7 some kr)
 f189:=func92.trans (Y7 some kr)
 f215:=func151.trans (Y7 some kr)
 f216:=func186.trans (Y7 some kr)
 f257:=func141.trans (Y7 some kr)
 f294:=func180.trans (Y7 some kr)
 f295:=func181.trans (Y7 some kr)
 f296:=func182.trans (Y7 some kr)
 f297:=func183.trans (Y7 some kr)
 f298:=func184.trans (Y7 some kr)
 f299:=func185.trans (Y7 some kr)
 f300:=func187.trans (Y7 some kr)
 f301:=func188.trans (Y7 some kr)
 f328:=func212.trans (Y7 some kr)
 f329:=func213.trans (Y7 some kr)
 f330:=func214.trans (Y7 some kr)
 f331:=func215.trans (Y7 some kr)
 f332:=func216.trans (Y7 some kr)
 f343:=func240.trans (Y7 some kr)
 t0:=underlying0
 a0:=Tryz.isAgg0
 z0:=Tryz.sizeOf0
 v0:=Tryz.zeroValue0
 t3:=underlying3
 a3:=Tryz.isAgg3
 z3:=Tryz.sizeOf3
 v3:=Tryz.zeroValue3
 t4:=underlying4
 a4:=Tryz.isAgg4
 z4:=Tryz.sizeOf4
 v4:=Tryz.zeroValue4
 t5:=underlying5
 a5:=Tryz.isAgg5
 z5:=Tryz.sizeOf5
 v5:=Tryz.zeroValue5
 t9:=underlying9
 a9:=Tryz.isAgg9
 z9:=Tryz.sizeOf9
 v9:=Tryz.zeroValue9
 t28:=underlying45
 a28:=Tryz.isAgg45
 z28:=Tryz.sizeOf45
 v28:=Tryz.zeroValue45
 t46:=underlying162
 a46:=Tryz.isAgg162
 z46:=Tryz.sizeOf162
 v46:=Tryz.zeroValue162
 t51:=underlying260
 a51:=Tryz.isAgg260
 z51:=Tryz.sizeOf260
 v51:=Tryz.zeroValue260
 t53:=underlying175
 a53:=Tryz.isAgg175
 z53:=Tryz.sizeOf175
 v53:=Tryz.zeroValue175
 t131:=underlying43
 a131:=Tryz.isAgg43
 z131:=Tryz.sizeOf43
 v131:=Tryz.zeroValue43
 t182:=underlying252
 a182:=Tryz.isAgg252
 z182:=Tryz.sizeOf252
 v182:=Tryz.zeroValue252
 t183:=underlying253
 a183:=Tryz.isAgg253
 z183:=Tryz.sizeOf253
 v183:=Tryz.zeroValue253
 t218:=underlying290
 a218:=Tryz.isAgg290
 z218:=Tryz.sizeOf290
 v218:=Tryz.zeroValue290
 t222:=underlying294
 a222:=Tryz.isAgg294
 z222:=Tryz.sizeOf294
 v222:=Tryz.zeroValue294
 t228:=underlying309
 a228:=Tryz.isAgg309
 z228:=Tryz.sizeOf309
 v228:=Tryz.zeroValue309
 t229:=underlying107
 a229:=Tryz.isAgg107
 z229:=Tryz.sizeOf107
 v229:=Tryz.zeroValue107
theorem Zow (w:World):Calls prog 92 #[.slice none 0 0] w (fun e w'=>e = .returned (.tuple #[])∧w' = w):=
 Go.calls_of_every_depth fun D=>Go.Proofs.AnyS.slices_Sort_int_none_in ZkG D none 0 w
theorem ZkK {w:World} {y:Ys} : ∀ {l:List Int} {xs:List Value},PVs (l.flatMap rInt) xs w y→xs=l.map (Value.int .i64) ∧ ∀ x ∈ l,inR .i64 x
 | [],[],_=>⟨rfl,fun x hx=>by cases hx⟩
 | [],_ :: _,h=>h.elim
 | x :: l,[],h=>h.elim
 | x :: l,v :: xs,h=>by
  have h1:v = .int .i64 x∧inR .i64 x:=h.1.2
  obtain ⟨h2,h3⟩:=ZkK (l:=l) (xs:=xs) h.2
  exact ⟨by rw [h1.1,h2];rfl,fun z hz=>by rcases Yi.1 hz with rfl | hz;exact h1.2;exact h3 z hz⟩
theorem Zfh {w:World} {y:Ys} : ∀ {l:List Int},(∀ x ∈ l,inR .i64 x)→PVs (l.flatMap rInt) (l.map (Value.int .i64)) w y
 | [],_=>trivial
 | x :: l,h=>⟨⟨rfl,rfl,h x (by simp)⟩,Zfh fun z hz=>h z (by simp [hz])⟩
theorem ZrQ {l:List Int} {j:Nat} (hj:j<l.length):(l.toArray)[j]! = l[j]:=by simp [hj]
theorem ZjC {w:World} {g n:Nat} {d:List Int} {os:Array Obj} {cur:Array Value} {e:TypeId} (hg:w.heap[g]? = some (.cells cur e (0,0))) (b:Nat) (hb:b<w.heap.size) :
  (Go.Sort.grow (Go.Sort.putRow (Value.int .i64) (Go.Sort.ahead w n) g 0 d.toArray) os).heap[b]? = if b=g then some (.cells (Go.Sort.putCells (Value.int .i64) 0 d.toArray cur) e (0,0)) else w.heap[b]?:=by
 unfold Go.Sort.grow Go.Sort.putRow Go.Sort.mapBlock Go.Sort.ahead
 simp only
 rw [Array.getElem?_append_left (by simpa using hb),Array.getElem?_modify]
 by_cases h:g=b
 ·subst h
  rw [Yf rfl,Yf rfl,hg];rfl
 ·rw [Yc h,Yc (fun e=>h e.symm)]
theorem ZpS {cur:Array Value} {d:List Int} (h:d.length≤cur.size):(Go.Sort.putCells (Value.int .i64) 0 d.toArray cur).toList.take d.length=d.map (Value.int .i64):=by
 apply Ya0
 ·simp [Go.Sort.putCells];omega
 ·intro i h1 h2
  have hi:i<d.length:=by simpa using h2
  simp [Go.Sort.putCells,hi]
theorem Zjq (v:Value) (l:List Int) (hlm:l.length≤1000000):FnG prog 92 1 [.is v] [ZA 3 1 rInt l v] (.tup []) (fun _=>[ZA 3 1 rInt (l.mergeSort leI) v]):=fun w F vs hw hle hvs hpr=>by
 match vs,hvs with
 | [u],hvs=>
  have hu:u=v:=hvs.1.1
  subst hu
  obtain ⟨xs,⟨hxl,hx⟩,hp,hf⟩:=hpr 0 _ rfl
  rcases hx with ⟨rfl,h0⟩ | ⟨g,cap,cur,rfl,_,hg,hn,hcap,hcs,hct⟩
  ·have hl:l = []:=YN h0
   subst hl
   refine (Zow w).mono ?_
   rintro e w' ⟨rfl,rfl⟩
   refine ⟨.tuple #[],F,rfl,hw,⟨rfl,rfl,rfl,YO _,fun _ _ _=>rfl,fun _ _=>rfl,fun n hn b hb=>.inl ⟨n,hn,hb⟩⟩,hle,⟨[],rfl,tv⟩,fun i h hi=>?_⟩
   match i,hi with
   | 0,hi=>simp at hi;subst hi;exact ⟨xs,⟨hxl,.inl ⟨rfl,rfl⟩⟩,by simpa using hp,hf⟩
  ·have hgs:g<w.heap.size:=(YV.1 hg).1
   obtain ⟨hxe,hin⟩:=ZkK hp
   have hcl:l.length≤cur.size:=by rw [hcs];omega
   have hbig:l.length<4611686018427387904:=by omega
   have hcur:∀ j (hj:j<l.length),cur[j]? = some (.int .i64 l[j]):=fun j hj=>by
    have h1:(cur.toList.take (l.length*1))[j]? = (l.map (Value.int .i64))[j]?:=by rw [hct,hxe]
    rw [Ybx ow] at h1
    simpa [hj] using h1
   have hH:Go.Sort.Holds (Value.int .i64) w g 0 l.toArray:=fun j hj=>by
    have hj':j<l.length:=by simpa using hj
    refine ⟨?_,?_⟩
    ·rw [ZrQ hj',Y2,ZV hg];exact hcur j hj'
    ·simp [World.frozen?,hg]
   have hcalls:Calls prog 92 #[.slice (some ⟨g,0,none⟩) l.length cap] w fun e w'=>e = .returned (.tuple #[]) ∧ ∃ n os,w' = Go.Sort.grow (Go.Sort.putRow (Value.int .i64) (Go.Sort.ahead w n) g 0 (l.mergeSort leI).toArray) os:=Go.Proofs.Any.slices_Sort_int ZkG g 0 cap l w hH hgs hbig
   refine hcalls.mono ?_
   rintro e w' ⟨rfl,n,os,rfl⟩
   have hsl:(l.mergeSort leI).length=l.length:=Ybr l
   have hheap:=fun b hb=>ZjC (n:=n) (d:=l.mergeSort leI) (os:=os) hg b hb
   have hsz:(Go.Sort.grow (Go.Sort.putRow (Value.int .i64) (Go.Sort.ahead w n) g 0 (l.mergeSort leI).toArray) os).heap.size=w.heap.size+os.size:=by simp [Go.Sort.ahead]
   have hfg:F 1 g:=(hf g).2 rfl
   have hst:Stp (List.range' 1 1) w F (Go.Sort.grow (Go.Sort.putRow (Value.int .i64) (Go.Sort.ahead w n) g 0 (l.mergeSort leI).toArray) os) F:=
    ⟨rfl,rfl,rfl,by rw [hsz];omega,fun b hb hn=>by
     rw [hheap b hb,Yc (fun e=>by subst e;exact hn 1 (by simp) hfg)],fun _ _=>rfl,fun n hn b hb=>.inl ⟨n,hn,hb⟩⟩
   refine ⟨.tuple #[],F,rfl,⟨hw.dis,fun n b hb=>by rw [hsz];have:=hw.bd n b hb;omega⟩,hst,hle,⟨[],rfl,tv⟩,fun i h hi=>?_⟩
   match i,hi with
   | 0,hi=>
    simp only [YbB,Y6] at hi
    subst hi
    refine ⟨(l.mergeSort leI).map (Value.int .i64),⟨by simp,.inr ⟨g,cap,_,by rw [hsl],Yv _,(hheap g hgs).trans (Yf rfl),by omega,hcap,by simp [Go.Sort.putCells,hcs],?_⟩⟩,Zfh fun x hx=>hin x ((YaW l leI).mem_iff.1 hx),hf⟩
    rw [Ybs];exact ZpS ow
structure Zg where
 src:Int
 dst:Int
 kind:Int
 key:Int
 deriving DecidableEq,Inhabited
structure Zcg where
 tx:Int
 key:Int
 nth:Int
 deriving DecidableEq,Inhabited
def Zp (e:Zg):List PV:=[.int .i64 e.src,.int .i64 e.dst,.int .i64 e.kind,.int .i64 e.key]
def ZS (v:Zcg):List PV:=[.int .i64 v.tx,.int .i64 v.key,.int .i64 v.nth]
def noE:Zg:=⟨0,0,0,0⟩
def noV:Zcg:=⟨0,0,0⟩
def idB (n:Int):Bool:=decide (1≤n) && decide (n≤1048575)
def ZcD (v:Zcg):Bool:=if v.tx=0 then idB v.key && decide (v.nth=0) else ((idB v.tx && idB v.key) && decide (1≤v.nth)) && decide (v.nth≤4095)
def Zvh (v:Zcg):Int:=(v.tx*1048576+v.key)*4096+v.nth
def ZsC (v:Zcg):Int×Int:=if ZcD v then (Zvh v,0) else (0,1)
theorem ZjP {n:Int} : idB n=true ↔ 1≤n∧n≤1048575:=by unfold idB;rw [Yx,Yq,Yq]
theorem ZlR (k:Int):decide (k<1) = !decide (1≤k):=by rw [← decide_not];exact decide_eq_decide.2 ow
theorem Zns (m k:Int):decide (m<k) = !decide (k≤m):=by rw [← decide_not];exact decide_eq_decide.2 ow
theorem or64 (x y:Nat) (hx:x<18446744073709551616) (hy:y<18446744073709551616):bits .or .u64 (x:Int) (y:Int)=((x ||| y:Nat):Int):=by
 have h1:(BitVec.ofInt 64 (x:Int)).toNat=x:=by rw [YaI];omega
 have h2:(BitVec.ofInt 64 (y:Int)).toNat=y:=by rw [YaI];omega
 show IntKind.wrap .u64 (((BitVec.ofInt 64 (x:Int) ||| BitVec.ofInt 64 (y:Int)).toNat:Nat):Int)=_
 rw [BitVec.toNat_or,h1,h2]
 exact Zal (by have:=Nat.or_lt_two_pow (n:=64) hx hy;omega)
theorem ZpR {q:Nat} (h:q<18446744073709551616):IntKind.wrap .u64 (q:Int)=q:=Zal ow
theorem ofN {q:Nat} (h:q<18446744073709551616):(BitVec.ofInt 64 (q:Int)).toNat=q:=by rw [YaI];omega
theorem Zsv {K:Int} (k:Nat) (hk:min K.toNat (IntKind.bits .u64)=k) (x y:Int) (hx:0≤x) (hy:0≤y) (hyk:y<2 ^ k) (hb:x*2 ^ k+y<18446744073709551616):bits .or .u64 (IntKind.wrap .u64 (x*2 ^ min K.toNat (IntKind.bits .u64))) y=x*2 ^ k+y:=by
 obtain ⟨X,rfl⟩:=Yac hx
 obtain ⟨Y,rfl⟩:=Yac hy
 rw [hk]
 have e2:(X:Int)*2 ^ k=((X*2 ^ k:Nat):Int):=by rw [Int.natCast_mul,Int.natCast_pow];rfl
 have hY:Y<2 ^ k:=by exact_mod_cast hyk
 have hor:X*2 ^ k ||| Y=X*2 ^ k+Y:=by rw [Nat.mul_comm];exact (Nat.two_pow_add_eq_or_of_lt hY X).symm
 rw [e2] at hb ⊢
 generalize X*2 ^ k=Q at hb hor ⊢
 rw [ZpR ow,or64 _ _ ow ow,hor]
 omega
theorem ZkI {v:Zcg} (h:ZcD v=true):bits .or .u64 (IntKind.wrap .u64 (bits .or .u64 (IntKind.wrap .u64 (IntKind.wrap .u64 v.tx*2 ^ min (20:Int).toNat (IntKind.bits .u64))) (IntKind.wrap .u64 v.key)*2 ^ min (12:Int).toNat (IntKind.bits .u64))) (IntKind.wrap .u64 v.nth)=Zvh v:=by
 have hb:(0≤v.tx∧v.tx≤1048575)∧(1≤v.key∧v.key≤1048575)∧(0≤v.nth∧v.nth≤4095):=by
  unfold ZcD at h
  split at h <;> simp only [Yx,Yq,ZjP] at h <;> omega
 obtain ⟨h1,h2,h3⟩:=hb
 rw [Zal (x:=v.tx) ow,Zal (x:=v.key) ow,Zal (x:=v.nth) ow]
 rw [Zsv 20 rfl v.tx v.key ow ow ow ow,Zsv 12 rfl (v.tx*2 ^ 20+v.key) v.nth ow ow ow ow]
 unfold Zvh
 omega
theorem mask {x:Int} (h:0≤x∧x≤18446744073709551615) {K:Int} (k:Nat) (hk:min K.toNat (IntKind.bits .u64)=k) (hk2:k<64):bits .and .u64 x (IntKind.wrap .u64 (IntKind.wrap .u64 (1*2 ^ min K.toNat (IntKind.bits .u64)) - 1))=x % 2 ^ k:=by
 obtain ⟨X,rfl⟩:=Yac h.1
 rw [hk,Int.one_mul]
 have hp1:2 ^ k<2 ^ 64:=Nat.pow_lt_pow_right (by decide) hk2
 have hp:2 ^ k<18446744073709551616:=hp1
 have hp0:0<2 ^ k:=Nat.two_pow_pos k
 have e2:(2:Int) ^ k=((2 ^ k:Nat):Int):=by norm_cast
 have e3:∀ q:Nat,0<q→(q:Int) - 1=((q - 1:Nat):Int):=fun q h=>by omega
 rw [e2,ZpR hp,e3 _ hp0,ZpR ow]
 show IntKind.wrap .u64 (((BitVec.ofInt 64 (X:Int) &&& BitVec.ofInt 64 ((2 ^ k - 1:Nat):Int)).toNat:Nat):Int)=_
 rw [Ybo,ofN ow,ofN ow,YaT]
 have hm:=Nat.mod_le X (2 ^ k)
 rw [ZpR ow]
 norm_cast
theorem ZvE (n:Int):FnP prog 178 [.int .i64 n] (.bool (idB n)):=by
 refine FnP.mk func178 rfl ntmps178 rfl fun B a w F V hfr G=>Ya ?_
 refine rZ G qB V [2,0] [0] fun G=>Ya ?_
 refine rZ G (qR rr (qf (Zbi .t qi) r1 qz (qR rr (qm rfl rfl rfl rfl (qk rfl (fun h=>Zj3 (.w h) qi) r2 qz (qf (ZD .t .t) r2 qz (qO rr qZ))))))) V [2] [0] fun G=>Yh ?_
 refine Zo hfr G rfl rfl rfl .refl
theorem Zgz (v:Zcg):((!(decide (v.tx=0) && decide (v.nth=0)) && ((!idB v.tx || decide (v.nth<1)) || decide (4095<v.nth))) || !idB v.key) = !ZcD v:=by
 unfold ZcD
 by_cases h:v.tx=0
 ·rw [Yf h,Yab h]
  have hi:idB v.tx=false:=by rw [h];rfl
  rw [hi]
  cases decide (v.nth=0) <;> cases idB v.key <;> simp
 ·rw [Yc h,YC h,ZlR,Zns 4095]
  cases idB v.tx <;> cases idB v.key <;> cases decide (1≤v.nth) <;> cases decide (v.nth≤4095) <;> rfl
theorem ZpA (v:Zcg):FnP prog 137 [.agg (ZS v)] (.tup [.int .u64 (ZsC v).1,.int .i64 (ZsC v).2]):=by
 refine FnP.mk func137 rfl ntmps137 rfl fun B a w F V hfr G=>Ya ?_
 refine Zb G (qx 101 r1 (qI (qI qZ))) V [3,2,1] [101,0] (fun _=>rfl) (fun _=>rfl) fun τ a w F G=>?_
 try dsimp only [RS.sub,SF.sub,CF.sub,csub,Anc.sub,List.map,zCF] at G
 generalize τ 1=v1 at G
 refine Za (Ya (rZ G (qg 0 101 r1 r1 (qa 101 r1 r1 (qf (o_eql .t qi) r1 qz (qR rr (qv 2 101 rfl r2 r1 (qw 101 rfl r2 r1 (qk rfl (fun h=>o_eql (.w h) qi) r2 qz (qf (ZD .t .t) r2 qz (qO rr qZ))))))))) V [4,3,2,1] [101,0] fun G=>(Ya (Ya ?_))))
 refine Zf G (qR rr (qf (o_not .t) r1 qz (qR rr (qv 0 101 rfl r2 r1 (qw 101 rfl r2 r1 (qk rfl (fun h=>oP (ZvE _) func178 (Args.one (.w h))) r2 qz (qk rfl (fun h=>o_not (.w h)) r2 qz (qk rfl (fun h=>oM (.w h)) r2 qz (Zz.cons (ZaB.cond2 rfl rfl (fun h=>Z4 (off:=2) 101 .is kr (by rfl))) r2 r1 (Zz.cons (ZaB.cond2 rfl rfl (fun h=>ZbI (ag:=false) (sz:=1) 101 (.w h .adr) kr kr kr (by rfl))) r2 r1 (Zz.cons (ZaB.cond2 rfl rfl (fun h=>Zay (.w h) qi)) r2 qz (qk rfl (fun h=>Zam (.w h) (.wc h)) r3 qz (qk rfl (fun h=>oM (.w h)) r2 qz (Zz.cons (ZaB.cond2 rfl rfl (fun h=>Z4 (off:=2) 101 .is kr (by rfl))) r2 r1 (Zz.cons (ZaB.cond2 rfl rfl (fun h=>ZbI (ag:=false) (sz:=1) 101 (.w h .adr) kr kr kr (by rfl))) r2 r1 (Zz.cons (ZaB.cond2 rfl rfl (fun h=>ZaU (.w h) qi)) r2 qz (qk rfl (fun h=>Zam (.w h) (.wc h)) r3 qz (qf (ZD .t .t) r2 qz (qR rr (qv 1 101 rfl r2 r1 (qw 101 rfl r2 r1 (qk rfl (fun h=>oP (ZvE _) func178 (Args.one (.w h))) r2 qz (qk rfl (fun h=>o_not (.w h)) r2 qz (qf (Zam .t .t) r2 qz qZ)))))))))))))))))))))))) V [36,3,2,1] [101,0] rfl rfl fun a w F G=>?_
 try dsimp only [List.map,xD,xE,xT,xU,ldSF] at G
 refine Za (Zc G rfl (fun hc0=>?_) (fun hc0=>?_))
 ·rw [Zgz] at hc0
  have hr:ZcD v=false:=by simpa using hc0
  have hg:ZsC v=(0,1):=by unfold ZsC;rw [hr];rfl
  refine Ya (rZ G (qI (qI qZ)) V [3,2,1] [101,0] fun G=>(Yh (Zk ?_)))
  refine Z2 hfr G rfl (.tmp rfl (.tmp rfl .nil)) (.two (.int (by rw [hg];try exact ZkI hr)) (.int (by rw [hg])))
 rw [Zgz] at hc0
 have hr:ZcD v=true:=by simpa using hc0
 have hg:ZsC v=(Zvh v,0):=Yf hr
 refine Ye (Za (Ya (rZ G (qg 0 101 r1 r1 (qa 101 r1 r1 (qf (o_conv underlying175 kr .t) r1 qz (qf (o_shl .t qi (by decide)) r1 qz (qg 1 101 r1 r1 (qa 101 r1 r1 (qf (o_conv underlying175 kr .t) r1 qz (qf (Zr8 .t .t) r2 qz (qf (o_shl .t qi (by decide)) r1 qz (qg 2 101 r1 r1 (qa 101 r1 r1 (qf (o_conv underlying175 kr .t) r1 qz (qf (Zr8 .t .t) r2 qz (qO rr (qI qZ))))))))))))))) V [3,2] [0] fun G=>Yh ?_)))
 refine Z2 hfr G rfl (.tmp rfl (.tmp rfl .nil)) (.two (.int (by rw [hg];try exact ZkI hr)) (.int (by rw [hg])))
end Go.Proofs.YtlkpllemoepamaaGreat
