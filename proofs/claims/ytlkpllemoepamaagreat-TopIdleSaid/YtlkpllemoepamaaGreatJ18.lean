/- Texts put together. No condition beyond those that each theorem says. -/
import Derived.Test.YtlkpllemoepamaaGreatJ17
import Derived.Test.YtlkpllemoepamaaGreatLibW
import Derived.Test.YtlkpllemoepamaaGreatJ12
import Derived.Test.YtlkpllemoepamaaGreatJ8
import Derived.Test.YtlkpllemoepamaaGreatJ6
namespace Go.Proofs.YtlkpllemoepamaaGreat
open Go Go.Gm Tryz
set_option linter.unusedVariables false
set_option linter.unusedSimpArgs false
set_option maxHeartbeats 4000000
set_option maxRecDepth 8000
def bH (v ad:Value) (l:List UInt8):HP:=.ex fun rv=>.and (l = []→rv = .slice none 0 0) (.star [.pt (.val v) 115 [.pv (.is ad),.pv (.is rv)],.ob (.val rv) (Zy 5 1 rC l)])
def Za7 (v:Value) (l:List UInt8):HP:=.ex fun ad=>.and (ad = .pointer none∨ad=v) (bH v ad l)
theorem FnG.cases {P:Program} {f:FuncId} {args:List PV} {h h1 h2:HP} {q:PV} {qr:Value→List HP} (hh:∀ w fb y,h.p w fb y→h1.p w fb y∨h2.p w fb y) (k1:FnG P f 1 args [h1] q qr) (k2:FnG P f 1 args [h2] q qr):FnG P f 1 args [h] q qr:=fun w F vs hw hle hvs hpr=>by
 rcases hh w (F 1) (U F) (hpr 0 h rfl) with hx | hx
 ·exact k1 w F vs hw hle hvs (fun i h' hi=>by
  match i,hi with
  | 0,hi=>simp at hi;subst hi;exact hx)
 ·exact k2 w F vs hw hle hvs (fun i h' hi=>by
  match i,hi with
  | 0,hi=>simp at hi;subst hi;exact hx)
theorem ZgM {v:Value} {l:List UInt8} (w:World) (fb y:Ys) (h:(Za7 v l).p w fb y):(bH v (.pointer none) l).p w fb y∨(bH v v l).p w fb y:=by
 obtain ⟨ad,h1,h2⟩:=h
 rcases h1 with rfl | rfl
 ·exact .inl h2
 ·exact .inr h2
theorem copy0 (b:Nat) (l:List UInt8):FnG prog 121 1 [.is (.pointer (some ⟨b,0,none⟩))] [bH (.pointer (some ⟨b,0,none⟩)) (.pointer none) l] (.any) (fun _=>[bH (.pointer (some ⟨b,0,none⟩)) (.pointer (some ⟨b,0,none⟩)) l]):=by
 refine FnG.mk func121 rfl ntmps121 rfl kr fun B F0 a w F V hG G=>?_
 obtain ⟨rv,G⟩:=G.open_ex 1 rfl
 obtain ⟨hI,G⟩:=G.open_and 1 rfl
 obtain ⟨F,G⟩:=G.peel 1 2 rfl rfl
 obtain ⟨F,G⟩:=G.peel 1 3 rfl rfl
 obtain ⟨F,G⟩:=G.nM [0] [3,2,0]
 refine Ya (rZ G (qR rr (qf (o_nilCheck 2 .is (by rfl)) r1 r1 (qf (oF 0 2 .adr) r1 r1 (qa 2 r1 r1 (qf (Zjw _ underlying112 rfl .t) r1 qz qZ))))) V [6,0] [3,2,0] fun G=>?_)
 refine Zc G rfl (fun hc0=>?_) (fun hc0=>?_)
 ·refine Ze G (qR rr (qR rr (qf (ZhG 2 underlying112 underlying235 kr kr .t) r1 r1 (qf (Znn func165 kr kr kr kr .t) r1 qz (qf (Zkm 2 underlying235 underlying112 kr kr .t) r1 r1 (qf (o_nilCheck 2 .is (by rfl)) r1 r1 (qf (oF 0 2 .adr) r1 r1 (qf (ZaZ 2 .adr .t one_is kr kr) r2 r1 qZ)))))))) V [] [3,2,0] rfl rfl fun a w F G=>?_
  have G:=G.fresh 1 rfl
  obtain ⟨F,G⟩:=G.push 1 3 rfl rfl rfl kr
  obtain ⟨F,G⟩:=G.push 1 2 rfl rfl rfl kr
  have G:=G.turn 1 rfl (r':=RS.hp (bH (.pointer (some ⟨b,0,none⟩)) (.pointer (some ⟨b,0,none⟩)) l)) (fun _ _ _ _ h=>⟨_,hI,h⟩)
  refine Zaf hG G rfl .nil Zbd.any rfl
 simp at hc0
theorem copy1 (b:Nat) (l:List UInt8):FnG prog 121 1 [.is (.pointer (some ⟨b,0,none⟩))] [bH (.pointer (some ⟨b,0,none⟩)) (.pointer (some ⟨b,0,none⟩)) l] (.any) (fun _=>[bH (.pointer (some ⟨b,0,none⟩)) (.pointer (some ⟨b,0,none⟩)) l]):=by
 refine FnG.mk func121 rfl ntmps121 rfl kr fun B F0 a w F V hG G=>?_
 obtain ⟨rv,G⟩:=G.open_ex 1 rfl
 obtain ⟨hI,G⟩:=G.open_and 1 rfl
 obtain ⟨F,G⟩:=G.peel 1 2 rfl rfl
 obtain ⟨F,G⟩:=G.peel 1 3 rfl rfl
 obtain ⟨F,G⟩:=G.nM [0] [3,2,0]
 refine Ya (rZ G (qR rr (qf (o_nilCheck 2 .is (by rfl)) r1 r1 (qf (oF 0 2 .adr) r1 r1 (qa 2 r1 r1 (qf (Zjw _ underlying112 rfl .t) r1 qz qZ))))) V [6,0] [3,2,0] fun G=>?_)
 refine Zc G rfl (fun hc0=>?_) (fun hc0=>?_)
 ·simp at hc0
 refine Ya (rZ G (qR rr (qf (o_nilCheck 2 .is (by rfl)) r1 r1 (qf (oF 0 2 .adr) r1 r1 (qa 2 r1 r1 (qR rr (qf (ZmB underlying112 kr .t .t) r2 qz qZ)))))) V [19] [3,2,0] fun G=>?_)
 refine Zc G rfl (fun hc1=>?_) (fun hc1=>?_)
 ·simp at hc1
 refine Ye ?_
 have G:=G.fresh 1 rfl
 obtain ⟨F,G⟩:=G.push 1 3 rfl rfl rfl kr
 obtain ⟨F,G⟩:=G.push 1 2 rfl rfl rfl kr
 have G:=G.turn 1 rfl (r':=RS.hp (bH (.pointer (some ⟨b,0,none⟩)) (.pointer (some ⟨b,0,none⟩)) l)) (fun _ _ _ _ h=>⟨_,hI,h⟩)
 refine Zaf hG G rfl .nil Zbd.any rfl
theorem Zu1 (b:Nat) (l:List UInt8):FnG prog 121 1 [.is (.pointer (some ⟨b,0,none⟩))] [Za7 (.pointer (some ⟨b,0,none⟩)) l] .any (fun _=>[bH (.pointer (some ⟨b,0,none⟩)) (.pointer (some ⟨b,0,none⟩)) l]):=FnG.cases ZgM (copy0 b l) (copy1 b l)
theorem Zcs (b:Nat) (l:List UInt8) (hl:l.length≤1000000000) (x:List UInt8) (hx:x≠[]) (hxl:x.length≤1000000000):FnG prog 72 1 [.is (.pointer (some ⟨b,0,none⟩)),.bs x] [Za7 (.pointer (some ⟨b,0,none⟩)) l] (.any) (fun _=>[bH (.pointer (some ⟨b,0,none⟩)) (.pointer (some ⟨b,0,none⟩)) (l++x)]):=by
 refine FnG.mk func72 rfl ntmps72 rfl kr fun B F0 a w F V hG G=>Ya ?_
 refine rZ G (qI (qC qZ)) V [5,4,1,0] [1,0] fun G=>Ya ?_
 refine Ze G (qR rr (qf (ZK 1 (Zu1 b l) func121 rfl kr (Args.one .t)) r1 r1 qZ)) V [5,4,1,0] [1,0] rfl rfl fun a w F G=>?_
 obtain ⟨rv,G⟩:=G.open_ex 1 rfl
 obtain ⟨hI,G⟩:=G.open_and 1 rfl
 obtain ⟨F,G⟩:=G.peel 1 2 rfl rfl
 obtain ⟨F,G⟩:=G.peel 1 3 rfl rfl
 obtain ⟨F,G⟩:=G.nM [5,4,1,0] [3,2,0]
 refine Za (Ya (Zb G (qR rr (qR rr (qf (o_nilCheck 2 .is (by rfl)) r1 r1 (qf (oF 1 2 .adr) r1 r1 (qa 2 r1 r1 (qR rr (qf (ZjE 3 underlying113 Yct kr .is .t ow) ⟨rfl,rfl,tv⟩ ⟨rfl,tv⟩ (qf (o_nilCheck 2 .is (by rfl)) r1 r1 (qf (oF 1 2 .adr) r1 r1 (qf (o_storeS 2 .adr kr kr) r2 r1 qZ)))))))))) V [5,4,1] [3,2,0] (fun _=>rfl) (fun _=>rfl) fun τ a w F G=>?_))
 try dsimp only [RS.sub,SF.sub,CF.sub,csub,Anc.sub,List.map,Zf,xL,xM,Nat.reduceAdd,xD,xE,xT,xU,xC,xN,zCF,ldSF] at G
 generalize τ 14=v14 at G
 refine Za (Ya (rZ G (qR rr (qf (Zsw Yct .t) r1 qz (qO rr (qC qZ)))) V [5,4] [3,2,0] fun G=>Yh ?_))
 have G:=G.fresh 1 rfl
 obtain ⟨F,G⟩:=G.push 1 3 rfl rfl rfl kr
 obtain ⟨F,G⟩:=G.push 1 2 rfl rfl rfl kr
 have G:=G.turn 1 rfl (r':=RS.hp (bH (.pointer (some ⟨b,0,none⟩)) (.pointer (some ⟨b,0,none⟩)) (l++x))) (fun _ _ _ _ h=>⟨_,(by intro hh;exact absurd (List.append_eq_nil_iff.1 hh).2 hx),h⟩)
 refine Zaf hG G rfl (.tmp rfl (.tmp rfl .nil)) Zbd.any rfl
theorem ZuE (b:Nat):FnG prog 75 1 [.is (.pointer (some ⟨b,0,none⟩))] [Za7 (.pointer (some ⟨b,0,none⟩)) []] (.bs []) (fun _=>[HP.star []]):=by
 refine FnG.mk func75 rfl ntmps75 rfl kr fun B F0 a w F V hG G=>?_
 obtain ⟨ad,G⟩:=G.open_ex 1 rfl
 obtain ⟨hA,G⟩:=G.open_and 1 rfl
 obtain ⟨rv,G⟩:=G.open_ex 1 rfl
 obtain ⟨hI,G⟩:=G.open_and 1 rfl
 obtain rfl:=hI rfl
 obtain ⟨F,G⟩:=G.peel 1 2 rfl rfl
 obtain ⟨F,G⟩:=G.peel 1 3 rfl rfl
 obtain ⟨F,G⟩:=G.nM [0] [3,2,0]
 refine Ya (rZ G (qf (oN (.cs kr)) trivial qz qZ) V [2,0] [3,2,0] fun G=>Ya ?_)
 refine Zv G (qR rr (qf (o_nilCheck 2 .is (by rfl)) r1 r1 (qf (oF 1 2 .adr) r1 r1 (qa 2 r1 r1 (qf (Zfs .t) r1 qz (qR rr (qf (o_nilCheck 2 .is (by rfl)) r1 r1 (qf (oF 1 2 .adr) r1 r1 (qa 2 r1 r1 (qf (ZU 3 underlying113 .is) r1 r1 (qf (ZdW .t .t) r2 qz (qO rr qZ)))))))))))) V [2] [3,2,0] rfl rfl fun a w F G=>?_
 try dsimp only [List.map,xD,xE,xT,xU,ldSF] at G
 refine Za (Yh ?_)
 have G:=G.fresh 1 rfl
 refine Zaf (h':=HP.star []) hG G rfl (.tmp rfl .nil) (.one .refl) rfl
theorem Zt4 (b:Nat) (l:List UInt8) (hne:l≠[]):FnG prog 75 1 [.is (.pointer (some ⟨b,0,none⟩))] [Za7 (.pointer (some ⟨b,0,none⟩)) l] (.bs l) (fun _=>[HP.star []]):=by
 refine FnG.mk func75 rfl ntmps75 rfl kr fun B F0 a w F V hG G=>?_
 obtain ⟨ad,G⟩:=G.open_ex 1 rfl
 obtain ⟨hA,G⟩:=G.open_and 1 rfl
 obtain ⟨rv,G⟩:=G.open_ex 1 rfl
 obtain ⟨hI,G⟩:=G.open_and 1 rfl
 obtain ⟨F,G⟩:=G.peel 1 2 rfl rfl
 obtain ⟨F,G⟩:=G.peel 1 3 rfl rfl
 obtain ⟨F,G⟩:=G.nM [0] [3,2,0]
 refine Ya (rZ G (qf (oN (.cs kr)) trivial qz qZ) V [2,0] [3,2,0] fun G=>Ya ?_)
 refine Zv G (qR rr (qf (o_nilCheck 2 .is (by rfl)) r1 r1 (qf (oF 1 2 .adr) r1 r1 (qa 2 r1 r1 (qf (Zkf 3 hne .is (by rfl)) r1 r1 (qR rr (qf (o_nilCheck 2 .is (by rfl)) r1 r1 (qf (oF 1 2 .adr) r1 r1 (qa 2 r1 r1 (qf (ZU 3 underlying113 .is) r1 r1 (qf (ZgI 3 underlying176 kr hne .t) r2 r1 (qO rr qZ)))))))))))) V [2] [3,2,0] rfl rfl fun a w F G=>?_
 try dsimp only [List.map,xD,xE,xT,xU,ldSF] at G
 refine Za (Yh ?_)
 have G:=G.fresh 1 rfl
 refine Zaf (h':=HP.star []) hG G rfl (.tmp rfl .nil) (.one .refl) rfl
theorem ZqJ (b:Nat) (l:List UInt8):FnG prog 75 1 [.is (.pointer (some ⟨b,0,none⟩))] [Za7 (.pointer (some ⟨b,0,none⟩)) l] (.bs l) (fun _=>[HP.star []]):=by
 by_cases h:l = []
 ·subst h;exact ZuE b
 ·exact Zt4 b l h
theorem ZtL (u:Nat):ZiN u≠[]:=by unfold ZiN;simp
theorem ZrA (n:Int):Ze0 n≠[]:=by
 unfold Ze0
 split
 ·simp
 ·simpa using ZtL _
theorem Zcf {n:Int} (h : -9223372036854775808≤n∧n≤9223372036854775807):(Ze0 n).length≤21:=by
 have:=ZlA (ZhY h)
 unfold Ze0
 split <;> simp <;> omega
def ZrR (e:Zg):List UInt8:=((([32] ++ ZjR e.kind)++Ze0 e.key) ++ [32])++Ze0 e.dst
def ZfO (l:List Zg) (i:Nat):List UInt8:=Ze0 (Nn l 0).src++(l.take i).flatMap ZrR
def ZgG (l:List Zg) (i:Nat):List UInt8:=if i=0 then [] else ZfO l i
def Zgq (e:Zg):Prop:=(-9223372036854775808≤e.src∧e.src≤9223372036854775807)∧(-9223372036854775808≤e.dst∧e.dst≤9223372036854775807) ∧ -9223372036854775808≤e.key∧e.key≤9223372036854775807
theorem Zix (k:Int):(ZjR k).length≤2:=by
 unfold ZjR
 repeat' split
 all_goals simp
theorem ZlQ {e:Zg} (h:Zgq e):(ZrR e).length≤50:=by
 have h1:=Zcf h.2.2
 have h2:=Zcf h.2.1
 have h3:=Zix e.kind
 unfold ZrR
 simp only [Yd,Yl,Yy]
 omega
theorem Zoh {l:List Zg} (h:∀ e ∈ l,Zgq e) {i:Nat} (hi:i<l.length):(ZfO l i).length≤50+50*i:=by
 have h1:=Zcf (h _ (nth_mem (q:=l) (k:=0) ow)).1
 have key:∀ m:List Zg,(∀ e ∈ m,Zgq e)→(m.flatMap ZrR).length≤50*m.length:=by
  intro m
  induction m with
  | nil=>intro _;simp
  | cons e m ih=>
   intro hm
   have:=ih fun x hx=>hm x (by simp [hx])
   have:=ZlQ (hm e (by simp))
   rw [YZ,Yd,Yl];omega
 have h2:=key (l.take i) fun e he=>h e (Yak he)
 have h3:(l.take i).length≤i:=by rw [Yi];omega
 unfold ZfO
 rw [Yd];omega
theorem Zg0 {l:List Zg} {i:Nat} (hi:i<l.length):ZfO l i++ZrR (Nn l i)=ZgG l (i+1):=by
 unfold ZgG ZfO
 rw [Yc ow,Zp hi,YU,YN];simp
theorem Zpq {l:List Zg} {i:Nat} (h:¬ i=0):ZgG l i=ZfO l i:=Yc h
theorem Zun (l:List Zg) (hl:l.length≤1000000) (hr:∀ e ∈ l,Zgq e):FnP prog 34 [.sl Zq l] (.bs (ZgG l l.length)):=by
 refine FnP.mk func34 rfl ntmps34 rfl fun B a w F V hfr G=>Ya ?_
 refine rZ G (qf (oN (.cs kr)) trivial qz qZ) V [2,0] [0] fun G=>Ya ?_
 refine Zb G (qf (oH [.pointer none,.slice none 0 0] 101) trivial qz qZ) V [3,2,0] [101,0] (fun _=>rfl) (fun _=>rfl) fun τ a w F G=>?_
 try dsimp only [RS.sub,SF.sub,CF.sub,csub,Anc.sub,List.map,zCF,Zq] at G
 generalize τ 3=v3 at G
 obtain ⟨b,rfl⟩:=G.shape 101 rfl
 replace G:=G.fresh 9 rfl
 replace G:=G.turn 9 rfl (ZaE (T:=5) (sz:=1) (R:=rC))
 replace G:=G.fresh 10 rfl
 obtain ⟨F,G⟩:=G.push 10 9 rfl rfl rfl kr
 obtain ⟨F,G⟩:=G.push 10 101 rfl rfl rfl kr
 replace G:=G.turn 10 rfl (r':=RS.hp (Za7 (.pointer (some ⟨b,0,none⟩)) [])) (fun _ _ _ _ h=>⟨_,.inl rfl,_,fun _=>rfl,h⟩)
 obtain ⟨F,G⟩:=G.nM [3,2,0] [10,0]
 refine Za (Ya (Ya (rZ G (qR rr (qu Yce r1 (qJ qZ))) V [8,7,6,3,2] [10,0] fun G=>Yg ?_)))
 refine Zl (σ:=(Nat)) [2,3,6,7] [0] (fun s=>[(8,.pv (.int .i64 (s:Int)))]) (fun s=>[(10,RS.hp (Za7 (.pointer (some ⟨b,0,none⟩)) (ZgG l s)))]) (fun s=>s≤l.length∧(True)) (fun s=>l.length - s) (0) G ⟨rfl,rfl,rfl,rfl,rfl,tv⟩ ⟨rfl,rfl,tv⟩ ⟨Yx _,tv⟩ ?_
 clear G;intro i a w F hC G
 try dsimp only at hC
 obtain ⟨F,G⟩:=G.nM [8,7,6,3,2] [10,0]
 try dsimp only at G
 obtain ⟨hi,hq⟩:=hC
 refine Ya (rZ G (qL r2) V [9,8,7,6,3,2] [10,0] fun G=>Ya ?_)
 refine Zc G rfl (fun hc0=>?_) (fun hc0=>?_)
 ·have hil:i<l.length:=by simp at hc0;omega
  have hsm:=hr _ (nth_mem hil)
  have hcl:=Zoh hr hil
  have hel:=ZlQ hsm
  have hx1:=Zcf hsm.1
  have hx2:=Zcf hsm.2.1
  have hx3:=Zcf hsm.2.2
  have hx4:=Zix (Nn l i).kind
  refine Ye (Za (Ya (Yg (Ya (Zb G (qR rr (qy 4 Yce r2 (qf (oR true 4 .t) r1 qz (qf (oH [.int .i64 0,.int .i64 0,.int .i64 0,.int .i64 0] 102) trivial qz (qO rr (qS 4 102 r2 r1 qZ)))))) V [8,7,6,5,4,3,2] [102,10,0] (fun _=>rfl) (fun _=>rfl) fun τ a w F G=>?_)))))
  try dsimp only [RS.sub,SF.sub,CF.sub,csub,Anc.sub,List.map,Zf,xL,xM,Nat.reduceAdd,xD,xE,xT,xU,xC,xN,zCF,ldSF,Zq] at G
  generalize τ 5=v5 at G
  try simp only [Yb] at G
  refine Za (Ya (Ya (rZ G (qR rr (qf (o_eql .t qi) r1 qz qZ)) V [14,8,7,6,5,3,2] [102,10,0] fun G=>?_)))
  refine Zc G rfl (fun hc1=>?_) (fun hc1=>?_)
  ·have hi0:i=0:=by have h9:=Yt hc1;omega
   have hw0:ZgG l i = []:=by rw [hi0];rfl
   rw [hw0] at G
   refine Ze G (qg 0 102 r1 r1 (qa 102 r1 r1 (qf (oP (Zi4 (Nn l i).src) func73 (Args.one .t)) r1 qz (qf (ZK 10 (Zcs b [] (by simp) (Ze0 (Nn l i).src) (ZrA _) ow) func72 rfl kr (Args.two .t .t)) r2 r1 qZ)))) V [8,7,6,5,3,2] [102,10,0] rfl rfl fun a w F G=>?_
   replace G:=G.turn 10 rfl (r':=RS.hp (Za7 (.pointer (some ⟨b,0,none⟩)) (ZfO l i))) (fun _ _ _ _ h=>⟨_,.inr rfl,by rw [show ZfO l i = [] ++ Ze0 (Nn l i).src by rw [hi0];simp [ZfO]];exact h⟩)
   refine Za (Zv G (qg 2 102 r1 r1 (qa 102 r1 r1 (qf (oP (ZpM (Nn l i).kind) func74 (Args.one .t)) r1 qz (qf (Zbx (.cs kr) .t (by simp only [Yd,Yl,Yy];omega)) r1 qz (qg 3 102 r1 r1 (qa 102 r1 r1 (qf (oP (Zi4 (Nn l i).key) func73 (Args.one .t)) r1 qz (qf (Zbx .t .t (by simp only [Yd,Yl,Yy];omega)) r2 qz (qf (Zbx .t (.cs kr) (by simp only [Yd,Yl,Yy];omega)) r1 qz (qg 1 102 r1 r1 (qa 102 r1 r1 (qf (oP (Zi4 (Nn l i).dst) func73 (Args.one .t)) r1 qz (qf (Zbx .t .t (by simp only [Yd,Yl,Yy];omega)) r2 qz (qf (ZK 10 (Zcs b (ZfO l i) ow (ZrR (Nn l i)) (by unfold ZrR;simp) ow) func72 rfl kr (Args.two .t .t)) r2 r1 qZ)))))))))))))) V [8,7,6,3,2] [10,0] rfl rfl fun a w F G=>?_)
   try dsimp only [List.map,xD,xE,xT,xU,ldSF,Zq] at G
   refine Zi (Za (rZ G (qp r1 (qR rr qZ)) V [8,7,6,3,2] [10,0] fun G=>?_))
   replace G:=G.turn 10 rfl (r':=RS.hp (Za7 (.pointer (some ⟨b,0,none⟩)) (ZgG l (i+1)))) (fun _ _ _ _ h=>⟨_,.inr rfl,by rw [← Zg0 hil];exact h⟩)
   replace G:=G.ent (i:=8) (s':=.pv (.int .i64 ((i+1:Nat):Int))) rfl (.int (Zd ow))
   obtain ⟨F,G⟩:=G.nM [7,6,3,2,8] [0,10]
   exact ⟨(i+1),F,⟨by omega,tv⟩,G,by omega⟩
  have hi0:¬ i=0:=by have h9:=YJ hc1;omega
  rw [Zpq hi0] at G
  refine Ye (Za (Zv G (qg 2 102 r1 r1 (qa 102 r1 r1 (qf (oP (ZpM (Nn l i).kind) func74 (Args.one .t)) r1 qz (qf (Zbx (.cs kr) .t (by simp only [Yd,Yl,Yy];omega)) r1 qz (qg 3 102 r1 r1 (qa 102 r1 r1 (qf (oP (Zi4 (Nn l i).key) func73 (Args.one .t)) r1 qz (qf (Zbx .t .t (by simp only [Yd,Yl,Yy];omega)) r2 qz (qf (Zbx .t (.cs kr) (by simp only [Yd,Yl,Yy];omega)) r1 qz (qg 1 102 r1 r1 (qa 102 r1 r1 (qf (oP (Zi4 (Nn l i).dst) func73 (Args.one .t)) r1 qz (qf (Zbx .t .t (by simp only [Yd,Yl,Yy];omega)) r2 qz (qf (ZK 10 (Zcs b (ZfO l i) ow (ZrR (Nn l i)) (by unfold ZrR;simp) ow) func72 rfl kr (Args.two .t .t)) r2 r1 qZ)))))))))))))) V [8,7,6,3,2] [10,0] rfl rfl fun a w F G=>?_))
  try dsimp only [List.map,xD,xE,xT,xU,ldSF,Zq] at G
  refine Zi (Za (rZ G (qp r1 (qR rr qZ)) V [8,7,6,3,2] [10,0] fun G=>?_))
  replace G:=G.turn 10 rfl (r':=RS.hp (Za7 (.pointer (some ⟨b,0,none⟩)) (ZgG l (i+1)))) (fun _ _ _ _ h=>⟨_,.inr rfl,by rw [← Zg0 hil];exact h⟩)
  replace G:=G.ent (i:=8) (s':=.pv (.int .i64 ((i+1:Nat):Int))) rfl (.int (Zd ow))
  obtain ⟨F,G⟩:=G.nM [7,6,3,2,8] [0,10]
  exact ⟨(i+1),F,⟨by omega,tv⟩,G,by omega⟩
 have hil:i=l.length:=by simp at hc0;omega
 rw [hil] at G
 refine Yw (Zj (Zj (Zo (Za (Ya (rZ G (qf (ZK 10 (ZqJ b (ZgG l l.length)) func75 rfl kr (Args.one .t)) r1 r1 (qO rr qZ)) V [2] [10,0] fun G=>Yh ?_))))))
 refine Zs hfr G rfl rfl rfl (.bs rfl)
def ZfM (l:List Zg):Bool:=decide ((∀ q,q<l.length→(Nn l q).dst=(Nn l ((q+1) % l.length)).src)∧0<l.length)
def ZeU (t:TxD) (key:Int) (p:Zb0→Bool):Bool:=t.ops.any fun o=>((o.read && decide (o.key=key)) && !decide (o.tx=t.id)) && p (ofO o)
def Zoj (g:Zr) (e:Zg):Bool:=if e.kind=1 then Zj3 g e.key e.src e.dst else if e.kind=2 then ZeU ((Z5 g.txs e.dst).getD zeroT) e.key (fun v=>decide (v.tx=e.src) && Zey g v) else if e.kind=3 then ZeU ((Z5 g.txs e.src).getD zeroT) e.key (fun v=>Zey g v && Zj3 g e.key v.tx e.dst) else false
def ZeW (g:Zr) (e:Zg):Bool:=!((!Zj6 g e.src || !Zj6 g e.dst) || decide (e.src=e.dst)) && Zoj g e
theorem Zpt (l:List Zg) (hl:l.length≤1000000):FnP prog 14 [.sl Zq l] (.bool (ZfM l)):=by
 refine FnP.mk func14 rfl ntmps14 rfl fun B a w F V hfr G=>Ya ?_
 refine rZ G qB V [2,0] [0] fun G=>(Ya (Ya ?_))
 refine rZ G (qR rr (qu Yce r1 (qJ qZ))) V [7,6,5,2,0] [0] fun G=>Yg ?_
 refine Zl (σ:=(Nat)) [0,2,5,6] [0] (fun s=>[(7,.pv (.int .i64 (s:Int)))]) (fun s=>[]) (fun s=>s≤l.length∧(∀ q,q<s→(Nn l q).dst=(Nn l ((q+1) % l.length)).src)) (fun s=>l.length - s) (0) G ⟨rfl,rfl,rfl,rfl,rfl,tv⟩ ⟨rfl,tv⟩ ⟨Yx _,fun q hq=>absurd hq (Y2 q)⟩ ?_
 clear G;intro i a w F hC G
 try dsimp only at hC
 obtain ⟨F,G⟩:=G.nM [7,6,5,2,0] [0]
 try dsimp only at G
 obtain ⟨hi,hq⟩:=hC
 refine Ya (rZ G (qL r2) V [8,7,6,5,2,0] [0] fun G=>Ya ?_)
 refine Zc G rfl (fun hc0=>?_) (fun hc0=>?_)
 ·have hil:i<l.length:=by simp at hc0;omega
  have hml:(i+1) % l.length<l.length:=Ybp _ ow
  have hmi:(IntKind.wrap .i64 ((i:Int)+1)).tmod (l.length:Int)=(((i+1) % l.length:Nat):Int):=by rw [Zd ow,Int.tmod_eq_emod_of_nonneg ow];rfl
  refine Ye (Za (Ya (Yg (Ya (Zb G (qR rr (qy 4 Yce r2 (qf (oR true 4 .t) r1 qz (qf (oH [.int .i64 0,.int .i64 0,.int .i64 0,.int .i64 0] 101) trivial qz (qO rr (qS 4 101 r2 r1 qZ)))))) V [7,6,5,4,3,2,0] [101,0] (fun _=>rfl) (fun _=>rfl) fun τ a w F G=>?_)))))
  try dsimp only [RS.sub,SF.sub,CF.sub,csub,Anc.sub,List.map,Zf,xL,xM,Nat.reduceAdd,xD,xE,xT,xU,xC,xN,zCF,ldSF,Zq] at G
  generalize τ 4=v4 at G
  try simp only [Yb] at G
  refine Za (Ya (Zv G (qg 1 101 r1 r1 (qa 101 r1 r1 (qR rr (qR rr (qp r1 (qR rr (qu Yce r1 (qf (Zvf .t .t ow) r2 qz (qf (o_indexAddr_sl (sz:=4) (.mk Yce kr) (by intro x;rfl) .t .t (by rw [hmi];omega) (by rw [hmi];omega)) r2 qz (qf (oG 0 .t) r1 qz (qf (oR false 1 .t) r1 qz (qf (o_neq .t .t) r2 qz qZ)))))))))))) V [23,7,6,5,2,0] [0] rfl rfl fun a w F G=>?_))
  try dsimp only [List.map,xD,xE,xT,xU,ldSF,Zq] at G
  try simp only [Yb] at G
  rw [hmi,Yb] at G
  refine Za (Zc G rfl (fun hc1=>?_) (fun hc1=>?_))
  ·have hg:false=ZfM l:=by unfold ZfM;rw [Yaq,YD];intro h9;have h8:=hc1;rw [h9.1 i hil] at h8;simp at h8
   refine Ya (rZ G qB V [7,6,5,2,0] [0] fun G=>(Yh (ZA (Zk (Zk (ZA (Zk ?_)))))))
   refine Zs hfr G rfl rfl rfl (.bool hg)
  have hne:(Nn l i).dst=(Nn l ((i+1) % l.length)).src:=by simpa using hc1
  refine Ye (Zi (Za (rZ G (qp r1 (qR rr qZ)) V [7,6,5,2,0] [0] fun G=>?_)))
  replace G:=G.ent (i:=7) (s':=.pv (.int .i64 ((i+1:Nat):Int))) rfl (.int (Zd ow))
  obtain ⟨F,G⟩:=G.nM [6,5,2,0,7] [0]
  exact ⟨(i+1),F,⟨by omega,(fun q h9=>by rcases Y0 (Y7 h9) with h8 | h8;exact hq q h8;rw [h8];exact hne)⟩,G,by omega⟩
 have hil:i=l.length:=by simp at hc0;omega
 have hg:decide ((0:Int)<(l.length:Int))=ZfM l:=by unfold ZfM;rw [decide_eq_decide];constructor;exact fun h9=>⟨by rw [hil] at hq;exact hq,by omega⟩;exact fun h9=>by have:=h9.2;omega
 refine Yw (Zj (Zj (Zo (Za (Ya (rZ G (qR rr (qu Yce r1 (qf (ZaP .t qi) r1 qz (qO rr qZ)))) V [2] [0] fun G=>Yh ?_))))))
 refine Zs hfr G rfl rfl rfl (.bool hg)
theorem ZlV (t : TxD) (key : Int) (ht : t.ops.length ≤ 1000000) (p : Zb0 → Bool) (f : FuncId) (fn : Func) (cps : List PV) (hf : prog.funcs[f]? = some fn) (hb : fn.body.isSome = true) (hnn : (fn.name == "runtime.NumGoroutine") = false) (hw : ∀ v : Zb0, FnP prog f (.agg (ZT v) :: cps) (.bool (p v))) : FnP prog 82 [.agg (rTx t), .int .i64 key, .clos f cps] (.bool (ZeU t key p)) := by
 refine FnP.mk func82 rfl ntmps82 rfl fun B a w F V hfr G=>Ya ?_
 refine Zb G (qx 101 r1 qB) V [6,3,2,1] [101,0] (fun _=>rfl) (fun _=>rfl) fun τ a w F G=>?_
 try dsimp only [RS.sub,SF.sub,CF.sub,csub,Anc.sub,List.map,zCF,rTx,rOp,ZT] at G
 generalize τ 3=v3 at G
 refine Za (Ya (Ya (rZ G (qg 2 101 r1 r1 (qa 101 r1 r1 (qu Yci r1 (qJ qZ)))) V [12,11,10,6,3,2,1] [101,0] fun G=>Yg ?_)))
 refine Zl (σ:=(Nat)) [1,2,3,6,10,11] [0,101] (fun s=>[(12,.pv (.int .i64 (s:Int)))]) (fun s=>[]) (fun s=>s≤t.ops.length∧(∀ q,q<s→(fun o:OpD=>((o.read && decide (o.key=key)) && !decide (o.tx=t.id)) && p (ofO o)) (Nn t.ops q)=false)) (fun s=>t.ops.length - s) (0) G ⟨rfl,rfl,rfl,rfl,rfl,rfl,rfl,tv⟩ ⟨rfl,rfl,tv⟩ ⟨Yx _,fun q hq=>absurd hq (Y2 q)⟩ ?_
 clear G;intro i a w F hC G
 try dsimp only at hC
 obtain ⟨F,G⟩:=G.nM [12,11,10,6,3,2,1] [101,0]
 try dsimp only at G
 obtain ⟨hi,hq⟩:=hC
 refine Ya (rZ G (qL r2) V [13,12,11,10,6,3,2,1] [101,0] fun G=>Ya ?_)
 refine Zc G rfl (fun hc0=>?_) (fun hc0=>?_)
 ·skip
  have hil:i<t.ops.length:=by simp at hc0;omega
  refine Ye (Za (Ya (Yg (Ya (Zb G (qy 4 Yci r2 (qf (oR true 4 .t) r1 qz (qf (oH [.bool false,.int .i64 0,.int .i64 0,.int .i64 0] 102) trivial qz (qS 4 102 r2 r1 qZ)))) V [12,11,10,8,6,3,2,1] [102,101,0] (fun _=>rfl) (fun _=>rfl) fun τ a w F G=>?_)))))
  try dsimp only [RS.sub,SF.sub,CF.sub,csub,Anc.sub,List.map,Zf,xL,xM,Nat.reduceAdd,xD,xE,xT,xU,xC,xN,zCF,ldSF,rTx,rOp,ZT] at G
  generalize τ 8=v8 at G
  try simp only [Yb] at G
  refine Za (Ya (rZ G (qg 0 102 r1 r1 (qa 102 r1 r1 (qR rr (qv 1 102 rfl r2 r1 (qw 102 rfl r2 r1 (qm rfl rfl rfl rfl (qk rfl (fun h=>o_eql (.w h) (.w h)) r3 qz (qf (ZE .t .t) r2 qz (qR rr (qv 2 102 rfl r2 r1 (qw 102 rfl r2 r1 (qv 0 101 rfl r2 r1 (qw 101 rfl r2 r1 (qk rfl (fun h=>o_neq (.w h) (.w h)) r3 qz (qf (ZE .t .t) r2 qz (qR rr (qm rfl rfl rfl rfl (qk rfl (fun h=>oL true 4 102 .is) r2 r1 (qk rfl (fun h=>oP (ZlS (Nn t.ops i)) func120 (Args.one (.pagg (.w h)))) r2 qz (qk rfl (fun h=>ZM (avs:=[.agg (ZT (ofO (Nn t.ops i)))]) (.w h) (hw (ofO (Nn t.ops i))) hf hb hnn (Args.one (.w h))) r3 qz (qf (ZE .t .t) r2 qz qZ))))))))))))))))))))) V [36,12,11,10,6,3,2,1] [102,101,0] fun G=>?_))
  refine Zc G rfl (fun hc1=>?_) (fun hc1=>?_)
  ·skip
   have hg:true=ZeU t key p:=(Yaz.2 ⟨(Nn t.ops i),nth_mem hil,hc1⟩).symm
   refine Ya (rZ G qB V [12,11,10,6,3,2,1] [102,101,0] fun G=>(Yh (ZA (Zk (Zk (ZA (Zk ?_)))))))
   refine Zs hfr G rfl rfl rfl (.bool hg)
  have hne:(fun o:OpD=>((o.read && decide (o.key=key)) && !decide (o.tx=t.id)) && p (ofO o)) (Nn t.ops i)=false:=hc1
  refine Ye (Zi (Za (rZ G (qp r1 (qR rr qZ)) V [12,11,10,6,3,2,1] [102,101,0] fun G=>?_)))
  replace G:=G.ent (i:=12) (s':=.pv (.int .i64 ((i+1:Nat):Int))) rfl (.int (Zd ow))
  obtain ⟨F,G⟩:=G.nM [11,10,6,3,2,1,12] [101,0]
  exact ⟨(i+1),F,⟨by omega,(fun q h9=>by rcases Y0 (Y7 h9) with h8 | h8;exact hq q h8;rw [h8];exact hne)⟩,G,by omega⟩
 have hil:i=t.ops.length:=by simp at hc0;omega
 have hg:false=ZeU t key p:=by unfold ZeU;rw [Yaq,List.any_eq_false];intro o ho;obtain ⟨q,h8,rfl⟩:=Ya0.1 ho;rw [← nth_eq h8,Bool.not_eq_true];exact hq q ow
 refine Yw (Zj (Zj (Zo (Za (Ya (rZ G qB V [6] [101,0] fun G=>Yh ?_))))))
 refine Zs hfr G rfl rfl rfl (.bool hg)
theorem Zr0 (g:Zr) (e:Zg) (v:Zb0) (hs:Za9 g):FnP prog 83 [.agg (ZT v),.ref (Zq e),.ref [.sl rTx g.txs,.sl ZJ g.orders]] (.bool (decide (v.tx=e.src) && Zey g v)):=by
 refine FnP.mk func83 rfl ntmps83 rfl fun B a w F V hfr G=>Ya ?_
 refine Zb G (qx 101 r1 qB) V [4,3,2,1] [101,0] (fun _=>rfl) (fun _=>rfl) fun τ a w F G=>?_
 try dsimp only [RS.sub,SF.sub,CF.sub,csub,Anc.sub,List.map,zCF,Zw,rTx,ZJ,ZT,Zn,rOp,Zq] at G
 generalize τ 3=v3 at G
 refine Za (Ya (rZ G (qg 0 101 r1 r1 (qa 101 r1 r1 (qf (oG 0 .t) r1 qz (qf (oR false 1 .t) r1 qz (qf (o_eql .t .t) r2 qz (qR rr (qk rfl (fun h=>oR true 2 .t) r2 qz (qk rfl (fun h=>oL true 3 101 .is) r2 r1 (qk rfl (fun h=>oP (ZoL g v hs.1) func84 (Args.two (.pagg (.w h)) (.pagg (.w h)))) r3 qz (qf (ZE .t .t) r2 qz (qO rr qZ))))))))))) V [4] [101,0] fun G=>Yh ?_))
 refine Zs hfr G rfl rfl rfl (.bool rfl)
theorem ZrW (g:Zr) (e:Zg) (v:Zb0) (hs:Za9 g):FnP prog 85 [.agg (ZT v),.ref [.sl rTx g.txs,.sl ZJ g.orders],.ref (Zq e)] (.bool (Zey g v && Zj3 g e.key v.tx e.dst)):=by
 refine FnP.mk func85 rfl ntmps85 rfl fun B a w F V hfr G=>Ya ?_
 refine Zb G (qx 101 r1 qB) V [4,3,2,1] [101,0] (fun _=>rfl) (fun _=>rfl) fun τ a w F G=>?_
 try dsimp only [RS.sub,SF.sub,CF.sub,csub,Anc.sub,List.map,zCF,Zw,rTx,ZJ,ZT,Zn,rOp,Zq] at G
 generalize τ 3=v3 at G
 refine Za (Ya (rZ G (qf (oR true 2 .t) r1 qz (qe 3 101 r1 r1 (qf (oP (ZoL g v hs.1) func84 (Args.two (.pagg .t) (.pagg .t))) r2 qz (qR rr (qk rfl (fun h=>oR true 2 .t) r2 qz (qk rfl (fun h=>oG 3 .t) r2 qz (qk rfl (fun h=>oR false 1 (.w h)) r2 qz (qv 0 101 rfl r2 r1 (qw 101 rfl r2 r1 (qk rfl (fun h=>oG 1 .t) r2 qz (qk rfl (fun h=>oR false 1 (.w h)) r2 qz (qk rfl (fun h=>oP (ZoF g e.key v.tx e.dst hs) func81 (Args.four (.pagg (.w h)) (.w h) (.w h) (.w h))) r5 qz (qf (ZE .t .t) r2 qz (qO rr qZ)))))))))))))) V [4] [101,0] fun G=>Yh ?_))
 refine Zs hfr G rfl rfl rfl (.bool rfl)
theorem ZuC (g:Zr) (e:Zg) (hs:Za9 g):FnP prog 43 [.agg (Zw g),.agg (Zq e)] (.bool (ZeW g e)):=by
 refine FnP.mk func43 rfl ntmps43 rfl fun B a w F V hfr G=>Ya ?_
 refine Zb G (qx 101 r1 (qx 102 r1 qB)) V [4,3,2] [102,101,0] (fun _=>rfl) (fun _=>rfl) fun τ a w F G=>?_
 try dsimp only [RS.sub,SF.sub,CF.sub,csub,Anc.sub,List.map,zCF,Zw,rTx,ZJ,ZT,Zn,rOp,Zq] at G
 generalize τ 2=v2,τ 3=v3 at G
 obtain ⟨F,G⟩:=G.giveRef 101 2 rfl rfl rfl
 obtain ⟨F,G⟩:=G.nM [4,3,2] [102,0]
 try dsimp only [Go.Gm.unCF] at G
 obtain ⟨F,G⟩:=G.giveRef 102 3 rfl rfl rfl
 obtain ⟨F,G⟩:=G.nM [4,3,2] [0]
 try dsimp only [Go.Gm.unCF] at G
 refine Za (Ya (Zb G (qf (oR true 2 .t) r1 qz (qf (oG 0 .t) r1 qz (qf (oR false 1 .t) r1 qz (qf (oP (Zkn g e.src hs.1) func80 (Args.two (.pagg .t) .t)) r2 qz (qR rr (qf (Zh .t rfl) r1 qz (qf (Zh .t rfl) r1 qz (qf (oH [.int .i64 0,.bool false,.slice none 0 0] 103) trivial qz (qf (oA 3 103 .same (.conv .t .agg)) r2 r1 (qO rr qZ)))))))))) V [6,5,4,3,2] [103,0] (fun _=>rfl) (fun _=>rfl) fun τ a w F G=>?_))
 try dsimp only [RS.sub,SF.sub,CF.sub,csub,Anc.sub,List.map,Zf,xL,xM,Nat.reduceAdd,xD,xE,xT,xU,xC,xN,zCF,ldSF,Zw,rTx,ZJ,ZT,Zn,rOp,Zq] at G
 generalize τ 5=v5 at G
 refine Za (Ya (Zb G (qf (oR true 2 .t) r1 qz (qf (oG 1 .t) r1 qz (qf (oR false 1 .t) r1 qz (qf (oP (Zkn g e.dst hs.1) func80 (Args.two (.pagg .t) .t)) r2 qz (qR rr (qf (Zh .t rfl) r1 qz (qf (Zh .t rfl) r1 qz (qf (oH [.int .i64 0,.bool false,.slice none 0 0] 104) trivial qz (qf (oA 3 104 .same (.conv .t .agg)) r2 r1 (qO rr qZ)))))))))) V [8,7,6,5,4,3,2] [104,103,0] (fun _=>rfl) (fun _=>rfl) fun τ a w F G=>?_))
 try dsimp only [RS.sub,SF.sub,CF.sub,csub,Anc.sub,List.map,Zf,xL,xM,Nat.reduceAdd,xD,xE,xT,xU,xC,xN,zCF,ldSF,Zw,rTx,ZJ,ZT,Zn,rOp,Zq] at G
 generalize τ 7=v7 at G
 refine Za (Ya (Ya (rZ G (qR rr (qf (o_not .t) r1 qz (qR rr (qm rfl rfl rfl rfl (qk rfl (fun h=>o_not (.w h)) r2 qz (qf (Zal .t .t) r2 qz (qR rr (qk rfl (fun h=>oG 0 .t) r2 qz (qk rfl (fun h=>oR false 1 (.w h)) r2 qz (qk rfl (fun h=>oG 1 .t) r2 qz (qk rfl (fun h=>oR false 1 (.w h)) r2 qz (qk rfl (fun h=>o_eql (.w h) (.w h)) r3 qz (qf (Zal .t .t) r2 qz qZ))))))))))))) V [35,7,5,4,3,2] [104,103,0] fun G=>?_)))
 refine Zc G rfl (fun hc0=>?_) (fun hc0=>?_)
 ·have hg:false=ZeW g e:=by unfold ZeW;rw [hc0];rfl
  refine Ya (rZ G qB V [7,5,4,3,2] [104,103,0] fun G=>(Yh (Zk ?_)))
  refine Zs hfr G rfl rfl rfl (.bool hg)
 have hF:((!Zj6 g e.src || !Zj6 g e.dst) || decide (e.src=e.dst))=false:=hc0
 refine Ye (Za (Ya (Ya (rZ G (qf (oG 2 .t) r1 qz (qf (oR false 1 .t) r1 qz qZ)) V [37,7,5,4,3,2] [104,103,0] fun G=>(Yg (Ya ?_))))))
 refine rZ G (qf (o_eql .t qi) r1 qz (qO rr qZ)) V [38,37,7,5,4,3,2] [104,103,0] fun G=>?_
 refine Zc G rfl (fun hc1=>?_) (fun hc1=>?_)
 ·have hk1:e.kind=1:=Yt hc1
  have hg:Zj3 g e.key e.src e.dst=ZeW g e:=by unfold ZeW Zoj;rw [hF,Yf hk1];rfl
  refine Ya (rZ G (qf (oR true 2 .t) r1 qz (qf (oG 3 .t) r1 qz (qf (oR false 1 .t) r1 qz (qf (oG 0 .t) r1 qz (qf (oR false 1 .t) r1 qz (qf (oG 1 .t) r1 qz (qf (oR false 1 .t) r1 qz (qf (oP (ZoF g e.key e.src e.dst hs) func81 (Args.four (.pagg .t) .t .t .t)) r4 qz (qO rr qZ))))))))) V [4] [104,103,0] fun G=>(Yh (ZA (Zk ?_))))
  refine Zs hfr G rfl rfl rfl (.bool hg)
 have hn1:¬ e.kind=1:=YJ hc1
 refine Ya (rZ G (qf (o_eql .t qi) r1 qz (qO rr qZ)) V [48,37,7,5,4,3,2] [104,103,0] fun G=>?_)
 refine Zc G rfl (fun hc2=>?_) (fun hc2=>?_)
 ·have hk2:e.kind=2:=Yt hc2
  have hg:ZeU ((Z5 g.txs e.dst).getD zeroT) e.key (fun v=>decide (v.tx=e.src) && Zey g v)=ZeW g e:=by unfold ZeW Zoj;rw [hF,Yc hn1,Yf hk2];rfl
  refine Ya (rZ G (qe 3 104 r1 r1 (qf (oG 3 .t) r1 qz (qf (oR false 1 .t) r1 qz (qf (ZaT (Args.two .t .t)) r2 qz (qf (oP (ZlV ((Z5 g.txs e.dst).getD zeroT) e.key (Zhz hs.1 _) (fun v=>decide (v.tx=e.src) && Zey g v) 83 f83 [.ref (Zq e),.ref [.sl rTx g.txs,.sl ZJ g.orders]] func83 rfl kr (fun v=>Zr0 g e v hs)) func82 (Args.three (.pagg .t) .t .t)) r3 qz (qO rr qZ)))))) V [4] [104,103,0] fun G=>(Yh (ZA (Zk ?_))))
  refine Zs hfr G rfl rfl rfl (.bool hg)
 have hn2:¬ e.kind=2:=YJ hc2
 refine Ya (rZ G (qf (o_eql .t qi) r1 qz (qO rr qZ)) V [55,5,4,3,2] [104,103,0] fun G=>?_)
 refine Zc G rfl (fun hc3=>?_) (fun hc3=>?_)
 ·have hk3:e.kind=3:=Yt hc3
  have hg:ZeU ((Z5 g.txs e.src).getD zeroT) e.key (fun v=>Zey g v && Zj3 g e.key v.tx e.dst)=ZeW g e:=by unfold ZeW Zoj;rw [hF,Yc hn1,Yc hn2,Yf hk3];rfl
  refine Ya (rZ G (qe 3 103 r1 r1 (qf (oG 3 .t) r1 qz (qf (oR false 1 .t) r1 qz (qf (ZaT (Args.two .t .t)) r2 qz (qf (oP (ZlV ((Z5 g.txs e.src).getD zeroT) e.key (Zhz hs.1 _) (fun v=>Zey g v && Zj3 g e.key v.tx e.dst) 85 f85 [.ref [.sl rTx g.txs,.sl ZJ g.orders],.ref (Zq e)] func85 rfl kr (fun v=>ZrW g e v hs)) func82 (Args.three (.pagg .t) .t .t)) r3 qz (qO rr qZ)))))) V [4] [104,103,0] fun G=>(Yh (ZA (Zk ?_))))
  refine Zs hfr G rfl rfl rfl (.bool hg)
 have hn3:¬ e.kind=3:=YJ hc3
 have hg:false=ZeW g e:=by unfold ZeW Zoj;rw [hF,Yc hn1,Yc hn2,Yc hn3];rfl
 refine Ye (Zi (Za (Ya (rZ G qB V [4] [104,103,0] fun G=>Yh ?_))))
 refine Zs hfr G rfl rfl rfl (.bool hg)
def Zin:ZqS:=⟨5,[⟨1,2,3,1⟩,⟨2,1,3,2⟩],Zsq⟩
theorem ZmG:∀ i:Nat,i<Zin.walk.length→ZeW Zd8 (Nn Zin.walk i)=true:=fun i hi=>by
 rcases (show i=0∨i=1 by have:Zin.walk.length=2:=rfl;omega) with rfl | rfl <;> decide +kernel
theorem Zvd  : FnP prog 33 [.agg (Zw Zd8),.agg (ZkJ Zin)] (.bool true):=by
 refine FnP.mk func33 rfl ntmps33 rfl fun B a w F V hfr G=>Ya ?_
 refine Zb G (qx 101 r1 (qx 102 r1 qB)) V [4,3,2] [102,101,0] (fun _=>rfl) (fun _=>rfl) fun τ a w F G=>?_
 try dsimp only [RS.sub,SF.sub,CF.sub,csub,Anc.sub,List.map,zCF,Zw,rTx,ZJ,ZT,Zn,rOp,Zq,ZkJ] at G
 generalize τ 2=v2,τ 3=v3 at G
 refine Za (Ya (Ya (rZ G (qe 2 101 r1 r1 (qf (oP (Zff Zd8 Zdk.1) func19 (Args.one (.pagg .t))) r1 qz (qf (o_not .t) r1 qz qZ))) V [13,4,3,2] [102,101,0] fun G=>?_)))
 refine Zc G rfl (fun hc0=>?_) (fun hc0=>?_)
 ·exact absurd hc0 (by decide +kernel)
 refine Ye (Za (Ya (Zb G (qe 2 101 r1 r1 (qf (oB [(0,.tmp 14)] [.slice none 0 0,.slice none 0 0] [(0,2)] (.agg rfl .t kr kr .nil)) r1 qz (qf (oH [.slice none 0 0,.slice none 0 0] 103) trivial qz (qS 2 103 r2 r1 qZ)))) V [5,4,3] [103,102,101,0] (fun _=>rfl) (fun _=>rfl) fun τ a w F G=>?_)))
 try dsimp only [RS.sub,SF.sub,CF.sub,csub,Anc.sub,List.map,Zf,xL,xM,Nat.reduceAdd,xD,xE,xT,xU,xC,xN,zCF,ldSF,Zw,rTx,ZJ,ZT,Zn,rOp,Zq,ZkJ] at G
 generalize τ 5=v5 at G
 refine Za (Ya (Ya (rZ G (qg 0 102 r1 r1 (qa 102 r1 r1 qZ)) V [17,5,4,3] [103,102,101,0] fun G=>(Yg (Ya (Ya ?_))))))
 refine rZ G (qf (o_eql .t qi) r1 qz (qO rr qZ)) V [18,17,5,4,3] [103,102,101,0] fun G=>?_
 refine Zc G rfl (fun hc1=>?_) (fun hc1=>?_)
 ·exact absurd hc1 (by decide)
 refine rZ G (qf (o_eql .t qi) r1 qz (qO rr qZ)) V [18,5,4,3] [103,102,101,0] fun G=>?_
 refine Zc G rfl (fun hc2=>?_) (fun hc2=>?_)
 ·exact absurd hc2 (by decide)
 refine Ye (Zi (Za (Ya (rZ G (qg 0 102 r1 r1 (qa 102 r1 r1 (qf (oP (ZkF Zin.phen) func68 (Args.one .t)) r1 qz (qR rr (qf (Zh .t rfl) r1 qz (qf (Zh .t rfl) r1 qz (qO rr (qO rr qZ)))))))) V [7,6,5,4,3] [103,102,101,0] fun G=>Ya ?_))))
 refine rZ G (qg 1 102 r1 r1 (qa 102 r1 r1 (qf (oP (ZuD Zin.walk (by decide)) func71 (Args.one .t)) r1 qz (qO rr qZ)))) V [8,7,6,5,4,3] [103,102,101,0] fun G=>(Ya (Ya ?_))
 refine Ze G (qR rr (qf (o_eql .t qi) r1 qz (qR rr (qv 2 102 rfl r2 r1 (qk rfl (fun h=>oL true 5 102 (.w h .adr)) r2 r1 (qk rfl (fun h=>ZkA (r:=[]) (zs:=[.int .i64 0,.int .i64 0,.int .i64 0,.int .i64 0,.int .i64 0]) (pl:=[(0,1),(1,1),(2,3)]) kr kr .nil (by rfl)) r1 qz (qk rfl (fun h=>ZvB (ks:=[true,true,true,true,true]) kr (.w h) (.w h) (.int (.int (.int (.int (.int .nil)))))) r3 qz (qf (Zal .t .t) r2 qz (qR rr (qv 1 102 rfl r2 r1 (qw 102 rfl r2 r1 (qk rfl (fun h=>oP (Zpt Zin.walk (by decide)) func14 (Args.one (.w h))) r2 qz (qk rfl (fun h=>o_not (.w h)) r2 qz (qf (Zal .t .t) r2 qz (qR rr (qm rfl rfl rfl rfl (qm rfl rfl rfl rfl (qk rfl (fun h=>Zk1 (.w h) (.w h)) r3 qz (qk rfl (fun h=>o_neq (.w h) qi) r2 qz (qf (Zal .t .t) r2 qz (qR rr (qm rfl rfl rfl rfl (qk rfl (fun h=>o_neq (.w h) qi) r2 qz (qk rfl (fun h=>oM (.w h)) r2 qz (ZB.cons (ZaF.cond2 rfl rfl (fun h=>Za3 .t (by rfl))) r2 qz (ZB.cons (ZaF.cond2 rfl rfl (fun h=>Za3 .t (by rfl))) r2 qz (ZB.cons (ZaF.cond2 rfl rfl (fun h=>o_and (.w h) (.w h))) r3 qz (ZB.cons (ZaF.cond2 rfl rfl (fun h=>o_eql (.w h) qi)) r2 qz (qk rfl (fun h=>ZE (.w h) (.wc h)) r3 qz (qf (Zal .t .t) r2 qz qZ)))))))))))))))))))))))))))))) V [71,5,4,3] [103,102,101,0] rfl rfl fun a w F G=>?_
 try dsimp only [List.map,Zf,xL,xM,Nat.reduceAdd,xD,xE,xT,xU,xC,xN,zCF,ldSF,Zw,rTx,ZJ,ZT,Zn,rOp,Zq,ZkJ] at G
 refine Za (Zc G rfl (fun hc3=>?_) (fun hc3=>?_))
 ·exact absurd hc3 (by decide +kernel)
 refine Ye (Za (Ya (Ya (rZ G (qg 1 102 r1 r1 (qa 102 r1 r1 (qu Yce r1 (qJ qZ)))) V [75,74,73,5,4] [103,102,101,0] fun G=>Yg ?_))))
 refine Zl (σ:=(Nat)) [4,5,73,74] [0,101,102,103] (fun s=>[(75,.pv (.int .i64 (s:Int)))]) (fun s=>[]) (fun s=>s≤Zin.walk.length∧(True)) (fun s=>Zin.walk.length - s) (0) G ⟨rfl,rfl,rfl,rfl,rfl,tv⟩ ⟨rfl,rfl,rfl,rfl,tv⟩ ⟨Yx _,tv⟩ ?_
 clear G;intro i a w F hC G
 try dsimp only at hC
 obtain ⟨F,G⟩:=G.nM [75,74,73,5,4] [103,102,101,0]
 try dsimp only at G
 obtain ⟨hi,hq⟩:=hC
 have hwl:Zin.walk.length=2:=rfl
 refine Ya (rZ G (qL r2) V [76,75,74,73,5,4] [103,102,101,0] fun G=>Ya ?_)
 refine Zc G rfl (fun hc4=>?_) (fun hc4=>?_)
 ·have hil:i<Zin.walk.length:=by simp at hc4;omega
  refine Ye (Za (Ya (Yg (Ya (Zb G (qy 4 Yce r2 (qf (oR true 4 .t) r1 qz (qf (oH [.int .i64 0,.int .i64 0,.int .i64 0,.int .i64 0] 104) trivial qz (qS 4 104 r2 r1 qZ)))) V [75,74,73,10,5,4] [104,103,102,101,0] (fun _=>rfl) (fun _=>rfl) fun τ a w F G=>?_)))))
  try dsimp only [RS.sub,SF.sub,CF.sub,csub,Anc.sub,List.map,Zf,xL,xM,Nat.reduceAdd,xD,xE,xT,xU,xC,xN,zCF,ldSF,Zw,rTx,ZJ,ZT,Zn,rOp,Zq,ZkJ] at G
  generalize τ 10=v10 at G
  try simp only [Yb] at G
  refine Za (Ya (rZ G (qe 2 103 r1 r1 (qe 4 104 r1 r1 (qf (oP (ZuC Zd8 (Nn Zin.walk i) Zdk.1) func43 (Args.two (.pagg .t) (.pagg .t))) r2 qz (qf (o_not .t) r1 qz qZ)))) V [82,75,74,73,5,4] [104,103,102,101,0] fun G=>?_))
  refine Zc G rfl (fun hc5=>?_) (fun hc5=>?_)
  ·rw [ZmG i hil] at hc5;cases hc5
  refine Ye (Zi (Za (rZ G (qp r1 (qR rr qZ)) V [75,74,73,5,4] [104,103,102,101,0] fun G=>?_)))
  replace G:=G.ent (i:=75) (s':=.pv (.int .i64 ((i+1:Nat):Int))) rfl (.int (Zd ow))
  obtain ⟨F,G⟩:=G.nM [74,73,5,4,75] [103,102,101,0]
  exact ⟨(i+1),F,⟨by omega,tv⟩,G,by omega⟩
 have hil:i=Zin.walk.length:=by simp at hc4;omega
 refine Yw (Zj (Zj (Zo (Za (Ya (rZ G qB V [4] [103,102,101,0] fun G=>Yh ?_))))))
 refine Zs hfr G rfl rfl rfl .refl
section
variable {B B':Zg→Prop} {m:Zg→Bool} {need:Bool}
theorem Zrg {i:Int} {w:List Zg} (h:CwE B m need i w):∃ e,w.head? = some e∧B e∧e.src=i:=by
 cases w with
 | nil=>exact absurd rfl h.1
 | cons e w=>exact ⟨e,rfl,h.2.1.1,h.2.1.2.1⟩
end
theorem ZlJ {α:Type} {P:α→Prop} {R:α→α→Prop} (tot:∀ a b,P a→P b→R a b∨R b a) (tr:∀ a b c,P a→P b→P c→R a b→R b c→R a c):∀ L:List α,(∃ a ∈ L,P a) → ∃ a ∈ L,P a ∧ ∀ b ∈ L,P b→R a b
 | [],h=>by obtain ⟨a,h,_⟩:=h;cases h
 | x :: L,h=>by
  by_cases hL:∃ a ∈ L,P a
  ·obtain ⟨a,a1,a2,a3⟩:=ZlJ tot tr L hL
   by_cases hx:P x
   ·rcases tot x a hx a2 with k | k
    ·refine ⟨x,by simp,hx,fun b hb hp=>?_⟩
     rcases Yj.1 hb with rfl | hb
     ·rcases tot b b hp hp with q | q <;> exact q
     ·exact tr _ _ _ hx a2 hp k (a3 b hb hp)
    ·refine ⟨a,by simp [a1],a2,fun b hb hp=>?_⟩
     rcases Yj.1 hb with rfl | hb
     ·exact k
     ·exact a3 b hb hp
   ·refine ⟨a,by simp [a1],a2,fun b hb hp=>?_⟩
    rcases Yj.1 hb with rfl | hb
    ·exact absurd hp hx
    ·exact a3 b hb hp
  ·obtain ⟨a,a1,a2⟩:=h
   have e:a=x:=(Yj.1 a1).resolve_right fun k=>hL ⟨a,k,a2⟩
   subst e
   refine ⟨a,by simp,a2,fun b hb hp=>?_⟩
   rcases Yj.1 hb with rfl | hb
   ·rcases tot b b hp hp with q | q <;> exact q
   ·exact absurd ⟨b,hb,hp⟩ hL
def Zi6 (l:List Zg):Nat→List (List Zg)
 | 0=>[[]]
 | k+1=>l.flatMap fun e=>(Zi6 l k).map (e :: ·)
theorem ZgZ {l:List Zg} : ∀ {w:List Zg},(∀ e ∈ w,e ∈ l)→w ∈ Zi6 l w.length
 | [],_=>by simp [Zi6]
 | e :: w,h=>by
  show e :: w ∈ l.flatMap _
  exact YaH.2 ⟨e,h e (by simp),Yv.2 ⟨w,ZgZ fun x hx=>h x (by simp [hx]),rfl⟩⟩
def RwE (w v:List Zg):Prop:=∃ x y,w.head? = some x∧v.head? = some y∧(x.src<y.src∨(x.src=y.src∧(v=w∨LtE w v)))
theorem LtE.trans:∀ {w v u:List Zg},LtE w v→LtE v u→LtE w u
 | x :: w,y :: v,z :: u,h,k=>by
  rcases h with h | ⟨rfl,h⟩ <;> rcases k with k | ⟨rfl,k⟩
  ·left;unfold ltK at *;omega
  ·exact .inl h
  ·exact .inl k
  ·exact .inr ⟨rfl,h.trans k⟩
 | [],_,_,h,_=>h.elim
 | _ :: _,[],_,h,_=>h.elim
 | _ :: _,_ :: _,[],_,k=>k.elim
theorem ZpF {B:Zg→Prop} {a b c:Int} : ∀ {w v:List Zg},w.length=v.length→Zck B a w b→Zck B a v c→w=v∨LtE w v∨LtE v w
 | [],[],_,_,_=>.inl rfl
 | x :: w,y :: v,hl,h,k=>by
  by_cases e:x=y
  ·subst e
   rcases ZpF (by simpa using hl) h.2.2 k.2.2 with q | q | q
   ·exact .inl (by rw [q])
   ·exact .inr (.inl (.inr ⟨rfl,q⟩))
   ·exact .inr (.inr (.inr ⟨rfl,q⟩))
  ·have hs:x.src=y.src:=h.2.1.trans k.2.1.symm
   have:ltK x y∨ltK y x:=by
    apply Ybv
    intro hn
    apply e
    cases x;cases y
    unfold ltK at hn
    simp only [Zg.mk.injEq] at *
    omega
   rcases this with q | q
   ·exact .inr (.inl (.inl q))
   ·exact .inr (.inr (.inl q))
 | [],_ :: _,hl,_,_=>by simp at hl
 | _ :: _,[],hl,_,_=>by simp at hl
theorem Zsd {l:List Zg} {m:Zg→Bool} {need:Bool} (h:∃ i w,CwE (· ∈ l) m need i w):∃ w,Zda (· ∈ l) m need w:=by
 obtain ⟨k,⟨k0,i,w,hw,hk⟩,hmin⟩:=ZoU (P:=fun k=>0≤k ∧ ∃ i w,CwE (· ∈ l) m need i w∧(w.length:Int)=k) (fun x hx=>hx.1) (u:=((Classical.choose (YbN h)).length:Int)) ⟨by omega,_,_,YbN (YbN h),rfl⟩
 have hin:∀ {i:Int} {v:List Zg},CwE (· ∈ l) m need i v→v.length=w.length→v ∈ Zi6 l w.length:=fun hv hl=>by
  rw [← hl];exact ZgZ (Zfn hv.2.1)
 have hh:∀ {i:Int} {v:List Zg},CwE (· ∈ l) m need i v → ∃ x,v.head? = some x∧x.src=i:=fun hv=>by
  obtain ⟨x,x1,_,x3⟩:=Zrg hv;exact ⟨x,x1,x3⟩
 obtain ⟨v,v1,⟨j,v2⟩,v3⟩:=ZlJ (P:=fun v=>∃ i,CwE (· ∈ l) m need i v∧v.length=w.length) (R:=RwE) (fun a b ⟨i,ha,la⟩ ⟨j,hb,lb⟩=>by
   obtain ⟨x,x1,x2⟩:=hh ha
   obtain ⟨y,y1,y2⟩:=hh hb
   by_cases e:i=j
   ·subst e
    rcases ZpF ow ha.2.1 hb.2.1 with q | q | q
    ·exact .inl ⟨x,y,x1,y1,.inr ⟨by omega,.inl q.symm⟩⟩
    ·exact .inl ⟨x,y,x1,y1,.inr ⟨by omega,.inr q⟩⟩
    ·exact .inr ⟨y,x,y1,x1,.inr ⟨by omega,.inr q⟩⟩
   ·by_cases hlt:i<j
    ·exact .inl ⟨x,y,x1,y1,.inl ow⟩
    ·exact .inr ⟨y,x,y1,x1,.inl ow⟩) (fun a b c _ _ _ ⟨x,y,x1,y1,h1⟩ ⟨y',z,y2,z1,h2⟩=>by
   have e:y' = y:=Ya9 (y2.symm.trans y1)
   subst e
   refine ⟨x,z,x1,z1,?_⟩
   rcases h1 with h1 | ⟨h1,h3⟩ <;> rcases h2 with h2 | ⟨h2,h4⟩
   ·exact .inl ow
   ·exact .inl ow
   ·exact .inl ow
   ·refine .inr ⟨by omega,?_⟩
    rcases h3 with rfl | h3 <;> rcases h4 with rfl | h4
    ·exact .inl rfl
    ·exact .inr h4
    ·exact .inr h3
    ·exact .inr (h3.trans h4)) (Zi6 l w.length) ⟨w,hin hw rfl,i,hw,rfl⟩
 refine ⟨v,j,v2.1,fun j' w' k=>?_⟩
 have hlen:=hmin (w'.length:Int) ⟨by omega,j',w',k,rfl⟩
 by_cases hl:w'.length=w.length
 ·refine .inr ⟨by rw [hl,v2.2],?_⟩
  obtain ⟨x,y,x1,y1,h1⟩:=v3 w' (hin k hl) ⟨j',k,hl⟩
  obtain ⟨x',x2,x3⟩:=hh v2.1
  obtain ⟨y',y2,y3⟩:=hh k
  have e1:x' = x:=Ya9 (x2.symm.trans x1)
  have e2:y' = y:=Ya9 (y2.symm.trans y1)
  subst e1;subst e2
  rcases h1 with h1 | ⟨h1,h2⟩
  ·exact .inl ow
  ·exact .inr ⟨by omega,h2⟩
 ·exact .inl (by rw [v2.2];omega)
theorem Zrl (l:List Zg) (p:Int):∃ R,Zeh l p R:=by
 by_cases h0:(ZZ p).1=0
 ·exact ⟨[],by unfold Zeh;rw [Yf h0]⟩
 ·by_cases hc:∃ i w,CwE (· ∈ l.filter (kindOk (ZZ p).1)) (fun e=>ofB (ZZ p).2 e.kind) (!decide ((ZZ p).2=0)) i w
  ·obtain ⟨w,hw⟩:=Zsd hc
   exact ⟨w,by unfold Zeh;rw [Yc h0];exact .inr hw⟩
  ·exact ⟨[],by unfold Zeh;rw [Yc h0];exact .inl ⟨rfl,fun j w h=>hc ⟨j,w,h⟩⟩⟩
theorem Zda.ne {B:Zg→Prop} {m:Zg→Bool} {need:Bool} {w:List Zg} (h:Zda B m need w):w≠[]:=by
 obtain ⟨j,h1,_⟩:=h
 exact h1.1
theorem ZqT {l:List Zg} {mk mu:Int} (hm:bits .and .i64 mu 14=mu):ZeR l mk mu ↔ ∃ i w,CwE (· ∈ l.filter (kindOk mk)) (fun e=>ofB mu e.kind) (!decide (mu=0)) i w:=by
 have hcw:∀ i w,CwE (· ∈ l.filter (kindOk mk)) (fun e=>ofB mu e.kind) (!decide (mu=0)) i w ↔ CwE (· ∈ l.filter (kindOk mk)) (fun e=>ZgL mu e.kind) (!decide (mu=0)) i w:=fun i w=>by
  unfold CwE
  refine Ybm fun _=>Ybm fun _=>Ybm fun _=>?_
  unfold ZgL
  rw [hm]
  by_cases hz:mu=0
  ·simp [hz]
  ·simp [hz]
 have h1:=ZuS (B:=(· ∈ l.filter (kindOk mk))) (m:=fun e=>ZgL mu e.kind) (need:=!decide (mu=0)) (fun hn e=>by
  unfold ZgL
  rw [hm]
  simp at hn
  simp [hn])
 have h2:ZeR l mk mu ↔ ∃ e,e ∈ l.filter (kindOk mk)∧ZgL mu e.kind=true∧(e.dst=e.src∨Rch (fun x y=>∃ e,e ∈ l.filter (kindOk mk)∧e.src=x∧e.dst=y) e.dst e.src):=Iff.rfl
 rw [h2,← h1]
 exact ⟨fun ⟨i,w,h⟩=>⟨i,w,(hcw i w).2 h⟩,fun ⟨i,w,h⟩=>⟨i,w,(hcw i w).1 h⟩⟩
theorem Zvc {g:Zr} {p:Int} {R:List Zg} (hR:Zeh (Zac g) p R):okH g p R=true ↔ PhB g p:=by
 unfold PhB okH
 by_cases h23:p=2∨p=3
 ·rw [Yf h23,Yf h23,Yq]
 ·rw [Yc h23,Yc h23,Yq]
  unfold Zeh at hR
  by_cases h0:(ZZ p).1=0
  ·rw [Yf h0] at hR
   exact ⟨fun h=>absurd hR h,fun h=>absurd h0 h.1⟩
  ·rw [Yc h0] at hR
   rw [ZqT (Zo7 h0).2.1]
   rcases hR with ⟨h1,h2⟩ | h1
   ·exact ⟨fun h=>absurd h1 h,fun ⟨_,i,w,h⟩=>absurd h (h2 i w)⟩
   ·refine ⟨fun _=>⟨h0,?_⟩,fun _=>h1.ne⟩
    obtain ⟨j,h2,_⟩:=h1
    exact ⟨j,_,h2⟩
structure ZkY (x y:Zr):Prop where
 walk:∀ p R,Zeh (Zac x) p R→Zeh (Zac y) p R
 bads:∀ p,ZaS y p PT1=ZaS x p PT1
theorem ZkY.wit {x y:Zr} (h:ZkY x y) (p:Int) (R:List Zg):Zo2 y p R=Zo2 x p R∧okH y p R=okH x p R:=by
 have e:(ZaS y p fun _=>true)=ZaS x p fun _=>true:=h.bads p
 unfold Zo2 okH
 rw [e]
 exact ⟨rfl,rfl⟩
theorem ZjI (g:Zr):Znz ltE (Zac g):=by
 unfold Zac Zgf
 rw [Ybh,show (HvD.edge ∘ fun e=>(⟨e,cntA (wwC PT1 g) (rdC PT1 g) e⟩:HvD))=id from rfl,List.map_id]
 exact (Zbn Zbs _).1
theorem Zep.alike {x y:Zr} {id:Int} (h:Zep x y id):ZkY x y:=⟨fun p R hR=>by
 have e:Zac y=Zac x:=ZdS Zbs (ZjI y) (ZjI x) fun e=>by rw [Zd4 h.ry,Zd4 h.rx];exact h.edge
 rw [e];exact hR,h.bads⟩
theorem ZjN {g:Zr} {t:TxD} (h:(Z3 g t).2=0):ZW g∧ZaI t=0∧isK TxD.id t.id g.txs=false∧Zdw g t=true∧(Z3 g t).1 = ⟨g.txs.take (lowK TxD.id t.id g.txs) ++ [t] ++ g.txs.drop (lowK TxD.id t.id g.txs),settleO t g.orders⟩:=by
 unfold Z3 at h ⊢
 split at h
 ·rename_i h1;exact absurd h h1
 ·rename_i h1
  split at h
  ·cases h
  ·rename_i h2
   obtain ⟨a,b,c,d,_⟩:=Zqq (by decide) (Yax.1 h1)
   exact ⟨a,b,c,d,by rw [Yc h1,Yc h2]⟩
theorem ZoR {g:Zr} {t:TxD} (hn:Zdw g t=true) {o:OpD} (ho:o ∈ t.ops) (hd:Zds t.id o=true):(Z5 g.txs o.tx).isSome=true:=by
 have hv:=Zqx ho hd
 have h0:o.read=true∧o.tx≠0:=by unfold Zds at hd;simp at hd;exact hd.1
 have ev:ofO o = ⟨o.tx,o.key,o.nth⟩:=by unfold ofO;rw [Yf h0.1]
 have h4:=YaT.1 hn _ hv
 unfold ZjW at h4
 rw [ev,Yc (by simp;omega),Yr] at h4
 exact h4.1
theorem Zh3 {g:Zr} {t:TxD} (h:(Z3 g t).2=0):(∀ u ∈ g.txs,u.id≠t.id) ∧ ∀ u ∈ g.txs,∀ o ∈ u.ops,o.read=true→o.tx≠t.id:=by
 obtain ⟨h1,h2,h3,_⟩:=ZjN h
 have hn:∀ u ∈ g.txs,u.id≠t.id:=fun u hu e=>by
  have:isK TxD.id t.id g.txs=true:=by unfold isK;rw [Yaz];exact ⟨u,hu,by simpa using e⟩
  rw [h3] at this;cases this
 refine ⟨hn,fun u hu o ho hr e=>?_⟩
 have hid:1≤t.id:=ZlH h2
 have hd:Zds u.id o=true:=by
  unfold Zds
  have:=hn u hu
  rw [hr,YF ow,YF ow];rfl
 obtain ⟨_,_,a3,_⟩:=Zcc.1 h1
 have:=ZoR (a3 u hu).2 ho hd
 rw [Zoi,e,h3] at this;cases this
theorem ZtB {g:Zr} (hg:ZW g) {k z:Int} (hz:z ∈ getO g.orders k):∃ t ∈ g.txs,t.id=z∧t.done=true:=by
 obtain ⟨_,_,_,_,_,h6⟩:=Zcc.1 hg
 obtain ⟨t,h4,h5,h7,_⟩:=ZbA.1 ((h6 k).mem_iff.1 hz)
 exact ⟨t,h4,h5,h7⟩
theorem ZjQ {l:List Int} {id:Int} (h:id ∉ l):withoutO l id=l:=Ybk.2 fun x hx=>by simp;exact fun e=>h (e ▸ hx)
theorem Zud {g:Zr} {t:TxD} (h:(Z3 g t).2=0):g.txs=(Z3 g t).1.txs.filter fun u=>!decide (u.id=t.id):=by
 obtain ⟨_,_,_,_,h5⟩:=ZjN h
 rw [h5]
 show g.txs=List.filter _ (_ ++ [t] ++ _)
 rw [Yaa,Yaa,Yas (by simp),List.filter_nil,YP,← Yaa,YaF]
 exact (Ybk.2 fun u hu=>by simpa using (Zh3 h).1 u hu).symm
theorem Zs6 {g:Zr} {t:TxD} (h:(Z3 g t).2=0) (hi:t.done=false ∨ ∀ k,wcnt t.ops k=0) (k:Int):getO (Z3 g t).1.orders k=getO g.orders k:=by
 obtain ⟨h1,_,_,_,h5⟩:=ZjN h
 rw [h5,ZgS (Zaz h1).2]
 unfold Zic
 rw [Yc (fun h9=>by rcases hi with hi | hi;rw [hi] at h9;cases h9.1;have:=hi k;omega)]
 exact ZjQ fun hz=>by
  obtain ⟨u,u1,u2,_⟩:=ZtB h1 hz
  exact (Zh3 h).1 u u1 u2
theorem Ztb {g:Zr} {t:TxD} (h:(Z3 g t).2=0) {u:TxD} (hu:u ∈ (Z3 g t).1.txs) (e:u.id=t.id):u=t:=by
 obtain ⟨h1,_,h3,_,h5⟩:=ZjN h
 rw [h5] at hu
 rcases ((Zlv (t:=t) (Zaz h1).1 h3).2 u).1 hu with ⟨_,k⟩ | ⟨k,_⟩
 ·exact absurd e k
 ·exact k
theorem ZlD {g:Zr} {t:TxD} (hs:Za9 g) (h:(Z3 g t).2=0) (hi:t.done=false∨t.ops = []):Zep g (Z3 g t).1 t.id:=by
 refine ⟨(ZjN h).1,ZiF hs h,Zs6 h (hi.imp id fun e k=>by rw [e];rfl),Zud h,fun u hu e=>?_,(Zh3 h).2⟩
 rw [Ztb h hu e];exact hi
theorem Ztn {j:Int} {w:List Zg} (h:CwE (· ∈ [(⟨1,2,3,1⟩:Zg),⟨2,1,3,2⟩]) (fun e=>ofB 8 e.kind) true j w):2≤w.length∧j=1∧(w.length=2→w = [⟨1,2,3,1⟩,⟨2,1,3,2⟩]):=by
 obtain ⟨h1,h2,h3,_⟩:=h
 cases w with
 | nil=>exact absurd rfl h1
 | cons e w=>
  obtain ⟨he,ha,h4⟩:=h2
  rcases Yj.1 he with rfl | he
  ·have ha:(1:Int)=j:=ha
   subst ha
   cases w with
   | nil=>have h4:(2:Int)=1:=h4;omega
   | cons f w=>
    obtain ⟨hf,hb,h5⟩:=h4
    refine ⟨by simp,rfl,fun hl=>?_⟩
    have hw:w = []:=by simpa using hl
    subst hw
    rcases Yj.1 hf with rfl | hf
    ·have hb:(1:Int)=2:=hb;omega
    ·rw [Yk.1 hf]
  ·have he:=Yk.1 he
   subst he
   have ha:(2:Int)=j:=ha
   subst ha
   have:=h3 ⟨2,1,3,2⟩ (by simp)
   have:(2:Int)≤1:=this
   omega
theorem Zpy:Zeh (Zac Zd8) 5 [⟨1,2,3,1⟩,⟨2,1,3,2⟩]:=by
 have hf:(Zac Zd8).filter (kindOk (ZZ 5).1) = [⟨1,2,3,1⟩,⟨2,1,3,2⟩]:=by rw [Zm1];decide
 unfold Zeh
 rw [Yc (by decide),hf]
 have h8:(ZZ 5).2=8:=rfl
 rw [h8]
 refine .inr ⟨1,⟨by simp,⟨by simp,rfl,by simp,rfl,rfl⟩,?_,fun _=>⟨⟨1,2,3,1⟩,by simp,by decide⟩⟩,fun j' w' k=>?_⟩
 ·intro e he
  rcases Yj.1 he with rfl | he
  ·show (1:Int)≤2;decide
  ·rw [Yk.1 he];show (1:Int)≤1;decide
 ·obtain ⟨k1,k2,k3⟩:=Ztn k
  by_cases hl:w'.length=2
  ·exact .inr ⟨hl.symm,.inr ⟨k2.symm,.inl (k3 hl)⟩⟩
  ·exact .inl (by show 2<_;omega)
theorem Zl4:Zo2 Zd8 5 [⟨1,2,3,1⟩,⟨2,1,3,2⟩] = Zin∧okH Zd8 5 [⟨1,2,3,1⟩,⟨2,1,3,2⟩] = true:=⟨rfl,by decide⟩
theorem Zoe:ZgG Zin.walk Zin.walk.length = [49,32,114,119,49,32,50,32,114,119,50,32,49]:=by decide +kernel
theorem Znq:∀ e ∈ Zin.walk,Zgq e:=fun e he=>by
 rcases Yj.1 he with rfl | he
 ·unfold Zgq;decide
 ·rw [Yk.1 he];unfold Zgq;decide
theorem ZmH  : FnP prog 10 [] (.bool true):=by
 refine FnP.mk func10 rfl ntmps10 rfl fun B a w F V hfr G=>Ya ?_
 refine rZ G qB V [0] [0] fun G=>Ya ?_
 refine Zb G (qf (oP (Zvy) func32 Args.nil) trivial qz (qf (oH [.slice none 0 0,.slice none 0 0] 101) trivial qz (qf (oA 2 101 .same (.conv .t .agg)) r2 r1 qZ))) V [1,0] [101,0] (fun _=>rfl) (fun _=>rfl) fun τ a w F G=>?_
 try dsimp only [RS.sub,SF.sub,CF.sub,csub,Anc.sub,List.map,Zf,xL,xM,Nat.reduceAdd,xD,xE,xT,xU,xC,xN,zCF,Zw,rTx,ZJ,ZT,Zn,rOp] at G
 generalize τ 1=v1 at G
 refine Za (Ya (Zb G (qe 2 101 r1 r1 (qf (oP (Ztk Zd8 Zdk.1 Zdk.2 5 [⟨1,2,3,1⟩,⟨2,1,3,2⟩] Zpy) func12 (Args.two (.pagg .t) qi)) r1 qz (qR rr (qf (Zh .t rfl) r1 qz (qf (Zh .t rfl) r1 qz (qf (oH [.int .i64 0,.slice none 0 0,.int .i64 0,.int .i64 0,.int .i64 0,.int .i64 0,.int .i64 0] 102) trivial qz (qf (oA 7 102 .same (.conv .t .agg)) r2 r1 (qO rr qZ)))))))) V [3,2,1,0] [102,101,0] (fun _=>rfl) (fun _=>rfl) fun τ a w F G=>?_))
 try dsimp only [RS.sub,SF.sub,CF.sub,csub,Anc.sub,List.map,Zf,xL,xM,Nat.reduceAdd,xD,xE,xT,xU,xC,xN,zCF,ldSF,Zw,rTx,ZJ,ZT,Zn,rOp] at G
 generalize τ 2=v2 at G
 rw [Zl4.1,Zl4.2] at G
 try dsimp only [ZkJ] at G
 refine Za (Ya (rZ G (qR rr (qR rr (qk rfl (fun h=>oL true 2 101 .is) r2 r1 (qk rfl (fun h=>oL true 7 102 .is) r2 r1 (qk rfl (fun h=>oP (Zvd) func33 (Args.two (.pagg (.w h)) (.pagg (.w h)))) r3 qz (qf (ZE .t .t) r2 qz (qR rr (qv 1 102 rfl r2 r1 (qw 102 rfl r2 r1 (qk rfl (fun h=>oP (Zun Zin.walk (by decide) Znq) func34 (Args.one (.w h))) r2 qz (qk rfl (fun h=>ZrT Yct (.w h) (.cs kr)) r2 qz (qf (ZE .t .t) r2 qz (qO rr qZ))))))))))))) V [0] [102,101,0] fun G=>Yh ?_))
 refine Zs hfr G rfl rfl rfl (.bool (by rw [Zoe];rfl))
theorem Zpn (g x:Zr) (hsm:Za9 g) (hAR:(wwC PT1 g).length+(rdC PT1 g).length≤100000) (hsx:Za9 x) (hAx:(wwC PT1 x).length+(rdC PT1 x).length≤100000) (ha:ZkY g x):FnP prog 26 [.agg (Zw g),.agg (Zw x)] (.bool true):=by
 refine FnP.mk func26 rfl ntmps26 rfl fun B a w F V hfr G=>Ya ?_
 refine Zb G (qx 101 r1 (qx 102 r1 qB)) V [4,3,2] [102,101,0] (fun _=>rfl) (fun _=>rfl) fun τ a w F G=>?_
 try dsimp only [RS.sub,SF.sub,CF.sub,csub,Anc.sub,List.map,zCF,Zw,rTx,ZJ,ZT,Zn,rOp,ZkJ] at G
 generalize τ 2=v2,τ 3=v3 at G
 refine Za (Ya (Ya (rZ G (qI qZ) V [5,4,3,2] [102,101,0] fun G=>Yg ?_)))
 replace G:=G.ent (i:=5) (s':=.pv (.int .i64 ((1:Nat):Int))) rfl (.int rfl)
 refine Zl (σ:=Nat) [2,3,4] [0,101,102] (fun s=>[(5,.pv (.int .i64 (s:Int)))]) (fun s=>[]) (fun s=>True) (fun s=>6 - s) (1) G ⟨rfl,rfl,rfl,rfl,tv⟩ ⟨rfl,rfl,rfl,tv⟩ trivial ?_
 clear G;intro p a w F hC G
 try dsimp only at hC
 obtain ⟨F,G⟩:=G.nM [5,4,3,2] [102,101,0]
 try dsimp only at G
 refine Ya (Ya (rZ G (qR rr (qf (ZaA .t qi) r1 qz qZ)) V [11,5,4,3,2] [102,101,0] fun G=>?_))
 refine Zc G rfl (fun hc0=>?_) (fun hc0=>?_)
 ·have hp6:p<6:=by have h9:=Yt hc0;omega
  obtain ⟨R,hR⟩:=Zrl (Zac g) (p:Int)
  obtain ⟨hw1,hw2⟩:=ha.wit (p:Int) R
  refine Ye (Za (Ya (Yg (Ya (Zb G (qe 2 101 r1 r1 (qR rr (qf (oP (Ztk g hsm hAR (p:Int) R hR) func12 (Args.two (.pagg .t) .t)) r2 qz (qR rr (qf (Zh .t rfl) r1 qz (qf (Zh .t rfl) r1 qz (qf (oH [.int .i64 0,.slice none 0 0,.int .i64 0,.int .i64 0,.int .i64 0,.int .i64 0,.int .i64 0] 103) trivial qz (qf (oA 7 103 .same (.conv .t .agg)) r2 r1 (qO rr qZ))))))))) V [7,6,5,4,3,2] [103,102,101,0] (fun _=>rfl) (fun _=>rfl) fun τ a w F G=>?_)))))
  try dsimp only [RS.sub,SF.sub,CF.sub,csub,Anc.sub,List.map,Zf,xL,xM,Nat.reduceAdd,xD,xE,xT,xU,xC,xN,zCF,ldSF,Zw,rTx,ZJ,ZT,Zn,rOp,ZkJ] at G
  generalize τ 6=v6 at G
  refine Za (Ya (Zb G (qe 2 102 r1 r1 (qR rr (qf (oP (Ztk x hsx hAx (p:Int) R (ha.walk _ R hR)) func12 (Args.two (.pagg .t) .t)) r2 qz (qR rr (qf (Zh .t rfl) r1 qz (qf (Zh .t rfl) r1 qz (qf (oH [.int .i64 0,.slice none 0 0,.int .i64 0,.int .i64 0,.int .i64 0,.int .i64 0,.int .i64 0] 104) trivial qz (qf (oA 7 104 .same (.conv .t .agg)) r2 r1 (qO rr qZ))))))))) V [9,8,7,6,5,4,3,2] [104,103,102,101,0] (fun _=>rfl) (fun _=>rfl) fun τ a w F G=>?_))
  try dsimp only [RS.sub,SF.sub,CF.sub,csub,Anc.sub,List.map,Zf,xL,xM,Nat.reduceAdd,xD,xE,xT,xU,xC,xN,zCF,ldSF,Zw,rTx,ZJ,ZT,Zn,rOp,ZkJ] at G
  generalize τ 8=v8 at G
  refine Za (Ya (rZ G (qR rr (qR rr (qf (Zk7 Ycs .t .t) r2 qz (qR rr (qk rfl (fun h=>oL true 7 103 .is) r2 r1 (qk rfl (fun h=>oL true 7 104 .is) r2 r1 (qk rfl (fun h=>oP (Zuz (Zo2 g (p:Int) R) (Zo2 x (p:Int) R)) func22 (Args.two (.pagg (.w h)) (.pagg (.w h)))) r3 qz (qk rfl (fun h=>o_not (.w h)) r2 qz (qf (Zal .t .t) r2 qz (qR rr (qk rfl (fun h=>oL true 2 101 .is) r2 r1 (qm rfl rfl rfl rfl (qk rfl (fun h=>oP (Zox g hsm hAR (p:Int) (okH g (p:Int) R) (Zvc hR)) func31 (Args.two (.pagg (.w h)) (.w h))) r3 qz (qm rfl rfl rfl rfl (qk rfl (fun h=>Zk7 Ycs (.w h) (.w h)) r3 qz (qf (Zal .t .t) r2 qz (qR rr (qk rfl (fun h=>oL true 2 102 .is) r2 r1 (qm rfl rfl rfl rfl (qk rfl (fun h=>oP (Zox x hsx hAx (p:Int) (okH x (p:Int) R) (Zvc (ha.walk _ R hR))) func31 (Args.two (.pagg (.w h)) (.w h))) r3 qz (qm rfl rfl rfl rfl (qk rfl (fun h=>Zk7 Ycs (.w h) (.w h)) r3 qz (qf (Zal .t .t) r2 qz qZ))))))))))))))))))))))) V [48,5,4,3,2] [104,103,102,101,0] fun G=>?_))
  refine Zc G rfl (fun hc1=>?_) (fun hc1=>?_)
  ·rw [hw1,hw2] at hc1;simp at hc1
  refine Ye (Zi (Za (rZ G (qR rr (qp r1 (qO rr qZ))) V [5,4,3,2] [104,103,102,101,0] fun G=>?_)))
  replace G:=G.ent (i:=5) (s':=.pv (.int .i64 ((p+1:Nat):Int))) rfl (.int (Zd ow))
  obtain ⟨F,G⟩:=G.nM [4,3,2,5] [102,101,0]
  exact ⟨(p+1),F,tv,G,by omega⟩
 refine Yw (Zj (Zj (Zo (Za (Ya (rZ G qB V [4] [102,101,0] fun G=>Yh ?_))))))
 refine Zs hfr G rfl rfl rfl (.bool rfl)
theorem Zqm {n:Nat} {g:Zr} {t:TxD} (ht:t.ops.length≤24) (h:Fit n g):Fit (n+1) (Z3 g t).1:=by
 have:=h.doH (e:=⟨0,t,⟨0,[]⟩,0⟩) ⟨ht,Yx _⟩
 unfold doH at this
 rw [Yf rfl] at this
 exact this
theorem ZpR (g:Zr) (t:TxD):FnP prog 6 [.agg (Zw g),.agg (rTx t)] (.bool true):=by
 refine FnP.mk func6 rfl ntmps6 rfl fun B a w F V hfr G=>Ya ?_
 refine Zb G (qx 101 r1 (qx 102 r1 qB)) V [4,3,2] [102,101,0] (fun _=>rfl) (fun _=>rfl) fun τ a w F G=>?_
 try dsimp only [RS.sub,SF.sub,CF.sub,csub,Anc.sub,List.map,zCF,Zw,rTx,ZJ,ZT,Zn,rOp,rTx] at G
 generalize τ 2=v2,τ 3=v3 at G
 refine Za (Ya (Ya (rZ G (qf (oP (ZmH) func10 Args.nil) trivial qz (qf (o_not .t) r1 qz qZ)) V [8,4,3,2] [102,101,0] fun G=>?_)))
 refine Zc G rfl (fun hc0=>?_) (fun hc0=>?_)
 ·simp at hc0
 refine Ye (Za (Ya (Ya (rZ G (qe 2 101 r1 r1 (qf (oP (Zso g) func11 (Args.one (.pagg .t))) r1 qz (qf (o_not .t) r1 qz (qR rr (qv 2 102 rfl r2 r1 (qw 102 rfl r2 r1 (qk rfl (fun h=>ZcD Yci (.w h)) r2 qz (qk rfl (fun h=>ZaP (.w h) qi) r2 qz (qf (Zal .t .t) r2 qz qZ))))))))) V [17,4,3,2] [102,101,0] fun G=>?_))))
 refine Zc G rfl (fun hc1=>?_) (fun hc1=>?_)
 ·refine Ya (rZ G qB V [4,3,2] [102,101,0] fun G=>(Yh (Zk ?_)))
  refine Zs hfr G rfl rfl rfl (.bool (by simp))
 have h9:=hc1
 simp at h9
 have hlt:Zb9 g:=h9.1
 have hol:t.ops.length≤24:=by omega
 have hf:=ZnL hlt
 obtain ⟨hsm,hAR⟩:=Zgd hf (by decide)
 refine Ye (Za (Ya (Ya (rZ G (qg 1 102 r1 r1 (qa 102 r1 r1 qZ)) V [19,4,3,2] [102,101,0] fun G=>?_))))
 refine Zc G rfl (fun hc2=>?_) (fun hc2=>?_)
 ·obtain ⟨u,hu⟩:∃ u:TxD,u = ⟨t.id,t.done,[]⟩:=⟨_,rfl⟩
  have hul:u.ops.length≤24:=by rw [hu];exact Yx _
  have hi:u.done=false∨u.ops = []:=.inr (by rw [hu])
  obtain ⟨hsx,hAx⟩:=Zgd (Zqm hul hf) (by decide)
  refine rZ G (qg 2 102 r1 r1 (qf (ZaZ 102 .adr (.c rfl) one_is kr kr) r1 r1 qZ)) V [4,3,2] [102,101,0] fun G=>Ya ?_
  refine Zb G (qe 2 101 r1 r1 (qe 3 102 r1 r1 (qf (oP (ZjD g u hsm ow) func27 (Args.two (.pagg .t) (.conv (.pagg .t) ((show Ent (.pv (.agg [.int .i64 t.id,.bool t.done,.is (.slice none 0 0)])) (.pv (.agg (rTx u))) from by subst hu;exact .paggLe ⟨.refl,.refl,.nilSl,tv⟩))))) r2 qz (qR rr (qf (Zh .t rfl) r1 qz (qf (Zh .t rfl) r1 qz (qf (oH [.slice none 0 0,.slice none 0 0] 103) trivial qz (qf (oA 2 103 .same (.conv .t .agg)) r2 r1 (qO rr qZ))))))))) V [6,5,4,2] [103,102,101,0] (fun _=>rfl) (fun _=>rfl) fun τ a w F G=>?_
  try dsimp only [RS.sub,SF.sub,CF.sub,csub,Anc.sub,List.map,Zf,xL,xM,Nat.reduceAdd,xD,xE,xT,xU,xC,xN,zCF,ldSF,Zw,rTx,ZJ,ZT,Zn,rOp,rTx] at G
  generalize τ 5=v5 at G
  refine Za (Ya (rZ G (qR rr (qf (o_neq .t qi) r1 qz (qR rr (qk rfl (fun h=>oL true 2 101 .is) r2 r1 (qk rfl (fun h=>oL true 2 103 .is) r2 r1 (qk rfl (fun h=>oP (Zpn g (Z3 g u).1 hsm hAR hsx hAx (ZlD hsm (by simpa using h) hi).alike) func26 (Args.two (.pagg (.w h)) (.pagg (.w h)))) r3 qz (qf (Zal .t .t) r2 qz (qO rr qZ)))))))) V [4] [103,102,101,0] fun G=>Yh ?_))
  refine Zs hfr G rfl rfl rfl (.bool (by simp))
 obtain ⟨u,hu⟩:∃ u:TxD,u=t:=⟨_,rfl⟩
 have hul:u.ops.length≤24:=by rw [hu];exact hol
 have hi:u.done=false∨u.ops = []:=.inl (by rw [hu];exact hc2)
 obtain ⟨hsx,hAx⟩:=Zgd (Zqm hul hf) (by decide)
 refine Ye (Za (Ya (Zb G (qe 2 101 r1 r1 (qe 3 102 r1 r1 (qf (oP (ZjD g u hsm ow) func27 (Args.two (.pagg .t) (.conv (.pagg .t) ((show Ent (.pv (.agg [.int .i64 t.id,.bool t.done,.sl rOp t.ops])) (.pv (.agg (rTx u))) from by subst hu;exact .refl))))) r2 qz (qR rr (qf (Zh .t rfl) r1 qz (qf (Zh .t rfl) r1 qz (qf (oH [.slice none 0 0,.slice none 0 0] 104) trivial qz (qf (oA 2 104 .same (.conv .t .agg)) r2 r1 (qO rr qZ))))))))) V [6,5,4,2] [104,102,101,0] (fun _=>rfl) (fun _=>rfl) fun τ a w F G=>?_)))
 try dsimp only [RS.sub,SF.sub,CF.sub,csub,Anc.sub,List.map,Zf,xL,xM,Nat.reduceAdd,xD,xE,xT,xU,xC,xN,zCF,ldSF,Zw,rTx,ZJ,ZT,Zn,rOp,rTx] at G
 generalize τ 5=v5 at G
 refine Za (Ya (rZ G (qR rr (qf (o_neq .t qi) r1 qz (qR rr (qk rfl (fun h=>oL true 2 101 .is) r2 r1 (qk rfl (fun h=>oL true 2 104 .is) r2 r1 (qk rfl (fun h=>oP (Zpn g (Z3 g u).1 hsm hAR hsx hAx (ZlD hsm (by simpa using h) hi).alike) func26 (Args.two (.pagg (.w h)) (.pagg (.w h)))) r3 qz (qf (Zal .t .t) r2 qz (qO rr qZ)))))))) V [4] [104,102,101,0] fun G=>Yh ?_))
 refine Zs hfr G rfl rfl rfl (.bool (by simp))
end Go.Proofs.YtlkpllemoepamaaGreat
