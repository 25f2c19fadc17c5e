/- Laws and walks. No condition beyond what each says. -/
import Derived.Test.YtlkpllemoepamaaGreatJ0
namespace Go.Proofs.YtlkpllemoepamaaGreat
open Go Go.Gm Tryz
set_option linter.unusedVariables false
set_option linter.unusedSimpArgs false
set_option maxHeartbeats 4000000
set_option maxRecDepth 8000
theorem Zi2 (v:Value) (l:List Int) (hll:l.length≤1000000):FnG prog 179 1 [.is v] [ZA 3 1 Zo l v] (PV.one) (fun v=>[ZA 3 1 Zo (Zp l) v]):=by
 refine FnG.mk func179 rfl ntmps179 rfl kr fun B F0 a w F Z hG G=>?_
 replace G:=G.turn 1 rfl (r':=.ob (.val v) (ZA 3 1 Zo l)) (fun _ _ _ _ h=>h)
 refine Ya (rZ G (qC qZ) Z [2,0] [1,0] fun G=>(Ya (Ya ?_)))
 refine rZ G (qR rr (qf (Zas 1 YbZ .is) r1 r1 (qf (ZaD .t qi) r1 qz qZ))) Z [8,2,0] [1,0] fun G=>?_
 refine Zc G rfl (fun hc0=>?_) (fun hc0=>?_)
 ·have hg:(Zp l)=l:=ZbC (by simp at hc0;omega)
  refine Ya (rZ G (qR rr (qO rr qZ)) Z [2,0] [1,0] fun G=>(Yh (Zm ?_)))
  have G:=G.turn 1 rfl (r':=RS.hp (ZA 3 1 Zo (Zp l) v)) (fun _ _ _ _ h=>by rw [hg];exact h)
  refine Z9 (h':=fun v=>ZA 3 1 Zo (Zp l) v) hG G rfl (.tmp rfl .nil) (.one .one) rfl
 have hl2:2≤l.length:=by simp at hc0;omega
 refine Yf (Za (Ya (Ya (rZ G (qI qZ) Z [3,2,0] [1,0] fun G=>Yg ?_))))
 refine Zl (σ:=Nat) [0,2] [0,1] (fun s=>[(3,.pv (.int .i64 (s:Int)))]) (fun s=>[]) (fun s=>1≤s∧s≤l.length∧Zp (l.take s)=l.take s) (fun s=>l.length - s) (1) G ⟨rfl,rfl,rfl,tv⟩ ⟨rfl,rfl,tv⟩ ⟨by omega,by omega,ZbC (by rw [Yj];omega)⟩ ?_
 clear G;intro k a w F hC G
 try dsimp only at hC
 obtain ⟨F,G⟩:=G.nM [3,2,0] [1,0]
 try dsimp only at G
 obtain ⟨hk1,hkl,hkc⟩:=hC
 have hkw:IntKind.wrap .i64 ((k:Int) - 1)=(k:Int) - 1:=ZC ow
 refine Ya (Ya (rZ G (qR rr (qR rr (qf (Zas 1 YbZ .is) r1 r1 (qL r2)))) Z [13,3,2,0] [1,0] fun G=>?_))
 refine Zc G rfl (fun hc1=>?_) (fun hc1=>?_)
 ·have hil:k<l.length:=by simp at hc1;omega
  have hst:=Zbi (l:=l) hk1 hil
  have hy0:(IntKind.wrap .i64 ((k:Int) - 1)).toNat=k - 1:=by rw [hkw];omega
  refine Yf (Za (Ya (Yg (Ya (Zz G (qR rr (qR rr (qf (o_indexAddr_row (sz:=1) 1 (.mk YbZ kr) .is .t ow ow (by rfl)) r2 r1 (qf (ZD (ag:=false) (sz':=1) (sz:=1) 1 .t (by intro x;rfl) ow kr kr kr) r1 r1 (qR rr (qR rr (qf (o_sub .t qi) r1 qz (qf (o_indexAddr_row (sz:=1) 1 (.mk YbZ kr) .is .t (by rw [hkw];omega) (by rw [hkw];omega) (by rfl)) r2 r1 (qf (ZD (ag:=false) (sz':=1) (sz:=1) 1 .t (by intro x;rfl) (by rw [hkw];omega) kr kr kr) r1 r1 (qf (o_eql .t .t) r2 qz qZ)))))))))) Z [25,3,2,0] [1,0] rfl rfl fun a w F G=>?_)))))
  try dsimp only [List.map,xD,xE,xT,xU,ldSF,Zo] at G
  try simp only [Yc] at G
  refine Za (Zc G rfl (fun hc2=>?_) (fun hc2=>?_))
  ·have heq:Nn l (k - 1)=Nn l k:=by rw [hy0] at hc2;simp at hc2;exact hc2.symm
   rw [Ye heq,hkc] at hst
   have hst0:=hst.symm
   refine Ya (rZ G (qR rr (qR rr (qf (ZaN (sz:=1) 1 (.mk YbZ kr) .is .t ow ow) r2 r1 (qO rr qZ)))) Z [4,3,2,0] [1,0] fun G=>(Ya (Ya ?_)))
   refine rZ G (qI qZ) Z [5,4,3,2,0] [1,0] fun G=>Yg ?_
   have hC0:1≤1∧1≤l.length - k∧k≤k∧k≤k+1 - 1∧l.length=l.length∧l.take k=Zp (l.take (k+1)) ∧ ∀ q,k+1 - 1≤q→q<l.length→Nn l q=Nn l q:=⟨by omega,by omega,by omega,by omega,rfl,hst0,fun q _ _=>rfl⟩
   refine Zl (σ:=Nat×Nat×List Int) [0,2,4] [0] (fun s=>[(3,.pv (.int .i64 (s.1:Int))),(5,.pv (.int .i64 (s.2.1:Int)))]) (fun s=>[(1,.ob (.val v) (ZA 3 1 Zo s.2.2))]) (fun s=>1≤s.2.1∧s.2.1≤l.length - k∧k≤s.1∧s.1≤k+s.2.1 - 1∧s.2.2.length=l.length∧s.2.2.take s.1=Zp (l.take (k+s.2.1)) ∧ ∀ q,k+s.2.1 - 1≤q→q<l.length→Nn s.2.2 q=Nn l q) (fun s=>l.length - s.2.1) ((k),(1),(l)) G ⟨rfl,rfl,rfl,rfl,rfl,tv⟩ ⟨rfl,rfl,tv⟩ hC0 ?_
   clear G;intro s a w F hC G
   obtain ⟨k1,j,l1⟩:=s
   try dsimp only at hC
   obtain ⟨F,G⟩:=G.nM [5,4,3,2,0] [1,0]
   try dsimp only at G
   obtain ⟨hj1,hjk,hkk,hkj,hl1,htk,hrest⟩:=hC
   have hjw:IntKind.wrap .i64 ((j:Int) - 1)=(j:Int) - 1:=ZC ow
   refine Ya (Ya (rZ G (qR rr (qR rr (qf (ZhE 1 YbZ .t ow) r1 r1 (qL r2)))) Z [32,5,4,3,2,0] [1,0] fun G=>?_))
   refine Zc G rfl (fun hc3=>?_) (fun hc3=>?_)
   ·have hjl:k+j<l.length:=by simp at hc3;omega
    have hx1:(Nn l1 (((k:Int)).toNat+((j:Int)).toNat))=Nn l (k+j):=by rw [Yc,Yc];exact hrest _ ow hjl
    have hx0:Nn l1 (((k:Int)).toNat+(IntKind.wrap .i64 ((j:Int) - 1)).toNat)=Nn l (k+j - 1):=by rw [hjw,show ((k:Int)).toNat+((j:Int) - 1).toNat=k+j - 1 by omega];exact hrest _ ow ow
    have hstp:=Zbi (l:=l) (p:=k+j) ow hjl
    refine Yf (Za (Ya (Yg (Ya (Zz G (qR rr (qR rr (qf (o_indexAddr_sub (sz:=1) 1 (.mk YbZ kr) .t .t ow ow (by rfl)) r2 r1 (qf (ZD (ag:=false) (sz':=1) (sz:=1) 1 .t (by intro x;rfl) ow kr kr kr) r1 r1 (qR rr (qR rr (qf (o_sub .t qi) r1 qz (qf (o_indexAddr_sub (sz:=1) 1 (.mk YbZ kr) .t .t (by rw [hjw];omega) (by rw [hjw];omega) (by rfl)) r2 r1 (qf (ZD (ag:=false) (sz':=1) (sz:=1) 1 .t (by intro x;rfl) (by rw [hjw];omega) kr kr kr) r1 r1 (qf (o_neq .t .t) r2 qz qZ)))))))))) Z [44,5,4,3,2,0] [1,0] rfl rfl fun a w F G=>?_)))))
    try dsimp only [List.map,xD,xE,xT,xU,ldSF,Zo] at G
    try simp only [Yc] at G
    refine Za (Zc G rfl (fun hc4=>?_) (fun hc4=>?_))
    ·have hne:¬ Nn l (k+j - 1)=Nn l (k+j):=by rw [← hx1,← hx0];simp at hc4 ⊢;exact fun e=>hc4 e.symm
     rw [Yb hne] at hstp
     obtain ⟨i2,hi2e⟩:∃ i2,i2=k1+1:=⟨_,rfl⟩
     have hi2:IntKind.wrap .i64 ((k1:Int)+1)=(i2:Int):=by rw [hi2e];exact Zd ow
     obtain ⟨l2,hl2e⟩:∃ l2,l2=l1.set k1 (Nn l1 (k+j)):=⟨_,rfl⟩
     have hx1b:Nn l1 (k+j)=Nn l (k+j):=hrest _ ow hjl
     have hC2:1≤j+1∧j+1≤l.length - k∧k≤i2∧i2≤k+(j+1) - 1∧l2.length=l.length∧l2.take i2=Zp (l.take (k+(j+1))) ∧ ∀ q,k+(j+1) - 1≤q→q<l.length→Nn l2 q=Nn l q:=⟨by omega,by omega,by omega,by omega,by rw [hl2e,YR];exact hl1,by rw [hl2e,hi2e,Zt (by rw [YR];omega),List.take_set_of_le (YL _),htk,nth_eq (by rw [YR];omega),Ybz,hx1b];exact hstp.symm,fun q hq hq2=>by rw [hl2e,nth_eq (by rw [YR];omega),List.getElem_set_ne ow,← nth_eq ow];exact hrest q ow hq2⟩
     refine Ya (Zg G (qR rr (qR rr (qR rr (qR rr (qf (o_indexAddr_sub (sz:=1) 1 (.mk YbZ kr) .t .t ow ow (by rfl)) r2 r1 (qf (ZD (ag:=false) (sz':=1) (sz:=1) 1 .t (by intro x;rfl) ow kr kr kr) r1 r1 (qf (o_indexAddr_row (sz:=1) 1 (.mk YbZ kr) .is .t ow ow (by rfl)) r2 r1 (qf (ZU (R:=Zo) (sz:=1) (v:=(Nn l1 (((k:Int)).toNat+((j:Int)).toNat))) 1 .t (by intro x;rfl) ow .t rfl one_int kr) r2 r1 qZ)))))))) Z [5,4,3,2,0] [1,0] rfl rfl fun a w F G=>?_)
     try simp only [Yc] at G
     rw [← hl2e] at G
     refine Za (Zg G (qR rr (qp r1 (qO rr qZ))) Z [5,4,3,2,0] [1,0] rfl rfl fun a w F G=>Zk (Za ?_))
     refine rZ G (qR rr (qp r1 (qO rr qZ))) Z [5,4,3,2,0] [1,0] fun G=>?_
     have hmu:l.length - (j+1)<l.length - j:=by omega
     replace G:=G.ent (i:=3) (s':=.pv (.int .i64 (i2:Int))) rfl (.int hi2)
     replace G:=G.ent (i:=5) (s':=.pv (.int .i64 ((j+1:Nat):Int))) rfl (.int (Zd ow))
     obtain ⟨F,G⟩:=G.nM [4,2,0,5,3] [0,1]
     exact ⟨((i2),(j+1),(l2)),F,hC2,G,hmu⟩
    have heq2:Nn l (k+j - 1)=Nn l (k+j):=by rw [← hx1,← hx0];simp at hc4 ⊢;exact hc4.symm
    rw [Ye heq2] at hstp
    obtain ⟨i2,hi2e⟩:∃ i2,i2=k1:=⟨_,rfl⟩
    have hi2:(k1:Int)=(i2:Int):=by rw [hi2e]
    obtain ⟨l2,hl2e⟩:∃ l2,l2=l1:=⟨_,rfl⟩
    rw [← hl2e] at G
    have hC2:1≤j+1∧j+1≤l.length - k∧k≤i2∧i2≤k+(j+1) - 1∧l2.length=l.length∧l2.take i2=Zp (l.take (k+(j+1))) ∧ ∀ q,k+(j+1) - 1≤q→q<l.length→Nn l2 q=Nn l q:=⟨by omega,by omega,by omega,by omega,by rw [hl2e];exact hl1,by rw [hl2e,hi2e,htk];exact hstp.symm,fun q hq hq2=>by rw [hl2e];exact hrest q ow hq2⟩
    refine Yf (Zk (Za (rZ G (qR rr (qp r1 (qO rr qZ))) Z [5,4,3,2,0] [1,0] fun G=>?_)))
    have hmu:l.length - (j+1)<l.length - j:=by omega
    replace G:=G.ent (i:=3) (s':=.pv (.int .i64 (i2:Int))) rfl (.int hi2)
    replace G:=G.ent (i:=5) (s':=.pv (.int .i64 ((j+1:Nat):Int))) rfl (.int (Zd ow))
    obtain ⟨F,G⟩:=G.nM [4,2,0,5,3] [0,1]
    exact ⟨((i2),(j+1),(l2)),F,hC2,G,hmu⟩
   have hjl:k+j=l.length:=by simp at hc3;omega
   have hg:(Zp l)=(l1.take k1++List.replicate (l1.length - k1) (0:Int)).take k1:=by rw [Y4 (by rw [Yj];omega),YaY,Nat.min_self,htk,hjl,YC]
   refine Yx (Zj (Zj (Zr (Za (Ya (rZ G (qR rr (qR rr (qf (ZaN (sz:=1) 1 (.mk YbZ kr) .is .t ow ow) r2 r1 (qf (Zdb (R:=Zo) (z:=(0:Int)) (zs:=[.int .i64 0]) 1 YbZ kr rfl rfl (fun _ _=>⟨⟨rfl,rfl,Zdf⟩,tv⟩) (by intro x;rfl) .t (by simp;omega)) r1 r1 qZ)))) Z [3,2,0] [1,0] fun G=>Ya ?_))))))
   refine Zb G (qR rr (qR rr (qf (Zfw (sz:=1) 1 (.mk YbZ kr) (by intro x;rfl) .is .t ow (by simp;omega)) r2 r1 (qO rr qZ)))) Z [3,2,0] [1,0] (fun _=>rfl) (fun _=>rfl) fun τ a w F G=>?_
   try dsimp only [RS.sub,SF.sub,CF.sub,csub,Anc.sub,List.map,Zo] at G
   generalize τ 59=v59 at G
   refine Za (Yh (ZB (Zm (Zm (ZB (Zm ?_))))))
   have G:=G.turn 1 rfl (r':=RS.hp (ZA 3 1 Zo (Zp l) v59)) (fun _ _ _ _ h=>by rw [hg];exact h)
   refine Z9 (h':=fun v=>ZA 3 1 Zo (Zp l) v) hG G rfl (.tmp rfl .nil) (.one .one) rfl
  have hne:¬ Nn l (k - 1)=Nn l k:=by rw [hy0] at hc2;simp at hc2;exact fun e=>hc2 e.symm
  rw [Yb hne] at hst
  refine Yf (Zk (Za (rZ G (qR rr (qp r1 (qO rr qZ))) Z [3,2,0] [1,0] fun G=>?_)))
  replace G:=G.ent (i:=3) (s':=.pv (.int .i64 ((k+1:Nat):Int))) rfl (.int (Zd ow))
  obtain ⟨F,G⟩:=G.nM [2,0,3] [1,0]
  exact ⟨(k+1),F,⟨by omega,by omega,by rw [hst,hkc,← Zt hil]⟩,G,by omega⟩
 have hg:(Zp l)=l:=by rw [show k=l.length by simp at hc1;omega,YC] at hkc;exact hkc
 refine Yx (Zj (Zj (Zr (Za (Ya (rZ G (qR rr (qO rr qZ)) Z [2] [1,0] fun G=>Yh ?_))))))
 have G:=G.turn 1 rfl (r':=RS.hp (ZA 3 1 Zo (Zp l) v)) (fun _ _ _ _ h=>by rw [hg];exact h)
 refine Z9 (h':=fun v=>ZA 3 1 Zo (Zp l) v) hG G rfl (.tmp rfl .nil) (.one .one) rfl
def Zc1 (n:Int):List Int→Bool→List Int
 | [],d=>if d then [] else [n]
 | x :: l,d=>(if d=false∧n≤x then [n] else [])++(if x=n then [] else [x])++Zc1 n l (d || decide (n≤x))
def ZkW (l:List Int) (n:Int):List Int:=Zc1 n l false
abbrev Zdp (l:List Int):Prop:=l.Pairwise fun a b=>a<b
theorem Zd6 {n:Int} : ∀ {l:List Int},(∀ x ∈ l,n<x)→Zc1 n l true=l
 | [],_=>rfl
 | x :: l,h=>by
  have:=h x (by simp)
  rw [Zc1,YbT,Zd6 fun y hy=>h y (by simp [hy]),Yb (by simp),Yb ow]
  rfl
theorem ZkL {n:Int} : ∀ {l:List Int},Zdp l→Zdp (ZkW l n) ∧ ∀ x,x ∈ ZkW l n ↔ x ∈ l∨x=n
 | [],_=>by simp [ZkW,Zc1]
 | y :: l,h=>by
  have h':=Yq.1 h
  unfold ZkW
  by_cases h1:y<n
  ·have e:Zc1 n (y :: l) false=y :: Zc1 n l false:=by
    rw [Zc1,Yb ow,Yb ow,show (false || decide (n≤y))=false by simp;omega];rfl
   have ih:=ZkL (n:=n) h'.2
   rw [e]
   refine ⟨Yq.2 ⟨fun p hp=>?_,ih.1⟩,fun x=>?_⟩
   ·rcases (ih.2 p).1 hp with hp | rfl
    ·exact h'.1 p hp
    ·exact h1
   ·have:=ih.2 x
    unfold ZkW at this
    simp only [Yk,this]
    constructor
    ·rintro (h | h | h)
     ·exact .inl (.inl h)
     ·exact .inl (.inr h)
     ·exact .inr h
    ·rintro ((h | h) | h)
     ·exact .inl h
     ·exact .inr (.inl h)
     ·exact .inr (.inr h)
  ·by_cases h2:y=n
   ·subst h2
    rw [Zc1,Ye ⟨rfl,Yaj _⟩,Ye rfl,show (false || decide (y≤y))=true by simp,Zd6 h'.1]
    exact ⟨h,fun x=>by simp;intro e;exact .inl e⟩
   ·rw [Zc1,Ye ⟨rfl,by omega⟩,Yb h2,show (false || decide (n≤y))=true by simp;omega,Zd6 fun x hx=>by have:=h'.1 x hx;omega]
    refine ⟨Yq.2 ⟨fun p hp=>?_,h⟩,fun x=>by simp;constructor <;> (rintro (h | h | h) <;> simp [h])⟩
    rcases Yk.1 hp with rfl | hp
    ·omega
    ·have:=h'.1 p hp;omega
def Zbu (l:List Int):List Int:=l.foldl ZkW []
theorem ZP (l:List Int):Zdp (Zbu l) ∧ ∀ x,x ∈ Zbu l ↔ x ∈ l:=by
 have key:∀ (l acc:List Int),Zdp acc→Zdp (l.foldl ZkW acc) ∧ ∀ x,x ∈ l.foldl ZkW acc ↔ x ∈ acc∨x ∈ l:=by
  intro l
  induction l with
  | nil=>intro acc h;exact ⟨h,fun x=>by simp⟩
  | cons y l ih=>
   intro acc h
   have h1:=ZkL (n:=y) h
   have h2:=ih (ZkW acc y) h1.1
   refine ⟨h2.1,fun x=>?_⟩
   rw [Yav,h2.2 x,h1.2 x,Yk]
   constructor
   ·rintro ((h | h) | h)
    ·exact .inl h
    ·exact .inr (.inl h)
    ·exact .inr (.inr h)
   ·rintro (h | h | h)
    ·exact .inl (.inl h)
    ·exact .inl (.inr h)
    ·exact .inr h
 have:=key l [] List.Pairwise.nil
 exact ⟨this.1,fun x=>by rw [show Zbu l=l.foldl ZkW [] from rfl,this.2 x];simp⟩
theorem ZdV:∀ {a b:List Int},Zdp a→Zdp b→(∀ x,x ∈ a ↔ x ∈ b)→a=b
 | [],[],_,_,_=>rfl
 | [],y :: b,_,_,h=>by have:=(h y).2 (by simp);cases this
 | x :: a,[],_,_,h=>by have:=(h x).1 (by simp);cases this
 | x :: a,y :: b,ha,hb,h=>by
  have ha':=Yq.1 ha
  have hb':=Yq.1 hb
  have e:x=y:=by
   rcases Yk.1 ((h x).1 (by simp)) with e | e
   ·exact e
   ·rcases Yk.1 ((h y).2 (by simp)) with e2 | e2
    ·exact e2.symm
    ·have:=hb'.1 x e;have:=ha'.1 y e2;omega
  subst e
  congr 1
  refine ZdV ha'.2 hb'.2 fun z=>⟨fun hz=>?_,fun hz=>?_⟩
  ·rcases Yk.1 ((h z).1 (by simp [hz])) with e | e
   ·have:=ha'.1 z hz;omega
   ·exact e
  ·rcases Yk.1 ((h z).2 (by simp [hz])) with e | e
   ·have:=hb'.1 z hz;omega
   ·exact e
def Zay:List Int→List Int
 | []=>[]
 | x :: l=>match Zay l with
  | []=>[x]
  | y :: m=>if x=y then y :: m else x :: y :: m
theorem ZdE:∀ (x:Int) (l:List Int),∃ m,Zay (x :: l)=x :: m
 | x,[]=>⟨[],rfl⟩
 | x,y :: l=>by
  obtain ⟨m,hm⟩:=ZdE y l
  unfold Zay
  rw [hm]
  by_cases h:x=y
  ·subst h;exact ⟨m,Ye rfl⟩
  ·exact ⟨y :: m,Yb h⟩
theorem ZdG (x y:Int) (l:List Int):Zay (x :: y :: l)=if x=y then Zay (y :: l) else x :: Zay (y :: l):=by
 obtain ⟨m,hm⟩:=ZdE y l
 conv=>lhs;unfold Zay
 rw [hm]
theorem ZcP:∀ {l:List Int},l.Pairwise (fun a b=>a≤b)→Zdp (Zay l) ∧ ∀ x,x ∈ Zay l ↔ x ∈ l
 | [],_=>by simp [Zay]
 | [x],_=>by simp [Zay]
 | x :: y :: l,h=>by
  have h':=Yq.1 h
  have ih:=ZcP h'.2
  rw [ZdG]
  split
  ·rename_i e
   subst e
   exact ⟨ih.1,fun z=>by rw [ih.2 z];simp⟩
  ·rename_i e
   refine ⟨Yq.2 ⟨fun z hz=>?_,ih.1⟩,fun z=>by rw [Yk,ih.2 z,← Yk]⟩
   have h1:=h'.1 y (by simp)
   rcases Yk.1 ((ih.2 z).1 hz) with rfl | hz2
   ·omega
   ·have:=(Yq.1 h'.2).1 z hz2
    omega
theorem ZnN (l:List Int):List.Pairwise (fun x y=>x≤y) (l.mergeSort leI):=by
 have:=List.pairwise_mergeSort (le:=leI) (fun a b c h1 h2=>by simp [leI] at *;omega) (fun a b=>by simp [leI];omega) l
 exact this.imp fun h=>by simpa [leI] using h
theorem Zdk (l:List Int):Zay (l.mergeSort leI)=Zbu l:=
 ZdV (ZcP (ZnN l)).1 (ZP l).1 fun x=>by rw [(ZcP (ZnN l)).2,(ZP l).2];exact (YaK l leI).mem_iff
theorem ZcW:∀ l:List Int,Zp l=Zay l
 | []=>rfl
 | [x]=>rfl
 | x :: y :: l=>by
  rw [ZdG,← ZcW (y :: l)];rfl
theorem ZhD {n:Int} : ∀ (l:List Int) (d:Bool),(Zc1 n l d).length≤l.length+1
 | [],d=>by cases d <;> simp [Zc1]
 | x :: l,d=>by
  have h1:=ZhD (n:=n) l (d || decide (n≤x))
  have h2:∀ l:List Int,(Zc1 n l true).length≤l.length:=fun l=>by
   induction l with
   | nil=>simp [Zc1]
   | cons y l ih=>
    rw [Zc1,Yb (by simp),Yd,Yd,YbT]
    split <;> simp <;> omega
  rw [Zc1,Yd,Yd]
  have h3:=h2 l
  by_cases hA:d=false∧n≤x
  ·rw [show (d || decide (n≤x))=true by simp [hA.2],Ye hA]
   split <;> simp <;> omega
  ·rw [Yb hA]
   split <;> simp <;> omega
structure OpD where
 read:Bool
 key:Int
 tx:Int
 nth:Int
 deriving DecidableEq,Inhabited
structure TxD where
 id:Int
 done:Bool
 ops:List OpD
 deriving DecidableEq,Inhabited
structure OrdD where
 key:Int
 txs:List Int
 deriving DecidableEq,Inhabited
structure Zq where
 txs:List TxD
 orders:List OrdD
 deriving DecidableEq,Inhabited
structure ZgC where
 was:List TxD
 now:List TxD
 old:List OrdD
 new:List OrdD
 deriving DecidableEq,Inhabited
def rOp (o:OpD):List PV:=[.bool o.read,.int .i64 o.key,.int .i64 o.tx,.int .i64 o.nth]
def rTx (t:TxD):List PV:=[.int .i64 t.id,.bool t.done,.sl rOp t.ops]
def ZV (o:OrdD):List PV:=[.int .i64 o.key,.sl Zo o.txs]
def Zx (h:Zq):List PV:=[.sl rTx h.txs,.sl ZV h.orders]
theorem ZoC (l:List OpD) (hl:l.length≤1000000):FnG prog 102 1 [.sl rOp l] [.star []] (PV.one) (fun v=>[ZA 60 4 rOp l v]):=by
 refine FnG.mk func102 rfl ntmps102 rfl kr fun B F0 a w F Z hG G=>?_
 obtain ⟨F,G⟩:=G.nM [0] [0]
 refine Ya (rZ G (qC qZ) Z [2,0] [0] fun G=>(Ya (Ya ?_)))
 refine Zg G (qR rr (qf (Zbm Yb2 .t) r1 qz qZ)) Z [4,2,0] [0] rfl rfl fun a w F G=>?_
 obtain ⟨β4,hβ4,G⟩:=G.pickBool 4 rfl
 obtain ⟨F,G⟩:=G.nM [4,2,0] [0]
 refine Za (Zc G rfl (fun hc0=>?_) (fun hc0=>?_))
 ·have hg:l = []:=hβ4 hc0
  refine Ya (rZ G (qC qZ) Z [2,0] [0] fun G=>(Yh (Zm ?_)))
  have G:=G.fresh 1 rfl
  have G:=G.turn 1 rfl (ZaP (T:=60) (sz:=4) (R:=rOp))
  have G:=G.turn 1 rfl (r':=RS.hp (ZA 60 4 rOp l (.slice none 0 0))) (fun _ _ _ _ h=>by rw [hg];exact h)
  refine Z9 (h':=fun v=>ZA 60 4 rOp l v) hG G rfl (.tmp rfl .nil) (.one .one) rfl
 have hg:l = [] ++ l:=rfl
 refine Yf (Za (Ya (Zb G (qf (ZaL (R:=rOp) (sz:=4) 101 Yb2 kr) trivial qz (qR rr (qf (Z1 (sz:=4) (bs:=32) 101 (.mk' Yb2 kr kr) (by intro x;rfl) .same (.sl .t) (by simp only [Yd,Yy];omega) (by decide)) ⟨rfl,rfl,tv⟩ ⟨rfl,tv⟩ (qO rr qZ)))) Z [2] [101,0] (fun _=>rfl) (fun _=>rfl) fun τ a w F G=>?_)))
 try dsimp only [RS.sub,SF.sub,CF.sub,csub,Anc.sub,List.map,Zf,xL,xM,Nat.reduceAdd,xD,xE,xT,xU,xC,xN,zCF,rOp] at G
 generalize τ 7=v7 at G
 refine Za (Yh ?_)
 obtain ⟨F,G⟩:=G.rename 101 1 rfl rfl
 have G:=G.turn 1 rfl (r':=RS.hp (ZA 60 4 rOp l v7)) (fun _ _ _ _ h=>by rw [hg];exact h)
 refine Z9 (h':=fun v=>ZA 60 4 rOp l v) hG G rfl (.tmp rfl .nil) (.one .one) rfl
def Zcq (o:OpD):Bool:=if o.read=true then Zcr ⟨o.tx,o.key,o.nth⟩ else (idB o.key && decide (o.tx=0)) && decide (o.nth=0)
def ofO (o:OpD):ZbN:=if o.read=true then ⟨o.tx,o.key,o.nth⟩ else noV
def ZcG (o:OpD):Int:=if Zcq o=true then 0 else 1
theorem ZnK {o:OpD} (h:Zcq o=true):(1≤o.key∧o.key≤1048575)∧(0≤o.tx∧o.tx≤1048575)∧(0≤o.nth∧o.nth≤4095):=by
 unfold Zcq at h
 split at h
 ·unfold Zcr at h
  dsimp only at h
  split at h <;> simp only [Yr,Yu,Zjb] at h <;> omega
 ·simp only [Yr,Yu,Zjb] at h
  omega
theorem Zgp {o:OpD} (h:o.read=true):Zcq o=Zcr (ofO o):=by unfold Zcq ofO;rw [Ye h,Ye h]
theorem ZeM {o:OpD} (h:o.read=false):Zcq o=((idB o.key && decide (o.tx=0)) && decide (o.nth=0)):=by unfold Zcq;rw [Yb (by rw [h];decide)]
theorem Zk1 (v:ZbN):(ZqR v).2=if Zcr v=true then 0 else 1:=by unfold ZqR;split <;> rfl
theorem ZkN (o:OpD):FnP prog 120 [.agg (rOp o)] (.agg (ZQ (ofO o))):=by
 refine FnP.mk func120 rfl ntmps120 rfl fun B a w F Z hfr G=>Ya ?_
 refine Zb G (qx 101 r1 (qf (oH [.int .i64 0,.int .i64 0,.int .i64 0] 102) trivial qz qZ)) Z [2,1] [102,101,0] (fun _=>rfl) (fun _=>rfl) fun τ a w F G=>?_
 try dsimp only [RS.sub,SF.sub,CF.sub,csub,Anc.sub,List.map,zCF] at G
 generalize τ 1=v1,τ 2=v2 at G
 refine Za (Ya (Ya (rZ G (qg 0 101 r1 r1 (qa 101 r1 r1 (qf (o_not .t) r1 qz qZ))) Z [5,2,1] [102,101,0] fun G=>?_)))
 refine Zc G rfl (fun hc0=>?_) (fun hc0=>?_)
 ·have hr:o.read=false:=by simpa using hc0
  refine Ya (rZ G (qf (oB [] [.int .i64 0,.int .i64 0,.int .i64 0] [(0,1),(1,1),(2,1)] .nil) trivial qz (qs 3 102 r2 r1 qZ)) Z [2,1] [102,101,0] fun G=>(Yh (Zm ?_)))
  refine Zad hfr G rfl (.cl 102 true 3 rfl rfl .nil) (.one (.aggU rfl (by unfold ofO;rw [hr];rfl)))
 have hr:o.read=true:=by simpa using hc0
 refine Yf (Za (Ya (rZ G (qg 2 101 r1 r1 (qa 101 r1 r1 (qg 1 101 r1 r1 (qa 101 r1 r1 (qg 3 101 r1 r1 (qa 101 r1 r1 (qf (oB [(0,.tmp 8),(1,.tmp 10),(2,.tmp 12)] [.int .i64 0,.int .i64 0,.int .i64 0] [(0,1),(1,1),(2,1)] (.one rfl .t one_int kr (.one rfl .t one_int kr (.one rfl .t one_int kr .nil)))) r3 qz (qs 3 102 r2 r1 qZ)))))))) Z [2] [102,101,0] fun G=>Yh ?_)))
 refine Zad hfr G rfl (.cl 102 true 3 rfl rfl .nil) (.one (.aggU rfl (by unfold ofO;rw [hr];rfl)))
theorem Zm1 (o:OpD):FnP prog 86 [.agg (rOp o)] (.int .i64 (ZcG o)):=by
 refine FnP.mk func86 rfl ntmps86 rfl fun B a w F Z hfr G=>Ya ?_
 refine Zb G (qx 101 r1 (qI qZ)) Z [2,1] [101,0] (fun _=>rfl) (fun _=>rfl) fun τ a w F G=>?_
 try dsimp only [RS.sub,SF.sub,CF.sub,csub,Anc.sub,List.map,zCF] at G
 generalize τ 1=v1 at G
 refine Za (Ya (Ya (rZ G (qg 0 101 r1 r1 (qa 101 r1 r1 qZ)) Z [6,2,1] [101,0] fun G=>?_)))
 refine Zc G rfl (fun hc0=>?_) (fun hc0=>?_)
 ·have hg:(ZqR (ofO o)).2=ZcG o:=by rw [Zk1];unfold ZcG;rw [Zgp hc0]
  refine Ya (rZ G (qe 4 101 r1 r1 (qf (oP (ZkN o) func120 (Args.one (.pagg .t))) r1 qz (qf (oP (Znx (ofO o)) func137 (Args.one .t)) r1 qz (qR rr (qf (Zh .t rfl) r1 qz (qf (Zh .t rfl) r1 qz (qO rr (qO rr qZ)))))))) Z [4,2,1] [101,0] fun G=>Ya ?_)
  refine rZ G (qR rr (qO rr qZ)) Z [2,1] [101,0] fun G=>(Yh (Zm ?_))
  refine Zw hfr G rfl rfl rfl (.int hg)
 have hr:o.read=false:=hc0
 refine Yf (Za (Ya (Ya (rZ G (qe 4 101 r1 r1 (qg 1 101 r1 r1 (qa 101 r1 r1 (qf (oB [(1,.tmp 16)] [.bool false,.int .i64 0,.int .i64 0,.int .i64 0] [(0,1),(1,1),(2,1),(3,1)] (.one rfl .t one_int kr .nil)) r1 qz (qf (o_neqS (ks:=[false,true,true,true]) kr .t .t (.bool (.int (.int (.int .nil))))) r2 qz (qR rr (qv 1 101 rfl r2 r1 (qw 101 rfl r2 r1 (qk rfl (fun h=>ZaD (.w h) qi) r2 qz (qf (Zab .t .t) r2 qz (qR rr (qv 1 101 rfl r2 r1 (qw 101 rfl r2 r1 (qk rfl (fun h=>ZaV (.w h) qi) r2 qz (qf (Zab .t .t) r2 qz qZ))))))))))))))) Z [28,2] [101,0] fun G=>?_))))
 refine Zc G rfl (fun hc1=>?_) (fun hc1=>?_)
 ·have hg:(1:Int)=ZcG o:=by
    unfold ZcG
    rw [Yb]
    rw [ZeM hr]
    simp [hr,idB] at hc1 ⊢
    omega
  refine Ya (rZ G (qI qZ) Z [2] [101,0] fun G=>(Yh (Zm ?_)))
  refine Zw hfr G rfl rfl rfl (.int hg)
 have hg:(0:Int)=ZcG o:=by
   unfold ZcG
   rw [Ye]
   rw [ZeM hr]
   simp [hr,idB] at hc1 ⊢
   omega
 refine Yf (Za (Ya (rZ G (qI qZ) Z [2] [101,0] fun G=>Yh ?_)))
 refine Zw hfr G rfl rfl rfl (.int hg)
theorem Zq3 (t : TxD) (hl : t.ops.length ≤ 1000000) (p : OpD → Bool) (f : FuncId) (fn : Func) (cps : List PV) (hf : prog.funcs[f]? = some fn) (hb : fn.body.isSome = true) (hnn : (fn.name == "runtime.NumGoroutine") = false) (hw : ∀ x, FnP prog f (.agg (rOp x) :: cps) (.bool (p x))) : FnP prog 139 [.agg (rTx t), .clos f cps] (.sl Zo (Zbu ((t.ops.filter p).map OpD.key))) := by
 refine FnP.mk func139 rfl ntmps139 rfl fun B a w F Z hfr G=>Ya ?_
 refine Zb G (qx 101 r1 (qC qZ)) Z [4,2,1] [101,0] (fun _=>rfl) (fun _=>rfl) fun τ a w F G=>?_
 try dsimp only [RS.sub,SF.sub,CF.sub,csub,Anc.sub,List.map,zCF,Zo,rOp,rTx] at G
 generalize τ 2=v2 at G
 refine Za (Ya (rZ G (qC qZ) Z [5,4,2,1] [101,0] fun G=>(Ya (Ya ?_))))
 refine rZ G (qg 2 101 r1 r1 (qa 101 r1 r1 (qu Yb2 r1 (qJ qZ)))) Z [11,10,9,5,4,1] [101,0] fun G=>Yg ?_
 replace G:=G.fresh 50 rfl
 replace G:=G.turn 50 rfl (ZaP (T:=3) (sz:=1) (R:=Zo))
 refine Zl (σ:=(Nat)×(Value)×(List Int)) [1,4,9,10] [0,101] (fun s=>[(11,.pv (.int .i64 (s.1:Int))),(5,.pv (.is s.2.1))]) (fun s=>[(50,.ob (.val s.2.1) (ZA 3 1 Zo s.2.2))]) (fun s=>s.1≤t.ops.length∧(s.2.2=(((t.ops.take s.1).filter p).map OpD.key))) (fun s=>t.ops.length - s.1) ((0),(.slice none 0 0),([])) G ⟨rfl,rfl,rfl,rfl,rfl,rfl,tv⟩ ⟨rfl,rfl,rfl,tv⟩ ⟨Yw _,rfl⟩ ?_
 clear G;intro s a w F hC G
 obtain ⟨i,v,out⟩:=s
 try dsimp only at hC
 obtain ⟨F,G⟩:=G.nM [11,10,9,5,4,1] [101,50,0]
 try dsimp only at G
 obtain ⟨hi,hq⟩:=hC
 have hol:out.length≤i:=by rw [hq,YF];exact Y6 (Y3 _ _) (by rw [Yj];omega)
 refine Ya (rZ G (qL r2) Z [12,11,10,9,5,4,1] [101,50,0] fun G=>Ya ?_)
 refine Zc G rfl (fun hc0=>?_) (fun hc0=>?_)
 ·skip
  have hil:i<t.ops.length:=by simp at hc0;omega
  refine Yf (Za (Ya (Yg (Ya (Zb G (qy 4 Yb2 r2 (qf (oR true 4 .t) r1 qz (qf (oH [.bool false,.int .i64 0,.int .i64 0,.int .i64 0] 102) trivial qz (qS 4 102 r2 r1 qZ)))) Z [11,10,9,7,5,4,1] [102,101,50,0] (fun _=>rfl) (fun _=>rfl) fun τ a w F G=>?_)))))
  try dsimp only [RS.sub,SF.sub,CF.sub,csub,Anc.sub,List.map,Zf,xL,xM,Nat.reduceAdd,xD,xE,xT,xU,xC,xN,zCF,ldSF,Zo,rOp,rTx] at G
  generalize τ 7=v7 at G
  try simp only [Yc] at G
  refine Za (Ya (rZ G (qR rr (qe 4 102 r1 r1 (qf (Z6 (avs:=[.agg (rOp (Nn t.ops i))]) .t (hw (Nn t.ops i)) hf hb hnn (Args.one (.pagg .t))) r2 qz qZ))) Z [17,11,10,9,7,5,4,1] [102,101,50,0] fun G=>?_))
  refine Zc G rfl (fun hc1=>?_) (fun hc1=>?_)
  ·skip
   have hBq:p (Nn t.ops i)=true:=by simpa using hc1
   refine Zb G (qR rr (qg 1 102 r1 r1 (qa 102 r1 r1 (qf (o_buildSliceE (sz:=1) (zs:=[.int .i64 0]) (r:=[(0,.tmp 20)]) (l:=[_]) YbZ kr kr kr kr rfl rfl (.one rfl .t one_int kr .nil) rfl) r1 qz (qf (Z1 (sz:=1) (bs:=8) 50 (.mk' YbZ kr kr) (by intro x;rfl) .is (.arr (l':=[(Nn t.ops i).key]) .t) (by simp only [Yd,Yl,Yy,Yj,YJ];omega) (by decide)) ⟨rfl,rfl,tv⟩ ⟨rfl,tv⟩ (qO rr qZ)))))) Z [11,10,9,5,4,1] [102,101,50,0] (fun _=>rfl) (fun _=>rfl) fun τ a w F G=>?_
   try dsimp only [RS.sub,SF.sub,CF.sub,csub,Anc.sub,List.map,Zf,xL,xM,Nat.reduceAdd,xD,xE,xT,xU,xC,xN,zCF,ldSF,Zo,rOp,rTx] at G
   generalize τ 22=v22 at G
   refine Zk (Za (rZ G (qp r1 (qR rr qZ)) Z [11,10,9,5,4,1] [102,101,50,0] fun G=>?_))
   replace G:=G.ent (i:=11) (s':=.pv (.int .i64 ((i+1:Nat):Int))) rfl (.int (Zd ow))
   obtain ⟨F,G⟩:=G.nM [10,9,4,1,5,11] [101,0,50]
   exact ⟨((i+1),_,_),F,⟨by omega,(by rw [Zt hil,Yaa,YK,← hq];simp [hBq])⟩,G,by omega⟩
  have hBq:p (Nn t.ops i)=false:=by simpa using hc1
  refine Yf (Zk (Za (rZ G (qp r1 (qR rr qZ)) Z [11,10,9,5,4,1] [102,101,50,0] fun G=>?_)))
  replace G:=G.ent (i:=11) (s':=.pv (.int .i64 ((i+1:Nat):Int))) rfl (.int (Zd ow))
  obtain ⟨F,G⟩:=G.nM [10,9,4,1,5,11] [101,0,50]
  exact ⟨((i+1),_,_),F,⟨by omega,(by rw [Zt hil,Yaa,YK,← hq];simp [hBq])⟩,G,by omega⟩
 have hil:i=t.ops.length:=by simp at hc0;omega
 refine Yx (Zj (Zj (Zr (Za (Ya (rZ G (qR rr (qf (Za3 50 (Zio _ out ow) func92 rfl kr (Args.one .t)) r1 r1 qZ)) Z [5,4] [101,50,0] fun G=>Ya ?_))))))
 refine Zb G (qR rr (qf (o_callRowN 50 (Zi2 _ _ (by rw [Ybd];omega)) func179 rfl kr (Args.one .t) pvOne1) r1 r1 (qO rr qZ))) Z [4] [101,50,0] (fun _=>rfl) (fun _=>rfl) fun τ a w F G=>?_
 try dsimp only [RS.sub,SF.sub,CF.sub,csub,Anc.sub,List.map,Zo,rOp,rTx] at G
 generalize τ 27=v27 at G
 refine Za (Yh ?_)
 obtain ⟨F,G⟩:=G.give 50 4 rfl rfl
 refine Zw hfr G rfl rfl rfl (.sl (by rw [ZcW,Zdk,hq,hil,YC]))
theorem Zfo (l:List Int):(Zbu l).length≤l.length:=by
 have key:∀ (l acc:List Int),(l.foldl ZkW acc).length≤acc.length+l.length:=fun l=>by
  induction l with
  | nil=>intro acc;simp
  | cons x l ih=>
   intro acc
   have h1:=ih (ZkW acc x)
   have h2:(ZkW acc x).length≤acc.length+1:=ZhD acc false
   rw [Yav,Yl];omega
 have:=key l []
 simpa [Zbu] using this
theorem Ent.fnClos {f:FuncId} : Ent (.pv (.is (.func (.func f) #[] #[]))) (.pv (.clos f [])):=fun τ w y v h=>⟨[],h.1,tv⟩
theorem Zr5 (o:OpD):FnP prog 140 [.agg (rOp o)] (.bool (!o.read)):=by
 refine FnP.mk func140 rfl ntmps140 rfl fun B a w F Z hfr G=>Ya ?_
 refine Zb G (qx 101 r1 qB) Z [2,1] [101,0] (fun _=>rfl) (fun _=>rfl) fun τ a w F G=>?_
 try dsimp only [RS.sub,SF.sub,CF.sub,csub,Anc.sub,List.map,zCF,rOp] at G
 generalize τ 1=v1 at G
 refine Za (Ya (rZ G (qg 0 101 r1 r1 (qa 101 r1 r1 (qf (o_not .t) r1 qz (qO rr qZ)))) Z [2] [0] fun G=>Yh ?_))
 refine Zw hfr G rfl rfl rfl (.bool rfl)
theorem Zsj (t:TxD) (hl:t.ops.length≤1000000):FnP prog 91 [.agg (rTx t)] (.sl Zo (Zbu ((t.ops.filter fun o=>!o.read).map OpD.key))):=by
 refine FnP.mk func91 rfl ntmps91 rfl fun B a w F Z hfr G=>Ya ?_
 refine Zb G (qx 101 r1 (qC qZ)) Z [2,1] [101,0] (fun _=>rfl) (fun _=>rfl) fun τ a w F G=>?_
 try dsimp only [RS.sub,SF.sub,CF.sub,csub,Anc.sub,List.map,zCF,rTx,Zo] at G
 generalize τ 1=v1 at G
 refine Za (Ya (rZ G (qe 3 101 r1 r1 (qf (oP (Zq3 t hl (fun o=>!o.read) 140 f140 [] func140 rfl kr (fun o=>Zr5 o)) func139 (Args.two (.pagg .t) (.conv .f (Ent.fnClos)))) r1 qz (qO rr qZ))) Z [2] [0] fun G=>Yh ?_))
 refine Zw hfr G rfl rfl rfl (.sl rfl)
theorem ZfD (t:TxD) (n:Int) (hl:t.ops.length≤1000000):FnP prog 29 [.agg (rTx t),.int .i64 n] (.int .i64 (((t.ops.filter fun o=>!o.read && decide (o.key=n)).length:Nat):Int)):=by
 refine FnP.mk func29 rfl ntmps29 rfl fun B a w F Z hfr G=>?_
 have hll:t.ops.length≤1000000:=hl
 refine Ya (Zb G (qx 101 r1 (qI qZ)) Z [4,2,1] [101,0] (fun _=>rfl) (fun _=>rfl) fun τ a w F G=>?_)
 try dsimp only [RS.sub,SF.sub,CF.sub,csub,Anc.sub,List.map,zCF,Zo,rOp,rTx] at G
 generalize τ 2=v2 at G
 refine Za (Ya (rZ G (qI qZ) Z [5,4,2,1] [101,0] fun G=>(Ya (Ya ?_))))
 refine rZ G (qg 2 101 r1 r1 (qa 101 r1 r1 (qu Yb2 r1 (qJ qZ)))) Z [11,10,9,5,4,1] [0] fun G=>Yg ?_
 refine Zl (σ:=(Nat)) [1,4,9,10] [0] (fun s=>[(11,.pv (.int .i64 (s:Int))),(5,.pv (.int .i64 ((((t.ops.take s).filter fun o=>!o.read && decide (o.key=n)).length:Nat):Int)))]) (fun s=>[]) (fun s=>s≤t.ops.length∧(True)) (fun s=>t.ops.length - s) (0) G ⟨rfl,rfl,rfl,rfl,rfl,rfl,tv⟩ ⟨rfl,tv⟩ ⟨Yw _,tv⟩ ?_
 clear G;intro i a w F hC G
 try dsimp only at hC
 obtain ⟨F,G⟩:=G.nM [11,10,9,5,4,1] [0]
 try dsimp only at G
 obtain ⟨hi,hq⟩:=hC
 refine Ya (rZ G (qL r2) Z [12,11,10,9,5,4,1] [0] fun G=>Ya ?_)
 refine Zc G rfl (fun hc0=>?_) (fun hc0=>?_)
 ·have hil:i<t.ops.length:=by simp at hc0;omega
  refine Yf (Za (Ya (Yg (Ya (Zb G (qy 4 Yb2 r2 (qf (oR true 4 .t) r1 qz (qf (oH [.bool false,.int .i64 0,.int .i64 0,.int .i64 0] 102) trivial qz (qS 4 102 r2 r1 qZ)))) Z [11,10,9,7,5,4,1] [102,0] (fun _=>rfl) (fun _=>rfl) fun τ a w F G=>?_)))))
  try dsimp only [RS.sub,SF.sub,CF.sub,csub,Anc.sub,List.map,Zf,xL,xM,Nat.reduceAdd,xD,xE,xT,xU,xC,xN,zCF,ldSF,Zo,rOp,rTx] at G
  generalize τ 7=v7 at G
  try simp only [Yc] at G
  refine Za (Ya (rZ G (qg 0 102 r1 r1 (qa 102 r1 r1 (qf (o_not .t) r1 qz (qR rr (qv 1 102 rfl r2 r1 (qw 102 rfl r2 r1 (qm rfl rfl rfl rfl (qk rfl (fun h=>o_eql (.w h) (.w h)) r3 qz (qf (ZH .t .t) r2 qz qZ))))))))) Z [23,11,10,9,5,4,1] [0] fun G=>?_))
  refine Zc G rfl (fun hc1=>?_) (fun hc1=>?_)
  ·have hstp:((t.ops.take (i+1)).filter fun o=>!o.read && decide (o.key=n))=((t.ops.take i).filter fun o=>!o.read && decide (o.key=n))++(if (!(Nn t.ops i).read && decide ((Nn t.ops i).key=n))=true then [(Nn t.ops i)] else []):=by rw [Zt hil,Yaa];simp only [YbI,List.filter_nil]
   have hle:((t.ops.take i).filter fun o=>!o.read && decide (o.key=n)).length≤i:=Y6 (Y3 _ _) (by rw [Yj];omega)
   have hBq:(!(Nn t.ops i).read && decide ((Nn t.ops i).key=n))=true:=hc1
   have hcc:IntKind.wrap .i64 (((((t.ops.take i).filter fun o=>!o.read && decide (o.key=n)).length:Nat):Int)+1)=((((t.ops.take (i+1)).filter fun o=>!o.read && decide (o.key=n)).length:Nat):Int):=by rw [hstp,Ye hBq,Yd,ZC ow];simp
   refine Zg G (qR rr (qp r1 (qO rr qZ))) Z [11,10,9,5,4,1] [0] rfl rfl fun a w F G=>Zk (Za ?_)
   refine rZ G (qp r1 (qR rr qZ)) Z [11,10,9,5,4,1] [0] fun G=>?_
   replace G:=G.ent (i:=11) (s':=.pv (.int .i64 ((i+1:Nat):Int))) rfl (.int (Zd ow))
   replace G:=G.ent (i:=5) (s':=.pv (.int .i64 ((((t.ops.take (i+1)).filter fun o=>!o.read && decide (o.key=n)).length:Nat):Int))) rfl (.int hcc)
   obtain ⟨F,G⟩:=G.nM [10,9,4,1,5,11] [0]
   exact ⟨(i+1),F,⟨by omega,tv⟩,G,by omega⟩
  have hstp:((t.ops.take (i+1)).filter fun o=>!o.read && decide (o.key=n))=((t.ops.take i).filter fun o=>!o.read && decide (o.key=n))++(if (!(Nn t.ops i).read && decide ((Nn t.ops i).key=n))=true then [(Nn t.ops i)] else []):=by rw [Zt hil,Yaa];simp only [YbI,List.filter_nil]
  have hle:((t.ops.take i).filter fun o=>!o.read && decide (o.key=n)).length≤i:=Y6 (Y3 _ _) (by rw [Yj];omega)
  have hBq:(!(Nn t.ops i).read && decide ((Nn t.ops i).key=n))=false:=hc1
  have hcc:((((t.ops.take i).filter fun o=>!o.read && decide (o.key=n)).length:Nat):Int)=((((t.ops.take (i+1)).filter fun o=>!o.read && decide (o.key=n)).length:Nat):Int):=by rw [hstp,Yb (by rw [hBq];simp),YN]
  refine Yf (Zk (Za (rZ G (qp r1 (qR rr qZ)) Z [11,10,9,5,4,1] [0] fun G=>?_)))
  replace G:=G.ent (i:=11) (s':=.pv (.int .i64 ((i+1:Nat):Int))) rfl (.int (Zd ow))
  replace G:=G.ent (i:=5) (s':=.pv (.int .i64 ((((t.ops.take (i+1)).filter fun o=>!o.read && decide (o.key=n)).length:Nat):Int))) rfl (.int hcc)
  obtain ⟨F,G⟩:=G.nM [10,9,4,1,5,11] [0]
  exact ⟨(i+1),F,⟨by omega,tv⟩,G,by omega⟩
 have hil:i=t.ops.length:=by simp at hc0;omega
 refine Yx (Zj (Zj (Zr (Za (Ya (rZ G (qR rr (qO rr qZ)) Z [4] [0] fun G=>Yh ?_))))))
 refine Zw hfr G rfl rfl rfl (.int (by rw [hil,YC]))
def wcnt (l:List OpD) (k:Int):Nat:=(l.filter fun o=>!o.read && decide (o.key=k)).length
theorem ZhT {l:List OpD} {i:Nat} (h:i<l.length) (k:Int):wcnt (l.take (i+1)) k=wcnt (l.take i) k+if (Nn l i).read=false∧(Nn l i).key=k then 1 else 0:=by
 unfold wcnt
 rw [Zt h,Yaa,Yd]
 congr 1
 by_cases h1:(Nn l i).read=false∧(Nn l i).key=k
 ·rw [Ye h1];simp [h1.1,h1.2]
 ·rw [Yb h1]
  have:(!(Nn l i).read && decide ((Nn l i).key=k))=false:=by
   cases hr:(Nn l i).read with
   | true=>rfl
   | false=>simp;exact fun e=>h1 ⟨hr,e⟩
  simp [this]
theorem Zrd (l:List OpD) (i:Nat) (k:Int):wcnt (l.take i) k≤i:=Y6 (Y3 _ _) (by rw [Yj];omega)
def ZaX (id:Int):List OpD→List OpD→Int
 | _,[]=>0
 | s,o :: r=>if Zcq o=false then 1 else if o.read=true∧o.tx=id∧(wcnt s o.key:Int)<o.nth then 6 else ZaX id (s ++ [o]) r
def Za7 (t:TxD):Int:=if ¬ (1≤t.id∧t.id≤1048575) then 1 else if 4095<t.ops.length then 9 else ZaX t.id [] t.ops
theorem ZcX {id:Int} {l:List OpD} {i:Nat} (h:i<l.length):ZaX id (l.take i) (l.drop i)=if Zcq (Nn l i)=false then 1 else if (Nn l i).read=true∧(Nn l i).tx=id∧(wcnt (l.take i) (Nn l i).key:Int)<(Nn l i).nth then 6 else ZaX id (l.take (i+1)) (l.drop (i+1)):=by
 rw [ZpP h,ZaX,Zt h]
theorem ZiW {id:Int} {l:List OpD} {i:Nat} (h:i=l.length):ZaX id (l.take i) (l.drop i)=0:=by rw [h,List.drop_length];rfl
def Zei (id:Int) (o:OpD):Bool:=(o.read && !decide (o.tx=0)) && !decide (o.tx=id)
def Zba (id:Int) (out:List ZbN) (o:OpD):List ZbN:=if Zei id o=true∧ofO o ∉ out then out ++ [ofO o] else out
def Zc7 (id:Int) (l:List OpD):List ZbN:=l.foldl (Zba id) []
def Zkd (t:TxD):List ZbN:=Zc7 t.id t.ops
theorem Zjh {id:Int} {l:List OpD} {i:Nat} (h:i<l.length):Zc7 id (l.take (i+1))=Zba id (Zc7 id (l.take i)) (Nn l i):=by
 unfold Zc7
 rw [Zt h,Ybk]
 rfl
theorem ZhO (id:Int) (out:List ZbN) (o:OpD):(Zba id out o).length≤out.length+1:=by
 unfold Zba
 split <;> simp
theorem Zk9 (id:Int) (l:List OpD) (i:Nat):(Zc7 id (l.take i)).length≤i:=by
 have key:∀ (l:List OpD) (out:List ZbN),(l.foldl (Zba id) out).length≤out.length+l.length:=by
  intro l
  induction l with
  | nil=>intro out;simp
  | cons x l ih=>
   intro out
   have h1:=ih (Zba id out x)
   have h2:=ZhO id out x
   rw [Yav,Yl];omega
 have:=key (l.take i) []
 rw [Yj] at this
 unfold Zc7
 simp at this ⊢
 omega
structure Za1 where
 key:Int
 nth:Int
 deriving DecidableEq,Inhabited
def Za5 (p:Za1):List Int:=[p.key,p.nth]
def Zc6 (v:ZbN):List Int:=[v.tx,v.key,v.nth]
def Zci (es:List (GE Za1 Int)) (s:List OpD):Prop:=∀ k n,0≤n→(gGet (⟨k,n⟩:Za1) es).getD 0=if n=0 then (wcnt s k:Int) else if n≤wcnt s k then 1 else 0
theorem ZmS:Zci [] []:=fun k n h=>by
 show (0:Int)=_
 have:wcnt [] k=0:=rfl
 rw [this]
 split
 ·rfl
 ·rw [Yb (by simp;omega)]
theorem ZnY {es:List (GE Za1 Int)} {l:List OpD} {i:Nat} (h:Zci es (l.take i)) (hi:i<l.length) (hr:(Nn l i).read=true):Zci es (l.take (i+1)):=fun k n hn=>by
 rw [h k n hn,ZhT hi,Yb (c:=(Nn l i).read=false∧(Nn l i).key=k) (by simp [hr]),Ybm]
theorem Zml {es es2:List (GE Za1 Int)} {l:List OpD} {i:Nat} {c:Int} (h:Zci es (l.take i)) (hi:i<l.length) (hr:(Nn l i).read=false) (hc:c=(wcnt (l.take i) (Nn l i).key:Int)+1)
  (he:∀ p,(gGet p es2).getD 0=if p = ⟨(Nn l i).key,c⟩ then 1 else if p = ⟨(Nn l i).key,0⟩ then c else (gGet p es).getD 0):Zci es2 (l.take (i+1)):=fun k n hn=>by
 have hk:=h k n hn
 rw [he,hk,ZhT hi]
 by_cases e:(Nn l i).key=k
 ·rw [Ye (c:=(Nn l i).read=false∧_) ⟨hr,e⟩]
  rw [e] at hc
  rw [e]
  by_cases e2:n=c
  ·subst e2
   rw [Ye rfl,Yb ow,Ye ow]
  ·rw [Yb (by simp [e2])]
   by_cases e3:n=0
   ·subst e3
    rw [Ye rfl,Ye rfl,hc];simp
   ·rw [Yb (by simp [e3]),Yb e3,Yb e3]
    by_cases e4:n≤(wcnt (l.take i) k:Int)
    ·rw [Ye e4,Ye ow]
    ·rw [Yb e4,Yb ow]
 ·rw [Yb (c:=(Nn l i).read=false∧_) (by simp [e]),Ybm,Yb (by simp;exact fun h=>absurd h.symm e),Yb (by simp;exact fun h=>absurd h.symm e)]
def Zdu (es:List (GE ZbN Int)) (i:Nat) (out:List ZbN):Prop:=∀ v,0≤(gGet v es).getD 0∧(gGet v es).getD 0≤i∧(0<(gGet v es).getD 0 ↔ v ∈ out)
theorem Zpg:Zdu [] 0 []:=fun v=>⟨Yaj _,Yaj _,by show (0:Int)<0 ↔ _;simp⟩
theorem ZpF {es:List (GE ZbN Int)} {i:Nat} {out:List ZbN} (h:Zdu es i out):Zdu es (i+1) out:=fun v=>⟨(h v).1,by have:=(h v).2.1;omega,(h v).2.2⟩
theorem ZpQ {es es2:List (GE ZbN Int)} {i:Nat} {out:List ZbN} {v:ZbN} (h:Zdu es i out) (he:∀ u,(gGet u es2).getD 0=if u=v then (gGet v es).getD 0+1 else (gGet u es).getD 0):Zdu es2 (i+1) (if v ∈ out then out else out ++ [v]):=fun u=>by
 have h1:=h u
 have h2:=h v
 rw [he u]
 by_cases e:u=v
 ·subst e
  rw [Ye rfl]
  refine ⟨by omega,by omega,?_⟩
  constructor
  ·intro _;split <;> simp_all
  ·intro _;omega
 ·rw [Yb e]
  refine ⟨by omega,by omega,?_⟩
  rw [h1.2.2]
  split
  ·rfl
  ·simp [e]
theorem Zf9 {κ:Type} [DecidableEq κ] {k p:κ} {x:Int} (s:List (GE κ Int)×Nat):(gGet p (gSet k x (gEns 0 k s).1)).getD 0=if p=k then x else (gGet p s.1).getD 0:=by
 rw [ZcU];split <;> rfl
theorem ZoR {κ:Type} [DecidableEq κ] {k p:κ} {x:Int} (s:List (GE κ Int)×Nat):(gGet p (gPut k x s).1).getD 0=if p=k then x else (gGet p s.1).getD 0:=by
 rw [ZcZ];split <;> rfl
theorem ZeO:ZlX prog 137 (fun k=>∀ x ∈ Za5 k,inR .i64 x) (kvS Za5):=Zdc (n:=2) (fun _=>rfl) (fun a b h=>by cases a;cases b;simpa [Za5] using h) kr
theorem Zoo:ZlX prog 33 (fun k=>∀ x ∈ Zc6 k,inR .i64 x) (kvS Zc6):=Zdc (n:=3) (fun _=>rfl) (fun a b h=>by cases a;cases b;simpa [Zc6] using h) kr
theorem Zh1 {es:List (GE Za1 Int)} {s:List OpD} {o:OpD} {id:Int} (h:Zci es s) (hk:Zcq o=true) (hr:o.read=true) (hid:1≤id):(o.tx=id∧(gGet (⟨o.key,o.nth⟩:Za1) es).getD 0=0) ↔ (o.read=true∧o.tx=id∧(wcnt s o.key:Int)<o.nth):=by
 have hb:=ZnK hk
 have h1:=h o.key o.nth ow
 constructor
 ·rintro ⟨e1,e2⟩
  refine ⟨hr,e1,?_⟩
  have hn:1≤o.nth:=by
   rw [Zgp hr] at hk
   unfold ofO at hk
   rw [Ye hr] at hk
   unfold Zcr at hk
   rw [Yb (show ¬ o.tx=0 by omega)] at hk
   simp at hk
   omega
  rw [e2,Yb ow] at h1
  split at h1
  ·cases h1
  ·omega
 ·rintro ⟨_,e1,e2⟩
  refine ⟨e1,?_⟩
  rw [h1,Yb ow,Yb ow]
theorem Zn8 (t:TxD):FnP prog 44 [.agg (rTx t)] (.int .i64 (Za7 t)):=by
 refine FnP.mk func44 rfl ntmps44 rfl fun B a w F Z hfr G=>Ya ?_
 refine Zb G (qx 101 r1 (qI qZ)) Z [2,1] [101,0] (fun _=>rfl) (fun _=>rfl) fun τ a w F G=>?_
 try dsimp only [RS.sub,SF.sub,CF.sub,csub,Anc.sub,List.map,zCF,Zo,rOp,rTx] at G
 generalize τ 1=v1 at G
 refine Za (Ya (Yg (Ya (rZ G (qg 0 101 r1 r1 (qa 101 r1 r1 (qf (ZaD .t qi) r1 qz (qR rr (qv 0 101 rfl r2 r1 (qw 101 rfl r2 r1 (qk rfl (fun h=>ZaV (.w h) qi) r2 qz (qf (Zab .t .t) r2 qz (qO rr qZ))))))))) Z [7,2,1] [101,0] fun G=>?_))))
 refine Zc G rfl (fun hc0=>?_) (fun hc0=>?_)
 ·have hg:1=Za7 t:=by unfold Za7;rw [Ye (by simp at hc0;omega)]
  refine Ya (rZ G (qI qZ) Z [2,1] [101,0] fun G=>(Yh (ZB (Zm ?_))))
  refine Zw hfr G rfl rfl rfl (.int hg)
 have hid:1≤t.id∧t.id≤1048575:=by simp at hc0;omega
 refine Ya (rZ G (qg 2 101 r1 r1 (qa 101 r1 r1 (qu Yb2 r1 (qf (ZaV .t qi) r1 qz (qO rr qZ))))) Z [16,2,1] [101,0] fun G=>?_)
 refine Zc G rfl (fun hc1=>?_) (fun hc1=>?_)
 ·have hg:9=Za7 t:=by unfold Za7;rw [Yb ow,Ye (by simp at hc1;omega)]
  refine Ya (rZ G (qI qZ) Z [2,1] [101,0] fun G=>(Yh (ZB (Zm ?_))))
  refine Zw hfr G rfl rfl rfl (.int hg)
 have hlen:t.ops.length≤4095:=by simp at hc1;omega
 have hT:Za7 t=ZaX t.id [] t.ops:=by unfold Za7;rw [Yb ow,Yb ow]
 refine Yf (Zk (Za (Ya (Zb G (qf (ZaG (ek:=(fun n:Int=>PV.int .i64 n)) (ok:=(fun k=>∀ x ∈ Za5 k,inR .i64 x)) (kv:=(kvS Za5)) 102) trivial qz (qO rr qZ)) Z [3,2,1] [102,101,0] (fun _=>rfl) (fun _=>rfl) fun τ a w F G=>?_))))
 try dsimp only [RS.sub,SF.sub,CF.sub,csub,Anc.sub,List.map,Zf,xL,xM,Nat.reduceAdd,xD,xE,xT,xU,xC,xN,zCF,Zo,rOp,rTx] at G
 generalize τ 21=v21 at G
 refine Za (Ya (Ya (rZ G (qg 2 101 r1 r1 (qa 101 r1 r1 (qu Yb2 r1 (qJ qZ)))) Z [25,24,23,3,2,1] [102,101,0] fun G=>Yg ?_)))
 refine Zl (σ:=(Nat)×(List (GE Za1 Int))×(Nat)) [1,2,3,23,24] [0,101] (fun s=>[(25,.pv (.int .i64 (s.1:Int)))]) (fun s=>[(102,.ob (.val v21) (Zbt (fun n:Int=>PV.int .i64 n) (fun k=>∀ x ∈ Za5 k,inR .i64 x) (kvS Za5) s.2.1 s.2.2))]) (fun s=>s.1≤t.ops.length∧(ZaX t.id [] t.ops=ZaX t.id (t.ops.take s.1) (t.ops.drop s.1)∧Zci s.2.1 (t.ops.take s.1))) (fun s=>t.ops.length - s.1) ((0),([]),(0)) G ⟨rfl,rfl,rfl,rfl,rfl,rfl,tv⟩ ⟨rfl,rfl,rfl,tv⟩ ⟨Yw _,⟨rfl,ZmS⟩⟩ ?_
 clear G;intro s a w F hC G
 obtain ⟨i,es,ck⟩:=s
 try dsimp only at hC
 obtain ⟨F,G⟩:=G.nM [25,24,23,3,2,1] [102,101,0]
 try dsimp only at G
 obtain ⟨hi,hq⟩:=hC
 obtain ⟨hrt,hsp⟩:=hq
 have hwl:=fun k=>Zrd t.ops i k
 refine Ya (rZ G (qL r2) Z [26,25,24,23,3,2,1] [102,101,0] fun G=>Ya ?_)
 refine Zc G rfl (fun hc2=>?_) (fun hc2=>?_)
 ·have hil:i<t.ops.length:=by simp at hc2;omega
  refine Yf (Za (Ya (Yg (Ya (Zb G (qy 4 Yb2 r2 (qf (oR true 4 .t) r1 qz (qf (oH [.bool false,.int .i64 0,.int .i64 0,.int .i64 0] 103) trivial qz (qS 4 103 r2 r1 qZ)))) Z [25,24,23,5,3,2,1] [103,102,101,0] (fun _=>rfl) (fun _=>rfl) fun τ a w F G=>?_)))))
  try dsimp only [RS.sub,SF.sub,CF.sub,csub,Anc.sub,List.map,Zf,xL,xM,Nat.reduceAdd,xD,xE,xT,xU,xC,xN,zCF,ldSF,Zo,rOp,rTx] at G
  generalize τ 5=v5 at G
  try simp only [Yc] at G
  refine Za (Ya (Ya (rZ G (qe 4 103 r1 r1 (qf (oP (Zm1 (Nn t.ops i)) func86 (Args.one (.pagg .t))) r1 qz (qO rr qZ))) Z [25,24,23,6,5,3,2,1] [103,102,101,0] fun G=>Ya ?_)))
  refine rZ G (qR rr (qf (o_neq .t qi) r1 qz qZ)) Z [32,25,24,23,6,5,3,2,1] [103,102,101,0] fun G=>?_
  refine Zc G rfl (fun hc3=>?_) (fun hc3=>?_)
  ·have hk:Zcq (Nn t.ops i)=false:=by unfold ZcG at hc3;simpa using hc3
   have hg:ZcG (Nn t.ops i)=Za7 t:=by rw [hT,hrt,ZcX hil,Ye hk];unfold ZcG;rw [hk];rfl
   refine Ya (rZ G (qR rr (qO rr qZ)) Z [25,24,23,5,3,2,1] [103,102,101,0] fun G=>(Yh (Zm (ZB (Zm (Zm (ZB (Zm ?_))))))))
   refine Zw hfr G rfl rfl rfl (.int hg)
  have hk:Zcq (Nn t.ops i)=true:=by unfold ZcG at hc3;simpa using hc3
  refine Yf (Za (Ya (Ya (rZ G (qg 0 103 r1 r1 (qa 103 r1 r1 (qf (o_not .t) r1 qz qZ))) Z [36,25,24,23,5,3,2,1] [103,102,101,0] fun G=>?_))))
  refine Zc G rfl (fun hc4=>?_) (fun hc4=>?_)
  ·have hr:(Nn t.ops i).read=false:=by simpa using hc4
   have hm0:=hsp (Nn t.ops i).key 0 (Yaj _)
   rw [Ye rfl] at hm0
   have hwc:IntKind.wrap .i64 (((gGet (⟨(Nn t.ops i).key,0⟩:Za1) es).getD 0)+1)=(wcnt (t.ops.take i) (Nn t.ops i).key:Int)+1:=by rw [hm0];exact ZC (by have:=hwl (Nn t.ops i).key;omega)
   refine Ya ?_
   replace G:=G.turnZ 102 (0) (⟨(Nn t.ops i).key,0⟩:Za1) rfl
   refine ZaU 102 8 (m1:=1) (m2:=2) kr G kr (qR rr (qg 1 103 r1 r1 (qa 103 r1 r1 (qf (oB [(0,.tmp 39),(1,_)] [.int .i64 0,.int .i64 0] [(0,1),(1,1)] (.one rfl .t one_int kr (.one rfl qi one_int kr .nil))) r1 qz (qf (ZbZ (ek:=(fun n:Int=>PV.int .i64 n)) (z0:=(0)) 102 underlying134 ZeO kr (fun _ _=>⟨rfl,Zdf⟩) .is (ZG.agg (enc:=Za5) (k:=(⟨(Nn t.ops i).key,0⟩:Za1)) (.pagg .t) rfl)) r2 r1 (qp r1 (qf (ZaW (ek:=(fun n:Int=>PV.int .i64 n)) (z0:=(0)) 102 underlying134 ZeO kr (fun _ _=>⟨rfl,Zdf⟩) .is (ZG.agg (enc:=Za5) (k:=(⟨(Nn t.ops i).key,0⟩:Za1)) (.pagg .t) rfl) (by intros;first | rfl | simp [Anc.v,upd])) r2 r1 (qf (Zh .t rfl) r1 qz (qf (Zav 102 (Zbq _ _ _) .is .t .t) r3 r1 qZ))))))))) kr kr kr rfl rfl rfl (fun _ _ _ _ h=>.inr h) (by rw [Z];kernel_rfl) fun a w F G=>?_
   obtain ⟨F,G⟩:=G.nM [25,24,23,5,3,2,1] [103,102,101,0]
   try dsimp only [List.map,Zf,xL,xM,Nat.reduceAdd,xD,xE,xT,xU,xC,xN,zCF,ldSF,Zo,rOp,rTx] at G
   obtain ⟨es1,he1⟩:∃ z,z=gSet (⟨(Nn t.ops i).key,0⟩:Za1) (IntKind.wrap .i64 (((gGet (⟨(Nn t.ops i).key,0⟩:Za1) es).getD 0)+1)) (gEns 0 (⟨(Nn t.ops i).key,0⟩:Za1) (es,ck)).1:=⟨_,rfl⟩
   obtain ⟨ck1,hc1⟩:∃ z,z=(gEns 0 (⟨(Nn t.ops i).key,0⟩:Za1) (es,ck)).2:=⟨_,rfl⟩
   rw [← he1,← hc1] at G
   refine Za (Ya (Zz G (qR rr (qg 1 103 r1 r1 (qa 103 r1 r1 (qR rr (qg 1 103 r1 r1 (qa 103 r1 r1 (qf (oB [(0,.tmp 50),(1,_)] [.int .i64 0,.int .i64 0] [(0,1),(1,1)] (.one rfl .t one_int kr (.one rfl qi one_int kr .nil))) r1 qz (qf (Zae (ek:=(fun n:Int=>PV.int .i64 n)) (z0:=(0)) 102 underlying134 ZeO kr (fun _ _=>⟨rfl,Zdf⟩) .is (ZG.agg (enc:=Za5) (k:=(⟨(Nn t.ops i).key,0⟩:Za1)) (.pagg .t) rfl)) r2 r1 (qf (oB [(0,.tmp 47),(1,.tmp 52)] [.int .i64 0,.int .i64 0] [(0,1),(1,1)] (.one rfl .t one_int kr (.one rfl .t one_int kr .nil))) r2 qz (qf (o_mapUpdateG (ek:=(fun n:Int=>PV.int .i64 n)) 102 underlying134 ZeO .is (ZG.agg (enc:=Za5) (k:=(⟨(Nn t.ops i).key,(gGet (⟨(Nn t.ops i).key,0⟩:Za1) es1).getD 0⟩:Za1)) (.pagg .t) rfl) qi) r2 r1 qZ)))))))))) Z [25,24,23,5,3,2,1] [103,102,101,0] rfl rfl fun a w F G=>?_))
   try dsimp only [List.map,Zf,xL,xM,Nat.reduceAdd,xD,xE,xT,xU,xC,xN,zCF,ldSF,Zo,rOp,rTx] at G
   have hv1:∀ p,(gGet p es1).getD 0=if p=(⟨(Nn t.ops i).key,0⟩:Za1) then (wcnt (t.ops.take i) (Nn t.ops i).key:Int)+1 else (gGet p es).getD 0:=fun p=>by rw [he1,Zf9,hwc]
   obtain ⟨es2,he2⟩:∃ z,z=(gPut (⟨(Nn t.ops i).key,(gGet (⟨(Nn t.ops i).key,0⟩:Za1) es1).getD 0⟩:Za1) 1 (es1,ck1)).1:=⟨_,rfl⟩
   obtain ⟨ck2,hc2⟩:∃ z,z=(gPut (⟨(Nn t.ops i).key,(gGet (⟨(Nn t.ops i).key,0⟩:Za1) es1).getD 0⟩:Za1) 1 (es1,ck1)).2:=⟨_,rfl⟩
   rw [← he2,← hc2] at G
   have hR2:ZaX t.id [] t.ops=ZaX t.id (t.ops.take (i+1)) (t.ops.drop (i+1))∧Zci es2 (t.ops.take (i+1)):=⟨by rw [hrt,ZcX hil,Yb (by rw [hk];decide),Yb (by rw [hr];simp)],Zml hsp hil hr rfl (fun p=>by rw [he2,ZoR];dsimp only;rw [hv1,hv1,Ye rfl])⟩
   refine Za (Yx (Zj (Zr (Za (rZ G (qp r1 (qR rr qZ)) Z [25,24,23,3,2,1] [103,102,101,0] fun G=>?_)))))
   replace G:=G.ent (i:=25) (s':=.pv (.int .i64 ((i+1:Nat):Int))) rfl (.int (Zd ow))
   obtain ⟨F,G⟩:=G.nM [24,23,3,2,1,25] [101,0,102]
   exact ⟨((i+1),(es2),(ck2)),F,⟨by omega,hR2⟩,G,by omega⟩
  have hr:(Nn t.ops i).read=true:=by simpa using hc4
  refine Yf (Za (Ya (rZ G (qg 2 103 r1 r1 (qa 103 r1 r1 (qg 0 101 r1 r1 (qa 101 r1 r1 (qf (o_eql .t .t) r2 qz (qR rr (qm rfl rfl rfl rfl (qv 1 103 rfl r2 r1 (qw 103 rfl r2 r1 (qv 3 103 rfl r2 r1 (qw 103 rfl r2 r1 (qk rfl (fun h=>ZgM (r:=[(0,.tmp 62),(1,.tmp 64)]) (zs:=[.int .i64 0,.int .i64 0]) (pl:=[(0,1),(1,1)]) kr kr (.one rfl (.w h) one_int kr (.one rfl (.w h) one_int kr .nil)) (by rfl)) r3 qz (qk rfl (fun h=>Zae (ek:=(fun n:Int=>PV.int .i64 n)) (z0:=(0)) 102 underlying134 ZeO kr (fun _ _=>⟨rfl,Zdf⟩) (.w h .is) (ZG.agg (enc:=Za5) (k:=(⟨(Nn t.ops i).key,(Nn t.ops i).nth⟩:Za1)) (.pagg (.w h)) rfl)) r3 r1 (qk rfl (fun h=>o_eql (.w h) qi) r2 qz (qf (ZH .t .t) r2 qz qZ))))))))))))))) Z [68,25,24,23,3,2,1] [103,102,101,0] fun G=>?_)))
  refine Zc G rfl (fun hc5=>?_) (fun hc5=>?_)
  ·have hg:6=Za7 t:=by rw [hT,hrt,ZcX hil,Yb (by rw [hk];decide),Ye ((Zh1 hsp hk hr hid.1).1 (by simpa using hc5))]
   refine Ya (rZ G (qI qZ) Z [25,24,23,3,2,1] [103,102,101,0] fun G=>(Yh (ZB (Zm (Zm (ZB (Zm ?_)))))))
   refine Zw hfr G rfl rfl rfl (.int hg)
  have hno:=fun h9=>(by simpa using hc5:¬ ((Nn t.ops i).tx=t.id∧(gGet (⟨(Nn t.ops i).key,(Nn t.ops i).nth⟩:Za1) es).getD 0=0)) ((Zh1 hsp hk hr hid.1).2 h9)
  obtain ⟨es2,he2⟩:∃ z,z=es:=⟨_,rfl⟩
  obtain ⟨ck2,hc2⟩:∃ z,z=ck:=⟨_,rfl⟩
  have hR2:ZaX t.id [] t.ops=ZaX t.id (t.ops.take (i+1)) (t.ops.drop (i+1))∧Zci es2 (t.ops.take (i+1)):=⟨by rw [hrt,ZcX hil,Yb (by rw [hk];decide),Yb hno],by rw [he2];exact ZnY hsp hil hr⟩
  rw [← he2,← hc2] at G
  refine Yf (Zk (Za (rZ G (qp r1 (qR rr qZ)) Z [25,24,23,3,2,1] [103,102,101,0] fun G=>?_)))
  replace G:=G.ent (i:=25) (s':=.pv (.int .i64 ((i+1:Nat):Int))) rfl (.int (Zd ow))
  obtain ⟨F,G⟩:=G.nM [24,23,3,2,1,25] [101,0,102]
  exact ⟨((i+1),(es2),(ck2)),F,⟨by omega,hR2⟩,G,by omega⟩
 have hil:i=t.ops.length:=by simp at hc2;omega
 have hg:0=Za7 t:=by rw [hT,hrt,ZiW hil]
 refine Yx (Zj (Zj (Zr (Za (Ya (rZ G (qI qZ) Z [2] [102,101,0] fun G=>Yh ?_))))))
 refine Zw hfr G rfl rfl rfl (.int hg)
theorem ZnG (t:TxD) (hl:t.ops.length≤1000000):FnP prog 88 [.agg (rTx t)] (.sl ZQ (Zkd t)):=by
 refine FnP.mk func88 rfl ntmps88 rfl fun B a w F Z hfr G=>Ya ?_
 refine Zb G (qx 101 r1 (qC qZ)) Z [2,1] [101,0] (fun _=>rfl) (fun _=>rfl) fun τ a w F G=>?_
 try dsimp only [RS.sub,SF.sub,CF.sub,csub,Anc.sub,List.map,zCF,Zo,rOp,rTx,ZQ] at G
 generalize τ 1=v1 at G
 refine Za (Ya (rZ G (qC qZ) Z [3,2,1] [101,0] fun G=>Ya ?_))
 refine Zb G (qf (ZaG (ek:=(fun n:Int=>PV.int .i64 n)) (ok:=(fun k=>∀ x ∈ Zc6 k,inR .i64 x)) (kv:=(kvS Zc6)) 102) trivial qz (qO rr qZ)) Z [4,3,2,1] [102,101,0] (fun _=>rfl) (fun _=>rfl) fun τ a w F G=>?_
 try dsimp only [RS.sub,SF.sub,CF.sub,csub,Anc.sub,List.map,Zf,xL,xM,Nat.reduceAdd,xD,xE,xT,xU,xC,xN,zCF,Zo,rOp,rTx,ZQ] at G
 generalize τ 8=v8 at G
 refine Za (Ya (Ya (rZ G (qg 2 101 r1 r1 (qa 101 r1 r1 (qu Yb2 r1 (qJ qZ)))) Z [12,11,10,4,3,2,1] [102,101,0] fun G=>Yg ?_)))
 replace G:=G.fresh 50 rfl
 replace G:=G.turn 50 rfl (ZaP (T:=33) (sz:=3) (R:=ZQ))
 refine Zl (σ:=(Nat)×(List (GE ZbN Int))×(Nat)×(Value)×(List ZbN)) [1,2,4,10,11] [0,101] (fun s=>[(12,.pv (.int .i64 (s.1:Int))),(3,.pv (.is s.2.2.2.1))]) (fun s=>[(102,.ob (.val v8) (Zbt (fun n:Int=>PV.int .i64 n) (fun k=>∀ x ∈ Zc6 k,inR .i64 x) (kvS Zc6) s.2.1 s.2.2.1)),(50,.ob (.val s.2.2.2.1) (ZA 33 3 ZQ s.2.2.2.2))]) (fun s=>s.1≤t.ops.length∧(s.2.2.2.2=Zc7 t.id (t.ops.take s.1)∧Zdu s.2.1 s.1 s.2.2.2.2)) (fun s=>t.ops.length - s.1) ((0),([]),(0),(.slice none 0 0),([])) G ⟨rfl,rfl,rfl,rfl,rfl,rfl,rfl,tv⟩ ⟨rfl,rfl,rfl,rfl,tv⟩ ⟨Yw _,⟨rfl,Zpg⟩⟩ ?_
 clear G;intro s a w F hC G
 obtain ⟨i,es,ck,v,out⟩:=s
 try dsimp only at hC
 obtain ⟨F,G⟩:=G.nM [12,11,10,4,3,2,1] [102,101,50,0]
 try dsimp only at G
 obtain ⟨hi,hq⟩:=hC
 obtain ⟨hou,hvi⟩:=hq
 have hol:out.length≤i:=by rw [hou];exact Zk9 _ _ _
 have hst:=fun hil:i<t.ops.length=>Zjh (id:=t.id) hil
 refine Ya (rZ G (qL r2) Z [13,12,11,10,4,3,2,1] [102,101,50,0] fun G=>Ya ?_)
 refine Zc G rfl (fun hc0=>?_) (fun hc0=>?_)
 ·have hil:i<t.ops.length:=by simp at hc0;omega
  refine Yf (Za (Ya (Yg (Ya (Zb G (qy 4 Yb2 r2 (qf (oR true 4 .t) r1 qz (qf (oH [.bool false,.int .i64 0,.int .i64 0,.int .i64 0] 103) trivial qz (qS 4 103 r2 r1 qZ)))) Z [12,11,10,6,4,3,2,1] [103,102,101,50,0] (fun _=>rfl) (fun _=>rfl) fun τ a w F G=>?_)))))
  try dsimp only [RS.sub,SF.sub,CF.sub,csub,Anc.sub,List.map,Zf,xL,xM,Nat.reduceAdd,xD,xE,xT,xU,xC,xN,zCF,ldSF,Zo,rOp,rTx,ZQ] at G
  generalize τ 6=v6 at G
  try simp only [Yc] at G
  refine Za (Ya (Zb G (qe 4 103 r1 r1 (qf (oP (ZkN (Nn t.ops i)) func120 (Args.one (.pagg .t))) r1 qz (qf (oH [.int .i64 0,.int .i64 0,.int .i64 0] 104) trivial qz (qf (oA 3 104 .same (.conv .t .agg)) r2 r1 qZ)))) Z [12,11,10,7,6,4,3,2,1] [104,103,102,101,50,0] (fun _=>rfl) (fun _=>rfl) fun τ a w F G=>?_))
  try dsimp only [RS.sub,SF.sub,CF.sub,csub,Anc.sub,List.map,Zf,xL,xM,Nat.reduceAdd,xD,xE,xT,xU,xC,xN,zCF,ldSF,Zo,rOp,rTx,ZQ] at G
  generalize τ 7=v7 at G
  refine Za (Ya (Ya (rZ G (qg 0 103 r1 r1 (qa 103 r1 r1 (qf (o_not .t) r1 qz (qR rr (qv 0 104 rfl r2 r1 (qw 104 rfl r2 r1 (qk rfl (fun h=>o_eql (.w h) qi) r2 qz (qf (Zab .t .t) r2 qz (qR rr (qv 0 104 rfl r2 r1 (qw 104 rfl r2 r1 (qv 0 101 rfl r2 r1 (qw 101 rfl r2 r1 (qk rfl (fun h=>o_eql (.w h) (.w h)) r3 qz (qf (Zab .t .t) r2 qz qZ))))))))))))))) Z [32,12,11,10,7,4,3,2,1] [104,103,102,101,50,0] fun G=>?_)))
  refine Zc G rfl (fun hc1=>?_) (fun hc1=>?_)
  ·have hno:Zei t.id (Nn t.ops i)=false:=by unfold Zei;unfold ofO at hc1;cases hr:(Nn t.ops i).read <;> simp [hr] at hc1 ⊢;omega
   obtain ⟨es2,he2⟩:∃ z,z=es:=⟨_,rfl⟩
   obtain ⟨ck2,hc2⟩:∃ z,z=ck:=⟨_,rfl⟩
   obtain ⟨out2,ho2⟩:∃ z,z=out:=⟨_,rfl⟩
   have hR2:out2=Zc7 t.id (t.ops.take (i+1))∧Zdu es2 (i+1) out2:=⟨by rw [ho2,hou,hst hil];unfold Zba;rw [Yb (by rw [hno];simp)],by rw [he2,ho2];exact ZpF hvi⟩
   rw [← he2,← hc2,← ho2] at G
   refine Yx (Zj (Zr (Za (rZ G (qp r1 (qR rr qZ)) Z [12,11,10,4,3,2,1] [103,102,101,50,0] fun G=>?_))))
   replace G:=G.ent (i:=12) (s':=.pv (.int .i64 ((i+1:Nat):Int))) rfl (.int (Zd ow))
   obtain ⟨F,G⟩:=G.nM [11,10,4,2,1,3,12] [101,0,50,102]
   exact ⟨((i+1),(es2),(ck2),_,(out2)),F,⟨by omega,hR2⟩,G,by omega⟩
  have hyes:Zei t.id (Nn t.ops i)=true:=by unfold Zei;unfold ofO at hc1;cases hr:(Nn t.ops i).read <;> simp [hr] at hc1 ⊢;exact hc1
  have hvr:=hvi (ofO (Nn t.ops i))
  have hw1:IntKind.wrap .i64 (((gGet (ofO (Nn t.ops i)) es).getD 0)+1)=((gGet (ofO (Nn t.ops i)) es).getD 0)+1:=ZC (by have:=Sat.lenSl G (i:=10) rfl;omega)
  refine Yf (Za (Ya ?_))
  replace G:=G.turnZ 102 (0) (ofO (Nn t.ops i)) rfl
  refine ZaU 102 6 (m1:=1) (m2:=2) kr G kr (qR rr (qe 3 104 r1 r1 (qf (ZbZ (ek:=(fun n:Int=>PV.int .i64 n)) (z0:=(0)) 102 underlying200 Zoo kr (fun _ _=>⟨rfl,Zdf⟩) .is (ZG.agg (enc:=Zc6) (k:=(ofO (Nn t.ops i))) (.pagg .t) rfl)) r2 r1 (qp r1 (qf (ZaW (ek:=(fun n:Int=>PV.int .i64 n)) (z0:=(0)) 102 underlying200 Zoo kr (fun _ _=>⟨rfl,Zdf⟩) .is (ZG.agg (enc:=Zc6) (k:=(ofO (Nn t.ops i))) (.pagg .t) rfl) (by intros;first | rfl | simp [Anc.v,upd])) r2 r1 (qf (Zh .t rfl) r1 qz (qf (Zav 102 (Zbq _ _ _) .is .t .t) r3 r1 qZ))))))) kr kr kr rfl rfl rfl (fun _ _ _ _ h=>.inr h) (by rw [Z];kernel_rfl) fun a w F G=>?_
  obtain ⟨F,G⟩:=G.nM [12,11,10,7,4,3,2,1] [104,103,102,101,50,0]
  try dsimp only [List.map,xD,xE,xT,xU,ldSF,Zo,rOp,rTx,ZQ] at G
  obtain ⟨es2,he2⟩:∃ z,z=gSet (ofO (Nn t.ops i)) (IntKind.wrap .i64 (((gGet (ofO (Nn t.ops i)) es).getD 0)+1)) (gEns 0 (ofO (Nn t.ops i)) (es,ck)).1:=⟨_,rfl⟩
  obtain ⟨ck2,hc2⟩:∃ z,z=(gEns 0 (ofO (Nn t.ops i)) (es,ck)).2:=⟨_,rfl⟩
  rw [← he2,← hc2] at G
  have hvv:∀ u,(gGet u es2).getD 0=if u=(ofO (Nn t.ops i)) then ((gGet (ofO (Nn t.ops i)) es).getD 0)+1 else (gGet u es).getD 0:=fun u=>by rw [he2,Zf9,hw1]
  have hmv:(gGet (ofO (Nn t.ops i)) es2).getD 0=((gGet (ofO (Nn t.ops i)) es).getD 0)+1:=by rw [hvv,Ye rfl]
  have hvs:=ZpQ hvi hvv
  refine Za (Ya (rZ G (qR rr (qe 3 104 r1 r1 (qf (Zae (ek:=(fun n:Int=>PV.int .i64 n)) (z0:=(0)) 102 underlying200 Zoo kr (fun _ _=>⟨rfl,Zdf⟩) .is (ZG.agg (enc:=Zc6) (k:=(ofO (Nn t.ops i))) (.pagg .t) rfl)) r2 r1 (qf (o_eql .t qi) r1 qz qZ)))) Z [42,12,11,10,7,4,3,2,1] [104,103,102,101,50,0] fun G=>?_))
  refine Zc G rfl (fun hc2=>?_) (fun hc2=>?_)
  ·have hnm:(ofO (Nn t.ops i)) ∉ out:=by rw [← hvr.2.2];rw [hmv] at hc2;simp at hc2;omega
   obtain ⟨out2,ho2⟩:∃ z,z=out ++ [(ofO (Nn t.ops i))]:=⟨_,rfl⟩
   have hR2:out2=Zc7 t.id (t.ops.take (i+1))∧Zdu es2 (i+1) out2:=⟨by rw [ho2,hst hil];unfold Zba;rw [Ye ⟨hyes,by rw [← hou];exact hnm⟩,← hou],by have:=hvs;rw [Yb hnm] at this;rw [ho2];exact this⟩
   refine Zb G (qR rr (qe 3 104 r1 r1 (qf (o_buildSliceE (sz:=3) (zs:=[.int .i64 0,.int .i64 0,.int .i64 0]) (r:=[(0,.tmp 44)]) (l:=[_,_,_]) underlying139 kr kr kr kr rfl rfl (.agg rfl .t kr kr .nil) rfl) r1 qz (qf (Z1 (sz:=3) (bs:=24) 50 (.mk' underlying139 kr kr) (by intro x;rfl) .is (.arr (l':=[_]) .t) (by simp only [Yd,Yl,Yy,Yj,YJ];omega) (by decide)) ⟨rfl,rfl,tv⟩ ⟨rfl,tv⟩ (qO rr qZ))))) Z [12,11,10,4,3,2,1] [103,102,101,50,0] (fun _=>rfl) (fun _=>rfl) fun τ a w F G=>?_
   try dsimp only [RS.sub,SF.sub,CF.sub,csub,Anc.sub,List.map,Zf,xL,xM,Nat.reduceAdd,xD,xE,xT,xU,xC,xN,zCF,ldSF,Zo,rOp,rTx,ZQ] at G
   generalize τ 46=v46 at G
   rw [← ho2] at G
   refine Zk (Za (rZ G (qp r1 (qR rr qZ)) Z [12,11,10,4,3,2,1] [103,102,101,50,0] fun G=>?_))
   replace G:=G.ent (i:=12) (s':=.pv (.int .i64 ((i+1:Nat):Int))) rfl (.int (Zd ow))
   obtain ⟨F,G⟩:=G.nM [11,10,4,2,1,3,12] [101,0,50,102]
   exact ⟨((i+1),(es2),(ck2),_,(out2)),F,⟨by omega,hR2⟩,G,by omega⟩
  have hnm:(ofO (Nn t.ops i)) ∈ out:=by rw [← hvr.2.2];rw [hmv] at hc2;simp at hc2;omega
  obtain ⟨out2,ho2⟩:∃ z,z=out:=⟨_,rfl⟩
  have hR2:out2=Zc7 t.id (t.ops.take (i+1))∧Zdu es2 (i+1) out2:=⟨by rw [ho2,hst hil];unfold Zba;rw [Yb (by rw [← hou];simp [hnm])];exact hou,by have:=hvs;rw [Ye hnm] at this;rw [ho2];exact this⟩
  rw [← ho2] at G
  refine Yf (Zk (Za (rZ G (qp r1 (qR rr qZ)) Z [12,11,10,4,3,2,1] [103,102,101,50,0] fun G=>?_)))
  replace G:=G.ent (i:=12) (s':=.pv (.int .i64 ((i+1:Nat):Int))) rfl (.int (Zd ow))
  obtain ⟨F,G⟩:=G.nM [11,10,4,2,1,3,12] [101,0,50,102]
  exact ⟨((i+1),(es2),(ck2),_,(out2)),F,⟨by omega,hR2⟩,G,by omega⟩
 have hil:i=t.ops.length:=by simp at hc0;omega
 refine Yx (Zj (Zj (Zr (Za (Ya (rZ G (qR rr (qO rr qZ)) Z [2] [102,101,50,0] fun G=>Yh ?_))))))
 obtain ⟨F,G⟩:=G.give 50 2 rfl rfl
 refine Zw hfr G rfl rfl rfl (.sl (by rw [hou,hil,YC];rfl))
end Go.Proofs.YtlkpllemoepamaaGreat
