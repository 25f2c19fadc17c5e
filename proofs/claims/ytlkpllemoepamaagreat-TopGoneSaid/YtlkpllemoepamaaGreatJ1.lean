/- Texts put together. No condition beyond those that each theorem says. -/
import Derived.Test.YtlkpllemoepamaaGreatJ0
import Derived.Test.YtlkpllemoepamaaGreatLibG
namespace Go.Proofs.YtlkpllemoepamaaGreat
open Go Go.Gm Tryz
set_option linter.unusedVariables false
set_option linter.unusedSimpArgs false
set_option maxHeartbeats 4000000
set_option maxRecDepth 8000
theorem Zkw (v:Value) (l:List Int) (hll:l.length≤1000000):FnG prog 179 1 [.is v] [Zu 3 1 Zn l v] (PV.one) (fun v=>[Zu 3 1 Zn (Zq l) v]):=by
 refine FnG.mk func179 rfl ntmps179 rfl kr fun B F0 a w F V hG G=>?_
 replace G:=G.turn 1 rfl (r':=.ob (.val v) (Zu 3 1 Zn l)) (fun _ _ _ _ h=>h)
 refine Ya (rZ G (qC qZ) V [2,0] [1,0] fun G=>(Ya (Ya ?_)))
 refine rZ G (qR rr (qf (ZS 1 underlying45 .is) r1 r1 (qf (ZaC .t qi) r1 qz qZ))) V [8,2,0] [1,0] fun G=>?_
 refine Zc G rfl (fun hc0=>?_) (fun hc0=>?_)
 ·have hg:(Zq l)=l:=Zb0 (by simp at hc0;omega)
  refine Ya (rZ G (qR rr (qO rr qZ)) V [2,0] [1,0] fun G=>(Yh (Zl ?_)))
  have G:=G.turn 1 rfl (r':=RS.hp (Zu 3 1 Zn (Zq l) v)) (fun _ _ _ _ h=>by rw [hg];exact h)
  refine Z2 (h':=fun v=>Zu 3 1 Zn (Zq l) v) hG G rfl (.tmp rfl .nil) (.one .one) rfl
 have hl2:2≤l.length:=by simp at hc0;omega
 refine Ye (Za (Ya (Ya (rZ G (qI qZ) V [3,2,0] [1,0] fun G=>Yg ?_))))
 refine Zk (σ:=Nat) [0,2] [0,1] (fun s=>[(3,.pv (.int .i64 (s:Int)))]) (fun s=>[]) (fun s=>1≤s∧s≤l.length∧Zq (l.take s)=l.take s) (fun s=>l.length - s) (1) G ⟨rfl,rfl,rfl,tv⟩ ⟨rfl,rfl,tv⟩ ⟨by omega,by omega,Zb0 (by rw [Yi];omega)⟩ ?_
 clear G;intro k a w F hC G
 try dsimp only at hC
 obtain ⟨F,G⟩:=G.nM [3,2,0] [1,0]
 try dsimp only at G
 obtain ⟨hk1,hkl,hkc⟩:=hC
 have hkw:IntKind.wrap .i64 ((k:Int) - 1)=(k:Int) - 1:=ZA ow
 refine Ya (Ya (rZ G (qR rr (qR rr (qf (ZS 1 underlying45 .is) r1 r1 (qL r2)))) V [13,3,2,0] [1,0] fun G=>?_))
 refine Zc G rfl (fun hc1=>?_) (fun hc1=>?_)
 ·have hil:k<l.length:=by simp at hc1;omega
  have hst:=ZbA (l:=l) hk1 hil
  have hy0:(IntKind.wrap .i64 ((k:Int) - 1)).toNat=k - 1:=by rw [hkw];omega
  refine Ye (Za (Ya (Yg (Ya (Zv G (qR rr (qR rr (qf (o_indexAddr_row (sz:=1) 1 (.mk underlying45 kr) .is .t ow ow (by rfl)) r2 r1 (qf (Zt (ag:=false) (sz':=1) (sz:=1) 1 .t (by intro x;rfl) ow kr kr kr) r1 r1 (qR rr (qR rr (qf (o_sub .t qi) r1 qz (qf (o_indexAddr_row (sz:=1) 1 (.mk underlying45 kr) .is .t (by rw [hkw];omega) (by rw [hkw];omega) (by rfl)) r2 r1 (qf (Zt (ag:=false) (sz':=1) (sz:=1) 1 .t (by intro x;rfl) (by rw [hkw];omega) kr kr kr) r1 r1 (qf (o_eql .t .t) r2 qz qZ)))))))))) V [25,3,2,0] [1,0] rfl rfl fun a w F G=>?_)))))
  try dsimp only [List.map,xD,xE,xT,xU,ldSF,Zn] at G
  try simp only [Yb] at G
  refine Za (Zc G rfl (fun hc2=>?_) (fun hc2=>?_))
  ·have heq:Nn l (k - 1)=Nn l k:=by rw [hy0] at hc2;simp at hc2;exact hc2.symm
   rw [Yf heq,hkc] at hst
   have hst0:=hst.symm
   refine Ya (rZ G (qR rr (qR rr (qf (Zak (sz:=1) 1 (.mk underlying45 kr) .is .t ow ow) r2 r1 (qO rr qZ)))) V [4,3,2,0] [1,0] fun G=>(Ya (Ya ?_)))
   refine rZ G (qI qZ) V [5,4,3,2,0] [1,0] fun G=>Yg ?_
   have hC0:1≤1∧1≤l.length - k∧k≤k∧k≤k+1 - 1∧l.length=l.length∧l.take k=Zq (l.take (k+1)) ∧ ∀ q,k+1 - 1≤q→q<l.length→Nn l q=Nn l q:=⟨by omega,by omega,by omega,by omega,rfl,hst0,fun q _ _=>rfl⟩
   refine Zk (σ:=Nat×Nat×List Int) [0,2,4] [0] (fun s=>[(3,.pv (.int .i64 (s.1:Int))),(5,.pv (.int .i64 (s.2.1:Int)))]) (fun s=>[(1,.ob (.val v) (Zu 3 1 Zn s.2.2))]) (fun s=>1≤s.2.1∧s.2.1≤l.length - k∧k≤s.1∧s.1≤k+s.2.1 - 1∧s.2.2.length=l.length∧s.2.2.take s.1=Zq (l.take (k+s.2.1)) ∧ ∀ q,k+s.2.1 - 1≤q→q<l.length→Nn s.2.2 q=Nn l q) (fun s=>l.length - s.2.1) ((k),(1),(l)) G ⟨rfl,rfl,rfl,rfl,rfl,tv⟩ ⟨rfl,rfl,tv⟩ hC0 ?_
   clear G;intro s a w F hC G
   obtain ⟨k1,j,l1⟩:=s
   try dsimp only at hC
   obtain ⟨F,G⟩:=G.nM [5,4,3,2,0] [1,0]
   try dsimp only at G
   obtain ⟨hj1,hjk,hkk,hkj,hl1,htk,hrest⟩:=hC
   have hjw:IntKind.wrap .i64 ((j:Int) - 1)=(j:Int) - 1:=ZA ow
   refine Ya (Ya (rZ G (qR rr (qR rr (qf (Zir 1 underlying45 .t ow) r1 r1 (qL r2)))) V [32,5,4,3,2,0] [1,0] fun G=>?_))
   refine Zc G rfl (fun hc3=>?_) (fun hc3=>?_)
   ·have hjl:k+j<l.length:=by simp at hc3;omega
    have hx1:(Nn l1 (((k:Int)).toNat+((j:Int)).toNat))=Nn l (k+j):=by rw [Yb,Yb];exact hrest _ ow hjl
    have hx0:Nn l1 (((k:Int)).toNat+(IntKind.wrap .i64 ((j:Int) - 1)).toNat)=Nn l (k+j - 1):=by rw [hjw,show ((k:Int)).toNat+((j:Int) - 1).toNat=k+j - 1 by omega];exact hrest _ ow ow
    have hstp:=ZbA (l:=l) (p:=k+j) ow hjl
    refine Ye (Za (Ya (Yg (Ya (Zv G (qR rr (qR rr (qf (o_indexAddr_sub (sz:=1) 1 (.mk underlying45 kr) .t .t ow ow (by rfl)) r2 r1 (qf (Zt (ag:=false) (sz':=1) (sz:=1) 1 .t (by intro x;rfl) ow kr kr kr) r1 r1 (qR rr (qR rr (qf (o_sub .t qi) r1 qz (qf (o_indexAddr_sub (sz:=1) 1 (.mk underlying45 kr) .t .t (by rw [hjw];omega) (by rw [hjw];omega) (by rfl)) r2 r1 (qf (Zt (ag:=false) (sz':=1) (sz:=1) 1 .t (by intro x;rfl) (by rw [hjw];omega) kr kr kr) r1 r1 (qf (o_neq .t .t) r2 qz qZ)))))))))) V [44,5,4,3,2,0] [1,0] rfl rfl fun a w F G=>?_)))))
    try dsimp only [List.map,xD,xE,xT,xU,ldSF,Zn] at G
    try simp only [Yb] at G
    refine Za (Zc G rfl (fun hc4=>?_) (fun hc4=>?_))
    ·have hne:¬ Nn l (k+j - 1)=Nn l (k+j):=by rw [← hx1,← hx0];simp at hc4 ⊢;exact fun e=>hc4 e.symm
     rw [Yc hne] at hstp
     obtain ⟨i2,hi2e⟩:∃ i2,i2=k1+1:=⟨_,rfl⟩
     have hi2:IntKind.wrap .i64 ((k1:Int)+1)=(i2:Int):=by rw [hi2e];exact Zd ow
     obtain ⟨l2,hl2e⟩:∃ l2,l2=l1.set k1 (Nn l1 (k+j)):=⟨_,rfl⟩
     have hx1b:Nn l1 (k+j)=Nn l (k+j):=hrest _ ow hjl
     have hC2:1≤j+1∧j+1≤l.length - k∧k≤i2∧i2≤k+(j+1) - 1∧l2.length=l.length∧l2.take i2=Zq (l.take (k+(j+1))) ∧ ∀ q,k+(j+1) - 1≤q→q<l.length→Nn l2 q=Nn l q:=⟨by omega,by omega,by omega,by omega,by rw [hl2e,YL];exact hl1,by rw [hl2e,hi2e,Zp (by rw [YL];omega),YbG (YN _),htk,nth_eq (by rw [YL];omega),Ybc,hx1b];exact hstp.symm,fun q hq hq2=>by rw [hl2e,nth_eq (by rw [YL];omega),YbH ow,← nth_eq ow];exact hrest q ow hq2⟩
     refine Ya (Ze G (qR rr (qR rr (qR rr (qR rr (qf (o_indexAddr_sub (sz:=1) 1 (.mk underlying45 kr) .t .t ow ow (by rfl)) r2 r1 (qf (Zt (ag:=false) (sz':=1) (sz:=1) 1 .t (by intro x;rfl) ow kr kr kr) r1 r1 (qf (o_indexAddr_row (sz:=1) 1 (.mk underlying45 kr) .is .t ow ow (by rfl)) r2 r1 (qf (ZH (R:=Zn) (sz:=1) (v:=(Nn l1 (((k:Int)).toNat+((j:Int)).toNat))) 1 .t (by intro x;rfl) ow .t rfl one_int kr) r2 r1 qZ)))))))) V [5,4,3,2,0] [1,0] rfl rfl fun a w F G=>?_)
     try simp only [Yb] at G
     rw [← hl2e] at G
     refine Za (Ze G (qR rr (qp r1 (qO rr qZ))) V [5,4,3,2,0] [1,0] rfl rfl fun a w F G=>Zh (Za ?_))
     refine rZ G (qR rr (qp r1 (qO rr qZ))) V [5,4,3,2,0] [1,0] fun G=>?_
     have hmu:l.length - (j+1)<l.length - j:=by omega
     replace G:=G.ent (i:=3) (s':=.pv (.int .i64 (i2:Int))) rfl (.int hi2)
     replace G:=G.ent (i:=5) (s':=.pv (.int .i64 ((j+1:Nat):Int))) rfl (.int (Zd ow))
     obtain ⟨F,G⟩:=G.nM [4,2,0,5,3] [0,1]
     exact ⟨((i2),(j+1),(l2)),F,hC2,G,hmu⟩
    have heq2:Nn l (k+j - 1)=Nn l (k+j):=by rw [← hx1,← hx0];simp at hc4 ⊢;exact hc4.symm
    rw [Yf heq2] at hstp
    obtain ⟨i2,hi2e⟩:∃ i2,i2=k1:=⟨_,rfl⟩
    have hi2:(k1:Int)=(i2:Int):=by rw [hi2e]
    obtain ⟨l2,hl2e⟩:∃ l2,l2=l1:=⟨_,rfl⟩
    rw [← hl2e] at G
    have hC2:1≤j+1∧j+1≤l.length - k∧k≤i2∧i2≤k+(j+1) - 1∧l2.length=l.length∧l2.take i2=Zq (l.take (k+(j+1))) ∧ ∀ q,k+(j+1) - 1≤q→q<l.length→Nn l2 q=Nn l q:=⟨by omega,by omega,by omega,by omega,by rw [hl2e];exact hl1,by rw [hl2e,hi2e,htk];exact hstp.symm,fun q hq hq2=>by rw [hl2e];exact hrest q ow hq2⟩
    refine Ye (Zh (Za (rZ G (qR rr (qp r1 (qO rr qZ))) V [5,4,3,2,0] [1,0] fun G=>?_)))
    have hmu:l.length - (j+1)<l.length - j:=by omega
    replace G:=G.ent (i:=3) (s':=.pv (.int .i64 (i2:Int))) rfl (.int hi2)
    replace G:=G.ent (i:=5) (s':=.pv (.int .i64 ((j+1:Nat):Int))) rfl (.int (Zd ow))
    obtain ⟨F,G⟩:=G.nM [4,2,0,5,3] [0,1]
    exact ⟨((i2),(j+1),(l2)),F,hC2,G,hmu⟩
   have hjl:k+j=l.length:=by simp at hc3;omega
   have hg:(Zq l)=(l1.take k1++List.replicate (l1.length - k1) (0:Int)).take k1:=by rw [YS (by rw [Yi];omega),YaJ,YbX,htk,hjl,Yz]
   refine Yv (Zi (Zi (Zo (Za (Ya (rZ G (qR rr (qR rr (qf (Zak (sz:=1) 1 (.mk underlying45 kr) .is .t ow ow) r2 r1 (qf (ZbO (R:=Zn) (z:=(0:Int)) (zs:=[.int .i64 0]) 1 underlying45 kr rfl rfl (fun _ _=>⟨⟨rfl,rfl,ZcY⟩,tv⟩) (by intro x;rfl) .t (by simp;omega)) r1 r1 qZ)))) V [3,2,0] [1,0] fun G=>Ya ?_))))))
   refine Zb G (qR rr (qR rr (qf (ZbE (sz:=1) 1 (.mk underlying45 kr) (by intro x;rfl) .is .t ow (by simp;omega)) r2 r1 (qO rr qZ)))) V [3,2,0] [1,0] (fun _=>rfl) (fun _=>rfl) fun τ a w F G=>?_
   try dsimp only [RS.sub,SF.sub,CF.sub,csub,Anc.sub,List.map,Zn] at G
   generalize τ 59=v59 at G
   refine Za (Yh (Zz (Zl (Zl (Zz (Zl ?_))))))
   have G:=G.turn 1 rfl (r':=RS.hp (Zu 3 1 Zn (Zq l) v59)) (fun _ _ _ _ h=>by rw [hg];exact h)
   refine Z2 (h':=fun v=>Zu 3 1 Zn (Zq l) v) hG G rfl (.tmp rfl .nil) (.one .one) rfl
  have hne:¬ Nn l (k - 1)=Nn l k:=by rw [hy0] at hc2;simp at hc2;exact fun e=>hc2 e.symm
  rw [Yc hne] at hst
  refine Ye (Zh (Za (rZ G (qR rr (qp r1 (qO rr qZ))) V [3,2,0] [1,0] fun G=>?_)))
  replace G:=G.ent (i:=3) (s':=.pv (.int .i64 ((k+1:Nat):Int))) rfl (.int (Zd ow))
  obtain ⟨F,G⟩:=G.nM [2,0,3] [1,0]
  exact ⟨(k+1),F,⟨by omega,by omega,by rw [hst,hkc,← Zp hil]⟩,G,by omega⟩
 have hg:(Zq l)=l:=by rw [show k=l.length by simp at hc1;omega,Yz] at hkc;exact hkc
 refine Yv (Zi (Zi (Zo (Za (Ya (rZ G (qR rr (qO rr qZ)) V [2] [1,0] fun G=>Yh ?_))))))
 have G:=G.turn 1 rfl (r':=RS.hp (Zu 3 1 Zn (Zq l) v)) (fun _ _ _ _ h=>by rw [hg];exact h)
 refine Z2 (h':=fun v=>Zu 3 1 Zn (Zq l) v) hG G rfl (.tmp rfl .nil) (.one .one) rfl
def Zdu (n:Int):List Int→Bool→List Int
 | [],d=>if d then [] else [n]
 | x :: l,d=>(if d=false∧n≤x then [n] else [])++(if x=n then [] else [x])++Zdu n l (d || decide (n≤x))
def Zmv (l:List Int) (n:Int):List Int:=Zdu n l false
abbrev Zdz (l:List Int):Prop:=l.Pairwise fun a b=>a<b
theorem ZeI {n:Int} : ∀ {l:List Int},(∀ x ∈ l,n<x)→Zdu n l true=l
 | [],_=>rfl
 | x :: l,h=>by
  have:=h x (by simp)
  rw [Zdu,YbY,ZeI fun y hy=>h y (by simp [hy]),Yc (by simp),Yc ow]
  rfl
theorem ZlQ {n:Int} : ∀ {l:List Int},Zdz l→Zdz (Zmv l n) ∧ ∀ x,x ∈ Zmv l n ↔ x ∈ l∨x=n
 | [],_=>by simp [Zmv,Zdu]
 | y :: l,h=>by
  have h':=Yo.1 h
  unfold Zmv
  by_cases h1:y<n
  ·have e:Zdu n (y :: l) false=y :: Zdu n l false:=by
    rw [Zdu,Yc ow,Yc ow,show (false || decide (n≤y))=false by simp;omega];rfl
   have ih:=ZlQ (n:=n) h'.2
   rw [e]
   refine ⟨Yo.2 ⟨fun p hp=>?_,ih.1⟩,fun x=>?_⟩
   ·rcases (ih.2 p).1 hp with hp | rfl
    ·exact h'.1 p hp
    ·exact h1
   ·have:=ih.2 x
    unfold Zmv at this
    simp only [Yk,this]
    constructor
    ·rintro (h | h | h)
     ·exact .inl (.inl h)
     ·exact .inl (.inr h)
     ·exact .inr h
    ·rintro ((h | h) | h)
     ·exact .inl h
     ·exact .inr (.inl h)
     ·exact .inr (.inr h)
  ·by_cases h2:y=n
   ·subst h2
    rw [Zdu,Yf ⟨rfl,Yaq _⟩,Yf rfl,show (false || decide (y≤y))=true by simp,ZeI h'.1]
    exact ⟨h,fun x=>by simp;intro e;exact .inl e⟩
   ·rw [Zdu,Yf ⟨rfl,by omega⟩,Yc h2,show (false || decide (n≤y))=true by simp;omega,ZeI fun x hx=>by have:=h'.1 x hx;omega]
    refine ⟨Yo.2 ⟨fun p hp=>?_,h⟩,fun x=>by simp;constructor <;> (rintro (h | h | h) <;> simp [h])⟩
    rcases Yk.1 hp with rfl | hp
    ·omega
    ·have:=h'.1 p hp;omega
def Zbq (l:List Int):List Int:=l.foldl Zmv []
theorem ZX (l:List Int):Zdz (Zbq l) ∧ ∀ x,x ∈ Zbq l ↔ x ∈ l:=by
 have key:∀ (l acc:List Int),Zdz acc→Zdz (l.foldl Zmv acc) ∧ ∀ x,x ∈ l.foldl Zmv acc ↔ x ∈ acc∨x ∈ l:=by
  intro l
  induction l with
  | nil=>intro acc h;exact ⟨h,fun x=>by simp⟩
  | cons y l ih=>
   intro acc h
   have h1:=ZlQ (n:=y) h
   have h2:=ih (Zmv acc y) h1.1
   refine ⟨h2.1,fun x=>?_⟩
   rw [Yan,h2.2 x,h1.2 x,Yk]
   constructor
   ·rintro ((h | h) | h)
    ·exact .inl h
    ·exact .inr (.inl h)
    ·exact .inr (.inr h)
   ·rintro (h | h | h)
    ·exact .inl (.inl h)
    ·exact .inl (.inr h)
    ·exact .inr h
 have:=key l [] List.Pairwise.nil
 exact ⟨this.1,fun x=>by rw [show Zbq l=l.foldl Zmv [] from rfl,this.2 x];simp⟩
theorem ZeF:∀ {a b:List Int},Zdz a→Zdz b→(∀ x,x ∈ a ↔ x ∈ b)→a=b
 | [],[],_,_,_=>rfl
 | [],y :: b,_,_,h=>by have:=(h y).2 (by simp);cases this
 | x :: a,[],_,_,h=>by have:=(h x).1 (by simp);cases this
 | x :: a,y :: b,ha,hb,h=>by
  have ha':=Yo.1 ha
  have hb':=Yo.1 hb
  have e:x=y:=by
   rcases Yk.1 ((h x).1 (by simp)) with e | e
   ·exact e
   ·rcases Yk.1 ((h y).2 (by simp)) with e2 | e2
    ·exact e2.symm
    ·have:=hb'.1 x e;have:=ha'.1 y e2;omega
  subst e
  congr 1
  refine ZeF ha'.2 hb'.2 fun z=>⟨fun hz=>?_,fun hz=>?_⟩
  ·rcases Yk.1 ((h z).1 (by simp [hz])) with e | e
   ·have:=ha'.1 z hz;omega
   ·exact e
  ·rcases Yk.1 ((h z).2 (by simp [hz])) with e | e
   ·have:=hb'.1 z hz;omega
   ·exact e
def ZaO:List Int→List Int
 | []=>[]
 | x :: l=>match ZaO l with
  | []=>[x]
  | y :: m=>if x=y then y :: m else x :: y :: m
theorem Zd2:∀ (x:Int) (l:List Int),∃ m,ZaO (x :: l)=x :: m
 | x,[]=>⟨[],rfl⟩
 | x,y :: l=>by
  obtain ⟨m,hm⟩:=Zd2 y l
  unfold ZaO
  rw [hm]
  by_cases h:x=y
  ·subst h;exact ⟨m,Yf rfl⟩
  ·exact ⟨y :: m,Yc h⟩
theorem Zeh (x y:Int) (l:List Int):ZaO (x :: y :: l)=if x=y then ZaO (y :: l) else x :: ZaO (y :: l):=by
 obtain ⟨m,hm⟩:=Zd2 y l
 conv=>lhs;unfold ZaO
 rw [hm]
theorem Zc8:∀ {l:List Int},l.Pairwise (fun a b=>a≤b)→Zdz (ZaO l) ∧ ∀ x,x ∈ ZaO l ↔ x ∈ l
 | [],_=>by simp [ZaO]
 | [x],_=>by simp [ZaO]
 | x :: y :: l,h=>by
  have h':=Yo.1 h
  have ih:=Zc8 h'.2
  rw [Zeh]
  split
  ·rename_i e
   subst e
   exact ⟨ih.1,fun z=>by rw [ih.2 z];simp⟩
  ·rename_i e
   refine ⟨Yo.2 ⟨fun z hz=>?_,ih.1⟩,fun z=>by rw [Yk,ih.2 z,← Yk]⟩
   have h1:=h'.1 y (by simp)
   rcases Yk.1 ((ih.2 z).1 hz) with rfl | hz2
   ·omega
   ·have:=(Yo.1 h'.2).1 z hz2
    omega
theorem ZnV (l:List Int):List.Pairwise (fun x y=>x≤y) (l.mergeSort leI):=by
 have:=List.pairwise_mergeSort (le:=leI) (fun a b c h1 h2=>by simp [leI] at *;omega) (fun a b=>by simp [leI];omega) l
 exact this.imp fun h=>by simpa [leI] using h
theorem ZdU (l:List Int):ZaO (l.mergeSort leI)=Zbq l:=
 ZeF (Zc8 (ZnV l)).1 (ZX l).1 fun x=>by rw [(Zc8 (ZnV l)).2,(ZX l).2];exact (YaV l leI).mem_iff
theorem Zdn:∀ l:List Int,Zq l=ZaO l
 | []=>rfl
 | [x]=>rfl
 | x :: y :: l=>by
  rw [Zeh,← Zdn (y :: l)];rfl
theorem ZiF {n:Int} : ∀ (l:List Int) (d:Bool),(Zdu n l d).length≤l.length+1
 | [],d=>by cases d <;> simp [Zdu]
 | x :: l,d=>by
  have h1:=ZiF (n:=n) l (d || decide (n≤x))
  have h2:∀ l:List Int,(Zdu n l true).length≤l.length:=fun l=>by
   induction l with
   | nil=>simp [Zdu]
   | cons y l ih=>
    rw [Zdu,Yc (by simp),Yd,Yd,YbY]
    split <;> simp <;> omega
  rw [Zdu,Yd,Yd]
  have h3:=h2 l
  by_cases hA:d=false∧n≤x
  ·rw [show (d || decide (n≤x))=true by simp [hA.2],Yf hA]
   split <;> simp <;> omega
  ·rw [Yc hA]
   split <;> simp <;> omega
structure OpD where
 read:Bool
 key:Int
 tx:Int
 nth:Int
 deriving DecidableEq,Inhabited
structure TxD where
 id:Int
 done:Bool
 ops:List OpD
 deriving DecidableEq,Inhabited
structure ZP where
 key:Int
 txs:List Int
 deriving DecidableEq,Inhabited
structure Zw where
 txs:List TxD
 orders:List ZP
 deriving DecidableEq,Inhabited
structure Zhj where
 was:List TxD
 now:List TxD
 old:List ZP
 new:List ZP
 deriving DecidableEq,Inhabited
def rOp (o:OpD):List PV:=[.bool o.read,.int .i64 o.key,.int .i64 o.tx,.int .i64 o.nth]
def rTx (t:TxD):List PV:=[.int .i64 t.id,.bool t.done,.sl rOp t.ops]
def ZJ (o:ZP):List PV:=[.int .i64 o.key,.sl Zn o.txs]
def Zx (h:Zw):List PV:=[.sl rTx h.txs,.sl ZJ h.orders]
theorem Zqo (l:List OpD) (hl:l.length≤1000000):FnG prog 102 1 [.sl rOp l] [.star []] (PV.one) (fun v=>[Zu 60 4 rOp l v]):=by
 refine FnG.mk func102 rfl ntmps102 rfl kr fun B F0 a w F V hG G=>?_
 obtain ⟨F,G⟩:=G.nM [0] [0]
 refine Ya (rZ G (qC qZ) V [2,0] [0] fun G=>(Ya (Ya ?_)))
 refine Ze G (qR rr (qf (ZbH underlying28 .t) r1 qz qZ)) V [4,2,0] [0] rfl rfl fun a w F G=>?_
 obtain ⟨β4,hβ4,G⟩:=G.pickBool 4 rfl
 obtain ⟨F,G⟩:=G.nM [4,2,0] [0]
 refine Za (Zc G rfl (fun hc0=>?_) (fun hc0=>?_))
 ·have hg:l = []:=hβ4 hc0
  refine Ya (rZ G (qC qZ) V [2,0] [0] fun G=>(Yh (Zl ?_)))
  have G:=G.fresh 1 rfl
  have G:=G.turn 1 rfl (ZaD (T:=60) (sz:=4) (R:=rOp))
  have G:=G.turn 1 rfl (r':=RS.hp (Zu 60 4 rOp l (.slice none 0 0))) (fun _ _ _ _ h=>by rw [hg];exact h)
  refine Z2 (h':=fun v=>Zu 60 4 rOp l v) hG G rfl (.tmp rfl .nil) (.one .one) rfl
 have hg:l = [] ++ l:=rfl
 refine Ye (Za (Ya (Zb G (qf (Za5 (R:=rOp) (sz:=4) 101 underlying28 kr) trivial qz (qR rr (qf (ZV (sz:=4) (bs:=32) 101 (.mk' underlying28 kr kr) (by intro x;rfl) .same (.sl .t) (by simp only [Yd,Yy];omega) (by decide)) ⟨rfl,rfl,tv⟩ ⟨rfl,tv⟩ (qO rr qZ)))) V [2] [101,0] (fun _=>rfl) (fun _=>rfl) fun τ a w F G=>?_)))
 try dsimp only [RS.sub,SF.sub,CF.sub,csub,Anc.sub,List.map,Zf,xL,xM,Nat.reduceAdd,xD,xE,xT,xU,xC,xN,zCF,rOp] at G
 generalize τ 7=v7 at G
 refine Za (Yh ?_)
 obtain ⟨F,G⟩:=G.rename 101 1 rfl rfl
 have G:=G.turn 1 rfl (r':=RS.hp (Zu 60 4 rOp l v7)) (fun _ _ _ _ h=>by rw [hg];exact h)
 refine Z2 (h':=fun v=>Zu 60 4 rOp l v) hG G rfl (.tmp rfl .nil) (.one .one) rfl
def ZcN (o:OpD):Bool:=if o.read=true then ZcQ ⟨o.tx,o.key,o.nth⟩ else (idB o.key && decide (o.tx=0)) && decide (o.nth=0)
def ofO (o:OpD):ZbT:=if o.read=true then ⟨o.tx,o.key,o.nth⟩ else noV
def Zde (o:OpD):Int:=if ZcN o=true then 0 else 1
theorem ZpS {o:OpD} (h:ZcN o=true):(1≤o.key∧o.key≤1048575)∧(0≤o.tx∧o.tx≤1048575)∧(0≤o.nth∧o.nth≤4095):=by
 unfold ZcN at h
 split at h
 ·unfold ZcQ at h
  dsimp only at h
  split at h <;> simp only [Yr,Yu,Zks] at h <;> omega
 ·simp only [Yr,Yu,Zks] at h
  omega
theorem Zhf {o:OpD} (h:o.read=true):ZcN o=ZcQ (ofO o):=by unfold ZcN ofO;rw [Yf h,Yf h]
theorem Zfo {o:OpD} (h:o.read=false):ZcN o=((idB o.key && decide (o.tx=0)) && decide (o.nth=0)):=by unfold ZcN;rw [Yc (by rw [h];decide)]
theorem Zmc (v:ZbT):(Zsx v).2=if ZcQ v=true then 0 else 1:=by unfold Zsx;split <;> rfl
theorem Zln (o:OpD):FnP prog 120 [.agg (rOp o)] (.agg (ZW (ofO o))):=by
 refine FnP.mk func120 rfl ntmps120 rfl fun B a w F V hfr G=>Ya ?_
 refine Zb G (qx 101 r1 (qf (oH [.int .i64 0,.int .i64 0,.int .i64 0] 102) trivial qz qZ)) V [2,1] [102,101,0] (fun _=>rfl) (fun _=>rfl) fun τ a w F G=>?_
 try dsimp only [RS.sub,SF.sub,CF.sub,csub,Anc.sub,List.map,zCF] at G
 generalize τ 1=v1 at G
 generalize τ 2=v2 at G
 refine Za (Ya (Ya (rZ G (qg 0 101 r1 r1 (qa 101 r1 r1 (qf (o_not .t) r1 qz qZ))) V [5,2,1] [102,101,0] fun G=>?_)))
 refine Zc G rfl (fun hc0=>?_) (fun hc0=>?_)
 ·have hr:o.read=false:=by simpa using hc0
  refine Ya (rZ G (qf (oB [] [.int .i64 0,.int .i64 0,.int .i64 0] [(0,1),(1,1),(2,1)] .nil) trivial qz (qs 3 102 r2 r1 qZ)) V [2,1] [102,101,0] fun G=>(Yh (Zl ?_)))
  refine Zab hfr G rfl (.cl 102 true 3 rfl rfl .nil) (.one (.aggU rfl (by unfold ofO;rw [hr];rfl)))
 have hr:o.read=true:=by simpa using hc0
 refine Ye (Za (Ya (rZ G (qg 2 101 r1 r1 (qa 101 r1 r1 (qg 1 101 r1 r1 (qa 101 r1 r1 (qg 3 101 r1 r1 (qa 101 r1 r1 (qf (oB [(0,.tmp 8),(1,.tmp 10),(2,.tmp 12)] [.int .i64 0,.int .i64 0,.int .i64 0] [(0,1),(1,1),(2,1)] (.one rfl .t one_int kr (.one rfl .t one_int kr (.one rfl .t one_int kr .nil)))) r3 qz (qs 3 102 r2 r1 qZ)))))))) V [2] [102,101,0] fun G=>Yh ?_)))
 refine Zab hfr G rfl (.cl 102 true 3 rfl rfl .nil) (.one (.aggU rfl (by unfold ofO;rw [hr];rfl)))
theorem ZpV (o:OpD):FnP prog 86 [.agg (rOp o)] (.int .i64 (Zde o)):=by
 refine FnP.mk func86 rfl ntmps86 rfl fun B a w F V hfr G=>Ya ?_
 refine Zb G (qx 101 r1 (qI qZ)) V [2,1] [101,0] (fun _=>rfl) (fun _=>rfl) fun τ a w F G=>?_
 try dsimp only [RS.sub,SF.sub,CF.sub,csub,Anc.sub,List.map,zCF] at G
 generalize τ 1=v1 at G
 refine Za (Ya (Ya (rZ G (qg 0 101 r1 r1 (qa 101 r1 r1 qZ)) V [6,2,1] [101,0] fun G=>?_)))
 refine Zc G rfl (fun hc0=>?_) (fun hc0=>?_)
 ·have hg:(Zsx (ofO o)).2=Zde o:=by rw [Zmc];unfold Zde;rw [Zhf hc0]
  refine Ya (rZ G (qe 4 101 r1 r1 (qf (oP (Zln o) func120 (Args.one (.pagg .t))) r1 qz (qf (oP (ZoB (ofO o)) func137 (Args.one .t)) r1 qz (qR rr (qf (Zj .t rfl) r1 qz (qf (Zj .t rfl) r1 qz (qO rr (qO rr qZ)))))))) V [4,2,1] [101,0] fun G=>Ya ?_)
  refine rZ G (qR rr (qO rr qZ)) V [2,1] [101,0] fun G=>(Yh (Zl ?_))
  refine Zr hfr G rfl rfl rfl (.int hg)
 have hr:o.read=false:=hc0
 refine Ye (Za (Ya (Ya (rZ G (qe 4 101 r1 r1 (qg 1 101 r1 r1 (qa 101 r1 r1 (qf (oB [(1,.tmp 16)] [.bool false,.int .i64 0,.int .i64 0,.int .i64 0] [(0,1),(1,1),(2,1),(3,1)] (.one rfl .t one_int kr .nil)) r1 qz (qf (o_neqS (ks:=[false,true,true,true]) kr .t .t (.bool (.int (.int (.int .nil))))) r2 qz (qR rr (qv 1 101 rfl r2 r1 (qw 101 rfl r2 r1 (qk rfl (fun h=>ZaC (.w h) qi) r2 qz (qf (ZaA .t .t) r2 qz (qR rr (qv 1 101 rfl r2 r1 (qw 101 rfl r2 r1 (qk rfl (fun h=>ZaR (.w h) qi) r2 qz (qf (ZaA .t .t) r2 qz qZ))))))))))))))) V [28,2] [101,0] fun G=>?_))))
 refine Zc G rfl (fun hc1=>?_) (fun hc1=>?_)
 ·have hg:(1:Int)=Zde o:=by
    unfold Zde
    rw [Yc]
    rw [Zfo hr]
    simp [hr,idB] at hc1 ⊢
    omega
  refine Ya (rZ G (qI qZ) V [2] [101,0] fun G=>(Yh (Zl ?_)))
  refine Zr hfr G rfl rfl rfl (.int hg)
 have hg:(0:Int)=Zde o:=by
   unfold Zde
   rw [Yf]
   rw [Zfo hr]
   simp [hr,idB] at hc1 ⊢
   omega
 refine Ye (Za (Ya (rZ G (qI qZ) V [2] [101,0] fun G=>Yh ?_)))
 refine Zr hfr G rfl rfl rfl (.int hg)
theorem Ztb (t : TxD) (hl : t.ops.length ≤ 1000000) (p : OpD → Bool) (f : FuncId) (fn : Func) (cps : List PV) (hf : prog.funcs[f]? = some fn) (hb : fn.body.isSome = true) (hnn : (fn.name == "runtime.NumGoroutine") = false) (hw : ∀ x, FnP prog f (.agg (rOp x) :: cps) (.bool (p x))) : FnP prog 139 [.agg (rTx t), .clos f cps] (.sl Zn (Zbq ((t.ops.filter p).map OpD.key))) := by
 refine FnP.mk func139 rfl ntmps139 rfl fun B a w F V hfr G=>Ya ?_
 refine Zb G (qx 101 r1 (qC qZ)) V [4,2,1] [101,0] (fun _=>rfl) (fun _=>rfl) fun τ a w F G=>?_
 try dsimp only [RS.sub,SF.sub,CF.sub,csub,Anc.sub,List.map,zCF,Zn,rOp,rTx] at G
 generalize τ 2=v2 at G
 refine Za (Ya (rZ G (qC qZ) V [5,4,2,1] [101,0] fun G=>(Ya (Ya ?_))))
 refine rZ G (qg 2 101 r1 r1 (qa 101 r1 r1 (qu underlying28 r1 (qJ qZ)))) V [11,10,9,5,4,1] [101,0] fun G=>Yg ?_
 replace G:=G.fresh 50 rfl
 replace G:=G.turn 50 rfl (ZaD (T:=3) (sz:=1) (R:=Zn))
 refine Zk (σ:=(Nat)×(Value)×(List Int)) [1,4,9,10] [0,101] (fun s=>[(11,.pv (.int .i64 (s.1:Int))),(5,.pv (.is s.2.1))]) (fun s=>[(50,.ob (.val s.2.1) (Zu 3 1 Zn s.2.2))]) (fun s=>s.1≤t.ops.length∧(s.2.2=(((t.ops.take s.1).filter p).map OpD.key))) (fun s=>t.ops.length - s.1) ((0),(.slice none 0 0),([])) G ⟨rfl,rfl,rfl,rfl,rfl,rfl,tv⟩ ⟨rfl,rfl,rfl,tv⟩ ⟨Yx _,rfl⟩ ?_
 clear G;intro s a w F hC G
 obtain ⟨i,v,out⟩:=s
 try dsimp only at hC
 obtain ⟨F,G⟩:=G.nM [11,10,9,5,4,1] [101,50,0]
 try dsimp only at G
 obtain ⟨hi,hq⟩:=hC
 have hol:out.length≤i:=by rw [hq,YH];exact Y0 (Y6 _ _) (by rw [Yi];omega)
 refine Ya (rZ G (qL r2) V [12,11,10,9,5,4,1] [101,50,0] fun G=>Ya ?_)
 refine Zc G rfl (fun hc0=>?_) (fun hc0=>?_)
 ·skip
  have hil:i<t.ops.length:=by simp at hc0;omega
  refine Ye (Za (Ya (Yg (Ya (Zb G (qy 4 underlying28 r2 (qf (oR true 4 .t) r1 qz (qf (oH [.bool false,.int .i64 0,.int .i64 0,.int .i64 0] 102) trivial qz (qS 4 102 r2 r1 qZ)))) V [11,10,9,7,5,4,1] [102,101,50,0] (fun _=>rfl) (fun _=>rfl) fun τ a w F G=>?_)))))
  try dsimp only [RS.sub,SF.sub,CF.sub,csub,Anc.sub,List.map,Zf,xL,xM,Nat.reduceAdd,xD,xE,xT,xU,xC,xN,zCF,ldSF,Zn,rOp,rTx] at G
  generalize τ 7=v7 at G
  try simp only [Yb] at G
  refine Za (Ya (rZ G (qR rr (qe 4 102 r1 r1 (qf (ZO (avs:=[.agg (rOp (Nn t.ops i))]) .t (hw (Nn t.ops i)) hf hb hnn (Args.one (.pagg .t))) r2 qz qZ))) V [17,11,10,9,7,5,4,1] [102,101,50,0] fun G=>?_))
  refine Zc G rfl (fun hc1=>?_) (fun hc1=>?_)
  ·skip
   have hBq:p (Nn t.ops i)=true:=by simpa using hc1
   refine Zb G (qR rr (qg 1 102 r1 r1 (qa 102 r1 r1 (qf (o_buildSliceE (sz:=1) (zs:=[.int .i64 0]) (r:=[(0,.tmp 20)]) (l:=[_]) underlying45 kr kr kr kr rfl rfl (.one rfl .t one_int kr .nil) rfl) r1 qz (qf (ZV (sz:=1) (bs:=8) 50 (.mk' underlying45 kr kr) (by intro x;rfl) .is (.arr (l':=[(Nn t.ops i).key]) .t) (by simp only [Yd,Yl,Yy,Yi,YE];omega) (by decide)) ⟨rfl,rfl,tv⟩ ⟨rfl,tv⟩ (qO rr qZ)))))) V [11,10,9,5,4,1] [102,101,50,0] (fun _=>rfl) (fun _=>rfl) fun τ a w F G=>?_
   try dsimp only [RS.sub,SF.sub,CF.sub,csub,Anc.sub,List.map,Zf,xL,xM,Nat.reduceAdd,xD,xE,xT,xU,xC,xN,zCF,ldSF,Zn,rOp,rTx] at G
   generalize τ 22=v22 at G
   refine Zh (Za (rZ G (qp r1 (qR rr qZ)) V [11,10,9,5,4,1] [102,101,50,0] fun G=>?_))
   replace G:=G.ent (i:=11) (s':=.pv (.int .i64 ((i+1:Nat):Int))) rfl (.int (Zd ow))
   obtain ⟨F,G⟩:=G.nM [10,9,4,1,5,11] [101,0,50]
   exact ⟨((i+1),_,_),F,⟨by omega,(by rw [Zp hil,Yai,YP,← hq];simp [hBq])⟩,G,by omega⟩
  have hBq:p (Nn t.ops i)=false:=by simpa using hc1
  refine Ye (Zh (Za (rZ G (qp r1 (qR rr qZ)) V [11,10,9,5,4,1] [102,101,50,0] fun G=>?_)))
  replace G:=G.ent (i:=11) (s':=.pv (.int .i64 ((i+1:Nat):Int))) rfl (.int (Zd ow))
  obtain ⟨F,G⟩:=G.nM [10,9,4,1,5,11] [101,0,50]
  exact ⟨((i+1),_,_),F,⟨by omega,(by rw [Zp hil,Yai,YP,← hq];simp [hBq])⟩,G,by omega⟩
 have hil:i=t.ops.length:=by simp at hc0;omega
 refine Yv (Zi (Zi (Zo (Za (Ya (rZ G (qR rr (qf (Zbi 50 (Zjq _ out ow) func92 rfl kr (Args.one .t)) r1 r1 qZ)) V [5,4] [101,50,0] fun G=>Ya ?_))))))
 refine Zb G (qR rr (qf (o_callRowN 50 (Zkw _ _ (by rw [Ybt];omega)) func179 rfl kr (Args.one .t) pvOne1) r1 r1 (qO rr qZ))) V [4] [101,50,0] (fun _=>rfl) (fun _=>rfl) fun τ a w F G=>?_
 try dsimp only [RS.sub,SF.sub,CF.sub,csub,Anc.sub,List.map,Zn,rOp,rTx] at G
 generalize τ 27=v27 at G
 refine Za (Yh ?_)
 obtain ⟨F,G⟩:=G.give 50 4 rfl rfl
 refine Zr hfr G rfl rfl rfl (.sl (by rw [Zdn,ZdU,hq,hil,Yz]))
theorem Zf0 (l:List Int):(Zbq l).length≤l.length:=by
 have key:∀ (l acc:List Int),(l.foldl Zmv acc).length≤acc.length+l.length:=fun l=>by
  induction l with
  | nil=>intro acc;simp
  | cons x l ih=>
   intro acc
   have h1:=ih (Zmv acc x)
   have h2:(Zmv acc x).length≤acc.length+1:=ZiF acc false
   rw [Yan,Yl];omega
 have:=key l []
 simpa [Zbq] using this
theorem Ent.fnClos {f:FuncId} : Ent (.pv (.is (.func (.func f) #[] #[]))) (.pv (.clos f [])):=fun τ w y v h=>⟨[],h.1,tv⟩
theorem Zuj (o:OpD):FnP prog 140 [.agg (rOp o)] (.bool (!o.read)):=by
 refine FnP.mk func140 rfl ntmps140 rfl fun B a w F V hfr G=>Ya ?_
 refine Zb G (qx 101 r1 qB) V [2,1] [101,0] (fun _=>rfl) (fun _=>rfl) fun τ a w F G=>?_
 try dsimp only [RS.sub,SF.sub,CF.sub,csub,Anc.sub,List.map,zCF,rOp] at G
 generalize τ 1=v1 at G
 refine Za (Ya (rZ G (qg 0 101 r1 r1 (qa 101 r1 r1 (qf (o_not .t) r1 qz (qO rr qZ)))) V [2] [0] fun G=>Yh ?_))
 refine Zr hfr G rfl rfl rfl (.bool rfl)
theorem ZoS (t:TxD) (hl:t.ops.length≤1000000):FnP prog 91 [.agg (rTx t)] (.sl Zn (Zbq ((t.ops.filter fun o=>!o.read).map OpD.key))):=by
 refine FnP.mk func91 rfl ntmps91 rfl fun B a w F V hfr G=>Ya ?_
 refine Zb G (qx 101 r1 (qC qZ)) V [2,1] [101,0] (fun _=>rfl) (fun _=>rfl) fun τ a w F G=>?_
 try dsimp only [RS.sub,SF.sub,CF.sub,csub,Anc.sub,List.map,zCF,rTx,Zn] at G
 generalize τ 1=v1 at G
 refine Za (Ya (rZ G (qe 3 101 r1 r1 (qf (oP (Ztb t hl (fun o=>!o.read) 140 f140 [] func140 rfl kr (fun o=>Zuj o)) func139 (Args.two (.pagg .t) (.conv .f (Ent.fnClos)))) r1 qz (qO rr qZ))) V [2] [0] fun G=>Yh ?_))
 refine Zr hfr G rfl rfl rfl (.sl rfl)
theorem Zdf (t:TxD) (n:Int) (hl:t.ops.length≤1000000):FnP prog 29 [.agg (rTx t),.int .i64 n] (.int .i64 (((t.ops.filter fun o=>!o.read && decide (o.key=n)).length:Nat):Int)):=by
 refine FnP.mk func29 rfl ntmps29 rfl fun B a w F V hfr G=>?_
 have hll:t.ops.length≤1000000:=hl
 refine Ya (Zb G (qx 101 r1 (qI qZ)) V [4,2,1] [101,0] (fun _=>rfl) (fun _=>rfl) fun τ a w F G=>?_)
 try dsimp only [RS.sub,SF.sub,CF.sub,csub,Anc.sub,List.map,zCF,Zn,rOp,rTx] at G
 generalize τ 2=v2 at G
 refine Za (Ya (rZ G (qI qZ) V [5,4,2,1] [101,0] fun G=>(Ya (Ya ?_))))
 refine rZ G (qg 2 101 r1 r1 (qa 101 r1 r1 (qu underlying28 r1 (qJ qZ)))) V [11,10,9,5,4,1] [0] fun G=>Yg ?_
 refine Zk (σ:=(Nat)) [1,4,9,10] [0] (fun s=>[(11,.pv (.int .i64 (s:Int))),(5,.pv (.int .i64 ((((t.ops.take s).filter fun o=>!o.read && decide (o.key=n)).length:Nat):Int)))]) (fun s=>[]) (fun s=>s≤t.ops.length∧(True)) (fun s=>t.ops.length - s) (0) G ⟨rfl,rfl,rfl,rfl,rfl,rfl,tv⟩ ⟨rfl,tv⟩ ⟨Yx _,tv⟩ ?_
 clear G;intro i a w F hC G
 try dsimp only at hC
 obtain ⟨F,G⟩:=G.nM [11,10,9,5,4,1] [0]
 try dsimp only at G
 obtain ⟨hi,hq⟩:=hC
 refine Ya (rZ G (qL r2) V [12,11,10,9,5,4,1] [0] fun G=>Ya ?_)
 refine Zc G rfl (fun hc0=>?_) (fun hc0=>?_)
 ·have hil:i<t.ops.length:=by simp at hc0;omega
  refine Ye (Za (Ya (Yg (Ya (Zb G (qy 4 underlying28 r2 (qf (oR true 4 .t) r1 qz (qf (oH [.bool false,.int .i64 0,.int .i64 0,.int .i64 0] 102) trivial qz (qS 4 102 r2 r1 qZ)))) V [11,10,9,7,5,4,1] [102,0] (fun _=>rfl) (fun _=>rfl) fun τ a w F G=>?_)))))
  try dsimp only [RS.sub,SF.sub,CF.sub,csub,Anc.sub,List.map,Zf,xL,xM,Nat.reduceAdd,xD,xE,xT,xU,xC,xN,zCF,ldSF,Zn,rOp,rTx] at G
  generalize τ 7=v7 at G
  try simp only [Yb] at G
  refine Za (Ya (rZ G (qg 0 102 r1 r1 (qa 102 r1 r1 (qf (o_not .t) r1 qz (qR rr (qv 1 102 rfl r2 r1 (qw 102 rfl r2 r1 (qm rfl rfl rfl rfl (qk rfl (fun h=>o_eql (.w h) (.w h)) r3 qz (qf (ZE .t .t) r2 qz qZ))))))))) V [23,11,10,9,5,4,1] [0] fun G=>?_))
  refine Zc G rfl (fun hc1=>?_) (fun hc1=>?_)
  ·have hstp:((t.ops.take (i+1)).filter fun o=>!o.read && decide (o.key=n))=((t.ops.take i).filter fun o=>!o.read && decide (o.key=n))++(if (!(Nn t.ops i).read && decide ((Nn t.ops i).key=n))=true then [(Nn t.ops i)] else []):=by rw [Zp hil,Yai];simp only [List.filter_cons,List.filter_nil]
   have hle:((t.ops.take i).filter fun o=>!o.read && decide (o.key=n)).length≤i:=Y0 (Y6 _ _) (by rw [Yi];omega)
   have hBq:(!(Nn t.ops i).read && decide ((Nn t.ops i).key=n))=true:=hc1
   have hcc:IntKind.wrap .i64 (((((t.ops.take i).filter fun o=>!o.read && decide (o.key=n)).length:Nat):Int)+1)=((((t.ops.take (i+1)).filter fun o=>!o.read && decide (o.key=n)).length:Nat):Int):=by rw [hstp,Yf hBq,Yd,ZA ow];simp
   refine Ze G (qR rr (qp r1 (qO rr qZ))) V [11,10,9,5,4,1] [0] rfl rfl fun a w F G=>Zh (Za ?_)
   refine rZ G (qp r1 (qR rr qZ)) V [11,10,9,5,4,1] [0] fun G=>?_
   replace G:=G.ent (i:=11) (s':=.pv (.int .i64 ((i+1:Nat):Int))) rfl (.int (Zd ow))
   replace G:=G.ent (i:=5) (s':=.pv (.int .i64 ((((t.ops.take (i+1)).filter fun o=>!o.read && decide (o.key=n)).length:Nat):Int))) rfl (.int hcc)
   obtain ⟨F,G⟩:=G.nM [10,9,4,1,5,11] [0]
   exact ⟨(i+1),F,⟨by omega,tv⟩,G,by omega⟩
  have hstp:((t.ops.take (i+1)).filter fun o=>!o.read && decide (o.key=n))=((t.ops.take i).filter fun o=>!o.read && decide (o.key=n))++(if (!(Nn t.ops i).read && decide ((Nn t.ops i).key=n))=true then [(Nn t.ops i)] else []):=by rw [Zp hil,Yai];simp only [List.filter_cons,List.filter_nil]
  have hle:((t.ops.take i).filter fun o=>!o.read && decide (o.key=n)).length≤i:=Y0 (Y6 _ _) (by rw [Yi];omega)
  have hBq:(!(Nn t.ops i).read && decide ((Nn t.ops i).key=n))=false:=hc1
  have hcc:((((t.ops.take i).filter fun o=>!o.read && decide (o.key=n)).length:Nat):Int)=((((t.ops.take (i+1)).filter fun o=>!o.read && decide (o.key=n)).length:Nat):Int):=by rw [hstp,Yc (by rw [hBq];simp),YQ]
  refine Ye (Zh (Za (rZ G (qp r1 (qR rr qZ)) V [11,10,9,5,4,1] [0] fun G=>?_)))
  replace G:=G.ent (i:=11) (s':=.pv (.int .i64 ((i+1:Nat):Int))) rfl (.int (Zd ow))
  replace G:=G.ent (i:=5) (s':=.pv (.int .i64 ((((t.ops.take (i+1)).filter fun o=>!o.read && decide (o.key=n)).length:Nat):Int))) rfl (.int hcc)
  obtain ⟨F,G⟩:=G.nM [10,9,4,1,5,11] [0]
  exact ⟨(i+1),F,⟨by omega,tv⟩,G,by omega⟩
 have hil:i=t.ops.length:=by simp at hc0;omega
 refine Yv (Zi (Zi (Zo (Za (Ya (rZ G (qR rr (qO rr qZ)) V [4] [0] fun G=>Yh ?_))))))
 refine Zr hfr G rfl rfl rfl (.int (by rw [hil,Yz]))
def wcnt (l:List OpD) (k:Int):Nat:=(l.filter fun o=>!o.read && decide (o.key=k)).length
theorem Ziy {l:List OpD} {i:Nat} (h:i<l.length) (k:Int):wcnt (l.take (i+1)) k=wcnt (l.take i) k+if (Nn l i).read=false∧(Nn l i).key=k then 1 else 0:=by
 unfold wcnt
 rw [Zp h,Yai,Yd]
 congr 1
 by_cases h1:(Nn l i).read=false∧(Nn l i).key=k
 ·rw [Yf h1];simp [h1.1,h1.2]
 ·rw [Yc h1]
  have:(!(Nn l i).read && decide ((Nn l i).key=k))=false:=by
   cases hr:(Nn l i).read with
   | true=>rfl
   | false=>simp;exact fun e=>h1 ⟨hr,e⟩
  simp [this]
theorem Zud (l:List OpD) (i:Nat) (k:Int):wcnt (l.take i) k≤i:=Y0 (Y6 _ _) (by rw [Yi];omega)
def Zbe (id:Int):List OpD→List OpD→Int
 | _,[]=>0
 | s,o :: r=>if ZcN o=false then 1 else if o.read=true∧o.tx=id∧(wcnt s o.key:Int)<o.nth then 6 else Zbe id (s ++ [o]) r
def Zbo (t:TxD):Int:=if ¬ (1≤t.id∧t.id≤1048575) then 1 else if 4095<t.ops.length then 9 else Zbe t.id [] t.ops
theorem Zdp {id:Int} {l:List OpD} {i:Nat} (h:i<l.length):Zbe id (l.take i) (l.drop i)=if ZcN (Nn l i)=false then 1 else if (Nn l i).read=true∧(Nn l i).tx=id∧(wcnt (l.take i) (Nn l i).key:Int)<(Nn l i).nth then 6 else Zbe id (l.take (i+1)) (l.drop (i+1)):=by
 rw [Zrx h,Zbe,Zp h]
theorem Zkz {id:Int} {l:List OpD} {i:Nat} (h:i=l.length):Zbe id (l.take i) (l.drop i)=0:=by rw [h,List.drop_length];rfl
def Zey (id:Int) (o:OpD):Bool:=(o.read && !decide (o.tx=0)) && !decide (o.tx=id)
def Za0 (id:Int) (out:List ZbT) (o:OpD):List ZbT:=if Zey id o=true∧ofO o ∉ out then out ++ [ofO o] else out
def ZdA (id:Int) (l:List OpD):List ZbT:=l.foldl (Za0 id) []
def Zbn (t:TxD):List ZbT:=ZdA t.id t.ops
theorem Zkt {id:Int} {l:List OpD} {i:Nat} (h:i<l.length):ZdA id (l.take (i+1))=Za0 id (ZdA id (l.take i)) (Nn l i):=by
 unfold ZdA
 rw [Zp h,Yau]
 rfl
theorem Zi3 (id:Int) (out:List ZbT) (o:OpD):(Za0 id out o).length≤out.length+1:=by
 unfold Za0
 split <;> simp
theorem Zg4 (id:Int) (l:List OpD) (i:Nat):(ZdA id (l.take i)).length≤i:=by
 have key:∀ (l:List OpD) (out:List ZbT),(l.foldl (Za0 id) out).length≤out.length+l.length:=by
  intro l
  induction l with
  | nil=>intro out;simp
  | cons x l ih=>
   intro out
   have h1:=ih (Za0 id out x)
   have h2:=Zi3 id out x
   rw [Yan,Yl];omega
 have:=key (l.take i) []
 rw [Yi] at this
 unfold ZdA
 simp at this ⊢
 omega
structure Zbj where
 key:Int
 nth:Int
 deriving DecidableEq,Inhabited
def Zbr (p:Zbj):List Int:=[p.key,p.nth]
def ZdC (v:ZbT):List Int:=[v.tx,v.key,v.nth]
def ZcI (es:List (GE Zbj Int)) (s:List OpD):Prop:=∀ k n,0≤n→(gGet (⟨k,n⟩:Zbj) es).getD 0=if n=0 then (wcnt s k:Int) else if n≤wcnt s k then 1 else 0
theorem Zpe:ZcI [] []:=fun k n h=>by
 show (0:Int)=_
 have:wcnt [] k=0:=rfl
 rw [this]
 split
 ·rfl
 ·rw [Yc (by simp;omega)]
theorem ZnA {es:List (GE Zbj Int)} {l:List OpD} {i:Nat} (h:ZcI es (l.take i)) (hi:i<l.length) (hr:(Nn l i).read=true):ZcI es (l.take (i+1)):=fun k n hn=>by
 rw [h k n hn,Ziy hi,Yc (c:=(Nn l i).read=false∧(Nn l i).key=k) (by simp [hr]),Ybg]
theorem Zpa {es es2:List (GE Zbj Int)} {l:List OpD} {i:Nat} {c:Int} (h:ZcI es (l.take i)) (hi:i<l.length) (hr:(Nn l i).read=false) (hc:c=(wcnt (l.take i) (Nn l i).key:Int)+1)
  (he:∀ p,(gGet p es2).getD 0=if p = ⟨(Nn l i).key,c⟩ then 1 else if p = ⟨(Nn l i).key,0⟩ then c else (gGet p es).getD 0):ZcI es2 (l.take (i+1)):=fun k n hn=>by
 have hk:=h k n hn
 rw [he,hk,Ziy hi]
 by_cases e:(Nn l i).key=k
 ·rw [Yf (c:=(Nn l i).read=false∧_) ⟨hr,e⟩]
  rw [e] at hc
  rw [e]
  by_cases e2:n=c
  ·subst e2
   rw [Yf rfl,Yc ow,Yf ow]
  ·rw [Yc (by simp [e2])]
   by_cases e3:n=0
   ·subst e3
    rw [Yf rfl,Yf rfl,hc];simp
   ·rw [Yc (by simp [e3]),Yc e3,Yc e3]
    by_cases e4:n≤(wcnt (l.take i) k:Int)
    ·rw [Yf e4,Yf ow]
    ·rw [Yc e4,Yc ow]
 ·rw [Yc (c:=(Nn l i).read=false∧_) (by simp [e]),Ybg,Yc (by simp;exact fun h=>absurd h.symm e),Yc (by simp;exact fun h=>absurd h.symm e)]
def Zed (es:List (GE ZbT Int)) (i:Nat) (out:List ZbT):Prop:=∀ v,0≤(gGet v es).getD 0∧(gGet v es).getD 0≤i∧(0<(gGet v es).getD 0 ↔ v ∈ out)
theorem ZqW:Zed [] 0 []:=fun v=>⟨Yaq _,Yaq _,by show (0:Int)<0 ↔ _;simp⟩
theorem ZrB {es:List (GE ZbT Int)} {i:Nat} {out:List ZbT} (h:Zed es i out):Zed es (i+1) out:=fun v=>⟨(h v).1,by have:=(h v).2.1;omega,(h v).2.2⟩
theorem Zqx {es es2:List (GE ZbT Int)} {i:Nat} {out:List ZbT} {v:ZbT} (h:Zed es i out) (he:∀ u,(gGet u es2).getD 0=if u=v then (gGet v es).getD 0+1 else (gGet u es).getD 0):Zed es2 (i+1) (if v ∈ out then out else out ++ [v]):=fun u=>by
 have h1:=h u
 have h2:=h v
 rw [he u]
 by_cases e:u=v
 ·subst e
  rw [Yf rfl]
  refine ⟨by omega,by omega,?_⟩
  constructor
  ·intro _;split <;> simp_all
  ·intro _;omega
 ·rw [Yc e]
  refine ⟨by omega,by omega,?_⟩
  rw [h1.2.2]
  split
  ·rfl
  ·simp [e]
theorem Zg0 {κ:Type} [DecidableEq κ] {k p:κ} {x:Int} (s:List (GE κ Int)×Nat):(gGet p (gSet k x (gEns 0 k s).1)).getD 0=if p=k then x else (gGet p s.1).getD 0:=by
 rw [Zdg];split <;> rfl
theorem Zrj {κ:Type} [DecidableEq κ] {k p:κ} {x:Int} (s:List (GE κ Int)×Nat):(gGet p (gPut k x s).1).getD 0=if p=k then x else (gGet p s.1).getD 0:=by
 rw [Zdm];split <;> rfl
theorem Zgc:Znq prog 137 (fun k=>∀ x ∈ Zbr k,inR .i64 x) (kvS Zbr):=ZdH (n:=2) (fun _=>rfl) (fun a b h=>by cases a;cases b;simpa [Zbr] using h) kr
theorem ZoX:Znq prog 33 (fun k=>∀ x ∈ ZdC k,inR .i64 x) (kvS ZdC):=ZdH (n:=3) (fun _=>rfl) (fun a b h=>by cases a;cases b;simpa [ZdC] using h) kr
theorem Zjv {es:List (GE Zbj Int)} {s:List OpD} {o:OpD} {id:Int} (h:ZcI es s) (hk:ZcN o=true) (hr:o.read=true) (hid:1≤id):(o.tx=id∧(gGet (⟨o.key,o.nth⟩:Zbj) es).getD 0=0) ↔ (o.read=true∧o.tx=id∧(wcnt s o.key:Int)<o.nth):=by
 have hb:=ZpS hk
 have h1:=h o.key o.nth ow
 constructor
 ·rintro ⟨e1,e2⟩
  refine ⟨hr,e1,?_⟩
  have hn:1≤o.nth:=by
   rw [Zhf hr] at hk
   unfold ofO at hk
   rw [Yf hr] at hk
   unfold ZcQ at hk
   rw [Yc (show ¬ o.tx=0 by omega)] at hk
   simp at hk
   omega
  rw [e2,Yc ow] at h1
  split at h1
  ·cases h1
  ·omega
 ·rintro ⟨_,e1,e2⟩
  refine ⟨e1,?_⟩
  rw [h1,Yc ow,Yc ow]
theorem Zoq (t:TxD):FnP prog 44 [.agg (rTx t)] (.int .i64 (Zbo t)):=by
 refine FnP.mk func44 rfl ntmps44 rfl fun B a w F V hfr G=>Ya ?_
 refine Zb G (qx 101 r1 (qI qZ)) V [2,1] [101,0] (fun _=>rfl) (fun _=>rfl) fun τ a w F G=>?_
 try dsimp only [RS.sub,SF.sub,CF.sub,csub,Anc.sub,List.map,zCF,Zn,rOp,rTx] at G
 generalize τ 1=v1 at G
 refine Za (Ya (Yg (Ya (rZ G (qg 0 101 r1 r1 (qa 101 r1 r1 (qf (ZaC .t qi) r1 qz (qR rr (qv 0 101 rfl r2 r1 (qw 101 rfl r2 r1 (qk rfl (fun h=>ZaR (.w h) qi) r2 qz (qf (ZaA .t .t) r2 qz (qO rr qZ))))))))) V [7,2,1] [101,0] fun G=>?_))))
 refine Zc G rfl (fun hc0=>?_) (fun hc0=>?_)
 ·have hg:1=Zbo t:=by unfold Zbo;rw [Yf (by simp at hc0;omega)]
  refine Ya (rZ G (qI qZ) V [2,1] [101,0] fun G=>(Yh (Zz (Zl ?_))))
  refine Zr hfr G rfl rfl rfl (.int hg)
 have hid:1≤t.id∧t.id≤1048575:=by simp at hc0;omega
 refine Ya (rZ G (qg 2 101 r1 r1 (qa 101 r1 r1 (qu underlying28 r1 (qf (ZaR .t qi) r1 qz (qO rr qZ))))) V [16,2,1] [101,0] fun G=>?_)
 refine Zc G rfl (fun hc1=>?_) (fun hc1=>?_)
 ·have hg:9=Zbo t:=by unfold Zbo;rw [Yc ow,Yf (by simp at hc1;omega)]
  refine Ya (rZ G (qI qZ) V [2,1] [101,0] fun G=>(Yh (Zz (Zl ?_))))
  refine Zr hfr G rfl rfl rfl (.int hg)
 have hlen:t.ops.length≤4095:=by simp at hc1;omega
 have hT:Zbo t=Zbe t.id [] t.ops:=by unfold Zbo;rw [Yc ow,Yc ow]
 refine Ye (Zh (Za (Ya (Zb G (qf (Za1 (ek:=(fun n:Int=>PV.int .i64 n)) (ok:=(fun k=>∀ x ∈ Zbr k,inR .i64 x)) (kv:=(kvS Zbr)) 102) trivial qz (qO rr qZ)) V [3,2,1] [102,101,0] (fun _=>rfl) (fun _=>rfl) fun τ a w F G=>?_))))
 try dsimp only [RS.sub,SF.sub,CF.sub,csub,Anc.sub,List.map,Zf,xL,xM,Nat.reduceAdd,xD,xE,xT,xU,xC,xN,zCF,Zn,rOp,rTx] at G
 generalize τ 21=v21 at G
 refine Za (Ya (Ya (rZ G (qg 2 101 r1 r1 (qa 101 r1 r1 (qu underlying28 r1 (qJ qZ)))) V [25,24,23,3,2,1] [102,101,0] fun G=>Yg ?_)))
 refine Zk (σ:=(Nat)×(List (GE Zbj Int))×(Nat)) [1,2,3,23,24] [0,101] (fun s=>[(25,.pv (.int .i64 (s.1:Int)))]) (fun s=>[(102,.ob (.val v21) (ZbP (fun n:Int=>PV.int .i64 n) (fun k=>∀ x ∈ Zbr k,inR .i64 x) (kvS Zbr) s.2.1 s.2.2))]) (fun s=>s.1≤t.ops.length∧(Zbe t.id [] t.ops=Zbe t.id (t.ops.take s.1) (t.ops.drop s.1)∧ZcI s.2.1 (t.ops.take s.1))) (fun s=>t.ops.length - s.1) ((0),([]),(0)) G ⟨rfl,rfl,rfl,rfl,rfl,rfl,tv⟩ ⟨rfl,rfl,rfl,tv⟩ ⟨Yx _,⟨rfl,Zpe⟩⟩ ?_
 clear G;intro s a w F hC G
 obtain ⟨i,es,ck⟩:=s
 try dsimp only at hC
 obtain ⟨F,G⟩:=G.nM [25,24,23,3,2,1] [102,101,0]
 try dsimp only at G
 obtain ⟨hi,hq⟩:=hC
 obtain ⟨hrt,hsp⟩:=hq
 have hwl:=fun k=>Zud t.ops i k
 refine Ya (rZ G (qL r2) V [26,25,24,23,3,2,1] [102,101,0] fun G=>Ya ?_)
 refine Zc G rfl (fun hc2=>?_) (fun hc2=>?_)
 ·have hil:i<t.ops.length:=by simp at hc2;omega
  refine Ye (Za (Ya (Yg (Ya (Zb G (qy 4 underlying28 r2 (qf (oR true 4 .t) r1 qz (qf (oH [.bool false,.int .i64 0,.int .i64 0,.int .i64 0] 103) trivial qz (qS 4 103 r2 r1 qZ)))) V [25,24,23,5,3,2,1] [103,102,101,0] (fun _=>rfl) (fun _=>rfl) fun τ a w F G=>?_)))))
  try dsimp only [RS.sub,SF.sub,CF.sub,csub,Anc.sub,List.map,Zf,xL,xM,Nat.reduceAdd,xD,xE,xT,xU,xC,xN,zCF,ldSF,Zn,rOp,rTx] at G
  generalize τ 5=v5 at G
  try simp only [Yb] at G
  refine Za (Ya (Ya (rZ G (qe 4 103 r1 r1 (qf (oP (ZpV (Nn t.ops i)) func86 (Args.one (.pagg .t))) r1 qz (qO rr qZ))) V [25,24,23,6,5,3,2,1] [103,102,101,0] fun G=>Ya ?_)))
  refine rZ G (qR rr (qf (o_neq .t qi) r1 qz qZ)) V [32,25,24,23,6,5,3,2,1] [103,102,101,0] fun G=>?_
  refine Zc G rfl (fun hc3=>?_) (fun hc3=>?_)
  ·have hk:ZcN (Nn t.ops i)=false:=by unfold Zde at hc3;simpa using hc3
   have hg:Zde (Nn t.ops i)=Zbo t:=by rw [hT,hrt,Zdp hil,Yf hk];unfold Zde;rw [hk];rfl
   refine Ya (rZ G (qR rr (qO rr qZ)) V [25,24,23,5,3,2,1] [103,102,101,0] fun G=>(Yh (Zl (Zz (Zl (Zl (Zz (Zl ?_))))))))
   refine Zr hfr G rfl rfl rfl (.int hg)
  have hk:ZcN (Nn t.ops i)=true:=by unfold Zde at hc3;simpa using hc3
  refine Ye (Za (Ya (Ya (rZ G (qg 0 103 r1 r1 (qa 103 r1 r1 (qf (o_not .t) r1 qz qZ))) V [36,25,24,23,5,3,2,1] [103,102,101,0] fun G=>?_))))
  refine Zc G rfl (fun hc4=>?_) (fun hc4=>?_)
  ·have hr:(Nn t.ops i).read=false:=by simpa using hc4
   have hm0:=hsp (Nn t.ops i).key 0 (Yaq _)
   rw [Yf rfl] at hm0
   have hwc:IntKind.wrap .i64 (((gGet (⟨(Nn t.ops i).key,0⟩:Zbj) es).getD 0)+1)=(wcnt (t.ops.take i) (Nn t.ops i).key:Int)+1:=by rw [hm0];exact ZA (by have:=hwl (Nn t.ops i).key;omega)
   refine Ya ?_
   replace G:=G.turnZ 102 (0) (⟨(Nn t.ops i).key,0⟩:Zbj) rfl
   refine Zbc 102 8 (m1:=1) (m2:=2) kr G kr (qR rr (qg 1 103 r1 r1 (qa 103 r1 r1 (qf (oB [(0,.tmp 39),(1,_)] [.int .i64 0,.int .i64 0] [(0,1),(1,1)] (.one rfl .t one_int kr (.one rfl qi one_int kr .nil))) r1 qz (qf (Zcf (ek:=(fun n:Int=>PV.int .i64 n)) (z0:=(0)) 102 underlying134 Zgc kr (fun _ _=>⟨rfl,ZcY⟩) .is (ZM.agg (enc:=Zbr) (k:=(⟨(Nn t.ops i).key,0⟩:Zbj)) (.pagg .t) rfl)) r2 r1 (qp r1 (qf (Zbb (ek:=(fun n:Int=>PV.int .i64 n)) (z0:=(0)) 102 underlying134 Zgc kr (fun _ _=>⟨rfl,ZcY⟩) .is (ZM.agg (enc:=Zbr) (k:=(⟨(Nn t.ops i).key,0⟩:Zbj)) (.pagg .t) rfl) (by intros;first | rfl | simp [Anc.v,upd])) r2 r1 (qf (Zj .t rfl) r1 qz (qf (ZaM 102 (ZbN _ _ _) .is .t .t) r3 r1 qZ))))))))) kr kr kr rfl rfl rfl (fun _ _ _ _ h=>.inr h) (by rw [V];kernel_rfl) fun a w F G=>?_
   obtain ⟨F,G⟩:=G.nM [25,24,23,5,3,2,1] [103,102,101,0]
   try dsimp only [List.map,Zf,xL,xM,Nat.reduceAdd,xD,xE,xT,xU,xC,xN,zCF,ldSF,Zn,rOp,rTx] at G
   obtain ⟨es1,he1⟩:∃ z,z=gSet (⟨(Nn t.ops i).key,0⟩:Zbj) (IntKind.wrap .i64 (((gGet (⟨(Nn t.ops i).key,0⟩:Zbj) es).getD 0)+1)) (gEns 0 (⟨(Nn t.ops i).key,0⟩:Zbj) (es,ck)).1:=⟨_,rfl⟩
   obtain ⟨ck1,hc1⟩:∃ z,z=(gEns 0 (⟨(Nn t.ops i).key,0⟩:Zbj) (es,ck)).2:=⟨_,rfl⟩
   rw [← he1,← hc1] at G
   refine Za (Ya (Zv G (qR rr (qg 1 103 r1 r1 (qa 103 r1 r1 (qR rr (qg 1 103 r1 r1 (qa 103 r1 r1 (qf (oB [(0,.tmp 50),(1,_)] [.int .i64 0,.int .i64 0] [(0,1),(1,1)] (.one rfl .t one_int kr (.one rfl qi one_int kr .nil))) r1 qz (qf (Zas (ek:=(fun n:Int=>PV.int .i64 n)) (z0:=(0)) 102 underlying134 Zgc kr (fun _ _=>⟨rfl,ZcY⟩) .is (ZM.agg (enc:=Zbr) (k:=(⟨(Nn t.ops i).key,0⟩:Zbj)) (.pagg .t) rfl)) r2 r1 (qf (oB [(0,.tmp 47),(1,.tmp 52)] [.int .i64 0,.int .i64 0] [(0,1),(1,1)] (.one rfl .t one_int kr (.one rfl .t one_int kr .nil))) r2 qz (qf (o_mapUpdateG (ek:=(fun n:Int=>PV.int .i64 n)) 102 underlying134 Zgc .is (ZM.agg (enc:=Zbr) (k:=(⟨(Nn t.ops i).key,(gGet (⟨(Nn t.ops i).key,0⟩:Zbj) es1).getD 0⟩:Zbj)) (.pagg .t) rfl) qi) r2 r1 qZ)))))))))) V [25,24,23,5,3,2,1] [103,102,101,0] rfl rfl fun a w F G=>?_))
   try dsimp only [List.map,Zf,xL,xM,Nat.reduceAdd,xD,xE,xT,xU,xC,xN,zCF,ldSF,Zn,rOp,rTx] at G
   have hv1:∀ p,(gGet p es1).getD 0=if p=(⟨(Nn t.ops i).key,0⟩:Zbj) then (wcnt (t.ops.take i) (Nn t.ops i).key:Int)+1 else (gGet p es).getD 0:=fun p=>by rw [he1,Zg0,hwc]
   obtain ⟨es2,he2⟩:∃ z,z=(gPut (⟨(Nn t.ops i).key,(gGet (⟨(Nn t.ops i).key,0⟩:Zbj) es1).getD 0⟩:Zbj) 1 (es1,ck1)).1:=⟨_,rfl⟩
   obtain ⟨ck2,hc2⟩:∃ z,z=(gPut (⟨(Nn t.ops i).key,(gGet (⟨(Nn t.ops i).key,0⟩:Zbj) es1).getD 0⟩:Zbj) 1 (es1,ck1)).2:=⟨_,rfl⟩
   rw [← he2,← hc2] at G
   have hR2:Zbe t.id [] t.ops=Zbe t.id (t.ops.take (i+1)) (t.ops.drop (i+1))∧ZcI es2 (t.ops.take (i+1)):=⟨by rw [hrt,Zdp hil,Yc (by rw [hk];decide),Yc (by rw [hr];simp)],Zpa hsp hil hr rfl (fun p=>by rw [he2,Zrj];dsimp only;rw [hv1,hv1,Yf rfl])⟩
   refine Za (Yv (Zi (Zo (Za (rZ G (qp r1 (qR rr qZ)) V [25,24,23,3,2,1] [103,102,101,0] fun G=>?_)))))
   replace G:=G.ent (i:=25) (s':=.pv (.int .i64 ((i+1:Nat):Int))) rfl (.int (Zd ow))
   obtain ⟨F,G⟩:=G.nM [24,23,3,2,1,25] [101,0,102]
   exact ⟨((i+1),(es2),(ck2)),F,⟨by omega,hR2⟩,G,by omega⟩
  have hr:(Nn t.ops i).read=true:=by simpa using hc4
  refine Ye (Za (Ya (rZ G (qg 2 103 r1 r1 (qa 103 r1 r1 (qg 0 101 r1 r1 (qa 101 r1 r1 (qf (o_eql .t .t) r2 qz (qR rr (qm rfl rfl rfl rfl (qv 1 103 rfl r2 r1 (qw 103 rfl r2 r1 (qv 3 103 rfl r2 r1 (qw 103 rfl r2 r1 (qk rfl (fun h=>ZjT (r:=[(0,.tmp 62),(1,.tmp 64)]) (zs:=[.int .i64 0,.int .i64 0]) (pl:=[(0,1),(1,1)]) kr kr (.one rfl (.w h) one_int kr (.one rfl (.w h) one_int kr .nil)) (by rfl)) r3 qz (qk rfl (fun h=>Zas (ek:=(fun n:Int=>PV.int .i64 n)) (z0:=(0)) 102 underlying134 Zgc kr (fun _ _=>⟨rfl,ZcY⟩) (.w h .is) (ZM.agg (enc:=Zbr) (k:=(⟨(Nn t.ops i).key,(Nn t.ops i).nth⟩:Zbj)) (.pagg (.w h)) rfl)) r3 r1 (qk rfl (fun h=>o_eql (.w h) qi) r2 qz (qf (ZE .t .t) r2 qz qZ))))))))))))))) V [68,25,24,23,3,2,1] [103,102,101,0] fun G=>?_)))
  refine Zc G rfl (fun hc5=>?_) (fun hc5=>?_)
  ·have hg:6=Zbo t:=by rw [hT,hrt,Zdp hil,Yc (by rw [hk];decide),Yf ((Zjv hsp hk hr hid.1).1 (by simpa using hc5))]
   refine Ya (rZ G (qI qZ) V [25,24,23,3,2,1] [103,102,101,0] fun G=>(Yh (Zz (Zl (Zl (Zz (Zl ?_)))))))
   refine Zr hfr G rfl rfl rfl (.int hg)
  have hno:=fun h9=>(by simpa using hc5:¬ ((Nn t.ops i).tx=t.id∧(gGet (⟨(Nn t.ops i).key,(Nn t.ops i).nth⟩:Zbj) es).getD 0=0)) ((Zjv hsp hk hr hid.1).2 h9)
  obtain ⟨es2,he2⟩:∃ z,z=es:=⟨_,rfl⟩
  obtain ⟨ck2,hc2⟩:∃ z,z=ck:=⟨_,rfl⟩
  have hR2:Zbe t.id [] t.ops=Zbe t.id (t.ops.take (i+1)) (t.ops.drop (i+1))∧ZcI es2 (t.ops.take (i+1)):=⟨by rw [hrt,Zdp hil,Yc (by rw [hk];decide),Yc hno],by rw [he2];exact ZnA hsp hil hr⟩
  rw [← he2,← hc2] at G
  refine Ye (Zh (Za (rZ G (qp r1 (qR rr qZ)) V [25,24,23,3,2,1] [103,102,101,0] fun G=>?_)))
  replace G:=G.ent (i:=25) (s':=.pv (.int .i64 ((i+1:Nat):Int))) rfl (.int (Zd ow))
  obtain ⟨F,G⟩:=G.nM [24,23,3,2,1,25] [101,0,102]
  exact ⟨((i+1),(es2),(ck2)),F,⟨by omega,hR2⟩,G,by omega⟩
 have hil:i=t.ops.length:=by simp at hc2;omega
 have hg:0=Zbo t:=by rw [hT,hrt,Zkz hil]
 refine Yv (Zi (Zi (Zo (Za (Ya (rZ G (qI qZ) V [2] [102,101,0] fun G=>Yh ?_))))))
 refine Zr hfr G rfl rfl rfl (.int hg)
theorem ZjF (t:TxD) (hl:t.ops.length≤1000000):FnP prog 88 [.agg (rTx t)] (.sl ZW (Zbn t)):=by
 refine FnP.mk func88 rfl ntmps88 rfl fun B a w F V hfr G=>Ya ?_
 refine Zb G (qx 101 r1 (qC qZ)) V [2,1] [101,0] (fun _=>rfl) (fun _=>rfl) fun τ a w F G=>?_
 try dsimp only [RS.sub,SF.sub,CF.sub,csub,Anc.sub,List.map,zCF,Zn,rOp,rTx,ZW] at G
 generalize τ 1=v1 at G
 refine Za (Ya (rZ G (qC qZ) V [3,2,1] [101,0] fun G=>Ya ?_))
 refine Zb G (qf (Za1 (ek:=(fun n:Int=>PV.int .i64 n)) (ok:=(fun k=>∀ x ∈ ZdC k,inR .i64 x)) (kv:=(kvS ZdC)) 102) trivial qz (qO rr qZ)) V [4,3,2,1] [102,101,0] (fun _=>rfl) (fun _=>rfl) fun τ a w F G=>?_
 try dsimp only [RS.sub,SF.sub,CF.sub,csub,Anc.sub,List.map,Zf,xL,xM,Nat.reduceAdd,xD,xE,xT,xU,xC,xN,zCF,Zn,rOp,rTx,ZW] at G
 generalize τ 8=v8 at G
 refine Za (Ya (Ya (rZ G (qg 2 101 r1 r1 (qa 101 r1 r1 (qu underlying28 r1 (qJ qZ)))) V [12,11,10,4,3,2,1] [102,101,0] fun G=>Yg ?_)))
 replace G:=G.fresh 50 rfl
 replace G:=G.turn 50 rfl (ZaD (T:=33) (sz:=3) (R:=ZW))
 refine Zk (σ:=(Nat)×(List (GE ZbT Int))×(Nat)×(Value)×(List ZbT)) [1,2,4,10,11] [0,101] (fun s=>[(12,.pv (.int .i64 (s.1:Int))),(3,.pv (.is s.2.2.2.1))]) (fun s=>[(102,.ob (.val v8) (ZbP (fun n:Int=>PV.int .i64 n) (fun k=>∀ x ∈ ZdC k,inR .i64 x) (kvS ZdC) s.2.1 s.2.2.1)),(50,.ob (.val s.2.2.2.1) (Zu 33 3 ZW s.2.2.2.2))]) (fun s=>s.1≤t.ops.length∧(s.2.2.2.2=ZdA t.id (t.ops.take s.1)∧Zed s.2.1 s.1 s.2.2.2.2)) (fun s=>t.ops.length - s.1) ((0),([]),(0),(.slice none 0 0),([])) G ⟨rfl,rfl,rfl,rfl,rfl,rfl,rfl,tv⟩ ⟨rfl,rfl,rfl,rfl,tv⟩ ⟨Yx _,⟨rfl,ZqW⟩⟩ ?_
 clear G;intro s a w F hC G
 obtain ⟨i,es,ck,v,out⟩:=s
 try dsimp only at hC
 obtain ⟨F,G⟩:=G.nM [12,11,10,4,3,2,1] [102,101,50,0]
 try dsimp only at G
 obtain ⟨hi,hq⟩:=hC
 obtain ⟨hou,hvi⟩:=hq
 have hol:out.length≤i:=by rw [hou];exact Zg4 _ _ _
 have hst:=fun hil:i<t.ops.length=>Zkt (id:=t.id) hil
 refine Ya (rZ G (qL r2) V [13,12,11,10,4,3,2,1] [102,101,50,0] fun G=>Ya ?_)
 refine Zc G rfl (fun hc0=>?_) (fun hc0=>?_)
 ·have hil:i<t.ops.length:=by simp at hc0;omega
  refine Ye (Za (Ya (Yg (Ya (Zb G (qy 4 underlying28 r2 (qf (oR true 4 .t) r1 qz (qf (oH [.bool false,.int .i64 0,.int .i64 0,.int .i64 0] 103) trivial qz (qS 4 103 r2 r1 qZ)))) V [12,11,10,6,4,3,2,1] [103,102,101,50,0] (fun _=>rfl) (fun _=>rfl) fun τ a w F G=>?_)))))
  try dsimp only [RS.sub,SF.sub,CF.sub,csub,Anc.sub,List.map,Zf,xL,xM,Nat.reduceAdd,xD,xE,xT,xU,xC,xN,zCF,ldSF,Zn,rOp,rTx,ZW] at G
  generalize τ 6=v6 at G
  try simp only [Yb] at G
  refine Za (Ya (Zb G (qe 4 103 r1 r1 (qf (oP (Zln (Nn t.ops i)) func120 (Args.one (.pagg .t))) r1 qz (qf (oH [.int .i64 0,.int .i64 0,.int .i64 0] 104) trivial qz (qf (oA 3 104 .same (.conv .t .agg)) r2 r1 qZ)))) V [12,11,10,7,6,4,3,2,1] [104,103,102,101,50,0] (fun _=>rfl) (fun _=>rfl) fun τ a w F G=>?_))
  try dsimp only [RS.sub,SF.sub,CF.sub,csub,Anc.sub,List.map,Zf,xL,xM,Nat.reduceAdd,xD,xE,xT,xU,xC,xN,zCF,ldSF,Zn,rOp,rTx,ZW] at G
  generalize τ 7=v7 at G
  refine Za (Ya (Ya (rZ G (qg 0 103 r1 r1 (qa 103 r1 r1 (qf (o_not .t) r1 qz (qR rr (qv 0 104 rfl r2 r1 (qw 104 rfl r2 r1 (qk rfl (fun h=>o_eql (.w h) qi) r2 qz (qf (ZaA .t .t) r2 qz (qR rr (qv 0 104 rfl r2 r1 (qw 104 rfl r2 r1 (qv 0 101 rfl r2 r1 (qw 101 rfl r2 r1 (qk rfl (fun h=>o_eql (.w h) (.w h)) r3 qz (qf (ZaA .t .t) r2 qz qZ))))))))))))))) V [32,12,11,10,7,4,3,2,1] [104,103,102,101,50,0] fun G=>?_)))
  refine Zc G rfl (fun hc1=>?_) (fun hc1=>?_)
  ·have hno:Zey t.id (Nn t.ops i)=false:=by unfold Zey;unfold ofO at hc1;cases hr:(Nn t.ops i).read <;> simp [hr] at hc1 ⊢;omega
   obtain ⟨es2,he2⟩:∃ z,z=es:=⟨_,rfl⟩
   obtain ⟨ck2,hc2⟩:∃ z,z=ck:=⟨_,rfl⟩
   obtain ⟨out2,ho2⟩:∃ z,z=out:=⟨_,rfl⟩
   have hR2:out2=ZdA t.id (t.ops.take (i+1))∧Zed es2 (i+1) out2:=⟨by rw [ho2,hou,hst hil];unfold Za0;rw [Yc (by rw [hno];simp)],by rw [he2,ho2];exact ZrB hvi⟩
   rw [← he2,← hc2,← ho2] at G
   refine Yv (Zi (Zo (Za (rZ G (qp r1 (qR rr qZ)) V [12,11,10,4,3,2,1] [103,102,101,50,0] fun G=>?_))))
   replace G:=G.ent (i:=12) (s':=.pv (.int .i64 ((i+1:Nat):Int))) rfl (.int (Zd ow))
   obtain ⟨F,G⟩:=G.nM [11,10,4,2,1,3,12] [101,0,50,102]
   exact ⟨((i+1),(es2),(ck2),_,(out2)),F,⟨by omega,hR2⟩,G,by omega⟩
  have hyes:Zey t.id (Nn t.ops i)=true:=by unfold Zey;unfold ofO at hc1;cases hr:(Nn t.ops i).read <;> simp [hr] at hc1 ⊢;exact hc1
  have hvr:=hvi (ofO (Nn t.ops i))
  have hw1:IntKind.wrap .i64 (((gGet (ofO (Nn t.ops i)) es).getD 0)+1)=((gGet (ofO (Nn t.ops i)) es).getD 0)+1:=ZA (by have:=Sat.lenSl G (i:=10) rfl;omega)
  refine Ye (Za (Ya ?_))
  replace G:=G.turnZ 102 (0) (ofO (Nn t.ops i)) rfl
  refine Zbc 102 6 (m1:=1) (m2:=2) kr G kr (qR rr (qe 3 104 r1 r1 (qf (Zcf (ek:=(fun n:Int=>PV.int .i64 n)) (z0:=(0)) 102 underlying200 ZoX kr (fun _ _=>⟨rfl,ZcY⟩) .is (ZM.agg (enc:=ZdC) (k:=(ofO (Nn t.ops i))) (.pagg .t) rfl)) r2 r1 (qp r1 (qf (Zbb (ek:=(fun n:Int=>PV.int .i64 n)) (z0:=(0)) 102 underlying200 ZoX kr (fun _ _=>⟨rfl,ZcY⟩) .is (ZM.agg (enc:=ZdC) (k:=(ofO (Nn t.ops i))) (.pagg .t) rfl) (by intros;first | rfl | simp [Anc.v,upd])) r2 r1 (qf (Zj .t rfl) r1 qz (qf (ZaM 102 (ZbN _ _ _) .is .t .t) r3 r1 qZ))))))) kr kr kr rfl rfl rfl (fun _ _ _ _ h=>.inr h) (by rw [V];kernel_rfl) fun a w F G=>?_
  obtain ⟨F,G⟩:=G.nM [12,11,10,7,4,3,2,1] [104,103,102,101,50,0]
  try dsimp only [List.map,xD,xE,xT,xU,ldSF,Zn,rOp,rTx,ZW] at G
  obtain ⟨es2,he2⟩:∃ z,z=gSet (ofO (Nn t.ops i)) (IntKind.wrap .i64 (((gGet (ofO (Nn t.ops i)) es).getD 0)+1)) (gEns 0 (ofO (Nn t.ops i)) (es,ck)).1:=⟨_,rfl⟩
  obtain ⟨ck2,hc2⟩:∃ z,z=(gEns 0 (ofO (Nn t.ops i)) (es,ck)).2:=⟨_,rfl⟩
  rw [← he2,← hc2] at G
  have hvv:∀ u,(gGet u es2).getD 0=if u=(ofO (Nn t.ops i)) then ((gGet (ofO (Nn t.ops i)) es).getD 0)+1 else (gGet u es).getD 0:=fun u=>by rw [he2,Zg0,hw1]
  have hmv:(gGet (ofO (Nn t.ops i)) es2).getD 0=((gGet (ofO (Nn t.ops i)) es).getD 0)+1:=by rw [hvv,Yf rfl]
  have hvs:=Zqx hvi hvv
  refine Za (Ya (rZ G (qR rr (qe 3 104 r1 r1 (qf (Zas (ek:=(fun n:Int=>PV.int .i64 n)) (z0:=(0)) 102 underlying200 ZoX kr (fun _ _=>⟨rfl,ZcY⟩) .is (ZM.agg (enc:=ZdC) (k:=(ofO (Nn t.ops i))) (.pagg .t) rfl)) r2 r1 (qf (o_eql .t qi) r1 qz qZ)))) V [42,12,11,10,7,4,3,2,1] [104,103,102,101,50,0] fun G=>?_))
  refine Zc G rfl (fun hc2=>?_) (fun hc2=>?_)
  ·have hnm:(ofO (Nn t.ops i)) ∉ out:=by rw [← hvr.2.2];rw [hmv] at hc2;simp at hc2;omega
   obtain ⟨out2,ho2⟩:∃ z,z=out ++ [(ofO (Nn t.ops i))]:=⟨_,rfl⟩
   have hR2:out2=ZdA t.id (t.ops.take (i+1))∧Zed es2 (i+1) out2:=⟨by rw [ho2,hst hil];unfold Za0;rw [Yf ⟨hyes,by rw [← hou];exact hnm⟩,← hou],by have:=hvs;rw [Yc hnm] at this;rw [ho2];exact this⟩
   refine Zb G (qR rr (qe 3 104 r1 r1 (qf (o_buildSliceE (sz:=3) (zs:=[.int .i64 0,.int .i64 0,.int .i64 0]) (r:=[(0,.tmp 44)]) (l:=[_,_,_]) underlying139 kr kr kr kr rfl rfl (.agg rfl .t kr kr .nil) rfl) r1 qz (qf (ZV (sz:=3) (bs:=24) 50 (.mk' underlying139 kr kr) (by intro x;rfl) .is (.arr (l':=[_]) .t) (by simp only [Yd,Yl,Yy,Yi,YE];omega) (by decide)) ⟨rfl,rfl,tv⟩ ⟨rfl,tv⟩ (qO rr qZ))))) V [12,11,10,4,3,2,1] [103,102,101,50,0] (fun _=>rfl) (fun _=>rfl) fun τ a w F G=>?_
   try dsimp only [RS.sub,SF.sub,CF.sub,csub,Anc.sub,List.map,Zf,xL,xM,Nat.reduceAdd,xD,xE,xT,xU,xC,xN,zCF,ldSF,Zn,rOp,rTx,ZW] at G
   generalize τ 46=v46 at G
   rw [← ho2] at G
   refine Zh (Za (rZ G (qp r1 (qR rr qZ)) V [12,11,10,4,3,2,1] [103,102,101,50,0] fun G=>?_))
   replace G:=G.ent (i:=12) (s':=.pv (.int .i64 ((i+1:Nat):Int))) rfl (.int (Zd ow))
   obtain ⟨F,G⟩:=G.nM [11,10,4,2,1,3,12] [101,0,50,102]
   exact ⟨((i+1),(es2),(ck2),_,(out2)),F,⟨by omega,hR2⟩,G,by omega⟩
  have hnm:(ofO (Nn t.ops i)) ∈ out:=by rw [← hvr.2.2];rw [hmv] at hc2;simp at hc2;omega
  obtain ⟨out2,ho2⟩:∃ z,z=out:=⟨_,rfl⟩
  have hR2:out2=ZdA t.id (t.ops.take (i+1))∧Zed es2 (i+1) out2:=⟨by rw [ho2,hst hil];unfold Za0;rw [Yc (by rw [← hou];simp [hnm])];exact hou,by have:=hvs;rw [Yf hnm] at this;rw [ho2];exact this⟩
  rw [← ho2] at G
  refine Ye (Zh (Za (rZ G (qp r1 (qR rr qZ)) V [12,11,10,4,3,2,1] [103,102,101,50,0] fun G=>?_)))
  replace G:=G.ent (i:=12) (s':=.pv (.int .i64 ((i+1:Nat):Int))) rfl (.int (Zd ow))
  obtain ⟨F,G⟩:=G.nM [11,10,4,2,1,3,12] [101,0,50,102]
  exact ⟨((i+1),(es2),(ck2),_,(out2)),F,⟨by omega,hR2⟩,G,by omega⟩
 have hil:i=t.ops.length:=by simp at hc0;omega
 refine Yv (Zi (Zi (Zo (Za (Ya (rZ G (qR rr (qO rr qZ)) V [2] [102,101,50,0] fun G=>Yh ?_))))))
 obtain ⟨F,G⟩:=G.give 50 2 rfl rfl
 refine Zr hfr G rfl rfl rfl (.sl (by rw [hou,hil,Yz];rfl))
theorem ZpY (l:List Int) (v:Int):FnP prog 39 [.sl Zn l,.int .i64 v] (.int .i64 (ZaF v l)):=by
 refine FnP.mk func39 rfl ntmps39 rfl fun B a w F V hfr G=>?_
 have hll:=Sat.lenSl G (i:=0) rfl
 refine Ya (rZ G (qI qZ) V [4,1,0] [0] fun G=>(Ya (Ya ?_)))
 refine rZ G (qR rr (qu underlying45 r1 (qJ qZ))) V [8,7,4,1,0] [0] fun G=>Yg ?_
 refine Zk (σ:=(Nat)) [0,1,4,7] [0] (fun s=>[(8,.pv (.int .i64 (s:Int)))]) (fun s=>[]) (fun s=>s≤l.length∧(∀ k,k<s→Nn l k≠v)) (fun s=>l.length - s) (0) G ⟨rfl,rfl,rfl,rfl,rfl,tv⟩ ⟨rfl,tv⟩ ⟨Yx _,fun k hk=>absurd hk (Y1 k)⟩ ?_
 clear G;intro i a w F hC G
 try dsimp only at hC
 obtain ⟨F,G⟩:=G.nM [8,7,4,1,0] [0]
 try dsimp only at G
 obtain ⟨hi,hq⟩:=hC
 refine Ya (rZ G (qL r2) V [9,8,7,4,1,0] [0] fun G=>Ya ?_)
 refine Zc G rfl (fun hc0=>?_) (fun hc0=>?_)
 ·have hil:i<l.length:=by simp at hc0;omega
  refine Ye (Za (Ya (Yg (Ya (rZ G (qR rr (qO rr qZ)) V [8,7,5,4,1,0] [0] fun G=>Ya ?_)))))
  refine Ze G (qR rr (qR rr (qR rr (qy 1 underlying45 r2 (qf (oR false 1 .t) r1 qz (qf (o_eql .t .t) r2 qz qZ)))))) V [16,8,7,5,4,1,0] [0] rfl rfl fun a w F G=>?_
  try simp only [Yb] at G
  refine Za (Zc G rfl (fun hc1=>?_) (fun hc1=>?_))
  ·have hg:(i:Int)=ZaF v l:=(ZpF hil (by simp at hc1;omega) hq).symm
   refine Ya (rZ G (qR rr (qO rr qZ)) V [8,7,4,1,0] [0] fun G=>(Yh (Zz (Zl (Zl (Zz (Zl ?_)))))))
   refine Zr hfr G rfl rfl rfl (.int hg)
  have hne:Nn l i≠v:=by simp at hc1;omega
  refine Ye (Zh (Za (rZ G (qp r1 (qR rr qZ)) V [8,7,4,1,0] [0] fun G=>?_)))
  replace G:=G.ent (i:=8) (s':=.pv (.int .i64 ((i+1:Nat):Int))) rfl (.int (Zd ow))
  obtain ⟨F,G⟩:=G.nM [7,4,1,0,8] [0]
  exact ⟨(i+1),F,⟨by omega,(fun k hk=>by rcases YX (Y5 hk) with h | h;exact hq k h;rw [h];exact hne)⟩,G,by omega⟩
 have hil:i=l.length:=by simp at hc0;omega
 have hg : -1=ZaF v l:=(ZfN fun k hk=>hq k (by simp at hc0;omega)).symm
 refine Yv (Zi (Zi (Zo (Za (Ya (rZ G (qI qZ) V [4] [0] fun G=>Yh ?_))))))
 refine Zr hfr G rfl rfl rfl (.int hg)
theorem Zm9 (l:List Int) (v:Int):FnP prog 148 [.sl Zn l,.int .i64 v] (.bool (decide (v ∈ l))):=by
 refine FnP.mk func148 rfl ntmps148 rfl fun B a w F V hfr G=>Ya ?_
 refine rZ G qB V [4,1,0] [0] fun G=>Ya ?_
 refine rZ G (qR rr (qR rr (qf (oP (ZpY l v) func39 (Args.two .t .t)) r2 qz (qf (Zbp .t qi) r1 qz (qO rr qZ))))) V [4] [0] fun G=>Yh ?_
 refine Zr hfr G rfl rfl rfl (.bool (by rw [decide_eq_decide];exact ZrR))
theorem ZtS (x y:List Int):FnP prog 93 [.sl Zn x,.sl Zn y] (.bool (decide (x=y))):=by
 refine FnP.mk func93 rfl ntmps93 rfl fun B a w F V hfr G=>?_
 have hxl:=Sat.lenSl G (i:=0) rfl
 refine Ya (rZ G qB V [4,1,0] [0] fun G=>(Ya (Ya ?_)))
 refine rZ G (qR rr (qu underlying45 r1 (qR rr (qu underlying45 r1 (qf (o_neq .t .t) r2 qz qZ))))) V [10,4,1,0] [0] fun G=>?_
 refine Zc G rfl (fun hc0=>?_) (fun hc0=>?_)
 ·have hg:false=decide (x=y):=by
    rw [Yas,YK]
    intro h
    subst h
    simp at hc0
  refine Ya (rZ G qB V [4,1,0] [0] fun G=>(Yh (Zl ?_)))
  refine Zr hfr G rfl rfl rfl (.bool hg)
 have hl:x.length=y.length:=by simp at hc0;omega
 refine Ye (Za (Ya (Ya (rZ G (qR rr (qu underlying45 r1 (qJ qZ))) V [13,12,4,1,0] [0] fun G=>Yg ?_))))
 obtain ⟨F,G⟩:=G.nM [13,12,1,0] [0]
 refine Zbw (σ:=Nat) (fun s=>(⟨[(0,.pv (.sl Zn x)),(1,.pv (.sl Zn y)),(12,.pv (.int .i64 x.length)),(13,.pv (.int .i64 s))],[(0,frame B)]⟩:En)) (fun s=>s≤x.length ∧ ∀ j,j<s→Nn x j=Nn y j) (fun s=>x.length - s) 0 G ⟨Yx _,fun j hj=>absurd hj (Y1 j)⟩ ?_
 clear G;intro i a w F hC G
 try dsimp only at hC
 try dsimp only at G
 obtain ⟨hi,hq⟩:=hC
 refine Ya (rZ G (qL r2) V [14,13,12,1,0] [0] fun G=>Ya ?_)
 refine Zc G rfl (fun hc1=>?_) (fun hc1=>?_)
 ·have hil:i<x.length:=by simp at hc1;omega
  refine Ye (Za (Ya (Yg (Ya (rZ G (qR rr (qO rr qZ)) V [13,12,5,1,0] [0] fun G=>Ya ?_)))))
  refine Zv G (qR rr (qR rr (qy 1 underlying45 r2 (qf (oR false 1 .t) r1 qz (qR rr (qR rr (qy 1 underlying45 r2 (qf (oR false 1 .t) r1 qz (qf (o_neq .t .t) r2 qz qZ))))))))) V [24,13,12,1,0] [0] rfl rfl fun a w F G=>?_
  try dsimp only [List.map,xD,xE,xT,xU,ldSF] at G
  refine Za (Zc G rfl (fun hc2=>?_) (fun hc2=>?_))
  ·have hg:false=decide (x=y):=by
     rw [Yas,YK]
     intro h
     subst h
     simp at hc2
   refine Ya (rZ G qB V [13,12,4,1,0] [0] fun G=>(Yh (Zz (Zl (Zl (Zz (Zl ?_)))))))
   refine Zr hfr G rfl rfl rfl (.bool hg)
  rw [Yb] at hc2
  have hqi:Nn x i=Nn y i:=by simpa using hc2
  refine Ye (Zh (Za (rZ G (qp r1 (qR rr qZ)) V [13,12,1,0] [0] fun G=>?_)))
  replace G:=G.ent (i:=13) (s':=.pv (.int .i64 ((i+1:Nat):Int))) rfl (.int (Zd ow))
  obtain ⟨F,G⟩:=G.nM [13,12,1,0] [0]
  exact ⟨i+1,F,⟨by omega,fun j hj=>by rcases YX (Y5 hj) with h | h;exact hq j h;rw [h];exact hqi⟩,G,by omega⟩
 have hg:true=decide (x=y):=by
   rw [Yas,Yu]
   exact Za3 hl fun j hj=>hq j (by simp at hc1;omega)
 refine Yv (Zi (Zi (Zo (Za (Ya (rZ G qB V [4] [0] fun G=>Yh ?_))))))
 refine Zr hfr G rfl rfl rfl (.bool hg)
theorem ZuK (x y:List Int) (hx:x.length≤1000000) (hy:y.length≤1000000):FnP prog 47 [.sl Zn x,.sl Zn y] (.bool (decide (x.Perm y))):=by
 refine FnP.mk func47 rfl ntmps47 rfl fun B a w F V hfr G=>Ya ?_
 refine rZ G qB V [4,1,0] [0] fun G=>Ya ?_
 replace G:=G.fresh 101 rfl
 replace G:=G.fresh 102 rfl
 refine Zb G (qR rr (qf (Zaq 101 (Zfj x hx) func42 rfl kr (Args.one .t) pvOne1) r1 r1 (qR rr (qf (Zaq 102 (Zfj y hy) func42 rfl kr (Args.one .t) pvOne1) r1 r1 (qO rr (qO rr qZ)))))) V [6,5,4] [102,101,0] (fun _=>rfl) (fun _=>rfl) fun τ a w F G=>?_
 try dsimp only [RS.sub,SF.sub,CF.sub,csub,Anc.sub,List.map,Zn] at G
 generalize τ 8=v8 at G
 generalize τ 10=v10 at G
 refine Za (Ya (rZ G (qR rr (qf (Zbi 101 (Zjq _ x hx) func92 rfl kr (Args.one .t)) r1 r1 qZ)) V [6,5,4] [102,101,0] fun G=>Ya ?_))
 refine rZ G (qR rr (qf (Zbi 102 (Zjq _ y hy) func92 rfl kr (Args.one .t)) r1 r1 qZ)) V [6,5,4] [102,101,0] fun G=>Ya ?_
 refine rZ G (qR rr (qR rr (qf (OpC.lendRow 102 [16] (OpC.lendRow 101 [15] (oP (ZtS _ _) func93 (Args.two .t .t)) ⟨rfl,tv,tv⟩ (.pv (fun _ _ _ _ h=>h)) trivial (by rfl)) ⟨tv,rfl,tv⟩ (.pv (fun _ _ _ _ h=>h)) trivial (by rfl)) r2 r2 (qO rr qZ)))) V [4] [102,101,0] fun G=>Yh ?_
 refine Zr hfr G rfl rfl rfl (.bool (by rw [decide_eq_decide];exact ZpP))
def zeroT:TxD:=⟨0,false,[]⟩
def ZaW (l:List TxD):Prop:=l.length≤1000 ∧ ∀ t ∈ l,t.ops.length≤1000
def ZdB (l:List ZP):Prop:=l.length≤4000 ∧ ∀ o ∈ l,o.txs.length≤1000
def Zbs (h:Zw):Prop:=ZaW h.txs∧ZdB h.orders
theorem ZaW.at {l:List TxD} (h:ZaW l) {i:Nat} (hi:i<l.length):(Nn l i).ops.length≤1000:=h.2 _ (nth_mem hi)
theorem ZdB.at {l:List ZP} (h:ZdB l) {i:Nat} (hi:i<l.length):(Nn l i).txs.length≤1000:=h.2 _ (nth_mem hi)
def Z6 (l:List TxD) (id:Int):Option TxD:=l.find? fun t=>decide (t.id=id)
theorem Zqt {l:List TxD} {id:Int} {i:Nat} (hi:i<l.length) (h:(Nn l i).id=id) (hq:∀ k,k<i→(Nn l k).id≠id):Z6 l id=some (Nn l i):=by
 unfold Z6
 rw [List.find?_eq_some_iff_getElem]
 refine ⟨by simpa using h,i,hi,(nth_eq hi).symm,fun j hj=>?_⟩
 have:=hq j hj
 rw [nth_eq ow] at this
 simpa using this
theorem ZmI {l:List TxD} {id:Int} (hq:∀ k,k<l.length→(Nn l k).id≠id):Z6 l id=none:=by
 unfold Z6
 rw [Ybu]
 intro x hx
 obtain ⟨k,hk,e⟩:=Yaa hx
 have:=hq k hk
 rw [nth_eq hk,e] at this
 simpa using this
theorem findT_mem {l:List TxD} {id:Int} {t:TxD} (h:Z6 l id=some t):t ∈ l∧t.id=id:=⟨List.mem_of_find?_eq_some h,by have:=List.find?_some h;simpa using this⟩
def ZjR (h:Zw) (v:ZbT):Bool:=if v.tx=0∧v.nth=0 then decide (1≤v.key∧v.key≤1048575) else (Z6 h.txs v.tx).isSome && (decide (1≤v.nth) && decide (v.nth≤(wcnt ((Z6 h.txs v.tx).getD zeroT).ops v.key:Int)))
def Zg9 (h:Zw) (t:TxD):Bool:=(Zbn t).all (ZjR h)
def Z7 (t:TxD):List Int:=Zbq ((t.ops.filter fun o=>!o.read).map OpD.key)
theorem Zc7 {t:TxD} {k:Int} : k ∈ Z7 t ↔ 0<wcnt t.ops k:=by
 unfold Z7
 rw [(ZX _).2,Yw]
 unfold wcnt
 rw [List.length_pos_iff_exists_mem]
 constructor
 ·rintro ⟨o,ho,e⟩
  rw [YT] at ho
  exact ⟨o,by rw [YT];exact ⟨ho.1,by simp [e];simpa using ho.2⟩⟩
 ·rintro ⟨o,ho⟩
  rw [YT] at ho
  simp at ho
  exact ⟨o,by rw [YT];simp [ho.1,ho.2.1],ho.2.2⟩
theorem Zea (t:TxD):(Z7 t).length≤t.ops.length:=Y0 (Zf0 _) (by rw [YH];exact Y6 _ _)
def Z5 (l:List TxD) (k:Int):List Int:=(l.filter fun t=>t.done && decide (0<wcnt t.ops k)).map TxD.id
theorem ZeO (l:List TxD) (k:Int):(Z5 l k).length≤l.length:=by unfold Z5;rw [YH];exact Y6 _ _
theorem Zek {l:List TxD} {i:Nat} (hi:i<l.length) (k:Int):Z5 (l.take (i+1)) k=Z5 (l.take i) k++if (Nn l i).done=true∧0<wcnt (Nn l i).ops k then [(Nn l i).id] else []:=by
 unfold Z5
 rw [Zp hi,Yai,YP]
 congr 1
 by_cases h:(Nn l i).done=true∧0<wcnt (Nn l i).ops k
 ·rw [Yf h,Yae (by simp [h.1,h.2])];rfl
 ·rw [Yc h,Yag (by simp;intro e;exact Nat.eq_zero_of_not_pos fun e2=>h ⟨e,e2⟩)];rfl
def ZcA (l:List TxD):List Int:=Zbq ((l.filter fun t=>t.done).flatMap Z7)
theorem ZqE {l:List TxD} (h:ZaW l) (i:Nat):(ZcA (l.take i)).length≤1000*i:=by
 unfold ZcA
 refine Y0 (Zf0 _) ?_
 have key:∀ l:List TxD,(∀ t ∈ l,t.ops.length≤1000)→((l.filter fun t=>t.done).flatMap Z7).length≤1000*l.length:=by
  intro l
  induction l with
  | nil=>intro _;simp
  | cons t l ih=>
   intro h
   have h1:=ih fun x hx=>h x (by simp [hx])
   have h2:=h t (by simp)
   have h3:=Zea t
   by_cases hd:t.done=true
   ·rw [Yae (by simpa using hd),Y4,Yd,Yl]
    omega
   ·rw [Yag (by simpa using hd),Yl]
    omega
 have h1:=key (l.take i) fun t ht=>h.2 t (YaM ht)
 have h2:(l.take i).length≤i:=by rw [Yi];omega
 exact Y0 h1 (Ybk _ h2)
theorem Zn5 {l:List TxD} (h:ZaW l):(ZcA l).length≤1000000:=by
 have h1:=ZqE h l.length
 rw [Yz] at h1
 have:=h.1
 omega
theorem Zc1 {l:List TxD} {k:Int} : k ∈ ZcA l ↔ Z5 l k≠[]:=by
 unfold ZcA
 rw [(ZX _).2,YaP]
 unfold Z5
 rw [ne_eq,List.map_eq_nil_iff,Ybl]
 constructor
 ·rintro ⟨t,ht,hk⟩ hn
  rw [YT] at ht
  have:=hn t ht.1
  simp [ht.2] at this
  have:=Zc7.1 hk
  simp_all
 ·intro hn
  simp only [Classical.not_forall] at hn
  obtain ⟨t,ht,h2⟩:=hn
  simp at h2
  exact ⟨t,by rw [YT];exact ⟨ht,by simpa using h2.1⟩,Zc7.2 (Nat.pos_of_ne_zero h2.2)⟩
def Znj (h:Zw) (i:Nat):Prop:=(0<i→(Nn h.txs (i - 1)).id<(Nn h.txs i).id)∧Zbo (Nn h.txs i)=0∧Zg9 h (Nn h.txs i)=true
instance (h:Zw) (i:Nat):Decidable (Znj h i):=by unfold Znj;exact inferInstance
def Zse (h:Zw) (i:Nat):Prop:=(Nn h.orders i).key=Nn (ZcA h.txs) i∧(Nn h.orders i).txs.Perm (Z5 h.txs (Nn h.orders i).key)
instance (h:Zw) (i:Nat):Decidable (Zse h i):=by unfold Zse;exact inferInstance
def ZT (h:Zw):Prop:=h.txs.length≤4096∧(∀ i,i<h.txs.length→Znj h i)∧h.orders.length=(ZcA h.txs).length ∧ ∀ i,i<h.orders.length→Zse h i
instance (h:Zw):Decidable (ZT h):=by unfold ZT;exact inferInstance
def Zfs (h:Zw) (i:Nat):Prop:=(0<i→(Nn h.orders (i - 1)).key<(Nn h.orders i).key)∧(Nn h.orders i).txs≠[]∧(Nn h.orders i).txs.Perm (Z5 h.txs (Nn h.orders i).key)
theorem ZfH:∀ {l:List Int},(∀ i,i<l.length→0<i→Nn l (i - 1)<Nn l i)→Zdz l
 | [],_=>List.Pairwise.nil
 | [x],_=>by simp
 | x :: y :: l,h=>by
  have ih:=ZfH (l:=y :: l) fun i hi h0=>by
   have:=h (i+1) (by simpa using hi) ow
   obtain ⟨j,rfl⟩:∃ j,i=j+1:=⟨i - 1,by omega⟩
   have hj:j<l.length:=by simpa using hi
   rw [nth_eq (l:=x :: y :: l) (by simp;omega),nth_eq (l:=x :: y :: l) (by simp;omega)] at this
   rw [nth_eq (l:=y :: l) (by simp;omega),nth_eq (l:=y :: l) (by simp;omega)]
   exact this
  have h1:=h 1 (by simp) ow
  rw [nth_eq (by simp),nth_eq (by simp)] at h1
  simp at h1
  have ih2:=Yo.1 ih
  refine Yo.2 ⟨fun z hz=>?_,ih⟩
  rcases Yk.1 hz with rfl | hz
  ·exact h1
  ·have:=ih2.1 z hz;omega
theorem ZtH {l:List Int} (h:Zdz l) {i:Nat} (hi:i<l.length) (h0:0<i):Nn l (i - 1)<Nn l i:=by
 rw [nth_eq hi,nth_eq ow]
 exact YaL.1 h (i - 1) i ow hi ow
theorem Zkm:∀ {b a:List Int},Zdz a→Zdz b→(∀ x ∈ a,x ∈ b)→a.length≤b.length∧(a.length=b.length→a=b)
 | [],a,_,_,h=>by
  have:a = []:=List.eq_nil_iff_forall_not_mem.2 fun x hx=>by cases h x hx
  subst this;simp
 | y :: b,[],_,_,_=>⟨by simp,fun h=>by simp at h⟩
 | y :: b,x :: a,ha,hb,h=>by
  have ha':=Yo.1 ha
  have hb':=Yo.1 hb
  by_cases e:x=y
  ·subst e
   have ih:=Zkm (b:=b) (a:=a) ha'.2 hb'.2 fun z hz=>by
    rcases Yk.1 (h z (by simp [hz])) with e | e
    ·have:=ha'.1 z hz;omega
    ·exact e
   exact ⟨by simp;exact ih.1,fun hl=>by rw [ih.2 (by simpa using hl)]⟩
  ·have hx:y<x:=by
    rcases Yk.1 (h x (by simp)) with e2 | e2
    ·exact absurd e2 e
    ·exact hb'.1 x e2
   have ih:=Zkm (b:=b) (a:=x :: a) ha hb'.2 fun z hz=>by
    rcases Yk.1 (h z hz) with e2 | e2
    ·rcases Yk.1 hz with e3 | e3
     ·omega
     ·have:=ha'.1 z e3;omega
    ·exact e2
   exact ⟨by have:=ih.1;simp at this ⊢;omega,fun hl=>by have:=ih.1;simp at this hl;omega⟩
theorem ZcL {α β:Type} [Inhabited α] [Inhabited β] {f:α→β} {l:List α} {i:Nat} (h:i<l.length):Nn (l.map f) i=f (Nn l i):=by
 rw [nth_eq (by simpa using h),nth_eq h];simp
theorem Zdo (h:Zw):(h.orders.length=(ZcA h.txs).length ∧ ∀ i,i<h.orders.length→Zfs h i) ↔ (h.orders.length=(ZcA h.txs).length ∧ ∀ i,i<h.orders.length→Zse h i):=by
 have hK:Zdz (ZcA h.txs):=(ZX _).1
 constructor
 ·rintro ⟨hl,hq⟩
  refine ⟨hl,?_⟩
  have hO:Zdz (h.orders.map ZP.key):=ZfH fun i hi h0=>by
   have hi':i<h.orders.length:=by simpa using hi
   rw [ZcL ow,ZcL hi']
   exact (hq i hi').1 h0
  have hsub:∀ x ∈ h.orders.map ZP.key,x ∈ ZcA h.txs:=fun x hx=>by
   obtain ⟨o,ho,rfl⟩:=Yw.1 hx
   obtain ⟨k,hk,e⟩:=Yaa ho
   have:=hq k hk
   unfold Zfs at this
   rw [nth_eq hk,e] at this
   rw [Zc1]
   intro e2
   rw [e2] at this
   exact this.2.1 (List.Perm.eq_nil this.2.2)
  have he:=(Zkm hO hK hsub).2 (by simpa using hl)
  intro i hi
  refine ⟨?_,(hq i hi).2.2⟩
  rw [← he,ZcL hi]
 ·rintro ⟨hl,hq⟩
  refine ⟨hl,fun i hi=>?_⟩
  have hin:(Nn h.orders i).key ∈ ZcA h.txs:=by rw [(hq i hi).1];exact nth_mem ow
  refine ⟨fun h0=>?_,fun e=>?_,(hq i hi).2⟩
  ·rw [(hq i hi).1,(hq (i - 1) ow).1]
   exact ZtH hK ow h0
  ·have:=(hq i hi).2
   rw [e] at this
   exact Zc1.1 hin this.symm.eq_nil
theorem ZgB {h:Zw} (hb:4096<h.txs.length):false=decide (ZT h):=(YB fun hr=>by have:=hr.1;omega).symm
theorem Zjh {h:Zw} {i:Nat} (hi:i<h.txs.length) (hb:¬ Znj h i):false=decide (ZT h):=(YB fun hr=>hb (hr.2.1 i hi)).symm
theorem Zht {h:Zw} (hb:h.orders.length≠(ZcA h.txs).length):false=decide (ZT h):=(YB fun hr=>hb hr.2.2.1).symm
theorem ZgH {h:Zw} {i:Nat} (hi:i<h.orders.length) (hb:¬ Zfs h i):false=decide (ZT h):=(YB fun hr=>hb (((Zdo h).2 hr.2.2).2 i hi)).symm
theorem Zkj {h:Zw} (h1:h.txs.length≤4096) (h2:∀ i,i<h.txs.length→Znj h i) (h3:h.orders.length=(ZcA h.txs).length) (h4:∀ i,i<h.orders.length→Zfs h i):true=decide (ZT h):=(Yac ⟨h1,h2,(Zdo h).1 ⟨h3,h4⟩⟩).symm
def Zs4 (l:List Int):Option (List Int):=if l = [] then none else some l
theorem ZlE (l:List Int):(Zs4 l).getD [] = l:=by
 unfold Zs4
 split
 ·rename_i h;rw [h];rfl
 ·rfl
def WrL (es:List (GE Int (List Int))) (l:List TxD):Prop:=GNd es ∧ ∀ k,gGet k es=Zs4 (Z5 l k)
def WrV (es:List (GE Int (Value×List Int))) (l:List TxD) (id:Int) (ks:List Int):Prop:=GNd es ∧ ∀ k,(gGet k es).map (·.2)=Zs4 (Z5 l k++if k ∈ ks then [id] else [])
theorem Zs1 {id:Int} : WrV [] [] id []:=⟨by simp [GNd],fun k=>by simp [gGet,Z5,Zs4]⟩
theorem ZrY {es:List (GE Int (Value×List Int))} {l:List TxD} {id:Int} (h:WrV es l id []):WrL (ZeQ es) l:=⟨by unfold GNd;rw [Zkc];exact h.1,fun k=>by rw [ZgL,h.2];simp⟩
theorem Zsc {es:List (GE Int (Value×List Int))} {l:List TxD} {id id':Int} (h:WrV es l id []):WrV es l id' []:=⟨h.1,fun k=>by rw [h.2];simp⟩
theorem Zul {es:List (GE Int (Value×List Int))} {l:List TxD} {i:Nat} {id:Int} (h:WrV es (l.take i) id []) (hi:i<l.length) (hd:(Nn l i).done=false):WrV es (l.take (i+1)) id []:=⟨h.1,fun k=>by rw [h.2,Zek hi];simp [hd]⟩
theorem Zt9 {es:List (GE Int (Value×List Int))} {l:List TxD} {i:Nat} {id:Int} (h:WrV es (l.take i) (Nn l i).id (Z7 (Nn l i))) (hi:i<l.length) (hd:(Nn l i).done=true):WrV es (l.take (i+1)) id []:=⟨h.1,fun k=>by
 rw [h.2,Zek hi]
 congr 1
 simp only [YbS,Yp,YQ]
 congr 1
 by_cases hk:k ∈ Z7 (Nn l i)
 ·rw [Yf hk,Yf ⟨hd,Zc7.1 hk⟩]
 ·rw [Yc hk,Yc fun h9=>hk (Zc7.2 h9.2)]⟩
theorem Zsq {es:List (GE Int (Value×List Int))} {l:List TxD} {id:Int} {ks:List Int} {j:Nat} (h:WrV es l id (ks.take j)) (hn:ks.Nodup) (hj:j<ks.length):((gGet (Nn ks j) es).getD Zh8).2=Z5 l (Nn ks j):=by
 have h1:=h.2 (Nn ks j)
 have hni:Nn ks j ∉ ks.take j:=fun hm=>by
  rw [nth_eq hj] at hm
  obtain ⟨k,hk,e⟩:=Yaa hm
  rw [Yi] at hk
  rw [List.getElem_take] at e
  have h3:=YaL.1 hn k j ow hj ow
  exact h3 e
 rw [Yc hni,YQ] at h1
 have h2:=ZlE (Z5 l (Nn ks j))
 rw [← h1] at h2
 rw [← h2]
 cases gGet (Nn ks j) es <;> rfl
theorem Ztx {es:List (GE Int (Value×List Int))} {l:List TxD} {id:Int} {ks:List Int} {j ck:Nat} {v:Value} (h:WrV es l id (ks.take j)) (hn:ks.Nodup) (hj:j<ks.length):WrV (gPut (Nn ks j) (v,((gGet (Nn ks j) es).getD Zh8).2 ++ [id]) (es,ck)).1 l id (ks.take (j+1)):=⟨GNd.put h.1,fun k=>by
 rw [Zdm,Zsq h hn hj,Zp hj]
 by_cases e:k=Nn ks j
 ·subst e
  rw [Yf rfl,Yf (by simp)]
  simp [Zs4]
 ·rw [Yc e,h.2]
  simp [e]⟩
theorem Zvi {es:List (GE Int (List Int))} {l:List TxD} (h:WrL es l) (k:Int):(gGet k es).getD [] = Z5 l k:=by rw [h.2,ZlE]
theorem ZuI {es:List (GE Int (List Int))} {l:List TxD} (h:WrL es l):es.length=(ZcA l).length:=by
 have h1:(es.map (·.key)).Perm (ZcA l):=by
  refine (List.perm_ext_iff_of_nodup h.1 ((ZX _).1.imp fun h=>Int.ne_of_lt h)).2 fun k=>?_
  rw [← Zfd,h.2,show (k ∈ Zbq ((l.filter fun t=>t.done).flatMap Z7)) ↔ Z5 l k≠[] from Zc1]
  unfold Zs4
  split <;> simp_all
 simpa using h1.length_eq
theorem Zgg (t:TxD):(Z7 t).Nodup:=(ZX _).1.imp fun h=>Int.ne_of_lt h
theorem Zip {α:Type} {R:α→List PV} {w:World} {y:Ys} : (PV.sl R ([]:List α)).p (.slice none 0 0) w y:=⟨none,0,rfl,YN _,by unfold maxLen;omega,.inl rfl⟩
theorem ZlL (t:TxD) (hl:t.ops.length≤1000000):FnP prog 62 [.agg (rTx t)] (.agg (rTx t)):=by
 refine FnP.mk func62 rfl ntmps62 rfl fun B a w F V hfr G=>Ya ?_
 refine Zb G (qx 101 r1 (qf (oH [.int .i64 0,.bool false,.slice none 0 0] 102) trivial qz qZ)) V [2,1] [102,101,0] (fun _=>rfl) (fun _=>rfl) fun τ a w F G=>?_
 try dsimp only [RS.sub,SF.sub,CF.sub,csub,Anc.sub,List.map,zCF,Zx,rTx,ZJ,ZW,Zn,rOp] at G
 generalize τ 1=v1 at G
 generalize τ 2=v2 at G
 refine Za (Ya ?_)
 replace G:=G.fresh 103 rfl
 refine Zb G (qg 2 101 r1 r1 (qa 101 r1 r1 (qf (Zaq 103 (Zqo t.ops hl) func102 rfl kr (Args.one .t) pvOne1) r1 r1 (qg 2 101 r1 r1 (qf (o_storeS 101 .adr kr kr) r2 r1 qZ))))) V [2,1] [103,102,101,0] (fun _=>rfl) (fun _=>rfl) fun τ a w F G=>?_
 try dsimp only [RS.sub,SF.sub,CF.sub,csub,Anc.sub,List.map,Zf,xL,xM,Nat.reduceAdd,xD,xE,xT,xU,xC,xN,zCF,ldSF,Zx,rTx,ZJ,ZW,Zn,rOp] at G
 generalize τ 5=v5 at G
 obtain ⟨F,G⟩:=G.giveCell 103 101 2 rfl rfl rfl rfl rfl
 try dsimp only [List.set] at G
 obtain ⟨F,G⟩:=G.nM [2,1] [102,101,0]
 refine Za (Ya (rZ G (qe 3 101 r1 r1 (qs 3 102 r2 r1 qZ)) V [2] [102,101,0] fun G=>Yh ?_))
 refine Zab hfr G rfl (.cl 102 true 3 rfl rfl .nil) (.one (.aggU rfl rfl))
theorem ZsB (g:Zw) (id:Int) (hs:ZaW g.txs):FnP prog 28 [.agg (Zx g),.int .i64 id] (.tup [.agg (rTx ((Z6 g.txs id).getD zeroT)),.bool (Z6 g.txs id).isSome]):=by
 refine FnP.mk func28 rfl ntmps28 rfl fun B a w F V hfr G=>?_
 have hsl:=hs.1
 refine Ya (Zb G (qx 101 r1 (qf (oH [.int .i64 0,.bool false,.slice none 0 0] 102) trivial qz qB)) V [5,4,2,1] [102,101,0] (fun _=>rfl) (fun _=>rfl) fun τ a w F G=>?_)
 try dsimp only [RS.sub,SF.sub,CF.sub,csub,Anc.sub,List.map,zCF,Zx,rTx,ZJ,ZW,Zn,rOp] at G
 generalize τ 2=v2 at G
 generalize τ 4=v4 at G
 refine Za (Ya (Ya (rZ G (qg 0 101 r1 r1 (qa 101 r1 r1 (qu underlying22 r1 (qJ qZ)))) V [11,10,9,5,4,1] [102,101,0] fun G=>Yg ?_)))
 refine Zk (σ:=(Nat)) [1,4,5,9,10] [0,101,102] (fun s=>[(11,.pv (.int .i64 (s:Int)))]) (fun s=>[]) (fun s=>s≤g.txs.length∧(∀ k,k<s→(Nn g.txs k).id≠id)) (fun s=>g.txs.length - s) (0) G ⟨rfl,rfl,rfl,rfl,rfl,rfl,tv⟩ ⟨rfl,rfl,rfl,tv⟩ ⟨Yx _,fun k hk=>absurd hk (Y1 k)⟩ ?_
 clear G;intro i a w F hC G
 try dsimp only at hC
 obtain ⟨F,G⟩:=G.nM [11,10,9,5,4,1] [102,101,0]
 try dsimp only at G
 obtain ⟨hi,hq⟩:=hC
 refine Ya (rZ G (qL r2) V [12,11,10,9,5,4,1] [102,101,0] fun G=>Ya ?_)
 refine Zc G rfl (fun hc0=>?_) (fun hc0=>?_)
 ·have hil:i<g.txs.length:=by simp at hc0;omega
  refine Ye (Za (Ya (Yg (Ya (Zb G (qy 3 underlying22 r2 (qf (oR true 3 .t) r1 qz (qf (oH [.int .i64 0,.bool false,.slice none 0 0] 103) trivial qz (qS 3 103 r2 r1 qZ)))) V [11,10,9,7,5,4,1] [103,102,101,0] (fun _=>rfl) (fun _=>rfl) fun τ a w F G=>?_)))))
  try dsimp only [RS.sub,SF.sub,CF.sub,csub,Anc.sub,List.map,Zf,xL,xM,Nat.reduceAdd,xD,xE,xT,xU,xC,xN,zCF,ldSF,Zx,rTx,ZJ,ZW,Zn,rOp] at G
  generalize τ 7=v7 at G
  try simp only [Yb] at G
  refine Za (Ya (rZ G (qg 0 103 r1 r1 (qa 103 r1 r1 (qR rr (qf (o_eql .t .t) r2 qz qZ)))) V [18,11,10,9,7,5,4,1] [103,102,101,0] fun G=>?_))
  refine Zc G rfl (fun hc1=>?_) (fun hc1=>?_)
  ·have hg:Z6 g.txs id=some (Nn g.txs i):=Zqt hil (by simpa using hc1) hq
   refine Ya (rZ G (qe 3 103 r1 r1 (qf (oP (ZlL (Nn g.txs i) (by have:=hs.at hil;omega)) func62 (Args.one (.pagg .t))) r1 qz (qf (oA 3 102 .is (.conv .t .agg)) r2 r1 qB))) V [11,10,9,5,4,1] [103,102,101,0] fun G=>(Yh (Zz (Zl (Zl (Zz (Zl ?_)))))))
   refine Zab hfr G rfl (.cl 102 true 3 rfl rfl (.tmp rfl .nil)) (.two (by rw [hg];first | exact .aggU rfl rfl | exact .aggLe rfl ⟨.refl,.refl,.nilSl,tv⟩) (.bool (by rw [hg];rfl)))
  have hne:(Nn g.txs i).id≠id:=by simpa using hc1
  refine Ye (Zh (Za (rZ G (qp r1 (qR rr qZ)) V [11,10,9,5,4,1] [103,102,101,0] fun G=>?_)))
  replace G:=G.ent (i:=11) (s':=.pv (.int .i64 ((i+1:Nat):Int))) rfl (.int (Zd ow))
  obtain ⟨F,G⟩:=G.nM [10,9,5,4,1,11] [102,101,0]
  exact ⟨(i+1),F,⟨by omega,(fun k hk=>by rcases YX (Y5 hk) with h9 | h9;exact hq k h9;rw [h9];exact hne)⟩,G,by omega⟩
 have hil:i=g.txs.length:=by simp at hc0;omega
 have hg:Z6 g.txs id=none:=ZmI (by rw [← hil];exact hq)
 refine Yv (Zi (Zi (Zo (Za (Ya (rZ G (qf (oB [] [.int .i64 0,.bool false,.slice none 0 0] [(0,1),(1,1),(2,1)] .nil) trivial qz (qs 3 102 r2 r1 qB)) V [5,4] [102,101,0] fun G=>Yh ?_))))))
 refine Zab hfr G rfl (.cl 102 true 3 rfl rfl (.tmp rfl .nil)) (.two (by rw [hg];first | exact .aggU rfl rfl | exact .aggLe rfl ⟨.refl,.refl,.nilSl,tv⟩) (.bool (by rw [hg];rfl)))
theorem ZvL (g:Zw) (v:ZbT) (hs:ZaW g.txs):FnP prog 90 [.agg (Zx g),.agg (ZW v)] (.bool (ZjR g v)):=by
 refine FnP.mk func90 rfl ntmps90 rfl fun B a w F V hfr G=>Ya ?_
 refine Zb G (qx 101 r1 (qx 102 r1 qB)) V [4,3,2] [102,101,0] (fun _=>rfl) (fun _=>rfl) fun τ a w F G=>?_
 try dsimp only [RS.sub,SF.sub,CF.sub,csub,Anc.sub,List.map,zCF,Zx,rTx,ZJ,ZW,Zn,rOp] at G
 generalize τ 2=v2 at G
 generalize τ 3=v3 at G
 refine Za (Ya (Ya (rZ G (qg 0 102 r1 r1 (qa 102 r1 r1 (qf (o_eql .t qi) r1 qz (qR rr (qv 2 102 rfl r2 r1 (qw 102 rfl r2 r1 (qk rfl (fun h=>o_eql (.w h) qi) r2 qz (qf (ZE .t .t) r2 qz qZ)))))))) V [14,4,3,2] [102,101,0] fun G=>?_)))
 refine Zc G rfl (fun hc0=>?_) (fun hc0=>?_)
 ·have h0:(v.tx=0∧v.nth=0):=by simpa using hc0
  have hu:ZjR g v=decide (1≤v.key∧v.key≤1048575):=by unfold ZjR;rw [Yf h0]
  refine Ya (rZ G (qg 1 102 r1 r1 (qa 102 r1 r1 (qf (Zbp .t qi) r1 qz (qR rr (qv 1 102 rfl r2 r1 (qw 102 rfl r2 r1 (qk rfl (fun h=>ZkF (.w h) qi) r2 qz (qf (ZE .t .t) r2 qz (qO rr qZ))))))))) V [4,3,2] [102,101,0] fun G=>(Yh (Zl ?_)))
  refine Zr hfr G rfl rfl rfl (.bool (by first | (rw [hu,Yb0];done) | (rw [hu];unfold idB;rw [Yb0];done) | (unfold ZjR wcnt;rw [Yc h0,Bool.and_assoc])))
 have h0:¬ (v.tx=0∧v.nth=0):=by simpa using hc0
 have hfl:((Z6 g.txs v.tx).getD zeroT).ops.length≤1000:=by cases hf:Z6 g.txs v.tx with | none=>simp [zeroT] | some t=>exact hs.2 _ (findT_mem hf).1
 refine Ye (Za (Ya (Zb G (qe 2 101 r1 r1 (qg 0 102 r1 r1 (qa 102 r1 r1 (qf (oP (ZsB g v.tx hs) func28 (Args.two (.pagg .t) .t)) r2 qz (qR rr (qf (Zj .t rfl) r1 qz (qf (Zj .t rfl) r1 qz (qf (oH [.int .i64 0,.bool false,.slice none 0 0] 103) trivial qz (qf (oA 3 103 .same (.conv .t .agg)) r2 r1 (qO rr qZ)))))))))) V [6,5,4,3] [103,102,101,0] (fun _=>rfl) (fun _=>rfl) fun τ a w F G=>?_)))
 try dsimp only [RS.sub,SF.sub,CF.sub,csub,Anc.sub,List.map,Zf,xL,xM,Nat.reduceAdd,xD,xE,xT,xU,xC,xN,zCF,ldSF,Zx,rTx,ZJ,ZW,Zn,rOp] at G
 generalize τ 5=v5 at G
 refine Za (Ya (Zv G (qR rr (qR rr (qv 2 102 rfl r2 r1 (qw 102 rfl r2 r1 (qk rfl (fun h=>Zbp (.w h) qi) r2 qz (qf (ZE .t .t) r2 qz (qR rr (qk rfl (fun h=>oL true 3 103 .is) r2 r1 (qv 1 102 rfl r2 r1 (qw 102 rfl r2 r1 (qk rfl (fun h=>oP (Zdf ((Z6 g.txs v.tx).getD zeroT) v.key ow) func29 (Args.two (.pagg (.w h)) (.w h))) r3 qz (qv 2 102 rfl r2 r1 (qw 102 rfl r2 r1 (qk rfl (fun h=>Zbp (.w h) (.w h)) r3 qz (qf (ZE .t .t) r2 qz (qO rr qZ)))))))))))))))) V [4] [103,102,101,0] rfl rfl fun a w F G=>?_))
 try dsimp only [List.map,xD,xE,xT,xU,ldSF,Zx,rTx,ZJ,ZW,Zn,rOp] at G
 refine Za (Yh (Zr hfr G rfl rfl rfl (.bool (by first | (rw [hu,Yb0];done) | (rw [hu];unfold idB;rw [Yb0];done) | (unfold ZjR wcnt;rw [Yc h0,Bool.and_assoc])))))
end Go.Proofs.YtlkpllemoepamaaGreat
