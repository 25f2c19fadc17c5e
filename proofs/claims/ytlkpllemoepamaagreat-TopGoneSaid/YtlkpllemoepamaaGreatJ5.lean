/- Texts put together. No condition beyond those that each theorem says. -/
import Derived.Test.YtlkpllemoepamaaGreatJ4
import Derived.Test.YtlkpllemoepamaaGreatJ3
import Derived.Test.YtlkpllemoepamaaGreatJ0
import Derived.Deep.QuietTactic
import Derived.BigQuiet
import Derived.Shelf.SlSortCmp.WholeK
import Derived.Sort.LotA
import Derived.Test.YtlkpllemoepamaaGreatJ2
import Derived.Test.YtlkpllemoepamaaGreatJ1
import Derived.Test.YtlkpllemoepamaaGreatLibW
import Derived.Laws.BitsLemmas
import Derived.Test.YtlkpllemoepamaaGreatLibL
namespace Go.Proofs.YtlkpllemoepamaaGreat
open Go Go.Gm Tryz
set_option linter.unusedVariables false
set_option linter.unusedSimpArgs false
set_option maxHeartbeats 4000000
set_option maxRecDepth 8000
theorem Zl8 {l:List Z9} {e:Z9} (h:ZcR Za2 l) (hk:isK Za2 (Za2 e) l=false):ZcR Za2 (insE l e)∧(∀ s,s ∈ insE l e ↔ s ∈ l∨s=e)∧(insE l e).length=l.length+1:=by
 have hm:∀ s,s ∈ insE l e ↔ s ∈ l∨s=e:=fun s=>by
  unfold insE
  rw [YD,YD,Yj]
  constructor
  ·rintro ((h1 | h1) | h1)
   ·exact .inl (YaM h1)
   ·exact .inr h1
   ·exact .inl (YbO h1)
  ·rintro (h1 | h1)
   ·rw [← YaX (Zbt Za2 (Za2 e) l) l,YD] at h1
    rcases h1 with h1 | h1
    ·exact .inl (.inl h1)
    ·exact .inr h1
   ·exact .inl (.inr h1)
 refine ⟨?_,hm,?_⟩
 ·unfold insE
  rw [← Zpw (ZU.1 h) hk]
  exact ZU.2 (ZmZ (ZU.1 h))
 ·have:=Zkb (κ:=Za2) (k:=Za2 e) l
  unfold insE
  simp only [Yd,Yi,YE,YM]
  omega
def Zsj (L:List (List Z9)) (m:Nat):Prop:=∀ l ∈ L,l.length≤m∧ZcR Za2 l ∧ ∀ e ∈ l,okE e
theorem Zsj.r {L:List (List Z9)} {m:Nat} (h:Zsj L m) (hm:m≤1000000):Zvu L:=fun l hl=>⟨Y0 (h l hl).1 hm,(h l hl).2⟩
theorem Zsj.set {L:List (List Z9)} {m k:Nat} {e:Z9} (h:Zsj L m) (hk:k<L.length) (he:okE e) (hn:isK Za2 (Za2 e) (Nn L k)=false):Zsj (L.set k (insE (Nn L k) e)) (m+1):=fun l hl=>by
 rcases List.mem_or_eq_of_mem_set hl with h1 | rfl
 ·exact ⟨Nat.le_succ_of_le (h l h1).1,(h l h1).2⟩
 ·obtain ⟨a1,a2,a3⟩:=h _ (nth_mem hk)
  obtain ⟨b1,b2,b3⟩:=Zl8 a2 hn
  exact ⟨by omega,b1,fun s hs=>((b2 s).1 hs).elim (a3 s) fun h9=>h9 ▸ he⟩
theorem Zo6 {l:List Z9} {e:Z9} (hl:∀ s ∈ l,okE s) (he:okE e):isK Za2 (Za2 e) l=true ↔ e ∈ l:=by
 unfold isK
 rw [Yay]
 constructor
 ·rintro ⟨s,h1,h2⟩;exact keyE_inj (hl s h1) he (Yq h2) ▸ h1
 ·exact fun h=>⟨e,h,Yac rfl⟩
structure ZbS (n:Nat) (E:List Zy) (O I:List (List Z9)):Prop where
 ol:O.length=n
 il:I.length=n
 on:Zsj O E.length
 inn:Zsj I E.length
 ok:∀ x ∈ E,ZaG n x=true
 om:∀ u:Nat,u<n → ∀ e,e ∈ Nn O u ↔ ∃ x ∈ E,x.src=(u:Int)∧endO x=e
 im:∀ u:Nat,u<n → ∀ e,e ∈ Nn I u ↔ ∃ x ∈ E,x.dst=(u:Int)∧endI x=e
theorem ZbS.outK {n:Nat} {E:List Zy} {O I:List (List Z9)} {x:Zy} (h:ZbS n E O I) (hn:n≤4096) (hx:ZaG n x=true):isK Za2 (Za2 (endO x)) (Nn O x.src.toNat)=true ↔ x ∈ E:=by
 obtain ⟨⟨s1,s2⟩,⟨d1,d2⟩,_⟩:=ZQ.1 hx
 have hu:x.src.toNat<n:=by omega
 rw [Zo6 (h.on _ (nth_mem (by rw [h.ol];exact hu))).2.2 (endO_ok hx hn),h.om _ hu]
 constructor
 ·rintro ⟨y,y1,y2,y3⟩
  have e:y=x:=by
   cases y;cases x
   simp only [endO,Z9.mk.injEq] at y3
   simp only at y2 s1
   obtain ⟨a,b,c⟩:=y3
   rw [Yax s1] at y2
   subst a;subst b;subst c;subst y2;rfl
  exact e ▸ y1
 ·exact fun k=>⟨x,k,by rw [Yax s1],rfl⟩
theorem ZbS.has {n:Nat} {E:List Zy} {O I:List (List Z9)} {x:Zy} (h:ZbS n E O I) (hn:n≤4096):Zqa O x=true ↔ ZaG n x=true∧x ∈ E:=by
 unfold Zqa
 rw [h.ol,Yr]
 exact ⟨fun k=>⟨k.1,(h.outK hn k.1).1 k.2⟩,fun k=>⟨k.1,(h.outK hn k.1).2 k.2⟩⟩
theorem ZbS.inK {n:Nat} {E:List Zy} {O I:List (List Z9)} {x:Zy} (h:ZbS n E O I) (hn:n≤4096) (hx:ZaG n x=true):isK Za2 (Za2 (endI x)) (Nn I x.dst.toNat)=true ↔ x ∈ E:=by
 obtain ⟨⟨s1,s2⟩,⟨d1,d2⟩,_⟩:=ZQ.1 hx
 have hu:x.dst.toNat<n:=by omega
 rw [Zo6 (h.inn _ (nth_mem (by rw [h.il];exact hu))).2.2 (endI_ok hx hn),h.im _ hu]
 constructor
 ·rintro ⟨y,y1,y2,y3⟩
  have e:y=x:=by
   cases y;cases x
   simp only [endI,Z9.mk.injEq] at y3
   simp only at y2 d1
   obtain ⟨a,b,c⟩:=y3
   rw [Yax d1] at y2
   subst a;subst b;subst c;subst y2;rfl
  exact e ▸ y1
 ·exact fun k=>⟨x,k,by rw [Yax d1],rfl⟩
theorem ZkX {n:Nat} {E:List Zy} {L:List (List Z9)} {x:Zy} {f:Zy→Int} {g:Zy→Z9} (hl:L.length=n) (hm:∀ u:Nat,u<n → ∀ e,e ∈ Nn L u ↔ ∃ x ∈ E,f x=(u:Int)∧g x=e) (h0:0≤f x) (hr:ZcR Za2 (Nn L (f x).toNat)) (hk:isK Za2 (Za2 (g x)) (Nn L (f x).toNat)=false) :
  ∀ u:Nat,u<n → ∀ e,e ∈ Nn (L.set (f x).toNat (insE (Nn L (f x).toNat) (g x))) u ↔ ∃ y ∈ E ++ [x],f y=(u:Int)∧g y=e:=fun u hu e=>by
 rw [Zvz ow]
 have hex:(∃ y ∈ E ++ [x],f y=(u:Int)∧g y=e) ↔ (∃ y ∈ E,f y=(u:Int)∧g y=e)∨(f x=(u:Int)∧g x=e):=by
  constructor
  ·rintro ⟨y,y1,y2⟩
   rcases YD.1 y1 with y1 | y1
   ·exact .inl ⟨y,y1,y2⟩
   ·rw [Yj.1 y1] at y2;exact .inr y2
  ·rintro (⟨y,y1,y2⟩ | k)
   ·exact ⟨y,Yah _ y1,y2⟩
   ·exact ⟨x,by simp,k⟩
 rw [hex]
 by_cases hc:(f x).toNat=u
 ·rw [Yf hc,(Zl8 hr hk).2.1,hc,hm u hu]
  constructor
  ·rintro (k | k)
   ·exact .inl k
   ·exact .inr ⟨by omega,k.symm⟩
  ·rintro (k | k)
   ·exact .inl k
   ·exact .inr k.2.symm
 ·rw [Yc hc,hm u hu]
  exact ⟨.inl,fun k=>k.elim id fun k=>absurd ow hc⟩
theorem ZbS.add {n:Nat} {E:List Zy} {O I:List (List Z9)} {x:Zy} (h:ZbS n E O I) (hn:n≤4096) (hx:ZaG n x=true) (hne:x ∉ E):ZbS n (E ++ [x]) (O.set x.src.toNat (insE (Nn O x.src.toNat) (endO x))) (I.set x.dst.toNat (insE (Nn I x.dst.toNat) (endI x))):=by
 have ko:=Bool.eq_false_iff.2 (fun k=>hne ((h.outK hn hx).1 k))
 have ki:=Bool.eq_false_iff.2 (fun k=>hne ((h.inK hn hx).1 k))
 obtain ⟨⟨s1,s2⟩,⟨d1,d2⟩,_⟩:=ZQ.1 hx
 have hl:=h.ol
 have hl2:=h.il
 have so:x.src.toNat<O.length:=by omega
 have si:x.dst.toNat<I.length:=by omega
 refine ⟨by simp [hl],by simp [hl2],?_,?_,fun y hy=>?_,?_,?_⟩
 ·rw [Yd];exact h.on.set so (endO_ok hx hn) ko
 ·rw [Yd];exact h.inn.set si (endI_ok hx hn) ki
 ·rcases YD.1 hy with hy | hy
  ·exact h.ok y hy
  ·rw [Yj.1 hy];exact hx
 ·exact ZkX (f:=Zy.src) (g:=endO) hl h.om s1 (h.on _ (nth_mem so)).2.1 ko
 ·exact ZkX (f:=Zy.dst) (g:=endI) hl2 h.im d1 (h.inn _ (nth_mem si)).2.1 ki
theorem ZbS.next {n:Nat} {E:List Zy} {O I:List (List Z9)} (h:ZbS n E O I) (mask u:Int):Zdz (adjO O mask u) ∧ ∀ v,v ∈ adjO O mask u ↔ ∃ x ∈ E,x.src=u∧ofB mask x.kind=true∧x.dst=v:=by
 by_cases hu:0≤u∧u<O.length
 ·unfold adjO
  rw [Yf hu]
  refine ⟨(ZX _).1,fun v=>?_⟩
  rw [(ZX _).2,Yw]
  constructor
  ·rintro ⟨e,h1,h2⟩
   obtain ⟨h3,h4⟩:=YT.1 h1
   obtain ⟨x,x1,x2,rfl⟩:=(h.om u.toNat (by have:=h.ol;omega) e).1 h3
   exact ⟨x,x1,by omega,h4,h2⟩
  ·rintro ⟨x,x1,x2,x3,x4⟩
   exact ⟨endO x,YT.2 ⟨(h.om u.toNat (by have:=h.ol;omega) _).2 ⟨x,x1,by omega,rfl⟩,x3⟩,x4⟩
 ·unfold adjO
  rw [Yc hu]
  refine ⟨List.Pairwise.nil,fun v=>⟨fun k=>(by cases k),?_⟩⟩
  rintro ⟨x,x1,x2,_⟩
  have:=(ZQ.1 (h.ok x x1)).1
  have:=h.ol
  exact absurd ⟨by omega,by omega⟩ hu
def ZiW (n:Nat) (E:List Zy) (x:Zy):List Zy:=if ZaG n x=true∧x ∉ E then E ++ [x] else E
theorem ZqQ {n:Nat} {E:List Zy} {x y:Zy} : y ∈ ZiW n E x ↔ y ∈ E∨(y=x∧ZaG n y=true):=by
 unfold ZiW
 split
 ·rename_i h
  rw [YD,Yj]
  exact ⟨fun k=>k.elim .inl fun e=>.inr ⟨e,e ▸ h.1⟩,fun k=>k.elim .inl fun e=>.inr e.1⟩
 ·rename_i h
  refine ⟨.inl,fun k=>k.elim id fun ⟨e,hr⟩=>?_⟩
  subst e
  exact Ybw fun hx=>h ⟨hr,hx⟩
theorem Zh6 {n:Nat} : ∀ {L E:List Zy} {y:Zy},y ∈ L.foldl (ZiW n) E ↔ y ∈ E∨(y ∈ L∧ZaG n y=true)
 | [],E,y=>by simp
 | x :: L,E,y=>by
  rw [Yan,Zh6,ZqQ,Yk]
  constructor
  ·rintro ((h | ⟨h,k⟩) | ⟨h,k⟩)
   ·exact .inl h
   ·exact .inr ⟨.inl h,k⟩
   ·exact .inr ⟨.inr h,k⟩
  ·rintro (h | ⟨h | h,k⟩)
   ·exact .inl (.inl h)
   ·exact .inl (.inr ⟨h,k⟩)
   ·exact .inr ⟨h,k⟩
theorem ZnU {n:Nat} (E:List Zy) (x:Zy):(ZiW n E x).length≤E.length+1:=by
 unfold ZiW;split <;> simp
theorem Zd0 {n:Nat} : ∀ (L E:List Zy),(L.foldl (ZiW n) E).length≤E.length+L.length
 | [],E=>YN _
 | x :: L,E=>by
  have h1:=Zd0 (n:=n) L (ZiW n E x)
  have h2:=ZnU (n:=n) E x
  rw [Yan,Yl];omega
theorem ZbS.new (n:Nat):ZbS n [] (List.replicate n []) (List.replicate n []):=by
 have hn:∀ u:Nat,u<n→Nn (List.replicate n ([]:List Z9)) u = []:=fun u hu=>by
  rw [nth_eq (by simpa using hu)];simp
 have hd:Zsj (List.replicate n []) ([]:List Zy).length:=fun l hl=>by
  rw [(List.mem_replicate.1 hl).2];exact ⟨YN _,ZU.2 .nil,fun e h=>by cases h⟩
 exact ⟨by simp,by simp,hd,hd,(fun x h=>by cases h),(fun u hu e=>by rw [hn u hu];simp),(fun u hu e=>by rw [hn u hu];simp)⟩
theorem ZbS.step {n:Nat} {E:List Zy} {O I:List (List Z9)} (h:ZbS n E O I) (hn:n≤4096) (x:Zy) (m:Nat):ZbS n (ZiW n E x) (ZeP O I m x).1 (ZeP O I m x).2.1∧(ZeP O I m x).2.2.1≤m+1:=by
 unfold ZeP ZiW
 rw [h.ol]
 by_cases hr:ZaG n x=true
 ·rw [Yf hr]
  by_cases hx:x ∈ E
  ·rw [Yf ((h.has hn).2 ⟨hr,hx⟩),Yc (fun k=>k.2 hx)];exact ⟨h,Nat.le_succ _⟩
  ·rw [Yc (fun k=>hx ((h.has hn).1 k).2),Yf ⟨hr,hx⟩];exact ⟨h.add hn hr hx,YN _⟩
 ·rw [Yc hr,Yc (fun k=>hr k.1)];exact ⟨h,Nat.le_succ _⟩
theorem ZoR (l:List Zg) (hl:l.length≤1000000):FnG prog 124 1 [.sl Zs l] [.star []] (PV.one) (fun v=>[Zu 42 4 Zs l v]):=by
 refine FnG.mk func124 rfl ntmps124 rfl kr fun B F0 a w F V hG G=>?_
 obtain ⟨F,G⟩:=G.nM [0] [0]
 refine Ya (rZ G (qC qZ) V [2,0] [0] fun G=>(Ya (Ya ?_)))
 refine Ze G (qR rr (qf (ZbH underlying31 .t) r1 qz qZ)) V [4,2,0] [0] rfl rfl fun a w F G=>?_
 obtain ⟨β4,hβ4,G⟩:=G.pickBool 4 rfl
 obtain ⟨F,G⟩:=G.nM [4,2,0] [0]
 refine Za (Zc G rfl (fun hc0=>?_) (fun hc0=>?_))
 ·have hg:l = []:=hβ4 hc0
  refine Ya (rZ G (qC qZ) V [2,0] [0] fun G=>(Yh (Zl ?_)))
  have G:=G.fresh 1 rfl
  have G:=G.turn 1 rfl (ZaD (T:=42) (sz:=4) (R:=Zs))
  have G:=G.turn 1 rfl (r':=RS.hp (Zu 42 4 Zs l (.slice none 0 0))) (fun _ _ _ _ h=>by rw [hg];exact h)
  refine Z2 (h':=fun v=>Zu 42 4 Zs l v) hG G rfl (.tmp rfl .nil) (.one .one) rfl
 have hg:l = [] ++ l:=rfl
 refine Ye (Za (Ya (Zb G (qf (Za5 (R:=Zs) (sz:=4) 101 underlying31 kr) trivial qz (qR rr (qf (ZV (sz:=4) (bs:=32) 101 (.mk' underlying31 kr kr) (by intro x;rfl) .same (.sl .t) (by simp only [Yd,Yy];omega) (by decide)) ⟨rfl,rfl,tv⟩ ⟨rfl,tv⟩ (qO rr qZ)))) V [2] [101,0] (fun _=>rfl) (fun _=>rfl) fun τ a w F G=>?_)))
 try dsimp only [RS.sub,SF.sub,CF.sub,csub,Anc.sub,List.map,Zf,xL,xM,Nat.reduceAdd,xD,xE,xT,xU,xC,xN,zCF,Zs] at G
 generalize τ 7=v7 at G
 refine Za (Yh ?_)
 obtain ⟨F,G⟩:=G.rename 101 1 rfl rfl
 have G:=G.turn 1 rfl (r':=RS.hp (Zu 42 4 Zs l v7)) (fun _ _ _ _ h=>by rw [hg];exact h)
 refine Z2 (h':=fun v=>Zu 42 4 Zs l v) hG G rfl (.tmp rfl .nil) (.one .one) rfl
theorem Zj7 (v:Value) (l:List Zg) (hll:l.length≤1000000):FnG prog 175 1 [.is v] [Zu 42 4 Zs l v] (PV.one) (fun v=>[Zu 42 4 Zs (Zq l) v]):=by
 refine FnG.mk func175 rfl ntmps175 rfl kr fun B F0 a w F V hG G=>?_
 replace G:=G.turn 1 rfl (r':=.ob (.val v) (Zu 42 4 Zs l)) (fun _ _ _ _ h=>h)
 refine Ya (rZ G (qC qZ) V [2,0] [1,0] fun G=>(Ya (Ya ?_)))
 refine rZ G (qR rr (qf (ZS 1 underlying31 .is) r1 r1 (qf (ZaC .t qi) r1 qz qZ))) V [8,2,0] [1,0] fun G=>?_
 refine Zc G rfl (fun hc0=>?_) (fun hc0=>?_)
 ·have hg:(Zq l)=l:=Zb0 (by simp at hc0;omega)
  refine Ya (rZ G (qR rr (qO rr qZ)) V [2,0] [1,0] fun G=>(Yh (Zl ?_)))
  have G:=G.turn 1 rfl (r':=RS.hp (Zu 42 4 Zs (Zq l) v)) (fun _ _ _ _ h=>by rw [hg];exact h)
  refine Z2 (h':=fun v=>Zu 42 4 Zs (Zq l) v) hG G rfl (.tmp rfl .nil) (.one .one) rfl
 have hl2:2≤l.length:=by simp at hc0;omega
 refine Ye (Za (Ya (Ya (rZ G (qI qZ) V [3,2,0] [1,0] fun G=>Yg ?_))))
 refine Zk (σ:=Nat) [0,2] [0,1] (fun s=>[(3,.pv (.int .i64 (s:Int)))]) (fun s=>[]) (fun s=>1≤s∧s≤l.length∧Zq (l.take s)=l.take s) (fun s=>l.length - s) (1) G ⟨rfl,rfl,rfl,tv⟩ ⟨rfl,rfl,tv⟩ ⟨by omega,by omega,Zb0 (by rw [Yi];omega)⟩ ?_
 clear G;intro k a w F hC G
 try dsimp only at hC
 obtain ⟨F,G⟩:=G.nM [3,2,0] [1,0]
 try dsimp only at G
 obtain ⟨hk1,hkl,hkc⟩:=hC
 have hkw:IntKind.wrap .i64 ((k:Int) - 1)=(k:Int) - 1:=ZA ow
 refine Ya (Ya (rZ G (qR rr (qR rr (qf (ZS 1 underlying31 .is) r1 r1 (qL r2)))) V [13,3,2,0] [1,0] fun G=>?_))
 refine Zc G rfl (fun hc1=>?_) (fun hc1=>?_)
 ·have hil:k<l.length:=by simp at hc1;omega
  have hst:=ZbA (l:=l) hk1 hil
  have hy0:(IntKind.wrap .i64 ((k:Int) - 1)).toNat=k - 1:=by rw [hkw];omega
  refine Ye (Za (Ya (Yg (Ya (Zv G (qR rr (qR rr (qf (o_indexAddr_row (sz:=4) 1 (.mk underlying31 kr) .is .t ow ow (by rfl)) r2 r1 (qf (Zt (ag:=true) (sz':=4) (sz:=4) 1 .t (by intro x;rfl) ow kr kr kr) r1 r1 (qR rr (qR rr (qf (o_sub .t qi) r1 qz (qf (o_indexAddr_row (sz:=4) 1 (.mk underlying31 kr) .is .t (by rw [hkw];omega) (by rw [hkw];omega) (by rfl)) r2 r1 (qf (Zt (ag:=true) (sz':=4) (sz:=4) 1 .t (by intro x;rfl) (by rw [hkw];omega) kr kr kr) r1 r1 (qf (o_eqlS (ks:=[true,true,true,true]) kr .t .t (.int (.int (.int (.int .nil))))) r2 qz qZ)))))))))) V [25,3,2,0] [1,0] rfl rfl fun a w F G=>?_)))))
  try dsimp only [List.map,xD,xE,xT,xU,ldSF,Zs] at G
  try simp only [Yb] at G
  refine Za (Zc G rfl (fun hc2=>?_) (fun hc2=>?_))
  ·have heq:Nn l (k - 1)=Nn l k:=by rw [hy0] at hc2;simp only [Zvp] at hc2;simp at hc2;exact hc2.symm
   rw [Yf heq,hkc] at hst
   have hst0:=hst.symm
   refine Ya (rZ G (qR rr (qR rr (qf (Zak (sz:=4) 1 (.mk underlying31 kr) .is .t ow ow) r2 r1 (qO rr qZ)))) V [4,3,2,0] [1,0] fun G=>(Ya (Ya ?_)))
   refine rZ G (qI qZ) V [5,4,3,2,0] [1,0] fun G=>Yg ?_
   have hC0:1≤1∧1≤l.length - k∧k≤k∧k≤k+1 - 1∧l.length=l.length∧l.take k=Zq (l.take (k+1)) ∧ ∀ q,k+1 - 1≤q→q<l.length→Nn l q=Nn l q:=⟨by omega,by omega,by omega,by omega,rfl,hst0,fun q _ _=>rfl⟩
   refine Zk (σ:=Nat×Nat×List Zg) [0,2,4] [0] (fun s=>[(3,.pv (.int .i64 (s.1:Int))),(5,.pv (.int .i64 (s.2.1:Int)))]) (fun s=>[(1,.ob (.val v) (Zu 42 4 Zs s.2.2))]) (fun s=>1≤s.2.1∧s.2.1≤l.length - k∧k≤s.1∧s.1≤k+s.2.1 - 1∧s.2.2.length=l.length∧s.2.2.take s.1=Zq (l.take (k+s.2.1)) ∧ ∀ q,k+s.2.1 - 1≤q→q<l.length→Nn s.2.2 q=Nn l q) (fun s=>l.length - s.2.1) ((k),(1),(l)) G ⟨rfl,rfl,rfl,rfl,rfl,tv⟩ ⟨rfl,rfl,tv⟩ hC0 ?_
   clear G;intro s a w F hC G
   obtain ⟨k1,j,l1⟩:=s
   try dsimp only at hC
   obtain ⟨F,G⟩:=G.nM [5,4,3,2,0] [1,0]
   try dsimp only at G
   obtain ⟨hj1,hjk,hkk,hkj,hl1,htk,hrest⟩:=hC
   have hjw:IntKind.wrap .i64 ((j:Int) - 1)=(j:Int) - 1:=ZA ow
   refine Ya (Ya (rZ G (qR rr (qR rr (qf (Zir 1 underlying31 .t ow) r1 r1 (qL r2)))) V [32,5,4,3,2,0] [1,0] fun G=>?_))
   refine Zc G rfl (fun hc3=>?_) (fun hc3=>?_)
   ·have hjl:k+j<l.length:=by simp at hc3;omega
    have hx1:(Nn l1 (((k:Int)).toNat+((j:Int)).toNat))=Nn l (k+j):=by rw [Yb,Yb];exact hrest _ ow hjl
    have hx0:Nn l1 (((k:Int)).toNat+(IntKind.wrap .i64 ((j:Int) - 1)).toNat)=Nn l (k+j - 1):=by rw [hjw,show ((k:Int)).toNat+((j:Int) - 1).toNat=k+j - 1 by omega];exact hrest _ ow ow
    have hstp:=ZbA (l:=l) (p:=k+j) ow hjl
    refine Ye (Za (Ya (Yg (Ya (Zv G (qR rr (qR rr (qf (o_indexAddr_sub (sz:=4) 1 (.mk underlying31 kr) .t .t ow ow (by rfl)) r2 r1 (qf (Zt (ag:=true) (sz':=4) (sz:=4) 1 .t (by intro x;rfl) ow kr kr kr) r1 r1 (qR rr (qR rr (qf (o_sub .t qi) r1 qz (qf (o_indexAddr_sub (sz:=4) 1 (.mk underlying31 kr) .t .t (by rw [hjw];omega) (by rw [hjw];omega) (by rfl)) r2 r1 (qf (Zt (ag:=true) (sz':=4) (sz:=4) 1 .t (by intro x;rfl) (by rw [hjw];omega) kr kr kr) r1 r1 (qf (o_neqS (ks:=[true,true,true,true]) kr .t .t (.int (.int (.int (.int .nil))))) r2 qz qZ)))))))))) V [44,5,4,3,2,0] [1,0] rfl rfl fun a w F G=>?_)))))
    try dsimp only [List.map,xD,xE,xT,xU,ldSF,Zs] at G
    try simp only [Yb] at G
    refine Za (Zc G rfl (fun hc4=>?_) (fun hc4=>?_))
    ·have hne:¬ Nn l (k+j - 1)=Nn l (k+j):=by rw [← hx1,← hx0];simp only [Zvp] at hc4;simp at hc4 ⊢;exact fun e=>hc4 e.symm
     rw [Yc hne] at hstp
     obtain ⟨i2,hi2e⟩:∃ i2,i2=k1+1:=⟨_,rfl⟩
     have hi2:IntKind.wrap .i64 ((k1:Int)+1)=(i2:Int):=by rw [hi2e];exact Zd ow
     obtain ⟨l2,hl2e⟩:∃ l2,l2=l1.set k1 (Nn l1 (k+j)):=⟨_,rfl⟩
     have hx1b:Nn l1 (k+j)=Nn l (k+j):=hrest _ ow hjl
     have hC2:1≤j+1∧j+1≤l.length - k∧k≤i2∧i2≤k+(j+1) - 1∧l2.length=l.length∧l2.take i2=Zq (l.take (k+(j+1))) ∧ ∀ q,k+(j+1) - 1≤q→q<l.length→Nn l2 q=Nn l q:=⟨by omega,by omega,by omega,by omega,by rw [hl2e,YL];exact hl1,by rw [hl2e,hi2e,Zp (by rw [YL];omega),YbG (YN _),htk,nth_eq (by rw [YL];omega),Ybc,hx1b];exact hstp.symm,fun q hq hq2=>by rw [hl2e,nth_eq (by rw [YL];omega),YbH ow,← nth_eq ow];exact hrest q ow hq2⟩
     refine Ya (Ze G (qR rr (qR rr (qR rr (qR rr (qf (o_indexAddr_sub (sz:=4) 1 (.mk underlying31 kr) .t .t ow ow (by rfl)) r2 r1 (qf (Zt (ag:=true) (sz':=4) (sz:=4) 1 .t (by intro x;rfl) ow kr kr kr) r1 r1 (qf (o_indexAddr_row (sz:=4) 1 (.mk underlying31 kr) .is .t ow ow (by rfl)) r2 r1 (qf (ZdD (sz:=4) 1 .t (by intro x;rfl) ow (.conv .t (Ent.aggU (l:=Zs (Nn l1 (((k:Int)).toNat+((j:Int)).toNat))) rfl rfl)) kr) r2 r1 qZ)))))))) V [5,4,3,2,0] [1,0] rfl rfl fun a w F G=>?_)
     try simp only [Yb] at G
     rw [← hl2e] at G
     refine Za (Ze G (qR rr (qp r1 (qO rr qZ))) V [5,4,3,2,0] [1,0] rfl rfl fun a w F G=>Zh (Za ?_))
     refine rZ G (qR rr (qp r1 (qO rr qZ))) V [5,4,3,2,0] [1,0] fun G=>?_
     have hmu:l.length - (j+1)<l.length - j:=by omega
     replace G:=G.ent (i:=3) (s':=.pv (.int .i64 (i2:Int))) rfl (.int hi2)
     replace G:=G.ent (i:=5) (s':=.pv (.int .i64 ((j+1:Nat):Int))) rfl (.int (Zd ow))
     obtain ⟨F,G⟩:=G.nM [4,2,0,5,3] [0,1]
     exact ⟨((i2),(j+1),(l2)),F,hC2,G,hmu⟩
    have heq2:Nn l (k+j - 1)=Nn l (k+j):=by rw [← hx1,← hx0];simp only [Zvp] at hc4;simp at hc4 ⊢;exact hc4.symm
    rw [Yf heq2] at hstp
    obtain ⟨i2,hi2e⟩:∃ i2,i2=k1:=⟨_,rfl⟩
    have hi2:(k1:Int)=(i2:Int):=by rw [hi2e]
    obtain ⟨l2,hl2e⟩:∃ l2,l2=l1:=⟨_,rfl⟩
    rw [← hl2e] at G
    have hC2:1≤j+1∧j+1≤l.length - k∧k≤i2∧i2≤k+(j+1) - 1∧l2.length=l.length∧l2.take i2=Zq (l.take (k+(j+1))) ∧ ∀ q,k+(j+1) - 1≤q→q<l.length→Nn l2 q=Nn l q:=⟨by omega,by omega,by omega,by omega,by rw [hl2e];exact hl1,by rw [hl2e,hi2e,htk];exact hstp.symm,fun q hq hq2=>by rw [hl2e];exact hrest q ow hq2⟩
    refine Ye (Zh (Za (rZ G (qR rr (qp r1 (qO rr qZ))) V [5,4,3,2,0] [1,0] fun G=>?_)))
    have hmu:l.length - (j+1)<l.length - j:=by omega
    replace G:=G.ent (i:=3) (s':=.pv (.int .i64 (i2:Int))) rfl (.int hi2)
    replace G:=G.ent (i:=5) (s':=.pv (.int .i64 ((j+1:Nat):Int))) rfl (.int (Zd ow))
    obtain ⟨F,G⟩:=G.nM [4,2,0,5,3] [0,1]
    exact ⟨((i2),(j+1),(l2)),F,hC2,G,hmu⟩
   have hjl:k+j=l.length:=by simp at hc3;omega
   have hg:(Zq l)=(l1.take k1++List.replicate (l1.length - k1) noE).take k1:=by rw [YS (by rw [Yi];omega),YaJ,YbX,htk,hjl,Yz]
   refine Yv (Zi (Zi (Zo (Za (Ya (rZ G (qR rr (qR rr (qf (Zak (sz:=4) 1 (.mk underlying31 kr) .is .t ow ow) r2 r1 (qf (ZbO (R:=Zs) (z:=noE) (zs:=[.int .i64 0,.int .i64 0,.int .i64 0,.int .i64 0]) 1 underlying31 kr rfl rfl Zq5 (by intro x;rfl) .t (by simp;omega)) r1 r1 qZ)))) V [3,2,0] [1,0] fun G=>Ya ?_))))))
   refine Zb G (qR rr (qR rr (qf (ZbE (sz:=4) 1 (.mk underlying31 kr) (by intro x;rfl) .is .t ow (by simp;omega)) r2 r1 (qO rr qZ)))) V [3,2,0] [1,0] (fun _=>rfl) (fun _=>rfl) fun τ a w F G=>?_
   try dsimp only [RS.sub,SF.sub,CF.sub,csub,Anc.sub,List.map,Zs] at G
   generalize τ 59=v59 at G
   refine Za (Yh (Zz (Zl (Zl (Zz (Zl ?_))))))
   have G:=G.turn 1 rfl (r':=RS.hp (Zu 42 4 Zs (Zq l) v59)) (fun _ _ _ _ h=>by rw [hg];exact h)
   refine Z2 (h':=fun v=>Zu 42 4 Zs (Zq l) v) hG G rfl (.tmp rfl .nil) (.one .one) rfl
  have hne:¬ Nn l (k - 1)=Nn l k:=by rw [hy0] at hc2;simp only [Zvp] at hc2;simp at hc2;exact fun e=>hc2 e.symm
  rw [Yc hne] at hst
  refine Ye (Zh (Za (rZ G (qR rr (qp r1 (qO rr qZ))) V [3,2,0] [1,0] fun G=>?_)))
  replace G:=G.ent (i:=3) (s':=.pv (.int .i64 ((k+1:Nat):Int))) rfl (.int (Zd ow))
  obtain ⟨F,G⟩:=G.nM [2,0,3] [1,0]
  exact ⟨(k+1),F,⟨by omega,by omega,by rw [hst,hkc,← Zp hil]⟩,G,by omega⟩
 have hg:(Zq l)=l:=by rw [show k=l.length by simp at hc1;omega,Yz] at hkc;exact hkc
 refine Yv (Zi (Zi (Zo (Za (Ya (rZ G (qR rr (qO rr qZ)) V [2] [1,0] fun G=>Yh ?_))))))
 have G:=G.turn 1 rfl (r':=RS.hp (Zu 42 4 Zs (Zq l) v)) (fun _ _ _ _ h=>by rw [hg];exact h)
 refine Z2 (h':=fun v=>Zu 42 4 Zs (Zq l) v) hG G rfl (.tmp rfl .nil) (.one .one) rfl
def Zhs:Go.Shelf.Ren:=⟨fun | 6=>173 | 15=>142 | 14=>211 | 28=>189 | 29=>190 | 20=>232 | 21=>233 | 22=>234 | 23=>235 | 24=>236 | 25=>237 | 26=>238 | 27=>239 | 46=>249 | 47=>213 | 48=>214 | 49=>250 | 50=>251 | 57=>256 | n=>n,fun | 22=>31 | 24=>42 | 25=>245 | 3=>3 | 39=>162 | 0=>0 | 53=>260 | 55=>175 | 4=>4 | 46=>253 | 45=>252 | 50=>43 | 5=>5 | 9=>9 | 66=>290 | 70=>294 | 76=>309 | 77=>107 | n=>n,fun  | n=>n⟩
theorem ZpL:Go.Proofs.SlLaysF0.n6 prog Zhs where
 mixed:=by kernel_rfl
 f6:=⟨f173.name,by kernel_rfl,func173.trans (Y7 some kr)⟩
 f14:=⟨f211.name,by kernel_rfl,func211.trans (Y7 some kr)⟩
 f15:=func142.trans (Y7 some kr)
 f20:=⟨f232.name,by kernel_rfl,func232.trans (Y7 some kr)⟩
 f21:=⟨f233.name,by kernel_rfl,func233.trans (Y7 some kr)⟩
 f22:=⟨f234.name,by kernel_rfl,func234.trans (Y7 some kr)⟩
 f23:=⟨f235.name,by kernel_rfl,func235.trans (Y7 some kr)⟩
 f24:=⟨f236.name,by kernel_rfl,func236.trans (Y7 some kr)⟩
 f25:=⟨f237.name,by kernel_rfl,func237.trans (Y7 some kr)⟩
 f26:=⟨f238.name,by kernel_rfl,func238.trans (Y7 some kr)⟩
 f27:=⟨f239.name,by kernel_rfl,func239.trans (Y7 some kr)⟩
 f28:=func189.trans (Y7 some kr)
 f29:=func190.trans (Y7 some kr)
 f46:=⟨f249.name,by kernel_rfl,func249.trans (Y7 some kr)⟩
 f47:=func213.trans (Y7 some kr)
 f48:=func214.trans (Y7 some kr)
 f49:=⟨f250.name,by kernel_rfl,func250.trans (Y7 some kr)⟩
 f50:=⟨f251.name,by kernel_rfl,func251.trans (Y7 some kr)⟩
 f57:=⟨f256.name,by kernel_rfl,func256.trans (Y7 some kr)⟩
 t0:=underlying0
 a0:=Tryz.isAgg0
 z0:=Tryz.sizeOf0
 v0:=Tryz.zeroValue0
 t3:=underlying3
 a3:=Tryz.isAgg3
 z3:=Tryz.sizeOf3
 v3:=Tryz.zeroValue3
 t4:=underlying4
 a4:=Tryz.isAgg4
 z4:=Tryz.sizeOf4
 v4:=Tryz.zeroValue4
 t5:=underlying5
 a5:=Tryz.isAgg5
 z5:=Tryz.sizeOf5
 v5:=Tryz.zeroValue5
 t9:=underlying9
 a9:=Tryz.isAgg9
 z9:=Tryz.sizeOf9
 v9:=Tryz.zeroValue9
 t22:=underlying31
 a22:=Tryz.isAgg31
 z22:=Tryz.sizeOf31
 v22:=Tryz.zeroValue31
 t25:=underlying245
 a25:=Tryz.isAgg245
 z25:=Tryz.sizeOf245
 v25:=Tryz.zeroValue245
 t39:=underlying162
 a39:=Tryz.isAgg162
 z39:=Tryz.sizeOf162
 v39:=Tryz.zeroValue162
 t45:=underlying252
 a45:=Tryz.isAgg252
 z45:=Tryz.sizeOf252
 v45:=Tryz.zeroValue252
 t46:=underlying253
 a46:=Tryz.isAgg253
 z46:=Tryz.sizeOf253
 v46:=Tryz.zeroValue253
 t50:=underlying43
 a50:=Tryz.isAgg43
 z50:=Tryz.sizeOf43
 v50:=Tryz.zeroValue43
 t53:=underlying260
 a53:=Tryz.isAgg260
 z53:=Tryz.sizeOf260
 v53:=Tryz.zeroValue260
 t55:=underlying175
 a55:=Tryz.isAgg175
 z55:=Tryz.sizeOf175
 v55:=Tryz.zeroValue175
 t66:=underlying290
 a66:=Tryz.isAgg290
 z66:=Tryz.sizeOf290
 v66:=Tryz.zeroValue290
 t70:=underlying294
 a70:=Tryz.isAgg294
 z70:=Tryz.sizeOf294
 v70:=Tryz.zeroValue294
 t76:=underlying309
 a76:=Tryz.isAgg309
 z76:=Tryz.sizeOf309
 v76:=Tryz.zeroValue309
 t77:=underlying107
 a77:=Tryz.isAgg107
 z77:=Tryz.sizeOf107
 v77:=Tryz.zeroValue107
theorem Zv2 (x:Int) (w:World):Calls prog 151 #[.int .i64 x] w fun e w'=>e = .returned (.bool false)∧w' = w:=by
 go_enter func151,ntmps151
 go_wp2
 go_ret
 exact ⟨by simp,rfl⟩
theorem Zvr (x y:Int) (w:World):Calls prog 110 #[.int .i64 x,.int .i64 y] w fun e w'=>e = .returned (.int .i64 (Zc6 x y))∧w' = w:=by
 go_enter func110,ntmps110
 go_wp2_with (go_at_call 151;refine (Zv2 _ _).mono ?_;rintro e w' ⟨rfl,rfl⟩)
 all_goals (go_ret;refine ⟨?_,rfl⟩;unfold Zc6; (repeat' split) <;> first | rfl | (exfalso;omega))
theorem ZvN {a:Int} (h:(a != 0)=true):¬ a=0:=by simpa using h
theorem ZsU {a:Int} (h:(a != 0)=false):a=0:=by simpa using h
theorem Ztn {x y:Zg} (h:(Zc6 x.src y.src != 0)=true):cmpE x y=Zc6 x.src y.src:=by unfold cmpE Zfk Zgu;rw [Yc (fun e=>ZvN h (ZcP.2 e))]
theorem Ztg {x y:Zg} (h0:(Zc6 x.src y.src != 0)=false) (h:(Zc6 x.kind y.kind != 0)=true):cmpE x y=Zc6 x.kind y.kind:=by unfold cmpE Zfk Zgu;rw [Yf (ZcP.1 (ZsU h0))];unfold Zgu;rw [Yc (fun e=>ZvN h (ZcP.2 e))]
theorem Zua {x y:Zg} (h0:(Zc6 x.src y.src != 0)=false) (h1:(Zc6 x.kind y.kind != 0)=false) (h:(Zc6 x.key y.key != 0)=true):cmpE x y=Zc6 x.key y.key:=by unfold cmpE Zfk Zgu;rw [Yf (ZcP.1 (ZsU h0))];unfold Zgu;rw [Yf (ZcP.1 (ZsU h1))];unfold Zgu;rw [Yc (fun e=>ZvN h (ZcP.2 e))]
theorem ZoN {x y:Zg} (h0:(Zc6 x.src y.src != 0)=false) (h1:(Zc6 x.kind y.kind != 0)=false) (h2:(Zc6 x.key y.key != 0)=false):cmpE x y=Zc6 x.dst y.dst:=by
 unfold cmpE Zfk Zgu;rw [Yf (ZcP.1 (ZsU h0))];unfold Zgu;rw [Yf (ZcP.1 (ZsU h1))];unfold Zgu;rw [Yf (ZcP.1 (ZsU h2))];unfold Zgu
 by_cases h:x.dst=y.dst
 ·rw [Yf h,ZcP.2 h];rfl
 ·rw [Yc h]
theorem ZtE {x y:Zg} (h0:(Zc6 x.src y.src != 0)=false) (h1:(Zc6 x.kind y.kind != 0)=false) (h2:(Zc6 x.key y.key != 0)=false) (h3:(Zc6 x.dst y.dst != 0)=false):cmpE x y=0:=by rw [ZoN h0 h1 h2];exact ZsU h3
def objs4 (x y:Zg):Array Obj:=#[Obj.cells #[.int .i64 x.src,.int .i64 x.dst,.int .i64 x.kind,.int .i64 x.key] 42,Obj.cells #[.int .i64 y.src,.int .i64 y.dst,.int .i64 y.kind,.int .i64 y.key] 42,Obj.cells #[.int .i64 x.src,.int .i64 x.kind,.int .i64 x.key,.int .i64 x.dst] 289,Obj.cells #[.int .i64 y.src,.int .i64 y.kind,.int .i64 y.key,.int .i64 y.dst] 289]
theorem ZqY (x y:Zg) (w:World):Calls prog 174 #[.agg #[.int .i64 x.src,.int .i64 x.dst,.int .i64 x.kind,.int .i64 x.key],.agg #[.int .i64 y.src,.int .i64 y.dst,.int .i64 y.kind,.int .i64 y.key]] w fun e w'=>e = .returned (.int .i64 (cmpE x y)) ∧ ∃ q,w' = { w.drewN q with heap:=w.heap++objs4 x y } := by
 go_enter func174,ntmps174
 go_wp2
 have hw1:((((w.alloc (Obj.cells #[.int .i64 x.src,.int .i64 x.dst,.int .i64 x.kind,.int .i64 x.key] 42)).alloc (Obj.cells #[.int .i64 y.src,.int .i64 y.dst,.int .i64 y.kind,.int .i64 y.key] 42)).alloc (Obj.cells #[.int .i64 x.src,.int .i64 x.kind,.int .i64 x.key,.int .i64 x.dst] 289)).alloc (Obj.cells #[.int .i64 y.src,.int .i64 y.kind,.int .i64 y.key,.int .i64 y.dst] 289)) = { w with heap:=w.heap++objs4 x y } := by
  have e:∀ (w:World) (o:Obj),w.alloc o = { w with heap:=w.heap.push o } := fun _ _=>rfl
  simp only [e,objs4]
  congr 1
 rw [hw1]
 clear hw1
 have ka:∀ j v,(#[Value.int .i64 x.src,.int .i64 x.kind,.int .i64 x.key,.int .i64 x.dst])[j]? = some v→({ w with heap:=w.heap++objs4 x y } : World).cell? ⟨w.heap.size+1+1,j,none⟩ = some v:=by
  intro j v hj
  rw [Z0 (vs:=#[Value.int .i64 x.src,.int .i64 x.kind,.int .i64 x.key,.int .i64 x.dst]) (T:=289) (fr:=(0,0)) (by show (w.heap++objs4 x y)[w.heap.size+1+1]? = _;rw [Array.getElem?_append_right ow,show w.heap.size+1+1 - w.heap.size=2 by omega];rfl)]
  exact hj
 have kb:∀ j v,(#[Value.int .i64 y.src,.int .i64 y.kind,.int .i64 y.key,.int .i64 y.dst])[j]? = some v→({ w with heap:=w.heap++objs4 x y } : World).cell? ⟨w.heap.size+1+1+1,j,none⟩ = some v:=by
  intro j v hj
  rw [Z0 (vs:=#[Value.int .i64 y.src,.int .i64 y.kind,.int .i64 y.key,.int .i64 y.dst]) (T:=289) (fr:=(0,0)) (by show (w.heap++objs4 x y)[w.heap.size+1+1+1]? = _;rw [Array.getElem?_append_right ow,show w.heap.size+1+1+1 - w.heap.size=3 by omega];rfl)]
  exact hj
 have a0:({ w with heap:=w.heap++objs4 x y } : World).cell? ⟨w.heap.size+1+1,0,none⟩ = some (.int .i64 x.src):=ka 0 _ rfl
 have a1:({ w with heap:=w.heap++objs4 x y } : World).cell? ⟨w.heap.size+1+1,1,none⟩ = some (.int .i64 x.kind):=ka 1 _ rfl
 have a2:({ w with heap:=w.heap++objs4 x y } : World).cell? ⟨w.heap.size+1+1,2,none⟩ = some (.int .i64 x.key):=ka 2 _ rfl
 have a3:({ w with heap:=w.heap++objs4 x y } : World).cell? ⟨w.heap.size+1+1,3,none⟩ = some (.int .i64 x.dst):=ka 3 _ rfl
 have b0:({ w with heap:=w.heap++objs4 x y } : World).cell? ⟨w.heap.size+1+1+1,0,none⟩ = some (.int .i64 y.src):=kb 0 _ rfl
 have b1:({ w with heap:=w.heap++objs4 x y } : World).cell? ⟨w.heap.size+1+1+1,1,none⟩ = some (.int .i64 y.kind):=kb 1 _ rfl
 have b2:({ w with heap:=w.heap++objs4 x y } : World).cell? ⟨w.heap.size+1+1+1,2,none⟩ = some (.int .i64 y.key):=kb 2 _ rfl
 have b3:({ w with heap:=w.heap++objs4 x y } : World).cell? ⟨w.heap.size+1+1+1,3,none⟩ = some (.int .i64 y.dst):=kb 3 _ rfl
 clear ka kb
 have hfin:∀ q (w':World),w' = ({ w with heap:=w.heap++objs4 x y } : World).drewN q → ∃ q,w' = { w.drewN q with heap:=w.heap++objs4 x y } := fun q w' e=>⟨q,e⟩
 generalize ({ w with heap:=w.heap++objs4 x y } : World)=w1 at *
 generalize w.heap.size=n0 at *
 refine wp_loop_rounds 5 ?_
 rw [YbI]
 go_wp2
 go_quiet ((go_at_call 110;refine Calls.quiet_of_same (Zvr _ _ _)))
 go_wp2
 ·go_ret
  exact ⟨Y7 (fun z=>Ending.returned (.int .i64 z)) (Ztn (by assumption)).symm,hfin _ _ rfl⟩
 have hfin1:∀ q (w':World),w' = (w1.drewN nq).drewN q → ∃ q,w' = { w.drewN q with heap:=w.heap++objs4 x y } := fun q w' e=>hfin (nq+q) w' (by rw [e,World.drewN_drewN])
 have a1':(w1.drewN nq).cell? ⟨n0+1+1,1,none⟩ = some (.int .i64 x.kind):=a1
 have b1':(w1.drewN nq).cell? ⟨n0+1+1+1,1,none⟩ = some (.int .i64 y.kind):=b1
 have a2':(w1.drewN nq).cell? ⟨n0+1+1,2,none⟩ = some (.int .i64 x.key):=a2
 have b2':(w1.drewN nq).cell? ⟨n0+1+1+1,2,none⟩ = some (.int .i64 y.key):=b2
 have a3':(w1.drewN nq).cell? ⟨n0+1+1,3,none⟩ = some (.int .i64 x.dst):=a3
 have b3':(w1.drewN nq).cell? ⟨n0+1+1+1,3,none⟩ = some (.int .i64 y.dst):=b3
 clear hfin a0 b0 a1 b1 a2 b2 a3 b3
 generalize w1.drewN nq=w2 at *
 rw [YbI]
 go_wp2
 go_quiet ((go_at_call 110;refine Calls.quiet_of_same (Zvr _ _ _)))
 go_wp2
 ·go_ret
  exact ⟨Y7 (fun z=>Ending.returned (.int .i64 z)) (Ztg (by assumption) (by assumption)).symm,hfin1 _ _ rfl⟩
 have hfin2:∀ q (w':World),w' = (w2.drewN nq).drewN q → ∃ q,w' = { w.drewN q with heap:=w.heap++objs4 x y } := fun q w' e=>hfin1 (nq+q) w' (by rw [e,World.drewN_drewN])
 have a2'':(w2.drewN nq).cell? ⟨n0+1+1,2,none⟩ = some (.int .i64 x.key):=a2'
 have b2'':(w2.drewN nq).cell? ⟨n0+1+1+1,2,none⟩ = some (.int .i64 y.key):=b2'
 have a3'':(w2.drewN nq).cell? ⟨n0+1+1,3,none⟩ = some (.int .i64 x.dst):=a3'
 have b3'':(w2.drewN nq).cell? ⟨n0+1+1+1,3,none⟩ = some (.int .i64 y.dst):=b3'
 clear hfin1 a1' b1' a2' b2' a3' b3'
 generalize w2.drewN nq=w3 at *
 rw [YbI]
 go_wp2
 go_quiet ((go_at_call 110;refine Calls.quiet_of_same (Zvr _ _ _)))
 go_wp2
 ·go_ret
  exact ⟨Y7 (fun z=>Ending.returned (.int .i64 z)) (Zua (by assumption) (by assumption) (by assumption)).symm,hfin2 _ _ rfl⟩
 have hfin3:∀ q (w':World),w' = (w3.drewN nq).drewN q → ∃ q,w' = { w.drewN q with heap:=w.heap++objs4 x y } := fun q w' e=>hfin2 (nq+q) w' (by rw [e,World.drewN_drewN])
 have a3''':(w3.drewN nq).cell? ⟨n0+1+1,3,none⟩ = some (.int .i64 x.dst):=a3''
 have b3''':(w3.drewN nq).cell? ⟨n0+1+1+1,3,none⟩ = some (.int .i64 y.dst):=b3''
 clear hfin2 a2'' b2'' a3'' b3''
 generalize w3.drewN nq=w4 at *
 rw [YbI]
 go_wp2
 go_quiet ((go_at_call 110;refine Calls.quiet_of_same (Zvr _ _ _)))
 go_wp2
 ·go_ret
  exact ⟨Y7 (fun z=>Ending.returned (.int .i64 z)) (ZoN (by assumption) (by assumption) (by assumption)).symm,hfin3 _ _ rfl⟩
 have hfin4:∀ q (w':World),w' = (w4.drewN nq).drewN q → ∃ q,w' = { w.drewN q with heap:=w.heap++objs4 x y } := fun q w' e=>hfin3 (nq+q) w' (by rw [e,World.drewN_drewN])
 clear hfin3 a3''' b3'''
 generalize w4.drewN nq=w5 at *
 rw [YbI]
 go_wp2
 go_ret
 exact ⟨Y7 (fun z=>Ending.returned (.int .i64 z)) (ZtE (by assumption) (by assumption) (by assumption) (by assumption)).symm,hfin4 0 _ rfl⟩
def ZeT (e:Zg):List Value:=[.int .i64 e.src,.int .i64 e.dst,.int .i64 e.kind,.int .i64 e.key]
theorem Zh0:∀ (l:List Zg) (j:Nat),(l.flatMap ZeT)[j]? = if j<l.length*4 then some ((ZeT l[j / 4]!)[j % 4]!) else none
 | [],j=>by simp
 | e :: l,j=>by
  rw [Y4]
  by_cases hj:j<4
  ·rw [List.getElem?_append_left (by simpa [ZeT] using hj),Yf (by simp;omega),show j / 4=0 by omega,show j % 4=j by omega]
   match j,hj with
   | 0,_=>rfl
   | 1,_=>rfl
   | 2,_=>rfl
   | 3,_=>rfl
  ·obtain ⟨k,rfl⟩:∃ k,j=k+4:=⟨j - 4,by omega⟩
   rw [List.getElem?_append_right (by simp [ZeT]),show k+4 - (ZeT e).length=k by simp [ZeT],Zh0 l k,show (k+4) / 4=k / 4+1 by omega,show (k+4) % 4=k % 4 by omega]
   by_cases h:k<l.length*4
   ·rw [Yf h,Yf (by simp;omega)];simp
   ·rw [Yc h,Yc (by simp;omega)]
theorem Zhg (l:List Zg):(Go.Sort.flatK ZeT 4 l.toArray).toList=l.flatMap ZeT:=by
 apply List.ext_getElem?
 intro j
 rw [Zh0]
 by_cases h:j<l.length*4
 ·rw [Yf h];simp [Go.Sort.flatK,h]
 ·rw [Yc h];simp [Go.Sort.flatK];omega
def inE (e:Zg):Prop:=inR .i64 e.src∧inR .i64 e.dst∧inR .i64 e.kind∧inR .i64 e.key
theorem Zjc {w:World} {y:Ys} : ∀ {l:List Zg} {xs:List Value},PVs (l.flatMap Zs) xs w y→xs=l.flatMap ZeT ∧ ∀ e ∈ l,inE e
 | [],[],_=>⟨rfl,fun x hx=>by cases hx⟩
 | [],_ :: _,h=>h.elim
 | e :: l,[],h=>h.elim
 | e :: l,[_],h=>h.2.elim
 | e :: l,[_,_],h=>h.2.2.elim
 | e :: l,[_,_,_],h=>h.2.2.2.elim
 | e :: l,a :: b :: c :: d :: xs,h=>by
  have h1:a = .int .i64 e.src∧inR .i64 e.src:=h.1.2
  have h2:b = .int .i64 e.dst∧inR .i64 e.dst:=h.2.1.2
  have h3:c = .int .i64 e.kind∧inR .i64 e.kind:=h.2.2.1.2
  have h4:d = .int .i64 e.key∧inR .i64 e.key:=h.2.2.2.1.2
  obtain ⟨h5,h6⟩:=Zjc (l:=l) (xs:=xs) h.2.2.2.2
  exact ⟨by rw [h1.1,h2.1,h3.1,h4.1,h5];rfl,fun z hz=>by rcases Yk.1 hz with rfl | hz;exact ⟨h1.2,h2.2,h3.2,h4.2⟩;exact h6 z hz⟩
theorem ZeS {w:World} {y:Ys} : ∀ {l:List Zg},(∀ e ∈ l,inE e)→PVs (l.flatMap Zs) (l.flatMap ZeT) w y
 | [],_=>trivial
 | e :: l,h=>by
  have h1:=h e (by simp)
  exact ⟨⟨rfl,rfl,h1.1⟩,⟨rfl,rfl,h1.2.1⟩,⟨rfl,rfl,h1.2.2.1⟩,⟨rfl,rfl,h1.2.2.2⟩,ZeS fun z hz=>h z (by simp [hz])⟩
theorem swoE:Go.Sort.SWO (Go.Proofs.ltOf cmpE) where
 irrefl x:=Zb9.irr x
 trans x y z h1 h2:=Zb9.tr x y z h1 h2
 ntrans x y z h1 h2:=by
  have h1:ltE x y=false:=h1
  have h2:ltE y z=false:=h2
  show ltE x z=false
  rw [Zkd] at *
  omega
theorem Zjr {w:World} {g n:Nat} {d:List Value} {os:Array Obj} {cur:Array Value} {e:TypeId} (hg:w.heap[g]? = some (.cells cur e (0,0))) (b:Nat) (hb:b<w.heap.size) :
  (Go.Sort.grow (Go.Sort.putRow id (Go.Sort.ahead w n) g 0 d.toArray) os).heap[b]? = if b=g then some (.cells (Go.Sort.putCells id 0 d.toArray cur) e (0,0)) else w.heap[b]?:=by
 unfold Go.Sort.grow Go.Sort.putRow Go.Sort.mapBlock Go.Sort.ahead
 simp only
 rw [Array.getElem?_append_left (by simpa using hb),Array.getElem?_modify]
 by_cases h:g=b
 ·subst h
  rw [Yf rfl,Yf rfl,hg];rfl
 ·rw [Yc h,Yc (fun e=>h e.symm)]
theorem Zof {cur:Array Value} {d:List Value} (h:d.length≤cur.size):(Go.Sort.putCells id 0 d.toArray cur).toList.take d.length=d:=by
 apply Ya6
 ·simp [Go.Sort.putCells];omega
 ·intro i h1 h2
  have hi:i<d.length:=h2
  simp [Go.Sort.putCells,hi]
theorem sortE_cmp (g n:Nat) (w:World):Go.Proofs.CmpLays prog 174 #[] ZeT 4 cmpE g 0 n w:=fun _ _ _ _ x y=>
 (ZqY x y _).mono fun _ _ ⟨he,q,hq⟩=>⟨he,q,objs4 x y,hq⟩
theorem Zum (v:Value) (l:List Zg) (hlm:l.length≤1000000):FnG prog 173 1 [.is v,.is (.func (.func 174) #[] #[])] [Zu 42 4 Zs l v] (.tup []) (fun _=>[Zu 42 4 Zs (ZcW l) v]):=by
 by_cases hl0:l = []
 ·subst hl0
  have h:=Zmw v [] (by simp) (fun j _ h1=>absurd h1 (by simp))
  have e:ZcW [] = []:=by simp [ZcW]
  rw [e];exact h
 ·exact fun w F vs hw hle hvs hpr=>by
   match vs,hvs with
   | [u,fv],hvs=>
    have hu:u=v:=hvs.1.1
    have hfv:fv = .func (.func 174) #[] #[]:=hvs.2.1.1
    subst hu
    subst hfv
    obtain ⟨xs,⟨hxl,hx⟩,hp,hf⟩:=hpr 0 _ rfl
    rcases hx with ⟨rfl,h0⟩ | ⟨g,cap,cur,rfl,_,hg,hn,hcap,hcs,hct⟩
    ·exact absurd (YR h0) hl0
    ·have hgs:g<w.heap.size:=(YW.1 hg).1
     obtain ⟨hxe,hin⟩:=Zjc hp
     have hcl:l.length*4≤cur.size:=by rw [hcs];exact YG _ hn
     have hbig:l.toArray.size<4611686018427387904:=by simp;omega
     have hcur:∀ j,j<l.length*4→cur[j]? = (l.flatMap ZeT)[j]?:=fun j hj=>by
      have h1:(cur.toList.take (l.length*4))[j]? = (l.flatMap ZeT)[j]?:=by rw [hct,hxe]
      rw [YbA hj] at h1
      simpa using h1
     have hH:Go.Sort.HoldsK ZeT 4 w g 0 l.toArray:=fun j hj=>by
      have hj':j<l.length*4:=by simpa using hj
      refine ⟨?_,?_⟩
      ·rw [Y3,Z0 hg,hcur j hj',Zh0,Yf hj',Go.Sort.get_flatK _ _ _ _ (by simpa using hj')]
       simp
      ·simp [World.frozen?,hg]
     have eg:∀ args w,(callFunc 174 args).run prog w = .ok (.enter 174 args) w:=enters_of func174 kr rfl
     have hcalls:Calls prog 173 #[.slice (some ⟨g,0,none⟩) l.toArray.size cap,.func (.func 174) #[] #[]] w fun e w'=>e = .returned (.tuple #[]) ∧ ∃ d' n os,Go.Sort.PermIn 0 l.toArray.size l.toArray d' ∧ Go.Sort.SortedIn (Go.Proofs.ltOf cmpE) 0 l.toArray.size d' ∧ w' = Go.Proofs.sortWorldK ZeT 4 w g 0 n d' os:=
      Go.Proofs.AnyQ.slices_SortFunc ZpL 4 Tryz.isAgg42 Tryz.sizeOf42 ZeT (fun _=>rfl) (fun x v hv=>by simp [ZeT] at hv;rcases hv with rfl | rfl | rfl | rfl <;> rfl) cmpE swoE 174 #[] g 0 cap l.toArray w eg (sortE_cmp g _ w) hH hgs hbig
     refine hcalls.mono ?_
     rintro e w' ⟨rfl,d',n,os,hperm,hsrt,rfl⟩
     have hd:d'.toList=ZcW l:=Go.Sort.sorted_unique_holds swoE (fun x y h1 h2=>Zb9.tot x y h1 h2) l.toArray d' hperm hsrt
     have hd2:d' = (ZcW l).toArray:=by rw [← hd]
     subst hd2
     have hsl:(ZcW l).length=l.length:=Zjw l
     have hfl:(Go.Sort.flatK ZeT 4 (ZcW l).toArray)=((ZcW l).flatMap ZeT).toArray:=by rw [← Zhg]
     have hfn:((ZcW l).flatMap ZeT).length=l.length*4:=by
      have h2:=Y7 List.length (Zhg (ZcW l))
      rw [← h2,Array.length_toList,Go.Sort.size_flatK,YaC,hsl]
     have hW:Go.Proofs.sortWorldK ZeT 4 w g 0 n (ZcW l).toArray os=Go.Sort.grow (Go.Sort.putRow id (Go.Sort.ahead w n) g 0 ((ZcW l).flatMap ZeT).toArray) os:=by
      unfold Go.Proofs.sortWorldK Go.Sort.putRowK
      rw [hfl]
     rw [hW]
     have hheap:=fun b hb=>Zjr (n:=n) (d:=(ZcW l).flatMap ZeT) (os:=os) hg b hb
     have hsz:(Go.Sort.grow (Go.Sort.putRow id (Go.Sort.ahead w n) g 0 ((ZcW l).flatMap ZeT).toArray) os).heap.size=w.heap.size+os.size:=by simp [Go.Sort.ahead]
     have hfg:F 1 g:=(hf g).2 rfl
     have hst:Stp (List.range' 1 1) w F (Go.Sort.grow (Go.Sort.putRow id (Go.Sort.ahead w n) g 0 ((ZcW l).flatMap ZeT).toArray) os) F:=
      ⟨rfl,rfl,rfl,by rw [hsz];omega,fun b hb hn=>by
       rw [hheap b hb,Yc (fun e=>by subst e;exact hn 1 (by simp) hfg)],fun _ _=>rfl,fun n hn b hb=>.inl ⟨n,hn,hb⟩⟩
     refine ⟨.tuple #[],F,rfl,⟨hw.dis,fun n b hb=>by rw [hsz];have:=hw.bd n b hb;omega⟩,hst,hle,⟨[],rfl,tv⟩,fun i h hi=>?_⟩
     match i,hi with
     | 0,hi=>
      simp only [YbF,Y8] at hi
      subst hi
      refine ⟨(ZcW l).flatMap ZeT,⟨by rw [hfn,hsl],.inr ⟨g,cap,_,by rw [hsl],Yx _,(hheap g hgs).trans (Yf rfl),by rw [hsl];exact hn,hcap,by simp [Go.Sort.putCells,hcs],?_⟩⟩,ZeS fun x hx=>hin x ((YaV l _).mem_iff.1 hx),hf⟩
      rw [hsl,← hfn];exact Zof (by rw [hfn];exact hcl)
theorem Zqr (l:List Zg) (hl:l.length≤1000000):FnP prog 132 [.sl Zs l] (.sl Zs (ZbK ltE l)):=by
 refine FnP.mk func132 rfl ntmps132 rfl fun B a w F V hfr G=>?_
 have hll:=Sat.lenSl G (i:=0) rfl
 refine Ya (rZ G (qC qZ) V [2,0] [0] fun G=>Ya ?_)
 replace G:=G.fresh 101 rfl
 refine Zb G (qR rr (qf (Zaq 101 (ZoR l ow) func124 rfl kr (Args.one .t) pvOne1) r1 r1 (qO rr qZ))) V [3,2] [101,0] (fun _=>rfl) (fun _=>rfl) fun τ a w F G=>?_
 try dsimp only [RS.sub,SF.sub,CF.sub,csub,Anc.sub,List.map,Zs] at G
 generalize τ 5=v5 at G
 refine Za (Ya (rZ G (qR rr (qf (Zbi 101 (Zum _ l ow) func173 rfl kr (Args.two .t .f)) r1 r1 qZ)) V [3,2] [101,0] fun G=>Ya ?_))
 refine Zb G (qR rr (qf (o_callRowN 101 (Zj7 _ _ (by rw [Zjw];omega)) func175 rfl kr (Args.one .t) pvOne1) r1 r1 (qO rr qZ))) V [2] [101,0] (fun _=>rfl) (fun _=>rfl) fun τ a w F G=>?_
 try dsimp only [RS.sub,SF.sub,CF.sub,csub,Anc.sub,List.map,Zs] at G
 generalize τ 9=v9 at G
 refine Za (Yh ?_)
 obtain ⟨F,G⟩:=G.give 101 2 rfl rfl
 refine Zr hfr G rfl rfl rfl (.sl (ZmT l))
theorem Zg3 {α:Type} {lt:α→α→Bool} (h:STO lt):∀ {l m:List α},Zox lt l→Zox lt m→(∀ x,x ∈ l ↔ x ∈ m)→l=m
 | [],[],_,_,_=>rfl
 | [],y :: m,_,_,he=>by have:=(he y).2 (by simp);cases this
 | x :: l,[],_,_,he=>by have:=(he x).1 (by simp);cases this
 | x :: l,y :: m,hl,hm,he=>by
  obtain ⟨h1,h2⟩:=Yo.1 hl
  obtain ⟨h3,h4⟩:=Yo.1 hm
  have hxy:x=y:=by
   rcases Yk.1 ((he x).1 (by simp)) with e | hx
   ·exact e
   ·rcases Yk.1 ((he y).2 (by simp)) with e | hy
    ·exact e.symm
    ·have a1:=h1 y hy
     have a2:=h3 x hx
     have a3:=h.tr x y x a1 a2
     rw [h.irr x] at a3;cases a3
  subst hxy
  congr 1
  refine Zg3 h h2 h4 fun z=>⟨fun hz=>?_,fun hz=>?_⟩
  ·rcases Yk.1 ((he z).1 (YC _ hz)) with e | h9
   ·subst e
    have:=h1 z hz
    rw [h.irr z] at this;cases this
   ·exact h9
  ·rcases Yk.1 ((he z).2 (YC _ hz)) with e | h9
   ·subst e
    have:=h3 z hz
    rw [h.irr z] at this;cases this
   ·exact h9
theorem ZkH {l m:List Zg} (he:∀ x,x ∈ l ↔ x ∈ m):ZbK ltE l=ZbK ltE m:=
 Zg3 Zb9 (ZbI Zb9 l).1 (ZbI Zb9 m).1 fun x=>by rw [(ZbI Zb9 l).2,(ZbI Zb9 m).2,he x]
structure HvD where
 edge:Zg
 cnt:Int
 deriving DecidableEq,Inhabited
def rHv (x:HvD):List PV:=[.int .i64 x.edge.src,.int .i64 x.edge.dst,.int .i64 x.edge.kind,.int .i64 x.edge.key,.int .i64 x.cnt]
def cntA (A:List (Zg×Int)) (R:List Zg) (e:Zg):Int:=Znt A e+(R.count e:Int)
def Zgv (A:List (Zg×Int)) (R:List Zg):List Zg:=A.map Prod.fst++R
def Zg2 (A:List (Zg×Int)) (R:List Zg):List HvD:=(ZbK ltE (Zgv A R)).map fun e=>⟨e,cntA A R e⟩
theorem ZfJ {es:List (GE Zg Int)} {A:List (Zg×Int)} {R ks:List Zg} (hE:ZgK es A R) (hk:ks.Perm (es.map (·.key))):ZbK ltE ks=ZbK ltE (Zgv A R):=ZkH fun x=>by
 unfold Zgv
 rw [hk.mem_iff,YD,← hE.key x,Zfd]
theorem Zhc {A:List (Zg×Int)} {R:List Zg} : (Zg2 A R).length=(ZbK ltE (Zgv A R)).length:=YH _
theorem ZtY {l:List TxD} {id:Int} : (Z6 l id).isSome=isK TxD.id id l:=by
 unfold Z6 isK
 rw [Yar,List.find?_isSome,Yay]
theorem Zqj {g:Zw} (h:ZT g):NE g.orders:=fun o ho=>by
 have h2:=(Zdo g).2 h.2.2
 obtain ⟨j,hj,e⟩:=Yaa ho
 have:=(h2.2 j hj).2.1
 rwa [nth_eq hj,e] at this
theorem ZvO {g:Zw} {id:Int} (h:¬ ZT g):Z4 g id=(ZhV,5):=Yf h
theorem ZvJ {g:Zw} {id:Int} (h:ZT g) (h2:isK TxD.id id g.txs=false):Z4 g id=(ZhV,3):=by unfold Z4;rw [Yc (YaZ.2 h),Yf h2]
theorem ZvH {g:Zw} {id:Int} (h:ZT g) (h2:isK TxD.id id g.txs=true) (h3:Zhr g (ZcT id)=true):Z4 g id=(ZhV,7):=by unfold Z4;rw [Yc (YaZ.2 h),Yc (by simp [h2]),Yf h3]
structure EdD where
 kind:Int
 t:TxD
 o:ZP
 place:Int
 deriving DecidableEq,Inhabited
def Zpu (e:EdD):Prop:=e.t.ops.length≤24∧e.o.txs.length≤24
instance (e:EdD):Decidable (Zpu e):=by unfold Zpu;exact inferInstance
def ZsH (l:List EdD):Prop:=l.length≤24 ∧ ∀ e ∈ l,Zpu e
instance (l:List EdD):Decidable (ZsH l):=by unfold ZsH;exact inferInstance
theorem Zg7 {os:List ZP} {k:Int} : (Z3 (fun o:ZP=>decide (o.key=k)) os<0→getO os k = [])∧(¬ Z3 (fun o:ZP=>decide (o.key=k)) os<0 → ∃ i:Nat,Z3 (fun o:ZP=>decide (o.key=k)) os=i∧i<os.length∧getO os k=(Nn os i).txs):=by
 rcases Zaw (fun o:ZP=>decide (o.key=k)) os with ⟨h1,h2⟩ | ⟨i,h1,h2,h3,h4⟩
 ·exact ⟨fun _=>Ztu fun q hq=>by simpa using h2 q hq,fun h=>absurd (by rw [h1];decide) h⟩
 ·exact ⟨fun h=>by rw [h1] at h;omega,fun _=>⟨i,h1,h2,ZsQ h2 (by simpa using h3) fun q hq=>by simpa using h4 q hq⟩⟩
def Fit (n:Nat) (g:Zw):Prop:=(g.txs.length≤n ∧ ∀ t ∈ g.txs,t.ops.length≤24)∧g.orders.length≤24*n ∧ ∀ o ∈ g.orders,o.txs.length≤n
theorem Fit.small {n:Nat} {g:Zw} (h:Fit n g) (hn:n≤30):Zbs g:=by
 obtain ⟨⟨h1,h2⟩,h3,h4⟩:=h
 exact ⟨⟨by omega,fun t ht=>by have:=h2 t ht;omega⟩,by omega,fun o ho=>by have:=h4 o ho;omega⟩
theorem ZpC {os:List ZP} {ks:List Int} {t:TxD} {o:ZP} (h:o ∈ ZdF t os ks):o ∈ os∨o.txs = []:=by
 unfold ZdF at h
 split at h
 ·have key:∀ (ks:List Int) (os:List ZP),o ∈ ks.foldl Ze1 os→o ∈ os∨o.txs = []:=by
   intro ks
   induction ks with
   | nil=>intro os h;exact .inl h
   | cons k ks ih=>
    intro os h
    rcases ih _ h with h | h
    ·rcases ZkK h with h | h
     ·exact .inl h
     ·exact .inr (by rw [h])
    ·exact .inr h
  exact key ks os h
 ·exact .inl h
theorem ZmG {n:Nat} {t:TxD} {os:List ZP} (ht:t.ops.length≤24) (h1:os.length≤24*n) (h2:∀ o ∈ os,o.txs.length≤n):(ZaU t os).length≤24*(n+1) ∧ ∀ o ∈ ZaU t os,o.txs.length≤n+1:=by
 have hk:=Zea t
 have hl:(ZdF t os (Z7 t)).length≤os.length+(Z7 t).length:=by
  unfold ZdF
  split
  ·have key:∀ (ks:List Int) (os:List ZP),(ks.foldl Ze1 os).length≤os.length+ks.length:=by
    intro ks
    induction ks with
    | nil=>intro os;simp
    | cons k ks ih=>intro os;have h1:=ih (Ze1 os k);have h2:=Zl2 os k;rw [Yan,Yl];omega
   exact key _ _
  ·omega
 unfold ZaU
 refine ⟨Y0 (Y6 _ _) (by rw [YH];omega),fun o ho=>?_⟩
 obtain ⟨o',ho',e⟩:=Yw.1 (YT.1 ho).1
 have hlen:o'.txs.length≤n:=by
  rcases ZpC ho' with h | h
  ·exact h2 o' h
  ·rw [h];simp
 rw [← e]
 unfold Zj1
 show (if _ then _ else _:List Int).length≤_
 split
 ·unfold withO;split
  ·omega
  ·simp;omega
 ·unfold withoutO
  exact Y0 (Y6 _ _) ow
theorem Zqw (o:ZP) (key:Int):FnP prog 41 [.agg (ZJ o),.ref [.int .i64 key]] (.bool (decide (o.key=key))):=by
 refine FnP.mk func41 rfl ntmps41 rfl fun B a w F V hfr G=>Ya ?_
 refine Zb G (qx 101 r1 qB) V [3,2,1] [101,0] (fun _=>rfl) (fun _=>rfl) fun τ a w F G=>?_
 try dsimp only [RS.sub,SF.sub,CF.sub,csub,Anc.sub,List.map,zCF,Zx,rTx,ZJ,ZW,Zn,rOp] at G
 generalize τ 2=v2 at G
 refine Za (Ya (rZ G (qg 0 101 r1 r1 (qa 101 r1 r1 (qf (oR false 1 .t) r1 qz (qf (o_eql .t .t) r2 qz (qO rr qZ))))) V [3] [101,0] fun G=>Yh ?_))
 refine Zr hfr G rfl rfl rfl .refl
theorem ZrA (g:Zw) (key:Int) (hs:ZdB g.orders):FnP prog 16 [.agg (Zx g),.int .i64 key] (.sl Zn (getO g.orders key)):=by
 refine FnP.mk func16 rfl ntmps16 rfl fun B a w F V hfr G=>?_
 have hso:=hs.1
 refine Ya (Zb G (qx 101 r1 (qf (ZfF 102 .t one_int) r1 qz (qC qZ))) V [4,3,2] [102,101,0] (fun _=>rfl) (fun _=>rfl) fun τ a w F G=>?_)
 try dsimp only [RS.sub,SF.sub,CF.sub,csub,Anc.sub,List.map,zCF,Zx,rTx,ZJ,ZW,Zn,rOp] at G
 generalize τ 2=v2 at G
 generalize τ 3=v3 at G
 refine Za (Ya (Zap 2 G kr (cG rfl (oF 1 101 .is) r1 r1 (cG rfl (oL false 1 101 .adr) r1 r1 ChainN.nil)) kr (by rw [V];kernel_rfl) fun a w F G=>?_))
 obtain ⟨F,G⟩:=G.nM [7,4,3,2] [102,101,0]
 try dsimp only [List.map,xD,xE,xT,xU,ldSF,Zx,rTx,ZJ,ZW,Zn,rOp] at G
 obtain ⟨F,G⟩:=G.giveRef 102 3 rfl rfl rfl
 obtain ⟨F,G⟩:=G.nM [7,4,3,2] [101,0]
 try dsimp only [Go.Gm.unCF] at G
 refine ZaJ G kr (cG rfl (ZaK (Args.one .t)) r1 trivial (cG rfl (oP (ZpJ g.orders (fun o=>decide (o.key=key)) 41 f41 [.ref [.int .i64 key]] func41 rfl kr (fun o=>Zqw o key)) func40 (Args.two .t .t)) r2 trivial (cG rfl (oN .t) r1 trivial ChainN.nil))) kr (by rw [V];kernel_rfl) fun a w F G=>?_
 obtain ⟨F,G⟩:=G.nM [5,4,2] [101,0]
 try dsimp only [Zx,rTx,ZJ,ZW,Zn,rOp] at G
 refine Za (Ya (Ya (rZ G (qR rr (qf (ZaC .t qi) r1 qz qZ)) V [11,5,4,2] [101,0] fun G=>?_)))
 refine Zc G rfl (fun hc0=>?_) (fun hc0=>?_)
 ·have hg:[] = getO g.orders key:=(Zg7.1 (by simpa using hc0)).symm
  refine Ya (rZ G (qC qZ) V [5,4,2] [101,0] fun G=>(Yh (Zl ?_)))
  refine Zr hfr G rfl rfl rfl (by first | exact .sl hg | (rw [← hg];exact .nilSl))
 obtain ⟨fi,hfi,hfl,hfg⟩:=Zg7.2 (show ¬ Z3 (fun o:ZP=>decide (o.key=key)) g.orders<0 by simpa using hc0)
 have hg:(Nn g.orders (Z3 (fun o:ZP=>decide (o.key=key)) g.orders).toNat).txs=getO g.orders key:=by rw [hfi,Yb,hfg]
 refine Ye (Za (Ya (Ze G (qg 1 101 r1 r1 (qa 101 r1 r1 (qR rr (qf (o_indexAddr_sl (sz:=2) (.mk underlying23 kr) (by intro x;rfl) .t .t (by rw [hfi];omega) (by rw [hfi];omega)) r2 qz (qf (oG 1 .t) r1 qz (qf (oR false 1 .t) r1 qz (qf (oP (cloneIP_c _ (by rw [hfi,Yb];have:=hs.at hfl;omega)) func42 (Args.one .t)) r1 qz (qO rr qZ)))))))) V [4] [101,0] rfl rfl fun a w F G=>?_)))
 try simp only [Yb] at G
 refine Za (Yh (Zr hfr G rfl rfl rfl (by first | exact .sl hg | (rw [← hg];exact .nilSl))))
instance (l:List TxD):Decidable (ZaW l):=by unfold ZaW;exact inferInstance
instance (l:List ZP):Decidable (ZdB l):=by unfold ZdB;exact inferInstance
instance (g:Zw):Decidable (Zbs g):=by unfold Zbs;exact inferInstance
theorem ZcC {l:List TxD} {k x:Int} : x ∈ Z5 l k ↔ ∃ t ∈ l,t.id=x∧t.done=true∧0<wcnt t.ops k:=by
 unfold Z5
 rw [Yw]
 constructor
 ·rintro ⟨t,ht,e⟩
  rw [YT] at ht
  simp at ht
  exact ⟨t,ht.1,e,ht.2.1,ht.2.2⟩
 ·rintro ⟨t,ht,e,h1,h2⟩
  exact ⟨t,by rw [YT];simp [ht,h1,h2],e⟩
theorem ZcE {l:List TxD} (h:ZcR TxD.id l) (k:Int):(Z5 l k).Nodup:=by
 unfold Z5
 have h1:(l.map TxD.id).Nodup:=(YaY.2 (ZU.1 h)).imp fun h=>Int.ne_of_lt h
 exact (h1.sublist ((List.filter_sublist).map _))
theorem Zdt {l:List TxD} (h:ZcR TxD.id l) {t:TxD} (ht:t ∈ l):Z6 l t.id=some t:=by
 have h:=ZU.1 h
 induction l with
 | nil=>cases ht
 | cons x l ih=>
  rw [Yo] at h
  unfold Z6
  rw [Yb2]
  rcases Yk.1 ht with rfl | ht
  ·simp
  ·have:=h.1 t ht
   rw [show decide (x.id=t.id)=false by simp;omega]
   exact ih (ZU.2 h.2) ht h.2
theorem Zrb {l:List TxD} {id:Int} (h:∀ t ∈ l,t.id≠id):Z6 l id=none:=by
 unfold Z6
 exact Ybu.2 fun t ht=>by simpa using h t ht
theorem Zcj {g:Zw} : ZT g ↔ g.txs.length≤4096∧ZcR TxD.id g.txs∧(∀ t ∈ g.txs,Zbo t=0∧Zg9 g t=true)∧ZcR ZP.key g.orders∧NE g.orders ∧ ∀ k,(getO g.orders k).Perm (Z5 g.txs k):=by
 constructor
 ·intro h
  obtain ⟨r1',r2'⟩:=Zaz h
  have hne:=Zqj h
  have h2:=(Zdo g).2 h.2.2
  refine ⟨h.1,r1',fun t ht=>?_,r2',hne,fun k=>?_⟩
  ·obtain ⟨j,hj,e⟩:=Yaa ht
   have:=(h.2.1 j hj).2
   rwa [nth_eq hj,e] at this
  ·by_cases hk:getO g.orders k = []
   ·rw [hk]
    have hw:Z5 g.txs k = []:=by
     refine Decidable.byContradiction fun hw=>?_
     obtain ⟨j,hj,e⟩:=Yaa (Zc1.2 hw)
     have hjo:j<g.orders.length:=by rw [h.2.2.1];exact hj
     have h3:=(h.2.2.2 j hjo).1
     rw [nth_eq hj,e] at h3
     have h4:=Zel (ZU.1 r2') (nth_mem hjo)
     rw [h3,hk] at h4
     exact hne _ (nth_mem hjo) h4.symm
    rw [hw]
   ·have hm:=ZhQ hk
    obtain ⟨j,hj,e⟩:=Yaa hm
    have:=(h2.2 j hj).2.2
    rw [nth_eq hj,e] at this
    exact this
 ·rintro ⟨h1,h2,h3,h4,h5,h6⟩
  have hk:g.orders.map ZP.key=ZcA g.txs:=by
   refine ZeF (YaY.2 (ZU.1 h4)) (ZX _).1 fun k=>?_
   rw [Zc1,Yw]
   constructor
   ·rintro ⟨o,ho,rfl⟩ e
    have:=h6 o.key
    rw [e,Zel (ZU.1 h4) ho] at this
    exact h5 o ho this.eq_nil
   ·intro e
    have:getO g.orders k≠[]:=fun e2=>by
     have:=h6 k
     rw [e2] at this
     exact e this.symm.eq_nil
    exact ⟨_,ZhQ this,rfl⟩
  have hlen:g.orders.length=(ZcA g.txs).length:=by rw [← hk,YH]
  refine ⟨h1,fun i hi=>?_,(Zdo g).1 ⟨hlen,fun i hi=>?_⟩⟩
  ·obtain ⟨g1,g2⟩:=h3 _ (nth_mem hi)
   exact ⟨fun h0=>h2 (i - 1) i ow hi,g1,g2⟩
  ·refine ⟨fun h0=>h4 (i - 1) i ow hi,h5 _ (nth_mem hi),?_⟩
   have:=h6 (Nn g.orders i).key
   rwa [Zel (ZU.1 h4) (nth_mem hi)] at this
theorem ZoL {t:TxD} {l:List Int} {k x:Int} : x ∈ Zjg t l k ↔ (x ∈ l∧x≠t.id)∨(x=t.id∧t.done=true∧0<wcnt t.ops k):=by
 unfold Zjg
 by_cases h:t.done=true∧0<wcnt t.ops k
 ·rw [Yf h]
  unfold withO
  split
  ·rename_i hi
   constructor
   ·intro hx
    by_cases e:x=t.id
    ·exact .inr ⟨e,h⟩
    ·exact .inl ⟨hx,e⟩
   ·rintro (⟨hx,_⟩ | ⟨rfl,_⟩)
    ·exact hx
    ·exact hi
  ·rename_i hi
   rw [YD,Yj]
   constructor
   ·rintro (hx | hx)
    ·exact .inl ⟨hx,fun e=>hi (e ▸ hx)⟩
    ·exact .inr ⟨hx,h⟩
   ·rintro (⟨hx,_⟩ | ⟨e,_⟩)
    ·exact .inl hx
    ·exact .inr e
 ·rw [Yc h]
  unfold withoutO
  rw [YT,Yu]
  exact ⟨fun h1=>.inl h1,fun h1=>h1.elim id fun h2=>absurd h2.2 h⟩
theorem ZjY {t:TxD} {l:List Int} (h:l.Nodup) (k:Int):(Zjg t l k).Nodup:=by
 unfold Zjg
 split
 ·unfold withO
  split
  ·exact h
  ·rename_i hi
   rw [YbB]
   exact ⟨h,by simp,fun a ha b hb=>by rw [Yj] at hb;subst hb;exact fun e=>hi (e ▸ ha)⟩
 ·exact h.filter _
theorem Zme {g:Zw} {t:TxD} {b:Bool} {l:List TxD} (hR:ZT g) (hs:ZdB g.orders) (hr:ZcR TxD.id l) (hl:l.length≤4096) (hM:∀ s,s ∈ l ↔ (s ∈ g.txs∧s.id≠t.id)∨(s=t∧b=true))
  (ht:b=true→Zbo t=0∧Zg9 g t=true) (hb:b=false→t.done=false)
  (hu:∀ x ∈ l,∀ v ∈ Zbn x,v.tx=t.id→ZjR g v=true→¬ (v.tx=0∧v.nth=0)→b=true∧v.nth≤(wcnt t.ops v.key:Int)):ZT ⟨l,ZaU t g.orders⟩:=by
 obtain ⟨h1,h2,h3,h4,h5,h6⟩:=Zcj.1 hR
 obtain ⟨s1,s2⟩:=Zkf (t:=t) h4 hs
 have hhas:∀ x ∈ l,∀ v ∈ Zbn x,ZjR g v=true→ZjR ⟨l,ZaU t g.orders⟩ v=true:=by
  intro x hx v hv hg
  by_cases hz:v.tx=0∧v.nth=0
  ·unfold ZjR at hg ⊢
   rw [Yf hz] at hg ⊢
   exact hg
  ·have hu2:=hu x hx v hv
   unfold ZjR at hg hu2 ⊢
   rw [Yc hz] at hg hu2 ⊢
   by_cases e:v.tx=t.id
   ·obtain ⟨b1,b2⟩:=hu2 e hg hz
    have hm:t ∈ l:=(hM t).2 (.inr ⟨rfl,b1⟩)
    have hf:=Zdt hr hm
    simp only [Yr,Yu] at hg ⊢
    show _∧_
    rw [e,hf]
    exact ⟨rfl,hg.2.1,b2⟩
   ·have hf:Z6 l v.tx=Z6 g.txs v.tx:=by
     cases hc:Z6 g.txs v.tx with
     | none=>
      refine Zrb fun s hsl es=>?_
      rcases (hM s).1 hsl with ⟨m1,m2⟩ | ⟨rfl,_⟩
      ·have:=Zdt h2 m1
       rw [es,hc] at this;cases this
      ·exact e es.symm
     | some s=>
      obtain ⟨m1,m2⟩:=findT_mem hc
      have hm:s ∈ l:=(hM s).2 (.inl ⟨m1,by rw [m2];exact e⟩)
      have:=Zdt hr hm
      rwa [m2] at this
    show (((Z6 l v.tx).isSome && _):Bool)=true
    rw [hf];exact hg
 refine Zcj.2 ⟨hl,hr,fun x hx=>?_,ZU.2 s1,s2,fun k=>?_⟩
 ·have hx2:Zbo x=0∧Zg9 g x=true:=by
   rcases (hM x).1 hx with ⟨m1,_⟩ | ⟨rfl,b1⟩
   ·exact h3 x m1
   ·exact ht b1
  refine ⟨hx2.1,?_⟩
  have h7:=hx2.2
  unfold Zg9 at h7 ⊢
  rw [YaU] at h7 ⊢
  exact fun v hv=>hhas x hx v hv (h7 v hv)
 ·rw [ZgM h4 k]
  have hn:(getO g.orders k).Nodup:=(h6 k).symm.nodup (ZcE h2 k)
  refine (List.perm_ext_iff_of_nodup (ZjY hn k) (ZcE hr k)).2 fun x=>?_
  rw [ZoL,ZcC,(h6 k).mem_iff,ZcC]
  constructor
  ·rintro (⟨⟨s,m1,m2,m3,m4⟩,m5⟩ | ⟨rfl,m3,m4⟩)
   ·exact ⟨s,(hM s).2 (.inl ⟨m1,by rw [m2];exact m5⟩),m2,m3,m4⟩
   ·refine ⟨t,(hM t).2 (.inr ⟨rfl,?_⟩),rfl,m3,m4⟩
    cases b with
    | true=>rfl
    | false=>rw [hb rfl] at m3;cases m3
  ·rintro ⟨s,m1,m2,m3,m4⟩
   rcases (hM s).1 m1 with ⟨m5,m6⟩ | ⟨rfl,_⟩
   ·exact .inl ⟨⟨s,m5,m2,m3,m4⟩,by rw [← m2];exact m6⟩
   ·exact .inr ⟨m2.symm,m3,m4⟩
theorem ZoW {g:Zw} {v:ZbT} (h:ZjR g v=true) (hz:¬ (v.tx=0∧v.nth=0)):isK TxD.id v.tx g.txs=true∧1≤v.nth:=by
 unfold ZjR at h
 rw [Yc hz,Yr,Yr,ZtY] at h
 exact ⟨h.1,by simpa using h.2.1⟩
theorem ZsJ {g:Zw} {t x:TxD} {v:ZbT} (h:Zhr g t=false) (hx:x ∈ g.txs) (hn:x.id≠t.id) (hv:v ∈ Zbn x) (e:v.tx=t.id):v.nth≤(wcnt t.ops v.key:Int):=by
 have h1:=Ybi.1 h x hx
 unfold Zmt at h1
 rw [Yac hn,Ya2] at h1
 have h2:=Ybi.1 (by simpa using h1) v hv
 unfold Zni at h2
 simp [e] at h2
 omega
theorem Ziz {g:Zw} {id:Int} (hs:Zbs g) (h:(Z4 g id).2=0):ZT (Z4 g id).1:=by
 unfold Z4 at h ⊢
 split at h
 ·simp at h
 ·rename_i h1
  split at h
  ·simp at h
  ·rename_i h2
   split at h
   ·simp at h
   ·rename_i h3
    have hr:=YaZ.1 h1
    have hik:isK TxD.id id g.txs=true:=by simpa using h2
    have hri:=(Zaz hr).1
    rw [Yc h1,Yc h2,Yc h3,← Zhh (ZU.1 hri) hik]
    refine Zme (b:=false) hr hs.2 (ZU.2 ((ZU.1 hri).filter _)) (Y0 (Y6 _ _) hr.1) (fun s=>?_) (fun h=>by cases h) (fun _=>rfl) fun x hx v hv e hg hz=>?_
    ·rw [YT];simp [ZcT]
    ·rw [YT] at hx
     have h5:=ZsJ (t:=ZcT id) (by simpa using h3) hx.1 (by simpa [ZcT] using hx.2) hv e
     have h6:=(ZoW hg hz).2
     have h7:wcnt (ZcT id).ops v.key=0:=rfl
     rw [h7] at h5
     omega
structure Zp9 where
 tx:Int
 place:Int
 vof:ZbT
 deriving DecidableEq,Inhabited
def Zic (b:Zp9):List PV:=[.int .i64 b.tx,.int .i64 b.place,.int .i64 b.vof.tx,.int .i64 b.vof.key,.int .i64 b.vof.nth]
def uOf (g:Zw) (o:OpD):TxD:=(Z6 g.txs o.tx).getD zeroT
def Zjz (t u:TxD) (o:OpD) (phen:Int):Bool:=t.done && (if phen=2 then !u.done else decide (phen=3) && decide (o.nth<(wcnt u.ops o.key:Int)))
def Znk (g:Zw) (phen:Int) (t:TxD) (o:OpD):Bool:=Zey t.id o && Zjz t (uOf g o) o phen
def Zc3 (g:Zw) (phen:Int) (p:Int→Bool) (t:TxD) (l:List OpD):List Zp9:=(l.zipIdx.filter fun x=>p x.1.key && Znk g phen t x.1).map fun x=>⟨t.id,(x.2:Int),ofO x.1⟩
theorem ZdQ {g:Zw} {phen:Int} {p:Int→Bool} {t:TxD} {l:List OpD} {j:Nat} (hj:j<l.length):Zc3 g phen p t (l.take (j+1))=Zc3 g phen p t (l.take j)++if (p (Nn l j).key && Znk g phen t (Nn l j))=true then [⟨t.id,j,ofO (Nn l j)⟩] else []:=by
 unfold Zc3
 rw [Zp hj,List.zipIdx_append,Yai,YP]
 congr 1
 rw [Yi,show min j l.length=j by omega]
 by_cases h:(p (Nn l j).key && Znk g phen t (Nn l j))=true
 ·rw [Yf h,List.zipIdx_cons,Yae (by simpa using h)];simp
 ·rw [Yc h,List.zipIdx_cons,Yag (by simpa using h)];simp
theorem ZgX (g:Zw) (phen:Int) (p:Int→Bool) (t:TxD) (l:List OpD):(Zc3 g phen p t l).length≤l.length:=by
 unfold Zc3
 rw [YH]
 exact Y0 (Y6 _ _) (by simp)
def badsG (g:Zw) (phen:Int) (p:Int→Bool) (l:List TxD):List Zp9:=l.flatMap fun t=>Zc3 g phen p t t.ops
theorem Zng {g:Zw} {phen:Int} {p:Int→Bool} {l:List TxD} {i:Nat} (hi:i<l.length):badsG g phen p (l.take (i+1))=badsG g phen p (l.take i)++Zc3 g phen p (Nn l i) (Nn l i).ops:=by
 unfold badsG
 rw [Zp hi,YV]
 simp
theorem Zk3 {g:Zw} {phen:Int} {p:Int→Bool} {l:List TxD} (h:ZaW l) (i:Nat):(badsG g phen p (l.take i)).length≤1000*i:=by
 have key:∀ l:List TxD,(∀ t ∈ l,t.ops.length≤1000)→(badsG g phen p l).length≤1000*l.length:=by
  intro l
  induction l with
  | nil=>intro _;simp [badsG]
  | cons t l ih=>
   intro h
   have h1:=ih fun x hx=>h x (by simp [hx])
   have h2:=h t (by simp)
   have h3:=ZgX g phen p t t.ops
   unfold badsG at h1 ⊢
   rw [Y4,Yd,Yl]
   omega
 have h1:=key (l.take i) fun t ht=>h.2 t (YaM ht)
 have h2:(l.take i).length≤i:=by rw [Yi];omega
 exact Y0 h1 (Ybk _ h2)
def ZaT (g:Zw) (phen:Int) (p:Int→Bool):List Zp9:=if ZT g then badsG g phen p g.txs else []
theorem Zoc {g:Zw} (hr:∀ i,i<g.txs.length→Znj g i):Zdz (g.txs.map TxD.id):=ZfH fun i hi h0=>by
 have hi':i<g.txs.length:=by simpa using hi
 rw [ZcL ow,ZcL hi']
 exact (hr i hi').1 h0
theorem ZuR {g:Zw} (hr:∀ i,i<g.txs.length→Znj g i) {i k:Nat} (hi:i<g.txs.length) (hk:k<i):(Nn g.txs k).id<(Nn g.txs i).id:=by
 have h:=YaL.1 (Zoc hr) k i (by simp;omega) (by simpa using hi) hk
 rw [nth_eq hi,nth_eq ow]
 simpa using h
def Zue (es:List (GE Int TxD)) (l:List TxD):Prop:=∀ id,gGet id es=Z6 l id
theorem Zt2 {g:Zw} (hr:∀ i,i<g.txs.length→Znj g i) {es:List (GE Int TxD)} {ck i:Nat} (h:Zue es (g.txs.take i)) (hi:i<g.txs.length):Zue (gPut (Nn g.txs i).id (Nn g.txs i) (es,ck)).1 (g.txs.take (i+1)):=fun id=>by
 rw [Zdm,h id]
 unfold Z6
 rw [Zp hi,List.find?_append]
 by_cases e:id=(Nn g.txs i).id
 ·subst e
  have hn:(g.txs.take i).find? (fun t=>decide (t.id=(Nn g.txs i).id))=none:=by
   rw [Ybu]
   intro x hx
   obtain ⟨k,hk,e⟩:=Yaa hx
   rw [Yi] at hk
   have:=ZuR hr hi (show k<i by omega)
   rw [nth_eq ow] at this
   rw [List.getElem_take] at e
   rw [e] at this
   simp;omega
  simp [hn]
 ·rw [Yc e]
  have hn:[Nn g.txs i].find? (fun t=>decide (t.id=id))=none:=by simp;exact fun h=>e h.symm
  rw [hn];simp
def Zuu (x:Int):List PV:=[.int .u64 x]
def bitAt (ws:List Int) (j:Nat):Bool:=(Nn ws (j / 64)).toNat.testBit (j % 64)
def ZjH (ws:List Int) (j:Nat):List Int:=ws.set (j / 64) (((Nn ws (j / 64)).toNat ^^^ 2 ^ (j % 64):Nat):Int)
def hasW (n:Nat) (ws:List Int) (i:Int):Bool:=(decide (0≤i) && decide (i<n)) && bitAt ws i.toNat
def Zsv (n:Nat) (ws:List Int) (i:Int) (on:Bool):Bool:=(decide (0≤i) && decide (i<n)) && (hasW n ws i != on)
def setW (n:Nat) (ws:List Int) (i:Int) (on:Bool):List Int:=if Zsv n ws i on then ZjH ws i.toNat else ws
structure ZdT (n:Nat) (ws:List Int):Prop where
 hi:n≤65536
 len:ws.length=(n+63) / 64
 wd:∀ k,0≤Nn ws k∧Nn ws k<18446744073709551616
def Zqz (v wv:Value) (n:Nat) (ws:List Int):List RS:=[.pt (.val v) 274 [.pv (.int .i64 n),.pv (.is wv)],.ob (.val wv) (Zu 175 1 Zuu ws)]
def ZhY (v:Value) (n:Nat) (ws:List Int):HP:=.ex fun wv:Value=>.and (ZdT n ws) (.star (Zqz v wv n ws))
theorem ZnK {v:Value} {n:Nat} {ws:List Int} {w:World} {f y:Ys} (h:(ZhY v n ws).p w f y):ZdT n ws ∧ ∃ b,v = .pointer (some ⟨b,0,none⟩):=by
 obtain ⟨_,hI,h⟩:=h
 exact ⟨hI,HP.star_pt h⟩
theorem shr6 (i:Int):i.fdiv (2 ^ min (6:Int).toNat (IntKind.bits .i64))=i / 64:=YaQ i (by decide)
theorem and63 (i:Int) (h:0≤i∧i≤9223372036854775807):bits .and .i64 i 63=i % 64:=by
 obtain ⟨X,rfl⟩:=Yaf h.1
 have h1:(BitVec.ofInt 64 (X:Int)).toNat=X:=by rw [YaF];omega
 have h2:(BitVec.ofInt 64 (63:Int)).toNat=2 ^ 6 - 1:=by decide
 show IntKind.wrap .i64 (((BitVec.ofInt 64 (X:Int) &&& BitVec.ofInt 64 63).toNat:Nat):Int)=_
 rw [Ybp,h1,h2,YaR,ZA ow]
 omega
theorem and1 (x:Int) (h:0≤x∧x<18446744073709551616):bits .and .u64 x 1=x % 2:=by
 obtain ⟨X,rfl⟩:=Yaf h.1
 have h1:(BitVec.ofInt 64 (X:Int)).toNat=X:=by rw [YaF];omega
 have h2:(BitVec.ofInt 64 (1:Int)).toNat=2 ^ 1 - 1:=by decide
 show IntKind.wrap .u64 (((BitVec.ofInt 64 (X:Int) &&& BitVec.ofInt 64 1).toNat:Nat):Int)=_
 rw [Ybp,h1,h2,YaR,Zan ow]
 omega
theorem xor64 (x y:Nat) (hx:x<18446744073709551616) (hy:y<18446744073709551616):bits .xor .u64 (x:Int) (y:Int)=((x ^^^ y:Nat):Int):=by
 have h1:(BitVec.ofInt 64 (x:Int)).toNat=x:=by rw [YaF];omega
 have h2:(BitVec.ofInt 64 (y:Int)).toNat=y:=by rw [YaF];omega
 show IntKind.wrap .u64 (((BitVec.ofInt 64 (x:Int) ^^^ BitVec.ofInt 64 (y:Int)).toNat:Nat):Int)=_
 rw [BitVec.toNat_xor,h1,h2]
 exact Zan (by have:=Nat.xor_lt_two_pow (n:=64) hx hy;omega)
theorem Ztl {x:Int} (h:0≤x∧x<18446744073709551616) (i:Int) (hi:0≤i∧i≤9223372036854775807):decide (bits .and .u64 (x.fdiv (2 ^ min (IntKind.wrap .u64 (bits .and .i64 i 63)).toNat (IntKind.bits .u64))) 1=1)=x.toNat.testBit (i.toNat % 64):=by
 obtain ⟨X,rfl⟩:=Yaf h.1
 obtain ⟨I,rfl⟩:=Yaf hi.1
 rw [and63 _ hi,Zan ow,Yb,Yb]
 have e1:min ((I:Int) % 64).toNat (IntKind.bits .u64)=I % 64:=by simp only [IntKind.bits];omega
 rw [e1,YaQ _ (by exact_mod_cast Yx _)]
 have e2:(X:Int) / 2 ^ (I % 64)=((X / 2 ^ (I % 64):Nat):Int):=by norm_cast
 have hle:X / 2 ^ (I % 64)≤X:=Nat.div_le_self _ _
 rw [e2,Nat.testBit_eq_decide_div_mod_eq]
 generalize X / 2 ^ (I % 64)=q at hle ⊢
 rw [and1 _ ow]
 exact decide_eq_decide.2 ow
theorem ZdT.at {n:Nat} {ws:List Int} (h:ZdT n ws) (i:Int) (h0:0≤i) (h1:i<n):0≤i / 64∧i / 64<ws.length:=by have:=h.len;omega
theorem u64_nonneg (x:Int):0≤IntKind.wrap .u64 x:=by rw [Zal];omega
theorem and_iff {a b:Prop} [Decidable a] [Decidable b] (h:(decide a && decide b)=true):a∧b:=by simpa using h
theorem ZuW (n:Nat) (p:PV):FnP prog 246 [.ref [.int .i64 n,p]] (.int .i64 n):=by
 refine FnP.mk func246 rfl ntmps246 rfl fun B a w F V hfr G=>Ya ?_
 refine rZ G (qI qZ) V [2,0] [0] fun G=>(Ya (Ya ?_))
 refine rZ G (qR rr (qf (Zcm underlying229 .t) r1 qz qZ)) V [4,2,0] [0] fun G=>?_
 refine Zc G rfl (fun hc0=>?_) (fun hc0=>?_)
 ·simp at hc0
 refine Ye (Za (Ya (rZ G (qR rr (qf (ZD .t) r1 qz (qf (oG 0 .t) r1 qz (qf (oR false 1 .t) r1 qz (qO rr qZ))))) V [2] [0] fun G=>Yh ?_)))
 refine Zr hfr G rfl rfl rfl .refl
theorem Zon (n:Nat) (p:PV) (i:Int):FnP prog 225 [.ref [.int .i64 n,p],.int .i64 i] (.bool (decide (0≤i) && decide (i<n))):=by
 refine FnP.mk func225 rfl ntmps225 rfl fun B a w F V hfr G=>Ya ?_
 refine rZ G qB V [4,1,0] [0] fun G=>Ya ?_
 refine rZ G (qR rr (qf (Zbp .t qi) r1 qz (qR rr (qm rfl rfl rfl rfl (qm rfl rfl rfl rfl (qk rfl (fun h=>oP (ZuW n p) func246 (Args.one (.w h))) r2 qz (qk rfl (fun h=>ZaC (.w h) (.w h)) r3 qz (qf (ZE .t .t) r2 qz (qO rr qZ))))))))) V [4] [0] fun G=>Yh ?_
 refine Zr hfr G rfl rfl rfl .refl
theorem Int.toNat_ediv_64 {i:Int} (h:0≤i):(i / 64).toNat=i.toNat / 64:=by omega
theorem ZdI {a b:Prop} [Decidable a] [Decidable b] (h:¬ (a∧b)):(decide a && decide b)=false:=by rw [← Yb0];exact YB h
theorem ZsA (n:Nat) (ws:List Int) (hI:ZdT n ws) (i:Int):FnP prog 202 [.ref [.int .i64 n,.sl Zuu ws],.int .i64 i] (.bool (hasW n ws i)):=by
 refine FnP.mk func202 rfl ntmps202 rfl fun B a w F V hfr G=>Ya ?_
 refine rZ G qB V [4,1,0] [0] fun G=>Ya ?_
 refine rZ G (qR rr (qR rr (qf (oP (Zon n _ i) func225 (Args.two .t .t)) r2 qz (qR rr (qm rfl rfl rfl rfl (qk rfl (fun h=>ZD (.w h)) r2 qz (qk rfl (fun h=>oG 1 (.w h)) r2 qz (qk rfl (fun h=>oR false 1 (.w h)) r2 qz (qm rfl rfl rfl rfl (qk rfl (fun h=>Zcg (.w h) qi (by decide)) r2 qz (qk rfl (fun h=>o_indexAddr_sl (sz:=1) (.mk underlying272 kr) (by intro x;rfl) (.w h) (.w h) (by rw [shr6];exact (hI.at i (and_iff h).1 (and_iff h).2).1) (by rw [shr6];exact (hI.at i (and_iff h).1 (and_iff h).2).2)) r3 qz (qk rfl (fun h=>oR false 1 (.w h)) r2 qz (qm rfl rfl rfl rfl (qk rfl (fun h=>o_and (.w h) qi) r2 qz (qk rfl (fun h=>o_conv underlying162 kr (.w h)) r2 qz (qk rfl (fun h=>Zcg (.w h) (.w h) (u64_nonneg _)) r3 qz (qk rfl (fun h=>o_and (.w h) qi) r2 qz (qk rfl (fun h=>o_eql (.w h) qi) r2 qz (qf (ZE .t .t) r2 qz (qO rr qZ)))))))))))))))))))) V [4] [0] fun G=>Yh ?_
 refine Zr hfr G rfl rfl rfl (.bool (by unfold hasW bitAt;by_cases hb:0≤i∧i<n; (rw [shr6,Ztl (hI.wd _) i (by have:=hI.hi;omega),Int.toNat_ediv_64 hb.1]); (simp only [ZdI hb,Bool.false_and])))
def rowN (m:Int):Nat:=(if m<0 then 0 else if m > 65536 then 65536 else m).toNat
theorem ZhA (m:Int):rowN m≤65536:=by unfold rowN;split; (· omega);split <;> omega
theorem Ztq (m:Int):(if 65536<(if m<0 then 0 else m) then 65536 else if m<0 then 0 else m)=((rowN m:Nat):Int):=by unfold rowN;split <;> split <;> (try split) <;> omega
def ZhX (m:Int):List Int:=List.replicate ((rowN m+63) / 64) 0
theorem ZnO (k j:Nat):Nn (List.replicate k (0:Int)) j=0:=by
 by_cases h:j<k
 ·rw [nth_eq (by simpa using h)];simp
 ·unfold Nn;rw [YaG,YbL (by simp;omega)];rfl
theorem Zk6 (m:Int):ZdT (rowN m) (ZhX m):=⟨ZhA m,by simp [ZhX],fun k=>by unfold ZhX;rw [ZnO];omega⟩
theorem Zrz (m:Int):(IntKind.wrap .i64 (((rowN m:Nat):Int)+63)).fdiv (2 ^ min (6:Int).toNat (IntKind.bits .i64))=(((rowN m+63) / 64:Nat):Int):=by
 have:=ZhA m
 rw [shr6,ZA ow];omega
theorem Zr0 (w:World) (yy:Ys):PVs (Zuu 0) [.int .u64 0] w yy:=⟨⟨rfl,rfl,by simp [inR,IntKind.min,IntKind.max,IntKind.signed,IntKind.bits]⟩,tv⟩
theorem ZiG (ws:List Int) (j:Nat):(ZjH ws j).length=ws.length:=by simp [ZjH]
theorem ZlO {ws:List Int} {i j:Nat} {c:Int} (h:j<ws.length):Nn (ws.set i c) j=if i=j then c else Nn ws j:=by
 rw [nth_eq (by simpa using h),nth_eq h,YbT]
theorem ZjW {ws:List Int} {j:Nat} (h:ws.length≤j):Nn ws j=0:=by unfold Nn;rw [YaG,YbL h];rfl
theorem Zm4 {x:Int} (h:0≤x∧x<18446744073709551616) (k:Nat) (hk:k<64):0≤(((x.toNat ^^^ 2 ^ k:Nat)):Int)∧(((x.toNat ^^^ 2 ^ k:Nat)):Int)<18446744073709551616:=by
 have h1:x.toNat<2 ^ 64:=by omega
 have h2:2 ^ k<2 ^ 64:=Nat.pow_lt_pow_right (by decide) hk
 have:=Nat.xor_lt_two_pow h1 h2
 omega
theorem ZdT.flip {n:Nat} {ws:List Int} (h:ZdT n ws) (j:Nat):ZdT n (ZjH ws j):=by
 refine ⟨h.hi,by rw [ZiG];exact h.len,fun k=>?_⟩
 by_cases hk:k<ws.length
 ·unfold ZjH
  rw [ZlO hk]
  split
  ·exact Zm4 (h.wd _) _ (Ybo _ (by decide))
  ·exact h.wd k
 ·rw [ZjW (by rw [ZiG];omega)];omega
theorem ZdT.setW {n:Nat} {ws:List Int} (h:ZdT n ws) (i:Int) (on:Bool):ZdT n (setW n ws i on):=by
 unfold Go.Proofs.YtlkpllemoepamaaGreat.setW
 split
 ·exact h.flip _
 ·exact h
theorem Zpj {x:Int} (h:0≤x∧x<18446744073709551616) (i:Int) (hi:0≤i∧i≤9223372036854775807):bits .xor .u64 x (IntKind.wrap .u64 (1*2 ^ min (IntKind.wrap .u64 (bits .and .i64 i 63)).toNat (IntKind.bits .u64)))=((x.toNat ^^^ 2 ^ (i.toNat % 64):Nat):Int):=by
 obtain ⟨X,rfl⟩:=Yaf h.1
 obtain ⟨I,rfl⟩:=Yaf hi.1
 rw [and63 _ hi,Zan (by omega:0≤((I:Int) % 64)∧(I:Int) % 64≤_),Yb,Yb]
 have e1:min ((I:Int) % 64).toNat (IntKind.bits .u64)=I % 64:=by simp only [IntKind.bits];omega
 have h2:2 ^ (I % 64)<2 ^ 64:=Nat.pow_lt_pow_right (by decide) (Ybo _ (by decide))
 have e2:(1:Int)*2 ^ (I % 64)=((2 ^ (I % 64):Nat):Int):=by rw [Int.one_mul];norm_cast
 rw [e1,e2]
 generalize 2 ^ (I % 64)=q at h2 ⊢
 rw [Zan ow,xor64 X q ow ow]
theorem Zvc (m:Int):FnG prog 162 1 [.int .i64 m] [.star []] (PV.ptr) (fun v=>[ZhY v (rowN m) (ZhX m)]):=by
 refine FnG.mk func162 rfl ntmps162 rfl kr fun B F0 a w F V hG G=>?_
 have hr:=Ztq m
 refine Ya (rZ G (qC qZ) V [2,0] [1,0] fun G=>Ya ?_)
 refine Ze G (qR rr (qf (Zpn .t qi) r1 qz (qf (o_min .t qi) r1 qz (qO rr qZ)))) V [2,0] [1,0] rfl rfl fun a w F G=>?_
 rw [hr] at G
 refine Za (Ya (Zb G (qR rr (qR rr (qp r1 (qf (Zcg .t qi (by decide)) r1 qz (qf (ZaI (R:=Zuu) (v:=0) (c:=(IntKind.wrap .i64 (((rowN m:Nat):Int)+63)).fdiv (2 ^ min (6:Int).toNat (IntKind.bits .i64))) (sz:=1) (bs:=8) (zs:=[.int .u64 0]) 101 underlying272 kr kr kr Zr0 .t .t (by rw [Zrz];exact Yav _) (by have:=ZhA m;rw [Zrz];omega) (by have:=ZhA m;rw [Zrz];omega)) r2 qz (qf (oB [(0,.tmp 6),(1,.tmp 10)] [.int .i64 0,.slice none 0 0] [(0,1),(1,1)] (.one rfl .t one_int kr (.same rfl kr .nil))) r2 qz (qf (oX 102 .t) r1 qz (qO rr qZ)))))))) V [2] [102,101,1,0] (fun _=>rfl) (fun _=>rfl) fun τ a w F G=>?_))
 try dsimp only [RS.sub,SF.sub,CF.sub,csub,Anc.sub,List.map,Zf,xL,xM,Nat.reduceAdd,xD,xE,xT,xU,xC,xN,zCF] at G
 generalize τ 12=v12 at G
 generalize τ 10=v10 at G
 rw [Zrz,Yb] at G
 refine Za (Yh ?_)
 obtain ⟨b,rfl⟩:=G.shape 102 rfl
 obtain ⟨F,G⟩:=G.push 1 101 rfl rfl rfl kr
 obtain ⟨F,G⟩:=G.push 1 102 rfl rfl rfl kr
 have G:=G.turn 1 rfl (r':=RS.hp (ZhY (.pointer (some ⟨b,0,none⟩)) (rowN m) (ZhX m))) (fun _ _ _ _ h=>⟨_,Zk6 m,h⟩)
 refine Z2 (h':=fun v=>ZhY v (rowN m) (ZhX m)) hG G rfl (.tmp rfl .nil) (.one .ptr) rfl
theorem Zvw (b n:Nat) (ws:List Int) (i:Int) (on:Bool):FnG prog 222 1 [.is (.pointer (some ⟨b,0,none⟩)),.int .i64 i,.bool on] [ZhY (.pointer (some ⟨b,0,none⟩)) n ws] (.bool (Zsv n ws i on)) (fun _=>[ZhY (.pointer (some ⟨b,0,none⟩)) n (setW n ws i on)]):=by
 refine FnG.mk func222 rfl ntmps222 rfl kr fun B F0 a w F V hG G=>?_
 obtain ⟨wv,G⟩:=G.open_ex 1 rfl
 obtain ⟨hI,G⟩:=G.open_and 1 rfl
 obtain ⟨F,G⟩:=G.peel 1 2 rfl rfl
 obtain ⟨F,G⟩:=G.peel 1 3 rfl rfl
 obtain ⟨F,G⟩:=G.nM [2,1,0] [3,2,0]
 refine Ya (rZ G qB V [6,2,1,0] [3,2,0] fun G=>(Ya (Ya ?_)))
 refine rZ G (qR rr (qR rr (qf (ZhH (cells:=[.pv _,.pv _]) 2 (Zon n _ i) (fun _ _ _ _ _ h=>h) rfl func225 rfl kr (Zaf.two .is .t)) r2 r1 (qf (o_not .t) r1 qz (qR rr (qm rfl rfl rfl rfl (qm rfl rfl rfl rfl (qk rfl (fun h=>ZbX (cells:=[.pv _,.pv (.is wv)]) 2 3 1 (ZsA n ws hI i) (fun _ _ _ _ _ h=>h) rfl func202 rfl kr rfl rfl (Zaf.two (.w h .is) (.w h))) r3 r2 (qm rfl rfl rfl rfl (qk rfl (fun h=>ZuV underlying4 (.w h) (.w h)) r3 qz (qf (ZaA .t .t) r2 qz qZ))))))))))) V [17,6,1,0] [3,2,0] fun G=>?_
 refine Zc G rfl (fun hc0=>?_) (fun hc0=>?_)
 ·have hs:Zsv n ws i on=false:=by unfold Zsv;revert hc0;cases (decide (0≤i) && decide (i<n)) <;> cases hasW n ws i <;> cases on <;> simp
  have hg:setW n ws i on=ws:=by unfold setW;rw [hs];rfl
  refine Ya (rZ G qB V [6,1,0] [3,2,0] fun G=>(Yh (Zl ?_)))
  have G:=G.fresh 1 rfl
  obtain ⟨F,G⟩:=G.push 1 3 rfl rfl rfl kr
  obtain ⟨F,G⟩:=G.push 1 2 rfl rfl rfl kr
  have G:=G.turn 1 rfl (r':=RS.hp (ZhY (.pointer (some ⟨b,0,none⟩)) n (setW n ws i on))) (fun _ _ _ _ h=>⟨_,(hI.setW i on),(by rw [hg];exact h)⟩)
  refine Zad hG G rfl (.tmp rfl .nil) (.one (.bool hs.symm)) rfl
 have hs:Zsv n ws i on=true:=by unfold Zsv;revert hc0;cases (decide (0≤i) && decide (i<n)) <;> cases hasW n ws i <;> cases on <;> simp
 have hg:setW n ws i on=ZjH ws i.toNat:=by unfold setW;rw [hs];rfl
 have hb:0≤i∧i<n:=by
   have hs':=hs
   simp only [Zsv,Yr,Yu] at hs'
   exact hs'.1
 have hhi:=hI.hi
 have hq:=hI.at i hb.1 hb.2
 rw [← shr6] at hq
 have hq2:(i.fdiv (2 ^ min (6:Int).toNat (IntKind.bits .i64))).toNat<ws.length:=by omega
 refine Ye (Za (Ya (Ze G (qR rr (qf (o_nilCheck 2 .is (by rfl)) r1 r1 (qf (oF 1 2 .adr) r1 r1 (qa 2 r1 r1 (qR rr (qf (Zcg .t qi (by decide)) r1 qz (qf (o_indexAddr_row (sz:=1) 3 (.mk underlying272 kr) .is .t hq.1 hq.2 (by rfl)) r2 r1 (qf (Zt (ag:=false) (sz':=1) (sz:=1) 3 .t (by intro x;rfl) hq2 kr kr kr) r1 r1 (qR rr (qf (o_and .t qi) r1 qz (qf (o_conv underlying162 kr .t) r1 qz (qf (o_shl qi .t (u64_nonneg _)) r1 qz (qf (o_xor .t .t) r2 qz (qf (o_indexAddr_row (sz:=1) 3 (.mk underlying272 kr) .is .t hq.1 hq.2 (by rfl)) r2 r1 (qf (ZH (R:=Zuu) (sz:=1) (v:=_) 3 .t (by intro x;rfl) hq2 .t rfl one_int kr) r2 r1 qZ))))))))))))))) V [6] [3,2,0] rfl rfl fun a w F G=>?_)))
 rw [Zpj (hI.wd _) i ow,shr6,Int.toNat_ediv_64 hb.1] at G
 refine Za (Ya (rZ G qB V [6] [3,2,0] fun G=>Yh ?_))
 have G:=G.fresh 1 rfl
 obtain ⟨F,G⟩:=G.push 1 3 rfl rfl rfl kr
 obtain ⟨F,G⟩:=G.push 1 2 rfl rfl rfl kr
 have G:=G.turn 1 rfl (r':=RS.hp (ZhY (.pointer (some ⟨b,0,none⟩)) n (setW n ws i on))) (fun _ _ _ _ h=>⟨_,(hI.setW i on),(by rw [hg];exact h)⟩)
 refine Zad hG G rfl (.tmp rfl .nil) (.one (.bool hs.symm)) rfl
def places (n:Nat) (ws:List Int):List Int:=((List.range n).filter fun j=>bitAt ws j).map fun j:Nat=>(j:Int)
def ZuX (n:Nat) (ws:List Int):Prop:=∀ j,n≤j→bitAt ws j=false
def Up (n:Nat) (x:List Int):Prop:=x.Pairwise (· < ·) ∧ ∀ i ∈ x,0≤i∧i<n
structure ZeD (n:Nat) (ws:List Int) (x:List Int):Prop where
 ok:ZdT n ws
 clean:ZuX n ws
 up:Up n x
 mem:∀ j:Nat,bitAt ws j=true ↔ (j:Int) ∈ x
theorem ZeD.mk' {n:Nat} {ws x:List Int} (hok:ZdT n ws) (hc:ZuX n ws) (hu:Up n x) (h:∀ j:Nat,j<n→(bitAt ws j=true ↔ (j:Int) ∈ x)):ZeD n ws x:=by
 refine ⟨hok,hc,hu,fun j=>?_⟩
 by_cases hj:j<n
 ·exact h j hj
 ·rw [hc j ow]
  constructor
  ·intro h;cases h
  ·intro hm;have:=hu.2 _ hm;omega
theorem ZeD.in {n:Nat} {ws x:List Int} (h:ZeD n ws x) (i:Int):hasW n ws i=decide (i ∈ x):=by
 unfold hasW
 by_cases hb:0≤i∧i<n
 ·have:=h.mem i.toNat
  rw [Yax hb.1] at this
  rw [show (decide (0≤i) && decide (i<(n:Int)))=true by simp [hb],Ya2]
  by_cases hm:i ∈ x
  ·rw [Yac hm,this.2 hm]
  ·rw [YB hm]
   cases e:bitAt ws i.toNat
   ·rfl
   ·exact absurd (this.1 e) hm
 ·rw [ZdI hb,Bool.false_and,Yas,YK]
  intro hm
  exact hb (h.up.2 i hm)
theorem ZeD.zero (m:Int):ZeD (rowN m) (ZhX m) []:=by
 have hz:∀ j,bitAt (ZhX m) j=false:=fun j=>by unfold bitAt ZhX;rw [ZnO];simp
 exact ⟨Zk6 m,fun j _=>hz j,⟨List.Pairwise.nil,by simp⟩,fun j=>by simp [hz j]⟩
def Zqb (i:Int):List Int→Bool→List Int
 | [],d=>if d then [] else [i]
 | x :: l,d=>(if d=false∧i≤x then [i] else [])++(if x=i then [] else [x])++Zqb i l (d || decide (i≤x))
def putL (l:List Int) (n i:Int) (on:Bool):List Int:=Zqb i l (!on || decide (i<0) || decide (n≤i))
theorem ZdW (i j:Int):∀ (l:List Int) (d:Bool),j ∈ Zqb i l d ↔ (j≠i∧j ∈ l)∨(j=i∧d=false)
 | [],d=>by cases d <;> simp [Zqb]
 | x :: l,d=>by
  rw [Zqb,YD,YD,ZdW i j l]
  by_cases h1:i≤x <;> cases d <;> by_cases h2:x=i <;> by_cases h3:j=i <;> simp_all
  all_goals (try omega)
theorem Zkk (i:Int):∀ (l:List Int) (d:Bool),l.Pairwise (· < ·)→(Zqb i l d).Pairwise (· < ·)
 | [],d,_=>by cases d <;> simp [Zqb]
 | x :: l,d,h=>by
  rw [Yo] at h
  have ih:=Zkk i l (d || decide (i≤x)) h.2
  rw [Zqb]
  by_cases h1:i≤x
  ·have hm:∀ j,j ∈ Zqb i l (d || decide (i≤x))→x<j∧j≠i:=by
    intro j hj
    rw [ZdW] at hj
    rcases hj with hj | hj
    ·exact ⟨h.1 j hj.2,hj.1⟩
    ·simp [h1] at hj
   generalize (d || decide (i≤x))=d' at hm ih ⊢
   cases d <;> by_cases h2:x=i
   ·subst h2
    simp only [Yaq,and_self,Yt,Yaw,YQ,YaO,Yo]
    exact ⟨fun j hj=>(hm j hj).1,ih⟩
   ·simp only [h1,and_self,Yt,h2,Yp,YaO,Yak,Yaw,Yo,Yk]
    refine ⟨?_,fun j hj=>(hm j hj).1,ih⟩
    rintro j (rfl | hj)
    ·omega
    ·have:=hm j hj;omega
   ·simp only [h2,Yt,YQ,Bool.true_eq_false,false_and,Yp,Yaw]
    subst h2;exact ih
   ·simp only [h2,Yp,Bool.true_eq_false,false_and,Yaw,YaO,Yo]
    exact ⟨fun j hj=>(hm j hj).1,ih⟩
  ·have hm:∀ j,j ∈ Zqb i l (d || decide (i≤x))→x<j:=by
    intro j hj
    rw [ZdW] at hj
    rcases hj with hj | hj
    ·exact h.1 j hj.2
    ·omega
   generalize (d || decide (i≤x))=d' at hm ih ⊢
   have h2:¬ x=i:=by omega
   simp only [h1,and_false,Yp,h2,Yaw,YaO,Yo]
   exact ⟨hm,ih⟩
theorem Zl5 {l:List Int} {n i j:Int} {on:Bool} : j ∈ putL l n i on ↔ (j≠i∧j ∈ l)∨(j=i∧on=true∧0≤i∧i<n):=by
 unfold putL
 rw [ZdW]
 cases on <;> simp <;> omega
theorem ZsW {n:Nat} {l:List Int} (h:Up n l) (i:Int) (on:Bool):Up n (putL l n i on):=by
 refine ⟨Zkk _ _ _ h.1,fun j hj=>?_⟩
 rw [Zl5] at hj
 rcases hj with hj | hj
 ·exact h.2 j hj.2
 ·omega
theorem Zlx {n:Nat} {ws:List Int} (hI:ZdT n ws) (i:Int) (on:Bool) (j:Nat):bitAt (setW n ws i on) j=if 0≤i∧i<n∧i=j then on else bitAt ws j:=by
 unfold setW Zsv hasW
 by_cases hb:0≤i∧i<n
 ·rw [show (decide (0≤i) && decide (i<(n:Int)))=true by simp [hb],Ya2,Ya2]
  have hq:=hI.at i hb.1 hb.2
  have flip:∀ j,bitAt (ZjH ws i.toNat) j=if i=j then !bitAt ws j else bitAt ws j:=by
   intro j
   unfold bitAt ZjH
   by_cases hj:j / 64<ws.length
   ·rw [ZlO hj]
    by_cases he:i.toNat / 64=j / 64
    ·rw [Yf he,Yb,Nat.testBit_xor,Nat.testBit_two_pow,he]
     by_cases e2:i=j
     ·subst e2;simp
     ·rw [Yc e2,show decide (i.toNat % 64=j % 64)=false by simp;omega,Bool.xor_false]
    ·rw [Yc he,Yc (fun e=>he ow)]
   ·rw [ZjW (by rw [YL];omega),ZjW ow,Yc (fun e=>hj ow)]
  by_cases h1:(bitAt ws i.toNat != on)=true
  ·rw [Yf h1,flip j]
   by_cases e:i=j
   ·rw [Yf e,Yf ⟨hb.1,hb.2,e⟩]
    subst e
    rw [Yb] at h1
    cases hx:bitAt ws j <;> rw [hx] at h1 <;> cases on <;> simp_all
   ·rw [Yc e,Yc (fun h=>e h.2.2)]
  ·rw [Yc h1]
   by_cases e:i=j
   ·rw [Yf ⟨hb.1,hb.2,e⟩]
    subst e
    rw [Yb] at h1
    cases hx:bitAt ws j <;> rw [hx] at h1 <;> cases on <;> simp_all
   ·rw [Yc (fun h=>e h.2.2)]
 ·rw [ZdI hb,Bool.false_and,Yc (by simp),Yc (fun h=>hb ⟨h.1,h.2.1⟩)]
theorem ZeD.set {n:Nat} {ws x:List Int} (h:ZeD n ws x) (i:Int) (on:Bool):ZeD n (setW n ws i on) (putL x n i on):=by
 refine ZeD.mk' (h.ok.setW i on) (fun j hj=>?_) (ZsW h.up i on) (fun j hj=>?_)
 ·rw [Zlx h.ok,Yc ow,h.clean j hj]
 ·rw [Zlx h.ok,Zl5]
  have:=h.mem j
  by_cases e:0≤i∧i<n∧i=j
  ·rw [Yf e]
   constructor
   ·intro ho;exact .inr ⟨e.2.2.symm,ho,e.1,e.2.1⟩
   ·rintro (⟨h1,_⟩ | ⟨_,h2,_⟩)
    ·exact absurd e.2.2.symm h1
    ·exact h2
  ·rw [Yc e,this]
   constructor
   ·intro hm
    refine .inl ⟨fun e'=>e ?_,hm⟩
    omega
   ·rintro (⟨_,h2⟩ | ⟨h1,_,h3,h4⟩)
    ·exact h2
    ·exact absurd ⟨h3,h4,h1.symm⟩ e
end Go.Proofs.YtlkpllemoepamaaGreat
