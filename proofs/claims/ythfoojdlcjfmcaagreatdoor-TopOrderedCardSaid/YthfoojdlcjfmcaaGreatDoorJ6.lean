/- Laws and walks. No condition beyond what each says. -/
import Derived.Test.YthfoojdlcjfmcaaGreatDoorJ5
namespace Go.Proofs.YthfoojdlcjfmcaaGreatDoor
open Go Go.Gm Tryz
set_option linter.unusedVariables false
set_option linter.unusedSimpArgs false
set_option maxHeartbeats 4000000
set_option maxRecDepth 8000
theorem ZmU (x y:List Int) (hx:x.length≤1000000) (hy:y.length≤1000000):FnP prog 9 [.sl rInt x,.sl rInt y] (.tup [.sl Zav (ZbC x y).1,.int .i64 (ZbC x y).2]):=by
 refine FnP.mk func9 O ntmps9 O fun B a w F J hfr G=>Ya ?_
 refine rZ G (qC (qI qZ)) J [5,4,1,0] [0] fun G=>(Ya (Ya ?_))
 refine rZ G (qR rr (qf (oP (Zik x) func28 (Args.one .t)) r1 qz (qf (o_not .t) r1 qz (qR rr (qm O O O O (qk O (fun h=>oP (Zik y) func28 (Args.one (.w h))) r2 qz (qk O (fun h=>o_not (.w h)) r2 qz (qf (ZaM .t .t) r2 qz (qR rr (qm O O O O (qm O O O O (qk O (fun h=>oP (Zj7 x y hx hy) func19 (Args.two (.w h) (.w h))) r3 qz (qk O (fun h=>o_not (.w h)) r2 qz (qf (ZaM .t .t) r2 qz qZ)))))))))))))) J [23,5,4,1,0] [0] fun G=>?_
 refine Zc G O (fun hc0=>?_) (fun hc0=>?_)
 ·have hno:¬ Zbo x y:=by unfold Zbo;rintro ⟨k1,k2,k3⟩;simp [k1,k2,k3] at hc0
  have hm:ZbC x y=([],8):=Yb hno
  refine Ya (rZ G (qC (qI qZ)) J [5,4,1,0] [0] fun G=>(Yg (Ze ?_)))
  refine ZK hfr G O (.tmp O (.tmp O .nil)) (.two (.trans .nilSl (.sl (by rw [hm]))) (.int (by rw [hm])))
 have hok:Zbo x y:=by unfold Zbo;simp at hc0;simpa [and_assoc] using hc0
 have hxyl:=hok.2.2.length_eq
 refine Yi (Za (Ya (rZ G (qC qZ) J [6,5,4,1,0] [0] fun G=>Ya ?_)))
 replace G:=G.fresh 101 rfl
 refine Zb G (qR rr (qf (ZbW 101 (Zce x hx) func22 O kr (Args.one .t) Zbh) r1 r1 (qO rr qZ))) J [7,6,5,4,1] [101,0] (fun _=>rfl) (fun _=>rfl) fun τ a w F G=>?_
 try dsimp only [RS.sub,SF.sub,CF.sub,csub,Anc.sub,List.map,rInt,Zav] at G
 generalize τ 25=v25 at G
 obtain ⟨F,G⟩:=G.give 101 7 O rfl
 obtain ⟨F,G⟩:=G.nM [7,6,5,4,1] [0]
 refine Za (Ya (Ya (rZ G (qR rr (qu Ybz r1 (qJ qZ))) J [28,27,26,7,6,5,4] [0] fun G=>Yj ?_)))
 replace G:=G.fresh 50 rfl
 replace G:=G.turn 50 O (Zbm (T:=44) (sz:=2) (R:=Zav))
 refine Zo (σ:=(Nat)×(List Int)×(Value)×(List Zy)) [4,5,26,27] [0] (fun s=>[(28,.pv (.int .i64 (s.1:Int))),(7,.pv (.sl rInt s.2.1)),(6,.pv (.is s.2.2.1))]) (fun s=>[(50,.ob (.val s.2.2.1) (Zs 44 2 Zav s.2.2.2))]) (fun s=>s.1≤y.length∧(ZI x 0 y=s.2.2.2++ZI s.2.1 s.1 (y.drop s.1)∧(s.2.1).Perm x∧(s.2.2.2).length≤s.1)) (fun s=>y.length - s.1) ((0),(x),(.slice none 0 0),([])) G ⟨rfl,rfl,rfl,rfl,rfl,rfl,rfl,tv⟩ ⟨rfl,rfl,tv⟩ ⟨Yr _,⟨rfl,.refl _,Yr _⟩⟩ ?_
 clear G;intro s a w F hC G
 obtain ⟨i,now,v,out⟩:=s
 try dsimp only at hC
 obtain ⟨F,G⟩:=G.nM [28,27,26,7,6,5,4] [50,0]
 try dsimp only at G
 obtain ⟨hi,hq⟩:=hC
 obtain ⟨hst,hpm,hol⟩:=hq
 have hnl:now.length=x.length:=hpm.length_eq
 have hdn:=@Zba _ _ y i
 refine Ya (rZ G (qL r2) J [29,28,27,26,7,6,5,4] [50,0] fun G=>Ya ?_)
 refine Zc G O (fun hc1=>?_) (fun hc1=>?_)
 ·have hil:i<y.length:=by simp at hc1;omega
  refine Yi (Za (Ya (Yj (Ya (Zf G (qR rr (qy 1 Ybz r2 (qf (oR false 1 .t) r1 qz (qO rr (qO rr qZ))))) J [28,27,26,9,8,7,6,5,4] [50,0] O O fun a w F G=>?_)))))
  try simp only [Yc] at G
  refine Za (Ya (Ya (Zf G (qR rr (qR rr (qy 1 Ybz r2 (qf (oR false 1 .t) r1 qz (qR rr (qf (o_eql .t .t) r2 qz qZ)))))) J [38,28,27,26,9,8,7,6,5,4] [50,0] O O fun a w F G=>?_)))
  try simp only [Yc] at G
  refine Za (Zc G O (fun hc2=>?_) (fun hc2=>?_))
  ·have hne:Nn now i=Nn y i:=by simpa using hc2
   have hst2:=Zfk (to:=y.drop (i+1)) hne
   rw [← Zba hil] at hst2
   have hpm2:=hpm
   obtain ⟨now2,hn2⟩:∃ z,z=now:=⟨_,rfl⟩
   rw [← hn2] at G hst hst2 hpm2
   refine YA (Zj (Zw (Za (rZ G (qp r1 (qR rr qZ)) J [28,27,26,7,6,5,4] [50,0] fun G=>?_))))
   replace G:=G.ent (i:=28) (s':=.pv (.int .i64 ((i+1:Nat):Int))) O (.int (Zh ow))
   obtain ⟨F,G⟩:=G.nM [27,26,5,4,6,7,28] [0,50]
   exact ⟨((i+1),(now2),_,_),F,⟨by omega,⟨by first | (rw [hst,hst2];done) | (rw [hst,hst2];simp),hpm2,by first | omega | (simp only [Yd,Yv,YS];omega)⟩⟩,G,by omega⟩
  have hne:¬ Nn now i=Nn y i:=by simpa using hc2
  have hst2:=ZhI (to:=y.drop (i+1)) hne
  rw [← Zba hil] at hst2
  have hpm2:=(Zb8 (place:=(i:Int)) (hpm.mem_iff.2 (hok.2.2.mem_iff.2 (Z5 hil))) ow).trans hpm
  obtain ⟨now2,hn2⟩:∃ z,z=(Z8 now (Nn y i) i).1:=⟨_,rfl⟩
  rw [← hn2] at hst2 hpm2
  refine Yi (Za (Ya (Zf G (qR rr (qR rr (qR rr (qf (oP (Zlf now (Nn y i) i ow) func29 (Args.three .t .t .t)) r3 qz (qR rr (qf (Zi .t O) r1 qz (qf (Zi .t O) r1 qz (qO rr qZ)))))))) J [28,27,26,9,8,7,6,5,4] [50,0] O O fun a w F G=>?_)))
  rw [← hn2] at G
  refine Za (Zb G (qR rr (qR rr (qR rr (qf (oB [(0,.tmp 47),(1,.tmp 48)] [.int .i64 0,.int .i64 0] [(0,1),(1,1)] (.one O .t one_int kr (.one O .t one_int kr .nil))) r2 qz (qf (Zz (sz:=2) (zs:=[.int .i64 0,.int .i64 0]) (r:=[(0,.tmp 49)]) (l:=[_,_]) underlying40 kr kr kr kr O O (.agg O .t kr kr .nil) O) r1 qz (qf (Z4 (sz:=2) (bs:=16) 50 (.mk' underlying40 kr kr) (by intro x;rfl) .is (.arr (l':=[(⟨Nn y i,i⟩:Zy)]) .t) (by simp only [Yd,Yv,YS];omega) (by decide)) ⟨rfl,rfl,tv⟩ ⟨rfl,tv⟩ (qO rr qZ))))))) J [28,27,26,7,6,5,4] [50,0] (fun _=>rfl) (fun _=>rfl) fun τ a w F G=>?_)
  try dsimp only [RS.sub,SF.sub,CF.sub,csub,Anc.sub,List.map,Zg,xL,xM,Nat.reduceAdd,xD,xE,xT,xU,xC,xN,zCF,rInt,Zav] at G
  generalize τ 51=v51 at G
  refine Zk (Za (rZ G (qp r1 (qR rr qZ)) J [28,27,26,7,6,5,4] [50,0] fun G=>?_))
  replace G:=G.ent (i:=28) (s':=.pv (.int .i64 ((i+1:Nat):Int))) O (.int (Zh ow))
  obtain ⟨F,G⟩:=G.nM [27,26,5,4,6,7,28] [0,50]
  exact ⟨((i+1),(now2),_,_),F,⟨by omega,⟨by first | (rw [hst,hst2];done) | (rw [hst,hst2];simp),hpm2,by first | omega | (simp only [Yd,Yv,YS];omega)⟩⟩,G,by omega⟩
 have hil:i=y.length:=by simp at hc1;omega
 rw [hil,Ybj,ZI,Y2] at hst
 have hm:ZbC x y=(out,0):=by unfold ZbC;rw [Ye hok,hst]
 refine YA (Zj (Zj (Zw (Za (Ya (rZ G (qR rr (qO rr (qI qZ))) J [5,4] [50,0] fun G=>Yg ?_))))))
 obtain ⟨F,G⟩:=G.give 50 4 O rfl
 refine ZK hfr G O (.tmp O (.tmp O .nil)) (.two (.sl (by rw [hm])) (.int (by rw [hm])))
theorem Zap.nth {l:List Int} (h:Zap l) {i:Nat} (hi:i<l.length):Nn l i≠0:=by
 have:=(h.1 _ (Z5 hi)).1
 omega
theorem Zdy:∀ (s:List Zy) (l:List Int) (p:Zy),Zau l (s ++ [p])=(Z8 (Zau l s) p.key p.val).1
 | [],l,p=>rfl
 | q :: s,l,p=>Zdy s _ p
theorem Zes:∀ (to now:List Int) (i:Int),∀ p ∈ ZI now i to,p.key ∈ to∧i≤p.val∧p.val<i+to.length
 | [],now,i,p,h=>by cases h
 | x :: to,now,i,p,h=>by
  have key:∀ now',p ∈ ZI now' (i+1) to→p.key ∈ x :: to∧i≤p.val∧p.val<i+(x :: to).length:=fun now' h=>by
   obtain ⟨h1,h2,h3⟩:=Zes to now' (i+1) p h
   refine ⟨YU _ h1,by omega,?_⟩
   rw [Yv];omega
  unfold ZI at h
  split at h
  ·exact key _ h
  ·rcases Yo.1 h with rfl | h
   ·refine ⟨List.mem_cons_self,Ya6 _,?_⟩
    rw [Yv]
    show i<_
    omega
   ·exact key _ h
theorem ZbN:∀ (s:List Zy) (l:List Int),(∀ p ∈ s,p.key ∈ l∧0≤p.val∧p.val<l.length)→(Zau l s).Perm l
 | [],l,_=>.refl _
 | p :: s,l,h=>by
  obtain ⟨h1,h2,h3⟩:=h p (by simp)
  have hp:=Zb8 h1 ⟨h2,h3⟩
  refine (ZbN s _ fun q hq=>?_).trans hp
  obtain ⟨k1,k2,k3⟩:=h q (by simp [hq])
  exact ⟨hp.mem_iff.2 k1,k2,by rw [hp.length_eq];exact k3⟩
theorem Zej:∀ (to now:List Int) (i:Nat),now.drop i=to→ZI now i to = []
 | [],now,i,_=>rfl
 | x :: to,now,i,h=>by
  have hi:i<now.length:=by
   rcases Nat.lt_or_ge i now.length with h1 | h1
   ·exact h1
   ·rw [Ybb h1] at h;cases h
  rw [Zba hi] at h
  injection h with h1 h2
  rw [Zfk h1]
  exact Zej to now (i+1) h2
structure ZlE (x y:List Int) (s:List Zy):Prop where
 keys:(s.map Zy.key).Nodup
 done:Zau x s=y
 each:∀ i,i<s.length→Z8 (Zau x (s.take i)) (Nn s i).key (Nn s i).val=(Zau x (s.take (i+1)),0)
 none:(s.length:Int)=0 ↔ x=y
 len:∀ i,(Zau x (s.take i)).length=x.length
 short:s.length≤y.length
theorem steps_facts {x y:List Int} {s:List Zy} (h:Zbo x y) (hs:s=ZI x 0 y):ZlE x y s:=by
 have hv:∀ p ∈ s,p.key ∈ x∧0≤p.val∧p.val<x.length:=fun p hp=>by
  rw [hs] at hp
  obtain ⟨h1,h2,h3⟩:=Zes y x 0 p hp
  exact ⟨h.2.2.mem_iff.2 h1,h2,by rw [h.2.2.length_eq];omega⟩
 have hvt:∀ i,∀ p ∈ s.take i,p.key ∈ x∧0≤p.val∧p.val<x.length:=fun i p hp=>hv p (YaB hp)
 have hd:Zau x s=y:=by
  have:=Zcs y x [] h.2.2 rfl h.1.2
  rw [hs];exact this
 obtain ⟨ks,k1,k2⟩:=Zcw y x 0
 refine ⟨by rw [hs,k2];exact h.2.1.2.sublist k1,hd,fun i hi=>?_,⟨fun h0=>?_,fun e=>?_⟩,fun i=>(ZbN _ _ (hvt i)).length_eq,?_⟩
 ·obtain ⟨h1,h2,h3⟩:=hv _ (Z5 hi)
  have hp:=ZbN _ _ (hvt i)
  rw [ZF hi,Zdy,ZfT (hp.mem_iff.2 h1) ⟨h2,by rw [hp.length_eq];exact h3⟩]
 ·have:s = []:=YE ow
  rw [this] at hd;exact hd
 ·subst e
  rw [hs,show ZI x 0 x = [] from Zej x x 0 rfl];rfl
 ·have:=k1.length_le
  rw [← k2,YY] at this
  rw [hs];exact this
def ZjD (k:Int) (p:Zy):Zd2:={zeroC 5 with key:=k,id:=p.key,place:=p.val}
def ZU (g:Zn) (c:Zd2):Zn×Int:=if c.kind=1 then Zao g c.tx else if c.kind=2 then Za2 g c.tx else if c.kind=3 then Zag g c.id else if c.kind=4 then reorderH g c.order else if c.kind=5 then ZkS g c.key c.id c.place else (Z1,11)
def ZbG:Zn→List Zd2→Nat→Zn×Nat×Int
 | g,[],i=>(g,i,0)
 | g,c :: l,i=>if (ZU g c).2≠0 then (Z1,i,(ZU g c).2) else ZbG (ZU g c).1 l (i+1)
theorem ZkF {g0 g:Zn} {l:List Zd2} {i:Nat} (h:ZbG g0 l 0=ZbG g (l.drop i) i) (hi:i=l.length):ZbG g0 l 0=(g,l.length,0):=by
 rw [h,hi,Ybj];rfl
theorem Zln {g0 g:Zn} {l:List Zd2} {i:Nat} (h:ZbG g0 l 0=ZbG g (l.drop i) i) (hi:i<l.length) (h2:(ZU g (Nn l i)).2≠0):ZbG g0 l 0=(Z1,i,(ZU g (Nn l i)).2):=by
 rw [h,Zba hi,ZbG,Ye h2]
theorem Zjp {g0 g:Zn} {l:List Zd2} {i:Nat} (h:ZbG g0 l 0=ZbG g (l.drop i) i) (hi:i<l.length) (h2:¬ (ZU g (Nn l i)).2≠0):ZbG g0 l 0=ZbG (ZU g (Nn l i)).1 (l.drop (i+1)) (i+1):=by
 rw [h,Zba hi,ZbG,Yb h2]
def ZcI (c:Zd2):Prop:=c.tx.ops.length≤24∧c.order.txs.length≤24
instance (c:Zd2):Decidable (ZcI c):=by unfold ZcI;exact inferInstance
def Zif (l:List Zd2):Prop:=l.length≤40 ∧ ∀ c ∈ l,ZcI c
instance (l:List Zd2):Decidable (Zif l):=by unfold Zif;exact inferInstance
theorem LightC.at {l:List Zd2} (h:Zif l) {i:Nat} (hi:i<l.length):ZcI (Nn l i):=h.2 _ (Z5 hi)
def toE (c:Zd2):EdD:=if c.kind=1 then ⟨0,c.tx,⟨0,[]⟩,0⟩ else if c.kind=2 then ⟨2,c.tx,⟨0,[]⟩,0⟩ else if c.kind=3 then ⟨1,⟨c.id,false,[]⟩,⟨0,[]⟩,0⟩ else if c.kind=4 then ⟨3,zeroT,c.order,0⟩ else ⟨4,⟨c.id,false,[]⟩,⟨c.key,[]⟩,c.place⟩
theorem Zoe {g:Zn} {c:Zd2} (h:(ZU g c).2=0):ZU g c=doH g (toE c):=by
 unfold ZU at h ⊢
 unfold toE
 by_cases k1:c.kind=1
 ·simp only [Ye k1];rfl
 ·by_cases k2:c.kind=2
  ·simp only [Yb k1,Ye k2];rfl
  ·by_cases k3:c.kind=3
   ·simp only [Yb k1,Yb k2,Ye k3];rfl
   ·by_cases k4:c.kind=4
    ·simp only [Yb k1,Yb k2,Yb k3,Ye k4];rfl
    ·by_cases k5:c.kind=5
     ·simp only [Yb k1,Yb k2,Yb k3,Yb k4,Ye k5];rfl
     ·simp only [Yb k1,Yb k2,Yb k3,Yb k4,Yb k5] at h;exact absurd h (by decide)
theorem ZkY {c:Zd2} (h:ZcI c):Zea (toE c):=by
 unfold toE Zea
 obtain ⟨h1,h2⟩:=h
 split
 ·exact ⟨h1,Yr _⟩
 ·split
  ·exact ⟨h1,Yr _⟩
  ·split
   ·exact ⟨Yr _,Yr _⟩
   ·split
    ·exact ⟨Yr _,h2⟩
    ·exact ⟨Yr _,Yr _⟩
def ZeW (n:Nat) (g:Zn):Prop:=ZE g∧g.txs.length≤n ∧ ∀ t ∈ g.txs,t.ops.length≤24
theorem ZmZ:∀ l:List TxD,(∀ t ∈ l,t.ops.length≤24)→(Zbi l).length≤24*l.length:=fun l h=>by
 unfold Zbi
 refine Yau (Zd9 _) ?_
 induction l with
 | nil=>simp
 | cons t l ih=>
  have h1:=ih fun x hx=>h x (by simp [hx])
  have h2:=h t (by simp)
  have h3:=Zb2 t
  by_cases hd:t.done=true
  ·rw [Yaz (by simpa using hd),Yar,Yd,Yv]
   omega
  ·rw [YaA (by simpa using hd),Yv]
   omega
theorem ZeW.fit {n:Nat} {g:Zn} (h:ZeW n g):Fit n g:=by
 obtain ⟨hr,h1,h2⟩:=h
 refine ⟨⟨h1,h2⟩,?_,fun o ho=>?_⟩
 ·have:=ZmZ g.txs h2
  rw [hr.2.2.1]
  exact Yau this (Nat.mul_le_mul_left _ h1)
 ·obtain ⟨i,hi,e⟩:=YL ho
  have:=(hr.2.2.2 i hi).2.length_eq
  rw [Zm hi,e] at this
  rw [this]
  exact Yau (ZbZ _ _) h1
theorem Fit.small40 {n:Nat} {g:Zn} (h:Fit n g) (hn:n≤41):Zbk g:=by
 obtain ⟨⟨h1,h2⟩,h3,h4⟩:=h
 exact ⟨⟨by omega,fun t ht=>by have:=h2 t ht;omega⟩,by omega,fun o ho=>by have:=h4 o ho;omega⟩
theorem ZeW.edit {n:Nat} {g:Zn} {c:Zd2} (h:ZeW n g) (hn:n≤41) (hc:ZcI c) (h0:¬ (ZU g c).2≠0):ZeW (n+1) (ZU g c).1:=by
 have h0:=YB.1 h0
 have e:=Zoe h0
 rw [e] at h0 ⊢
 have hf:=h.fit.doH (ZkY hc)
 exact ⟨ZmN (h.fit.small40 hn) h0,hf.1.1,hf.1.2⟩
theorem ZeW.zero:ZeW 0 Z1:=⟨Zjf,YO _,fun t ht=>by cases ht⟩
theorem Zhv (x y:List Int):(ZbC x y).1.length≤y.length:=by
 unfold ZbC
 split
 ·rename_i h;exact (steps_facts h rfl).short
 ·simp
theorem Zhz (g:Zn) (c:Zd2) (hs:Zbk g) (hc:ZcI c):FnP prog 8 [.agg (Zp g),.agg (ZgL c)] (.tup [.agg (Zp (ZU g c).1),.int .i64 (ZU g c).2]):=by
 refine FnP.mk func8 O ntmps8 O fun B a w F J hfr G=>Ya ?_
 refine Zb G (qx 101 r1 (qx 102 r1 (qf (oH [.slice none 0 0,.slice none 0 0] 103) trivial qz (qI qZ)))) J [5,4,3,2] [103,102,101,0] (fun _=>rfl) (fun _=>rfl) fun τ a w F G=>?_
 try dsimp only [RS.sub,SF.sub,CF.sub,csub,Anc.sub,List.map,zCF,Zp,rTx,ZA,ZX,rInt,rOp,ZgL] at G
 generalize τ 2=v2,τ 3=v3,τ 4=v4 at G
 refine Za (Ya (Ya (rZ G (qg 0 102 r1 r1 (qa 102 r1 r1 qZ)) J [7,5,4,3,2] [103,102,101,0] fun G=>(Yj (Ya ?_)))))
 refine rZ G (qf (o_eql .t qi) r1 qz (qO rr qZ)) J [8,7,5,4,3,2] [103,102,101,0] fun G=>?_
 refine Zc G O (fun hc0=>?_) (fun hc0=>?_)
 ·have hg:ZU g c=Zao g c.tx:=by unfold ZU;rw [Ye (by simpa using hc0)]
  refine Ya (rZ G (qe 2 101 r1 r1 (qg 1 102 r1 r1 (qf (oL true 3 102 .adr) r1 r1 (qf (oP (Zkt g c.tx hs (by have:=hc.1;omega)) func23 (Args.two (.pagg .t) (.pagg .t))) r2 qz (qf (Zi .t O) r1 qz (qf (Zi .t O) r1 qz (qf (oA 2 103 .is (.conv .t .agg)) r2 r1 (qO rr qZ)))))))) J [5,4] [103,102,101,0] fun G=>(Yg (Zl (Ze ?_))))
  refine ZK hfr G O (.cl 103 true 2 O O (.tmp O .nil)) (.two (by rw [hg];first | exact .aggU O O | exact .aggLe O ⟨ZT.nilSl,ZT.nilSl,tv⟩) (.int (by rw [hg])))
 have k1:¬ c.kind=1:=by simpa using hc0
 refine Ya (rZ G (qf (o_eql .t qi) r1 qz (qO rr qZ)) J [16,7,5,4,3,2] [103,102,101,0] fun G=>?_)
 refine Zc G O (fun hc1=>?_) (fun hc1=>?_)
 ·have hg:ZU g c=Za2 g c.tx:=by unfold ZU;rw [Yb k1,Ye (by simpa using hc1)]
  refine Ya (rZ G (qe 2 101 r1 r1 (qg 1 102 r1 r1 (qf (oL true 3 102 .adr) r1 r1 (qf (oP (ZmJ g c.tx hs (by have:=hc.1;omega)) func24 (Args.two (.pagg .t) (.pagg .t))) r2 qz (qf (Zi .t O) r1 qz (qf (Zi .t O) r1 qz (qf (oA 2 103 .is (.conv .t .agg)) r2 r1 (qO rr qZ)))))))) J [5,4] [103,102,101,0] fun G=>(Yg (Zl (Ze ?_))))
  refine ZK hfr G O (.cl 103 true 2 O O (.tmp O .nil)) (.two (by rw [hg];first | exact .aggU O O | exact .aggLe O ⟨ZT.nilSl,ZT.nilSl,tv⟩) (.int (by rw [hg])))
 have k2:¬ c.kind=2:=by simpa using hc1
 refine Ya (rZ G (qf (o_eql .t qi) r1 qz (qO rr qZ)) J [24,7,5,4,3,2] [103,102,101,0] fun G=>?_)
 refine Zc G O (fun hc2=>?_) (fun hc2=>?_)
 ·have hg:ZU g c=Zag g c.id:=by unfold ZU;rw [Yb k1,Yb k2,Ye (by simpa using hc2)]
  refine Ya (rZ G (qe 2 101 r1 r1 (qg 7 102 r1 r1 (qa 102 r1 r1 (qf (oP (Zkm g c.id hs) func25 (Args.two (.pagg .t) .t)) r2 qz (qf (Zi .t O) r1 qz (qf (Zi .t O) r1 qz (qf (oA 2 103 .is (.conv .t .agg)) r2 r1 (qO rr qZ)))))))) J [5,4] [103,102,101,0] fun G=>(Yg (Zl (Ze ?_))))
  refine ZK hfr G O (.cl 103 true 2 O O (.tmp O .nil)) (.two (by rw [hg];first | exact .aggU O O | exact .aggLe O ⟨ZT.nilSl,ZT.nilSl,tv⟩) (.int (by rw [hg])))
 have k3:¬ c.kind=3:=by simpa using hc2
 refine Ya (rZ G (qf (o_eql .t qi) r1 qz (qO rr qZ)) J [32,7,5,4,3,2] [103,102,101,0] fun G=>?_)
 refine Zc G O (fun hc3=>?_) (fun hc3=>?_)
 ·have hg:ZU g c=reorderH g c.order:=by unfold ZU;rw [Yb k1,Yb k2,Yb k3,Ye (by simpa using hc3)]
  refine Ya (rZ G (qe 2 101 r1 r1 (qg 4 102 r1 r1 (qf (oL true 2 102 .adr) r1 r1 (qf (oP (Zi4 g c.order hs (by have:=hc.2;omega)) func26 (Args.two (.pagg .t) (.pagg .t))) r2 qz (qf (Zi .t O) r1 qz (qf (Zi .t O) r1 qz (qf (oA 2 103 .is (.conv .t .agg)) r2 r1 (qO rr qZ)))))))) J [5,4] [103,102,101,0] fun G=>(Yg (Zl (Ze ?_))))
  refine ZK hfr G O (.cl 103 true 2 O O (.tmp O .nil)) (.two (by rw [hg];first | exact .aggU O O | exact .aggLe O ⟨ZT.nilSl,ZT.nilSl,tv⟩) (.int (by rw [hg])))
 have k4:¬ c.kind=4:=by simpa using hc3
 refine Ya (rZ G (qf (o_eql .t qi) r1 qz (qO rr qZ)) J [40,5,4,3,2] [103,102,101,0] fun G=>?_)
 refine Zc G O (fun hc4=>?_) (fun hc4=>?_)
 ·have hg:ZU g c=ZkS g c.key c.id c.place:=by unfold ZU;rw [Yb k1,Yb k2,Yb k3,Yb k4,Ye (by simpa using hc4)]
  refine Ya (rZ G (qe 2 101 r1 r1 (qg 6 102 r1 r1 (qa 102 r1 r1 (qg 7 102 r1 r1 (qa 102 r1 r1 (qg 8 102 r1 r1 (qa 102 r1 r1 (qf (oP (ZnI g c.key c.id c.place hs) func27 (Args.four (.pagg .t) .t .t .t)) r4 qz (qf (Zi .t O) r1 qz (qf (Zi .t O) r1 qz (qf (oA 2 103 .is (.conv .t .agg)) r2 r1 (qO rr qZ)))))))))))) J [5,4] [103,102,101,0] fun G=>(Yg (Zl (Ze ?_))))
  refine ZK hfr G O (.cl 103 true 2 O O (.tmp O .nil)) (.two (by rw [hg];first | exact .aggU O O | exact .aggLe O ⟨ZT.nilSl,ZT.nilSl,tv⟩) (.int (by rw [hg])))
 have k5:¬ c.kind=5:=by simpa using hc4
 have hg:ZU g c=(Z1,11):=by unfold ZU;rw [Yb k1,Yb k2,Yb k3,Yb k4,Yb k5]
 refine Yi (Zk (Za (Ya (rZ G (qf (oB [] [.slice none 0 0,.slice none 0 0] [(0,1),(1,1)] .nil) trivial qz (qs 2 103 r2 r1 (qI qZ))) J [5,4] [103,102,101,0] fun G=>Yg ?_))))
 refine ZK hfr G O (.cl 103 true 2 O O (.tmp O .nil)) (.two (by rw [hg];first | exact .aggU O O | exact .aggLe O ⟨ZT.nilSl,ZT.nilSl,tv⟩) (.int (by rw [hg])))
theorem ZoE (l:List Zd2) (hl:Zif l):FnP prog 13 [.sl ZgL l] (.tup [.agg (Zp (ZbG Z1 l 0).1),.int .i64 (((ZbG Z1 l 0).2.1:Nat):Int),.int .i64 (ZbG Z1 l 0).2.2]):=by
 refine FnP.mk func13 O ntmps13 O fun B a w F J hfr G=>?_
 have hll:=hl.1
 refine Ya (Zb G (qf (oH [.slice none 0 0,.slice none 0 0] 101) trivial qz (qI (qI qZ))) J [4,3,2,0] [101,0] (fun _=>rfl) (fun _=>rfl) fun τ a w F G=>?_)
 try dsimp only [RS.sub,SF.sub,CF.sub,csub,Anc.sub,List.map,zCF,Zp,rTx,ZA,ZX,rInt,rOp,ZgL] at G
 generalize τ 2=v2 at G
 refine Za (Ya (Ya (rZ G (qR rr (qu underlying55 r1 (qJ qZ))) J [11,10,9,4,3,2,0] [101,0] fun G=>Yj ?_)))
 replace G:=G.turn 101 O (r':=.pt (.val v2) 25 [.pv (.sl rTx Z1.txs),.pv (.sl ZA Z1.orders)]) (Zqf O O ⟨ZT.nilSl,ZT.nilSl,tv⟩)
 refine Zo (σ:=(Nat)×(Zn)) [0,2,3,4,9,10] [0] (fun s=>[(11,.pv (.int .i64 (s.1:Int)))]) (fun s=>[(101,.pt (.val v2) 25 [.pv (.sl rTx (s.2).txs),.pv (.sl ZA (s.2).orders)])]) (fun s=>s.1≤l.length∧(ZbG Z1 l 0=ZbG s.2 (l.drop s.1) s.1∧ZeW s.1 s.2)) (fun s=>l.length - s.1) ((0),(Z1)) G ⟨rfl,rfl,rfl,rfl,rfl,rfl,rfl,tv⟩ ⟨rfl,rfl,tv⟩ ⟨Yr _,⟨rfl,ZeW.zero⟩⟩ ?_
 clear G;intro s a w F hC G
 obtain ⟨i,gg⟩:=s
 try dsimp only at hC
 obtain ⟨F,G⟩:=G.nM [11,10,9,4,3,2,0] [101,0]
 try dsimp only at G
 obtain ⟨hi,hq⟩:=hC
 obtain ⟨hpc,hfit⟩:=hq
 refine Ya (rZ G (qL r2) J [12,11,10,9,4,3,2,0] [101,0] fun G=>Ya ?_)
 refine Zc G O (fun hc0=>?_) (fun hc0=>?_)
 ·have hil:i<l.length:=by simp at hc0;omega
  have hio:=hil
  refine Yi (Za (Ya (Yj (Ya (Zb G (qR rr (qy 10 underlying55 r2 (qf (oR true 10 .t) r1 qz (qf (oH [.int .i64 0,.int .i64 0,.bool false,.slice none 0 0,.int .i64 0,.slice none 0 0,.int .i64 0,.int .i64 0,.int .i64 0,.int .i64 0] 102) trivial qz (qO rr (qS 10 102 r2 r1 qZ)))))) J [11,10,9,6,5,4,3,2,0] [102,101,0] (fun _=>rfl) (fun _=>rfl) fun τ a w F G=>?_)))))
  try dsimp only [RS.sub,SF.sub,CF.sub,csub,Anc.sub,List.map,Zg,xL,xM,Nat.reduceAdd,xD,xE,xT,xU,xC,xN,zCF,ldSF,Zp,rTx,ZA,ZX,rInt,rOp,ZgL] at G
  generalize τ 6=v6 at G
  try simp only [Yc] at G
  refine Za (Ya (Zb G (qe 2 101 r1 r1 (qe 10 102 r1 r1 (qf (oP (Zhz gg (Nn l i) (hfit.fit.small40 (by have:=hl.1;omega)) (LightC.at hl hio)) func8 (Args.two (.pagg .t) (.pagg .t))) r2 qz (qR rr (qf (Zi .t O) r1 qz (qf (Zi .t O) r1 qz (qf (oH [.slice none 0 0,.slice none 0 0] 103) trivial qz (qf (oA 2 103 .same (.conv .t .agg)) r2 r1 (qO rr qZ))))))))) J [11,10,9,8,7,5,4,3,2,0] [103,102,101,0] (fun _=>rfl) (fun _=>rfl) fun τ a w F G=>?_))
  try dsimp only [RS.sub,SF.sub,CF.sub,csub,Anc.sub,List.map,Zg,xL,xM,Nat.reduceAdd,xD,xE,xT,xU,xC,xN,zCF,ldSF,Zp,rTx,ZA,ZX,rInt,rOp,ZgL] at G
  generalize τ 7=v7 at G
  refine Za (Ya (Ya (rZ G (qR rr (qf (o_neq .t qi) r1 qz qZ)) J [23,11,10,9,8,7,5,4,3,2,0] [103,102,101,0] fun G=>?_)))
  refine Zc G O (fun hc1=>?_) (fun hc1=>?_)
  ·have hg:=Zln hpc hio (by simpa using hc1)
   refine Ya (rZ G (qf (oB [] [.slice none 0 0,.slice none 0 0] [(0,1),(1,1)] .nil) trivial qz (qR rr (qR rr (qs 2 101 r2 r1 (qO rr (qO rr qZ)))))) J [11,10,9,7,4,3,2,0] [103,102,101,0] fun G=>(Yg (Ze (Zl (Ze (Ze (Zl (Ze ?_))))))))
   refine ZK hfr G O (.cl 101 true 2 O O (.tmp O (.tmp O .nil))) (.three (by rw [hg];first | exact .aggU O O | exact .aggLe O ⟨ZT.nilSl,ZT.nilSl,tv⟩) (.int (by rw [hg])) (.int (by rw [hg])))
  have hok:¬ (ZU gg (Nn l i)).2≠0:=by simpa using hc1
  refine Yi (Za (Zf G (qe 2 103 r1 r1 (qs 2 101 r2 r1 qZ)) J [11,10,9,4,3,2,0] [103,102,101,0] O O fun a w F G=>Zk (Za ?_)))
  refine rZ G (qp r1 (qR rr qZ)) J [11,10,9,4,3,2,0] [103,102,101,0] fun G=>?_
  replace G:=G.ent (i:=11) (s':=.pv (.int .i64 ((i+1:Nat):Int))) O (.int (Zh ow))
  obtain ⟨F,G⟩:=G.nM [10,9,4,3,2,0,11] [0,101]
  exact ⟨((i+1),((ZU gg (Nn l i)).1)),F,⟨by omega,⟨Zjp hpc hio hok,hfit.edit (by have:=hl.1;omega) (LightC.at hl hio) hok⟩⟩,G,by omega⟩
 have hil:i=l.length:=by simp at hc0;omega
 have hg:=ZkF hpc hil
 refine YA (Zj (Zj (Zw (Za (Ya (rZ G (qe 2 101 r1 r1 (qR rr (qu underlying55 r1 (qs 2 101 r2 r1 (qO rr (qI qZ)))))) J [4,3,2] [101,0] fun G=>Yg ?_))))))
 refine ZK hfr G O (.cl 101 true 2 O O (.tmp O (.tmp O .nil))) (.three (by rw [hg];first | exact .aggU O O | exact .aggLe O ⟨ZT.nilSl,ZT.nilSl,tv⟩) (.int (by rw [hg])) (.int (by rw [hg])))
theorem Zl9 {v:Value} {T:TypeId} {p p1 p2 p3 q:PV} (τ:Tau) (w:World) (f y:Ys) (h:(RS.pt (.val v) T [.pv p,.pv p1,.pv p2,.pv q,.pv p3]).holds τ w f y):(RS.pt (.val v) T [.pv .any,.pv .any,.pv .any,.pv q,.pv .any]).holds τ w f y:=by
 obtain ⟨b,vs,h1,h2,h3,h4⟩:=h
 refine ⟨b,vs,h1,h2,h3,?_⟩
 generalize vs.toList=us at h4 ⊢
 match us,h4 with
 | [u1,u2,u3,u4,u5],k=>exact ⟨⟨k.1.1,tv⟩,⟨k.2.1.1,tv⟩,⟨k.2.2.1.1,tv⟩,k.2.2.2.1,⟨k.2.2.2.2.1.1,tv⟩,tv⟩
theorem Zot  : FnP prog 11 [.int .i64 2] (.ref [.any,.any,.any,.int .i64 0,.any]):=by
 refine FnP.mk func11 O ntmps11 O fun B a w F J hfr G=>Ya ?_
 refine rZ G (qC qZ) J [2,0] [0] fun G=>Ya ?_
 refine rZ G (qR rr (qf (ZkR .t qi) r1 qz (qf (ZlI .t qi) r1 qz (qO rr qZ)))) J [3,2] [0] fun G=>Ya ?_
 refine Zb G (qR rr (qR rr (qf (Zgo (R:=(fun _:Int=>[PV.any,PV.any,PV.any,PV.any])) (v:=0) (c:=2) (sz:=4) (bs:=96) (zs:=[.slice none 0 0,.slice none 0 0,.slice none 0 0,.slice none 0 0]) underlying80 kr kr kr (fun _ _=>⟨⟨rfl,tv⟩,⟨rfl,tv⟩,⟨rfl,tv⟩,⟨rfl,tv⟩,tv⟩) .t .t (by decide) (by decide) (by decide)) r2 qz (qf (oB [(0,.tmp 7),(1,.tmp 9)] [.int .i64 0,.slice none 0 0,.int .i64 0,.int .i64 0,.int .i64 0] [(0,1),(1,1),(2,1),(3,1),(4,1)] (.one O .t one_int kr (.one O .t one_sl kr .nil))) r2 qz (qf (oX 102 .t) r1 qz (qO rr qZ)))))) J [2] [102,0] (fun _=>rfl) (fun _=>rfl) fun τ a w F G=>?_
 try dsimp only [RS.sub,SF.sub,CF.sub,csub,Anc.sub,List.map,Zg,xL,xM,Nat.reduceAdd,xD,xE,xT,xU,xC,xN,zCF,rInt,Zcq,Zav] at G
 generalize τ 11=v11 at G
 refine Za (Yg ?_)
 replace G:=G.turn 102 O (r':=.pt (.val v11) 82 [.pv .any,.pv .any,.pv .any,.pv (.int .i64 0),.pv .any]) Zl9
 obtain ⟨F,G⟩:=G.giveRef 102 2 O O rfl
 try dsimp only [Go.Gm.unCF] at G
 refine Zt hfr G O O O .refl
theorem ZoP  : FnP prog 14 [.ref [.any,.any,.any,.int .i64 0,.any]] (.int .i64 0):=by
 refine FnP.mk func14 O ntmps14 O fun B a w F J hfr G=>Ya ?_
 refine rZ G (qI qZ) J [2,0] [0] fun G=>(Ya (Ya ?_))
 refine rZ G (qR rr (qf (Za6 underlying47 .t) r1 qz qZ)) J [4,2,0] [0] fun G=>?_
 refine Zc G O (fun hc0=>?_) (fun hc0=>?_)
 ·simp at hc0
 refine Yi (Za (Ya (rZ G (qR rr (qf (ZS .t) r1 qz (qf (oG 3 .t) r1 qz (qf (oR false 1 .t) r1 qz (qO rr qZ))))) J [2] [0] fun G=>Yg ?_)))
 refine Zt hfr G O O O .refl
theorem Zi5  : ZlM prog ZhQ Zh1 4 [] (.bool true):=by
 refine ZlM.mk func4 O ntmps4 O ?_
 intro B a w F J hfr G
 refine Ya (rZ G qB J [0] [9,0] fun G=>Ya ?_)
 refine rZ G (qf (oP (Zot) func11 (Args.one qi)) trivial qz (qf (Zil 9 (ZoT) func12 O kr Args.nil) qz r1 (qO rr (qO rr qZ)))) J [2,1,0] [9,0] fun G=>Ya ?_
 refine Zb G (qf (oB [(1,_)] [.bool false,.int .i64 0,.int .i64 0,.int .i64 0] [(0,1),(1,1),(2,1),(3,1)] (.one O qi one_int kr .nil)) trivial qz (qf (Zz (sz:=4) (zs:=[.bool false,.int .i64 0,.int .i64 0,.int .i64 0]) (r:=[(0,.tmp 9)]) (l:=[_,_,_,_]) YbC kr kr kr kr O O (.agg O .t kr kr .nil) O) r1 qz (qf (oB [(0,_),(1,_),(2,.tmp 10)] [.int .i64 0,.bool false,.slice none 0 0] [(0,1),(1,1),(2,1)] (.one O qi one_int kr (.one O .cb Zbq kr (.one O .t Zog kr .nil)))) r1 qz (qf (oB [(0,_),(1,.tmp 11)] [.int .i64 0,.int .i64 0,.bool false,.slice none 0 0,.int .i64 0,.slice none 0 0,.int .i64 0,.int .i64 0,.int .i64 0,.int .i64 0] [(0,1),(1,3),(4,2),(6,1),(7,1),(8,1),(9,1)] (.one O qi one_int kr (.agg O .t kr kr .nil))) r1 qz (qf (Zz (sz:=10) (zs:=[.int .i64 0,.int .i64 0,.bool false,.slice none 0 0,.int .i64 0,.slice none 0 0,.int .i64 0,.int .i64 0,.int .i64 0,.int .i64 0]) (r:=[(0,.tmp 12)]) (l:=[_,_,_,_,_,_,_,_,_,_]) underlying55 kr kr kr kr O O (.agg O .t kr kr .nil) O) r1 qz (qf (oP (ZoE [(⟨1,⟨1,true,[⟨false,5,0,0⟩]⟩,⟨0,[]⟩,0,0,0,0⟩:Zd2)] (by decide)) func13 (Args.one (.conv .t (Znh (l:=[.int .i64 1,.int .i64 1,.bool true,.arr 1 [.bool false,.int .i64 5,.int .i64 0,.int .i64 0],.int .i64 0,.is (.slice none 0 0),.int .i64 0,.int .i64 0,.int .i64 0,.int .i64 0]) (R:=ZgL) (l':=[(⟨1,⟨1,true,[⟨false,5,0,0⟩]⟩,⟨0,[]⟩,0,0,0,0⟩:Zd2)]) O ⟨ZT.refl,ZT.refl,ZT.refl,ZT.arrSl (l':=[(⟨false,5,0,0⟩:OpD)]) O ⟨ZT.refl,ZT.refl,ZT.refl,ZT.refl,tv⟩,ZT.refl,ZT.nilSl,ZT.refl,ZT.refl,ZT.refl,ZT.refl,tv⟩)))) r1 qz (qR rr (qf (Zi .t O) r1 qz (qf (Zi .t O) r1 qz (qf (Zi .t O) r1 qz (qf (oH [.slice none 0 0,.slice none 0 0] 101) trivial qz (qf (oA 2 101 .same (.conv .t .agg)) r2 r1 (qO rr (qO rr qZ)))))))))))))) J [5,4,3,2,1,0] [101,9,0] (fun _=>rfl) (fun _=>rfl) fun τ a w F G=>?_
 try dsimp only [RS.sub,SF.sub,CF.sub,csub,Anc.sub,List.map,Zg,xL,xM,Nat.reduceAdd,xD,xE,xT,xU,xC,xN,zCF,Zp,rTx,ZA,ZX,rInt,rOp,ZgL] at G
 generalize τ 3=v3 at G
 refine Za (Ya (Zf G (qR rr (qf (Zg0 underlying47 .t) r1 qz (qR rr (Zu.cons (ZbB.run O O ((by decide +kernel)) (Zco .t (by rfl))) r2 qz (Zu.cons (ZbB.run O O ((by decide +kernel)) (Zg0 underlying49 .t)) r2 qz (qf (ZR .t (.conv .t (Ent.sure (by decide +kernel)))) r2 qz (qR rr (Zu.cons (ZbB.run O O ((by decide +kernel)) (Zco .t (by rfl))) r2 qz (Zu.cons (ZbB.run O O ((by decide +kernel)) (oP (ZoP) func14 (Args.one .t))) r2 qz (Zu.cons (ZbB.run O O ((by decide +kernel)) (o_eql .t qi)) r2 qz (qf (ZR .t (.conv .t (Ent.sure (by decide +kernel)))) r2 qz (qR rr (Zu.cons (ZbB.run O O ((by decide +kernel)) (Zco .t (by rfl))) r2 qz (Zu.cons (ZbB.run O O ((by decide +kernel)) (o_eql .t qi)) r2 qz (qf (ZR .t (.conv .t (Ent.sure (by decide +kernel)))) r2 qz (qR rr (Zu.cons (ZbB.run O O ((by decide +kernel)) (Zco .t (by rfl))) r2 qz (Zu.cons (ZbB.run O O ((by decide +kernel)) (o_eql .t qi)) r2 qz (qf (ZR .t (.conv .t (Ent.sure (by decide +kernel)))) r2 qz (qR rr (Zu.cons (ZbB.run O O ((by decide +kernel)) (oF 1 101 .is)) r2 r1 (Zu.cons (ZbB.run O O ((by decide +kernel)) (oL false 1 101 .adr)) r2 r1 (Zu.cons (ZbB.run O O ((by decide +kernel)) (Zbz YbB .t)) r2 qz (Zu.cons (ZbB.run O O ((by decide +kernel)) (o_eql .t qi)) r2 qz (qf (ZR .t (.conv .t (Ent.sure (by decide +kernel)))) r2 qz (qR rr (Zu.cons (ZbB.run O O ((by decide +kernel)) (Zco .t (by rfl))) r2 qz (Zu.cons (ZbB.run O O ((by decide +kernel)) (oP (ZjG) func15 (Args.one .t))) r2 qz (Zu.cons (ZbB.run O O ((by decide +kernel)) (ZmM (ft:=3) (off:=6) kr kr .t O)) r2 qz (Zu.cons (ZbB.run O O ((by decide +kernel)) (o_eql .t qi)) r2 qz (qf (ZR .t (.conv .t (Ent.sure (by decide +kernel)))) r2 qz (qO rr qZ)))))))))))))))))))))))))))))))) J [0] [101,9,0] O O fun a w F G=>?_))
 try dsimp only [List.map,xD,xE,xT,xU,ldSF,Zp,rTx,ZA,ZX,rInt,rOp,ZgL] at G
 refine Za (Yg (Zt hfr G O O O (.bool (by decide +kernel))))
inductive Zp8 where
 | none
 | away (t:TxD)
 | plain (t:TxD) (b:Bool)
 | whole (t:TxD)
 deriving Inhabited
structure Zqe where
 t:TxD
 there:Bool
 just:Bool
 reads:Bool
 deriving Inhabited
theorem Fit.small160 {n:Nat} {g:Zn} (h:Fit n g) (hn:n≤166):Zbk g:=by
 obtain ⟨⟨h1,h2⟩,h3,h4⟩:=h
 exact ⟨⟨by omega,fun t ht=>by have:=h2 t ht;omega⟩,by omega,fun o ho=>by have:=h4 o ho;omega⟩
def ZlG (Q:Zn→Prop):Zn→List Zd2→Zn→Prop
 | g,[],h=>h=g
 | g,c :: l,h=>(ZU g c).2=0∧Q (ZU g c).1∧ZlG Q (ZU g c).1 l h
theorem ZeW.up {n:Nat} {g:Zn} (h:ZeW n g):ZeW (n+1) g:=⟨h.1,by have:=h.2.1;omega,h.2.2⟩
section
variable {a b:Zn}
end
def tab (L:List TxD) (f g:TxD→Option TxD) (A:List TxD):Int→Option TxD:=fun i=>(ZaO L i).bind fun s=>if s ∈ A then f s else g s
def ZpS (x b:Zn):Prop:=∀ s ∈ x.txs,∃ u ∈ b.txs,u.id=s.id∧s.ops.length≤u.ops.length
section
variable {a b:Zn} {Q:Zn→Prop} (hQ:∀ x,ZeW 166 x→(a.txs = []→ZpS x b)→Q x)
include hQ
theorem Ze7 (hb:ZeW 12 b) {h0:Zn} {o:OrdD} {s:List Zy} (hso:ZlE (getO h0.orders o.key) o.txs s) (hne:getO h0.orders o.key≠[]):∀ (S2 S1:List Zy) (x:Zn),s=S1++S2→ZE x→x.txs=b.txs→getO x.orders o.key=Zau (getO h0.orders o.key) S1 →
  ∃ y,ZlG Q x (S2.map (ZjD o.key)) y∧ZE y∧y.txs=b.txs∧getO y.orders o.key=o.txs ∧ ∀ k,k≠o.key→getO y.orders k=getO x.orders k
 | [],S1,x,e,hx,ht,hg=>⟨x,rfl,hx,ht,by rw [hg,← hso.done,e,Y2],fun _ _=>rfl⟩
 | p :: S2,S1,x,e,hx,ht,hg=>by
  have hi:S1.length<s.length:=by rw [e];simp
  have h1:=hso.each S1.length hi
  have e1:s.take S1.length=S1:=by rw [e];simp
  have e2:Nn s S1.length=p:=by rw [Zm hi];simp [e]
  have e3:s.take (S1.length+1)=S1 ++ [p]:=by rw [ZF hi,e1,e2]
  rw [e1,e2,e3,← hg] at h1
  have hl:∀ i,Zau (getO h0.orders o.key) (s.take i)≠[]:=fun i h9=>by
   have:=hso.len i
   rw [h9] at this
   exact hne (YE this.symm)
  have n1:getO x.orders o.key≠[]:=by rw [hg];have:=hl S1.length;rwa [e1] at this
  have n2:(Z8 (getO x.orders o.key) p.key p.val).1≠[]:=by rw [h1];have:=hl (S1.length+1);rwa [e3] at this
  have hed:ZU x (ZjD o.key p)=ZQ x o.key fun l=>Z8 l p.key p.val:=rfl
  have ht4:=Zkg (rule:=fun l=>Z8 l p.key p.val) hx n1 (by rw [h1]) n2
  have h2:(ZU x (ZjD o.key p)).2=0:=by rw [hed,ht4]
  have hR:ZE (ZU x (ZjD o.key p)).1:=by
   rw [hed] at h2 ⊢
   exact Zbf (rule:=fun l=>Z8 l p.key p.val) (fun l h=>ZgF h) h2
  have htx:(ZU x (ZjD o.key p)).1.txs=b.txs:=by rw [hed,ht4];exact ht
  have hgo:∀ k,getO (ZU x (ZjD o.key p)).1.orders k=if k=o.key then (Z8 (getO x.orders o.key) p.key p.val).1 else getO x.orders k:=fun k=>by
   rw [hed,ht4]
   show getO (Za9 OrdD.key _ _ _) k=_
   rw [Zgi (Zx.1 (ZD hx).2),Ym n2]
   rfl
  obtain ⟨y,y1,y2,y3,y4,y5⟩:=Ze7 hb hso hne S2 (S1 ++ [p]) (ZU x (ZjD o.key p)).1 (by rw [e];simp) hR htx (by rw [hgo,Ye rfl,h1])
  refine ⟨y,⟨h2,hQ _ ⟨hR,by rw [htx];exact Yau hb.2.1 ow,by rw [htx];exact hb.2.2⟩ fun _ s hs=>⟨s,by rw [← htx];exact hs,rfl,YO _⟩,y1⟩,y2,y3,y4,fun k hk=>?_⟩
  rw [y5 k hk,hgo,Yb hk]
omit hQ in
end
theorem Zk6 {h:Zn} (hR:ZE h) {o:OrdD} (hg:getO h.orders o.key≠[]) (hp:¬ (getO h.orders o.key).Perm o.txs):reorderH h o=(Z1,8)∧ZbC (getO h.orders o.key) o.txs=([],8):=by
 refine ⟨?_,Yb fun k=>hp k.2.2⟩
 have e:ZbI o (getO h.orders o.key)=([],8):=Yb hp
 have:=Znz (rule:=ZbI o) hR hg (by rw [e];decide)
 rw [e] at this;exact this
theorem ZkI {h:Zn} (hF:ZeW 12 h) {o:OrdD} (hg:getO h.orders o.key≠[]) (hp:(getO h.orders o.key).Perm o.txs) :
  (reorderH h o).2=0∧ZbC (getO h.orders o.key) o.txs=(ZI (getO h.orders o.key) 0 o.txs,0)∧ZlG (ZeW 166) h ((ZI (getO h.orders o.key) 0 o.txs).map (ZjD o.key)) (reorderH h o).1:=by
 have hR:=hF.1
 have e:ZbI o (getO h.orders o.key)=(o.txs,0):=Ye hp
 have hne:o.txs≠[]:=fun k=>by rw [k] at hp;exact hg hp.eq_nil
 have ht4:=Zkg (rule:=ZbI o) hR hg (by rw [e]) (by rw [e];exact hne)
 rw [e] at ht4
 have hre:reorderH h o=_:=ht4
 have h2:(reorderH h o).2=0:=by rw [hre]
 have hRx:ZE (reorderH h o).1:=Zbf (rule:=ZbI o) (fun l hl=>by
  unfold ZbI at hl ⊢
  split at hl
  ·rename_i k;rw [Ye k];exact k.symm
  ·exact absurd hl (by decide)) h2
 obtain ⟨_,b2,b3,_,_,b6⟩:=Zb3.1 hR
 have p1:=b6 o.key
 have hin:∀ z ∈ ZH h.txs o.key,1≤z∧z≤1048575:=fun z hz=>by
  obtain ⟨t,h1,h2,_⟩:=ZcG.1 hz
  have:=(b3 t h1).1
  unfold Zak at this
  split at this
  ·cases this
  ·rename_i h3;rw [← h2];exact YB.1 h3
 have hnd:=Zbr b2 o.key
 have ok:Zbo (getO h.orders o.key) o.txs:=⟨⟨fun z hz=>hin z (p1.mem_iff.1 hz),p1.nodup_iff.2 hnd⟩,⟨fun z hz=>hin z (p1.mem_iff.1 (hp.mem_iff.2 hz)),(hp.symm.trans p1).nodup_iff.2 hnd⟩,hp⟩
 refine ⟨h2,Ye ok,?_⟩
 obtain ⟨y,y1,y2,y3,y4,y5⟩:=Ze7 (a:=h) (Q:=ZeW 166) (fun x hx _=>hx) hF (h0:=h) (o:=o) (steps_facts ok rfl) hg (ZI (getO h.orders o.key) 0 o.txs) [] h rfl hR rfl rfl
 have ho:y.orders=(reorderH h o).1.orders:=Zn7 (Zx.1 (ZD y2).2) (Zx.1 (ZD hRx).2) (Zc8 y2) (Zc8 hRx) fun k=>by
  rw [hre]
  show _=getO (Za9 OrdD.key _ _ _) k
  rw [Zgi (Zx.1 (ZD hR).2),Ym hne]
  by_cases hk:k=o.key
  ·rw [hk,y4];simp
  ·rw [y5 k hk];simp [hk]
 have ex:y=(reorderH h o).1:=by
  have ht:y.txs=(reorderH h o).1.txs:=by rw [y3,hre]
  cases y
  generalize (reorderH h o).1=x at ho ht ⊢
  cases x
  simp only at ho ht
  rw [ho,ht]
 rw [← ex];exact y1
theorem Zi9 {h:Zn} (hl:ZaQ h) (hR:ZE h):ZeW 12 h:=⟨hR,hl.1,fun t ht=>by
 obtain ⟨j,hj,e⟩:=YL ht
 have:=hl.2.2.1 j hj
 rw [Zm hj,e] at this;exact this⟩
def ZjU (key:Int) (to:List Int):Zd2:=⟨4,zeroT,⟨key,to⟩,0,0,0,0⟩
theorem Zj1 (g:Zn) (key:Int) (to:List Int):ZU g (ZjU key to)=reorderH g ⟨key,to⟩:=rfl
theorem Zhu {h:Zn} (hF:ZeW 12 h) (key:Int) (to:List Int) :
  (((ZU h (ZjU key to)).2=3∧getO h.orders key = [])∨((ZU h (ZjU key to)).2=8∧(ZbC (getO h.orders key) to).2=8)) ∨
  ((ZU h (ZjU key to)).2=0∧ZbC (getO h.orders key) to=(ZI (getO h.orders key) 0 to,0)∧ZlG (ZeW 166) h ((ZI (getO h.orders key) 0 to).map (ZjD key)) (ZU h (ZjU key to)).1):=by
 rw [Zj1]
 by_cases hg:getO h.orders key = []
 ·exact .inl (.inl ⟨by rw [show reorderH h ⟨key,to⟩ = (Z1,3) from Zns hF.1 hg],hg⟩)
 ·by_cases hp:(getO h.orders key).Perm to
  ·exact .inr (ZkI hF (o:=⟨key,to⟩) hg hp)
  ·obtain ⟨h1,h2⟩:=Zk6 hF.1 (o:=⟨key,to⟩) hg hp
   exact .inl (.inr ⟨by rw [h1],by rw [show ZbC (getO h.orders key) to=([],8) from h2]⟩)
theorem Zhi (g:Zn) (key:Int) (to:List Int):ZlM prog ZhQ Zh1 3 [.agg (Zp g),.int .i64 key,.sl rInt to] (.bool true):=by
 refine ZlM.mk func3 O ntmps3 O ?_
 intro B a w F J hfr G
 have htl:=Sat.lenSl G (i:=2) rfl
 refine Ya (Zb G (qx 101 r1 qB) J [6,3,2,1] [101,9,0] (fun _=>rfl) (fun _=>rfl) fun τ a w F G=>?_)
 try dsimp only [RS.sub,SF.sub,CF.sub,csub,Anc.sub,List.map,zCF,Zp,rTx,ZA,ZX,rInt,rOp,ZgL,Zav] at G
 generalize τ 3=v3 at G
 refine Za (Ya (Ya (rZ G (qf (Zil 9 (Zi5) func4 O kr Args.nil) qz r1 (qf (o_not .t) r1 qz qZ)) J [18,6,3,2,1] [101,9,0] fun G=>?_)))
 refine Zc G O (fun hc0=>?_) (fun hc0=>?_)
 ·simp at hc0
 refine Yi (Za (Ya (Ya (rZ G (qe 2 101 r1 r1 (qf (oP (ZlP g) func5 (Args.one (.pagg .t))) r1 qz (qf (o_not .t) r1 qz (qR rr (qm O O O O (qk O (fun h=>Zbz Ybz (.w h)) r2 qz (qk O (fun h=>Zbs (.w h) qi) r2 qz (qf (ZaM .t .t) r2 qz (qR rr (qk O (fun h=>oL true 2 101 .is) r2 r1 (qk O (fun h=>oP (ZdN g (ZaQ.small (by simp at h;exact h.1))) func6 (Args.one (.pagg (.w h)))) r2 qz (qk O (fun h=>o_not (.w h)) r2 qz (qf (ZaM .t .t) r2 qz qZ))))))))))))) J [31,6,3,2,1] [101,9,0] fun G=>?_))))
 refine Zc G O (fun hc1=>?_) (fun hc1=>?_)
 ·refine Ya (rZ G qB J [6,3,2,1] [101,9,0] fun G=>(Yg (Ze ?_)))
  refine Zt hfr G O O O (.bool (by first | rfl | simp))
 have h9:=hc1
 simp at h9
 have hlt:ZaQ g:=h9.1.1
 have hto:to.length≤24:=by have:=h9.1.2;omega
 have hRg:ZE g:=h9.2
 have hsm:=hlt.small
 have hcase:=Zhu (Zi9 hlt hRg) key to
 refine Yi (Za (Ya (rZ G (qe 2 101 r1 r1 (qR rr (qf (oP (ZmD g key hsm.2) func7 (Args.two (.pagg .t) .t)) r2 qz (qO rr qZ)))) J [7,6,3,2,1] [101,9,0] fun G=>Ya ?_)))
 refine Zb G (qe 2 101 r1 r1 (qR rr (qR rr (qf (oB [(0,.tmp 37),(1,.tmp 38)] [.int .i64 0,.slice none 0 0] [(0,1),(1,1)] (.one O .t one_int kr (.one O .t one_sl kr .nil))) r2 qz (qf (oB [(0,_),(2,.tmp 39)] [.int .i64 0,.int .i64 0,.bool false,.slice none 0 0,.int .i64 0,.slice none 0 0,.int .i64 0,.int .i64 0,.int .i64 0,.int .i64 0] [(0,1),(1,3),(4,2),(6,1),(7,1),(8,1),(9,1)] (.one O qi one_int kr (.agg O .t kr kr .nil))) r1 qz (qf (oP (Zhz g (ZjU key to) hsm ⟨Yr _,hto⟩) func8 (Args.two (.pagg .t) (.conv (.pagg .t) (Ent.paggLe (l:=[.int .i64 4,.int .i64 0,.bool false,.is (.slice none 0 0),.int .i64 key,.sl rInt to,.int .i64 0,.int .i64 0,.int .i64 0,.int .i64 0]) (l':=ZgL (ZjU key to)) ⟨ZT.refl,ZT.refl,ZT.refl,ZT.nilSl,ZT.refl,ZT.refl,ZT.refl,ZT.refl,ZT.refl,ZT.refl,tv⟩)))) r2 qz (qR rr (qf (Zi .t O) r1 qz (qf (Zi .t O) r1 qz (qf (oH [.slice none 0 0,.slice none 0 0] 102) trivial qz (qf (oA 2 102 .same (.conv .t .agg)) r2 r1 (qO rr qZ)))))))))))) J [9,8,7,6,3,2,1] [102,101,9,0] (fun _=>rfl) (fun _=>rfl) fun τ a w F G=>?_
 try dsimp only [RS.sub,SF.sub,CF.sub,csub,Anc.sub,List.map,Zg,xL,xM,Nat.reduceAdd,xD,xE,xT,xU,xC,xN,zCF,ldSF,Zp,rTx,ZA,ZX,rInt,rOp,ZgL,Zav] at G
 generalize τ 8=v8 at G
 refine Za (Ya (rZ G (qR rr (qR rr (qf (oP (ZmU (getO g.orders key) to (Yau (ZmA hsm.2 key) (by decide)) ow) func9 (Args.two .t .t)) r2 qz (qR rr (qf (Zi .t O) r1 qz (qf (Zi .t O) r1 qz (qO rr (qO rr qZ)))))))) J [11,10,9,8,7,6,3,1] [102,101,9,0] fun G=>(Ya (Ya ?_))))
 refine rZ G (qR rr (qf (o_neq .t qi) r1 qz qZ)) J [51,11,10,9,8,7,6,3,1] [102,101,9,0] fun G=>?_
 refine Zc G O (fun hc2=>?_) (fun hc2=>?_)
 ·have herr:¬ (ZU g (ZjU key to)).2=0:=by simpa using hc2
  refine Ya (Zf G (qR rr (qf (o_eql .t qi) r1 qz (qR rr (qm O O O O (qk O (fun h=>Zbz Ybz (.w h)) r2 qz (qk O (fun h=>o_eql (.w h) qi) r2 qz (qf (ZR .t .t) r2 qz (qR rr (qm O O O O (qk O (fun h=>o_eql (.w h) qi) r2 qz (qk O (fun h=>oM (.w h)) r2 qz (Zu.cons (ZbB.cond2 O O (fun h=>Zco .t (by rfl))) r2 qz (Zu.cons (ZbB.cond2 O O (fun h=>o_eql (.w h) qi)) r2 qz (qk O (fun h=>ZR (.w h) (.wc h)) r3 qz (qf (ZaM .t .t) r2 qz (qO rr qZ)))))))))))))))) J [11,10,8,6,3,1] [102,101,9,0] O O fun a w F G=>?_)
  try dsimp only [Zp,rTx,ZA,ZX,rInt,rOp,ZgL,Zav] at G
  refine Za (Yg (Ze (Zt hfr G O O O (.bool (by rcases hcase with (⟨h1,h2⟩ | ⟨h1,h2⟩) | ⟨h1,_⟩; (simp [h1,h2]); (simp [h1,h2]); (exact absurd h1 herr))))))
 have hc0:(ZU g (ZjU key to)).2=0:=by simpa using hc2
 rcases hcase with (⟨h8,_⟩ | ⟨h8,_⟩) | ⟨_,hst,hpl⟩
 ·rw [h8] at hc0;exact absurd hc0 (by decide)
 ·rw [h8] at hc0;exact absurd hc0 (by decide)
 have hsl:(ZI (getO g.orders key) 0 to).length≤to.length:=by have h7:=Zhv (getO g.orders key) to;rw [hst] at h7;exact h7
 rw [hst] at G
 try dsimp only at G
 refine Yi (Za (Ya (Zb G (qe 2 101 r1 r1 (qf (oH [.slice none 0 0,.slice none 0 0] 103) trivial qz (qS 2 103 r2 r1 qZ))) J [12,11,10,8,6,1] [103,102,101,9,0] (fun _=>rfl) (fun _=>rfl) fun τ a w F G=>?_)))
 try dsimp only [RS.sub,SF.sub,CF.sub,csub,Anc.sub,List.map,Zg,xL,xM,Nat.reduceAdd,xD,xE,xT,xU,xC,xN,zCF,ldSF,Zp,rTx,ZA,ZX,rInt,rOp,ZgL,Zav] at G
 generalize τ 12=v12 at G
 refine Za (Ya (Ya (rZ G (qR rr (qu underlying40 r1 (qJ qZ))) J [70,69,68,12,11,8,6,1] [103,102,101,9,0] fun G=>Yj ?_)))
 refine Zo (σ:=(Nat)×(Zn)) [1,6,8,11,12,68,69] [0,9,101,102] (fun s=>[(70,.pv (.int .i64 (s.1:Int)))]) (fun s=>[(103,.pt (.val v12) 25 [.pv (.sl rTx s.2.txs),.pv (.sl ZA s.2.orders)])]) (fun s=>s.1≤(ZI (getO g.orders key) 0 to).length∧(ZlG (ZeW 166) s.2 (((ZI (getO g.orders key) 0 to).drop s.1).map (ZjD key)) (ZU g (ZjU key to)).1∧Zbk s.2)) (fun s=>(ZI (getO g.orders key) 0 to).length - s.1) ((0),(g)) G ⟨rfl,rfl,rfl,rfl,rfl,rfl,rfl,rfl,tv⟩ ⟨rfl,rfl,rfl,rfl,rfl,tv⟩ ⟨Yr _,⟨hpl,hsm⟩⟩ ?_
 clear G;intro s a w F hC G
 obtain ⟨i,y⟩:=s
 try dsimp only at hC
 obtain ⟨F,G⟩:=G.nM [70,69,68,12,11,8,6,1] [103,102,101,9,0]
 try dsimp only at G
 obtain ⟨hi,hq⟩:=hC
 obtain ⟨hply,hsy⟩:=hq
 refine Ya (rZ G (qL r2) J [71,70,69,68,12,11,8,6,1] [103,102,101,9,0] fun G=>Ya ?_)
 refine Zc G O (fun hc3=>?_) (fun hc3=>?_)
 ·have hil:i<(ZI (getO g.orders key) 0 to).length:=by simp at hc3;omega
  rw [Zba hil,YI] at hply
  obtain ⟨hpl1,hpl2,hpl3⟩:=hply
  refine Yi (Za (Ya (Yj (Ya (Zb G (qy 2 underlying40 r2 (qf (oR true 2 .t) r1 qz (qf (oH [.int .i64 0,.int .i64 0] 104) trivial qz (qS 2 104 r2 r1 qZ)))) J [70,69,68,14,12,11,8,6,1] [104,103,102,101,9,0] (fun _=>rfl) (fun _=>rfl) fun τ a w F G=>?_)))))
  try dsimp only [RS.sub,SF.sub,CF.sub,csub,Anc.sub,List.map,Zg,xL,xM,Nat.reduceAdd,xD,xE,xT,xU,xC,xN,zCF,ldSF,Zp,rTx,ZA,ZX,rInt,rOp,ZgL,Zav] at G
  generalize τ 14=v14 at G
  try simp only [Yc] at G
  refine Za (Ya (Zb G (qe 2 103 r1 r1 (qR rr (qg 0 104 r1 r1 (qa 104 r1 r1 (qg 1 104 r1 r1 (qa 104 r1 r1 (qf (oB [(0,_),(3,.tmp 76),(4,.tmp 78),(5,.tmp 80)] [.int .i64 0,.int .i64 0,.bool false,.slice none 0 0,.int .i64 0,.slice none 0 0,.int .i64 0,.int .i64 0,.int .i64 0,.int .i64 0] [(0,1),(1,3),(4,2),(6,1),(7,1),(8,1),(9,1)] (.one O qi one_int kr (.one O .t one_int kr (.one O .t one_int kr (.one O .t one_int kr .nil))))) r3 qz (qf (oP (Zhz y (ZjD key (Nn (ZI (getO g.orders key) 0 to) i)) hsy ⟨Yr _,Yr _⟩) func8 (Args.two (.pagg .t) (.conv (.pagg .t) (Ent.paggLe (l:=[.int .i64 5,.int .i64 0,.bool false,.is (.slice none 0 0),.int .i64 0,.is (.slice none 0 0),.int .i64 key,.int .i64 (Nn (ZI (getO g.orders key) 0 to) i).key,.int .i64 (Nn (ZI (getO g.orders key) 0 to) i).val,.int .i64 0]) (l':=ZgL (ZjD key (Nn (ZI (getO g.orders key) 0 to) i))) ⟨ZT.refl,ZT.refl,ZT.refl,ZT.nilSl,ZT.refl,ZT.nilSl,ZT.refl,ZT.refl,ZT.refl,ZT.refl,tv⟩)))) r2 qz (qR rr (qf (Zi .t O) r1 qz (qf (Zi .t O) r1 qz (qf (oH [.slice none 0 0,.slice none 0 0] 105) trivial qz (qf (oA 2 105 .same (.conv .t .agg)) r2 r1 (qO rr qZ)))))))))))))) J [70,69,68,16,15,12,11,8,6,1] [105,104,103,102,101,9,0] (fun _=>rfl) (fun _=>rfl) fun τ a w F G=>?_))
  try dsimp only [RS.sub,SF.sub,CF.sub,csub,Anc.sub,List.map,Zg,xL,xM,Nat.reduceAdd,xD,xE,xT,xU,xC,xN,zCF,ldSF,Zp,rTx,ZA,ZX,rInt,rOp,ZgL,Zav] at G
  generalize τ 15=v15 at G
  refine Za (Ya (Ya (rZ G (qR rr (qf (o_neq .t qi) r1 qz qZ)) J [86,70,69,68,15,12,11,8,6,1] [105,104,103,102,101,9,0] fun G=>?_)))
  refine Zc G O (fun hc4=>?_) (fun hc4=>?_)
  ·rw [hpl1] at hc4;simp at hc4
  refine Yi (Za (Zf G (qe 2 105 r1 r1 (qs 2 103 r2 r1 qZ)) J [70,69,68,12,11,8,6,1] [105,104,103,102,101,9,0] O O fun a w F G=>Zk (Za ?_)))
  refine rZ G (qp r1 (qR rr qZ)) J [70,69,68,12,11,8,6,1] [105,104,103,102,101,9,0] fun G=>?_
  replace G:=G.ent (i:=70) (s':=.pv (.int .i64 ((i+1:Nat):Int))) O (.int (Zh ow))
  obtain ⟨F,G⟩:=G.nM [69,68,12,11,8,6,1,70] [102,101,9,0,103]
  exact ⟨((i+1),((ZU y (ZjD key (Nn (ZI (getO g.orders key) 0 to) i))).1)),F,⟨by omega,⟨hpl3,hpl2.fit.small160 (by decide)⟩⟩,G,by omega⟩
 have hil:i=(ZI (getO g.orders key) 0 to).length:=by simp at hc3;omega
 have hend:(ZU g (ZjU key to)).1=y:=by rw [hil,Ybj] at hply;exact hply
 refine YA (Zj (Zj (Zw (Za (Ya (rZ G (qR rr (qf (o_eql .t qi) r1 qz (qR rr (qk O (fun h=>oL true 2 102 .is) r2 r1 (qk O (fun h=>oL true 2 103 .is) r2 r1 (qk O (fun h=>oP (Zn4 (ZU g (ZjU key to)).1 y) func10 (Args.two (.pagg (.w h)) (.pagg (.w h)))) r3 qz (qf (ZR .t .t) r2 qz (qO rr qZ)))))))) J [6] [103,102,101,9,0] fun G=>Yg ?_))))))
 refine Zt hfr G O O O (.bool (by rw [hend];simp))
end Go.Proofs.YthfoojdlcjfmcaaGreatDoor
