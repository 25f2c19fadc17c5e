/- Walks: maps of whatever values. No condition. -/
import Derived.Test.YtfecljadegkmdaaGreatLibL
namespace Go.Gm
set_option linter.unusedVariables false
set_option linter.unusedSimpArgs false
set_option linter.unusedSectionVars false
structure GE (κ ν:Type) where
 key:κ
 val:ν
 born:Nat
section
variable {κ ν:Type} [DecidableEq κ]
def gIdx (k:κ):List (GE κ ν)→Option Nat
 | []=>none
 | e :: es=>if k=e.key then some 0 else (gIdx k es).map (· + 1)
def gGet (k:κ):List (GE κ ν)→Option ν
 | []=>none
 | e :: es=>if k=e.key then some e.val else gGet k es
def gBorn (k:κ):List (GE κ ν)→Option Nat
 | []=>none
 | e :: es=>if k=e.key then some e.born else gBorn k es
def gSet (k:κ) (v:ν):List (GE κ ν)→List (GE κ ν)
 | []=>[]
 | e :: es=>if k=e.key then { e with val:=v } :: es else e :: gSet k v es
def gPut (k:κ) (v:ν) (s:List (GE κ ν)×Nat):List (GE κ ν)×Nat:=if (gIdx k s.1).isSome then (gSet k v s.1,s.2) else (s.1 ++ [⟨k,v,s.2⟩],s.2+1)
def gEns (z:ν) (k:κ) (s:List (GE κ ν)×Nat):List (GE κ ν)×Nat:=if (gIdx k s.1).isSome then s else (s.1 ++ [⟨k,z,s.2⟩],s.2+1)
def Zcd (k:κ) (s:List (GE κ ν)×Nat):Nat:=(gBorn k s.1).getD s.2
def gDel (k:κ):List (GE κ ν)→List (GE κ ν)
 | []=>[]
 | e :: es=>if k=e.key then es else e :: gDel k es
def GNd (es:List (GE κ ν)):Prop:=(es.map (·.key)).Nodup
def GWf (es:List (GE κ ν)) (clock:Nat):Prop:=(es.map (·.born)).Nodup ∧ ∀ e ∈ es,e.born<clock
def ZgH (ok:κ→Prop) (es:List (GE κ ν)):Prop:=∀ e ∈ es,ok e.key
theorem Zeq (k:κ):∀ es:List (GE κ ν),(gIdx k es).isSome=(gGet k es).isSome
 | []=>rfl
 | e :: es=>by
  unfold gIdx gGet
  split
  ·rfl
  ·rw [Option.isSome_map,Zeq k es]
theorem ZbS {k:κ} : ∀ {es:List (GE κ ν)},(gGet k es).isSome=true ↔ k ∈ es.map (·.key)
 | []=>by simp [gGet]
 | e :: es=>by
  unfold gGet
  split
  ·rename_i h;simp [h]
  ·rename_i h
   rw [ZbS (es:=es)]
   simp [h]
theorem ZbO {k:κ} {es:List (GE κ ν)} (h:gIdx k es=none):gGet k es=none:=by
 have:=Zeq k es
 rw [h] at this
 simpa using this.symm
theorem Zk0 {k:κ} {v:ν} : ∀ {es:List (GE κ ν)},GNd es → ∀ e ∈ es,gGet e.key es=some e.val
 | [],_,e,h=>by cases h
 | x :: es,hn,e,h=>by
  unfold GNd at hn
  rw [YJ,Ya1] at hn
  unfold gGet
  rcases Yo.1 h with rfl | h
  ·rw [Ye rfl]
  ·rw [Yb (fun e'=>hn.1 (by rw [← e'];exact YI.2 ⟨e,h,rfl⟩))]
   exact Zk0 (v:=v) (k:=k) hn.2 e h
theorem ZeN {k:κ} {v:ν} : ∀ es:List (GE κ ν),(gSet k v es).map (·.key)=es.map (·.key)
 | []=>rfl
 | e :: es=>by
  unfold gSet
  split
  ·rfl
  ·simp [ZeN es]
theorem Zex {k:κ} {v:ν} : ∀ es:List (GE κ ν),(gSet k v es).map (·.born)=es.map (·.born)
 | []=>rfl
 | e :: es=>by
  unfold gSet
  split
  ·rfl
  ·simp [Zex es]
theorem GNd.set {k:κ} {v:ν} {es:List (GE κ ν)} (h:GNd es):GNd (gSet k v es):=by unfold GNd;rw [ZeN];exact h
theorem GNd.push {k:κ} {v:ν} {n:Nat} {es:List (GE κ ν)} (h:GNd es) (hk:gIdx k es=none):GNd (es ++ [⟨k,v,n⟩]):=by
 unfold GNd at *
 rw [Yaj,List.nodup_append]
 refine ⟨h,by simp,?_⟩
 intro a ha b hb
 simp at hb
 subst hb
 intro e
 subst e
 have:=(ZbS (k:=a) (es:=es)).2 ha
 rw [← Zeq,hk] at this
 cases this
theorem gGet_set {k k':κ} {v:ν} : ∀ {es:List (GE κ ν)},(gIdx k es).isSome=true→gGet k' (gSet k v es)=if k' = k then some v else gGet k' es
 | [],h=>by simp [gIdx] at h
 | e :: es,h=>by
  unfold gSet
  by_cases hk:k=e.key
  ·rw [Ye hk]
   unfold gGet
   subst hk
   by_cases h2:k' = e.key <;> simp [h2]
  ·rw [Yb hk]
   unfold gGet
   have ih:=gGet_set (k':=k') (v:=v) (es:=es) (by unfold gIdx at h;simpa [hk] using h)
   by_cases h2:k' = e.key
   ·have h3:¬ k' = k:=fun h=>hk (h.symm.trans h2)
    rw [Ye h2,Ye h2,Yb h3]
   ·rw [Yb h2,Yb h2,ih]
theorem gGet_push {k k':κ} {v:ν} {n:Nat} : ∀ {es:List (GE κ ν)},gIdx k es=none→gGet k' (es ++ [⟨k,v,n⟩])=if k' = k then some v else gGet k' es
 | [],_=>by simp [gGet]
 | e :: es,hn=>by
  unfold gIdx at hn
  split at hn
  ·cases hn
  ·rename_i hk
   have ih:=gGet_push (k':=k') (v:=v) (n:=n) (Option.map_eq_none_iff.1 hn)
   rw [Ya6,gGet,gGet,ih]
   by_cases h4:k' = e.key
   ·have:¬ k' = k:=fun h=>hk (h.symm.trans h4)
    rw [Ye h4,Yb this,Ye h4]
   ·rw [Yb h4,Yb h4]
theorem Zbw {k k':κ} {v:ν} {s:List (GE κ ν)×Nat} : gGet k' (gPut k v s).1=if k' = k then some v else gGet k' s.1:=by
 unfold gPut
 split
 ·rename_i h;exact gGet_set h
 ·rename_i h;exact gGet_push Xz
theorem GNd.put {k:κ} {v:ν} {s:List (GE κ ν)×Nat} (h:GNd s.1):GNd (gPut k v s).1:=by
 unfold gPut
 split
 ·exact h.set
 ·rename_i h';exact h.push (by simpa using h')
theorem GNd.ens {z:ν} {k:κ} {s:List (GE κ ν)×Nat} (h:GNd s.1):GNd (gEns z k s).1:=by
 unfold gEns
 split
 ·exact h
 ·rename_i h';exact h.push (by simpa using h')
theorem gIdx_push {k:κ} {v:ν} {n:Nat} {es:List (GE κ ν)} (hn:gIdx k es=none):(gIdx k (es ++ [⟨k,v,n⟩])).isSome=true:=by
 rw [Zeq,gGet_push hn];simp
theorem ZfI {z:ν} {k k':κ} {v:ν} (s:List (GE κ ν)×Nat):gGet k' (gSet k v (gEns z k s).1)=if k' = k then some v else gGet k' s.1:=by
 unfold gEns
 cases hi:gIdx k s.1 with
 | some i=>simp only [Option.isSome_some,Yv];exact gGet_set (by rw [hi];rfl)
 | none=>
  simp only [Option.isSome_none,YaU,Ym]
  rw [gGet_set (gIdx_push hi),gGet_push hi]
  split <;> rfl
theorem Zcx {k:κ} : ∀ {es:List (GE κ ν)} {i:Nat},gIdx k es=some i→gDel k es=es.eraseIdx i
 | [],i,h=>by cases h
 | e :: es,i,h=>by
  unfold gIdx at h
  unfold gDel
  split at h
  ·rename_i hk;cases h;simp [hk]
  ·rename_i hk
   obtain ⟨j,hj,rfl⟩:=Yac.1 h
   rw [Yb hk,Zcx hj]
   rfl
theorem gDel_none {k:κ} : ∀ {es:List (GE κ ν)},gIdx k es=none→gDel k es=es
 | [],_=>rfl
 | e :: es,h=>by
  unfold gIdx at h
  unfold gDel
  split at h
  ·cases h
  ·rename_i hk;rw [Yb hk,gDel_none (Option.map_eq_none_iff.1 h)]
theorem ZgF {k:κ} : ∀ {es:List (GE κ ν)} {e:GE κ ν},e ∈ gDel k es→e ∈ es
 | x :: es,e,h=>by
  unfold gDel at h
  split at h
  ·exact YQ _ h
  ·rcases Yo.1 h with rfl | h
   ·simp
   ·exact YQ _ (ZgF h)
theorem Zci {k:κ} : ∀ es:List (GE κ ν),(gDel k es).Sublist es
 | []=>List.Sublist.slnil
 | e :: es=>by
  unfold gDel
  split
  ·exact List.sublist_cons_self _ _
  ·exact (Zci es).cons_cons _
theorem GNd.del {k:κ} {es:List (GE κ ν)} (h:GNd es):GNd (gDel k es):=by
 unfold GNd at *
 exact ((Zci es).map (fun e:GE κ ν=>e.key)).nodup h
theorem GWf.del {k:κ} {es:List (GE κ ν)} {clock:Nat} (h:GWf es clock):GWf (gDel k es) clock:=⟨((Zci es).map (fun e:GE κ ν=>e.born)).nodup h.1,fun e he=>h.2 e (ZgF he)⟩
theorem gGet_del {k k':κ} : ∀ {es:List (GE κ ν)},GNd es→gGet k' (gDel k es)=if k' = k then none else gGet k' es
 | [],_=>by simp [gDel,gGet]
 | e :: es,h=>by
  unfold GNd at h
  rw [YJ,Ya1] at h
  unfold gDel
  by_cases hk:k=e.key
  ·rw [Ye hk]
   by_cases h2:k' = k
   ·rw [Ye h2]
    cases hg:gGet k' es with
    | none=>rfl
    | some x=>
     have:=(ZbS (k:=k') (es:=es)).1 XT
     rw [h2,hk] at this
     exact absurd this h.1
   ·rw [Yb h2,gGet,Yb (fun h=>h2 (h.trans hk.symm))]
  ·rw [Yb hk,gGet,gGet_del h.2,gGet]
   by_cases h4:k' = e.key
   ·have:¬ k' = k:=fun h=>hk (h.symm.trans h4)
    rw [Ye h4,Yb this,Ye h4]
   ·rw [Yb h4,Yb h4]
theorem ZgH.set {ok:κ→Prop} {k:κ} {v:ν} {es:List (GE κ ν)} (h:ZgH ok es):ZgH ok (gSet k v es):=fun e he=>by
 have:e.key ∈ (gSet k v es).map (·.key):=YI.2 ⟨e,he,rfl⟩
 rw [ZeN] at this
 obtain ⟨e',h1,h2⟩:=YI.1 this
 rw [← h2];exact h e' h1
theorem ZgH.push {ok:κ→Prop} {k:κ} {es:List (GE κ ν)} (h:ZgH ok es) (hk:ok k) (v:ν) (n:Nat):ZgH ok (es ++ [⟨k,v,n⟩]):=by
 intro e he
 rcases YC.1 he with he | he
 ·exact h e he
 ·simp at he;subst he;exact hk
theorem GWf.set {k:κ} {v:ν} {es:List (GE κ ν)} {clock:Nat} (h:GWf es clock):GWf (gSet k v es) clock:=by
 refine ⟨by rw [Zex];exact h.1,fun e he=>?_⟩
 have:e.born ∈ (gSet k v es).map (·.born):=YI.2 ⟨e,he,rfl⟩
 rw [Zex] at this
 obtain ⟨e',h1,h2⟩:=YI.1 this
 rw [← h2];exact h.2 e' h1
theorem GWf.push {es:List (GE κ ν)} {clock:Nat} (h:GWf es clock) (k:κ) (v:ν):GWf (es ++ [⟨k,v,clock⟩]) (clock+1):=by
 refine ⟨?_,fun e he=>?_⟩
 ·rw [Yaj,List.nodup_append]
  refine ⟨h.1,by simp,?_⟩
  intro a ha b hb
  obtain ⟨e,h1,rfl⟩:=YI.1 ha
  simp at hb
  have:=h.2 e h1
  omega
 ·rcases YC.1 he with he | he
  ·exact Nat.lt_succ_of_lt (h.2 e he)
  ·simp at he;subst he;exact Nat.lt_succ_self _
theorem Zhb {k:κ} {b:Nat} : ∀ {es:List (GE κ ν)},(es.map (·.born)).Nodup→gBorn k es=some b → ∃ i,gIdx k es=some i∧es.findIdx? (fun e=>decide (e.born=b))=some i
 | [],_,h=>by cases h
 | e :: es,hd,h=>by
  unfold gBorn at h
  unfold gIdx
  split at h
  ·rename_i hk
   cases h
   exact ⟨0,by rw [Ye hk],by simp [List.findIdx?_cons]⟩
  ·rename_i hk
   rw [YJ,Ya1] at hd
   obtain ⟨i,h1,h2⟩:=Zhb hd.2 h
   refine ⟨i+1,by rw [Yb hk,h1];rfl,?_⟩
   have hne:¬ e.born=b:=by
    intro he
    have key:∀ {es:List (GE κ ν)},gBorn k es=some b → ∃ e' ∈ es,e'.born=b:=by
     intro es
     induction es with
     | nil=>intro h;cases h
     | cons x es ih=>
      intro h
      unfold gBorn at h
      split at h
      ·exact ⟨x,by simp,Option.some.inj h⟩
      ·obtain ⟨e',h3,h4⟩:=ih h
       exact ⟨e',YQ _ h3,h4⟩
    obtain ⟨e',h3,h4⟩:=key h
    exact hd.1 (YI.2 ⟨e',h3,by rw [h4,he]⟩)
   rw [List.findIdx?_cons]
   simp [hne,h2]
theorem Zdt (z:ν) (k:κ) (s:List (GE κ ν)×Nat):gBorn k (gEns z k s).1=some (Zcd k s):=by
 have h1:∀ es:List (GE κ ν),(gIdx k es).isSome=(gBorn k es).isSome:=by
  intro es
  induction es with
  | nil=>rfl
  | cons e es ih=>unfold gIdx gBorn;split;rfl;rw [Option.isSome_map,ih]
 have h2:∀ es:List (GE κ ν),gIdx k es=none→gBorn k (es ++ [⟨k,z,s.2⟩])=some s.2:=by
  intro es
  induction es with
  | nil=>intro _;simp [gBorn]
  | cons e es ih=>
   intro h
   unfold gIdx at h
   split at h
   ·cases h
   ·rename_i hk
    rw [Ya6,gBorn,Yb hk]
    exact ih (Option.map_eq_none_iff.1 h)
 unfold gEns Zcd
 cases hi:gIdx k s.1 with
 | some i=>
  have:=h1 s.1
  rw [hi] at this
  obtain ⟨b,hb⟩:=Option.isSome_iff_exists.1 this.symm
  simp [hb]
 | none=>
  have:=h1 s.1
  rw [hi] at this
  have hn:gBorn k s.1=none:=by simpa using this.symm
  simp [h2 s.1 hi,hn]
end
section
variable {κ ν:Type} [DecidableEq κ]
def rEnc (kv:κ→Value) (e:GE κ Value):MapEntry:={ key:=kv e.key,val:=e.val,born:=e.born }
def GR (ek:ν→PV):List (GE κ ν)→List (GE κ Value)→World→Ys→Prop
 | [],[],_,_=>True
 | e :: es,r :: rs,w,y=>(e.key=r.key∧e.born=r.born∧(ek e.val).p r.val w y)∧GR ek es rs w y
 | _,_,_,_=>False
theorem GR.mono {ek:ν→PV} {w y w' y'} (h:Ev w y w' y'):∀ {es:List (GE κ ν)} {rs:List (GE κ Value)},GR ek es rs w y→GR ek es rs w' y'
 | [],[],_=>trivial
 | e :: es,r :: rs,k=>⟨⟨k.1.1,k.1.2.1,(ek e.val).mono h k.1.2.2⟩,GR.mono h k.2⟩
 | [],_ :: _,k=>k.elim
 | _ :: _,[],k=>k.elim
section
variable {ek:ν→PV} {w:World} {y:Ys}
theorem GR.idx (k:κ):∀ {es:List (GE κ ν)} {rs:List (GE κ Value)},GR ek es rs w y→gIdx k rs=gIdx k es
 | [],[],_=>rfl
 | e :: es,r :: rs,h=>by unfold gIdx;rw [h.1.1,GR.idx k h.2]
 | [],_ :: _,k=>k.elim
 | _ :: _,[],k=>k.elim
theorem GR.born (k:κ):∀ {es:List (GE κ ν)} {rs:List (GE κ Value)},GR ek es rs w y→gBorn k rs=gBorn k es
 | [],[],_=>rfl
 | e :: es,r :: rs,h=>by unfold gBorn;rw [h.1.1,h.1.2.1,GR.born k h.2]
 | [],_ :: _,k=>k.elim
 | _ :: _,[],k=>k.elim
theorem GR.borns:∀ {es:List (GE κ ν)} {rs:List (GE κ Value)},GR ek es rs w y→rs.map (·.born)=es.map (·.born)
 | [],[],_=>rfl
 | e :: es,r :: rs,h=>by rw [YJ,YJ,h.1.2.1,GR.borns h.2]
 | [],_ :: _,k=>k.elim
 | _ :: _,[],k=>k.elim
theorem GR.keys:∀ {es:List (GE κ ν)} {rs:List (GE κ Value)},GR ek es rs w y→rs.map (·.key)=es.map (·.key)
 | [],[],_=>rfl
 | e :: es,r :: rs,h=>by rw [YJ,YJ,h.1.1,GR.keys h.2]
 | [],_ :: _,k=>k.elim
 | _ :: _,[],k=>k.elim
theorem GR.get {k:κ} {i:Nat} : ∀ {es:List (GE κ ν)} {rs:List (GE κ Value)},GR ek es rs w y→gIdx k es=some i → ∃ x u r,gGet k es=some x∧gGet k rs=some u∧(ek x).p u w y∧rs[i]? = some r∧r.key=k∧r.val=u∧gBorn k es=some r.born
 | [],[],_,h=>by cases h
 | e :: es,r :: rs,h,hi=>by
  unfold gIdx at hi
  unfold gGet gBorn
  split at hi
  ·rename_i hk
   cases hi
   have hk2:k=r.key:=hk.trans h.1.1
   exact ⟨e.val,r.val,r,by rw [Ye hk],by rw [Ye hk2],h.1.2.2,rfl,hk2.symm,rfl,by rw [Ye hk,h.1.2.1]⟩
  ·rename_i hk
   obtain ⟨j,hj,rfl⟩:=Yac.1 hi
   have hk2:¬ k=r.key:=fun e=>hk (e.trans h.1.1.symm)
   obtain ⟨x,u,r',h1,h2,h3,h4,h5,h6,h7⟩:=GR.get h.2 hj
   exact ⟨x,u,r',by rw [Yb hk];exact h1,by rw [Yb hk2];exact h2,h3,by simpa using h4,h5,h6,by rw [Yb hk];exact h7⟩
 | [],_ :: _,k,_=>k.elim
 | _ :: _,[],k,_=>k.elim
theorem GR.set {k:κ} {x:ν} {u:Value} (hu:(ek x).p u w y):∀ {es:List (GE κ ν)} {rs:List (GE κ Value)},GR ek es rs w y→GR ek (gSet k x es) (gSet k u rs) w y
 | [],[],_=>trivial
 | e :: es,r :: rs,h=>by
  unfold gSet
  by_cases hk:k=e.key
  ·rw [Ye hk,Ye (hk.trans h.1.1)]
   exact ⟨⟨h.1.1,h.1.2.1,hu⟩,h.2⟩
  ·rw [Yb hk,Yb (fun e=>hk (e.trans h.1.1.symm))]
   exact ⟨h.1,GR.set hu h.2⟩
 | [],_ :: _,k=>k.elim
 | _ :: _,[],k=>k.elim
theorem GR.push {k:κ} {x:ν} {u:Value} {n:Nat} (hu:(ek x).p u w y):∀ {es:List (GE κ ν)} {rs:List (GE κ Value)},GR ek es rs w y→GR ek (es ++ [⟨k,x,n⟩]) (rs ++ [⟨k,u,n⟩]) w y
 | [],[],_=>⟨⟨rfl,rfl,hu⟩,tv⟩
 | e :: es,r :: rs,h=>⟨h.1,GR.push hu h.2⟩
 | [],_ :: _,k=>k.elim
 | _ :: _,[],k=>k.elim
theorem GR.del {k:κ} : ∀ {es:List (GE κ ν)} {rs:List (GE κ Value)},GR ek es rs w y→GR ek (gDel k es) (gDel k rs) w y
 | [],[],_=>trivial
 | e :: es,r :: rs,h=>by
  unfold gDel
  by_cases hk:k=e.key
  ·rw [Ye hk,Ye (hk.trans h.1.1)];exact h.2
  ·rw [Yb hk,Yb (fun e=>hk (e.trans h.1.1.symm))]
   exact ⟨h.1,GR.del h.2⟩
 | [],_ :: _,k=>k.elim
 | _ :: _,[],k=>k.elim
theorem GR.len:∀ {es:List (GE κ ν)} {rs:List (GE κ Value)},GR ek es rs w y→rs.length=es.length
 | [],[],_=>rfl
 | e :: es,r :: rs,h=>by simp [GR.len h.2]
 | [],_ :: _,k=>k.elim
 | _ :: _,[],k=>k.elim
end
structure ZhN (P:Program) (kt:TypeId) (ok:κ→Prop) (kv:κ→Value):Prop where
 check:∀ b k w,ok k→(Instr.checkKey b 10000 kt (kv k)).run P w = .ok () w
 find:∀ (rs:List (GE κ Value)) k w,ok k→(∀ e ∈ rs,ok e.key)→(Instr.findKey kt (kv k) (rs.map (rEnc kv))).run P w = .ok ((gIdx k rs).map fun i=>(i,(gGet k rs).getD undef)) w
 same:∀ k,Instr.sameBits 10000 (kv k) (kv k)=true
def mapG (ek:ν→PV) (ok:κ→Prop) (kv:κ→Value) (es:List (GE κ ν)) (clock:Nat) (v:Value):HP:=
 ⟨fun w f y=>∃ b rs,v = .map (some b)∧w.heap[b]? = some (.map (rs.map (rEnc kv)).toArray clock)∧GR ek es rs w y∧(GWf es clock∧ZgH ok es) ∧ ∀ x,f x ↔ x=b,
  fun {w f y w' y'} h hf ⟨b,rs,e,hb,hg,hr,hx⟩=>⟨b,rs,e,by rw [hf b ((hx b).2 rfl)];exact hb,hg.mono h,hr,hx⟩⟩
theorem Zck {ek:ν→PV} {ok:κ→Prop} {es:List (GE κ ν)} {rs:List (GE κ Value)} {w:World} {y:Ys} (h:GR ek es rs w y) (hk:ZgH ok es):∀ e ∈ rs,ok e.key:=fun e he=>by
 have:e.key ∈ rs.map (·.key):=YI.2 ⟨e,he,rfl⟩
 rw [h.keys] at this
 obtain ⟨e',h1,h2⟩:=YI.1 this
 rw [← h2];exact hk e' h1
theorem Ziy {k:κ} {u:Value} {kv:κ→Value} : ∀ {rs:List (GE κ Value)} {i:Nat},gIdx k rs=some i→((rs.map (rEnc kv)).modify i fun e=>{ e with key:=kv k,val:=u })=(gSet k u rs).map (rEnc kv)
 | [],i,h=>by cases h
 | e :: es,i,h=>by
  unfold gIdx at h
  split at h
  ·rename_i hk
   cases h
   simp [gSet,hk,rEnc]
  ·rename_i hk
   obtain ⟨j,hj,rfl⟩:=Yac.1 h
   have:=Ziy (u:=u) (kv:=kv) hj
   simp [gSet,hk,this]
theorem ZhK {k:κ} {u:Value} {kv:κ→Value} : ∀ {rs:List (GE κ Value)} {i:Nat},gIdx k rs=some i→((rs.map (rEnc kv)).modify i fun e=>{ e with val:=u })=(gSet k u rs).map (rEnc kv)
 | [],i,h=>by cases h
 | e :: es,i,h=>by
  unfold gIdx at h
  split at h
  ·rename_i hk
   cases h
   simp [gSet,hk,rEnc]
  ·rename_i hk
   obtain ⟨j,hj,rfl⟩:=Yac.1 h
   have:=ZhK (u:=u) (kv:=kv) hj
   simp [gSet,hk,this]
end
section
variable {P:Program} {d:Option Nat} {t ty:TypeId} {pos:String} {af:Array Edge} {g:Option (Nat×Bool)} {x y z:Operand} {ps qs rs:List (Nat×SF)} {κ ν:Type} [DecidableEq κ] {ok:κ→Prop} {kv:κ→Value} {kt et:TypeId} {ek:ν→PV}
theorem ZaA {d':Nat} (m:Nat):OpC P ⟨some d',.makeMap t none,ty,pos,af,g⟩ ⟨[],[],.same d',[(m,.ob (.slot d') (mapG ek ok kv [] 0))]⟩:=fun a w F K Q hw hp hr ht=>by
 have hrun:(execOp a.eval ⟨some d',.makeMap t none,ty,pos,af,g⟩).run P w = .ok (.value (.map (some w.heap.size))) (w.alloc (.map #[] 0)):=by
  simp [execOp,Instr.makeMap,run_newObj_alloc]
 obtain ⟨g1,g2⟩:=ZbN hw m (.map #[] 0)
 simp only [Oper.wp,hrun,Oper.upon]
 refine ht _ _ _ g1 g2 ⟨by simp [upd],rfl⟩ ?_
 intro q hq
 simp only [Yn] at hq
 subst hq
 exact ⟨w.heap.size,[],by simp [Anc.v,upd],by simpa using YaO w (.map #[] 0),tv,⟨by simp [GWf],by simp [ZgH]⟩,fun b=>by simp⟩
theorem Zgt {zv:Value} (hz:(P.info? et).map (·.zero)=some (some zv)) (w:World):(zeroValue et).run P w = .ok zv w:=by
 obtain ⟨i,h1,h2⟩:=Yac.1 hz
 simp [zeroValue,typeInfo,h1,h2]
theorem ZX {es:List (GE κ ν)} {clock:Nat} {an:Anc} {k:κ} {z0:ν} {zv:Value} (m:Nat) (hu:P.underlying t=some (.map kt et)) (hk:ZhN P kt ok kv) (hz:(P.info? et).map (·.zero)=some (some zv)) (hz0:∀ w y,(ek z0).p zv w y) (hx:Zal x ps an) (hy:ZD ok kv y qs k) :
  OpC P ⟨d,.lookup t x y false,ty,pos,af,g⟩ ⟨ps++qs,[(m,.ob an (mapG ek ok kv es clock))],.pv (ek ((gGet k es).getD z0)),[]⟩:=
 OpC.read fun act w F hp hr=>by
  obtain ⟨b,rs,e1,hb,hg,hrg,hf⟩:=hr (m,.ob an (mapG ek ok kv es clock)) XA
  have ex:act.eval x = .map (some b):=WL
  obtain ⟨ey,hok⟩:=hy act w _ hp.right
  have h1:=hk.find rs k w hok (Zck hg hrg.2)
  cases hi:gIdx k es with
  | some i=>
   obtain ⟨x0,u,r,h2,h3,h4,_⟩:=hg.get hi
   rw [hg.idx,hi,h3] at h1
   refine ⟨u,?_,fun _ _=>by rw [h2];exact h4⟩
   simp [execOp,ex,ey,Instr.lookup,Yk hu,YY hb,hk.check _ _ _ hok,h1]
  | none=>
   rw [hg.idx,hi] at h1
   refine ⟨zv,?_,fun _ _=>by rw [ZbO hi];exact hz0 _ _⟩
   simp [execOp,ex,ey,Instr.lookup,Yk hu,YY hb,hk.check _ _ _ hok,h1,Zgt hz]
theorem Zin {es:List (GE κ ν)} {clock:Nat} {an:Anc} {k:κ} {z0:ν} {zv:Value} (m:Nat) (hu:P.underlying t=some (.map kt et)) (hk:ZhN P kt ok kv) (hz:(P.info? et).map (·.zero)=some (some zv)) (hz0:∀ w y,(ek z0).p zv w y) (hx:Zal x ps an) (hy:ZD ok kv y qs k) :
  OpC P ⟨d,.lookup t x y true,ty,pos,af,g⟩ ⟨ps++qs,[(m,.ob an (mapG ek ok kv es clock))],.pv (.tup [ek ((gGet k es).getD z0),.bool (gGet k es).isSome]),[]⟩:=
 OpC.read fun act w F hp hr=>by
  obtain ⟨b,rs,e1,hb,hg,hrg,hf⟩:=hr (m,.ob an (mapG ek ok kv es clock)) XA
  have ex:act.eval x = .map (some b):=WL
  obtain ⟨ey,hok⟩:=hy act w _ hp.right
  have h1:=hk.find rs k w hok (Zck hg hrg.2)
  cases hi:gIdx k es with
  | some i=>
   obtain ⟨x0,u,r,h2,h3,h4,_⟩:=hg.get hi
   rw [hg.idx,hi,h3] at h1
   refine ⟨.tuple #[u,.bool true],?_,fun _ _=>⟨[_,_],rfl,by rw [h2];exact h4,by rw [h2];rfl,tv⟩⟩
   simp [execOp,ex,ey,Instr.lookup,Yk hu,YY hb,hk.check _ _ _ hok,h1]
  | none=>
   rw [hg.idx,hi] at h1
   refine ⟨.tuple #[zv,.bool false],?_,fun _ _=>⟨[_,_],rfl,by rw [ZbO hi];exact hz0 _ _,by rw [ZbO hi];rfl,tv⟩⟩
   simp [execOp,ex,ey,Instr.lookup,Yk hu,YY hb,hk.check _ _ _ hok,h1,Zgt hz]
theorem Za0 {es:List (GE κ ν)} {clock:Nat} {an:Anc} {k:κ} {v:ν} (m:Nat) (hu:P.underlying t=some (.map kt et)) (hk:ZhN P kt ok kv) (hx:Zal x ps an) (hy:ZD ok kv y qs k) (hv:Opd z rs (.pv (ek v))) :
  OpC P ⟨none,.mapUpdate t x y z,ty,pos,af,g⟩ ⟨ps++(qs++rs),[(m,.ob an (mapG ek ok kv es clock))],.pv .any,[(m,.ob an (mapG ek ok kv (gPut k v (es,clock)).1 (gPut k v (es,clock)).2))]⟩:=fun act w F K Q hw hp hr ht=>by
 obtain ⟨b,us,e1,hb,hg,hrg,hf⟩:=hr (m,.ob an (mapG ek ok kv es clock)) XA
 have ex:act.eval x = .map (some b):=WL
 obtain ⟨ey,hok⟩:=hy act w _ hp.right.left
 have hvz:(ek v).p (act.eval z) w (U F):=hv act w _ hp.right.right
 have h1:=hk.find us k w hok (Zck hg hrg.2)
 have hrun:∃ o' us',(execOp act.eval ⟨none,.mapUpdate t x y z,ty,pos,af,g⟩).run P w = .ok .skip { w with heap:=w.heap.setIfInBounds b o' } ∧ o' = .map (us'.map (rEnc kv)).toArray (gPut k v (es,clock)).2∧GR ek (gPut k v (es,clock)).1 us' w (U F):=by
  cases hi:gIdx k es with
  | some i=>
   have hi2:gIdx k us=some i:=K8
   obtain ⟨x0,u,r,g1,g2,g3,g4,g5,g6,g7⟩:=hg.get hi
   rw [hi2] at h1
   have hold:((((us.map (rEnc kv)).toArray[i]?).map (·.key)).getD (kv k))=kv k:=by simp [g4,rEnc,g5]
   have hm:(gPut k v (es,clock))=(gSet k v es,clock):=by unfold gPut;simp [hi]
   have hmod:(us.map (rEnc kv)).toArray.modify i (fun e=>{ e with key:=kv k,val:=act.eval z })=((gSet k (act.eval z) us).map (rEnc kv)).toArray:=by
    rw [← Ziy (kv:=kv) (u:=act.eval z) hi2]
    simp
   refine ⟨_,gSet k (act.eval z) us,?_,rfl,by rw [hm];exact hg.set hvz⟩
   rw [hm]
   simp only [execOp,ex,ey,Instr.mapUpdate,YD,Yk hu,Yq,YY hb,hk.check _ _ _ hok,h1,Yai,hold,Instr.keyThatStays,hk.same,Yv,YN,Yan _ hb,hmod]
  | none=>
   have hi2:gIdx k us=none:=K8
   rw [hi2] at h1
   have hm:(gPut k v (es,clock))=(es ++ [⟨k,v,clock⟩],clock+1):=by unfold gPut;simp [hi]
   refine ⟨_,us ++ [⟨k,act.eval z,clock⟩],?_,rfl,by rw [hm];exact hg.push hvz⟩
   rw [hm]
   simp only [execOp,ex,ey,Instr.mapUpdate,YD,Yk hu,Yq,YY hb,hk.check _ _ _ hok,h1,Yar,YN,Yan _ hb]
   simp [rEnc]
 obtain ⟨o',us',hrun,ho,hg'⟩:=hrun
 obtain ⟨g1,g2⟩:=Zeu (o':=o') hw hb hf
 simp only [Oper.wp,hrun,Oper.upon]
 refine ht _ _ F g1 g2 trivial ?_
 intro q hq
 simp only [Yn] at hq
 subst hq
 refine ⟨b,us',e1,by rw [(Ybc (o':=o') hb).1,ho],hg'.mono g2.ev,?_,hf⟩
 unfold gPut
 split
 ·exact ⟨hrg.1.set,hrg.2.set⟩
 ·exact ⟨hrg.1.push k v,hrg.2.push hok v _⟩
theorem Ze2 {d':Nat} {es:List (GE κ ν)} {clock:Nat} {an:Anc} {k:κ} {z0:ν} {zv:Value} (m:Nat) (hu:P.underlying t=some (.map kt et)) (hk:ZhN P kt ok kv) (hz:(P.info? et).map (·.zero)=some (some zv)) (hz0:∀ w y,(ek z0).p zv w y) (hx:Zal x ps an) (hy:ZD ok kv y qs k) (ha:∀ τ v,an.v (upd τ (some d') v)=an.v τ) :
  OpC P ⟨some d',.mapEntry t x y,ty,pos,af,g⟩ ⟨ps++qs,[(m,.ob an (mapG ek ok kv es clock))],.pv (.tup [ek ((gGet k es).getD z0),.is (.int .i64 (Zcd k (es,clock):Nat))]),[(m,.ob an (mapG ek ok kv (gEns z0 k (es,clock)).1 (gEns z0 k (es,clock)).2))]⟩:=fun act w F K Q hw hp hr ht=>by
 obtain ⟨b,us,e1,hb,hg,hrg,hf⟩:=hr (m,.ob an (mapG ek ok kv es clock)) XA
 have ex:act.eval x = .map (some b):=WL
 obtain ⟨ey,hok⟩:=hy act w _ hp.right
 have h1:=hk.find us k w hok (Zck hg hrg.2)
 have hrun:∃ o' us' u,(execOp act.eval ⟨some d',.mapEntry t x y,ty,pos,af,g⟩).run P w = .ok (.value (.tuple #[u,.int .i64 (Zcd k (es,clock):Nat)])) { w with heap:=w.heap.setIfInBounds b o' } ∧ o' = .map (us'.map (rEnc kv)).toArray (gEns z0 k (es,clock)).2∧GR ek (gEns z0 k (es,clock)).1 us' w (U F)∧(ek ((gGet k es).getD z0)).p u w (U F):=by
  cases hi:gIdx k es with
  | some i=>
   have hi2:gIdx k us=some i:=K8
   obtain ⟨x0,u,r,g1,g2,g3,g4,g5,g6,g7⟩:=hg.get hi
   rw [hi2,g2] at h1
   have hold:((((us.map (rEnc kv)).toArray[i]?).map (·.key)).getD (kv k))=kv k:=by simp [g4,rEnc,g5]
   have hm:(gEns z0 k (es,clock))=(es,clock):=by unfold gEns;simp [hi]
   have hmod:(us.map (rEnc kv)).toArray.modify i (fun e=>{ e with key:=kv k })=(us.map (rEnc kv)).toArray:=by
    apply Array.ext
    ·simp
    ·intro j hj1 hj2
     rw [Array.getElem_modify]
     split
     ·rename_i hij
      subst hij
      have hlt:i<us.length:=(YB.1 g4).1
      have he:us[i] = r:=(YB.1 g4).2
      simp [rEnc,he,g5]
     ·rfl
   refine ⟨_,us,u,?_,rfl,by rw [hm];exact hg,by rw [g1];exact g3⟩
   rw [hm]
   simp only [execOp,ex,ey,Instr.mapEntry,YD,Yk hu,Yq,YY hb,hk.check _ _ _ hok,h1,Yai,hold,Instr.keyThatStays,hk.same,Yv,YN,Yan _ hb,hmod,goInt,Option.map_map,Function.comp_def]
   simp [g4,rEnc,Zcd,g7]
  | none=>
   have hi2:gIdx k us=none:=K8
   rw [hi2] at h1
   have hm:(gEns z0 k (es,clock))=(es ++ [⟨k,z0,clock⟩],clock+1):=by unfold gEns;simp [hi]
   have hbn:gBorn k es=none:=by
    have h3:∀ es:List (GE κ ν),(gIdx k es).isSome=(gBorn k es).isSome:=by
     intro es
     induction es with
     | nil=>rfl
     | cons e es ih=>unfold gIdx gBorn;split;rfl;rw [Option.isSome_map,ih]
    have:=h3 es
    rw [hi] at this
    simpa using this.symm
   refine ⟨_,us ++ [⟨k,zv,clock⟩],zv,?_,rfl,by rw [hm];exact hg.push (hz0 _ _),by rw [ZbO hi];exact hz0 _ _⟩
   rw [hm]
   simp only [execOp,ex,ey,Instr.mapEntry,YD,Yk hu,Yq,YY hb,hk.check _ _ _ hok,h1,Yar,YN,Zgt hz,Yan _ hb]
   simp [rEnc,Zcd,hbn,goInt]
 obtain ⟨o',us',u,hrun,ho,hg',hu'⟩:=hrun
 obtain ⟨g1,g2⟩:=Zeu (o':=o') hw hb hf
 simp only [Oper.wp,hrun,Oper.upon]
 refine ht _ _ F g1 g2 ⟨[_,_],rfl,(ek _).mono g2.ev hu',⟨rfl,rfl⟩,tv⟩ ?_
 intro q hq
 simp only [Yn] at hq
 subst hq
 have ea:an.v (upd (Act.tau act) (some d') (.tuple #[u,.int .i64 (Zcd k (es,clock):Nat)]))=an.v (Act.tau act):=ha _ _
 refine ⟨b,us',by rw [ea];exact e1,by rw [(Ybc (o':=o') hb).1,ho],hg'.mono g2.ev,?_,hf⟩
 unfold gEns
 split
 ·exact hrg
 ·exact ⟨hrg.1.push k z0,hrg.2.push hok z0 _⟩
theorem ZbQ {es:List (GE κ ν)} {clock:Nat} {an:Anc} {k:κ} {v:ν} {b9:Nat} (m:Nat) (hb9:gBorn k es=some b9) (hx:Zal x ps an) (hy:Opd y qs (.pv (.is (.int .i64 (b9:Nat))))) (hv:Opd z rs (.pv (ek v))) :
  OpC P ⟨none,.entryStore t x y z,ty,pos,af,g⟩ ⟨ps++(qs++rs),[(m,.ob an (mapG ek ok kv es clock))],.pv .any,[(m,.ob an (mapG ek ok kv (gSet k v es) clock))]⟩:=fun act w F K Q hw hp hr ht=>by
 obtain ⟨b,us,e1,hb,hg,hrg,hf⟩:=hr (m,.ob an (mapG ek ok kv es clock)) XA
 have ex:act.eval x = .map (some b):=WL
 have ey:act.eval y = .int .i64 (b9:Nat):=(hy act w _ hp.right.left).1
 have hvz:(ek v).p (act.eval z) w (U F):=hv act w _ hp.right.right
 have hb9':gBorn k us=some b9:=by rw [hg.born];exact hb9
 obtain ⟨i,h1,h2⟩:=Zhb (es:=us) (by rw [hg.borns];exact hrg.1.1) hb9'
 have hfi:(us.map (rEnc kv)).toArray.findIdx? (fun e=>(e.born:Int) == ((b9:Nat):Int))=some i:=by
  have hpp:(fun x:GE κ Value=>((x.born:Int) == ((b9:Nat):Int)))=fun e=>decide (e.born=b9):=by
   funext e
   rw [Y4,beq_iff_eq,Yi]
   omega
  rw [← h2,← hpp]
  simp [List.findIdx?_map,Function.comp_def,rEnc]
 have hmod:(us.map (rEnc kv)).toArray.modify i (fun e=>{ e with val:=act.eval z })=((gSet k (act.eval z) us).map (rEnc kv)).toArray:=by
  rw [← ZhK (kv:=kv) (u:=act.eval z) h1]
  simp
 have hrun:(execOp act.eval ⟨none,.entryStore t x y z,ty,pos,af,g⟩).run P w = .ok .skip { w with heap:=w.heap.setIfInBounds b (.map ((gSet k (act.eval z) us).map (rEnc kv)).toArray clock) } := by
  simp only [execOp,ex,ey,Instr.entryStore,YD,Yq,YY hb,asInt,asIntOf,YN,hfi,Yan _ hb,hmod]
 obtain ⟨g1,g2⟩:=Zeu (o':=.map ((gSet k (act.eval z) us).map (rEnc kv)).toArray clock) hw hb hf
 simp only [Oper.wp,hrun,Oper.upon]
 refine ht _ _ F g1 g2 trivial ?_
 intro q hq
 simp only [Yn] at hq
 subst hq
 exact ⟨b,_,e1,(Ybc (o':=.map ((gSet k (act.eval z) us).map (rEnc kv)).toArray clock) hb).1,(hg.set hvz).mono g2.ev,⟨hrg.1.set,hrg.2.set⟩,hf⟩
theorem Zjv {es:List (GE κ ν)} {clock:Nat} {an:Anc} (m:Nat) (hu:P.underlying t=some (.map kt et)) (hx:Zal x ps an) (hl:es.length≤9223372036854775807) :
  OpC P ⟨d,.call { callee:=.builtin .len,args:=#[x],argTypes:=#[t] },ty,pos,af,g⟩ ⟨ps,[(m,.ob an (mapG ek ok kv es clock))],.pv (.int .i64 es.length),[]⟩:=
 OpC.read fun act w F hp hr=>by
  obtain ⟨b,us,e1,hb,hg,hrg,hf⟩:=hr (m,.ob an (mapG ek ok kv es clock)) XA
  have ex:act.eval x = .map (some b):=by rw [← e1];exact hx act w _ hp
  refine ⟨.int .i64 es.length,?_,fun _ _=>⟨rfl,by simp [inR,IntKind.min,IntKind.max,IntKind.signed,IntKind.bits];omega⟩⟩
  simp [execOp,resolve,ex,invoke,builtin,Builtin.len_,Builtin.lenOf,Yk hu,YY hb,goInt,hg.len]
theorem Zcb {es:List (GE κ ν)} {clock:Nat} {an:Anc} {k:κ} {t2:TypeId} (m:Nat) (hu:P.underlying t=some (.map kt et)) (hk:ZhN P kt ok kv) (hx:Zal x ps an) (hy:ZD ok kv y qs k) :
  OpC P ⟨none,.call { callee:=.builtin .delete,args:=#[x,y],argTypes:=#[t,t2] },ty,pos,af,g⟩ ⟨ps++qs,[(m,.ob an (mapG ek ok kv es clock))],.pv .any,[(m,.ob an (mapG ek ok kv (gDel k es) clock))]⟩:=fun act w F K Q hw hp hr ht=>by
 obtain ⟨b,us,e1,hb,hg,hrg,hf⟩:=hr (m,.ob an (mapG ek ok kv es clock)) XA
 have ex:act.eval x = .map (some b):=WL
 obtain ⟨ey,hok⟩:=hy act w _ hp.right
 have h1:=hk.find us k w hok (Zck hg hrg.2)
 have hrun:(execOp act.eval ⟨none,.call { callee:=.builtin .delete,args:=#[x,y],argTypes:=#[t,t2] },ty,pos,af,g⟩).run P w = .ok (.value (.tuple #[])) { w with heap:=w.heap.setIfInBounds b (.map ((gDel k us).map (rEnc kv)).toArray clock) } := by
  cases hi:gIdx k us with
  | some i=>
   rw [hi] at h1
   have he:(us.map (rEnc kv)).eraseIdx i=(gDel k us).map (rEnc kv):=by rw [Zcx hi,Zhk]
   simp [execOp,resolve,ex,ey,invoke,builtin,Builtin.delete_,Yk hu,YY hb,hk.check _ _ _ hok,h1,Yan _ hb,he]
  | none=>
   rw [hi] at h1
   simp [execOp,resolve,ex,ey,invoke,builtin,Builtin.delete_,Yk hu,YY hb,hk.check _ _ _ hok,h1,Yan _ hb,gDel_none hi]
 obtain ⟨g1,g2⟩:=Zeu (o':=.map ((gDel k us).map (rEnc kv)).toArray clock) hw hb hf
 simp only [Oper.wp,hrun,Oper.upon]
 refine ht _ _ F g1 g2 trivial ?_
 intro q hq
 simp only [Yn] at hq
 subst hq
 exact ⟨b,_,e1,(Ybc (o':=.map ((gDel k us).map (rEnc kv)).toArray clock) hb).1,hg.del.mono g2.ev,⟨hrg.1.del,fun e he=>hrg.2 e (ZgF he)⟩,hf⟩
theorem Zcl {kk:IntKind} (hk:P.underlying kt=some (.int kk)):ZhN P kt (fun _=>True) (fun n:Int=>Value.int kk n) where
 check:=fun b k w _=>Go.MapKept.run_checkKey hk (by simp [Go.MapKept.IsKey]) b 9999
 find:=fun es k w _ _=>by
  have key:∀ (es:List (GE Int Value)) (j:Nat),Instr.findNow (.int kk) (.int kk k) (es.map (rEnc fun n:Int=>Value.int kk n)) j=some ((gIdx k es).map fun i=>(i+j,(gGet k es).getD undef)):=by
   intro es
   induction es with
   | nil=>intro j;rfl
   | cons e es ih=>
    intro j
    rw [YJ]
    unfold Instr.findNow
    by_cases h:k=e.key
    ·simp [rEnc,Instr.sameNow,h,gIdx,gGet]
    ·have hbq:(k == e.key)=false:=Xz
     simp [rEnc,Instr.sameNow,h,hbq,gIdx,gGet,ih (j+1)]
     cases hm:gIdx k es with
     | none=>rfl
     | some i=>simp;omega
  exact Go.MapKept.run_findKey hk (by rw [key es 0];simp)
 same:=fun k=>by simp [Instr.sameBits]
theorem ZcU {kt:TypeId} {enc:κ→List Int} {n:Nat} (hl:∀ k,(enc k).length=n) (hi:∀ a b,enc a=enc b→a=b) (hf:P.flatS kt (List.replicate n true)=true):ZhN P kt (fun k=>∀ x ∈ enc k,inR .i64 x) (kvS enc) where
 check:=(ZjY (P:=P) hl hi hf).check
 find:=fun es k w hok hks=>by
  obtain ⟨f1,_,_,_⟩:=ZbE hf
  rw [run_findKey_eq (P:=P) (w:=w) (k:=kt) (by rw [f1]) (kvS enc k) (es.map (rEnc (kvS enc)))]
  have key:∀ (es:List (GE κ Value)) (j:Nat),(∀ e ∈ es,∀ x ∈ enc e.key,inR .i64 x)→(Instr.findAsking kt (kvS enc k) (es.map (rEnc (kvS enc))) j).run P w = .ok ((gIdx k es).map fun i=>(i+j,(gGet k es).getD undef)) w:=by
   intro es
   induction es with
   | nil=>intro j _;simp [Instr.findAsking,gIdx]
   | cons e es ih=>
    intro j hes
    have hq:(Op.equal kt (kvS enc k) (kvS enc e.key)).run P w = .ok (decide (enc k=enc e.key)) w:=
     Zgp (a:={ tmps:=#[],defers:=[] }) (yy:=fun _=>False) hf (Zdb hok) (Zdb (hes e XA)) XQ
    rw [YJ]
    unfold Instr.findAsking
    have ih':=ih (j+1) fun z hz=>hes z (YQ _ hz)
    by_cases h:k=e.key
    ·have he:enc k=enc e.key:=by rw [h]
     simp only [rEnc,YD,hq,he,decide_true,Yq,Yv,YN]
     simp [gIdx,gGet,h]
    ·have he:¬ enc k=enc e.key:=fun h'=>h (hi _ _ h')
     simp only [rEnc,YD,hq,Yw he,Yq,YaU,Ym]
     rw [show (es.map fun e=>rEnc (kvS enc) e)=es.map (rEnc (kvS enc)) from rfl] at *
     rw [ih']
     simp only [gIdx,gGet,Yb h]
     cases hm:gIdx k es with
     | none=>rfl
     | some i=>simp;omega
  have:=key es 0 hks
  simpa using this
 same:=fun k=>Zfe (enc k) 9999
end
section
variable {κ ν:Type} [DecidableEq κ]
theorem ZiX {z:ν} {k k':κ} (s:List (GE κ ν)×Nat):(gGet k' (gEns z k s).1).getD z=(gGet k' s.1).getD z:=by
 unfold gEns
 split
 ·rfl
 ·rename_i h
  have hn:gIdx k s.1=none:=Xz
  rw [gGet_push hn]
  by_cases e:k' = k
  ·subst e;rw [Ye rfl,ZbO hn];rfl
  ·rw [Yb e]
theorem Zma {z:ν} {k:κ} (s:List (GE κ ν)×Nat):gEns z k (gEns z k s)=gEns z k s:=by
 have h:(gIdx k (gEns z k s).1).isSome=true:=by
  unfold gEns
  split
  ·rename_i h;exact h
  ·rename_i h;exact gIdx_push Xz
 rw [show gEns z k (gEns z k s)=if (gIdx k (gEns z k s).1).isSome then gEns z k s else ((gEns z k s).1 ++ [⟨k,z,(gEns z k s).2⟩],(gEns z k s).2+1) from rfl,Ye h]
theorem ZjO {z:ν} {k:κ} (s:List (GE κ ν)×Nat):Zcd k (gEns z k s)=Zcd k s:=by
 have:=Zdt z k s
 conv=>lhs;unfold Zcd
 rw [this];rfl
def HP.or (a b:HP):HP:=⟨fun w f y=>a.p w f y∨b.p w f y,fun h hf k=>k.imp (a.st h hf) (b.st h hf)⟩
def ZpM (z0:ν) (k:κ) (ek:ν→PV) (ok:κ→Prop) (kv:κ→Value) (es:List (GE κ ν)) (clock:Nat) (v:Value):HP:=HP.or (mapG ek ok kv es clock v) (mapG ek ok kv (gEns z0 k (es,clock)).1 (gEns z0 k (es,clock)).2 v)
theorem OpC.orH {P:Program} {o:Oper} {ps:List (Nat×SF)} {q:SF} {qr:List (Nat×RS)} {m:Nat} {an:Anc} {h1 h2:Value→HP} (c1:OpC P o ⟨ps,[(m,.ob an h1)],q,qr⟩) (c2:OpC P o ⟨ps,[(m,.ob an h2)],q,qr⟩):OpC P o ⟨ps,[(m,.ob an fun v=>HP.or (h1 v) (h2 v))],q,qr⟩:=fun a w F K Q hw hp hr ht=>by
 have h0:=hr _ (Yn.2 rfl)
 rcases h0 with h | h
 ·exact c1 a w F K Q hw hp (fun x hx=>by rw [Yn] at hx;subst hx;exact h) ht
 ·exact c2 a w F K Q hw hp (fun x hx=>by rw [Yn] at hx;subst hx;exact h) ht
theorem Sat.turnZ {B:ZaK} {E:En} {a:Act} {w:World} {F:Fp} {ek:ν→PV} {ok:κ→Prop} {kv:κ→Value} {es:List (GE κ ν)} {clock:Nat} {an:Anc} (h:Sat B E a w F) (n:Nat) (z0:ν) (k:κ) (hl:look E.r n=some (.ob an (mapG ek ok kv es clock))):Sat B ⟨E.s,(n,.ob an (ZpM z0 k ek ok kv es clock)) :: E.r⟩ a w F:=
 h.turn n hl fun _ _ _ _ k=>.inl k
end
section
variable {P:Program} {d:Option Nat} {t ty:TypeId} {pos:String} {af:Array Edge} {g:Option (Nat×Bool)} {x y z:Operand} {ps qs rs:List (Nat×SF)} {κ ν:Type} [DecidableEq κ] {ok:κ→Prop} {kv:κ→Value} {kt et:TypeId} {ek:ν→PV}
theorem Zfh {es:List (GE κ ν)} {clock:Nat} {an:Anc} {k k0:κ} {z0:ν} {zv:Value} (m:Nat) (hu:P.underlying t=some (.map kt et)) (hk:ZhN P kt ok kv) (hz:(P.info? et).map (·.zero)=some (some zv)) (hz0:∀ w y,(ek z0).p zv w y) (hx:Zal x ps an) (hy:ZD ok kv y qs k) :
  OpC P ⟨d,.lookup t x y false,ty,pos,af,g⟩ ⟨ps++qs,[(m,.ob an (ZpM z0 k0 ek ok kv es clock))],.pv (ek ((gGet k es).getD z0)),[]⟩:=
 OpC.orH (ZX m hu hk hz hz0 hx hy) (by have:=ZX (es:=(gEns z0 k0 (es,clock)).1) (clock:=(gEns z0 k0 (es,clock)).2) (d:=d) (ty:=ty) (pos:=pos) (af:=af) (g:=g) m hu hk hz hz0 hx hy;rw [ZiX] at this;exact this)
theorem ZcK {d':Nat} {es:List (GE κ ν)} {clock:Nat} {an:Anc} {k:κ} {z0:ν} {zv:Value} (m:Nat) (hu:P.underlying t=some (.map kt et)) (hk:ZhN P kt ok kv) (hz:(P.info? et).map (·.zero)=some (some zv)) (hz0:∀ w y,(ek z0).p zv w y) (hx:Zal x ps an) (hy:ZD ok kv y qs k) (ha:∀ τ v,an.v (upd τ (some d') v)=an.v τ) :
  OpC P ⟨some d',.mapEntry t x y,ty,pos,af,g⟩ ⟨ps++qs,[(m,.ob an (ZpM z0 k ek ok kv es clock))],.pv (.tup [ek ((gGet k es).getD z0),.is (.int .i64 (Zcd k (es,clock):Nat))]),[(m,.ob an (mapG ek ok kv (gEns z0 k (es,clock)).1 (gEns z0 k (es,clock)).2))]⟩:=
 OpC.orH (Ze2 m hu hk hz hz0 hx hy ha) (by
  have:=Ze2 (es:=(gEns z0 k (es,clock)).1) (clock:=(gEns z0 k (es,clock)).2) (ty:=ty) (pos:=pos) (af:=af) (g:=g) m hu hk hz hz0 hx hy ha
  rw [show ((gEns z0 k (es,clock)).1,(gEns z0 k (es,clock)).2)=gEns z0 k (es,clock) from rfl,ZiX,Zma,ZjO] at this
  exact this)
end
end Go.Gm
namespace Go.Gm
set_option linter.unusedVariables false
set_option linter.unusedSimpArgs false
set_option linter.unusedSectionVars false
section
variable {κ α:Type} [DecidableEq κ] {T sz:Nat} {R:α→List PV}
abbrev Znb (κ:Type) {α:Type} (T sz:Nat) (R:α→List PV) (e:GE κ (Value×List α)):HP:=ZC T sz R e.val.2 e.val.1
abbrev Zjz (T sz:Nat) (R:α→List PV) (es:List (GE κ (Value×List α))):RS:=Zng (Znb κ T sz R) es
def ZaP:Value×List α:=(.slice none 0 0,[])
theorem Zif {ν:Type} {k:κ} : ∀ {es:List (GE κ ν)} {i:Nat},gIdx k es=some i → ∃ e,es[i]? = some e∧e.key=k∧gGet k es=some e.val
 | [],i,h=>by cases h
 | e :: es,i,h=>by
  unfold gIdx at h
  unfold gGet
  split at h
  ·rename_i hk
   cases h
   exact ⟨e,rfl,hk.symm,by rw [Ye hk]⟩
  ·rename_i hk
   obtain ⟨j,hj,rfl⟩:=Yac.1 h
   obtain ⟨e',h1,h2,h3⟩:=Zif hj
   exact ⟨e',by simpa using h1,h2,by rw [Yb hk];exact h3⟩
variable {B:ZaK} {E:En} {a:Act} {w:World} {F:Fp}
theorem Sat.takeKey {es:List (GE κ (Value×List α))} (h:Sat B E a w F) (n i:Nat) (k:κ) (hl:look E.r n=some (Zjz T sz R es)) (hi:look E.r i=none) :
  ∃ F',Sat B ⟨E.s,(i,.ob (.val ((gGet k es).getD ZaP).1) (ZC T sz R ((gGet k es).getD ZaP).2)) :: (n,Zjz T sz R (gDel k es)) :: E.r⟩ a w F':=by
 cases hx:gIdx k es with
 | some j=>
  obtain ⟨e,h1,h2,h3⟩:=Zif hx
  obtain ⟨F',G⟩:=h.takeAt (Znb κ T sz R) n i j hl hi h1
  rw [← Zcx hx] at G
  rw [h3]
  have hS2:=G.turn i (r:=RS.hp (Znb κ T sz R e)) XS (r':=.ob (.val e.val.1) (ZC T sz R e.val.2)) (fun _ _ _ _ k=>k)
  refine ⟨F',hS2.congr (fun _=>rfl) (fun m=>?_)⟩
  simp only [Zf]
  by_cases e1:i=m
  ·simp [e1]
  ·simp [e1]
 | none=>
  rw [ZbO hx,gDel_none hx]
  have hni:n≠i:=fun e=>by subst e;rw [hl] at hi;cases hi
  have h1:=h.fresh i hi
  have h2:=h1.turn i XS (ZaC (T:=T) (sz:=sz) (R:=R))
  exact ⟨F,h2.congr (fun _=>rfl) (fun m=>by
   simp only [Zf]
   by_cases e1:i=m
   ·simp [e1,ZaP]
   ·by_cases e2:n=m
    ·subst e2;simp [e1,hl]
    ·simp [e1,e2])⟩
theorem Zkh {k:κ} {v:Value×List α} {es:List (GE κ (Value×List α))} {ck:Nat} : ((gPut k v (es,ck)).1.map (·.val)).Perm (v :: (gDel k es).map (·.val)):=by
 unfold gPut
 cases hi:gIdx k es with
 | some i=>
  simp only [hi,Option.isSome_some,Yv]
  have key:∀ es:List (GE κ (Value×List α)),(gIdx k es).isSome=true→((gSet k v es).map (·.val)).Perm (v :: (gDel k es).map (·.val)):=by
   intro es
   induction es with
   | nil=>intro h;simp [gIdx] at h
   | cons e es ih=>
    intro h
    unfold gSet gDel
    by_cases hk:k=e.key
    ·rw [Ye hk,Ye hk];exact List.Perm.refl _
    ·rw [Yb hk,Yb hk,YJ,YJ]
     have:=ih (by unfold gIdx at h;simpa [hk] using h)
     exact (this.cons e.val).trans (List.Perm.swap _ _ _)
  exact key es (by rw [hi];rfl)
 | none=>
  simp only [hi,Option.isSome_none,YaU,Ym]
  rw [gDel_none hi,Yaj]
  exact List.perm_append_comm
theorem Sat.putKey {es:List (GE κ (Value×List α))} {v:Value} {l:List α} (h:Sat B E a w F) (n i:Nat) (k:κ) (ck:Nat) (hl:look E.r n=some (Zjz T sz R (gDel k es))) (hi:look E.r i=some (.ob (.val v) (ZC T sz R l))) (hne:Nat.beq n i=false) :
  ∃ F',Sat B ⟨E.s,(n,Zjz T sz R (gPut k (v,l) (es,ck)).1) :: (i,RS.hp (HP.star [])) :: E.r⟩ a w F':=by
 have h0:=h.turn i hi (r':=RS.hp (ZC T sz R l v)) (fun _ _ _ _ k=>k)
 have hni:i≠n:=fun e=>by subst e;simp at hne
 obtain ⟨F',h1⟩:=h0.push n i (by rw [Zf,Yb hni];exact hl) XS hne rfl
 have h2:=h1.turn n (r:=RS.hp (HP.star (RS.hp (ZC T sz R l v) :: (gDel k es).map fun x=>RS.hp (Znb κ T sz R x)))) XS (r':=Zjz T sz R (gPut k (v,l) (es,ck)).1) (fun _ _ _ _ k'=>by
  refine ZdL ?_ k'
  have hp:=(Zkh (k:=k) (v:=(v,l)) (es:=es) (ck:=ck)).symm.map fun p:Value×List α=>RS.hp (ZC T sz R p.2 p.1)
  rw [YJ,YaY,YaY] at hp
  exact hp)
 refine ⟨F',h2.congr (fun _=>rfl) (fun m=>?_)⟩
 simp only [Zf]
 by_cases e1:n=m
 ·simp [e1]
 ·by_cases e2:i=m
  ·simp [e1,e2]
  ·simp [e1,e2]
theorem ZgS {w:World} {y:Ys} : ∀ {rs:List RS} {f:Ys},stars w y rs f → ∀ r ∈ rs,∃ f1,(∀ b,f1 b→f b)∧r.holds tau0 w f1 y
 | [],f,_,r,h=>by cases h
 | x :: rs,f,⟨f1,f2,h1,h2,h3,h4,h5⟩,r,hr=>by
  rcases Yo.1 hr with rfl | hr
  ·exact ⟨f1,fun b hb=>(h1 b).2 (.inl hb),h4⟩
  ·obtain ⟨g,g1,g2⟩:=ZgS h5 r hr
   exact ⟨g,fun b hb=>(h1 b).2 (.inr (g1 b hb)),g2⟩
theorem GR.give {w:World} {y y':Ys} (hle:∀ b,y' b→y b):∀ {es:List (GE κ (Value×List α))} {rs:List (GE κ Value)},GR (fun p:Value×List α=>PV.is p.1) es rs w y→(∀ e ∈ es,(PV.sl R e.val.2).p e.val.1 w y')→GR (fun l:List α=>PV.sl R l) (es.map fun e=>⟨e.key,e.val.2,e.born⟩) rs w y'
 | [],[],_,_=>trivial
 | e :: es,r :: rs,h,hh=>⟨⟨h.1.1,h.1.2.1,by have e1:r.val=e.val.1:=h.1.2.2.1;rw [e1];exact hh e XA⟩,GR.give hle h.2 fun x hx=>hh x XC⟩
 | [],_ :: _,h,_=>h.elim
 | _ :: _,[],h,_=>h.elim
def Zd7 (es:List (GE κ (Value×List α))):List (GE κ (List α)):=es.map fun e=>⟨e.key,e.val.2,e.born⟩
theorem ZfL {k:κ} : ∀ es:List (GE κ (Value×List α)),gGet k (Zd7 es)=(gGet k es).map (·.2)
 | []=>rfl
 | e :: es=>by
  unfold Zd7
  rw [YJ,gGet,gGet]
  split
  ·rfl
  ·exact ZfL es
theorem ZhQ (es:List (GE κ (Value×List α))):(Zd7 es).map (·.key)=es.map (·.key):=by simp [Zd7,Function.comp_def]
theorem Sat.giveMap {ok:κ→Prop} {kv:κ→Value} {es:List (GE κ (Value×List α))} {ck:Nat} {v:Value} (h:Sat B E a w F) (m n:Nat) (hm:look E.r m=some (.ob (.val v) (mapG (fun p:Value×List α=>PV.is p.1) ok kv es ck))) (hn:look E.r n=some (Zjz T sz R es)) (hne:Nat.beq m n=false) :
  ∃ F',Sat B ⟨E.s,(m,.ob (.val v) (mapG (fun l:List α=>PV.sl R l) ok kv (Zd7 es) ck)) :: (n,RS.hp (HP.star [])) :: E.r⟩ a w F':=by
 have hmn:m≠n:=fun e=>by subst e;simp at hne
 have hle:∀ b,U (fun m=>if m=n then fun _=>False else F m) b→U F b:=fun b ⟨m,hm⟩=>⟨m,by
  by_cases e:m=n
  ·simp only [e,Yv] at hm
  ·simp only [e,Ym] at hm;exact hm⟩
 have hev:=Ev.less w hle
 refine ⟨fun m=>if m=n then fun _=>False else F m,⟨fun i k b hi hk=>?_,fun i b hi=>?_⟩,h.ev.trans hev,h.n,h.df,fun j s hj=>?_,fun i r hr=>?_,fun i b hi=>?_⟩
 ·by_cases e1:i=n
  ·simp only [e1,Yv] at hi
  ·by_cases e2:k=n
   ·simp only [e2,Yv] at hk
   ·simp only [e1,e2,Ym] at hi hk;exact h.wf.dis i k b hi hk
 ·by_cases e1:i=n
  ·simp only [e1,Yv] at hi
  ·simp only [e1,Ym] at hi;exact h.wf.bd i b hi
 ·exact SF.mono hev (fun _ _=>rfl) (h.s j s hj)
 ·rw [Zf] at hr
  split at hr
  ·rename_i e
   simp only [Y7] at hr;subst hr;subst e
   obtain ⟨b,rs,e1,h1,h2,h3,h4⟩:=h.r m _ hm
   simp only [hmn,Ym]
   refine ⟨b,rs,e1,h1,?_,⟨⟨by have:=h3.1.1;simpa [Zd7,Function.comp_def] using this,fun e he=>?_⟩,fun e he=>?_⟩,h4⟩
   ·refine GR.give hle h2 fun e he=>?_
    have hst:stars w (U F) (es.map fun x=>RS.hp (Znb κ T sz R x)) (F n):=h.r n _ hn
    obtain ⟨f1,g1,g2⟩:=ZgS hst _ (YI.2 ⟨e,he,rfl⟩)
    refine Zit (T:=T) (sz:=sz) w f1 (U F) _ g2 hle (fun b hb=>?_) (fun b hb=>h.wf.bd n b (g1 b hb))
    rintro ⟨i,hi⟩
    by_cases e2:i=n
    ·simp only [e2,Yv] at hi
    ·simp only [e2,Ym] at hi
     exact e2 (h.wf.dis i n b hi (g1 b hb))
   ·obtain ⟨e',g1,rfl⟩:=YI.1 he
    exact h3.1.2 e' g1
   ·obtain ⟨e',g1,rfl⟩:=YI.1 he
    exact h3.2 e' g1
  ·rename_i hmi
   rw [Zf] at hr
   split at hr
   ·rename_i e
    simp only [Y7] at hr;subst hr;subst e
    simp only [Yv]
    intro b hb
    exact hb
   ·rename_i hni
    simp only [show i≠n from fun e=>hni e.symm,Ym]
    exact RS.mono hev (fun _ _=>rfl) (fun _ _=>rfl) (h.r i r hr)
 ·by_cases e1:i=n
  ·simp only [e1,Yv] at hi
  ·simp only [e1,Ym] at hi
   obtain ⟨r,hr⟩:=h.em i b hi
   rw [Zf]
   split
   ·exact ⟨_,rfl⟩
   ·rw [Zf]
    split
    ·exact ⟨_,rfl⟩
    ·exact ⟨r,hr⟩
end
end Go.Gm
namespace Go.Gm
set_option linter.unusedVariables false
set_option linter.unusedSimpArgs false
section
variable {P:Program}
variable {d:Option Nat} {ty:TypeId} {pos:String} {af:Array Edge} {g:Option (Nat×Bool)}
variable {x y:Operand} {ps qs:List (Nat×SF)} {t t':TypeId} {cs ds:List CF} {r:Bool} {ks:List Bool}
end
end Go.Gm
