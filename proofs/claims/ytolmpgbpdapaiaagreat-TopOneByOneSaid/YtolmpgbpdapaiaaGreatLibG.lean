/- Walks: maps of whatever values. No condition. -/
import Derived.Test.YtolmpgbpdapaiaaGreatLibL
namespace Go.Gm
set_option linter.unusedVariables false
set_option linter.unusedSimpArgs false
set_option linter.unusedSectionVars false
structure GE (κ ν:Type) where
 key:κ
 val:ν
 born:Nat
section
variable {κ ν:Type} [DecidableEq κ]
def gIdx (k:κ):List (GE κ ν)→Option Nat
 | []=>none
 | e :: es=>if k=e.key then some 0 else (gIdx k es).map (· + 1)
def gGet (k:κ):List (GE κ ν)→Option ν
 | []=>none
 | e :: es=>if k=e.key then some e.val else gGet k es
def gBorn (k:κ):List (GE κ ν)→Option Nat
 | []=>none
 | e :: es=>if k=e.key then some e.born else gBorn k es
def gSet (k:κ) (v:ν):List (GE κ ν)→List (GE κ ν)
 | []=>[]
 | e :: es=>if k=e.key then { e with val:=v } :: es else e :: gSet k v es
def gPut (k:κ) (v:ν) (s:List (GE κ ν)×Nat):List (GE κ ν)×Nat:=if (gIdx k s.1).isSome then (gSet k v s.1,s.2) else (s.1 ++ [⟨k,v,s.2⟩],s.2+1)
def gEns (z:ν) (k:κ) (s:List (GE κ ν)×Nat):List (GE κ ν)×Nat:=if (gIdx k s.1).isSome then s else (s.1 ++ [⟨k,z,s.2⟩],s.2+1)
def ZcJ (k:κ) (s:List (GE κ ν)×Nat):Nat:=(gBorn k s.1).getD s.2
def ZpP (k:κ):List (GE κ ν)→List (GE κ ν)
 | []=>[]
 | e :: es=>if k=e.key then es else e :: ZpP k es
def GNd (es:List (GE κ ν)):Prop:=(es.map (·.key)).Nodup
def GWf (es:List (GE κ ν)) (clock:Nat):Prop:=(es.map (·.born)).Nodup ∧ ∀ e ∈ es,e.born<clock
def Zgt (ok:κ→Prop) (es:List (GE κ ν)):Prop:=∀ e ∈ es,ok e.key
theorem ZeW (k:κ):∀ es:List (GE κ ν),(gIdx k es).isSome=(gGet k es).isSome
 | []=>rfl
 | e :: es=>by
  unfold gIdx gGet
  split
  ·rfl
  ·rw [Option.isSome_map,ZeW k es]
theorem Ze1 {k:κ} : ∀ {es:List (GE κ ν)},(gGet k es).isSome=true ↔ k ∈ es.map (·.key)
 | []=>by simp [gGet]
 | e :: es=>by
  unfold gGet
  split
  ·rename_i h;simp [h]
  ·rename_i h
   rw [Ze1 (es:=es)]
   simp [h]
theorem ZbC {k:κ} {es:List (GE κ ν)} (h:gIdx k es=none):gGet k es=none:=by
 have:=ZeW k es
 rw [h] at this
 simpa using this.symm
theorem Zh1 {k:κ} {v:ν} : ∀ {es:List (GE κ ν)},GNd es → ∀ e ∈ es,gGet e.key es=some e.val
 | [],_,e,h=>by cases h
 | x :: es,hn,e,h=>by
  unfold GNd at hn
  rw [YG,YaT] at hn
  unfold gGet
  rcases Ym.1 h with rfl | h
  ·rw [Ye rfl]
  ·rw [Yb (fun e'=>hn.1 (by rw [← e'];exact YB.2 ⟨e,h,rfl⟩))]
   exact Zh1 (v:=v) (k:=k) hn.2 e h
theorem Zfs {k:κ} {v:ν} : ∀ es:List (GE κ ν),(gSet k v es).map (·.key)=es.map (·.key)
 | []=>rfl
 | e :: es=>by
  unfold gSet
  split
  ·rfl
  ·simp [Zfs es]
theorem Zfq {k:κ} {v:ν} : ∀ es:List (GE κ ν),(gSet k v es).map (·.born)=es.map (·.born)
 | []=>rfl
 | e :: es=>by
  unfold gSet
  split
  ·rfl
  ·simp [Zfq es]
theorem GNd.set {k:κ} {v:ν} {es:List (GE κ ν)} (h:GNd es):GNd (gSet k v es):=by unfold GNd;rw [Zfs];exact h
theorem GNd.push {k:κ} {v:ν} {n:Nat} {es:List (GE κ ν)} (h:GNd es) (hk:gIdx k es=none):GNd (es ++ [⟨k,v,n⟩]):=by
 unfold GNd at *
 rw [Y3,List.nodup_append]
 refine ⟨h,by simp,?_⟩
 intro a ha b hb
 simp at hb
 subst hb
 intro e
 subst e
 have:=(Ze1 (k:=a) (es:=es)).2 ha
 rw [← ZeW,hk] at this
 cases this
theorem gGet_set {k k':κ} {v:ν} : ∀ {es:List (GE κ ν)},(gIdx k es).isSome=true→gGet k' (gSet k v es)=if k' = k then some v else gGet k' es
 | [],h=>by simp [gIdx] at h
 | e :: es,h=>by
  unfold gSet
  by_cases hk:k=e.key
  ·rw [Ye hk]
   unfold gGet
   subst hk
   by_cases h2:k' = e.key <;> simp [h2]
  ·rw [Yb hk]
   unfold gGet
   have ih:=gGet_set (k':=k') (v:=v) (es:=es) (by unfold gIdx at h;simpa [hk] using h)
   by_cases h2:k' = e.key
   ·have h3:¬ k' = k:=fun h=>hk (h.symm.trans h2)
    rw [Ye h2,Ye h2,Yb h3]
   ·rw [Yb h2,Yb h2,ih]
theorem gGet_push {k k':κ} {v:ν} {n:Nat} : ∀ {es:List (GE κ ν)},gIdx k es=none→gGet k' (es ++ [⟨k,v,n⟩])=if k' = k then some v else gGet k' es
 | [],_=>by simp [gGet]
 | e :: es,hn=>by
  unfold gIdx at hn
  split at hn
  ·cases hn
  ·rename_i hk
   have ih:=gGet_push (k':=k') (v:=v) (n:=n) (Ybl.1 hn)
   rw [Yao,gGet,gGet,ih]
   by_cases h4:k' = e.key
   ·have:¬ k' = k:=fun h=>hk (h.symm.trans h4)
    rw [Ye h4,Yb this,Ye h4]
   ·rw [Yb h4,Yb h4]
theorem ZaQ {k k':κ} {v:ν} {s:List (GE κ ν)×Nat} : gGet k' (gPut k v s).1=if k' = k then some v else gGet k' s.1:=by
 unfold gPut
 split
 ·rename_i h;exact gGet_set h
 ·rename_i h;exact gGet_push XL
theorem GNd.put {k:κ} {v:ν} {s:List (GE κ ν)×Nat} (h:GNd s.1):GNd (gPut k v s).1:=by
 unfold gPut
 split
 ·exact h.set
 ·rename_i h';exact h.push (by simpa using h')
theorem gIdx_push {k:κ} {v:ν} {n:Nat} {es:List (GE κ ν)} (hn:gIdx k es=none):(gIdx k (es ++ [⟨k,v,n⟩])).isSome=true:=by
 rw [ZeW,gGet_push hn];simp
theorem ZcM {z:ν} {k k':κ} {v:ν} (s:List (GE κ ν)×Nat):gGet k' (gSet k v (gEns z k s).1)=if k' = k then some v else gGet k' s.1:=by
 unfold gEns
 cases hi:gIdx k s.1 with
 | some i=>simp only [Option.isSome_some,Yx];exact gGet_set (by rw [hi];rfl)
 | none=>
  simp only [Option.isSome_none,Ybo,Yt]
  rw [gGet_set (gIdx_push hi),gGet_push hi]
  split <;> rfl
theorem Zha {k:κ} : ∀ {es:List (GE κ ν)} {i:Nat},gIdx k es=some i→ZpP k es=es.eraseIdx i
 | [],i,h=>by cases h
 | e :: es,i,h=>by
  unfold gIdx at h
  unfold ZpP
  split at h
  ·rename_i hk;cases h;simp [hk]
  ·rename_i hk
   obtain ⟨j,hj,rfl⟩:=Y7.1 h
   rw [Yb hk,Zha hj]
   rfl
theorem gDel_none {k:κ} : ∀ {es:List (GE κ ν)},gIdx k es=none→ZpP k es=es
 | [],_=>rfl
 | e :: es,h=>by
  unfold gIdx at h
  unfold ZpP
  split at h
  ·cases h
  ·rename_i hk;rw [Yb hk,gDel_none (Ybl.1 h)]
theorem Zgt.set {ok:κ→Prop} {k:κ} {v:ν} {es:List (GE κ ν)} (h:Zgt ok es):Zgt ok (gSet k v es):=fun e he=>by
 have:e.key ∈ (gSet k v es).map (·.key):=YB.2 ⟨e,he,rfl⟩
 rw [Zfs] at this
 obtain ⟨e',h1,h2⟩:=YB.1 this
 rw [← h2];exact h e' h1
theorem Zgt.push {ok:κ→Prop} {k:κ} {es:List (GE κ ν)} (h:Zgt ok es) (hk:ok k) (v:ν) (n:Nat):Zgt ok (es ++ [⟨k,v,n⟩]):=by
 intro e he
 rcases YC.1 he with he | he
 ·exact h e he
 ·simp at he;subst he;exact hk
theorem GWf.set {k:κ} {v:ν} {es:List (GE κ ν)} {clock:Nat} (h:GWf es clock):GWf (gSet k v es) clock:=by
 refine ⟨by rw [Zfq];exact h.1,fun e he=>?_⟩
 have:e.born ∈ (gSet k v es).map (·.born):=YB.2 ⟨e,he,rfl⟩
 rw [Zfq] at this
 obtain ⟨e',h1,h2⟩:=YB.1 this
 rw [← h2];exact h.2 e' h1
theorem GWf.push {es:List (GE κ ν)} {clock:Nat} (h:GWf es clock) (k:κ) (v:ν):GWf (es ++ [⟨k,v,clock⟩]) (clock+1):=by
 refine ⟨?_,fun e he=>?_⟩
 ·rw [Y3,List.nodup_append]
  refine ⟨h.1,by simp,?_⟩
  intro a ha b hb
  obtain ⟨e,h1,rfl⟩:=YB.1 ha
  simp at hb
  have:=h.2 e h1
  omega
 ·rcases YC.1 he with he | he
  ·exact Nat.lt_succ_of_lt (h.2 e he)
  ·simp at he;subst he;exact Nat.lt_succ_self _
theorem ZjA {k:κ} {b:Nat} : ∀ {es:List (GE κ ν)},(es.map (·.born)).Nodup→gBorn k es=some b → ∃ i,gIdx k es=some i∧es.findIdx? (fun e=>decide (e.born=b))=some i
 | [],_,h=>by cases h
 | e :: es,hd,h=>by
  unfold gBorn at h
  unfold gIdx
  split at h
  ·rename_i hk
   cases h
   exact ⟨0,by rw [Ye hk],by simp [List.findIdx?_cons]⟩
  ·rename_i hk
   rw [YG,YaT] at hd
   obtain ⟨i,h1,h2⟩:=ZjA hd.2 h
   refine ⟨i+1,by rw [Yb hk,h1];rfl,?_⟩
   have hne:¬ e.born=b:=by
    intro he
    have key:∀ {es:List (GE κ ν)},gBorn k es=some b → ∃ e' ∈ es,e'.born=b:=by
     intro es
     induction es with
     | nil=>intro h;cases h
     | cons x es ih=>
      intro h
      unfold gBorn at h
      split at h
      ·exact ⟨x,by simp,Ya6 h⟩
      ·obtain ⟨e',h3,h4⟩:=ih h
       exact ⟨e',Yy _ h3,h4⟩
    obtain ⟨e',h3,h4⟩:=key h
    exact hd.1 (YB.2 ⟨e',h3,by rw [h4,he]⟩)
   rw [List.findIdx?_cons]
   simp [hne,h2]
theorem ZbA (z:ν) (k:κ) (s:List (GE κ ν)×Nat):gBorn k (gEns z k s).1=some (ZcJ k s):=by
 have h1:∀ es:List (GE κ ν),(gIdx k es).isSome=(gBorn k es).isSome:=by
  intro es
  induction es with
  | nil=>rfl
  | cons e es ih=>unfold gIdx gBorn;split;rfl;rw [Option.isSome_map,ih]
 have h2:∀ es:List (GE κ ν),gIdx k es=none→gBorn k (es ++ [⟨k,z,s.2⟩])=some s.2:=by
  intro es
  induction es with
  | nil=>intro _;simp [gBorn]
  | cons e es ih=>
   intro h
   unfold gIdx at h
   split at h
   ·cases h
   ·rename_i hk
    rw [Yao,gBorn,Yb hk]
    exact ih (Ybl.1 h)
 unfold gEns ZcJ
 cases hi:gIdx k s.1 with
 | some i=>
  have:=h1 s.1
  rw [hi] at this
  obtain ⟨b,hb⟩:=YaH.1 this.symm
  simp [hb]
 | none=>
  have:=h1 s.1
  rw [hi] at this
  have hn:gBorn k s.1=none:=by simpa using this.symm
  simp [h2 s.1 hi,hn]
end
section
variable {κ ν:Type} [DecidableEq κ]
def rEnc (kv:κ→Value) (e:GE κ Value):MapEntry:={ key:=kv e.key,val:=e.val,born:=e.born }
def GR (ek:ν→PV):List (GE κ ν)→List (GE κ Value)→World→Ys→Prop
 | [],[],_,_=>True
 | e :: es,r :: rs,w,y=>(e.key=r.key∧e.born=r.born∧(ek e.val).p r.val w y)∧GR ek es rs w y
 | _,_,_,_=>False
theorem GR.mono {ek:ν→PV} {w y w' y'} (h:Ev w y w' y'):∀ {es:List (GE κ ν)} {rs:List (GE κ Value)},GR ek es rs w y→GR ek es rs w' y'
 | [],[],_=>trivial
 | e :: es,r :: rs,k=>⟨⟨k.1.1,k.1.2.1,(ek e.val).mono h k.1.2.2⟩,GR.mono h k.2⟩
 | [],_ :: _,k=>k.elim
 | _ :: _,[],k=>k.elim
section
variable {ek:ν→PV} {w:World} {y:Ys}
theorem GR.idx (k:κ):∀ {es:List (GE κ ν)} {rs:List (GE κ Value)},GR ek es rs w y→gIdx k rs=gIdx k es
 | [],[],_=>rfl
 | e :: es,r :: rs,h=>by unfold gIdx;rw [h.1.1,GR.idx k h.2]
 | [],_ :: _,k=>k.elim
 | _ :: _,[],k=>k.elim
theorem GR.born (k:κ):∀ {es:List (GE κ ν)} {rs:List (GE κ Value)},GR ek es rs w y→gBorn k rs=gBorn k es
 | [],[],_=>rfl
 | e :: es,r :: rs,h=>by unfold gBorn;rw [h.1.1,h.1.2.1,GR.born k h.2]
 | [],_ :: _,k=>k.elim
 | _ :: _,[],k=>k.elim
theorem GR.borns:∀ {es:List (GE κ ν)} {rs:List (GE κ Value)},GR ek es rs w y→rs.map (·.born)=es.map (·.born)
 | [],[],_=>rfl
 | e :: es,r :: rs,h=>by rw [YG,YG,h.1.2.1,GR.borns h.2]
 | [],_ :: _,k=>k.elim
 | _ :: _,[],k=>k.elim
theorem GR.keys:∀ {es:List (GE κ ν)} {rs:List (GE κ Value)},GR ek es rs w y→rs.map (·.key)=es.map (·.key)
 | [],[],_=>rfl
 | e :: es,r :: rs,h=>by rw [YG,YG,h.1.1,GR.keys h.2]
 | [],_ :: _,k=>k.elim
 | _ :: _,[],k=>k.elim
theorem GR.get {k:κ} {i:Nat} : ∀ {es:List (GE κ ν)} {rs:List (GE κ Value)},GR ek es rs w y→gIdx k es=some i → ∃ x u r,gGet k es=some x∧gGet k rs=some u∧(ek x).p u w y∧rs[i]? = some r∧r.key=k∧r.val=u∧gBorn k es=some r.born
 | [],[],_,h=>by cases h
 | e :: es,r :: rs,h,hi=>by
  unfold gIdx at hi
  unfold gGet gBorn
  split at hi
  ·rename_i hk
   cases hi
   have hk2:k=r.key:=hk.trans h.1.1
   exact ⟨e.val,r.val,r,by rw [Ye hk],by rw [Ye hk2],h.1.2.2,rfl,hk2.symm,rfl,by rw [Ye hk,h.1.2.1]⟩
  ·rename_i hk
   obtain ⟨j,hj,rfl⟩:=Y7.1 hi
   have hk2:¬ k=r.key:=fun e=>hk (e.trans h.1.1.symm)
   obtain ⟨x,u,r',h1,h2,h3,h4,h5,h6,h7⟩:=GR.get h.2 hj
   exact ⟨x,u,r',by rw [Yb hk];exact h1,by rw [Yb hk2];exact h2,h3,by simpa using h4,h5,h6,by rw [Yb hk];exact h7⟩
 | [],_ :: _,k,_=>k.elim
 | _ :: _,[],k,_=>k.elim
theorem GR.set {k:κ} {x:ν} {u:Value} (hu:(ek x).p u w y):∀ {es:List (GE κ ν)} {rs:List (GE κ Value)},GR ek es rs w y→GR ek (gSet k x es) (gSet k u rs) w y
 | [],[],_=>trivial
 | e :: es,r :: rs,h=>by
  unfold gSet
  by_cases hk:k=e.key
  ·rw [Ye hk,Ye (hk.trans h.1.1)]
   exact ⟨⟨h.1.1,h.1.2.1,hu⟩,h.2⟩
  ·rw [Yb hk,Yb (fun e=>hk (e.trans h.1.1.symm))]
   exact ⟨h.1,GR.set hu h.2⟩
 | [],_ :: _,k=>k.elim
 | _ :: _,[],k=>k.elim
theorem GR.push {k:κ} {x:ν} {u:Value} {n:Nat} (hu:(ek x).p u w y):∀ {es:List (GE κ ν)} {rs:List (GE κ Value)},GR ek es rs w y→GR ek (es ++ [⟨k,x,n⟩]) (rs ++ [⟨k,u,n⟩]) w y
 | [],[],_=>⟨⟨rfl,rfl,hu⟩,tv⟩
 | e :: es,r :: rs,h=>⟨h.1,GR.push hu h.2⟩
 | [],_ :: _,k=>k.elim
 | _ :: _,[],k=>k.elim
theorem GR.len:∀ {es:List (GE κ ν)} {rs:List (GE κ Value)},GR ek es rs w y→rs.length=es.length
 | [],[],_=>rfl
 | e :: es,r :: rs,h=>by simp [GR.len h.2]
 | [],_ :: _,k=>k.elim
 | _ :: _,[],k=>k.elim
end
structure ZjP (P:Program) (kt:TypeId) (ok:κ→Prop) (kv:κ→Value):Prop where
 check:∀ b k w,ok k→(Instr.checkKey b 10000 kt (kv k)).run P w = .ok () w
 find:∀ (rs:List (GE κ Value)) k w,ok k→(∀ e ∈ rs,ok e.key)→(Instr.findKey kt (kv k) (rs.map (rEnc kv))).run P w = .ok ((gIdx k rs).map fun i=>(i,(gGet k rs).getD undef)) w
 same:∀ k,Instr.sameBits 10000 (kv k) (kv k)=true
def mapG (ek:ν→PV) (ok:κ→Prop) (kv:κ→Value) (es:List (GE κ ν)) (clock:Nat) (v:Value):HP:=
 ⟨fun w f y=>∃ b rs,v = .map (some b)∧w.heap[b]? = some (.map (rs.map (rEnc kv)).toArray clock)∧GR ek es rs w y∧(GWf es clock∧Zgt ok es) ∧ ∀ x,f x ↔ x=b,
  fun {w f y w' y'} h hf ⟨b,rs,e,hb,hg,hr,hx⟩=>⟨b,rs,e,by rw [hf b ((hx b).2 rfl)];exact hb,hg.mono h,hr,hx⟩⟩
theorem ZcD {ek:ν→PV} {ok:κ→Prop} {es:List (GE κ ν)} {rs:List (GE κ Value)} {w:World} {y:Ys} (h:GR ek es rs w y) (hk:Zgt ok es):∀ e ∈ rs,ok e.key:=fun e he=>by
 have:e.key ∈ rs.map (·.key):=YB.2 ⟨e,he,rfl⟩
 rw [h.keys] at this
 obtain ⟨e',h1,h2⟩:=YB.1 this
 rw [← h2];exact hk e' h1
theorem ZkQ {k:κ} {u:Value} {kv:κ→Value} : ∀ {rs:List (GE κ Value)} {i:Nat},gIdx k rs=some i→((rs.map (rEnc kv)).modify i fun e=>{ e with key:=kv k,val:=u })=(gSet k u rs).map (rEnc kv)
 | [],i,h=>by cases h
 | e :: es,i,h=>by
  unfold gIdx at h
  split at h
  ·rename_i hk
   cases h
   simp [gSet,hk,rEnc]
  ·rename_i hk
   obtain ⟨j,hj,rfl⟩:=Y7.1 h
   have:=ZkQ (u:=u) (kv:=kv) hj
   simp [gSet,hk,this]
theorem ZiN {k:κ} {u:Value} {kv:κ→Value} : ∀ {rs:List (GE κ Value)} {i:Nat},gIdx k rs=some i→((rs.map (rEnc kv)).modify i fun e=>{ e with val:=u })=(gSet k u rs).map (rEnc kv)
 | [],i,h=>by cases h
 | e :: es,i,h=>by
  unfold gIdx at h
  split at h
  ·rename_i hk
   cases h
   simp [gSet,hk,rEnc]
  ·rename_i hk
   obtain ⟨j,hj,rfl⟩:=Y7.1 h
   have:=ZiN (u:=u) (kv:=kv) hj
   simp [gSet,hk,this]
end
section
variable {P:Program} {d:Option Nat} {t ty:TypeId} {pos:String} {af:Array Edge} {g:Option (Nat×Bool)} {x y z:Operand} {ps qs rs:List (Nat×SF)} {κ ν:Type} [DecidableEq κ] {ok:κ→Prop} {kv:κ→Value} {kt et:TypeId} {ek:ν→PV}
theorem Z8 {d':Nat} (m:Nat):OpC P ⟨some d',.makeMap t none,ty,pos,af,g⟩ ⟨[],[],.same d',[(m,.ob (.slot d') (mapG ek ok kv [] 0))]⟩:=fun a w F K Q hw hp hr ht=>by
 have hrun:(execOp a.eval ⟨some d',.makeMap t none,ty,pos,af,g⟩).run P w = .ok (.value (.map (some w.heap.size))) (w.alloc (.map #[] 0)):=by
  simp [execOp,Instr.makeMap,Ybf]
 obtain ⟨g1,g2⟩:=ZaJ hw m (.map #[] 0)
 simp only [Oper.wp,hrun,Oper.upon]
 refine ht _ _ _ g1 g2 ⟨by simp [upd],rfl⟩ ?_
 intro q hq
 simp only [Yn] at hq
 subst hq
 exact ⟨w.heap.size,[],by simp [Anc.v,upd],by simpa using Yat w (.map #[] 0),tv,⟨by simp [GWf],by simp [Zgt]⟩,fun b=>by simp⟩
theorem ZeO {zv:Value} (hz:(P.info? et).map (·.zero)=some (some zv)) (w:World):(zeroValue et).run P w = .ok zv w:=by
 obtain ⟨i,h1,h2⟩:=Y7.1 hz
 simp [zeroValue,typeInfo,h1,h2]
theorem ZR {es:List (GE κ ν)} {clock:Nat} {an:Anc} {k:κ} {z0:ν} {zv:Value} (m:Nat) (hu:P.underlying t=some (.map kt et)) (hk:ZjP P kt ok kv) (hz:(P.info? et).map (·.zero)=some (some zv)) (hz0:∀ w y,(ek z0).p zv w y) (hx:Zar x ps an) (hy:Zw ok kv y qs k) :
  OpC P ⟨d,.lookup t x y false,ty,pos,af,g⟩ ⟨ps++qs,[(m,.ob an (mapG ek ok kv es clock))],.pv (ek ((gGet k es).getD z0)),[]⟩:=
 OpC.read fun act w F hp hr=>by
  obtain ⟨b,rs,e1,hb,hg,hrg,hf⟩:=hr (m,.ob an (mapG ek ok kv es clock)) XM
  have ex:act.eval x = .map (some b):=Kc
  obtain ⟨ey,hok⟩:=hy act w _ hp.right
  have h1:=hk.find rs k w hok (ZcD hg hrg.2)
  cases hi:gIdx k es with
  | some i=>
   obtain ⟨x0,u,r,h2,h3,h4,_⟩:=hg.get hi
   rw [hg.idx,hi,h3] at h1
   refine ⟨u,?_,fun _ _=>by rw [h2];exact h4⟩
   simp [execOp,ex,ey,Instr.lookup,Yo hu,YP hb,hk.check _ _ _ hok,h1]
  | none=>
   rw [hg.idx,hi] at h1
   refine ⟨zv,?_,fun _ _=>by rw [ZbC hi];exact hz0 _ _⟩
   simp [execOp,ex,ey,Instr.lookup,Yo hu,YP hb,hk.check _ _ _ hok,h1,ZeO hz]
theorem Zj4 {es:List (GE κ ν)} {clock:Nat} {an:Anc} {k:κ} {z0:ν} {zv:Value} (m:Nat) (hu:P.underlying t=some (.map kt et)) (hk:ZjP P kt ok kv) (hz:(P.info? et).map (·.zero)=some (some zv)) (hz0:∀ w y,(ek z0).p zv w y) (hx:Zar x ps an) (hy:Zw ok kv y qs k) :
  OpC P ⟨d,.lookup t x y true,ty,pos,af,g⟩ ⟨ps++qs,[(m,.ob an (mapG ek ok kv es clock))],.pv (.tup [ek ((gGet k es).getD z0),.bool (gGet k es).isSome]),[]⟩:=
 OpC.read fun act w F hp hr=>by
  obtain ⟨b,rs,e1,hb,hg,hrg,hf⟩:=hr (m,.ob an (mapG ek ok kv es clock)) XM
  have ex:act.eval x = .map (some b):=Kc
  obtain ⟨ey,hok⟩:=hy act w _ hp.right
  have h1:=hk.find rs k w hok (ZcD hg hrg.2)
  cases hi:gIdx k es with
  | some i=>
   obtain ⟨x0,u,r,h2,h3,h4,_⟩:=hg.get hi
   rw [hg.idx,hi,h3] at h1
   refine ⟨.tuple #[u,.bool true],?_,fun _ _=>⟨[_,_],rfl,by rw [h2];exact h4,by rw [h2];rfl,tv⟩⟩
   simp [execOp,ex,ey,Instr.lookup,Yo hu,YP hb,hk.check _ _ _ hok,h1]
  | none=>
   rw [hg.idx,hi] at h1
   refine ⟨.tuple #[zv,.bool false],?_,fun _ _=>⟨[_,_],rfl,by rw [ZbC hi];exact hz0 _ _,by rw [ZbC hi];rfl,tv⟩⟩
   simp [execOp,ex,ey,Instr.lookup,Yo hu,YP hb,hk.check _ _ _ hok,h1,ZeO hz]
theorem o_mapUpdateG {es:List (GE κ ν)} {clock:Nat} {an:Anc} {k:κ} {v:ν} (m:Nat) (hu:P.underlying t=some (.map kt et)) (hk:ZjP P kt ok kv) (hx:Zar x ps an) (hy:Zw ok kv y qs k) (hv:Opd z rs (.pv (ek v))) :
  OpC P ⟨none,.mapUpdate t x y z,ty,pos,af,g⟩ ⟨ps++(qs++rs),[(m,.ob an (mapG ek ok kv es clock))],.pv .any,[(m,.ob an (mapG ek ok kv (gPut k v (es,clock)).1 (gPut k v (es,clock)).2))]⟩:=fun act w F K Q hw hp hr ht=>by
 obtain ⟨b,us,e1,hb,hg,hrg,hf⟩:=hr (m,.ob an (mapG ek ok kv es clock)) XM
 have ex:act.eval x = .map (some b):=Kc
 obtain ⟨ey,hok⟩:=hy act w _ hp.right.left
 have hvz:(ek v).p (act.eval z) w (U F):=hv act w _ hp.right.right
 have h1:=hk.find us k w hok (ZcD hg hrg.2)
 have hrun:∃ o' us',(execOp act.eval ⟨none,.mapUpdate t x y z,ty,pos,af,g⟩).run P w = .ok .skip { w with heap:=w.heap.setIfInBounds b o' } ∧ o' = .map (us'.map (rEnc kv)).toArray (gPut k v (es,clock)).2∧GR ek (gPut k v (es,clock)).1 us' w (U F):=by
  cases hi:gIdx k es with
  | some i=>
   have hi2:gIdx k us=some i:=KJ
   obtain ⟨x0,u,r,g1,g2,g3,g4,g5,g6,g7⟩:=hg.get hi
   rw [hi2] at h1
   have hold:((((us.map (rEnc kv)).toArray[i]?).map (·.key)).getD (kv k))=kv k:=by simp [g4,rEnc,g5]
   have hm:(gPut k v (es,clock))=(gSet k v es,clock):=by unfold gPut;simp [hi]
   have hmod:(us.map (rEnc kv)).toArray.modify i (fun e=>{ e with key:=kv k,val:=act.eval z })=((gSet k (act.eval z) us).map (rEnc kv)).toArray:=by
    rw [← ZkQ (kv:=kv) (u:=act.eval z) hi2]
    simp
   refine ⟨_,gSet k (act.eval z) us,?_,rfl,by rw [hm];exact hg.set hvz⟩
   rw [hm]
   simp only [execOp,ex,ey,Instr.mapUpdate,YD,Yo hu,Yv,YP hb,hk.check _ _ _ hok,h1,YaC,hold,Instr.keyThatStays,hk.same,Yx,YI,YaG _ hb,hmod]
  | none=>
   have hi2:gIdx k us=none:=KJ
   rw [hi2] at h1
   have hm:(gPut k v (es,clock))=(es ++ [⟨k,v,clock⟩],clock+1):=by unfold gPut;simp [hi]
   refine ⟨_,us ++ [⟨k,act.eval z,clock⟩],?_,rfl,by rw [hm];exact hg.push hvz⟩
   rw [hm]
   simp only [execOp,ex,ey,Instr.mapUpdate,YD,Yo hu,Yv,YP hb,hk.check _ _ _ hok,h1,YaS,YI,YaG _ hb]
   simp [rEnc]
 obtain ⟨o',us',hrun,ho,hg'⟩:=hrun
 obtain ⟨g1,g2⟩:=ZeZ (o':=o') hw hb hf
 simp only [Oper.wp,hrun,Oper.upon]
 refine ht _ _ F g1 g2 trivial ?_
 intro q hq
 simp only [Yn] at hq
 subst hq
 refine ⟨b,us',e1,by rw [(Ybw (o':=o') hb).1,ho],hg'.mono g2.ev,?_,hf⟩
 unfold gPut
 split
 ·exact ⟨hrg.1.set,hrg.2.set⟩
 ·exact ⟨hrg.1.push k v,hrg.2.push hok v _⟩
theorem Zf6 {d':Nat} {es:List (GE κ ν)} {clock:Nat} {an:Anc} {k:κ} {z0:ν} {zv:Value} (m:Nat) (hu:P.underlying t=some (.map kt et)) (hk:ZjP P kt ok kv) (hz:(P.info? et).map (·.zero)=some (some zv)) (hz0:∀ w y,(ek z0).p zv w y) (hx:Zar x ps an) (hy:Zw ok kv y qs k) (ha:∀ τ v,an.v (upd τ (some d') v)=an.v τ) :
  OpC P ⟨some d',.mapEntry t x y,ty,pos,af,g⟩ ⟨ps++qs,[(m,.ob an (mapG ek ok kv es clock))],.pv (.tup [ek ((gGet k es).getD z0),.is (.int .i64 (ZcJ k (es,clock):Nat))]),[(m,.ob an (mapG ek ok kv (gEns z0 k (es,clock)).1 (gEns z0 k (es,clock)).2))]⟩:=fun act w F K Q hw hp hr ht=>by
 obtain ⟨b,us,e1,hb,hg,hrg,hf⟩:=hr (m,.ob an (mapG ek ok kv es clock)) XM
 have ex:act.eval x = .map (some b):=Kc
 obtain ⟨ey,hok⟩:=hy act w _ hp.right
 have h1:=hk.find us k w hok (ZcD hg hrg.2)
 have hrun:∃ o' us' u,(execOp act.eval ⟨some d',.mapEntry t x y,ty,pos,af,g⟩).run P w = .ok (.value (.tuple #[u,.int .i64 (ZcJ k (es,clock):Nat)])) { w with heap:=w.heap.setIfInBounds b o' } ∧ o' = .map (us'.map (rEnc kv)).toArray (gEns z0 k (es,clock)).2∧GR ek (gEns z0 k (es,clock)).1 us' w (U F)∧(ek ((gGet k es).getD z0)).p u w (U F):=by
  cases hi:gIdx k es with
  | some i=>
   have hi2:gIdx k us=some i:=KJ
   obtain ⟨x0,u,r,g1,g2,g3,g4,g5,g6,g7⟩:=hg.get hi
   rw [hi2,g2] at h1
   have hold:((((us.map (rEnc kv)).toArray[i]?).map (·.key)).getD (kv k))=kv k:=by simp [g4,rEnc,g5]
   have hm:(gEns z0 k (es,clock))=(es,clock):=by unfold gEns;simp [hi]
   have hmod:(us.map (rEnc kv)).toArray.modify i (fun e=>{ e with key:=kv k })=(us.map (rEnc kv)).toArray:=by
    apply Array.ext
    ·simp
    ·intro j hj1 hj2
     rw [Array.getElem_modify]
     split
     ·rename_i hij
      subst hij
      have hlt:i<us.length:=(YH.1 g4).1
      have he:us[i] = r:=(YH.1 g4).2
      simp [rEnc,he,g5]
     ·rfl
   refine ⟨_,us,u,?_,rfl,by rw [hm];exact hg,by rw [g1];exact g3⟩
   rw [hm]
   simp only [execOp,ex,ey,Instr.mapEntry,YD,Yo hu,Yv,YP hb,hk.check _ _ _ hok,h1,YaC,hold,Instr.keyThatStays,hk.same,Yx,YI,YaG _ hb,hmod,goInt,Option.map_map,Function.comp_def]
   simp [g4,rEnc,ZcJ,g7]
  | none=>
   have hi2:gIdx k us=none:=KJ
   rw [hi2] at h1
   have hm:(gEns z0 k (es,clock))=(es ++ [⟨k,z0,clock⟩],clock+1):=by unfold gEns;simp [hi]
   have hbn:gBorn k es=none:=by
    have h3:∀ es:List (GE κ ν),(gIdx k es).isSome=(gBorn k es).isSome:=by
     intro es
     induction es with
     | nil=>rfl
     | cons e es ih=>unfold gIdx gBorn;split;rfl;rw [Option.isSome_map,ih]
    have:=h3 es
    rw [hi] at this
    simpa using this.symm
   refine ⟨_,us ++ [⟨k,zv,clock⟩],zv,?_,rfl,by rw [hm];exact hg.push (hz0 _ _),by rw [ZbC hi];exact hz0 _ _⟩
   rw [hm]
   simp only [execOp,ex,ey,Instr.mapEntry,YD,Yo hu,Yv,YP hb,hk.check _ _ _ hok,h1,YaS,YI,ZeO hz,YaG _ hb]
   simp [rEnc,ZcJ,hbn,goInt]
 obtain ⟨o',us',u,hrun,ho,hg',hu'⟩:=hrun
 obtain ⟨g1,g2⟩:=ZeZ (o':=o') hw hb hf
 simp only [Oper.wp,hrun,Oper.upon]
 refine ht _ _ F g1 g2 ⟨[_,_],rfl,(ek _).mono g2.ev hu',⟨rfl,rfl⟩,tv⟩ ?_
 intro q hq
 simp only [Yn] at hq
 subst hq
 have ea:an.v (upd (Act.tau act) (some d') (.tuple #[u,.int .i64 (ZcJ k (es,clock):Nat)]))=an.v (Act.tau act):=ha _ _
 refine ⟨b,us',by rw [ea];exact e1,by rw [(Ybw (o':=o') hb).1,ho],hg'.mono g2.ev,?_,hf⟩
 unfold gEns
 split
 ·exact hrg
 ·exact ⟨hrg.1.push k z0,hrg.2.push hok z0 _⟩
theorem ZaC {es:List (GE κ ν)} {clock:Nat} {an:Anc} {k:κ} {v:ν} {b9:Nat} (m:Nat) (hb9:gBorn k es=some b9) (hx:Zar x ps an) (hy:Opd y qs (.pv (.is (.int .i64 (b9:Nat))))) (hv:Opd z rs (.pv (ek v))) :
  OpC P ⟨none,.entryStore t x y z,ty,pos,af,g⟩ ⟨ps++(qs++rs),[(m,.ob an (mapG ek ok kv es clock))],.pv .any,[(m,.ob an (mapG ek ok kv (gSet k v es) clock))]⟩:=fun act w F K Q hw hp hr ht=>by
 obtain ⟨b,us,e1,hb,hg,hrg,hf⟩:=hr (m,.ob an (mapG ek ok kv es clock)) XM
 have ex:act.eval x = .map (some b):=Kc
 have ey:act.eval y = .int .i64 (b9:Nat):=(hy act w _ hp.right.left).1
 have hvz:(ek v).p (act.eval z) w (U F):=hv act w _ hp.right.right
 have hb9':gBorn k us=some b9:=by rw [hg.born];exact hb9
 obtain ⟨i,h1,h2⟩:=ZjA (es:=us) (by rw [hg.borns];exact hrg.1.1) hb9'
 have hfi:(us.map (rEnc kv)).toArray.findIdx? (fun e=>(e.born:Int) == ((b9:Nat):Int))=some i:=by
  have hpp:(fun x:GE κ Value=>((x.born:Int) == ((b9:Nat):Int)))=fun e=>decide (e.born=b9):=by
   funext e
   rw [Yau,beq_iff_eq,Yl]
   omega
  rw [← h2,← hpp]
  simp [List.findIdx?_map,Function.comp_def,rEnc]
 have hmod:(us.map (rEnc kv)).toArray.modify i (fun e=>{ e with val:=act.eval z })=((gSet k (act.eval z) us).map (rEnc kv)).toArray:=by
  rw [← ZiN (kv:=kv) (u:=act.eval z) h1]
  simp
 have hrun:(execOp act.eval ⟨none,.entryStore t x y z,ty,pos,af,g⟩).run P w = .ok .skip { w with heap:=w.heap.setIfInBounds b (.map ((gSet k (act.eval z) us).map (rEnc kv)).toArray clock) } := by
  simp only [execOp,ex,ey,Instr.entryStore,YD,Yv,YP hb,asInt,asIntOf,YI,hfi,YaG _ hb,hmod]
 obtain ⟨g1,g2⟩:=ZeZ (o':=.map ((gSet k (act.eval z) us).map (rEnc kv)).toArray clock) hw hb hf
 simp only [Oper.wp,hrun,Oper.upon]
 refine ht _ _ F g1 g2 trivial ?_
 intro q hq
 simp only [Yn] at hq
 subst hq
 exact ⟨b,_,e1,(Ybw (o':=.map ((gSet k (act.eval z) us).map (rEnc kv)).toArray clock) hb).1,(hg.set hvz).mono g2.ev,⟨hrg.1.set,hrg.2.set⟩,hf⟩
theorem ZgO {es:List (GE κ ν)} {clock:Nat} {an:Anc} (m:Nat) (hu:P.underlying t=some (.map kt et)) (hx:Zar x ps an) (hl:es.length≤9223372036854775807) :
  OpC P ⟨d,.call { callee:=.builtin .len,args:=#[x],argTypes:=#[t] },ty,pos,af,g⟩ ⟨ps,[(m,.ob an (mapG ek ok kv es clock))],.pv (.int .i64 es.length),[]⟩:=
 OpC.read fun act w F hp hr=>by
  obtain ⟨b,us,e1,hb,hg,hrg,hf⟩:=hr (m,.ob an (mapG ek ok kv es clock)) XM
  have ex:act.eval x = .map (some b):=by rw [← e1];exact hx act w _ hp
  refine ⟨.int .i64 es.length,?_,fun _ _=>⟨rfl,by simp [inR,IntKind.min,IntKind.max,IntKind.signed,IntKind.bits];omega⟩⟩
  simp [execOp,resolve,ex,invoke,builtin,Builtin.len_,Builtin.lenOf,Yo hu,YP hb,goInt,hg.len]
theorem Za2 {kk:IntKind} (hk:P.underlying kt=some (.int kk)):ZjP P kt (fun _=>True) (fun n:Int=>Value.int kk n) where
 check:=fun b k w _=>Go.MapKept.run_checkKey hk W9 b 9999
 find:=fun es k w _ _=>by
  have key:∀ (es:List (GE Int Value)) (j:Nat),Instr.findNow (.int kk) (.int kk k) (es.map (rEnc fun n:Int=>Value.int kk n)) j=some ((gIdx k es).map fun i=>(i+j,(gGet k es).getD undef)):=by
   intro es
   induction es with
   | nil=>intro j;rfl
   | cons e es ih=>
    intro j
    rw [YG]
    unfold Instr.findNow
    by_cases h:k=e.key
    ·simp [rEnc,Instr.sameNow,h,gIdx,gGet]
    ·have hbq:(k == e.key)=false:=XL
     simp [rEnc,Instr.sameNow,h,hbq,gIdx,gGet,ih (j+1)]
     cases hm:gIdx k es with
     | none=>rfl
     | some i=>simp;omega
  exact Go.MapKept.run_findKey hk (by rw [key es 0];simp)
 same:=fun k=>by simp [Instr.sameBits]
theorem Zc9 {kt:TypeId} {enc:κ→List Int} {n:Nat} (hl:∀ k,(enc k).length=n) (hi:∀ a b,enc a=enc b→a=b) (hf:P.flatS kt (List.replicate n true)=true):ZjP P kt (fun k=>∀ x ∈ enc k,inR .i64 x) (kvS enc) where
 check:=(Zmo (P:=P) hl hi hf).check
 find:=fun es k w hok hks=>by
  obtain ⟨f1,_,_,_⟩:=Zb7 hf
  rw [run_findKey_eq (P:=P) (w:=w) (k:=kt) (by rw [f1]) (kvS enc k) (es.map (rEnc (kvS enc)))]
  have key:∀ (es:List (GE κ Value)) (j:Nat),(∀ e ∈ es,∀ x ∈ enc e.key,inR .i64 x)→(Instr.findAsking kt (kvS enc k) (es.map (rEnc (kvS enc))) j).run P w = .ok ((gIdx k es).map fun i=>(i+j,(gGet k es).getD undef)) w:=by
   intro es
   induction es with
   | nil=>intro j _;simp [Instr.findAsking,gIdx]
   | cons e es ih=>
    intro j hes
    have hq:(Op.equal kt (kvS enc k) (kvS enc e.key)).run P w = .ok (decide (enc k=enc e.key)) w:=
     Zhm (a:={ tmps:=#[],defers:=[] }) (yy:=fun _=>False) hf (ZdI hok) (ZdI (hes e XM)) Wb
    rw [YG]
    unfold Instr.findAsking
    have ih':=ih (j+1) fun z hz=>hes z (Yy _ hz)
    by_cases h:k=e.key
    ·have he:enc k=enc e.key:=by rw [h]
     simp only [rEnc,YD,hq,he,decide_true,Yv,Yx,YI]
     simp [gIdx,gGet,h]
    ·have he:¬ enc k=enc e.key:=fun h'=>h (hi _ _ h')
     simp only [rEnc,YD,hq,YO he,Yv,Ybo,Yt]
     rw [show (es.map fun e=>rEnc (kvS enc) e)=es.map (rEnc (kvS enc)) from rfl] at *
     rw [ih']
     simp only [gIdx,gGet,Yb h]
     cases hm:gIdx k es with
     | none=>rfl
     | some i=>simp;omega
  have:=key es 0 hks
  simpa using this
 same:=fun k=>Zfx (enc k) 9999
end
section
variable {κ ν:Type} [DecidableEq κ]
theorem Zl1 {z:ν} {k k':κ} (s:List (GE κ ν)×Nat):(gGet k' (gEns z k s).1).getD z=(gGet k' s.1).getD z:=by
 unfold gEns
 split
 ·rfl
 ·rename_i h
  have hn:gIdx k s.1=none:=XL
  rw [gGet_push hn]
  by_cases e:k' = k
  ·subst e;rw [Ye rfl,ZbC hn];rfl
  ·rw [Yb e]
theorem ZqN {z:ν} {k:κ} (s:List (GE κ ν)×Nat):gEns z k (gEns z k s)=gEns z k s:=by
 have h:(gIdx k (gEns z k s).1).isSome=true:=by
  unfold gEns
  split
  ·rename_i h;exact h
  ·rename_i h;exact gIdx_push XL
 rw [show gEns z k (gEns z k s)=if (gIdx k (gEns z k s).1).isSome then gEns z k s else ((gEns z k s).1 ++ [⟨k,z,(gEns z k s).2⟩],(gEns z k s).2+1) from rfl,Ye h]
theorem ZmY {z:ν} {k:κ} (s:List (GE κ ν)×Nat):ZcJ k (gEns z k s)=ZcJ k s:=by
 have:=ZbA z k s
 conv=>lhs;unfold ZcJ
 rw [this];rfl
def HP.or (a b:HP):HP:=⟨fun w f y=>a.p w f y∨b.p w f y,fun h hf k=>k.imp (a.st h hf) (b.st h hf)⟩
def Zv6 (z0:ν) (k:κ) (ek:ν→PV) (ok:κ→Prop) (kv:κ→Value) (es:List (GE κ ν)) (clock:Nat) (v:Value):HP:=HP.or (mapG ek ok kv es clock v) (mapG ek ok kv (gEns z0 k (es,clock)).1 (gEns z0 k (es,clock)).2 v)
theorem OpC.orH {P:Program} {o:Oper} {ps:List (Nat×SF)} {q:SF} {qr:List (Nat×RS)} {m:Nat} {an:Anc} {h1 h2:Value→HP} (c1:OpC P o ⟨ps,[(m,.ob an h1)],q,qr⟩) (c2:OpC P o ⟨ps,[(m,.ob an h2)],q,qr⟩):OpC P o ⟨ps,[(m,.ob an fun v=>HP.or (h1 v) (h2 v))],q,qr⟩:=fun a w F K Q hw hp hr ht=>by
 have h0:=hr _ (Yn.2 rfl)
 rcases h0 with h | h
 ·exact c1 a w F K Q hw hp (fun x hx=>by rw [Yn] at hx;subst hx;exact h) ht
 ·exact c2 a w F K Q hw hp (fun x hx=>by rw [Yn] at hx;subst hx;exact h) ht
theorem Sat.turnZ {B:ZaV} {E:En} {a:Act} {w:World} {F:Fp} {ek:ν→PV} {ok:κ→Prop} {kv:κ→Value} {es:List (GE κ ν)} {clock:Nat} {an:Anc} (h:Sat B E a w F) (n:Nat) (z0:ν) (k:κ) (hl:look E.r n=some (.ob an (mapG ek ok kv es clock))):Sat B ⟨E.s,(n,.ob an (Zv6 z0 k ek ok kv es clock)) :: E.r⟩ a w F:=
 h.turn n hl fun _ _ _ _ k=>.inl k
end
section
variable {P:Program} {d:Option Nat} {t ty:TypeId} {pos:String} {af:Array Edge} {g:Option (Nat×Bool)} {x y z:Operand} {ps qs rs:List (Nat×SF)} {κ ν:Type} [DecidableEq κ] {ok:κ→Prop} {kv:κ→Value} {kt et:TypeId} {ek:ν→PV}
theorem ZbX {es:List (GE κ ν)} {clock:Nat} {an:Anc} {k k0:κ} {z0:ν} {zv:Value} (m:Nat) (hu:P.underlying t=some (.map kt et)) (hk:ZjP P kt ok kv) (hz:(P.info? et).map (·.zero)=some (some zv)) (hz0:∀ w y,(ek z0).p zv w y) (hx:Zar x ps an) (hy:Zw ok kv y qs k) :
  OpC P ⟨d,.lookup t x y false,ty,pos,af,g⟩ ⟨ps++qs,[(m,.ob an (Zv6 z0 k0 ek ok kv es clock))],.pv (ek ((gGet k es).getD z0)),[]⟩:=
 OpC.orH (ZR m hu hk hz hz0 hx hy) (by have:=ZR (es:=(gEns z0 k0 (es,clock)).1) (clock:=(gEns z0 k0 (es,clock)).2) (d:=d) (ty:=ty) (pos:=pos) (af:=af) (g:=g) m hu hk hz hz0 hx hy;rw [Zl1] at this;exact this)
theorem ZaW {d':Nat} {es:List (GE κ ν)} {clock:Nat} {an:Anc} {k:κ} {z0:ν} {zv:Value} (m:Nat) (hu:P.underlying t=some (.map kt et)) (hk:ZjP P kt ok kv) (hz:(P.info? et).map (·.zero)=some (some zv)) (hz0:∀ w y,(ek z0).p zv w y) (hx:Zar x ps an) (hy:Zw ok kv y qs k) (ha:∀ τ v,an.v (upd τ (some d') v)=an.v τ) :
  OpC P ⟨some d',.mapEntry t x y,ty,pos,af,g⟩ ⟨ps++qs,[(m,.ob an (Zv6 z0 k ek ok kv es clock))],.pv (.tup [ek ((gGet k es).getD z0),.is (.int .i64 (ZcJ k (es,clock):Nat))]),[(m,.ob an (mapG ek ok kv (gEns z0 k (es,clock)).1 (gEns z0 k (es,clock)).2))]⟩:=
 OpC.orH (Zf6 m hu hk hz hz0 hx hy ha) (by
  have:=Zf6 (es:=(gEns z0 k (es,clock)).1) (clock:=(gEns z0 k (es,clock)).2) (ty:=ty) (pos:=pos) (af:=af) (g:=g) m hu hk hz hz0 hx hy ha
  rw [show ((gEns z0 k (es,clock)).1,(gEns z0 k (es,clock)).2)=gEns z0 k (es,clock) from rfl,Zl1,ZqN,ZmY] at this
  exact this)
end
end Go.Gm
namespace Go.Gm
set_option linter.unusedVariables false
set_option linter.unusedSimpArgs false
set_option linter.unusedSectionVars false
section
variable {κ α:Type} [DecidableEq κ] {T sz:Nat} {R:α→List PV}
abbrev ZuU (κ:Type) {α:Type} (T sz:Nat) (R:α→List PV) (e:GE κ (Value×List α)):HP:=Zz T sz R e.val.2 e.val.1
abbrev Zp1 (T sz:Nat) (R:α→List PV) (es:List (GE κ (Value×List α))):RS:=Zsu (ZuU κ T sz R) es
def ZaX:Value×List α:=(.slice none 0 0,[])
theorem Znk {ν:Type} {k:κ} : ∀ {es:List (GE κ ν)} {i:Nat},gIdx k es=some i → ∃ e,es[i]? = some e∧e.key=k∧gGet k es=some e.val
 | [],i,h=>by cases h
 | e :: es,i,h=>by
  unfold gIdx at h
  unfold gGet
  split at h
  ·rename_i hk
   cases h
   exact ⟨e,rfl,hk.symm,by rw [Ye hk]⟩
  ·rename_i hk
   obtain ⟨j,hj,rfl⟩:=Y7.1 h
   obtain ⟨e',h1,h2,h3⟩:=Znk hj
   exact ⟨e',by simpa using h1,h2,by rw [Yb hk];exact h3⟩
variable {B:ZaV} {E:En} {a:Act} {w:World} {F:Fp}
theorem Sat.takeKey {es:List (GE κ (Value×List α))} (h:Sat B E a w F) (n i:Nat) (k:κ) (hl:look E.r n=some (Zp1 T sz R es)) (hi:look E.r i=none) :
  ∃ F',Sat B ⟨E.s,(i,.ob (.val ((gGet k es).getD ZaX).1) (Zz T sz R ((gGet k es).getD ZaX).2)) :: (n,Zp1 T sz R (ZpP k es)) :: E.r⟩ a w F':=by
 cases hx:gIdx k es with
 | some j=>
  obtain ⟨e,h1,h2,h3⟩:=Znk hx
  obtain ⟨F',G⟩:=h.takeAt (ZuU κ T sz R) n i j hl hi h1
  rw [← Zha hx] at G
  rw [h3]
  have hS2:=G.turn i (r:=RS.hp (ZuU κ T sz R e)) Wd (r':=.ob (.val e.val.1) (Zz T sz R e.val.2)) (fun _ _ _ _ k=>k)
  refine ⟨F',hS2.congr (fun _=>rfl) (fun m=>?_)⟩
  simp only [Zf]
  by_cases e1:i=m
  ·simp [e1]
  ·simp [e1]
 | none=>
  rw [ZbC hx,gDel_none hx]
  have hni:n≠i:=fun e=>by subst e;rw [hl] at hi;cases hi
  have h1:=h.fresh i hi
  have h2:=h1.turn i Wd (Za6 (T:=T) (sz:=sz) (R:=R))
  exact ⟨F,h2.congr (fun _=>rfl) (fun m=>by
   simp only [Zf]
   by_cases e1:i=m
   ·simp [e1,ZaX]
   ·by_cases e2:n=m
    ·subst e2;simp [e1,hl]
    ·simp [e1,e2])⟩
theorem ZoJ {k:κ} {v:Value×List α} {es:List (GE κ (Value×List α))} {ck:Nat} : ((gPut k v (es,ck)).1.map (·.val)).Perm (v :: (ZpP k es).map (·.val)):=by
 unfold gPut
 cases hi:gIdx k es with
 | some i=>
  simp only [hi,Option.isSome_some,Yx]
  have key:∀ es:List (GE κ (Value×List α)),(gIdx k es).isSome=true→((gSet k v es).map (·.val)).Perm (v :: (ZpP k es).map (·.val)):=by
   intro es
   induction es with
   | nil=>intro h;simp [gIdx] at h
   | cons e es ih=>
    intro h
    unfold gSet ZpP
    by_cases hk:k=e.key
    ·rw [Ye hk,Ye hk];exact List.Perm.refl _
    ·rw [Yb hk,Yb hk,YG,YG]
     have:=ih (by unfold gIdx at h;simpa [hk] using h)
     exact (this.cons e.val).trans (List.Perm.swap _ _ _)
  exact key es (by rw [hi];rfl)
 | none=>
  simp only [hi,Option.isSome_none,Ybo,Yt]
  rw [gDel_none hi,Y3]
  exact List.perm_append_comm
theorem Sat.putKey {es:List (GE κ (Value×List α))} {v:Value} {l:List α} (h:Sat B E a w F) (n i:Nat) (k:κ) (ck:Nat) (hl:look E.r n=some (Zp1 T sz R (ZpP k es))) (hi:look E.r i=some (.ob (.val v) (Zz T sz R l))) (hne:Nat.beq n i=false) :
  ∃ F',Sat B ⟨E.s,(n,Zp1 T sz R (gPut k (v,l) (es,ck)).1) :: (i,RS.hp (HP.star [])) :: E.r⟩ a w F':=by
 have h0:=h.turn i hi (r':=RS.hp (Zz T sz R l v)) (fun _ _ _ _ k=>k)
 have hni:i≠n:=fun e=>by subst e;simp at hne
 obtain ⟨F',h1⟩:=h0.push n i (by rw [Zf,Yb hni];exact hl) Wd hne rfl
 have h2:=h1.turn n (r:=RS.hp (HP.star (RS.hp (Zz T sz R l v) :: (ZpP k es).map fun x=>RS.hp (ZuU κ T sz R x)))) Wd (r':=Zp1 T sz R (gPut k (v,l) (es,ck)).1) (fun _ _ _ _ k'=>by
  refine Zd0 ?_ k'
  have hp:=(ZoJ (k:=k) (v:=(v,l)) (es:=es) (ck:=ck)).symm.map fun p:Value×List α=>RS.hp (Zz T sz R p.2 p.1)
  rw [YG,Yba,Yba] at hp
  exact hp)
 refine ⟨F',h2.congr (fun _=>rfl) (fun m=>?_)⟩
 simp only [Zf]
 by_cases e1:n=m
 ·simp [e1]
 ·by_cases e2:i=m
  ·simp [e1,e2]
  ·simp [e1,e2]
theorem ZiA {w:World} {y:Ys} : ∀ {rs:List RS} {f:Ys},stars w y rs f → ∀ r ∈ rs,∃ f1,(∀ b,f1 b→f b)∧r.holds tau0 w f1 y
 | [],f,_,r,h=>by cases h
 | x :: rs,f,⟨f1,f2,h1,h2,h3,h4,h5⟩,r,hr=>by
  rcases Ym.1 hr with rfl | hr
  ·exact ⟨f1,fun b hb=>(h1 b).2 (.inl hb),h4⟩
  ·obtain ⟨g,g1,g2⟩:=ZiA h5 r hr
   exact ⟨g,fun b hb=>(h1 b).2 (.inr (g1 b hb)),g2⟩
theorem GR.give {w:World} {y y':Ys} (hle:∀ b,y' b→y b):∀ {es:List (GE κ (Value×List α))} {rs:List (GE κ Value)},GR (fun p:Value×List α=>PV.is p.1) es rs w y→(∀ e ∈ es,(PV.sl R e.val.2).p e.val.1 w y')→GR (fun l:List α=>PV.sl R l) (es.map fun e=>⟨e.key,e.val.2,e.born⟩) rs w y'
 | [],[],_,_=>trivial
 | e :: es,r :: rs,h,hh=>⟨⟨h.1.1,h.1.2.1,by have e1:r.val=e.val.1:=h.1.2.2.1;rw [e1];exact hh e XM⟩,GR.give hle h.2 fun x hx=>hh x XO⟩
 | [],_ :: _,h,_=>h.elim
 | _ :: _,[],h,_=>h.elim
def ZbJ (es:List (GE κ (Value×List α))):List (GE κ (List α)):=es.map fun e=>⟨e.key,e.val.2,e.born⟩
theorem Zeq {k:κ} : ∀ es:List (GE κ (Value×List α)),gGet k (ZbJ es)=(gGet k es).map (·.2)
 | []=>rfl
 | e :: es=>by
  unfold ZbJ
  rw [YG,gGet,gGet]
  split
  ·rfl
  ·exact Zeq es
theorem ZkD (es:List (GE κ (Value×List α))):(ZbJ es).map (·.key)=es.map (·.key):=by simp [ZbJ,Function.comp_def]
theorem Sat.giveMap {ok:κ→Prop} {kv:κ→Value} {es:List (GE κ (Value×List α))} {ck:Nat} {v:Value} (h:Sat B E a w F) (m n:Nat) (hm:look E.r m=some (.ob (.val v) (mapG (fun p:Value×List α=>PV.is p.1) ok kv es ck))) (hn:look E.r n=some (Zp1 T sz R es)) (hne:Nat.beq m n=false) :
  ∃ F',Sat B ⟨E.s,(m,.ob (.val v) (mapG (fun l:List α=>PV.sl R l) ok kv (ZbJ es) ck)) :: (n,RS.hp (HP.star [])) :: E.r⟩ a w F':=by
 have hmn:m≠n:=fun e=>by subst e;simp at hne
 have hle:∀ b,U (fun m=>if m=n then fun _=>False else F m) b→U F b:=fun b ⟨m,hm⟩=>⟨m,by
  by_cases e:m=n
  ·simp only [e,Yx] at hm
  ·simp only [e,Yt] at hm;exact hm⟩
 have hev:=Ev.less w hle
 refine ⟨fun m=>if m=n then fun _=>False else F m,⟨fun i k b hi hk=>?_,fun i b hi=>?_⟩,h.ev.trans hev,h.n,h.df,fun j s hj=>?_,fun i r hr=>?_,fun i b hi=>?_⟩
 ·by_cases e1:i=n
  ·simp only [e1,Yx] at hi
  ·by_cases e2:k=n
   ·simp only [e2,Yx] at hk
   ·simp only [e1,e2,Yt] at hi hk;exact h.wf.dis i k b hi hk
 ·by_cases e1:i=n
  ·simp only [e1,Yx] at hi
  ·simp only [e1,Yt] at hi;exact h.wf.bd i b hi
 ·exact SF.mono hev (fun _ _=>rfl) (h.s j s hj)
 ·rw [Zf] at hr
  split at hr
  ·rename_i e
   simp only [YX] at hr;subst hr;subst e
   obtain ⟨b,rs,e1,h1,h2,h3,h4⟩:=h.r m _ hm
   simp only [hmn,Yt]
   refine ⟨b,rs,e1,h1,?_,⟨⟨by have:=h3.1.1;simpa [ZbJ,Function.comp_def] using this,fun e he=>?_⟩,fun e he=>?_⟩,h4⟩
   ·refine GR.give hle h2 fun e he=>?_
    have hst:stars w (U F) (es.map fun x=>RS.hp (ZuU κ T sz R x)) (F n):=h.r n _ hn
    obtain ⟨f1,g1,g2⟩:=ZiA hst _ (YB.2 ⟨e,he,rfl⟩)
    refine Zhv (T:=T) (sz:=sz) w f1 (U F) _ g2 hle (fun b hb=>?_) (fun b hb=>h.wf.bd n b (g1 b hb))
    rintro ⟨i,hi⟩
    by_cases e2:i=n
    ·simp only [e2,Yx] at hi
    ·simp only [e2,Yt] at hi
     exact e2 (h.wf.dis i n b hi (g1 b hb))
   ·obtain ⟨e',g1,rfl⟩:=YB.1 he
    exact h3.1.2 e' g1
   ·obtain ⟨e',g1,rfl⟩:=YB.1 he
    exact h3.2 e' g1
  ·rename_i hmi
   rw [Zf] at hr
   split at hr
   ·rename_i e
    simp only [YX] at hr;subst hr;subst e
    simp only [Yx]
    intro b hb
    exact hb
   ·rename_i hni
    simp only [show i≠n from fun e=>hni e.symm,Yt]
    exact RS.mono hev (fun _ _=>rfl) (fun _ _=>rfl) (h.r i r hr)
 ·by_cases e1:i=n
  ·simp only [e1,Yx] at hi
  ·simp only [e1,Yt] at hi
   obtain ⟨r,hr⟩:=h.em i b hi
   rw [Zf]
   split
   ·exact ⟨_,rfl⟩
   ·rw [Zf]
    split
    ·exact ⟨_,rfl⟩
    ·exact ⟨r,hr⟩
end
end Go.Gm
namespace Go.Gm
set_option linter.unusedVariables false
set_option linter.unusedSimpArgs false
section
variable {P:Program}
variable {d:Option Nat} {ty:TypeId} {pos:String} {af:Array Edge} {g:Option (Nat×Bool)}
variable {x y:Operand} {ps qs:List (Nat×SF)} {t t':TypeId} {cs ds:List CF} {r:Bool} {ks:List Bool}
end
end Go.Gm
