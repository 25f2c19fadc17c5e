/- Walks: maps. No condition. -/
import Derived.Test.YtlkpllemoepamaaGreatLibX
import Derived.MapKept
import Derived.WideKeyRuns
namespace Go.Gm
set_option linter.unusedVariables false
set_option linter.unusedSimpArgs false
set_option linter.unusedSectionVars false
structure ZgJ (κ:Type) where
 key:κ
 val:Int
 born:Nat
section
variable {κ:Type} [DecidableEq κ] {vk:IntKind}
def mIdx (k:κ):List (ZgJ κ)→Option Nat
 | []=>none
 | e :: es=>if k=e.key then some 0 else (mIdx k es).map (· + 1)
def ZqL (k:κ):List (ZgJ κ)→Int
 | []=>0
 | e :: es=>if k=e.key then e.val else ZqL k es
def mSet (k:κ) (v:Int):List (ZgJ κ)→List (ZgJ κ)
 | []=>[]
 | e :: es=>if k=e.key then { e with val:=v } :: es else e :: mSet k v es
def ZrL (vk:IntKind) (kv:κ→Value) (e:ZgJ κ):MapEntry:={ key:=kv e.key,val:=.int vk e.val,born:=e.born }
structure ZtW (P:Program) (kt:TypeId) (ok:κ→Prop) (kv:κ→Value):Prop where
 check:∀ b k w,ok k→(Instr.checkKey b 10000 kt (kv k)).run P w = .ok () w
 find:∀ (vk:IntKind) (es:List (ZgJ κ)) k w,ok k→(∀ e ∈ es,ok e.key)→(Instr.findKey kt (kv k) (es.map (ZrL vk kv))).run P w = .ok ((mIdx k es).map fun i=>(i,.int vk (ZqL k es))) w
 same:∀ k,Instr.sameBits 10000 (kv k) (kv k)=true
def MWf (es:List (ZgJ κ)) (clock:Nat):Prop:=(es.map (·.born)).Nodup ∧ ∀ e ∈ es,e.born<clock
def Zpf (ok:κ→Prop) (es:List (ZgJ κ)):Prop:=∀ e ∈ es,ok e.key
theorem Zpf.set {ok:κ→Prop} {k:κ} {v:Int} : ∀ {es:List (ZgJ κ)},Zpf ok es→Zpf ok (mSet k v es)
 | [],h=>h
 | e :: es,h=>by
  unfold mSet
  split
  ·intro x hx
   rcases Yl.1 hx with rfl | hx
   ·exact h e (by simp)
   ·exact h x (YE _ hx)
  ·intro x hx
   rcases Yl.1 hx with rfl | hx
   ·exact h _ (by simp)
   ·exact Zpf.set (es:=es) (fun z hz=>h z (YE _ hz)) x hx
theorem Zfs {k:κ} {v:Int} : ∀ es:List (ZgJ κ),(mSet k v es).map (·.born)=es.map (·.born)
 | []=>rfl
 | e :: es=>by
  unfold mSet
  split
  ·rfl
  ·simp [Zfs es]
theorem MWf.set {k:κ} {v:Int} {es:List (ZgJ κ)} {clock:Nat} (h:MWf es clock):MWf (mSet k v es) clock:=by
 refine ⟨by rw [Zfs];exact h.1,fun e he=>?_⟩
 have:e.born ∈ (mSet k v es).map (·.born):=Yu.2 ⟨e,he,rfl⟩
 rw [Zfs] at this
 obtain ⟨e',h1,h2⟩:=Yu.1 this
 rw [← h2];exact h.2 e' h1
end
section
variable {P:Program} {d:Option Nat} {t ty:TypeId} {pos:String} {af:Array Edge} {g:Option (Nat×Bool)} {x y z:Operand} {ps qs rs:List (Nat×SF)} {κ:Type} [DecidableEq κ] {ok:κ→Prop} {kv:κ→Value} {kt et:TypeId} {vk:IntKind}
def ZI (ok:κ→Prop) (kv:κ→Value) (x:Operand) (ps:List (Nat×SF)) (k:κ):Prop:=∀ (a:Act) w yy,Hps ps (Act.tau a) w yy→a.eval x=kv k∧ok k
theorem Zg6 {w:World} {F:Fp} (hw:Wf F w) {b m:Nat} {o o':Obj} (hb:w.heap[b]? = some o) (hf:∀ x,F m x ↔ x=b) :
  Wf F { w with heap:=w.heap.setIfInBounds b o' } ∧ Stp [m] w F { w with heap:=w.heap.setIfInBounds b o' } F:=by
 obtain ⟨h1,h2⟩:=Go.MapKept.heap_set (o':=o') hb
 refine ⟨⟨hw.dis,fun n x h=>by simpa using hw.bd n x h⟩,⟨rfl,rfl,rfl,by simp,fun x hx hn=>h2 x (fun e=>hn m (by simp) ((hf x).2 e)),fun _ _=>rfl,fun n hn x hx=>.inl ⟨n,hn,hx⟩⟩⟩
def kvS {κ:Type} (enc:κ→List Int) (k:κ):Value:=.agg ((enc k).map fun n=>Value.int .i64 n).toArray
theorem ZcG {w:World} (em:Bool) (n:Nat) {xs:Array Value} : ∀ {fs:List Field} {k:Nat} {l:List Int} {m:Nat},flatFs P fs k (List.replicate m true)=true→xs.toList.drop k=(l.map fun n=>Value.int .i64 n)→l.length=m →
    (forIn fs PUnit.unit fun f _ => if f.name ≠ "_" then (do let z ← part f.type xs f.offset; Instr.checkKey em (n + 1) f.type z; pure (ForInStep.yield PUnit.unit)) else pure (ForInStep.yield PUnit.unit) : Sem PUnit).run P w = .ok PUnit.unit w
  | [],k,l,m,_,_,_=>by simp
  | f :: fs,k,[],0,h,_,_=>by simp [flatFs] at h
  | f :: fs,k,x :: l,m+1,h,hx,hl=>by
    rw [List.replicate_succ] at h
    simp only [flatFs,Yt] at h
    obtain ⟨⟨⟨h1,h2⟩,h3⟩,h4⟩:=h
    have hk:f.offset=k:=Y2 h2
    have hn : f.name ≠ "_" := by simpa using h1
    have hag:P.aggB f.type=some false:=by
      unfold Program.aggB
      cases hu:P.underlying f.type with
      | none=>rw [hu] at h3;cases h3
      | some u=>rw [hu] at h3;cases u <;> first | rfl | cases h3
    have hp:=Zbn (w:=w) (v:=.int .i64 x) (vs:=l.map fun n=>Value.int .i64 n) hk hag (by simpa using hx)
    have hc:(Instr.checkKey em (n+1) f.type (.int .i64 x)).run P w = .ok () w:=by
      cases hu:P.underlying f.type with
      | none=>rw [hu] at h3;cases h3
      | some u=>
        rw [hu] at h3
        rw [Instr.checkKey]
        cases u with
        | int kk=>simp [Yo hu]
        | bool=>cases h3
        | _=>cases h3
    have ih:=ZcG (w:=w) em n (fs:=fs) (k:=k+1) (l:=l) (m:=m) h4 (ZaU (by simpa using hx)) (by simpa using hl)
    simp only [List.forIn_cons,YB,hn,ne_eq,not_false_eq_true,Yq,Yn,hp,hc,YI]
    exact ih
theorem Zfa (l:List Int) (n:Nat):Instr.sameBits (n+1) (.agg (l.map fun n=>Value.int .i64 n).toArray) (.agg (l.map fun n=>Value.int .i64 n).toArray)=true:=by
 unfold Instr.sameBits
 simp
 intro a b h
 have key:∀ (l:List Int),(a,b) ∈ (l.map fun n=>Value.int .i64 n).zip (l.map fun n=>Value.int .i64 n) → ∃ x,a = .int .i64 x∧b = .int .i64 x:=by
  intro l
  induction l with
  | nil=>intro h;simp at h
  | cons x l ih=>
   intro h
   simp at h
   rcases h with ⟨rfl,rfl⟩ | h
   ·exact ⟨x,rfl,rfl⟩
   ·exact ih (by simpa using h)
 obtain ⟨x,rfl,rfl⟩:=key l (by simpa using h)
 cases n <;> simp [Instr.sameBits]
theorem Zjv:∀ (l m:List Int),l.length=m.length→ZeY (List.replicate l.length true) (l.map fun n=>CF.pv (.int .i64 n)) (m.map fun n=>CF.pv (.int .i64 n)) (decide (l=m))
 | [],[],_=>by simpa using ZeY.nil
 | x :: l,y :: m,h=>by
  have ih:=Zjv l m (by simpa using h)
  have:=ZeY.int (k:=.i64) (a:=x) (b:=y) ih
  have e:(decide (x=y) && decide (l=m))=decide (x :: l=y :: m):=by rw [Ya4];simp
  rw [e] at this
  simpa [List.replicate_succ] using this
theorem ZdE {τ:Tau} {w:World} {y:Ys} : ∀ {l:List Int},(∀ x ∈ l,inR .i64 x)→CFs τ w y (l.map fun n=>CF.pv (.int .i64 n)) (l.map fun n=>Value.int .i64 n)
 | [],_=>trivial
 | x :: l,h=>⟨⟨rfl,rfl,h x (by simp)⟩,ZdE fun z hz=>h z (YE _ hz)⟩
theorem ZlL {kt:TypeId} {enc:κ→List Int} {n:Nat} (hl:∀ k,(enc k).length=n) (hi:∀ a b,enc a=enc b→a=b) (hf:P.flatS kt (List.replicate n true)=true):ZtW P kt (fun k=>∀ x ∈ enc k,inR .i64 x) (kvS enc) where
 check:=fun b k w _=>by
  obtain ⟨f1,f2,_,_⟩:=ZbA hf
  unfold kvS
  rw [show (10000:Nat)=9998+1+1 from rfl,Instr.checkKey]
  simp only [YB,Yo f1,Yn]
  rw [← Array.forIn_toList]
  have hh:=ZcG (P:=P) (w:=w) b 9998 (xs:=((enc k).map fun n=>Value.int .i64 n).toArray) (k:=0) (l:=enc k) (m:=n) f2 (by simp) (hl k)
  rw [hh]
  rfl
 find:=fun vk es k w hok hks=>by
  obtain ⟨f1,_,_,_⟩:=ZbA hf
  rw [run_findKey_eq (P:=P) (w:=w) (k:=kt) (by rw [f1]) (kvS enc k) (es.map (ZrL vk (kvS enc)))]
  have key:∀ (es:List (ZgJ κ)) (j:Nat),(∀ e ∈ es,∀ x ∈ enc e.key,inR .i64 x)→(Instr.findAsking kt (kvS enc k) (es.map (ZrL vk (kvS enc))) j).run P w = .ok ((mIdx k es).map fun i=>(i+j,.int vk (ZqL k es))) w:=by
   intro es
   induction es with
   | nil=>intro j _;simp [Instr.findAsking,mIdx]
   | cons e es ih=>
    intro j hes
    have hq:(Op.equal kt (kvS enc k) (kvS enc e.key)).run P w = .ok (decide (enc k=enc e.key)) w:=
     ZgU (a:={ tmps:=#[],defers:=[] }) (yy:=fun _=>False) hf (ZdE hok) (ZdE (hes e (by simp))) (by have:=Zjv (enc k) (enc e.key) (by rw [hl,hl]);rwa [hl] at this)
    rw [YT]
    unfold Instr.findAsking
    have ih':=ih (j+1) fun z hz=>hes z (YE _ hz)
    by_cases h:k=e.key
    ·have he:enc k=enc e.key:=by rw [h]
     simp only [ZrL,YB,hq,he,decide_true,Yn,Yq,YI]
     simp [mIdx,ZqL,h]
    ·have he:¬ enc k=enc e.key:=fun h'=>h (hi _ _ h')
     simp only [ZrL,YB,hq,YF he,Yn,Ybj,Ym]
     rw [show (es.map fun e=>ZrL vk (kvS enc) e)=es.map (ZrL vk (kvS enc)) from rfl] at *
     rw [ih']
     simp only [mIdx,ZqL,Yb h]
     cases hm:mIdx k es with
     | none=>rfl
     | some i=>simp;omega
  have:=key es 0 hks
  simpa using this
 same:=fun k=>Zfa (enc k) 9999
theorem ZI.int {n:Int} {k:Int} (h:Opd x ps (.pv (.int .i64 n))) (e:n=k):ZI (fun _=>True) (fun n:Int=>Value.int .i64 n) x ps k:=fun a w yy hp=>by
 subst e
 exact ⟨(h a w yy hp).1,tv⟩
theorem Zk4 {w:World} {y:Ys} : ∀ {l:List Int} {vs:List Value},PVs (l.map fun n=>PV.int .i64 n) vs w y→vs=l.map (fun n=>Value.int .i64 n) ∧ ∀ x ∈ l,inR .i64 x
 | [],[],_=>⟨rfl,by simp⟩
 | [],_ :: _,h=>h.elim
 | _ :: _,[],h=>h.elim
 | n :: l,v :: vs,h=>by
  obtain ⟨h1,h2⟩:=Zk4 (l:=l) h.2
  have h3:v = .int .i64 n∧inR .i64 n:=h.1.2
  exact ⟨by rw [h3.1,h1];rfl,fun x hx=>by rcases Yl.1 hx with rfl | hx;exact h3.2;exact h2 x hx⟩
theorem ZI.agg {enc:κ→List Int} {k:κ} {l:List PV} (h:Opd x ps (.pv (.agg l))) (e:l=(enc k).map fun n=>PV.int .i64 n):ZI (fun k=>∀ x ∈ enc k,inR .i64 x) (kvS enc) x ps k:=fun a w yy hp=>by
 subst e
 obtain ⟨vs,e1,hv⟩:=h a w yy hp
 obtain ⟨h1,h2⟩:=Zk4 hv
 exact ⟨by rw [e1,h1];rfl,h2⟩
end
section
variable {κ:Type} [DecidableEq κ]
def Zsu (k:κ):List (ZgJ κ)→Option Int
 | []=>none
 | e :: es=>if k=e.key then some e.val else Zsu k es
theorem ZkJ (k:κ):∀ es:List (ZgJ κ),ZqL k es=(Zsu k es).getD 0
 | []=>rfl
 | e :: es=>by
  unfold ZqL Zsu
  split
  ·rfl
  ·exact ZkJ k es
def MNd (es:List (ZgJ κ)):Prop:=(es.map (·.key)).Nodup
theorem Zim {k:κ} {v:Int} : ∀ es:List (ZgJ κ),(mSet k v es).map (·.key)=es.map (·.key)
 | []=>rfl
 | e :: es=>by
  unfold mSet
  split
  ·rfl
  ·simp [Zim es]
theorem MNd.set {k:κ} {v:Int} {es:List (ZgJ κ)} (h:MNd es):MNd (mSet k v es):=by unfold MNd;rw [Zim];exact h
end
section
variable {P:Program} {d:Option Nat} {t ty:TypeId} {pos:String} {af:Array Edge} {g:Option (Nat×Bool)} {x y z:Operand} {ps qs rs:List (Nat×SF)} {κ:Type} [DecidableEq κ] {ok:κ→Prop} {kv:κ→Value} {kt et:TypeId} {vk:IntKind}
end
end Go.Gm
