/- Walks: maps. No condition. -/
import Derived.Test.YtcfgcpcakdknkaaGreatLibX
import Derived.MapKept
import Derived.WideKeyRuns
namespace Go.Gm
set_option linter.unusedVariables false
set_option linter.unusedSimpArgs false
set_option linter.unusedSectionVars false
structure MapE (κ:Type) where
 key:κ
 val:Int
 born:Nat
section
variable {κ:Type} [DecidableEq κ] {vk:IntKind}
def mIdx (k:κ):List (MapE κ)→Option Nat
 | []=>none
 | e :: es=>if k=e.key then some 0 else (mIdx k es).map (· + 1)
def mVal (k:κ):List (MapE κ)→Int
 | []=>0
 | e :: es=>if k=e.key then e.val else mVal k es
def mSet (k:κ) (v:Int):List (MapE κ)→List (MapE κ)
 | []=>[]
 | e :: es=>if k=e.key then { e with val:=v } :: es else e :: mSet k v es
def mEnc (vk:IntKind) (kv:κ→Value) (e:MapE κ):MapEntry:={ key:=kv e.key,val:=.int vk e.val,born:=e.born }
structure KeyOK (P:Program) (kt:TypeId) (ok:κ→Prop) (kv:κ→Value):Prop where
 check:∀ b k w,ok k→(Instr.checkKey b 10000 kt (kv k)).run P w = .ok () w
 find:∀ (vk:IntKind) (es:List (MapE κ)) k w,ok k→(∀ e ∈ es,ok e.key)→(Instr.findKey kt (kv k) (es.map (mEnc vk kv))).run P w = .ok ((mIdx k es).map fun i=>(i,.int vk (mVal k es))) w
 same:∀ k,Instr.sameBits 10000 (kv k) (kv k)=true
def MWf (es:List (MapE κ)) (clock:Nat):Prop:=(es.map (·.born)).Nodup ∧ ∀ e ∈ es,e.born<clock
def MKeys (ok:κ→Prop) (es:List (MapE κ)):Prop:=∀ e ∈ es,ok e.key
theorem MKeys.set {ok:κ→Prop} {k:κ} {v:Int} : ∀ {es:List (MapE κ)},MKeys ok es→MKeys ok (mSet k v es)
 | [],h=>h
 | e :: es,h=>by
   unfold mSet
   split
   · intro x hx
     rcases List.mem_cons.1 hx with rfl | hx
     · exact h e (by simp)
     · exact h x (List.mem_cons_of_mem _ hx)
   · intro x hx
     rcases List.mem_cons.1 hx with rfl | hx
     · exact h _ (by simp)
     · exact MKeys.set (es:=es) (fun z hz=>h z (List.mem_cons_of_mem _ hz)) x hx
theorem MKeys.push {ok:κ→Prop} {k:κ} {es:List (MapE κ)} (h:MKeys ok es) (hk:ok k) (v:Int) (n:Nat):MKeys ok (es ++ [⟨k,v,n⟩]):=by
 intro e he
 rcases List.mem_append.1 he with he | he
 · exact h e he
 · simp at he;subst he;exact hk
theorem mSet_born {k:κ} {v:Int} : ∀ es:List (MapE κ),(mSet k v es).map (·.born)=es.map (·.born)
 | []=>rfl
 | e :: es=>by
   unfold mSet
   split
   · rfl
   · simp [mSet_born es]
theorem MWf.set {k:κ} {v:Int} {es:List (MapE κ)} {clock:Nat} (h:MWf es clock):MWf (mSet k v es) clock:=by
 refine ⟨by rw [mSet_born];exact h.1,fun e he=>?_⟩
 have:e.born ∈ (mSet k v es).map (·.born):=List.mem_map.2 ⟨e,he,rfl⟩
 rw [mSet_born] at this
 obtain ⟨e',h1,h2⟩:=List.mem_map.1 this
 rw [← h2];exact h.2 e' h1
theorem MWf.push {es:List (MapE κ)} {clock:Nat} (h:MWf es clock) (k:κ) (v:Int):MWf (es ++ [⟨k,v,clock⟩]) (clock+1):=by
 refine ⟨?_,fun e he=>?_⟩
 · rw [List.map_append,List.nodup_append]
   refine ⟨h.1,by simp,?_⟩
   intro a ha b hb
   obtain ⟨e,h1,rfl⟩:=List.mem_map.1 ha
   simp at hb
   have:=h.2 e h1
   omega
 · rcases List.mem_append.1 he with he | he
   · exact Nat.lt_succ_of_lt (h.2 e he)
   · simp at he;subst he;exact Nat.lt_succ_self _
def mPut (k:κ) (v:Int) (s:List (MapE κ)×Nat):List (MapE κ)×Nat:=if (mIdx k s.1).isSome then (mSet k v s.1,s.2) else (s.1 ++ [⟨k,v,s.2⟩],s.2+1)
end
section
variable {P:Program} {d:Option Nat} {t ty:TypeId} {pos:String} {af:Array Edge} {g:Option (Nat×Bool)} {x y z:Operand} {ps qs rs:List (Nat×SF)} {κ:Type} [DecidableEq κ] {ok:κ→Prop} {kv:κ→Value} {kt et:TypeId} {vk:IntKind}
def IsKeyOf (ok:κ→Prop) (kv:κ→Value) (x:Operand) (ps:List (Nat×SF)) (k:κ):Prop:=∀ (a:Act) w yy,Hps ps (Act.tau a) w yy→a.eval x=kv k∧ok k
theorem map_step {w:World} {F:Fp} (hw:Wf F w) {b m:Nat} {o o':Obj} (hb:w.heap[b]? = some o) (hf:∀ x,F m x ↔ x=b) :
   Wf F { w with heap:=w.heap.setIfInBounds b o' } ∧ Stp [m] w F { w with heap:=w.heap.setIfInBounds b o' } F:=by
 obtain ⟨h1,h2⟩:=Go.MapKept.heap_set (o':=o') hb
 refine ⟨⟨hw.dis,fun n x h=>by simpa using hw.bd n x h⟩,⟨rfl,rfl,rfl,by simp,fun x hx hn=>h2 x (fun e=>hn m (by simp) ((hf x).2 e)),fun _ _=>rfl,fun n hn x hx=>.inl ⟨n,hn,hx⟩⟩⟩
def kvS {κ:Type} (enc:κ→List Int) (k:κ):Value:=.agg ((enc k).map fun n=>Value.int .i64 n).toArray
theorem flat_ints_check {w:World} (em:Bool) (n:Nat) {xs:Array Value} : ∀ {fs:List Field} {k:Nat} {l:List Int} {m:Nat},flatFs P fs k (List.replicate m true)=true→xs.toList.drop k=(l.map fun n=>Value.int .i64 n)→l.length=m →
    (forIn fs PUnit.unit fun f _ => if f.name ≠ "_" then (do let z ← part f.type xs f.offset; Instr.checkKey em (n + 1) f.type z; pure (ForInStep.yield PUnit.unit)) else pure (ForInStep.yield PUnit.unit) : Sem PUnit).run P w = .ok PUnit.unit w
  | [],k,l,m,_,_,_=>by simp
  | f :: fs,k,[],0,h,_,_=>by simp [flatFs] at h
  | f :: fs,k,x :: l,m+1,h,hx,hl=>by
    rw [List.replicate_succ] at h
    simp only [flatFs,Bool.and_eq_true] at h
    obtain ⟨⟨⟨h1,h2⟩,h3⟩,h4⟩:=h
    have hk:f.offset=k:=Nat.eq_of_beq_eq_true h2
    have hn : f.name ≠ "_" := by simpa using h1
    have hag:P.aggB f.type=some false:=by
      unfold Program.aggB
      cases hu:P.underlying f.type with
      | none=>rw [hu] at h3;cases h3
      | some u=>rw [hu] at h3;cases u <;> first | rfl | cases h3
    have hp:=part_run (w:=w) (v:=.int .i64 x) (vs:=l.map fun n=>Value.int .i64 n) hk hag (by simpa using hx)
    have hc:(Instr.checkKey em (n+1) f.type (.int .i64 x)).run P w = .ok () w:=by
      cases hu:P.underlying f.type with
      | none=>rw [hu] at h3;cases h3
      | some u=>
        rw [hu] at h3
        rw [Instr.checkKey]
        cases u with
        | int kk=>simp [run_underlying hu]
        | bool=>cases h3
        | _=>cases h3
    have ih:=flat_ints_check (w:=w) em n (fs:=fs) (k:=k+1) (l:=l) (m:=m) h4 (drop_next (by simpa using hx)) (by simpa using hl)
    simp only [List.forIn_cons,Sem.run_bind,hn,ne_eq,not_false_eq_true,if_true,Result.andThen_ok,hp,hc,Sem.run_pure]
    exact ih
theorem same_ints (l:List Int) (n:Nat):Instr.sameBits (n+1) (.agg (l.map fun n=>Value.int .i64 n).toArray) (.agg (l.map fun n=>Value.int .i64 n).toArray)=true:=by
 unfold Instr.sameBits
 simp
 intro a b h
 have key:∀ (l:List Int),(a,b) ∈ (l.map fun n=>Value.int .i64 n).zip (l.map fun n=>Value.int .i64 n) → ∃ x,a = .int .i64 x∧b = .int .i64 x:=by
   intro l
   induction l with
   | nil=>intro h;simp at h
   | cons x l ih=>
     intro h
     simp at h
     rcases h with ⟨rfl,rfl⟩ | h
     · exact ⟨x,rfl,rfl⟩
     · exact ih (by simpa using h)
 obtain ⟨x,rfl,rfl⟩:=key l (by simpa using h)
 cases n <;> simp [Instr.sameBits]
theorem eq_ints:∀ (l m:List Int),l.length=m.length→EqCs (List.replicate l.length true) (l.map fun n=>CF.pv (.int .i64 n)) (m.map fun n=>CF.pv (.int .i64 n)) (decide (l=m))
 | [],[],_=>by simpa using EqCs.nil
 | x :: l,y :: m,h=>by
   have ih:=eq_ints l m (by simpa using h)
   have:=EqCs.int (k:=.i64) (a:=x) (b:=y) ih
   have e:(decide (x=y) && decide (l=m))=decide (x :: l=y :: m):=by rw [Bool.eq_iff_iff];simp
   rw [e] at this
   simpa [List.replicate_succ] using this
theorem cfs_ints {τ:Tau} {w:World} {y:Ys} : ∀ {l:List Int},(∀ x ∈ l,inR .i64 x)→CFs τ w y (l.map fun n=>CF.pv (.int .i64 n)) (l.map fun n=>Value.int .i64 n)
 | [],_=>trivial
 | x :: l,h=>⟨⟨rfl,rfl,h x (by simp)⟩,cfs_ints fun z hz=>h z (List.mem_cons_of_mem _ hz)⟩
theorem key_struct {kt:TypeId} {enc:κ→List Int} {n:Nat} (hl:∀ k,(enc k).length=n) (hi:∀ a b,enc a=enc b→a=b) (hf:P.flatS kt (List.replicate n true)=true):KeyOK P kt (fun k=>∀ x ∈ enc k,inR .i64 x) (kvS enc) where
 check:=fun b k w _=>by
   obtain ⟨f1,f2,_,_⟩:=flat_open hf
   unfold kvS
   rw [show (10000:Nat)=9998+1+1 from rfl,Instr.checkKey]
   simp only [Sem.run_bind,run_underlying f1,Result.andThen_ok]
   rw [← Array.forIn_toList]
   have hh:=flat_ints_check (P:=P) (w:=w) b 9998 (xs:=((enc k).map fun n=>Value.int .i64 n).toArray) (k:=0) (l:=enc k) (m:=n) f2 (by simp) (hl k)
   rw [hh]
   rfl
 find:=fun vk es k w hok hks=>by
   obtain ⟨f1,_,_,_⟩:=flat_open hf
   rw [run_findKey_eq (P:=P) (w:=w) (k:=kt) (by rw [f1]) (kvS enc k) (es.map (mEnc vk (kvS enc)))]
   have key:∀ (es:List (MapE κ)) (j:Nat),(∀ e ∈ es,∀ x ∈ enc e.key,inR .i64 x)→(Instr.findAsking kt (kvS enc k) (es.map (mEnc vk (kvS enc))) j).run P w = .ok ((mIdx k es).map fun i=>(i+j,.int vk (mVal k es))) w:=by
     intro es
     induction es with
     | nil=>intro j _;simp [Instr.findAsking,mIdx]
     | cons e es ih=>
       intro j hes
       have hq:(Op.equal kt (kvS enc k) (kvS enc e.key)).run P w = .ok (decide (enc k=enc e.key)) w:=
         run_eqS (a:={ tmps:=#[],defers:=[] }) (yy:=fun _=>False) hf (cfs_ints hok) (cfs_ints (hes e (by simp))) (by have:=eq_ints (enc k) (enc e.key) (by rw [hl,hl]);rwa [hl] at this)
       rw [List.map_cons]
       unfold Instr.findAsking
       have ih':=ih (j+1) fun z hz=>hes z (List.mem_cons_of_mem _ hz)
       by_cases h:k=e.key
       · have he:enc k=enc e.key:=by rw [h]
         simp only [mEnc,Sem.run_bind,hq,he,decide_true,Result.andThen_ok,if_true,Sem.run_pure]
         simp [mIdx,mVal,h]
       · have he:¬ enc k=enc e.key:=fun h'=>h (hi _ _ h')
         simp only [mEnc,Sem.run_bind,hq,decide_eq_false he,Result.andThen_ok,Bool.false_eq_true,if_false]
         rw [show (es.map fun e=>mEnc vk (kvS enc) e)=es.map (mEnc vk (kvS enc)) from rfl] at *
         rw [ih']
         simp only [mIdx,mVal,if_neg h]
         cases hm:mIdx k es with
         | none=>rfl
         | some i=>simp;omega
   have:=key es 0 hks
   simpa using this
 same:=fun k=>same_ints (enc k) 9999
theorem IsKeyOf.int {n:Int} {k:Int} (h:Opd x ps (.pv (.int .i64 n))) (e:n=k):IsKeyOf (fun _=>True) (fun n:Int=>Value.int .i64 n) x ps k:=fun a w yy hp=>by
 subst e
 exact ⟨(h a w yy hp).1,trivial⟩
theorem pvs_ints {w:World} {y:Ys} : ∀ {l:List Int} {vs:List Value},PVs (l.map fun n=>PV.int .i64 n) vs w y→vs=l.map (fun n=>Value.int .i64 n) ∧ ∀ x ∈ l,inR .i64 x
 | [],[],_=>⟨rfl,by simp⟩
 | [],_ :: _,h=>h.elim
 | _ :: _,[],h=>h.elim
 | n :: l,v :: vs,h=>by
   obtain ⟨h1,h2⟩:=pvs_ints (l:=l) h.2
   have h3:v = .int .i64 n∧inR .i64 n:=h.1.2
   exact ⟨by rw [h3.1,h1];rfl,fun x hx=>by rcases List.mem_cons.1 hx with rfl | hx;exact h3.2;exact h2 x hx⟩
theorem IsKeyOf.agg {enc:κ→List Int} {k:κ} {l:List PV} (h:Opd x ps (.pv (.agg l))) (e:l=(enc k).map fun n=>PV.int .i64 n):IsKeyOf (fun k=>∀ x ∈ enc k,inR .i64 x) (kvS enc) x ps k:=fun a w yy hp=>by
 subst e
 obtain ⟨vs,e1,hv⟩:=h a w yy hp
 obtain ⟨h1,h2⟩:=pvs_ints hv
 exact ⟨by rw [e1,h1];rfl,h2⟩
end
section
variable {κ:Type} [DecidableEq κ]
def mGet (k:κ):List (MapE κ)→Option Int
 | []=>none
 | e :: es=>if k=e.key then some e.val else mGet k es
theorem mIdx_get (k:κ):∀ es:List (MapE κ),(mIdx k es).isSome=(mGet k es).isSome
 | []=>rfl
 | e :: es=>by
   unfold mIdx mGet
   split
   · rfl
   · rw [Option.isSome_map,mIdx_get k es]
def MNd (es:List (MapE κ)):Prop:=(es.map (·.key)).Nodup
theorem mGet_mem {k:κ} : ∀ {es:List (MapE κ)},(mGet k es).isSome=true ↔ k ∈ es.map (·.key)
 | []=>by simp [mGet]
 | e :: es=>by
   unfold mGet
   split
   · rename_i h;simp [h]
   · rename_i h
     rw [mGet_mem (es:=es)]
     simp [h]
theorem mSet_keys {k:κ} {v:Int} : ∀ es:List (MapE κ),(mSet k v es).map (·.key)=es.map (·.key)
 | []=>rfl
 | e :: es=>by
   unfold mSet
   split
   · rfl
   · simp [mSet_keys es]
theorem MNd.set {k:κ} {v:Int} {es:List (MapE κ)} (h:MNd es):MNd (mSet k v es):=by unfold MNd;rw [mSet_keys];exact h
theorem MNd.push {k:κ} {v:Int} {n:Nat} {es:List (MapE κ)} (h:MNd es) (hk:mIdx k es=none):MNd (es ++ [⟨k,v,n⟩]):=by
 unfold MNd at *
 rw [List.map_append,List.nodup_append]
 refine ⟨h,by simp,?_⟩
 intro a ha b hb
 simp at hb
 subst hb
 intro e
 subst e
 have:=(mGet_mem (k:=a) (es:=es)).2 ha
 rw [← mIdx_get,hk] at this
 cases this
theorem MNd.put {k:κ} {v:Int} {s:List (MapE κ)×Nat} (h:MNd s.1):MNd (mPut k v s).1:=by
 unfold mPut
 split
 · exact h.set
 · rename_i h';exact h.push (by simpa using h')
end
section
variable {P:Program} {d:Option Nat} {t ty:TypeId} {pos:String} {af:Array Edge} {g:Option (Nat×Bool)} {x y z:Operand} {ps qs rs:List (Nat×SF)} {κ:Type} [DecidableEq κ] {ok:κ→Prop} {kv:κ→Value} {kt et:TypeId} {vk:IntKind}
end
end Go.Gm
