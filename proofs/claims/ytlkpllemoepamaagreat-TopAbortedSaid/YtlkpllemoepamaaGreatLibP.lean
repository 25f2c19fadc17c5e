/- Walks: maps. No condition. -/
import Derived.Test.YtlkpllemoepamaaGreatLibX
import Derived.MapKept
import Derived.WideKeyRuns
namespace Go.Gm
set_option linter.unusedVariables false
set_option linter.unusedSimpArgs false
set_option linter.unusedSectionVars false
structure Zcs (κ:Type) where
 key:κ
 val:Int
 born:Nat
section
variable {κ:Type} [DecidableEq κ] {vk:IntKind}
def mIdx (k:κ):List (Zcs κ)→Option Nat
 | []=>none
 | e :: es=>if k=e.key then some 0 else (mIdx k es).map (· + 1)
def Zel (k:κ):List (Zcs κ)→Int
 | []=>0
 | e :: es=>if k=e.key then e.val else Zel k es
def ZmH (k:κ):List (Zcs κ)→Option Nat
 | []=>none
 | e :: es=>if k=e.key then some e.born else ZmH k es
def mSet (k:κ) (v:Int):List (Zcs κ)→List (Zcs κ)
 | []=>[]
 | e :: es=>if k=e.key then { e with val:=v } :: es else e :: mSet k v es
def mEnc (vk:IntKind) (kv:κ→Value) (e:Zcs κ):MapEntry:={ key:=kv e.key,val:=.int vk e.val,born:=e.born }
structure Zsn (P:Program) (kt:TypeId) (ok:κ→Prop) (kv:κ→Value):Prop where
 check:∀ b k w,ok k→(Instr.checkKey b 10000 kt (kv k)).run P w = .ok () w
 find:∀ (vk:IntKind) (es:List (Zcs κ)) k w,ok k→(∀ e ∈ es,ok e.key)→(Instr.findKey kt (kv k) (es.map (mEnc vk kv))).run P w = .ok ((mIdx k es).map fun i=>(i,.int vk (Zel k es))) w
 same:∀ k,Instr.sameBits 10000 (kv k) (kv k)=true
theorem ZlU {k:κ} : ∀ {es:List (Zcs κ)} {i:Nat},mIdx k es=some i → ∃ e,es[i]? = some e∧e.key=k∧e.val=Zel k es∧ZmH k es=some e.born
 | [],i,h=>by cases h
 | e :: es,i,h=>by
  unfold mIdx at h
  split at h
  ·rename_i hk
   cases h
   exact ⟨e,rfl,hk.symm,by simp [Zel,hk],by simp [ZmH,hk]⟩
  ·rename_i hk
   obtain ⟨j,hj,rfl⟩:=Y5.1 h
   obtain ⟨e',h1,h2,h3,h4⟩:=ZlU hj
   exact ⟨e',by simpa using h1,h2,by simp [Zel,hk,h3],by simp [ZmH,hk,h4]⟩
theorem ZjQ {k:κ} : ∀ {es:List (Zcs κ)},mIdx k es=none→Zel k es=0∧ZmH k es=none
 | [],_=>⟨rfl,rfl⟩
 | e :: es,h=>by
  unfold mIdx at h
  split at h
  ·cases h
  ·rename_i hk
   have:=ZjQ (Ybq.1 h)
   exact ⟨by simp [Zel,hk,this.1],by simp [ZmH,hk,this.2]⟩
theorem ZfY {k:κ} {v:Int} {kv:κ→Value} : ∀ {es:List (Zcs κ)} {i:Nat},mIdx k es=some i→((es.map (mEnc vk kv)).modify i fun e=>{ e with key:=kv k,val:=.int vk v })=(mSet k v es).map (mEnc vk kv)
 | [],i,h=>by cases h
 | e :: es,i,h=>by
  unfold mIdx at h
  split at h
  ·rename_i hk
   cases h
   simp [mSet,hk,mEnc]
  ·rename_i hk
   obtain ⟨j,hj,rfl⟩:=Y5.1 h
   have:=ZfY (v:=v) (kv:=kv) hj
   simp [mSet,hk,this]
theorem ZrZ {k k':κ} {v:Int} : ∀ {es:List (Zcs κ)},Zel k' (mSet k v es)=if k' = k∧(mIdx k es).isSome then v else Zel k' es
 | []=>by simp [mSet,Zel,mIdx]
 | e :: es=>by
  unfold mSet mIdx
  by_cases hk:k=e.key
  ·subst hk
   by_cases h2:k' = e.key
   ·simp [Zel,h2]
   ·simp [Zel,h2]
  ·have ih:=ZrZ (k:=k) (k':=k') (v:=v) (es:=es)
   by_cases h2:k' = e.key
   ·have h3:¬ k' = k:=fun h=>hk (h.symm.trans h2)
    simp [Zel,h2,hk]
    intro h4
    exact absurd (h4.symm) (by simpa [h2] using hk)
   ·simp [Zel,h2,hk,ih]
def MWf (es:List (Zcs κ)) (clock:Nat):Prop:=(es.map (·.born)).Nodup ∧ ∀ e ∈ es,e.born<clock
def ZhV (ok:κ→Prop) (es:List (Zcs κ)):Prop:=∀ e ∈ es,ok e.key
theorem ZhV.set {ok:κ→Prop} {k:κ} {v:Int} : ∀ {es:List (Zcs κ)},ZhV ok es→ZhV ok (mSet k v es)
 | [],h=>h
 | e :: es,h=>by
  unfold mSet
  split
  ·intro x hx
   rcases Yj.1 hx with rfl | hx
   ·exact h e (by simp)
   ·exact h x (YC _ hx)
  ·intro x hx
   rcases Yj.1 hx with rfl | hx
   ·exact h _ (by simp)
   ·exact ZhV.set (es:=es) (fun z hz=>h z (YC _ hz)) x hx
theorem ZhV.push {ok:κ→Prop} {k:κ} {es:List (Zcs κ)} (h:ZhV ok es) (hk:ok k) (v:Int) (n:Nat):ZhV ok (es ++ [⟨k,v,n⟩]):=by
 intro e he
 rcases YB.1 he with he | he
 ·exact h e he
 ·simp at he;subst he;exact hk
theorem ZfC {k:κ} {v:Int} : ∀ es:List (Zcs κ),(mSet k v es).map (·.born)=es.map (·.born)
 | []=>rfl
 | e :: es=>by
  unfold mSet
  split
  ·rfl
  ·simp [ZfC es]
theorem MWf.set {k:κ} {v:Int} {es:List (Zcs κ)} {clock:Nat} (h:MWf es clock):MWf (mSet k v es) clock:=by
 refine ⟨by rw [ZfC];exact h.1,fun e he=>?_⟩
 have:e.born ∈ (mSet k v es).map (·.born):=Yu.2 ⟨e,he,rfl⟩
 rw [ZfC] at this
 obtain ⟨e',h1,h2⟩:=Yu.1 this
 rw [← h2];exact h.2 e' h1
theorem MWf.push {es:List (Zcs κ)} {clock:Nat} (h:MWf es clock) (k:κ) (v:Int):MWf (es ++ [⟨k,v,clock⟩]) (clock+1):=by
 refine ⟨?_,fun e he=>?_⟩
 ·rw [YR,YbD]
  refine ⟨h.1,by simp,?_⟩
  intro a ha b hb
  obtain ⟨e,h1,rfl⟩:=Yu.1 ha
  simp at hb
  have:=h.2 e h1
  omega
 ·rcases YB.1 he with he | he
  ·exact Nat.lt_succ_of_lt (h.2 e he)
  ·simp at he;subst he;exact Nat.lt_succ_self _
theorem ZrK (k:IntKind):inR k 0:=by cases k <;> simp [inR,IntKind.min,IntKind.max,IntKind.signed,IntKind.bits]
def Zn5 (vk:IntKind) (ok:κ→Prop) (kv:κ→Value) (es:List (Zcs κ)) (clock:Nat) (v:Value):HP:=
 ⟨fun w f y=>∃ b,v = .map (some b)∧w.heap[b]? = some (.map (es.map (mEnc vk kv)).toArray clock)∧((∀ e ∈ es,inR vk e.val)∧MWf es clock∧ZhV ok es) ∧ ∀ x,f x ↔ x=b,
  fun {w f y w' y'} h hf ⟨b,e,hb,hr,hx⟩=>⟨b,e,by rw [hf b ((hx b).2 rfl)];exact hb,hr,hx⟩⟩
theorem Zhm {k:κ} : ∀ {es:List (Zcs κ)},(∀ e ∈ es,inR vk e.val)→inR vk (Zel k es)
 | [],_=>by simp only [Zel];exact ZrK vk
 | e :: es,h=>by
  unfold Zel
  split
  ·exact h e (by simp)
  ·exact Zhm fun x hx=>h x (YC _ hx)
theorem Zg4 {k:κ} {v:Int} (hv:inR vk v):∀ {es:List (Zcs κ)},(∀ e ∈ es,inR vk e.val) → ∀ e ∈ mSet k v es,inR vk e.val
 | [],_,e,he=>by cases he
 | x :: es,h,e,he=>by
  unfold mSet at he
  split at he
  ·rcases Yj.1 he with rfl | he
   ·exact hv
   ·exact h e (YC _ he)
  ·rcases Yj.1 he with rfl | he
   ·exact h _ (by simp)
   ·exact Zg4 hv (fun z hz=>h z (YC _ hz)) e he
def mPut (k:κ) (v:Int) (s:List (Zcs κ)×Nat):List (Zcs κ)×Nat:=if (mIdx k s.1).isSome then (mSet k v s.1,s.2) else (s.1 ++ [⟨k,v,s.2⟩],s.2+1)
theorem ZmS {k:κ} {v:Int} (hv:inR vk v) {s:List (Zcs κ)×Nat} (h:∀ e ∈ s.1,inR vk e.val):∀ e ∈ (mPut k v s).1,inR vk e.val:=by
 unfold mPut
 split
 ·exact Zg4 hv h
 ·intro e he
  rcases YB.1 he with he | he
  ·exact h e he
  ·simp at he;subst he;exact hv
end
section
variable {P:Program} {d:Option Nat} {t ty:TypeId} {pos:String} {af:Array Edge} {g:Option (Nat×Bool)} {x y z:Operand} {ps qs rs:List (Nat×SF)} {κ:Type} [DecidableEq κ] {ok:κ→Prop} {kv:κ→Value} {kt et:TypeId} {vk:IntKind}
def ZM (ok:κ→Prop) (kv:κ→Value) (x:Operand) (ps:List (Nat×SF)) (k:κ):Prop:=∀ (a:Act) w yy,Hps ps (Act.tau a) w yy→a.eval x=kv k∧ok k
theorem ZoR {d':Nat} (m:Nat):OpC P ⟨some d',.makeMap t none,ty,pos,af,g⟩ ⟨[],[],.same d',[(m,.ob (.slot d') (Zn5 vk ok kv [] 0))]⟩:=fun a w F K Q hw hp hr ht=>by
 have hrun:(execOp a.eval ⟨some d',.makeMap t none,ty,pos,af,g⟩).run P w = .ok (.value (.map (some w.heap.size))) (w.alloc (.map #[] 0)):=by
  simp [execOp,Instr.makeMap,Ybg]
 obtain ⟨g1,g2⟩:=Zbi hw m (.map #[] 0)
 simp only [Oper.wp,hrun,Oper.upon]
 refine ht _ _ _ g1 g2 ⟨by simp [upd],rfl⟩ ?_
 intro q hq
 simp only [Yk] at hq
 subst hq
 exact ⟨w.heap.size,by simp [Anc.v,upd],by simpa using YaK w (.map #[] 0),⟨by simp,by simp [MWf],by simp [ZhV]⟩,fun b=>by simp⟩
theorem Zss (hz:(P.info? et).map (·.zero)=some (some (.int vk 0))) (w:World):(zeroValue et).run P w = .ok (.int vk 0) w:=by
 obtain ⟨i,h1,h2⟩:=Y5.1 hz
 simp [zeroValue,typeInfo,h1,h2]
theorem Zfk {w:World} {F:Fp} (hw:Wf F w) {b m:Nat} {o o':Obj} (hb:w.heap[b]? = some o) (hf:∀ x,F m x ↔ x=b) :
  Wf F { w with heap:=w.heap.setIfInBounds b o' } ∧ Stp [m] w F { w with heap:=w.heap.setIfInBounds b o' } F:=by
 obtain ⟨h1,h2⟩:=YbG (o':=o') hb
 refine ⟨⟨hw.dis,fun n x h=>by simpa using hw.bd n x h⟩,⟨rfl,rfl,rfl,by simp,fun x hx hn=>h2 x (fun e=>hn m (by simp) ((hf x).2 e)),fun _ _=>rfl,fun n hn x hx=>.inl ⟨n,hn,hx⟩⟩⟩
theorem ZkD {es:List (Zcs κ)} {clock:Nat} {an:Anc} {k:κ} {v:Int} (m:Nat) (hu:P.underlying t=some (.map kt et)) (hk:Zsn P kt ok kv) (hx:ZaS x ps an) (hy:ZM ok kv y qs k) (hv:Opd z rs (.pv (.int vk v))) :
  OpC P ⟨none,.mapUpdate t x y z,ty,pos,af,g⟩ ⟨ps++(qs++rs),[(m,.ob an (Zn5 vk ok kv es clock))],.pv .any,[(m,.ob an (Zn5 vk ok kv (mPut k v (es,clock)).1 (mPut k v (es,clock)).2))]⟩:=fun act w F K Q hw hp hr ht=>by
 obtain ⟨b,e1,hb,hrg,hf⟩:=hr (m,.ob an (Zn5 vk ok kv es clock)) (by simp)
 have ex:act.eval x = .map (some b):=by rw [← e1];exact hx act w _ hp.left
 obtain ⟨ey,hok⟩:=hy act w _ hp.right.left
 obtain ⟨ez,hvr⟩:=hv act w _ hp.right.right
 have h1:=hk.find vk es k w hok hrg.2.2
 have hrun:∃ o',(execOp act.eval ⟨none,.mapUpdate t x y z,ty,pos,af,g⟩).run P w = .ok .skip { w with heap:=w.heap.setIfInBounds b o' } ∧ o' = .map ((mPut k v (es,clock)).1.map (mEnc vk kv)).toArray (mPut k v (es,clock)).2:=by
  cases hi:mIdx k es with
  | some i=>
   rw [hi] at h1
   obtain ⟨e,g1,g2,g3,_⟩:=ZlU hi
   have hold:((((es.map (mEnc vk kv)).toArray[i]?).map (·.key)).getD (kv k))=kv k:=by simp [g1,mEnc,g2]
   refine ⟨_,?_,rfl⟩
   have hm:(mPut k v (es,clock))=(mSet k v es,clock):=by unfold mPut;simp [hi]
   rw [hm]
   have hmod:(es.map (mEnc vk kv)).toArray.modify i (fun e=>{ e with key:=kv k,val:=.int vk v })=((mSet k v es).map (mEnc vk kv)).toArray:=by
    rw [← ZfY (kv:=kv) (v:=v) hi]
    simp
   simp only [execOp,ex,ey,ez,Instr.mapUpdate,Yz,Ym hu,Yn,Yab hb,hk.check _ _ _ hok,h1,Yaz,hold,Instr.keyThatStays,hk.same,Yv,YG,YaM _ hb,hmod]
  | none=>
   rw [hi] at h1
   refine ⟨_,?_,rfl⟩
   have hm:(mPut k v (es,clock))=(es ++ [⟨k,v,clock⟩],clock+1):=by unfold mPut;simp [hi]
   rw [hm]
   simp only [execOp,ex,ey,ez,Instr.mapUpdate,Yz,Ym hu,Yn,Yab hb,hk.check _ _ _ hok,h1,YaJ,YG,YaM _ hb]
   simp [mEnc]
 obtain ⟨o',hrun,ho⟩:=hrun
 obtain ⟨g1,g2⟩:=Zfk (o':=o') hw hb hf
 simp only [Oper.wp,hrun,Oper.upon]
 refine ht _ _ F g1 g2 trivial ?_
 intro q hq
 simp only [Yk] at hq
 subst hq
 exact ⟨b,e1,by rw [(YbG (o':=o') hb).1,ho],⟨ZmS hvr (s:=(es,clock)) hrg.1,by
  unfold mPut
  split
  ·exact ⟨hrg.2.1.set,hrg.2.2.set⟩
  ·exact ⟨hrg.2.1.push k v,hrg.2.2.push hok v _⟩⟩,hf⟩
theorem ZpA {kt:TypeId} (hk:P.underlying kt=some (.int .i64)):Zsn P kt (fun _=>True) (fun n:Int=>Value.int .i64 n) where
 check:=fun b k w _=>Go.MapKept.run_checkKey hk (by simp [Go.MapKept.IsKey]) b 9999
 find:=fun vk es k w _ _=>by
  have key:∀ (es:List (Zcs Int)) (j:Nat),Instr.findNow (.int .i64) (.int .i64 k) (es.map (mEnc vk fun n:Int=>Value.int .i64 n)) j=some ((mIdx k es).map fun i=>(i+j,.int vk (Zel k es))):=by
   intro es
   induction es with
   | nil=>intro j;rfl
   | cons e es ih=>
    intro j
    rw [YW]
    unfold Instr.findNow
    by_cases h:k=e.key
    ·simp [mEnc,Instr.sameNow,h,mIdx,Zel]
    ·have hbq:(k == e.key)=false:=by simpa using h
     simp [mEnc,Instr.sameNow,h,hbq,mIdx,Zel,ih (j+1)]
     cases hm:mIdx k es with
     | none=>rfl
     | some i=>simp;omega
  exact Go.MapKept.run_findKey hk (by rw [key es 0];simp)
 same:=fun k=>by simp [Instr.sameBits]
def kvS {κ:Type} (enc:κ→List Int) (k:κ):Value:=.agg ((enc k).map fun n=>Value.int .i64 n).toArray
theorem Zc4 {w:World} (em:Bool) (n:Nat) {xs:Array Value} : ∀ {fs:List Field} {k:Nat} {l:List Int} {m:Nat},flatFs P fs k (List.replicate m true)=true→xs.toList.drop k=(l.map fun n=>Value.int .i64 n)→l.length=m →
    (forIn fs PUnit.unit fun f _ => if f.name ≠ "_" then (do let z ← part f.type xs f.offset; Instr.checkKey em (n + 1) f.type z; pure (ForInStep.yield PUnit.unit)) else pure (ForInStep.yield PUnit.unit) : Sem PUnit).run P w = .ok PUnit.unit w
  | [],k,l,m,_,_,_=>by simp
  | f :: fs,k,[],0,h,_,_=>by simp [flatFs] at h
  | f :: fs,k,x :: l,m+1,h,hx,hl=>by
    rw [List.replicate_succ] at h
    simp only [flatFs,Yt] at h
    obtain ⟨⟨⟨h1,h2⟩,h3⟩,h4⟩:=h
    have hk:f.offset=k:=YZ h2
    have hn : f.name ≠ "_" := by simpa using h1
    have hag:P.aggB f.type=some false:=by
      unfold Program.aggB
      cases hu:P.underlying f.type with
      | none=>rw [hu] at h3;cases h3
      | some u=>rw [hu] at h3;cases u <;> first | rfl | cases h3
    have hp:=ZbA (w:=w) (v:=.int .i64 x) (vs:=l.map fun n=>Value.int .i64 n) hk hag (by simpa using hx)
    have hc:(Instr.checkKey em (n+1) f.type (.int .i64 x)).run P w = .ok () w:=by
      cases hu:P.underlying f.type with
      | none=>rw [hu] at h3;cases h3
      | some u=>
        rw [hu] at h3
        rw [Instr.checkKey]
        cases u with
        | int kk=>simp [Ym hu]
        | bool=>cases h3
        | _=>cases h3
    have ih:=Zc4 (w:=w) em n (fs:=fs) (k:=k+1) (l:=l) (m:=m) h4 (Za7 (by simpa using hx)) (by simpa using hl)
    simp only [List.forIn_cons,Yz,hn,ne_eq,not_false_eq_true,Yv,Yn,hp,hc,YG]
    exact ih
theorem Zgj (l:List Int) (n:Nat):Instr.sameBits (n+1) (.agg (l.map fun n=>Value.int .i64 n).toArray) (.agg (l.map fun n=>Value.int .i64 n).toArray)=true:=by
 unfold Instr.sameBits
 simp
 intro a b h
 have key:∀ (l:List Int),(a,b) ∈ (l.map fun n=>Value.int .i64 n).zip (l.map fun n=>Value.int .i64 n) → ∃ x,a = .int .i64 x∧b = .int .i64 x:=by
  intro l
  induction l with
  | nil=>intro h;simp at h
  | cons x l ih=>
   intro h
   simp at h
   rcases h with ⟨rfl,rfl⟩ | h
   ·exact ⟨x,rfl,rfl⟩
   ·exact ih (by simpa using h)
 obtain ⟨x,rfl,rfl⟩:=key l (by simpa using h)
 cases n <;> simp [Instr.sameBits]
theorem Zk4:∀ (l m:List Int),l.length=m.length→ZfD (List.replicate l.length true) (l.map fun n=>CF.pv (.int .i64 n)) (m.map fun n=>CF.pv (.int .i64 n)) (decide (l=m))
 | [],[],_=>by simpa using ZfD.nil
 | x :: l,y :: m,h=>by
  have ih:=Zk4 l m (by simpa using h)
  have:=ZfD.int (k:=.i64) (a:=x) (b:=y) ih
  have e:(decide (x=y) && decide (l=m))=decide (x :: l=y :: m):=by rw [Yai];simp
  rw [e] at this
  simpa [List.replicate_succ] using this
theorem Zd8 {τ:Tau} {w:World} {y:Ys} : ∀ {l:List Int},(∀ x ∈ l,inR .i64 x)→CFs τ w y (l.map fun n=>CF.pv (.int .i64 n)) (l.map fun n=>Value.int .i64 n)
 | [],_=>trivial
 | x :: l,h=>⟨⟨rfl,rfl,h x (by simp)⟩,Zd8 fun z hz=>h z (YC _ hz)⟩
theorem ZmQ {kt:TypeId} {enc:κ→List Int} {n:Nat} (hl:∀ k,(enc k).length=n) (hi:∀ a b,enc a=enc b→a=b) (hf:P.flatS kt (List.replicate n true)=true):Zsn P kt (fun k=>∀ x ∈ enc k,inR .i64 x) (kvS enc) where
 check:=fun b k w _=>by
  obtain ⟨f1,f2,_,_⟩:=ZbP hf
  unfold kvS
  rw [show (10000:Nat)=9998+1+1 from rfl,Instr.checkKey]
  simp only [Yz,Ym f1,Yn]
  rw [← Array.forIn_toList]
  have hh:=Zc4 (P:=P) (w:=w) b 9998 (xs:=((enc k).map fun n=>Value.int .i64 n).toArray) (k:=0) (l:=enc k) (m:=n) f2 (by simp) (hl k)
  rw [hh]
  rfl
 find:=fun vk es k w hok hks=>by
  obtain ⟨f1,_,_,_⟩:=ZbP hf
  rw [run_findKey_eq (P:=P) (w:=w) (k:=kt) (by rw [f1]) (kvS enc k) (es.map (mEnc vk (kvS enc)))]
  have key:∀ (es:List (Zcs κ)) (j:Nat),(∀ e ∈ es,∀ x ∈ enc e.key,inR .i64 x)→(Instr.findAsking kt (kvS enc k) (es.map (mEnc vk (kvS enc))) j).run P w = .ok ((mIdx k es).map fun i=>(i+j,.int vk (Zel k es))) w:=by
   intro es
   induction es with
   | nil=>intro j _;simp [Instr.findAsking,mIdx]
   | cons e es ih=>
    intro j hes
    have hq:(Op.equal kt (kvS enc k) (kvS enc e.key)).run P w = .ok (decide (enc k=enc e.key)) w:=
     ZhK (a:={ tmps:=#[],defers:=[] }) (yy:=fun _=>False) hf (Zd8 hok) (Zd8 (hes e (by simp))) (by have:=Zk4 (enc k) (enc e.key) (by rw [hl,hl]);rwa [hl] at this)
    rw [YW]
    unfold Instr.findAsking
    have ih':=ih (j+1) fun z hz=>hes z (YC _ hz)
    by_cases h:k=e.key
    ·have he:enc k=enc e.key:=by rw [h]
     simp only [mEnc,Yz,hq,he,decide_true,Yn,Yv,YG]
     simp [mIdx,Zel,h]
    ·have he:¬ enc k=enc e.key:=fun h'=>h (hi _ _ h')
     simp only [mEnc,Yz,hq,YD he,Yn,Ybu,Yp]
     rw [show (es.map fun e=>mEnc vk (kvS enc) e)=es.map (mEnc vk (kvS enc)) from rfl] at *
     rw [ih']
     simp only [mIdx,Zel,Yc h]
     cases hm:mIdx k es with
     | none=>rfl
     | some i=>simp;omega
  have:=key es 0 hks
  simpa using this
 same:=fun k=>Zgj (enc k) 9999
theorem ZM.int {n:Int} {k:Int} (h:Opd x ps (.pv (.int .i64 n))) (e:n=k):ZM (fun _=>True) (fun n:Int=>Value.int .i64 n) x ps k:=fun a w yy hp=>by
 subst e
 exact ⟨(h a w yy hp).1,tv⟩
theorem Zld {w:World} {y:Ys} : ∀ {l:List Int} {vs:List Value},PVs (l.map fun n=>PV.int .i64 n) vs w y→vs=l.map (fun n=>Value.int .i64 n) ∧ ∀ x ∈ l,inR .i64 x
 | [],[],_=>⟨rfl,by simp⟩
 | [],_ :: _,h=>h.elim
 | _ :: _,[],h=>h.elim
 | n :: l,v :: vs,h=>by
  obtain ⟨h1,h2⟩:=Zld (l:=l) h.2
  have h3:v = .int .i64 n∧inR .i64 n:=h.1.2
  exact ⟨by rw [h3.1,h1];rfl,fun x hx=>by rcases Yj.1 hx with rfl | hx;exact h3.2;exact h2 x hx⟩
theorem ZM.agg {enc:κ→List Int} {k:κ} {l:List PV} (h:Opd x ps (.pv (.agg l))) (e:l=(enc k).map fun n=>PV.int .i64 n):ZM (fun k=>∀ x ∈ enc k,inR .i64 x) (kvS enc) x ps k:=fun a w yy hp=>by
 subst e
 obtain ⟨vs,e1,hv⟩:=h a w yy hp
 obtain ⟨h1,h2⟩:=Zld hv
 exact ⟨by rw [e1,h1];rfl,h2⟩
end
section
variable {κ:Type} [DecidableEq κ]
def Zff (k:κ):List (Zcs κ)→Option Int
 | []=>none
 | e :: es=>if k=e.key then some e.val else Zff k es
theorem ZlX (k:κ):∀ es:List (Zcs κ),Zel k es=(Zff k es).getD 0
 | []=>rfl
 | e :: es=>by
  unfold Zel Zff
  split
  ·rfl
  ·exact ZlX k es
theorem Ziy (k:κ):∀ es:List (Zcs κ),(mIdx k es).isSome=(Zff k es).isSome
 | []=>rfl
 | e :: es=>by
  unfold mIdx Zff
  split
  ·rfl
  ·rw [Option.isSome_map,Ziy k es]
theorem mGet_set {k k':κ} {v:Int} : ∀ {es:List (Zcs κ)},(mIdx k es).isSome=true→Zff k' (mSet k v es)=if k' = k then some v else Zff k' es
 | [],h=>by simp [mIdx] at h
 | e :: es,h=>by
  unfold mSet
  by_cases hk:k=e.key
  ·rw [Yf hk]
   unfold Zff
   subst hk
   by_cases h2:k' = e.key <;> simp [h2]
  ·rw [Yc hk]
   unfold Zff
   have ih:=mGet_set (k':=k') (v:=v) (es:=es) (by unfold mIdx at h;simpa [hk] using h)
   by_cases h2:k' = e.key
   ·have h3:¬ k' = k:=fun h=>hk (h.symm.trans h2)
    rw [Yf h2,Yf h2,Yc h3]
   ·rw [Yc h2,Yc h2,ih]
theorem mGet_push {k k':κ} {v:Int} {n:Nat} : ∀ {es:List (Zcs κ)},mIdx k es=none→Zff k' (es ++ [⟨k,v,n⟩])=if k' = k then some v else Zff k' es
 | [],_=>by simp [Zff]
 | e :: es,hn=>by
  unfold mIdx at hn
  split at hn
  ·cases hn
  ·rename_i hk
   have ih:=mGet_push (k':=k') (v:=v) (n:=n) (Ybq.1 hn)
   rw [Yaf,Zff,Zff,ih]
   by_cases h4:k' = e.key
   ·have:¬ k' = k:=fun h=>hk (h.symm.trans h4)
    rw [Yf h4,Yf h4,Yc this]
   ·rw [Yc h4,Yc h4]
theorem Zsa {k k':κ} {v:Int} {s:List (Zcs κ)×Nat} : Zff k' (mPut k v s).1=if k' = k then some v else Zff k' s.1:=by
 unfold mPut
 split
 ·rename_i h;exact mGet_set h
 ·rename_i h;exact mGet_push (by simpa using h)
end
section
variable {P:Program} {d:Option Nat} {t ty:TypeId} {pos:String} {af:Array Edge} {g:Option (Nat×Bool)} {x y z:Operand} {ps qs rs:List (Nat×SF)} {κ:Type} [DecidableEq κ] {ok:κ→Prop} {kv:κ→Value} {kt et:TypeId} {vk:IntKind}
theorem Znz {es:List (Zcs κ)} {clock:Nat} {an:Anc} {k:κ} (m:Nat) (hu:P.underlying t=some (.map kt et)) (hk:Zsn P kt ok kv) (hz:(P.info? et).map (·.zero)=some (some (.int vk 0))) (hx:ZaS x ps an) (hy:ZM ok kv y qs k) :
  OpC P ⟨d,.lookup t x y true,ty,pos,af,g⟩ ⟨ps++qs,[(m,.ob an (Zn5 vk ok kv es clock))],.pv (.tup [.int vk (Zel k es),.bool (Zff k es).isSome]),[]⟩:=
 OpC.read fun act w F hp hr=>by
  obtain ⟨b,e1,hb,hrg,hf⟩:=hr (m,.ob an (Zn5 vk ok kv es clock)) (by simp)
  have ex:act.eval x = .map (some b):=by rw [← e1];exact hx act w _ hp.left
  obtain ⟨ey,hok⟩:=hy act w _ hp.right
  refine ⟨.tuple #[.int vk (Zel k es),.bool (Zff k es).isSome],?_,fun _ _=>⟨[_,_],rfl,⟨rfl,Zhm hrg.1⟩,rfl,tv⟩⟩
  have h1:=hk.find vk es k w hok hrg.2.2
  rw [← Ziy]
  cases hi:mIdx k es with
  | some i=>
   rw [hi] at h1
   simp [execOp,ex,ey,Instr.lookup,Ym hu,Yab hb,hk.check _ _ _ hok,h1]
  | none=>
   rw [hi] at h1
   rw [(ZjQ hi).1]
   simp [execOp,ex,ey,Instr.lookup,Ym hu,Yab hb,hk.check _ _ _ hok,h1,Zss hz]
theorem Zf4 {es:List (Zcs κ)} {clock:Nat} {an:Anc} (m:Nat) (hu:P.underlying t=some (.map kt et)) (hx:ZaS x ps an) (hl:es.length≤9223372036854775807) :
  OpC P ⟨d,.call { callee:=.builtin .len,args:=#[x],argTypes:=#[t] },ty,pos,af,g⟩ ⟨ps,[(m,.ob an (Zn5 vk ok kv es clock))],.pv (.int .i64 es.length),[]⟩:=
 OpC.read fun act w F hp hr=>by
  obtain ⟨b,e1,hb,hrg,hf⟩:=hr (m,.ob an (Zn5 vk ok kv es clock)) (by simp)
  have ex:act.eval x = .map (some b):=by rw [← e1];exact hx act w _ hp
  refine ⟨.int .i64 es.length,?_,fun _ _=>⟨rfl,by simp [inR,IntKind.min,IntKind.max,IntKind.signed,IntKind.bits];omega⟩⟩
  simp [execOp,resolve,ex,invoke,builtin,Builtin.len_,Builtin.lenOf,Ym hu,Yab hb,goInt]
end
end Go.Gm
