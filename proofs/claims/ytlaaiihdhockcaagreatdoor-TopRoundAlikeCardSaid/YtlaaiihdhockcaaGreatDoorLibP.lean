/- Walks: maps. No condition. -/
import Derived.Test.YtlaaiihdhockcaaGreatDoorLibX
import Derived.MapKept
import Derived.WideKeyRuns
namespace Go.Gm
set_option linter.unusedVariables false
set_option linter.unusedSimpArgs false
set_option linter.unusedSectionVars false
structure ZbI (κ:Type) where
 key:κ
 val:Int
 born:Nat
section
variable {κ:Type} [DecidableEq κ] {vk:IntKind}
def ZeE (k:κ):List (ZbI κ)→Option Nat
 | []=>none
 | e :: es=>if k=e.key then some 0 else (ZeE k es).map (· + 1)
def mVal (k:κ):List (ZbI κ)→Int
 | []=>0
 | e :: es=>if k=e.key then e.val else mVal k es
def Zjr (k:κ):List (ZbI κ)→Option Nat
 | []=>none
 | e :: es=>if k=e.key then some e.born else Zjr k es
def mSet (k:κ) (v:Int):List (ZbI κ)→List (ZbI κ)
 | []=>[]
 | e :: es=>if k=e.key then { e with val:=v } :: es else e :: mSet k v es
def mEnc (vk:IntKind) (kv:κ→Value) (e:ZbI κ):MapEntry:={ key:=kv e.key,val:=.int vk e.val,born:=e.born }
structure Zox (P:Program) (kt:TypeId) (ok:κ→Prop) (kv:κ→Value):Prop where
 check:∀ b k w,ok k→(Instr.checkKey b 10000 kt (kv k)).run P w = .ok () w
 find:∀ (vk:IntKind) (es:List (ZbI κ)) k w,ok k→(∀ e ∈ es,ok e.key)→(Instr.findKey kt (kv k) (es.map (mEnc vk kv))).run P w = .ok ((ZeE k es).map fun i=>(i,.int vk (mVal k es))) w
 same:∀ k,Instr.sameBits 10000 (kv k) (kv k)=true
theorem Zi2 {k:κ} : ∀ {es:List (ZbI κ)} {i:Nat},ZeE k es=some i → ∃ e,es[i]? = some e∧e.key=k∧e.val=mVal k es∧Zjr k es=some e.born
 | [],i,h=>by cases h
 | e :: es,i,h=>by
  unfold ZeE at h
  split at h
  ·rename_i hk
   cases h
   exact ⟨e,rfl,hk.symm,by simp [mVal,hk],by simp [Zjr,hk]⟩
  ·rename_i hk
   obtain ⟨j,hj,rfl⟩:=YY.1 h
   obtain ⟨e',h1,h2,h3,h4⟩:=Zi2 hj
   exact ⟨e',by simpa using h1,h2,by simp [mVal,hk,h3],by simp [Zjr,hk,h4]⟩
theorem ZgS {k:κ} : ∀ {es:List (ZbI κ)},ZeE k es=none→mVal k es=0∧Zjr k es=none
 | [],_=>⟨rfl,rfl⟩
 | e :: es,h=>by
  unfold ZeE at h
  split at h
  ·cases h
  ·rename_i hk
   have:=ZgS (Ya1.1 h)
   exact ⟨by simp [mVal,hk,this.1],by simp [Zjr,hk,this.2]⟩
theorem ZdN {k:κ} {v:Int} {kv:κ→Value} : ∀ {es:List (ZbI κ)} {i:Nat},ZeE k es=some i→((es.map (mEnc vk kv)).modify i fun e=>{ e with key:=kv k,val:=.int vk v })=(mSet k v es).map (mEnc vk kv)
 | [],i,h=>by cases h
 | e :: es,i,h=>by
  unfold ZeE at h
  split at h
  ·rename_i hk
   cases h
   simp [mSet,hk,mEnc]
  ·rename_i hk
   obtain ⟨j,hj,rfl⟩:=YY.1 h
   have:=ZdN (v:=v) (kv:=kv) hj
   simp [mSet,hk,this]
theorem ZiF {k k':κ} {v:Int} : ∀ {es:List (ZbI κ)},mVal k' (mSet k v es)=if k' = k∧(ZeE k es).isSome then v else mVal k' es
 | []=>by simp [mSet,mVal,ZeE]
 | e :: es=>by
  unfold mSet ZeE
  by_cases hk:k=e.key
  ·subst hk
   by_cases h2:k' = e.key
   ·simp [mVal,h2]
   ·simp [mVal,h2]
  ·have ih:=ZiF (k:=k) (k':=k') (v:=v) (es:=es)
   by_cases h2:k' = e.key
   ·have h3:¬ k' = k:=fun h=>hk (h.symm.trans h2)
    simp [mVal,h2,hk]
    intro h4
    exact absurd (h4.symm) (by simpa [h2] using hk)
   ·simp [mVal,h2,hk,ih]
def MWf (es:List (ZbI κ)) (clock:Nat):Prop:=(es.map (·.born)).Nodup ∧ ∀ e ∈ es,e.born<clock
def ZfG (ok:κ→Prop) (es:List (ZbI κ)):Prop:=∀ e ∈ es,ok e.key
theorem ZfG.set {ok:κ→Prop} {k:κ} {v:Int} : ∀ {es:List (ZbI κ)},ZfG ok es→ZfG ok (mSet k v es)
 | [],h=>h
 | e :: es,h=>by
  unfold mSet
  split
  ·intro x hx
   rcases Yh.1 hx with rfl | hx
   ·exact h e (by simp)
   ·exact h x (Yw _ hx)
  ·intro x hx
   rcases Yh.1 hx with rfl | hx
   ·exact h _ (by simp)
   ·exact ZfG.set (es:=es) (fun z hz=>h z (Yw _ hz)) x hx
theorem ZfG.push {ok:κ→Prop} {k:κ} {es:List (ZbI κ)} (h:ZfG ok es) (hk:ok k) (v:Int) (n:Nat):ZfG ok (es ++ [⟨k,v,n⟩]):=by
 intro e he
 rcases Yu.1 he with he | he
 ·exact h e he
 ·simp at he;subst he;exact hk
theorem Zd8 {k:κ} {v:Int} : ∀ es:List (ZbI κ),(mSet k v es).map (·.born)=es.map (·.born)
 | []=>rfl
 | e :: es=>by
  unfold mSet
  split
  ·rfl
  ·simp [Zd8 es]
theorem MWf.set {k:κ} {v:Int} {es:List (ZbI κ)} {clock:Nat} (h:MWf es clock):MWf (mSet k v es) clock:=by
 refine ⟨by rw [Zd8];exact h.1,fun e he=>?_⟩
 have:e.born ∈ (mSet k v es).map (·.born):=YD.2 ⟨e,he,rfl⟩
 rw [Zd8] at this
 obtain ⟨e',h1,h2⟩:=YD.1 this
 rw [← h2];exact h.2 e' h1
theorem MWf.push {es:List (ZbI κ)} {clock:Nat} (h:MWf es clock) (k:κ) (v:Int):MWf (es ++ [⟨k,v,clock⟩]) (clock+1):=by
 refine ⟨?_,fun e he=>?_⟩
 ·rw [Y7,List.nodup_append]
  refine ⟨h.1,by simp,?_⟩
  intro a ha b hb
  obtain ⟨e,h1,rfl⟩:=YD.1 ha
  simp at hb
  have:=h.2 e h1
  omega
 ·rcases Yu.1 he with he | he
  ·exact Nat.lt_succ_of_lt (h.2 e he)
  ·simp at he;subst he;exact Nat.lt_succ_self _
theorem ZmW (k:IntKind):inR k 0:=by cases k <;> simp [inR,IntKind.min,IntKind.max,IntKind.signed,IntKind.bits]
def ZnD (vk:IntKind) (ok:κ→Prop) (kv:κ→Value) (es:List (ZbI κ)) (clock:Nat) (v:Value):HP:=
 ⟨fun w f y=>∃ b,v = .map (some b)∧w.heap[b]? = some (.map (es.map (mEnc vk kv)).toArray clock)∧((∀ e ∈ es,inR vk e.val)∧MWf es clock∧ZfG ok es) ∧ ∀ x,f x ↔ x=b,
  fun {w f y w' y'} h hf ⟨b,e,hb,hr,hx⟩=>⟨b,e,by rw [hf b ((hx b).2 rfl)];exact hb,hr,hx⟩⟩
theorem ZeV {k:κ} : ∀ {es:List (ZbI κ)},(∀ e ∈ es,inR vk e.val)→inR vk (mVal k es)
 | [],_=>by simp only [mVal];exact ZmW vk
 | e :: es,h=>by
  unfold mVal
  split
  ·exact h e (by simp)
  ·exact ZeV fun x hx=>h x (Yw _ hx)
theorem ZeM {k:κ} {v:Int} (hv:inR vk v):∀ {es:List (ZbI κ)},(∀ e ∈ es,inR vk e.val) → ∀ e ∈ mSet k v es,inR vk e.val
 | [],_,e,he=>by cases he
 | x :: es,h,e,he=>by
  unfold mSet at he
  split at he
  ·rcases Yh.1 he with rfl | he
   ·exact hv
   ·exact h e (Yw _ he)
  ·rcases Yh.1 he with rfl | he
   ·exact h _ (by simp)
   ·exact ZeM hv (fun z hz=>h z (Yw _ hz)) e he
def mPut (k:κ) (v:Int) (s:List (ZbI κ)×Nat):List (ZbI κ)×Nat:=if (ZeE k s.1).isSome then (mSet k v s.1,s.2) else (s.1 ++ [⟨k,v,s.2⟩],s.2+1)
theorem ZmD {k k':κ} {v:Int} {s:List (ZbI κ)×Nat} : mVal k' (mPut k v s).1=if k' = k then v else mVal k' s.1:=by
 unfold mPut
 split
 ·rename_i h
  rw [ZiF]
  simp [h]
 ·rename_i h
  have hn:ZeE k s.1=none:=by simpa using h
  have key:∀ es:List (ZbI κ),ZeE k es=none→mVal k' (es ++ [⟨k,v,s.2⟩])=if k' = k then v else mVal k' es:=by
   intro es
   induction es with
   | nil=>intro _;simp [mVal]
   | cons e es ih=>
    intro hn
    unfold ZeE at hn
    split at hn
    ·cases hn
    ·rename_i hk
     have:=ih (Ya1.1 hn)
     rw [YaV,mVal,mVal,this]
     by_cases h2:k' = e.key
     ·have:¬ k' = k:=fun h=>hk (h.symm.trans h2)
      rw [Yf h2,Ye this,Yf h2]
     ·rw [Ye h2,Ye h2]
  exact key _ hn
theorem ZjA {k:κ} {v:Int} (hv:inR vk v) {s:List (ZbI κ)×Nat} (h:∀ e ∈ s.1,inR vk e.val):∀ e ∈ (mPut k v s).1,inR vk e.val:=by
 unfold mPut
 split
 ·exact ZeM hv h
 ·intro e he
  rcases Yu.1 he with he | he
  ·exact h e he
  ·simp at he;subst he;exact hv
end
section
variable {P:Program} {d:Option Nat} {t ty:TypeId} {pos:String} {af:Array Edge} {g:Option (Nat×Bool)} {x y z:Operand} {ps qs rs:List (Nat×SF)} {κ:Type} [DecidableEq κ] {ok:κ→Prop} {kv:κ→Value} {kt et:TypeId} {vk:IntKind}
def ZC (ok:κ→Prop) (kv:κ→Value) (x:Operand) (ps:List (Nat×SF)) (k:κ):Prop:=∀ (a:Act) w yy,Hps ps (Act.tau a) w yy→a.eval x=kv k∧ok k
theorem Zk2 {d':Nat} (m:Nat):OpC P ⟨some d',.makeMap t none,ty,pos,af,g⟩ ⟨[],[],.same d',[(m,.ob (.slot d') (ZnD vk ok kv [] 0))]⟩:=fun a w F K Q hw hp hr ht=>by
 have hrun:(execOp a.eval ⟨some d',.makeMap t none,ty,pos,af,g⟩).run P w = .ok (.value (.map (some w.heap.size))) (w.alloc (.map #[] 0)):=by
  simp [execOp,Instr.makeMap,YaX]
 obtain ⟨g1,g2⟩:=Zau hw m (.map #[] 0)
 simp only [Oper.wp,hrun,Oper.upon]
 refine ht _ _ _ g1 g2 ⟨by simp [upd],rfl⟩ ?_
 intro q hq
 simp only [Yd] at hq
 subst hq
 exact ⟨w.heap.size,by simp [Anc.v,upd],by simpa using Yan w (.map #[] 0),⟨by simp,by simp [MWf],by simp [ZfG]⟩,fun b=>by simp⟩
theorem ZmG (hz:(P.info? et).map (·.zero)=some (some (.int vk 0))) (w:World):(zeroValue et).run P w = .ok (.int vk 0) w:=by
 obtain ⟨i,h1,h2⟩:=YY.1 hz
 simp [zeroValue,typeInfo,h1,h2]
theorem Zh1 {es:List (ZbI κ)} {clock:Nat} {an:Anc} {k:κ} (m:Nat) (hu:P.underlying t=some (.map kt et)) (hk:Zox P kt ok kv) (hz:(P.info? et).map (·.zero)=some (some (.int vk 0))) (hx:Zat x ps an) (hy:ZC ok kv y qs k) :
  OpC P ⟨d,.lookup t x y false,ty,pos,af,g⟩ ⟨ps++qs,[(m,.ob an (ZnD vk ok kv es clock))],.pv (.int vk (mVal k es)),[]⟩:=
 OpC.read fun act w F hp hr=>by
  obtain ⟨b,e1,hb,hrg,hf⟩:=hr (m,.ob an (ZnD vk ok kv es clock)) (by simp)
  have ex:act.eval x = .map (some b):=by rw [← e1];exact hx act w _ hp.left
  obtain ⟨ey,hok⟩:=hy act w _ hp.right
  refine ⟨.int vk (mVal k es),?_,fun _ _=>⟨rfl,ZeV hrg.1⟩⟩
  have h1:=hk.find vk es k w hok hrg.2.2
  cases hi:ZeE k es with
  | some i=>
   rw [hi] at h1
   simp [execOp,ex,ey,Instr.lookup,Yi hu,YP hb,hk.check _ _ _ hok,h1]
  | none=>
   rw [hi] at h1
   rw [(ZgS hi).1]
   simp [execOp,ex,ey,Instr.lookup,Yi hu,YP hb,hk.check _ _ _ hok,h1,ZmG hz]
theorem Zci {w:World} {F:Fp} (hw:Wf F w) {b m:Nat} {o o':Obj} (hb:w.heap[b]? = some o) (hf:∀ x,F m x ↔ x=b) :
  Wf F { w with heap:=w.heap.setIfInBounds b o' } ∧ Stp [m] w F { w with heap:=w.heap.setIfInBounds b o' } F:=by
 obtain ⟨h1,h2⟩:=Ya0 (o':=o') hb
 refine ⟨⟨hw.dis,fun n x h=>by simpa using hw.bd n x h⟩,⟨rfl,rfl,rfl,by simp,fun x hx hn=>h2 x (fun e=>hn m (by simp) ((hf x).2 e)),fun _ _=>rfl,fun n hn x hx=>.inl ⟨n,hn,hx⟩⟩⟩
theorem Zhp {es:List (ZbI κ)} {clock:Nat} {an:Anc} {k:κ} {v:Int} (m:Nat) (hu:P.underlying t=some (.map kt et)) (hk:Zox P kt ok kv) (hx:Zat x ps an) (hy:ZC ok kv y qs k) (hv:Opd z rs (.pv (.int vk v))) :
  OpC P ⟨none,.mapUpdate t x y z,ty,pos,af,g⟩ ⟨ps++(qs++rs),[(m,.ob an (ZnD vk ok kv es clock))],.pv .any,[(m,.ob an (ZnD vk ok kv (mPut k v (es,clock)).1 (mPut k v (es,clock)).2))]⟩:=fun act w F K Q hw hp hr ht=>by
 obtain ⟨b,e1,hb,hrg,hf⟩:=hr (m,.ob an (ZnD vk ok kv es clock)) (by simp)
 have ex:act.eval x = .map (some b):=by rw [← e1];exact hx act w _ hp.left
 obtain ⟨ey,hok⟩:=hy act w _ hp.right.left
 obtain ⟨ez,hvr⟩:=hv act w _ hp.right.right
 have h1:=hk.find vk es k w hok hrg.2.2
 have hrun:∃ o',(execOp act.eval ⟨none,.mapUpdate t x y z,ty,pos,af,g⟩).run P w = .ok .skip { w with heap:=w.heap.setIfInBounds b o' } ∧ o' = .map ((mPut k v (es,clock)).1.map (mEnc vk kv)).toArray (mPut k v (es,clock)).2:=by
  cases hi:ZeE k es with
  | some i=>
   rw [hi] at h1
   obtain ⟨e,g1,g2,g3,_⟩:=Zi2 hi
   have hold:((((es.map (mEnc vk kv)).toArray[i]?).map (·.key)).getD (kv k))=kv k:=by simp [g1,mEnc,g2]
   refine ⟨_,?_,rfl⟩
   have hm:(mPut k v (es,clock))=(mSet k v es,clock):=by unfold mPut;simp [hi]
   rw [hm]
   have hmod:(es.map (mEnc vk kv)).toArray.modify i (fun e=>{ e with key:=kv k,val:=.int vk v })=((mSet k v es).map (mEnc vk kv)).toArray:=by
    rw [← ZdN (kv:=kv) (v:=v) hi]
    simp
   simp only [execOp,ex,ey,ez,Instr.mapUpdate,YE,Yi hu,Yt,YP hb,hk.check _ _ _ hok,h1,Yas,hold,Instr.keyThatStays,hk.same,Yo,YK,Yab _ hb,hmod]
  | none=>
   rw [hi] at h1
   refine ⟨_,?_,rfl⟩
   have hm:(mPut k v (es,clock))=(es ++ [⟨k,v,clock⟩],clock+1):=by unfold mPut;simp [hi]
   rw [hm]
   simp only [execOp,ex,ey,ez,Instr.mapUpdate,YE,Yi hu,Yt,YP hb,hk.check _ _ _ hok,h1,YaE,YK,Yab _ hb]
   simp [mEnc]
 obtain ⟨o',hrun,ho⟩:=hrun
 obtain ⟨g1,g2⟩:=Zci (o':=o') hw hb hf
 simp only [Oper.wp,hrun,Oper.upon]
 refine ht _ _ F g1 g2 trivial ?_
 intro q hq
 simp only [Yd] at hq
 subst hq
 exact ⟨b,e1,by rw [(Ya0 (o':=o') hb).1,ho],⟨ZjA hvr (s:=(es,clock)) hrg.1,by
  unfold mPut
  split
  ·exact ⟨hrg.2.1.set,hrg.2.2.set⟩
  ·exact ⟨hrg.2.1.push k v,hrg.2.2.push hok v _⟩⟩,hf⟩
theorem Zhr {kt:TypeId} (hk:P.underlying kt=some (.int .i64)):Zox P kt (fun _=>True) (fun n:Int=>Value.int .i64 n) where
 check:=fun b k w _=>Go.MapKept.run_checkKey hk (by simp [Go.MapKept.IsKey]) b 9999
 find:=fun vk es k w _ _=>by
  have key:∀ (es:List (ZbI Int)) (j:Nat),Instr.findNow (.int .i64) (.int .i64 k) (es.map (mEnc vk fun n:Int=>Value.int .i64 n)) j=some ((ZeE k es).map fun i=>(i+j,.int vk (mVal k es))):=by
   intro es
   induction es with
   | nil=>intro j;rfl
   | cons e es ih=>
    intro j
    rw [Y8]
    unfold Instr.findNow
    by_cases h:k=e.key
    ·simp [mEnc,Instr.sameNow,h,ZeE,mVal]
    ·have hbq:(k == e.key)=false:=by simpa using h
     simp [mEnc,Instr.sameNow,h,hbq,ZeE,mVal,ih (j+1)]
     cases hm:ZeE k es with
     | none=>rfl
     | some i=>simp;omega
  exact Go.MapKept.run_findKey hk (by rw [key es 0];simp)
 same:=fun k=>by simp [Instr.sameBits]
def kvS {κ:Type} (enc:κ→List Int) (k:κ):Value:=.agg ((enc k).map fun n=>Value.int .i64 n).toArray
theorem ZC.int {n:Int} {k:Int} (h:Opd x ps (.pv (.int .i64 n))) (e:n=k):ZC (fun _=>True) (fun n:Int=>Value.int .i64 n) x ps k:=fun a w yy hp=>by
 subst e
 exact ⟨(h a w yy hp).1,tv⟩
theorem Zi3 {w:World} {y:Ys} : ∀ {l:List Int} {vs:List Value},PVs (l.map fun n=>PV.int .i64 n) vs w y→vs=l.map (fun n=>Value.int .i64 n) ∧ ∀ x ∈ l,inR .i64 x
 | [],[],_=>⟨rfl,by simp⟩
 | [],_ :: _,h=>h.elim
 | _ :: _,[],h=>h.elim
 | n :: l,v :: vs,h=>by
  obtain ⟨h1,h2⟩:=Zi3 (l:=l) h.2
  have h3:v = .int .i64 n∧inR .i64 n:=h.1.2
  exact ⟨by rw [h3.1,h1];rfl,fun x hx=>by rcases Yh.1 hx with rfl | hx;exact h3.2;exact h2 x hx⟩
theorem ZC.agg {enc:κ→List Int} {k:κ} {l:List PV} (h:Opd x ps (.pv (.agg l))) (e:l=(enc k).map fun n=>PV.int .i64 n):ZC (fun k=>∀ x ∈ enc k,inR .i64 x) (kvS enc) x ps k:=fun a w yy hp=>by
 subst e
 obtain ⟨vs,e1,hv⟩:=h a w yy hp
 obtain ⟨h1,h2⟩:=Zi3 hv
 exact ⟨by rw [e1,h1];rfl,h2⟩
end
section
variable {κ:Type} [DecidableEq κ]
end
section
variable {P:Program} {d:Option Nat} {t ty:TypeId} {pos:String} {af:Array Edge} {g:Option (Nat×Bool)} {x y z:Operand} {ps qs rs:List (Nat×SF)} {κ:Type} [DecidableEq κ] {ok:κ→Prop} {kv:κ→Value} {kt et:TypeId} {vk:IntKind}
theorem ZgY {α β:Type} (f:α→β):∀ (l:List α) (i:Nat),(l.map f).eraseIdx i=(l.eraseIdx i).map f
 | [],_=>rfl
 | _ :: _,0=>rfl
 | a :: l,i+1=>by simp [ZgY f l i]
end
end Go.Gm
