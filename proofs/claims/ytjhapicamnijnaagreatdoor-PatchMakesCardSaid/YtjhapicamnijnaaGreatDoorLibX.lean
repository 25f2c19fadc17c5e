/- Walks: what is told of internal/bytealg;going over texts;arrays. No condition. -/
import Derived.Test.YtjhapicamnijnaaGreatDoorLibW
import Derived.Lib.Bytealg
import Derived.Lib.MakeNoZero
import Derived.Laws.RangeAny
namespace Go.Gm
set_option linter.unusedVariables false
set_option linter.unusedSimpArgs false
theorem ZaU (c:UInt8):∀ l:List UInt8,Lib.indexByte l c<l.length ∧ -1≤Lib.indexByte l c
 | []=>by simp [Lib.indexByte]
 | b :: l=>by
   have ih:=ZaU c l
   unfold Lib.indexByte
   rw [List.length_cons]
   split
   · omega
   · split
     · omega
     · omega
section
variable {P:Program} {d:Option Nat} {t ty:TypeId} {pos:String} {af:Array Edge} {g:Option (Nat×Bool)} {x y:Operand} {ps qs:List (Nat×SF)}
theorem ZjX {f : FuncId} {fn : Func} {tys : Array TypeId} {l : List UInt8} {c : Int} (hf : P.funcs[f]? = some fn) (hname : (fn.name == "runtime.NumGoroutine") = false) (hb : fn.body.isNone = true) (hn : Extern.findNext fn = none) (he : Extern.find fn = some Extern.BytealgIndexByte.indexByte) (hx : Opd x ps (.pv (.bs l))) (hy : Opd y qs (.pv (.int .u8 c))) :
   OpC P ⟨d,.call { callee:=.value (.func f),args:=#[x,y],argTypes:=tys },ty,pos,af,g⟩ ⟨ps++qs,[],.pv (.int .i64 (Lib.indexByte l (toB c))),[]⟩:=
 OpC.pure fun a w yy hp=>by
   have e1:=hx a w yy hp.left
   have e3:=(hy a w yy hp.right).1
   have hc:=run_callFunc_extern (P:=P) hf hname hb hn he #[.string ⟨l.toArray⟩,.int .u8 c] w
   have e2:a.eval (.func f) = .func (.func f) #[] #[]:=rfl
   rw [Lib.run_indexByteString] at hc
   refine ⟨.int .i64 (Lib.indexByte l (toB c)),?_,fun _ _=>⟨rfl,?_⟩⟩
   · simpa [execOp,resolve,e1.1,e3,e2,Deferred.ofValue,invoke,toB] using hc
   · have h1:=ZaU (toB c) l
     have h2:=e1.2
     rw [Zac] at h2
     unfold maxLen at h2
     simp [inR,IntKind.min,IntKind.max,IntKind.signed,IntKind.bits];omega
theorem ZjH {f : FuncId} {fn : Func} {tys : Array TypeId} {l : List UInt8} {c : Int} (hf : P.funcs[f]? = some fn) (hname : (fn.name == "runtime.NumGoroutine") = false) (hb : fn.body.isNone = true) (hn : Extern.findNext fn = none) (he : Extern.find fn = some Extern.BytealgCount.count) (hx : Opd x ps (.pv (.bs l))) (hy : Opd y qs (.pv (.int .u8 c))) :
   OpC P ⟨d,.call { callee:=.value (.func f),args:=#[x,y],argTypes:=tys },ty,pos,af,g⟩ ⟨ps++qs,[],.pv (.int .i64 ((l.count (toB c):Nat):Int)),[]⟩:=
 OpC.pure fun a w yy hp=>by
   have e1:=hx a w yy hp.left
   have e3:=(hy a w yy hp.right).1
   have hc:=run_callFunc_extern (P:=P) hf hname hb hn he #[.string ⟨l.toArray⟩,.int .u8 c] w
   have e2:a.eval (.func f) = .func (.func f) #[] #[]:=rfl
   rw [Lib.run_countString] at hc
   refine ⟨.int .i64 ((l.count (toB c):Nat):Int),?_,fun _ _=>⟨rfl,?_⟩⟩
   · simpa [execOp,resolve,e1.1,e3,e2,Deferred.ofValue,invoke,toB,Lib.countByte] using hc
   · have h1:=List.count_le_length (a:=toB c) (l:=l)
     have h2:=e1.2
     rw [Zac] at h2
     unfold maxLen at h2
     simp [inR,IntKind.min,IntKind.max,IntKind.signed,IntKind.bits];omega
def ZsT (_:Unit):List PV:=[.any]
theorem Zg0:∀ (n t:Nat) (acc:Array Value),(∀ v ∈ acc.toList,v.oneCell' = true) → ∀ v ∈ (Extern.BytealgMakeNoZero.digits n t acc).toList,v.oneCell' = true
 | 0,_,acc,h=>h
 | n+1,t,acc,h=>by
   rw [Extern.BytealgMakeNoZero.digits]
   refine Zg0 n _ _ fun v hv=>?_
   simp only [Array.toList_push,List.mem_append,List.mem_singleton] at hv
   rcases hv with hv | rfl
   · exact h v hv
   · rfl
theorem ZoA {w:World} {yy:Ys} : ∀ {vs:List Value},(∀ v ∈ vs,v.oneCell' = true)→PVs ((List.replicate vs.length ()).flatMap ZsT) vs w yy
 | [],_=>trivial
 | v :: vs,h=>by
   rw [List.length_cons,List.replicate_succ,List.flatMap_cons]
   exact ⟨⟨h v (by simp),trivial⟩,ZoA fun u hu=>h u (by simp [hu])⟩
theorem ZfG {w:World} (pp:Array TypeId) (t e:TypeId) (ht:P.underlying t=some (.slice e)) (n:Nat) (hn:n≤281474976710656) :
    ∃ cs:Array Value,(Extern.BytealgMakeNoZero.makeNoZero pp #[t] #[.int .i64 n]).run P w = .ok (.slice (some ⟨w.heap.size,0,none⟩) n cs.size) (w.drew.drew.alloc (.cells cs e))∧n≤cs.size∧cs.size≤maxLen ∧ ∀ v ∈ cs.toList,v.oneCell' = true:=by
  have hdef:Extern.BytealgMakeNoZero.makeNoZero pp #[t] #[.int .i64 n] =
      (do
        let .slice elem ← underlying t | stuck "bytealg.MakeNoZero: slice type expected"
        if (n : Int) < 0 || (n : Int) > 2 ^ 48 then runtimePanic (.error "makeslice: len out of range")
        let cap ← choose (.appendCap (n:Int).toNat 0 elem)
        askRoom cap
        let bytes ← choose (.extern "internal/bytealg.MakeNoZero.bytes" 0)
        let a ← newRow elem (Extern.BytealgMakeNoZero.digits cap bytes #[])
        pure (.slice (some a) (n:Int).toNat cap)):=rfl
  refine ⟨Extern.BytealgMakeNoZero.digits (grownCap w n 0 e) ((Question.extern "internal/bytealg.MakeNoZero.bytes" 0).cut (w.tape (w.drawn + 1) (.extern "internal/bytealg.MakeNoZero.bytes" 0))) #[], ?_, ?_, ?_, Zg0 _ _ _ (by simp)⟩
  · rw [hdef]
    have h1:¬ (n:Int)<0:=by omega
    have h2:¬ (281474976710656:Int)<(n:Int):=by omega
    simp [run_underlying ht,h1,h2,Question.forced,newRow,Lib.size_digits,grownCap]
  · rw [Lib.size_digits]
    simpa using grownCap_ge w n 0 e
  · rw [Lib.size_digits]
    simpa using grownCap_le_maxLen w n 0 e (by unfold maxLen;omega)
theorem Zjq {f : FuncId} {fn : Func} {tys pp : Array TypeId} {e d' : TypeId} {n : Int} (m : Nat) (hf : P.funcs[f]? = some fn) (hname : (fn.name == "runtime.NumGoroutine") = false) (hb : fn.body.isNone = true) (hn : Extern.findNext fn = none) (he : Extern.find fn = some (Extern.BytealgMakeNoZero.makeNoZero pp #[t])) (hu : P.underlying t = some (.slice e)) (hx : Opd x ps (.pv (.int .i64 n))) (h0 : 0 ≤ n) (h1 : n ≤ 281474976710656) :
   OpC P ⟨some d',.call { callee:=.value (.func f),args:=#[x],argTypes:=tys },ty,pos,af,g⟩ ⟨ps,[],.same d',[(m,.ob (.slot d') (Zu e 1 ZsT (List.replicate n.toNat ())))]⟩:=fun a w F K Q hw hp hr ht=>by
 have ex:=(hx a w (U F) hp).1
 obtain ⟨cs,hrun0,hc1,hc2,hc3⟩:=ZfG (P:=P) (w:=w) pp t e hu n.toNat (by omega)
 rw [show ((n.toNat:Nat):Int)=n by omega] at hrun0
 have hc:=run_callFunc_extern (P:=P) hf hname hb hn he #[.int .i64 n] w
 have e2:a.eval (.func f) = .func (.func f) #[] #[]:=rfl
 rw [hrun0] at hc
 have hrun:(execOp a.eval ⟨some d',.call { callee:=.value (.func f),args:=#[x],argTypes:=tys },ty,pos,af,g⟩).run P w = .ok (.value (.slice (some ⟨w.heap.size,0,none⟩) n.toNat cs.size)) (w.drew.drew.alloc (.cells cs e)):=by
   simpa [execOp,resolve,ex,e2,Deferred.ofValue,invoke] using hc
 have hwd:Wf F w.drew.drew:=⟨hw.dis,hw.bd⟩
 obtain ⟨g1,g2⟩:=ZaS hwd m (.cells cs e)
 have g3:Stp [m] w F (w.drew.drew.alloc (.cells cs e)) (fun k=>if k=m then fun b=>b=w.drew.drew.heap.size else F k):=⟨g2.os,g2.tape,g2.output,g2.size,g2.keep,g2.fkeep,g2.fnew⟩
 simp only [Oper.wp,hrun,Oper.upon]
 refine ht _ _ _ g1 g3 ⟨by simp [upd],rfl⟩ ?_
 intro q hq
 simp only [List.mem_singleton] at hq
 subst hq
 have hτ:upd (Act.tau a) (some d') (.slice (some ⟨w.heap.size,0,none⟩) n.toNat cs.size) d' = .slice (some ⟨w.heap.size,0,none⟩) n.toNat cs.size:=by simp [upd]
 have htl:(cs.toList.take n.toNat).length=n.toNat:=by rw [List.length_take];simp;omega
 refine ⟨cs.toList.take n.toNat,⟨by simp [htl],.inr ⟨w.heap.size,cs.size,cs,?_,Nat.zero_le _,heap_alloc_new w.drew.drew _,by simpa using hc1,hc2,by simp,?_⟩⟩,?_,fun b=>?_⟩
 · simp only [Anc.v,hτ,List.length_replicate]
 · simp
 · have:=ZoA (w:=w.drew.drew.alloc (.cells cs e)) (yy:=U (fun k=>if k=m then fun b=>b=w.drew.drew.heap.size else F k)) (vs:=cs.toList.take n.toNat) (fun v hv=>hc3 v (List.mem_of_mem_take hv))
   rw [htl] at this
   exact this
 · simp [Anc.v,hτ,Value.ownBlock,eq_comm]
theorem Zp4 {α β:Type} {T sz:Nat} {R:α→List PV} {R':β→List PV} {v:Value} (τ:Tau) (w:World) (f y:Ys) (h:(RS.ob (.val v) (Zu T sz R ([]:List α))).holds τ w f y):(RS.ob (.val v) (Zu T sz R' ([]:List β))).holds τ w f y:=by
 obtain ⟨xs,h1,h2,h3⟩:=h
 exact ⟨xs,h1,by match xs,h2 with
   | [],_=>trivial,h3⟩
theorem Zep {e:TypeId} (hu:P.underlying t=some (.slice e)) (hx:Opd x ps (.pv (.is (.slice none 0 0)))) :
   OpC P ⟨d,.call { callee:=.builtin .cap,args:=#[x],argTypes:=#[t] },ty,pos,af,g⟩ ⟨ps,[],.pv (.int .i64 0),[]⟩:=
 OpC.pure fun a w yy hp=>by
   have e1:=(hx a w yy hp).1
   refine ⟨.int .i64 0,?_,fun _ _=>⟨rfl,by simp [inR,IntKind.min,IntKind.max,IntKind.signed,IntKind.bits]⟩⟩
   simp [execOp,resolve,invoke,builtin,e1,Builtin.cap_,run_underlying hu,goInt]
theorem Zrh {α:Type} {R:α→List PV} {e sz T:TypeId} {a:Anc} {t2:TypeId} (n:Nat) (hu:P.underlying t=some (.slice e)) (hs:(P.info? e).map (·.size)=some sz) (hx:ZaA x ps a) (hy:Opd y qs (.pv (.is (.slice none 0 0)))) :
   OpC P ⟨d,.call { callee:=.builtin .copy,args:=#[x,y],argTypes:=#[t,t2] },ty,pos,af,g⟩ ⟨ps++qs,[(n,.ob a (Zu T sz R ([]:List α)))],.pv (.int .i64 0),[]⟩:=
 OpC.read fun act w F hp hr=>by
   obtain ⟨xs,h2,h3,h4⟩:=hr (n,.ob a (Zu T sz R ([]:List α))) (by simp)
   obtain ⟨ad,cap,e1,h5,h6,h7⟩:=ZH h2
   have ex:act.eval x = .slice ad 0 cap:=by rw [hx act w _ hp.left];exact e1
   have ey:=(hy act w _ hp.right).1
   refine ⟨.int .i64 0,?_,fun _ _=>⟨rfl,by simp [inR,IntKind.min,IntKind.max,IntKind.signed,IntKind.bits]⟩⟩
   cases ad with
   | none=>simp [execOp,resolve,invoke,builtin,ex,ey,Builtin.copy_,run_underlying hu,Builtin.lenOf,Builtin.firstCells,run_sizeOf hs,goInt]
   | some ad=>simp [execOp,resolve,invoke,builtin,ex,ey,Builtin.copy_,run_underlying hu,Builtin.lenOf,Builtin.firstCells,run_sizeOf hs,goInt,storeCells]
end
end Go.Gm
namespace Go.Gm
set_option linter.unusedVariables false
set_option linter.unusedSimpArgs false
def iterH (l:List UInt8) (at':Nat) (v:Value):HP:=⟨fun w f y=>∃ b,v = .pointer (some ⟨b,0,none⟩)∧w.heap[b]? = some (.stringIter ⟨l.toArray⟩ at') ∧ ∀ x,f x ↔ x=b,fun _ hf ⟨b,e,h1,h2⟩=>⟨b,e,(hf b ((h2 b).2 rfl)).trans h1,h2⟩⟩
def runeAt (l:List UInt8) (k:Nat):Nat:=(Utf8.decode ⟨l.toArray⟩ k).1
def nextPos (l:List UInt8) (k:Nat):Nat:=if k<l.length then k+(Utf8.decode ⟨l.toArray⟩ k).2 else k
def nextV (l:List UInt8) (k:Nat):Value:=if k<l.length then .tuple #[.bool true,.int .i64 k,.int .i32 (runeAt l k)] else .tuple #[.bool false]
def PV.eqv (v:Value):PV:=⟨fun u _ _=>u=v,fun _ h=>h⟩
theorem Zg3 {l:List UInt8} {k:Nat} (h:k<l.length) (ha:(nth l k).toNat<128):runeAt l k=(nth l k).toNat∧nextPos l k=k+1:=by
 have hs:k<(ByteArray.mk l.toArray).size:=by rw [Zac];exact h
 have e:(ByteArray.mk l.toArray)[k]'hs=nth l k:=by rw [Zp h];rfl
 have:=decode_ascii ⟨l.toArray⟩ k hs (by rw [e];exact ha)
 unfold runeAt nextPos
 rw [if_pos h,this,e]
 exact ⟨rfl,rfl⟩
theorem ZoH {l:List UInt8} {k:Nat} (h:k<l.length) (ha:128≤(nth l k).toNat):128≤runeAt l k:=by
 have hs:k<(ByteArray.mk l.toArray).size:=by rw [Zac];exact h
 have e:(ByteArray.mk l.toArray)[k]'hs=nth l k:=by rw [Zp h];rfl
 exact (decode_high ⟨l.toArray⟩ k hs (by rw [e];exact ha)).1
section
variable {P:Program} {d:Option Nat} {t ty:TypeId} {pos:String} {af:Array Edge} {g:Option (Nat×Bool)} {x y:Operand} {ps qs:List (Nat×SF)} {l:List UInt8} {k:Nat}
theorem Zko {d':Nat} (n:Nat) (hu:P.underlying t=some .string) (hx:Opd x ps (.pv (.bs l))) :
   OpC P ⟨some d',.range t x,ty,pos,af,g⟩ ⟨ps,[],.same d',[(n,.ob (.slot d') (iterH l 0))]⟩:=fun a w F K Q hw hps hr ht=>by
 have ex:=(hx a w (U F) hps).1
 have hrun:(execOp a.eval ⟨some d',.range t x,ty,pos,af,g⟩).run P w = .ok (.value (.pointer (some ⟨w.heap.size,0,none⟩))) (w.alloc (.stringIter ⟨l.toArray⟩ 0)):=by
   simp only [execOp,ex,Sem.run_bind,run_range_string w t ⟨l.toArray⟩ hu,Result.andThen_ok,Sem.run_pure]
   rfl
 obtain ⟨g1,g2⟩:=ZaS hw n (.stringIter ⟨l.toArray⟩ 0)
 simp only [Oper.wp,hrun,Oper.upon]
 refine ht _ _ _ g1 g2 ⟨by simp [upd],rfl⟩ ?_
 intro q hq
 simp only [List.mem_singleton] at hq
 subst hq
 exact ⟨w.heap.size,by simp [Anc.v,upd],heap_alloc_new w _,fun b=>by simp⟩
theorem Zmr {v:Value} (n:Nat) (hx:ZaA x ps (.val v)) :
   OpC P ⟨d,.next x true,ty,pos,af,g⟩ ⟨ps,[(n,.ob (.val v) (iterH l k))],.pv (.eqv (nextV l k)),[(n,.ob (.val v) (iterH l (nextPos l k)))]⟩:=fun a w F K Q hw hp hr ht=>by
 obtain ⟨b,e1,h1,h2⟩:=hr (n,.ob (.val v) (iterH l k)) (by simp)
 simp only [Anc.v] at e1
 have ex:a.eval x = .pointer (some ⟨b,0,none⟩):=by rw [hx a w _ hp];exact e1
 have hbF:F n b:=(h2 b).2 rfl
 have hbl:b<w.heap.size:=hw.bd n b hbF
 by_cases hk:k<l.length
 · have hrun:(execOp a.eval ⟨d,.next x true,ty,pos,af,g⟩).run P w = .ok (.value (nextV l k)) { w with heap:=w.heap.setIfInBounds b (.stringIter ⟨l.toArray⟩ (nextPos l k)) } := by
     have hs:k<(ByteArray.mk l.toArray).size:=by rw [Zac];exact hk
     simp only [execOp,ex,Instr.next,getObj,setObj,Sem.run_bind,Sem.run,h1,Result.andThen,hs,if_true,nextV,nextPos,runeAt,if_pos hk]
     simp [goInt,Sem.run,h1]
   have g1:Wf F { w with heap:=w.heap.setIfInBounds b (.stringIter ⟨l.toArray⟩ (nextPos l k)) } := ⟨hw.dis,fun i c hc=>by simpa using hw.bd i c hc⟩
   have g2:Stp [n] w F { w with heap:=w.heap.setIfInBounds b (.stringIter ⟨l.toArray⟩ (nextPos l k)) } F:=⟨rfl,rfl,rfl,by simp,fun c _ hc=>by
     have hne:b≠c:=fun e=>hc n (by simp) (by rw [← e];exact hbF)
     show (w.heap.setIfInBounds b _)[c]? = _
     rw [Array.getElem?_setIfInBounds_ne hne],fun _ _=>rfl,fun m hm c hc=>.inl ⟨m,hm,hc⟩⟩
   simp only [Oper.wp,hrun,Oper.upon]
   refine ht _ _ F g1 g2 rfl ?_
   intro q hq
   simp only [List.mem_singleton] at hq
   subst hq
   refine ⟨b,by simp only [Anc.v];exact e1,?_,h2⟩
   show (w.heap.setIfInBounds b _)[b]? = _
   simp [hbl]
 · have hnp:nextPos l k=k:=if_neg hk
   have hrun:(execOp a.eval ⟨d,.next x true,ty,pos,af,g⟩).run P w = .ok (.value (nextV l k)) w:=by
     have hs:¬ k<(ByteArray.mk l.toArray).size:=by rw [Zac];exact hk
     simp only [execOp,ex,Instr.next,getObj,setObj,Sem.run_bind,Sem.run,h1,Result.andThen,hs,if_false,nextV,if_neg hk]
     simp [Sem.run,h1]
   have g2:Stp [n] w F w F:=⟨rfl,rfl,rfl,Nat.le_refl _,fun _ _ _=>rfl,fun _ _=>rfl,fun m hm c hc=>.inl ⟨m,hm,hc⟩⟩
   simp only [Oper.wp,hrun,Oper.upon]
   refine ht _ _ F hw g2 rfl ?_
   intro q hq
   simp only [List.mem_singleton] at hq
   subst hq
   rw [hnp]
   exact ⟨b,by simp only [Anc.v];exact e1,h1,h2⟩
theorem ZsB (hx:Opd x ps (.pv (.eqv (nextV l k)))):OpC P ⟨d,.extract x 0,ty,pos,af,g⟩ ⟨ps,[],.pv (.bool (decide (k<l.length))),[]⟩:=
 OpC.pure fun a w yy hp=>by
   have e:a.eval x=nextV l k:=hx a w yy hp
   by_cases hk:k<l.length
   · exact ⟨.bool true,by simp [execOp,Instr.extract,e,nextV,if_pos hk],fun _ _=>by simp [hk];rfl⟩
   · exact ⟨.bool false,by simp [execOp,Instr.extract,e,nextV,if_neg hk],fun _ _=>by simp [hk];rfl⟩
theorem Zsi (hx:Opd x ps (.pv (.eqv (nextV l k)))) (hk:k<l.length):OpC P ⟨d,.extract x 2,ty,pos,af,g⟩ ⟨ps,[],.pv (.int .i32 (runeAt l k)),[]⟩:=
 OpC.pure fun a w yy hp=>by
   have e:a.eval x=nextV l k:=hx a w yy hp
   refine ⟨.int .i32 (runeAt l k),by simp [execOp,Instr.extract,e,nextV,if_pos hk],fun _ _=>⟨rfl,?_⟩⟩
   have:=decode_le ⟨l.toArray⟩ k
   unfold runeAt
   simp [inR,IntKind.min,IntKind.max,IntKind.signed,IntKind.bits];omega
end
end Go.Gm
namespace Go.Gm
set_option linter.unusedVariables false
set_option linter.unusedSimpArgs false
theorem ZlT {α:Type} (f:α→PV):∀ l:List α,l.flatMap (fun x=>[f x])=l.map f
 | []=>rfl
 | x :: l=>by rw [List.flatMap_cons,ZlT f l];rfl
section
variable {P:Program} {d:Option Nat} {t t' ty:TypeId} {pos:String} {af:Array Edge} {g:Option (Nat×Bool)} {x y:Operand} {ps qs:List (Nat×SF)} {k:IntKind} {i:Int} {T:TypeId} {α:Type} {f:α→PV} {l:List α} {u:Value}
theorem ZlP {T:TypeId} {f:α→PV} {l:List α} {an:Anc} (τ:Tau) (w:World) (fb y:Ys) (h:(RS.pt an T (l.map fun x=>CF.pv (f x))).holds τ w fb y):(RS.ob an (Ziu T f l)).holds τ w fb y:=by
 obtain ⟨b,vs,e,h1,h2,h3⟩:=Zcb h
 have:(RS.pt (.val (an.v τ)) T (l.map fun x=>CF.pv (f x))).holds tau0 w fb y:=by
   refine RS.closed (r:=RS.pt (.val (an.v τ)) T (l.map fun x=>CF.pv (f x))) (by simp [RS.deps,Anc.deps,ZcH]) (?_:RS.holds τ w fb y (RS.pt (.val (an.v τ)) T (l.map fun x=>CF.pv (f x))))
   exact h
 exact this
theorem ZlH {T:TypeId} {f:α→PV} {l:List α} {an:Anc} (τ:Tau) (w:World) (fb y:Ys) (h:(RS.ob an (Ziu T f l)).holds τ w fb y):(RS.pt an T (l.map fun x=>CF.pv (f x))).holds τ w fb y:=by
 have h2:(RS.ob (.val (an.v τ)) (Ziu T f l)).holds τ w fb y:=h
 exact ZdA τ w fb y h2
theorem ZkM {d' n:Nat} {zv:Value} {z:α} (m:Nat) (hz:P.zeros t=some (List.replicate n zv)) (hf:zCF zv=CF.pv (f z)) :
   OpC P ⟨some d',.alloc t,ty,pos,af,g⟩ ⟨[],[],.same d',[(m,.ob (.slot d') (Ziu t f (List.replicate n z)))]⟩:=fun a w F K Q hw hs hp ht=>
 Zn9 (P:=P) (d':=d') (ty:=ty) (pos:=pos) (af:=af) (g:=g) m hz a w F K Q hw hs hp (fun v w' F' h1 h2 h3 h4=>ht v w' F' h1 h2 h3 (fun q hq=>by
   simp only [List.mem_singleton] at hq
   subst hq
   have:=h4 (m,.pt (.slot d') t ((List.replicate n zv).map zCF)) (by simp)
   rw [List.map_replicate,hf] at this
   refine ZlP _ _ _ _ ?_
   rw [List.map_replicate]
   exact this))
theorem Zop (f:α→PV) (l:List α) (sz:Nat) (h:l.length=sz):ldSF true sz (l.map fun x=>CF.pv (f x)) 0 = .agg (l.map fun x=>CF.pv (f x)):=by
 simp [ldSF,← h,List.take_of_length_le]
theorem Zma {sz:Nat} {an:Anc} (n:Nat) (hx:Za7 x ps an 0) (ha:P.aggB t=some true) (hs:(P.info? t).map (·.size)=some sz) (hl:l.length=sz) :
   OpC P ⟨d,.load t x,ty,pos,af,g⟩ ⟨ps,[(n,.ob an (Ziu T f l))],.pv (.agg (l.map f)),[]⟩:=by
 have:=ZeX (d:=d) (ty:=ty) (pos:=pos) (af:=af) (g:=g) (P:=P) (cells:=l.map fun x=>CF.pv (f x)) (T:=T) n hx ha hs (by simp [wid,hl]) (by rw [Zop f l sz hl];cases d <;> simp [Za8,SF.deps,ZcH])
 rw [Zop f l sz hl] at this
 refine OpC.res (fun a w F K Q hw hs' hp ht=>this a w F K Q hw hs' hp (fun v w' F' h1 h2 h3 h4=>ht v w' F' h1 h2 ?_ h4)) ZlH rfl (fun _ _ _ h=>h)
 have h5:Ent (.agg (l.map fun x=>CF.pv (f x))) (.pv (.agg (l.map f))):=by
   have:=Ent.pagg (l:=l.map f)
   rwa [List.map_map] at this
 exact h5 _ _ _ _ h3
theorem Zse (f:α→PV) (l l':List α) (h:l'.length=l.length):Zf (l.map fun x=>CF.pv (f x)) 0 (l'.map fun x=>CF.pv (f x))=l'.map fun x=>CF.pv (f x):=by
 simp [Zf,h]
theorem ZfN {sz:Nat} {an:Anc} {l':List α} (n:Nat) (hx:Za7 x ps an 0) (hy:Opd y qs (.pv (.agg (l'.map f)))) (hs:(P.info? t).map (·.size)=some sz) (hl:l.length=sz) (hl':l'.length=sz) :
   OpC P ⟨none,.store t x y,ty,pos,af,g⟩ ⟨ps++qs,[(n,.ob an (Ziu T f l))],.pv .any,[(n,.ob an (Ziu T f l'))]⟩:=by
 have hy':Opd y qs (.agg (l'.map fun x=>CF.pv (f x))):=by
   have:=hy.conv (Ent.agg (l:=l'.map f))
   rwa [List.map_map] at this
 refine OpC.res (Zfk (cells:=l.map fun x=>CF.pv (f x)) (T:=T) n hx hy' hs (by simp [hl']) (by simp [hl])) ZlH rfl (fun τ w F h=>?_)
 intro z hz
 simp only [List.mem_singleton] at hz
 subst hz
 have:=h (n,.pt an T (Zf (l.map fun x=>CF.pv (f x)) 0 (l'.map fun x=>CF.pv (f x)))) (by simp)
 rw [Zse f l l' (by rw [hl,hl'])] at this
 exact ZlP _ _ _ _ this
theorem Zfi [Inhabited α] {len e:Nat} (hu:P.underlying t=some (.array len e)) (hs:(P.info? e).map (·.size)=some 1) (hx:Opd x ps (.pv (.ref (l.map f)))) (hy:Opd y qs (.pv (.int k i))) (h0:0≤i) (h1:i<len) (hl:l.length=len) :
   OpC P ⟨d,.indexAddr t x y,ty,pos,af,g⟩ ⟨ps++qs,[],.pv (.ref [f (nth l i.toNat)]),[]⟩:=
 OpC.pure fun a w yy hp=>by
   obtain ⟨b,off,vs,e1,hy1,hb,hc,hpv⟩:=hx a w yy hp.left
   have e2:=(hy a w yy hp.right).1
   have hv:=PVs.pick (R:=fun x=>[f x]) (sz:=1) (fun _=>rfl) i.toNat (by omega:i.toNat<l.length) (vs:=vs) (by rw [ZlT];exact hpv)
   refine ⟨.pointer (some ⟨b,off+i.toNat*1,none⟩),?_,fun _ _=>⟨b,off+i.toNat*1,_,rfl,hy1,hb,hc.slice,hv⟩⟩
   simp [execOp,Instr.indexAt,e1,e2,asIntOf,asInt,run_underlying hu,Instr.sureAddr,if_pos (And.intro h0 h1),run_sizeOf hs,add_lit]
end
end Go.Gm
namespace Go.Gm
set_option linter.unusedVariables false
set_option linter.unusedSimpArgs false
def _root_.Go.Program.fieldTO (P:Program) (s:TypeId) (f:Nat):Option (TypeId×Nat):=match P.underlying s with
 | some (.struct fs)=>match fs[f]? with
   | some fd=>some (fd.type,fd.offset)
   | none=>none
 | _=>none
theorem PVs.at {w y} : ∀ {l:List PV} {vs:List Value} {k:Nat} {p:PV},PVs l vs w y→l[k]? = some p → ∃ v,vs[k]? = some v∧p.p v w y
 | [],_,_,_,_,h=>by simp at h
 | q :: l,[],_,_,h,_=>h.elim
 | q :: l,v :: vs,0,p,h,hk=>by
   simp at hk;subst hk
   exact ⟨v,rfl,h.1.2⟩
 | q :: l,v :: vs,k+1,p,h,hk=>by
   obtain ⟨u,h1,h2⟩:=PVs.at h.2 (by simpa using hk)
   exact ⟨u,by simpa using h1,h2⟩
section
variable {P:Program} {d:Option Nat} {t ty:TypeId} {pos:String} {af:Array Edge} {g:Option (Nat×Bool)} {x:Operand} {ps:List (Nat×SF)}
theorem Zof {f:Nat} {ft:TypeId} {off:Nat} (h:P.fieldTO t f=some (ft,off)) (vs:Array Value) (w:World):(Instr.field t (.agg vs) f).run P w=(part ft vs off).run P w:=by
 unfold Program.fieldTO at h
 split at h
 · rename_i fs hu
   split at h
   · rename_i fd hf
     simp only [Option.some.injEq,Prod.mk.injEq] at h
     obtain ⟨rfl,rfl⟩:=h
     simp [Instr.field,run_underlying hu,hf,asAgg]
   · cases h
 · cases h
theorem ZhA {f:Nat} {ft:TypeId} {off:Nat} {l:List PV} {p:PV} (h:P.fieldTO t f=some (ft,off)) (ha:P.aggB ft=some false) (hx:Opd x ps (.pv (.agg l))) (hl:l[off]? = some p) :
   OpC P ⟨d,.field t x f,ty,pos,af,g⟩ ⟨ps,[],.pv p,[]⟩:=
 OpC.pure fun a w yy hp=>by
   obtain ⟨vs,e1,hv⟩:=hx a w yy hp
   obtain ⟨v,h1,h2⟩:=PVs.at hv hl
   refine ⟨v,?_,fun _ _=>h2⟩
   simp [execOp,e1,Zof h,part,Zb8 ha,h1]
end
end Go.Gm
namespace Go.Gm
set_option linter.unusedVariables false
set_option linter.unusedSimpArgs false
section
variable {P:Program} {d:Option Nat} {ty:TypeId} {pos:String} {af:Array Edge} {g:Option (Nat×Bool)} {ps:List (Nat×SF)} {x:Operand} {α:Type} {R:α→List PV} {l:List α}
theorem o_lendRow {f:FuncId} {tys:Array TypeId} {an:Anc} {T sz:Nat} {q:PV} {fn:Func} (n:Nat) (hc:FnP P f [.sl R l] q) (hq:∀ v w y w' y',q.p v w y→q.p v w' y')
    (hf : P.funcs[f]? = some fn) (hb : fn.body.isSome = true) (hn : (fn.name == "runtime.NumGoroutine") = false) (hx : ZaA x ps an) :
    OpC P ⟨d,.call { callee:=.value (.func f),args:=#[x],argTypes:=tys },ty,pos,af,g⟩ ⟨ps,[(n,.ob an (Zu T sz R l))],.pv q,[]⟩:=fun a w F K Q hw hp hr ht=>by
  obtain ⟨xs,r1,r2,r3⟩:=hr (n,.ob an (Zu T sz R l)) (by simp)
  have e1:a.eval x=an.v (Act.tau a):=hx a w (U F) hp
  have hle:=Zkz F n
  have hev:=Ev.less w hle
  have hsl:(PV.sl R l).p (a.eval x) w (U (drop F n)):=by
    rw [e1]
    obtain ⟨ad,cap,e8,h8,h9,h10⟩:=ZH r1
    refine ⟨ad,cap,e8,h8,h9,?_⟩
    rcases h10 with h10 | ⟨b',rfl,h11,h12⟩
    · exact .inl (List.eq_nil_of_length_eq_zero h10)
    · have hb':F n b':=(r3 b').2 h11
      refine .inr ⟨b',0,xs,rfl,?_,hw.bd n b' hb',h12,PVs.mono hev r2⟩
      rintro ⟨m,hm⟩
      unfold drop at hm
      by_cases e2:m=n
      · simp only [e2,if_true] at hm
      · simp only [e2,if_false] at hm
        exact e2 (hw.dis m n b' hm hb')
  have hbn:fn.body≠none:=by intro h;rw [h] at hb;cases hb
  have hn' : fn.name ≠ "runtime.NumGoroutine" := by intro h; rw [h] at hn; simp at hn
  have hrun:(execOp a.eval ⟨d,.call { callee:=.value (.func f),args:=#[x],argTypes:=tys },ty,pos,af,g⟩).run P w = .ok (.enter f [a.eval x].toArray) w:=by
    have e2:a.eval (.func f) = .func (.func f) #[] #[]:=rfl
    simp [execOp,resolve,e2,Deferred.ofValue,invoke,callFunc,hf,hn',hbn]
  simp only [Oper.wp,hrun,Oper.upon]
  refine (hc w (U (drop F n)) [a.eval x] (fun b hb=>by obtain ⟨m,hm⟩:=hle b hb;exact hw.bd m b hm) ⟨hsl,trivial⟩).mono ?_
  rintro e' w' ⟨v,rfl,hqv,hbel⟩
  have hst:Stp [] w F w' F:=⟨hbel.os,hbel.tape,hbel.output,hbel.size,fun b hb _=>hbel.block b hb,fun _ _=>rfl,fun _ h=>by cases h⟩
  exact ht v w' F ⟨hw.dis,fun n b hn=>Nat.lt_of_lt_of_le (hw.bd n b hn) hbel.size⟩ hst (hq _ _ _ _ _ hqv) (fun x hx=>by cases hx)
end
end Go.Gm
namespace Go.Gm
set_option linter.unusedVariables false
set_option linter.unusedSimpArgs false
inductive ZV (P:Program) (ops:Array Oper):En→List Oper→List CD→En→Prop
 | nil {E:En} : ZV P ops E [] [] E
 | cons {E:En} {o:Oper} {c:CD} {l:List Oper} {cs:List CD} {E':En} (hc:ZdD P ops o c) (hs:Z9 E.s c.ps) (hr:Z9 E.r c.pr)
     (t:ZV P ops (E.step o c) l cs E'):ZV P ops E (o :: l) (c :: cs) E'
 | norm {E:En} {l:List Oper} {cs:List CD} {E':En} (L:List (Nat×SF)) (R:List (Nat×RS)) (hL:Z9 E.s L) (hR:Z9 E.r R) (t:ZV P ops ⟨L,R⟩ l cs E'):ZV P ops E l cs E'
theorem cG {P:Program} {ops:Array Oper} {E:En} {o:Oper} {c:CD} {l:List Oper} {cs:List CD} {E':En} (hg:o.guard=none) (h:OpC P o c) (hs:Z9 E.s c.ps) (hr:Z9 E.r c.pr) (t:ZV P ops (E.step o c) l cs E'):ZV P ops E (o :: l) (c :: cs) E':=ZV.cons (ZdD.free hg h) hs hr t
section
variable {P:Program} {ops:Array Oper} {Q:Exit→Act→World→Prop}
theorem Zi1 {B:Zbp} {rest:List Oper} {l:List Oper} {cs:List CD} {E E':En} (hc:ZV P ops E l cs E'):∀ (named:List Nat) (a:Act) (w:World) (F:Fp),
   okSeq l cs named=true→dstsIn B.n l=true→(∀ x ∈ E.s,∀ j ∈ x.2.deps,j ∈ named)→(∀ x ∈ E.r,∀ j ∈ x.2.deps,j ∈ named)→Sat B E a w F →
   (∀ a w F,Sat B E' a w F→wpList P ops Q rest a w)→wpList P ops Q (l++rest) a w:=by
 induction hc with
 | nil=>
   intro named a w F ho hd hs hr hS hQ
   exact hQ a w F hS
 | @norm E l cs E' L R hL hR t ih=>
   intro named a w F ho hd hs hr hS hQ
   obtain ⟨F',hS'⟩:=hS.norm L R hL hR
   exact ih named a w F' ho hd (fun x hx=>hs x (Zav (hL.get x hx))) (fun x hx=>hr x (Zav (hR.get x hx))) hS' hQ
 | @cons E o c l cs E' hc hls hlr t ih=>
   intro named a w F ho hd hs hr hS hQ
   simp only [okSeq,Bool.and_eq_true] at ho
   simp only [dstsIn,Bool.and_eq_true] at hd
   have hdd:∀ i,o.dst=some i→i<a.tmps.size:=by
     intro i hi
     have:=hd.1
     rw [hi] at this
     rw [hS.n]
     exact of_decide_eq_true (by simpa [Nat.blt_eq] using this)
   rw [List.cons_append]
   refine wpList_step fun K hK=>hc a w F K Q hS.wf (fun x hx=>hS.s _ _ (hls.get x hx)) (fun x hx=>hS.r _ _ (hlr.get x hx)) ?_
   intro v w' F' hwf' hst hq hqr
   refine hK _ _ ?_
   have hnd:∀ j,j ∈ named→o.dst≠some j:=by
     intro j hj e
     have:=ho.1
     rw [e] at this
     simp [hj] at this
   have keeps:=ZeD (c:=c) (v:=v) hdd hS.wf hst
   refine ih (c.deps++named) _ _ F' ho.2 hd.2 ?_ ?_ ⟨hwf',hS.ev.trans hst.ev,by rw [Act.size_put];exact hS.n,by rw [Act.defers_put];exact hS.df,?_,?_,?_⟩ hQ
   · intro x hx j hj
     simp only [En.step] at hx
     split at hx
     · rcases List.mem_cons.1 hx with rfl | hx
       · exact List.mem_append_left _ (by simp [CD.deps,hj])
       · exact List.mem_append_right _ (hs x hx j hj)
     · exact List.mem_append_right _ (hs x hx j hj)
   · intro x hx j hj
     simp only [En.step] at hx
     rcases List.mem_append.1 hx with hx | hx
     · refine List.mem_append_left _ ?_
       simp only [CD.deps]
       exact List.mem_append_right _ (List.mem_flatMap.2 ⟨x,hx,hj⟩)
     · exact List.mem_append_right _ (hr x hx j hj)
   · intro i s hl
     have hold:look E.s i=some s→o.dst≠some i→s.holds (Act.tau (a.put o.dst v)) w' (U F') (Act.tau (a.put o.dst v) i):=fun hl hi=>
       keeps.1 i s (fun j hj=>hnd j (hs _ (Zav hl) j hj)) hi (hS.s i s hl)
     simp only [En.step] at hl
     cases hdst:o.dst with
     | none=>rw [hdst] at hl hold;exact hold hl (by simp)
     | some d=>
       rw [hdst] at hl hold
       simp only [] at hl
       rw [Zl] at hl
       by_cases e:d=i
       · subst e
         simp at hl
         subst hl
         rw [hdst] at hq hdd
         rw [Act.tau_put a (some d) v hdd]
         have:upd (Act.tau a) (some d) v d=v:=by simp [upd]
         rw [this];exact hq
       · rw [if_neg e] at hl
         exact hold hl (by simpa using e)
   · intro n r hl
     simp only [En.step] at hl
     rw [ZbE] at hl
     by_cases hn:n ∈ c.W
     · obtain ⟨x,hx⟩:=ZbH (l:=c.qr) (i:=n) hn
       rw [hx] at hl
       simp at hl
       subst hl
       rw [Act.tau_put a o.dst v hdd]
       exact hqr _ (Zav hx)
     · rw [ZcY (l:=c.qr) (i:=n) hn] at hl
       simp at hl
       exact keeps.2 n r (fun j hj=>hnd j (hr _ (Zav hl) j hj)) hn (hS.r n r hl)
   · intro n b hb
     simp only [En.step]
     rw [ZbE]
     by_cases hn:n ∈ c.W
     · obtain ⟨x,hx⟩:=ZbH (l:=c.qr) (i:=n) hn
       exact ⟨x,by rw [hx];rfl⟩
     · rw [hst.fkeep n hn] at hb
       obtain ⟨r,hr'⟩:=hS.em n b hb
       rw [ZcY (l:=c.qr) (i:=n) hn]
       exact ⟨r,by simpa using hr'⟩
theorem Zk9 {B:Zbp} {l:List Oper} {cs:List CD} {E E':En} (hc:ZV P ops E l cs E') (named:List Nat) (a:Act) (w:World) (F:Fp) (h1:okSeq l cs named=true) (h2:dstsIn B.n l=true) (h3:∀ x ∈ E.s,∀ j ∈ x.2.deps,j ∈ named) (h4:∀ x ∈ E.r,∀ j ∈ x.2.deps,j ∈ named) (hS:Sat B E a w F)
   (hQ:∀ a w F,Sat B E' a w F→Q .normal a w):wpList P ops Q l a w:=by
 have:=Zi1 (rest:=[]) hc named a w F h1 h2 h3 h4 hS (fun a w F h=>wpList_nil (hQ a w F h))
 rwa [List.append_nil] at this
theorem ZiG {B:Zbp} {l:List Oper} {cs:List CD} {E E':En} {a:Act} {w:World} {F:Fp} (n:Nat) (hS:Sat B E a w F) (hE:E.shutB=true) (hc:ZV P ops E (l.take n) cs E') (ho:okSeq (l.take n) cs [] = true) (hd:dstsIn B.n (l.take n)=true)
   (hQ:∀ a w F,Sat B E' a w F→wpList P ops Q (l.drop n) a w):wpList P ops Q l a w:=by
 have:=Zi1 (rest:=l.drop n) hc [] a w F ho hd (fun x hx j hj=>by rw [(En.shut_of hE).1 x hx] at hj;cases hj) (fun x hx j hj=>by rw [(En.shut_of hE).2 x hx] at hj;cases hj) hS hQ
 rwa [List.take_append_drop] at this
theorem Zb6 {B:Zbp} {id:Nat} {l:List Oper} {cs:List CD} {E E':En} {a:Act} {w:World} {F:Fp} (n:Nat) (hS:Sat B E a w F) (hE:E.shutB=true) (hc:ZV P l.toArray E (l.take n) cs E') (ho:okSeq (l.take n) cs [] = true) (hd:dstsIn B.n (l.take n)=true)
   (hQ:∀ a w F,Sat B E' a w F→wpList P l.toArray Q (l.drop n) a w):(Code.region id l.toArray false).wp P Q a w:=
 wp_region_list (by
   rw [List.toList_toArray]
   exact ZiG n hS hE hc ho hd hQ)
theorem ZcC {B:Zbp} {l:List Oper} {cs:List CD} {E E':En} {a:Act} {w:World} {F:Fp} (hS:Sat B E a w F) (hE:E.shutB=true) (hc:ZV P ops E l cs E') (ho:okSeq l cs [] = true) (hd:dstsIn B.n l=true)
   (hQ:∀ a w F,Sat B E' a w F→Q .normal a w):wpList P ops Q l a w:=
 Zk9 hc [] a w F ho hd (fun x hx j hj=>by rw [(En.shut_of hE).1 x hx] at hj;cases hj) (fun x hx j hj=>by rw [(En.shut_of hE).2 x hx] at hj;cases hj) hS hQ
theorem ZdJ {B:Zbp} {id:Nat} {l:List Oper} {cs:List CD} {E E':En} {a:Act} {w:World} {F:Fp} (hS:Sat B E a w F) (hE:E.shutB=true)
   (hc:ZV P l.toArray E l cs E') (ho:okSeq l cs [] = true) (hd:dstsIn B.n l=true)
   (hQ:∀ a w F,Sat B E' a w F→Q .normal a w):(Code.region id l.toArray false).wp P Q a w:=
 wp_region_list (by
   rw [List.toList_toArray]
   exact Zk9 hc [] a w F ho hd (fun x hx j hj=>by rw [(En.shut_of hE).1 x hx] at hj;cases hj) (fun x hx j hj=>by rw [(En.shut_of hE).2 x hx] at hj;cases hj) hS hQ)
end
section
variable {P:Program} {ops:Array Oper} {E E':En} {d:Option Nat} {op:Op} {ty:TypeId} {pos:String} {af:Array Edge} {l:List Oper} {cs:List CD}
theorem nf {c:CD} (h:OpC P ⟨d,op,ty,pos,af,none⟩ c) (hs:Z9 E.s c.ps) (hr:Z9 E.r c.pr) (t:ZV P ops (E.step ⟨d,op,ty,pos,af,none⟩ c) l cs E'):ZV P ops E (⟨d,op,ty,pos,af,none⟩ :: l) (c :: cs) E':=cG rfl h hs hr t
theorem nk {j sj:Nat} {want β:Bool} {ps:List (Nat×SF)} {pr:List (Nat×RS)} {q:SF} (hj:(ops[j]?).bind (·.dst)=some sj) (h:β=want→OpC P ⟨d,op,ty,pos,af,some (j,want)⟩ ⟨ps,pr,q,[]⟩) (hs:Z9 E.s ((sj,.pv (.bool β)) :: ps)) (hr:Z9 E.r pr)
 (t:ZV P ops (E.step ⟨d,op,ty,pos,af,some (j,want)⟩ ⟨(sj,.pv (.bool β)) :: ps,pr,.when (β=want) q,[]⟩) l cs E'):ZV P ops E (⟨d,op,ty,pos,af,some (j,want)⟩ :: l) (⟨(sj,.pv (.bool β)) :: ps,pr,.when (β=want) q,[]⟩ :: cs) E':=.cons (.cond rfl hj h) hs hr t
theorem nM {i:Nat} {s:SF} (hl:look E.s i=some s) (hd:Za8 d s=true) (t:ZV P ops (E.step ⟨d,.move (.tmp i),ty,pos,af,none⟩ ⟨[(i,s)],[],s,[]⟩) l cs E'):ZV P ops E (⟨d,.move (.tmp i),ty,pos,af,none⟩ :: l) (⟨[(i,s)],[],s,[]⟩ :: cs) E':=cG rfl (ZfK .t hd) ⟨hl,trivial⟩ trivial t
theorem nN {i:Nat} {s:SF} (hl:look E.s i=some s) (hd:Za8 d s=true) (t:ZV P ops (E.step ⟨d,.assign (.tmp i),ty,pos,af,none⟩ ⟨[(i,s)],[],s,[]⟩) l cs E'):ZV P ops E (⟨d,.assign (.tmp i),ty,pos,af,none⟩ :: l) (⟨[(i,s)],[],s,[]⟩ :: cs) E':=cG rfl (ZhS .t hd) ⟨hl,trivial⟩ trivial t
theorem nm {j sj i:Nat} {want β:Bool} {s:SF} (hj:(ops[j]?).bind (·.dst)=some sj) (hb:look E.s sj=some (.pv (.bool β))) (hl:look E.s i=some s) (hd:Za8 d s=true)
 (t:ZV P ops (E.step ⟨d,.move (.tmp i),ty,pos,af,some (j,want)⟩ ⟨[(sj,.pv (.bool β)),(i,s)],[],.when (β=want) s,[]⟩) l cs E'):ZV P ops E (⟨d,.move (.tmp i),ty,pos,af,some (j,want)⟩ :: l) (⟨[(sj,.pv (.bool β)),(i,s)],[],.when (β=want) s,[]⟩ :: cs) E':=.cons (.cond rfl hj fun _=>ZfK .t hd) ⟨hb,hl,trivial⟩ trivial t
theorem nn (is ns:List Nat) {L:List (Nat×SF)} {R:List (Nat×RS)} (hL:ZdV E.s is [] = some L) (hR:ZdV E.r ns [] = some R) (t:ZV P ops ⟨L,R⟩ l cs E'):ZV P ops E l cs E':=.norm L R (Zd5 hL trivial) (Zd5 hR trivial) t
end
end Go.Gm
namespace Go.Gm
open Go.Lib
set_option linter.unusedVariables false
set_option linter.unusedSimpArgs false
section
variable {P:Program} {d:Option Nat} {t ty:TypeId} {pos:String} {af:Array Edge} {g:Option (Nat×Bool)} {x y:Operand} {ps qs:List (Nat×SF)} {T:TypeId}
end
end Go.Gm
