/- Walks: values behind interfaces;new things told as facts. No condition. -/
import Derived.Test.YtjhapicamnijnaaGreatDoorLibX
import Derived.Test.YtjhapicamnijnaaGreatDoorLibE
namespace Go.Gm
set_option linter.unusedVariables false
set_option linter.unusedSimpArgs false
def PV.ifc (t:TypeId) (p:PV):PV:=⟨fun u w y=>∃ v,u = .iface t v∧p.p v w y,fun h ⟨v,e,k⟩=>⟨v,e,p.mono h k⟩⟩
theorem ZdT {t:TypeId} {p:PV} : ∀ v w yy,(PV.ifc t p).p v w yy→v.oneCell' = true:=fun v _ _ ⟨_,e,_⟩=>by rw [e];rfl
section
variable {P:Program} {d:Option Nat} {ty:TypeId} {pos:String} {af:Array Edge} {g:Option (Nat×Bool)} {x:Operand} {ps:List (Nat×SF)} {T T' xT:TypeId} {p:PV} {fs:Array Field}
theorem Zdy (hu:P.underlying T=some (.struct fs)) (hx:Opd x ps (.pv p)):OpC P ⟨d,.makeInterface T x,ty,pos,af,g⟩ ⟨ps,[],.pv (.ifc T p),[]⟩:=
 OpC.pure fun a w y hp=>⟨.iface T (a.eval x),by simp [execOp,Instr.makeInterface,run_underlying hu],fun τ' _=>⟨_,rfl,hx a w y hp⟩⟩
theorem ZfC (hu:P.underlying T=some (.struct fs)) (hx:Opd x ps (.pv (.ifc T p))):OpC P ⟨d,.typeAssert x xT T true,ty,pos,af,g⟩ ⟨ps,[],.pv (.tup [p,.bool true]),[]⟩:=
 OpC.pure fun a w y hp=>by
   obtain ⟨v,e,k⟩:=hx a w y hp
   exact ⟨.tuple #[v,.bool true],by simp [execOp,e,Instr.typeAssert,run_underlying hu],fun τ' _=>⟨[v,.bool true],rfl,k,rfl,trivial⟩⟩
theorem ZcJ {zs:List Value} (hu:P.underlying T=some (.struct fs)) (hz:P.zeros T=some zs) (hne:Nat.beq T' T=false) (hx:Opd x ps (.pv (.ifc T' p))):OpC P ⟨d,.typeAssert x xT T true,ty,pos,af,g⟩ ⟨ps,[],.pv (.tup [.any,.bool false]),[]⟩:=
 OpC.pure fun a w y hp=>by
   obtain ⟨v,e,k⟩:=hx a w y hp
   obtain ⟨z,_,_,h3⟩:=ZbI hz
   have hne':¬ T' = T:=fun h=>by rw [h] at hne;simp at hne
   exact ⟨.tuple #[z,.bool false],by simp [execOp,e,Instr.typeAssert,run_underlying hu,hne',h3],fun τ' _=>⟨[z,.bool false],rfl,trivial,rfl,trivial⟩⟩
theorem ZhV {f:FuncId} {nm:String} {tys:Array TypeId} {q:PV} {fn:Func} (hx:Opd x ps (.pv (.ifc T p))) (hc:FnP P f [p] q) (hu:P.underlying T=some (.struct fs))
    (hm : (P.info? T).map (fun i => (i.methods.find? (·.name == nm)).map fun m => (m.path.toList, m.func)) = some (some ([], some (f, false)))) (hf : P.funcs[f]? = some fn) (hb : fn.body.isSome = true) (hn : (fn.name == "runtime.NumGoroutine") = false) :
    OpC P ⟨d,.call { callee:=.invoke x nm,args:=#[],argTypes:=tys },ty,pos,af,g⟩ ⟨ps,[],.pv q,[]⟩:=fun a w F K Q hw hp hr ht=>by
  obtain ⟨v,e,k⟩:=hx a w (U F) hp
  have hbn:fn.body≠none:=by intro h;rw [h] at hb;cases hb
  have hn' : fn.name ≠ "runtime.NumGoroutine" := by intro h; rw [h] at hn; simp at hn
  have hmet:∀ n w,(method (n+1) T v nm).run P w = .ok (f,v) w:=fun n w=>by
    cases hi:P.info? T with
    | none=>rw [hi] at hm;cases hm
    | some i=>
      rw [hi] at hm
      simp only [Option.map_some,Option.some.injEq] at hm
      cases hfi:i.methods.find? (·.name == nm) with
      | none=>rw [hfi] at hm;cases hm
      | some m=>
        rw [hfi] at hm
        simp only [Option.map_some,Option.some.injEq,Prod.mk.injEq] at hm
        obtain ⟨h1,h2⟩:=hm
        have h3:m.path.isEmpty=true:=by
          have:m.path = #[]:=by cases hp9:m.path with | mk l=>rw [hp9] at h1;simp at h1;rw [h1]
          rw [this];rfl
        simp [method,typeInfo,hi,hfi,h1,h2,h3,follow,receiverAt,run_underlying hu,Place.get]
  have h100:0<Made.depth:=by decide
  obtain ⟨n,hn2⟩:∃ n,P.types.size+Made.depth=n+1:=⟨P.types.size+Made.depth - 1,by omega⟩
  have hrun:(execOp a.eval ⟨d,.call { callee:=.invoke x nm,args:=#[],argTypes:=tys },ty,pos,af,g⟩).run P w = .ok (.enter f #[v]) w:=by
    simp [execOp,resolve,invoke,callMethod,e,hn2,hmet,callFunc,hf,hn',hbn]
  simp only [Oper.wp,hrun,Oper.upon]
  refine (hc w (U F) [v] (fun b ⟨n,hn⟩=>hw.bd n b hn) ⟨k,trivial⟩).mono ?_
  rintro e' w' ⟨v,rfl,hq,hbel⟩
  have hst:Stp [] w F w' F:=⟨hbel.os,hbel.tape,hbel.output,hbel.size,fun b hb _=>hbel.block b hb,fun _ _=>rfl,fun _ h=>by cases h⟩
  exact ht v w' F ⟨hw.dis,fun n b hn=>Nat.lt_of_lt_of_le (hw.bd n b hn) hbel.size⟩ hst hq (fun x hx=>by cases hx)
end
end Go.Gm
namespace Go.Gm
set_option linter.unusedVariables false
set_option linter.unusedSimpArgs false
def Zpo (N:Nat) (p q:PV):Prop:=∀ v w y y',p.p v w y' → (∀ b,y b→¬ y' b→b<N)→q.p v w y
theorem Zpo.int {N:Nat} {k:IntKind} {x:Int} : Zpo N (.int k x) (.int k x):=fun _ _ _ _ h _=>h
theorem Zpo.bool {N:Nat} {x:Bool} : Zpo N (.bool x) (.bool x):=fun _ _ _ _ h _=>h
def Ze5 (N:Nat):List PV→List PV→Prop
 | [],[]=>True
 | p :: ps,q :: qs=>Zpo N p q∧Ze5 N ps qs
 | _,_=>False
theorem Zpo.pvs {N:Nat} {w:World} {y y':Ys} (hy:∀ b,y b→¬ y' b→b<N):∀ {ps qs:List PV} {vs:List Value},Ze5 N ps qs→PVs ps vs w y' → PVs qs vs w y:=by
 intro ps
 induction ps with
 | nil=>intro qs vs h k;cases qs with
   | nil=>cases vs with
     | nil=>trivial
     | cons v vs=>exact k.elim
   | cons q qs=>exact h.elim
 | cons p ps ih=>intro qs vs h k;cases qs with
   | nil=>exact h.elim
   | cons q qs=>cases vs with
     | nil=>exact k.elim
     | cons v vs=>exact ⟨⟨k.1.1,h.1 v w y y' k.1.2 hy⟩,ih h.2 k.2⟩
theorem Ze5.append {N:Nat} : ∀ {ps qs ps' qs':List PV},Ze5 N ps qs→Ze5 N ps' qs' → Ze5 N (ps++ps') (qs++qs')
 | [],[],_,_,_,h=>h
 | p :: ps,q :: qs,_,_,h,k=>⟨h.1,Ze5.append h.2 k⟩
 | [],_ :: _,_,_,h,_=>h.elim
 | _ :: _,[],_,_,h,_=>h.elim
theorem Zpo.agg {N:Nat} {l l':List PV} (h:Ze5 N l l'):Zpo N (.agg l) (.agg l'):=fun v w y y' ⟨vs,e,k⟩ hy=>⟨vs,e,Zpo.pvs hy h k⟩
end Go.Gm
