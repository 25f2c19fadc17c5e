/- Walks: maps. No condition. -/
import Derived.Test.YtfecljadegkmdaaGreatLibX
import Derived.MapKept
import Derived.WideKeyRuns
namespace Go.Gm
set_option linter.unusedVariables false
set_option linter.unusedSimpArgs false
set_option linter.unusedSectionVars false
structure ZoZ (κ:Type) where
 key:κ
 val:Int
 born:Nat
section
variable {κ:Type} [DecidableEq κ] {vk:IntKind}
def mIdx (k:κ):List (ZoZ κ)→Option Nat
 | []=>none
 | e :: es=>if k=e.key then some 0 else (mIdx k es).map (· + 1)
def Zpc (k:κ):List (ZoZ κ)→Int
 | []=>0
 | e :: es=>if k=e.key then e.val else Zpc k es
def ZnW (vk:IntKind) (kv:κ→Value) (e:ZoZ κ):MapEntry:={ key:=kv e.key,val:=.int vk e.val,born:=e.born }
structure ZpV (P:Program) (kt:TypeId) (ok:κ→Prop) (kv:κ→Value):Prop where
 check:∀ b k w,ok k→(Instr.checkKey b 10000 kt (kv k)).run P w = .ok () w
 find:∀ (vk:IntKind) (es:List (ZoZ κ)) k w,ok k→(∀ e ∈ es,ok e.key)→(Instr.findKey kt (kv k) (es.map (ZnW vk kv))).run P w = .ok ((mIdx k es).map fun i=>(i,.int vk (Zpc k es))) w
 same:∀ k,Instr.sameBits 10000 (kv k) (kv k)=true
end
section
variable {P:Program} {d:Option Nat} {t ty:TypeId} {pos:String} {af:Array Edge} {g:Option (Nat×Bool)} {x y z:Operand} {ps qs rs:List (Nat×SF)} {κ:Type} [DecidableEq κ] {ok:κ→Prop} {kv:κ→Value} {kt et:TypeId} {vk:IntKind}
def ZD (ok:κ→Prop) (kv:κ→Value) (x:Operand) (ps:List (Nat×SF)) (k:κ):Prop:=∀ (a:Act) w yy,Hps ps (Act.tau a) w yy→a.eval x=kv k∧ok k
theorem Zeu {w:World} {F:Fp} (hw:Wf F w) {b m:Nat} {o o':Obj} (hb:w.heap[b]? = some o) (hf:∀ x,F m x ↔ x=b) :
  Wf F { w with heap:=w.heap.setIfInBounds b o' } ∧ Stp [m] w F { w with heap:=w.heap.setIfInBounds b o' } F:=by
 obtain ⟨h1,h2⟩:=Ybc (o':=o') hb
 refine ⟨⟨hw.dis,fun n x h=>by simpa using hw.bd n x h⟩,⟨rfl,rfl,rfl,by simp,fun x hx hn=>h2 x (fun e=>hn m XA ((hf x).2 e)),fun _ _=>rfl,fun n hn x hx=>.inl ⟨n,hn,hx⟩⟩⟩
def kvS {κ:Type} (enc:κ→List Int) (k:κ):Value:=.agg ((enc k).map fun n=>Value.int .i64 n).toArray
theorem Zcg {w:World} (em:Bool) (n:Nat) {xs:Array Value} : ∀ {fs:List Field} {k:Nat} {l:List Int} {m:Nat},flatFs P fs k (List.replicate m true)=true→xs.toList.drop k=(l.map fun n=>Value.int .i64 n)→l.length=m →
    (forIn fs PUnit.unit fun f _ => if f.name ≠ "_" then (do let z ← part f.type xs f.offset; Instr.checkKey em (n + 1) f.type z; pure (ForInStep.yield PUnit.unit)) else pure (ForInStep.yield PUnit.unit) : Sem PUnit).run P w = .ok PUnit.unit w
  | [],k,l,m,_,_,_=>by simp
  | f :: fs,k,[],0,h,_,_=>by simp [flatFs] at h
  | f :: fs,k,x :: l,m+1,h,hx,hl=>by
    rw [List.replicate_succ] at h
    simp only [flatFs,Yr] at h
    obtain ⟨⟨⟨h1,h2⟩,h3⟩,h4⟩:=h
    have hk:f.offset=k:=Y8 h2
    have hn : f.name ≠ "_" := by simpa using h1
    have hag:P.aggB f.type=some false:=by
      unfold Program.aggB
      cases hu:P.underlying f.type with
      | none=>rw [hu] at h3;cases h3
      | some u=>rw [hu] at h3;cases u <;> first | rfl | cases h3
    have hp:=ZdB (w:=w) (v:=.int .i64 x) (vs:=l.map fun n=>Value.int .i64 n) hk hag XP
    have hc:(Instr.checkKey em (n+1) f.type (.int .i64 x)).run P w = .ok () w:=by
      cases hu:P.underlying f.type with
      | none=>rw [hu] at h3;cases h3
      | some u=>
        rw [hu] at h3
        rw [Instr.checkKey]
        cases u with
        | int kk=>simp [Yk hu]
        | bool=>cases h3
        | _=>cases h3
    have ih:=Zcg (w:=w) em n (fs:=fs) (k:=k+1) (l:=l) (m:=m) h4 (Zb5 XP) (by simpa using hl)
    simp only [List.forIn_cons,YD,hn,ne_eq,not_false_eq_true,Yv,Yq,hp,hc,YN]
    exact ih
theorem Zfe (l:List Int) (n:Nat):Instr.sameBits (n+1) (.agg (l.map fun n=>Value.int .i64 n).toArray) (.agg (l.map fun n=>Value.int .i64 n).toArray)=true:=by
 unfold Instr.sameBits
 simp
 intro a b h
 have key:∀ (l:List Int),(a,b) ∈ (l.map fun n=>Value.int .i64 n).zip (l.map fun n=>Value.int .i64 n) → ∃ x,a = .int .i64 x∧b = .int .i64 x:=by
  intro l
  induction l with
  | nil=>intro h;simp at h
  | cons x l ih=>
   intro h
   simp at h
   rcases h with ⟨rfl,rfl⟩ | h
   ·exact ⟨x,rfl,rfl⟩
   ·exact ih Xz
 obtain ⟨x,rfl,rfl⟩:=key l Xz
 cases n <;> simp [Instr.sameBits]
theorem Zig:∀ (l m:List Int),l.length=m.length→ZjZ (List.replicate l.length true) (l.map fun n=>CF.pv (.int .i64 n)) (m.map fun n=>CF.pv (.int .i64 n)) (decide (l=m))
 | [],[],_=>by simpa using ZjZ.nil
 | x :: l,y :: m,h=>by
  have ih:=Zig l m Xz
  have:=ZjZ.int (k:=.i64) (a:=x) (b:=y) ih
  have e:(decide (x=y) && decide (l=m))=decide (x :: l=y :: m):=by rw [Y4];simp
  rw [e] at this
  simpa [List.replicate_succ] using this
theorem Zdb {τ:Tau} {w:World} {y:Ys} : ∀ {l:List Int},(∀ x ∈ l,inR .i64 x)→CFs τ w y (l.map fun n=>CF.pv (.int .i64 n)) (l.map fun n=>Value.int .i64 n)
 | [],_=>trivial
 | x :: l,h=>⟨⟨rfl,rfl,h x XA⟩,Zdb fun z hz=>h z (YQ _ hz)⟩
theorem ZjY {kt:TypeId} {enc:κ→List Int} {n:Nat} (hl:∀ k,(enc k).length=n) (hi:∀ a b,enc a=enc b→a=b) (hf:P.flatS kt (List.replicate n true)=true):ZpV P kt (fun k=>∀ x ∈ enc k,inR .i64 x) (kvS enc) where
 check:=fun b k w _=>by
  obtain ⟨f1,f2,_,_⟩:=ZbE hf
  unfold kvS
  rw [show (10000:Nat)=9998+1+1 from rfl,Instr.checkKey]
  simp only [YD,Yk f1,Yq]
  rw [← Array.forIn_toList]
  have hh:=Zcg (P:=P) (w:=w) b 9998 (xs:=((enc k).map fun n=>Value.int .i64 n).toArray) (k:=0) (l:=enc k) (m:=n) f2 XA (hl k)
  rw [hh]
  rfl
 find:=fun vk es k w hok hks=>by
  obtain ⟨f1,_,_,_⟩:=ZbE hf
  rw [run_findKey_eq (P:=P) (w:=w) (k:=kt) (by rw [f1]) (kvS enc k) (es.map (ZnW vk (kvS enc)))]
  have key:∀ (es:List (ZoZ κ)) (j:Nat),(∀ e ∈ es,∀ x ∈ enc e.key,inR .i64 x)→(Instr.findAsking kt (kvS enc k) (es.map (ZnW vk (kvS enc))) j).run P w = .ok ((mIdx k es).map fun i=>(i+j,.int vk (Zpc k es))) w:=by
   intro es
   induction es with
   | nil=>intro j _;simp [Instr.findAsking,mIdx]
   | cons e es ih=>
    intro j hes
    have hq:(Op.equal kt (kvS enc k) (kvS enc e.key)).run P w = .ok (decide (enc k=enc e.key)) w:=
     Zgp (a:={ tmps:=#[],defers:=[] }) (yy:=fun _=>False) hf (Zdb hok) (Zdb (hes e XA)) XQ
    rw [YJ]
    unfold Instr.findAsking
    have ih':=ih (j+1) fun z hz=>hes z (YQ _ hz)
    by_cases h:k=e.key
    ·have he:enc k=enc e.key:=by rw [h]
     simp only [ZnW,YD,hq,he,decide_true,Yq,Yv,YN]
     simp [mIdx,Zpc,h]
    ·have he:¬ enc k=enc e.key:=fun h'=>h (hi _ _ h')
     simp only [ZnW,YD,hq,Yw he,Yq,YaU,Ym]
     rw [show (es.map fun e=>ZnW vk (kvS enc) e)=es.map (ZnW vk (kvS enc)) from rfl] at *
     rw [ih']
     simp only [mIdx,Zpc,Yb h]
     cases hm:mIdx k es with
     | none=>rfl
     | some i=>simp;omega
  have:=key es 0 hks
  simpa using this
 same:=fun k=>Zfe (enc k) 9999
theorem ZD.int {n:Int} {k:Int} (h:Opd x ps (.pv (.int .i64 n))) (e:n=k):ZD (fun _=>True) (fun n:Int=>Value.int .i64 n) x ps k:=fun a w yy hp=>by
 subst e
 exact ⟨(h a w yy hp).1,tv⟩
theorem ZiE {w:World} {y:Ys} : ∀ {l:List Int} {vs:List Value},PVs (l.map fun n=>PV.int .i64 n) vs w y→vs=l.map (fun n=>Value.int .i64 n) ∧ ∀ x ∈ l,inR .i64 x
 | [],[],_=>⟨rfl,by simp⟩
 | [],_ :: _,h=>h.elim
 | _ :: _,[],h=>h.elim
 | n :: l,v :: vs,h=>by
  obtain ⟨h1,h2⟩:=ZiE (l:=l) h.2
  have h3:v = .int .i64 n∧inR .i64 n:=h.1.2
  exact ⟨by rw [h3.1,h1];rfl,fun x hx=>by rcases Yo.1 hx with rfl | hx;exact h3.2;exact h2 x hx⟩
theorem ZD.agg {enc:κ→List Int} {k:κ} {l:List PV} (h:Opd x ps (.pv (.agg l))) (e:l=(enc k).map fun n=>PV.int .i64 n):ZD (fun k=>∀ x ∈ enc k,inR .i64 x) (kvS enc) x ps k:=fun a w yy hp=>by
 subst e
 obtain ⟨vs,e1,hv⟩:=h a w yy hp
 obtain ⟨h1,h2⟩:=ZiE hv
 exact ⟨by rw [e1,h1];rfl,h2⟩
end
section
variable {κ:Type} [DecidableEq κ]
end
section
variable {P:Program} {d:Option Nat} {t ty:TypeId} {pos:String} {af:Array Edge} {g:Option (Nat×Bool)} {x y z:Operand} {ps qs rs:List (Nat×SF)} {κ:Type} [DecidableEq κ] {ok:κ→Prop} {kv:κ→Value} {kt et:TypeId} {vk:IntKind}
theorem Zhk {α β:Type} (f:α→β):∀ (l:List α) (i:Nat),(l.map f).eraseIdx i=(l.eraseIdx i).map f
 | [],_=>rfl
 | _ :: _,0=>rfl
 | a :: l,i+1=>by simp [Zhk f l i]
end
end Go.Gm
