/- Deltas: the plain law. No condition beyond those that each theorem says. -/
import Derived.Test.YtcfgcpcakdknkaaGreatSt0
import Derived.Test.YtcfgcpcakdknkaaGreatDaX
import Derived.Test.YtcfgcpcakdknkaaGreatHi0
namespace Go.Proofs.YtcfgcpcakdknkaaGreat
open Go Go.Gm
set_option linter.unusedVariables false
set_option linter.unusedSimpArgs false
set_option maxHeartbeats 4000000
set_option maxRecDepth 8000
section
variable {α:Type} {κ:α→Int}
def seekK (κ:α→Int) (l:List α) (n:Int):Option α:=l.find? fun x=>decide (κ x=n)
theorem seekK_at [Inhabited α] {l:List α} {n:Int} {i:Nat} (hi:i<l.length) (h:κ (Go.Gm.nth l i)=n) (hq:∀ k,k<i→κ (Go.Gm.nth l k)≠n):seekK κ l n=some (Go.Gm.nth l i):=by
 unfold seekK
 rw [List.find?_eq_some_iff_getElem]
 refine ⟨by simpa using h,i,hi,(nth_eq hi).symm,fun j hj=>?_⟩
 have:=hq j hj
 rw [nth_eq (by omega)] at this
 simpa using this
theorem seekK_none [Inhabited α] {l:List α} {n:Int} (hq:∀ k,k<l.length→κ (Go.Gm.nth l k)≠n):seekK κ l n=none:=by
 unfold seekK
 rw [List.find?_eq_none]
 intro x hx
 obtain ⟨k,hk,e⟩:=List.getElem_of_mem hx
 have:=hq k hk
 rw [nth_eq hk,e] at this
 simpa using this
theorem seekK_mem {l:List α} {n:Int} {x:α} (h:seekK κ l n=some x):x ∈ l∧κ x=n:=⟨List.mem_of_find?_eq_some h,by have:=List.find?_some h;simpa using this⟩
theorem unl_inj {l:List α} (h:Unl κ l) {x y:α} (hx:x ∈ l) (hy:y ∈ l) (e:κ x=κ y):x=y:=by
 obtain ⟨i,hi,rfl⟩:=List.getElem_of_mem hx
 obtain ⟨j,hj,rfl⟩:=List.getElem_of_mem hy
 have hp:=List.pairwise_iff_getElem.1 h
 rcases Nat.lt_trichotomy i j with h1 | h1 | h1
 · exact absurd e (hp i j hi hj h1)
 · subst h1;rfl
 · exact absurd e.symm (hp j i hj hi h1)
theorem seekK_some {l:List α} (h:Unl κ l) {x:α} (hx:x ∈ l):seekK κ l (κ x)=some x:=by
 cases e:seekK κ l (κ x) with
 | none=>
   unfold seekK at e
   rw [List.find?_eq_none] at e
   exact absurd (by simp) (e x hx)
 | some y=>rw [unl_inj h (seekK_mem e).1 hx (seekK_mem e).2]
theorem seekK_is {l:List α} {n:Int} : (seekK κ l n).isSome=true ↔ ∃ x ∈ l,κ x=n:=by
 unfold seekK
 rw [List.find?_isSome]
 simp
theorem seekK_no {l:List α} {n:Int} : (seekK κ l n).isNone=true ↔ ∀ x ∈ l,κ x≠n:=by
 unfold seekK
 rw [Option.isNone_iff_eq_none,List.find?_eq_none]
 simp
theorem rise_adj [Inhabited α] {l:List α} (h:∀ i,i+1<l.length→κ (Go.Gm.nth l i)<κ (Go.Gm.nth l (i+1))):RiseK κ l:=by
 have hk:∀ d i,i+d+1<l.length→κ (Go.Gm.nth l i)<κ (Go.Gm.nth l (i+d+1)):=by
   intro d
   induction d with
   | zero=>exact h
   | succ d ih=>intro i hi;exact Int.lt_trans (ih i (by omega)) (h (i+d+1) hi)
 refine List.pairwise_iff_getElem.2 fun i j hi hj hij=>?_
 have:=hk (j - i - 1) i (by omega)
 rw [show i+(j - i - 1)+1=j by omega,nth_eq hi,nth_eq hj] at this
 exact this
theorem rise_nth [Inhabited α] {l:List α} (h:RiseK κ l) {i:Nat} (hi:i+1<l.length):κ (Go.Gm.nth l i)<κ (Go.Gm.nth l (i+1)):=by
 rw [nth_eq (by omega),nth_eq hi]
 exact List.pairwise_iff_getElem.1 h i (i+1) (by omega) hi (by omega)
def turnK (κ:α→Int) (l was now:List α):List α:=sortZ κ ((l.filter fun x=>(seekK κ was (κ x)).isNone)++now)
theorem turn_mem {l was now:List α} {x:α} : x ∈ turnK κ l was now ↔ (x ∈ l ∧ ∀ y ∈ was,κ y≠κ x)∨x ∈ now:=by
 unfold turnK
 rw [(sortZ_perm _).mem_iff,List.mem_append,List.mem_filter,seekK_no]
theorem turn_len {l was now:List α} : (turnK κ l was now).length≤l.length+now.length:=by
 unfold turnK
 rw [sortZ_len,List.length_append]
 have:=List.length_filter_le (fun x=>(seekK κ was (κ x)).isNone) l
 omega
variable [DecidableEq α]
def lessK (κ:α→Int) (a b:List α):List α:=a.filter fun x=>decide (seekK κ b (κ x)≠some x)
theorem lessK_len (a b:List α):(lessK κ a b).length≤a.length:=List.length_filter_le _ _
theorem lessK_sub {a b:List α} {x:α} (h:x ∈ lessK κ a b):x ∈ a:=(List.mem_filter.1 h).1
theorem lessK_mem {a b:List α} (hb:Unl κ b) {x:α} : x ∈ lessK κ a b ↔ x ∈ a∧x ∉ b:=by
 unfold lessK
 rw [List.mem_filter]
 refine and_congr_right fun _=>?_
 rw [decide_eq_true_eq]
 exact not_congr ⟨fun e=>(seekK_mem e).1,fun e=>seekK_some hb e⟩
def fitsK (κ:α→Int) (l was now:List α):Bool:=decide (lessK κ was l = []) && now.all fun x=>!((seekK κ l (κ x)).isSome && !(seekK κ was (κ x)).isSome)
theorem less_rise {a b:List α} (h:RiseK κ a):RiseK κ (lessK κ a b):=h.sublist List.filter_sublist
theorem fits_less {a b:List α} (ha:RiseK κ a) (hb:RiseK κ b):fitsK κ a (lessK κ a b) (lessK κ b a)=true:=by
 unfold fitsK
 rw [Bool.and_eq_true,decide_eq_true_eq,List.all_eq_true]
 refine ⟨List.eq_nil_iff_forall_not_mem.2 fun x hx=>?_,fun x hx=>?_⟩
 · have h1:=(lessK_mem ha.unl).1 hx
   exact h1.2 (lessK_sub h1.1)
 · have h1:=(lessK_mem ha.unl).1 hx
   cases e:(seekK κ a (κ x)).isSome with
   | false=>rfl
   | true=>
     obtain ⟨y,hy,ey⟩:=seekK_is.1 e
     have:(seekK κ (lessK κ a b) (κ x)).isSome=true:=seekK_is.2 ⟨y,(lessK_mem hb.unl).2 ⟨hy,fun h2=>h1.2 (by rw [← unl_inj hb.unl h2 h1.1 ey];exact hy)⟩,ey⟩
     rw [this];rfl
theorem turn_unl {l was now:List α} (hl:Unl κ l) (hn:Unl κ now) (hf:fitsK κ l was now=true):Unl κ ((l.filter fun x=>(seekK κ was (κ x)).isNone)++now):=by
 unfold fitsK at hf
 rw [Bool.and_eq_true,decide_eq_true_eq,List.all_eq_true] at hf
 refine List.pairwise_append.2 ⟨hl.sublist List.filter_sublist,hn,fun x hx y hy e=>?_⟩
 have h1:=List.mem_filter.1 hx
 have h2:=hf.2 y hy
 have h3:(seekK κ l (κ y)).isSome=true:=seekK_is.2 ⟨x,h1.1,e⟩
 have h4:(seekK κ was (κ y)).isSome=false:=by
   cases e2:(seekK κ was (κ y)).isSome with
   | false=>rfl
   | true=>
     obtain ⟨z,hz,ez⟩:=seekK_is.1 e2
     exact absurd (ez.trans e.symm) (seekK_no.1 h1.2 z hz)
 rw [h3,h4] at h2
 cases h2
theorem turn_rise {l was now:List α} (hl:Unl κ l) (hn:Unl κ now) (hf:fitsK κ l was now=true):RiseK κ (turnK κ l was now):=sortZ_rise (turn_unl hl hn hf)
theorem turn_less {a b:List α} (ha:RiseK κ a) (hb:RiseK κ b):turnK κ a (lessK κ a b) (lessK κ b a)=b:=by
 refine riseK_ext (turn_rise ha.unl (less_rise hb).unl (fits_less ha hb)) hb fun x=>?_
 rw [turn_mem,lessK_mem ha.unl]
 constructor
 · rintro (⟨h1,h2⟩ | ⟨h1,_⟩)
   · refine Decidable.byContradiction fun h3=>h2 x ((lessK_mem hb.unl).2 ⟨h1,h3⟩) rfl
   · exact h1
 · intro h1
   by_cases h2:x ∈ a
   · exact .inl ⟨h2,fun y hy e=>by
       have h3:=(lessK_mem hb.unl).1 hy
       exact h3.2 (by rw [unl_inj ha.unl h3.1 h2 e];exact h1)⟩
   · exact .inr ⟨h1,h2⟩
end
def RightD (d:DeltaD):Prop:=RiseK TxD.id d.was∧RiseK TxD.id d.now∧RiseK OrdD.key d.old∧RiseK OrdD.key d.new
instance (d:DeltaD):Decidable (RightD d):=by unfold RightD;exact inferInstance
def noD:DeltaD:=⟨[],[],[],[]⟩
def noH:HistD:=⟨[],[]⟩
def ofD (h g:HistD):DeltaD×Int:=if RightH h∧RightH g then (⟨lessK TxD.id h.txs g.txs,lessK TxD.id g.txs h.txs,lessK OrdD.key h.orders g.orders,lessK OrdD.key g.orders h.orders⟩,0) else (noD,5)
def fitsD (h:HistD) (d:DeltaD):Bool:=fitsK TxD.id h.txs d.was d.now && fitsK OrdD.key h.orders d.old d.new
def turnD (h:HistD) (d:DeltaD):HistD:=⟨turnK TxD.id h.txs d.was d.now,turnK OrdD.key h.orders d.old d.new⟩
def applyD (h:HistD) (d:DeltaD):HistD×Int:=if ¬ (RightH h∧RightD d) then (noH,5) else if fitsD h d=false then (noH,17) else if RightH (turnD h d) then (turnD h d,0) else (noH,8)
theorem RightH.rise {h:HistD} (hr:RightH h):RiseK TxD.id h.txs∧RiseK OrdD.key h.orders:=by
 refine ⟨rise_adj fun i hi=>?_,rise_adj fun i hi=>?_⟩
 · have:=(hr.2.1 (i+1) hi).1 (by omega)
   simpa using this
 · have:=(((ord_same h).2 hr.2.2).2 (i+1) hi).1 (by omega)
   simpa using this
theorem apply_of {h g:HistD} (h1:RightH h) (h2:RightH g):applyD h (ofD h g).1=(g,0):=by
 have r1:=h1.rise
 have r2:=h2.rise
 have hD:RightD (ofD h g).1:=by unfold ofD;rw [if_pos ⟨h1,h2⟩];exact ⟨less_rise r1.1,less_rise r2.1,less_rise r1.2,less_rise r2.2⟩
 have hF:fitsD h (ofD h g).1=true:=by unfold ofD fitsD;rw [if_pos ⟨h1,h2⟩];dsimp only;rw [fits_less r1.1 r2.1,fits_less r1.2 r2.2];rfl
 have hT:turnD h (ofD h g).1=g:=by unfold ofD turnD;rw [if_pos ⟨h1,h2⟩];dsimp only;rw [turn_less r1.1 r2.1,turn_less r1.2 r2.2]
 unfold applyD
 rw [if_neg (by simp [h1,hD]),hF,if_neg (by simp),hT,if_pos h2]
end Go.Proofs.YtcfgcpcakdknkaaGreat
