/- Orders: the plain law. No condition beyond those that each theorem says. -/
import Derived.Test.YtcfgcpcakdknkaaGreatPrX
namespace Go.Proofs.YtcfgcpcakdknkaaGreat
open Go Go.Gm
set_option linter.unusedVariables false
set_option linter.unusedSimpArgs false
set_option maxHeartbeats 4000000
set_option maxRecDepth 8000
def idxL (v:Int):List Int→Int
 | []=>-1
 | x :: l=>if x=v then 0 else if idxL v l<0 then -1 else idxL v l+1
theorem idxL_none {v:Int} : ∀ {l:List Int},(∀ k,k<l.length→Go.Gm.nth l k≠v)→idxL v l = -1
 | [],_=>rfl
 | x :: l,h=>by
   have h0:x≠v:=h 0 (by simp)
   rw [idxL,if_neg h0,idxL_none (l:=l) fun k hk=>by have:=h (k+1) (by simpa using hk);exact this,if_pos (by decide)]
theorem idxL_mem {v:Int} {l:List Int} (h:v ∈ l):∃ i:Nat,idxL v l=i∧i<l.length∧Go.Gm.nth l i=v ∧ ∀ k,k<i→Go.Gm.nth l k≠v:=by
 induction l with
 | nil=>cases h
 | cons x l ih=>
   by_cases hx:x=v
   · exact ⟨0,by rw [idxL,if_pos hx];rfl,by simp,hx,fun k hk=>absurd hk (Nat.not_lt_zero k)⟩
   · obtain ⟨i,h1,h2,h3,h4⟩:=ih (by rcases List.mem_cons.1 h with h | h;exact absurd h.symm hx;exact h)
     refine ⟨i+1,by rw [idxL,if_neg hx,h1,if_neg (by omega)];omega,by simpa using h2,h3,fun k hk=>?_⟩
     cases k with
     | zero=>exact hx
     | succ k=>exact h4 k (by omega)
theorem idxL_not {v:Int} {l:List Int} (h:v ∉ l):idxL v l = -1:=idxL_none fun k hk e=>h (e ▸ nth_mem hk)
theorem idxL_range (v:Int) (l:List Int) : -1≤idxL v l∧idxL v l<l.length:=by
 by_cases h:v ∈ l
 · obtain ⟨i,h1,h2,_⟩:=idxL_mem h
   omega
 · rw [idxL_not h];omega
def insL (l:List Int) (j x:Int):List Int:=if 0≤j∧j≤l.length then l.take j.toNat++x :: l.drop j.toNat else l
def RightO (l:List Int):Prop:=(∀ x ∈ l,1≤x∧x≤1048575)∧l.Nodup
instance (l:List Int):Decidable (RightO l):=by unfold RightO;exact inferInstance
theorem RightO.take {l:List Int} (h:RightO l) (i:Nat):RightO (l.take i):=⟨fun x hx=>h.1 x (List.mem_of_mem_take hx),h.2.sublist (List.take_sublist i l)⟩
def leI (x y:Int):Bool:=decide (x≤y)
theorem sort_perm {a b:List Int} : a.mergeSort leI=b.mergeSort leI ↔ a.Perm b:=by
 constructor
 · intro h
   exact (List.mergeSort_perm a leI).symm.trans (h ▸ List.mergeSort_perm b leI)
 · intro h
   have hs:∀ l:List Int,List.Pairwise (fun x y=>x≤y) (l.mergeSort leI):=fun l=>by
     have:=List.pairwise_mergeSort (le:=leI) (fun a b c h1 h2=>by simp [leI] at *;omega) (fun a b=>by simp [leI];omega) l
     exact this.imp fun h=>by simpa [leI] using h
   exact List.Perm.eq_of_pairwise (fun x y _ _ h1 h2=>Int.le_antisymm h1 h2) (hs a) (hs b) (((List.mergeSort_perm a leI).trans h).trans (List.mergeSort_perm b leI).symm)
theorem perm_counts {a b:List Int} : (a.length=b.length ∧ ∀ x ∈ a,a.count x=b.count x) ↔ a.Perm b:=by
 constructor
 · rintro ⟨hl,hc⟩
   have key:∀ (a b:List Int),(∀ x ∈ a,a.count x≤b.count x) → ∃ c,b.Perm (a++c):=by
     intro a
     induction a with
     | nil=>intro b _;exact ⟨b,List.Perm.refl _⟩
     | cons x a ih=>
       intro b h
       have hx:x ∈ b:=by
         have:=h x (by simp)
         rw [List.count_cons_self] at this
         exact List.count_pos_iff.1 (by omega)
       obtain ⟨c,hc⟩:=ih (b.erase x) fun y hy=>by
         have:=h y (by simp [hy])
         rw [List.count_cons] at this
         rw [List.count_erase]
         split at this <;> rename_i e
         · rw [if_pos e];omega
         · rw [if_neg e];omega
       exact ⟨c,(List.perm_cons_erase hx).trans (hc.cons x)⟩
   obtain ⟨c,hp⟩:=key a b fun x hx=>by rw [hc x hx];exact Nat.le_refl _
   have:=hp.length_eq
   rw [List.length_append] at this
   have hc0:c = []:=List.eq_nil_of_length_eq_zero (by omega)
   rw [hc0,List.append_nil] at hp
   exact hp.symm
 · intro h
   exact ⟨h.length_eq,fun x _=>h.count_eq x⟩
def withO (l:List Int) (tx:Int):List Int:=if tx ∈ l then l else l ++ [tx]
def withoutO (l:List Int) (tx:Int):List Int:=l.filter fun x=>decide (x≠tx)
def moveO (l:List Int) (tx place:Int):List Int×Int:=if idxL tx l<0 then ([],3) else if ¬ (0≤place∧place<l.length) then ([],1) else (insL (l.eraseIdx (idxL tx l).toNat) place tx,0)
def OkSteps (a b:List Int):Prop:=RightO a∧RightO b∧a.Perm b
instance (a b:List Int):Decidable (OkSteps a b):=by unfold OkSteps;exact inferInstance
end Go.Proofs.YtcfgcpcakdknkaaGreat
