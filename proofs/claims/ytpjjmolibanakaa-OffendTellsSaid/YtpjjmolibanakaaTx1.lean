/- Slices of operations: Clone, IndexFunc. No condition beyond those that each theorem says. -/
import Derived.Test.YtpjjmolibanakaaTx0
namespace Go.Proofs.Ytpjjmolibanakaa
open Go Go.Gm
set_option linter.unusedVariables false
set_option linter.unusedSimpArgs false
set_option maxHeartbeats 4000000
set_option maxRecDepth 8000


structure OpD where
  read : Bool
  key : Int
  tx : Int
  nth : Int
  deriving DecidableEq, Inhabited
structure TxD where
  id : Int
  done : Bool
  ops : List OpD
  deriving DecidableEq, Inhabited
def rOp (o : OpD) : List PV := [.bool o.read, .int .i64 o.key, .int .i64 o.tx, .int .i64 o.nth]
def rTx (t : TxD) : List PV := [.int .i64 t.id, .bool t.done, .sl rOp t.ops]
theorem cloneO_c (l : List OpD) (hl : l.length ≤ 1000000) : FnG Try.prog 107 1 [.sl rOp l] [.star []] (PV.one) (fun v => [rowH 102 4 rOp l v]) := by
  refine FnG.mk Try.func107 rfl Try.ntmps107 rfl (by kernel_rfl) ?_
  intro B F0 a w F hB hG hS
  obtain ⟨F, hS⟩ := hS.norm [(0, _)] [(0, _)] r1 r1
  refine wp_seq ?_
  refine region_seq hS (by kernel_rfl)
    (cF rfl (o_assign (.c rfl) (by rfl)) trivial trivial
    Chain.nil)
    (by kernel_rfl) (by rw [hB]; kernel_rfl) ?_
  clear hS; intro a w F hS
  obtain ⟨F, hS⟩ := hS.norm [(0, _), (2, _)] [(0, _)] r2 r1
  try dsimp only [rOp] at hS
  refine then_n ?_
  refine wp_seq ?_
  refine wp_seq ?_
  refine region_seq hS (by kernel_rfl)
    (cF rfl (o_move .t (by rfl)) r1 trivial
    (cF rfl (o_eql_nilsl Try.underlying46 .t) r1 trivial
    Chain.nil))
    (by kernel_rfl) (by rw [hB]; kernel_rfl) ?_
  clear hS; intro a w F hS
  obtain ⟨F, hS⟩ := hS.norm [(0, _), (2, _), (4, _)] [(0, _)] r3 r1
  try dsimp only [rOp] at hS
  obtain ⟨β4, hβ4, hS⟩ := hS.pickBool 4 rfl
  obtain ⟨F, hS⟩ := hS.norm [(0, _), (2, _), (4, _)] [(0, _)] r3 r1
  refine then_n ?_
  refine cond_b hS rfl (fun hc0 => ?_) (fun hc0 => ?_)
  ·skip
   have hg : l = [] := hβ4 hc0
   refine wp_seq ?_
   refine region_seq hS (by kernel_rfl)
     (cF rfl (o_assign (.c rfl) (by rfl)) trivial trivial
     Chain.nil)
     (by kernel_rfl) (by rw [hB]; kernel_rfl) ?_
   clear hS; intro a w F hS
   obtain ⟨F, hS⟩ := hS.norm [(0, _), (2, _)] [(0, _)] r2 r1
   try dsimp only [rOp] at hS
   refine then_n ?_
   refine wp_ret ?_
   refine then_r ?_
   have hS := hS.fresh 1 rfl
   have hS := hS.turn 1 rfl (nilRow (T := 102) (sz := 4) (R := rOp))
   have hS := hS.turn 1 rfl (r' := RS.hp (rowH 102 4 rOp l (.slice none 0 0))) (fun _ _ _ _ h => by rw [hg]; exact h)
   refine ret_N1 (h' := fun v => rowH 102 4 rOp l v) hG hS rfl (.tmp rfl .nil) (.one .one) rfl
  ·skip
   have hg : l = [] ++ l := rfl
   refine wp_skip ?_
   refine then_n ?_
   refine wp_seq ?_
   refine region_seq hS (by kernel_rfl)
     (cF rfl (o_buildSlice0 (R := rOp) (sz := 4) 101 Try.underlying46 (by kernel_rfl)) trivial trivial
     (cF rfl (o_move .t (by rfl)) r1 trivial
     (cF rfl (o_append (sz := 4) (bs := 32) 101 (.mk' Try.underlying46 (by kernel_rfl) (by kernel_rfl)) (by intro x; rfl) .same (.sl .t) (by simp only [List.length_append, List.length_nil]; omega) (by decide)) ⟨rfl, rfl, trivial⟩ ⟨rfl, trivial⟩
     (cF rfl (o_assign .t (by rfl)) r1 trivial
     Chain.nil))))
     (by kernel_rfl) (by rw [hB]; kernel_rfl) ?_
   clear hS; intro a w F hS
   replace hS := hS.sub
   obtain ⟨F, hS⟩ := hS.norm [(2, _)] [(0, _), (101, _)] r1 r2
   try dsimp only [RS.sub, SF.sub, CF.sub, csub, Anc.sub, List.map, stCells, List.length_cons, List.length_nil, Nat.reduceAdd, List.drop_succ_cons, List.drop_zero, List.drop_nil, List.take_succ_cons, List.take_zero, List.take_nil, List.cons_append, List.nil_append, zCF, rOp] at hS
   generalize Act.tau a 7 = v7 at hS
   refine then_n ?_
   refine wp_ret ?_
   obtain ⟨F, hS⟩ := hS.rename 101 1 rfl rfl
   have hS := hS.turn 1 rfl (r' := RS.hp (rowH 102 4 rOp l v7)) (fun _ _ _ _ h => by rw [hg]; exact h)
   refine ret_N1 (h' := fun v => rowH 102 4 rOp l v) hG hS rfl (.tmp rfl .nil) (.one .one) rfl

end Go.Proofs.Ytpjjmolibanakaa
