/- Texts of operations read back. No condition beyond those that each theorem says. -/
import Derived.Test.YtjdcnjemhjldoaaGreatDoorOp5
import Derived.Test.YtjdcnjemhjldoaaGreatDoorNuT
namespace Go.Proofs.YtjdcnjemhjldoaaGreatDoor
open Go Go.Gm
set_option linter.unusedVariables false
set_option linter.unusedSimpArgs false
set_option maxHeartbeats 4000000
set_option maxRecDepth 8000


theorem textO_write {o : OpD} (hk : rightO o = true) (hr : o.read = false) : textO o = 119 :: textL o.key := by unfold textO; rw [if_neg (by rw [hk]; decide), if_pos hr]
theorem textO_first {o : OpD} (hk : rightO o = true) (hr : o.read = true) (h : o.tx = 0) : textO o = 114 :: (textL o.key ++ 64 :: textL 0) := by
  unfold textO
  rw [if_neg (by rw [hk]; decide), if_neg (by rw [hr]; decide), if_pos h, text_zero]
  simp
theorem textO_read {o : OpD} (hk : rightO o = true) (hr : o.read = true) (h : o.tx ≠ 0) : textO o = 114 :: (textL o.key ++ 64 :: (textL o.tx ++ 46 :: textL o.nth)) := by
  unfold textO
  rw [if_neg (by rw [hk]; decide), if_neg (by rw [hr]; decide), if_neg h]
  simp
theorem textO_len {o : OpD} (hk : rightO o = true) : (textO o).length ≤ 100 := by
  have hb := right_rng hk
  have l1 := textL_len (n := o.key) (by omega)
  have l2 := textL_len (n := o.tx) (by omega)
  have l3 := textL_len (n := o.nth) (by omega)
  have l4 := textL_len (n := 0) (by omega)
  by_cases hr : o.read = true
  · by_cases h : o.tx = 0
    · rw [textO_first hk hr h]
      simp only [List.length_cons, List.length_append]
      omega
    · rw [textO_read hk hr h]
      simp only [List.length_cons, List.length_append]
      omega
  · rw [textO_write hk (by simpa using hr)]
    simp only [List.length_cons]
    omega
end Go.Proofs.YtjdcnjemhjldoaaGreatDoor
