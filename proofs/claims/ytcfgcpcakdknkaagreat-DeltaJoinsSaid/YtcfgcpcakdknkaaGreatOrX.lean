/- Or3, Or4, Or5, Or6, in one text. -/
import Derived.Test.YtcfgcpcakdknkaaGreatOr2
import Derived.Test.YtcfgcpcakdknkaaGreatLibP
namespace Go.Proofs.YtcfgcpcakdknkaaGreat
open Go Go.Gm
set_option linter.unusedVariables false
set_option linter.unusedSimpArgs false
set_option maxHeartbeats 4000000
set_option maxRecDepth 8000



end Go.Proofs.YtcfgcpcakdknkaaGreat
namespace Go.Proofs.YtcfgcpcakdknkaaGreat
open Go Go.Gm
set_option linter.unusedVariables false
set_option linter.unusedSimpArgs false
set_option maxHeartbeats 4000000
set_option maxRecDepth 8000

end Go.Proofs.YtcfgcpcakdknkaaGreat
namespace Go.Proofs.YtcfgcpcakdknkaaGreat
open Go Go.Gm
set_option linter.unusedVariables false
set_option linter.unusedSimpArgs false
set_option maxHeartbeats 4000000
set_option maxRecDepth 8000

end Go.Proofs.YtcfgcpcakdknkaaGreat
namespace Go.Proofs.YtcfgcpcakdknkaaGreat
open Go Go.Gm
set_option linter.unusedVariables false
set_option linter.unusedSimpArgs false
set_option maxHeartbeats 4000000
set_option maxRecDepth 8000

theorem moveO_len (l : List Int) (tx place : Int) : (moveO l tx place).1.length ≤ l.length := by
  unfold moveO
  split
  · simp
  · split
    · simp
    · rename_i h1 h2
      have hr := idxL_range tx l
      have h3 : (l.eraseIdx (idxL tx l).toNat).length = l.length - 1 := by rw [List.length_eraseIdx, if_pos (by omega)]
      show (insL _ _ _).length ≤ _
      unfold insL
      split
      · rw [List.length_append, List.length_cons, List.length_take, List.length_drop]; omega
      · omega
end Go.Proofs.YtcfgcpcakdknkaaGreat
