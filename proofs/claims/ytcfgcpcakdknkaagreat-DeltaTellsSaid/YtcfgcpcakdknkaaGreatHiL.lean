/- Light histories. No condition beyond those that each theorem says. -/
import Derived.Test.YtcfgcpcakdknkaaGreatHi0
import Derived.Test.YtcfgcpcakdknkaaGreatDaX
namespace Go.Proofs.YtcfgcpcakdknkaaGreat
open Go Go.Gm
set_option linter.unusedVariables false
set_option linter.unusedSimpArgs false
set_option maxHeartbeats 4000000
set_option maxRecDepth 8000
instance (h:HistD):Decidable (HLight h):=by unfold HLight;exact inferInstance
theorem HLight.small {h:HistD} (hl:HLight h):Small h:=by
 obtain ⟨h1,h2,h3,h4⟩:=hl
 refine ⟨⟨by omega,fun t ht=>?_⟩,by omega,fun o ho=>?_⟩
 · obtain ⟨j,hj,e⟩:=List.getElem_of_mem ht
   have:=h3 j hj
   rw [nth_eq hj,e] at this;omega
 · obtain ⟨j,hj,e⟩:=List.getElem_of_mem ho
   have:=h4 j hj
   rw [nth_eq hj,e] at this;omega
end Go.Proofs.YtcfgcpcakdknkaaGreat
