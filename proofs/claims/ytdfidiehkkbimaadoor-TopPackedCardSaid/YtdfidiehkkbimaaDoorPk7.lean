/- PackEdges, PackVersions, PackBack. No condition beyond those that each theorem says. -/
import Derived.Test.YtdfidiehkkbimaaDoorPk6
namespace Go.Proofs.YtdfidiehkkbimaaDoor
open Go Go.Gm
set_option linter.unusedVariables false
set_option linter.unusedSimpArgs false
set_option maxHeartbeats 4000000
set_option maxRecDepth 8000


theorem edgeR_no {e : EdgeD} (h : rightB e = false) : edgeR e = (0, 1) := by unfold edgeR; rw [h]; rfl
theorem edgeR_yes {e : EdgeD} (h : rightB e = true) : edgeR e = (edgeN e, 0) := if_pos h
theorem verR_no {v : VerD} (h : rightV v = false) : verR v = (0, 1) := by unfold verR; rw [h]; rfl
theorem verR_yes {v : VerD} (h : rightV v = true) : verR v = (verN v, 0) := if_pos h
theorem eqE (d e : EdgeD) : (decide (d.src = e.src) && (decide (d.dst = e.dst) && (decide (d.kind = e.kind) && (decide (d.key = e.key) && true)))) = decide (d = e) := by
  cases d; cases e
  rw [Bool.eq_iff_iff]
  simp
theorem eqV (u v : VerD) : (decide (u.tx = v.tx) && (decide (u.key = v.key) && (decide (u.nth = v.nth) && true))) = decide (u = v) := by
  cases u; cases v
  rw [Bool.eq_iff_iff]
  simp
theorem unedge_edge {e : EdgeD} (h : rightB e = true) : unedgeR (edgeN e) = (e, 0) := by
  have hb := rightB_iff.1 h
  have he : edgeOf (edgeN e) = e := by
    obtain ⟨s, d, k, y⟩ := e
    simp only [edgeOf, edgeN, EdgeD.mk.injEq]
    simp only at hb
    omega
  unfold unedgeR
  rw [if_neg (by unfold edgeN; omega), he, if_pos h]
theorem edge_unedge {x : Int} (hx : 0 ≤ x) (h : (unedgeR x).2 = 0) : edgeR (unedgeR x).1 = (x, 0) := by
  unfold unedgeR at h ⊢
  split at h
  · cases h
  · rename_i h1
    rw [if_neg h1]
    split at h
    · rename_i h2
      rw [if_pos h2]
      show edgeR (edgeOf x) = (x, 0)
      rw [edgeR_yes h2]
      congr 1
      unfold edgeN edgeOf
      simp only
      omega
    · cases h
theorem unver_ver {v : VerD} (h : rightV v = true) : unverR (verN v) = (v, 0) := by
  have hb := rightV_bd h
  have he : verOf (verN v) = v := by
    obtain ⟨t, k, n⟩ := v
    simp only [verOf, verN, VerD.mk.injEq]
    simp only at hb
    omega
  unfold unverR
  rw [if_neg (by unfold verN; omega), he, if_pos h]
theorem ver_unver {x : Int} (hx : 0 ≤ x) (h : (unverR x).2 = 0) : verR (unverR x).1 = (x, 0) := by
  unfold unverR at h ⊢
  split at h
  · cases h
  · rename_i h1
    rw [if_neg h1]
    split at h
    · rename_i h2
      rw [if_pos h2]
      show verR (verOf x) = (x, 0)
      rw [verR_yes h2]
      congr 1
      unfold verN verOf
      simp only
      omega
    · cases h
theorem less_num {d e : EdgeD} (h : rightB d = true) (h2 : rightB e = true) : (cmpE d e < 0) ↔ (edgeN d < edgeN e) := by
  have hb := rightB_iff.1 h
  have hc := rightB_iff.1 h2
  unfold cmpE keyL cmpL cmpL cmpL cmpL cmpL cmpI edgeN
  repeat' split
  all_goals omega
theorem num_inj {d e : EdgeD} (h : rightB d = true) (h2 : rightB e = true) : (edgeN d = edgeN e) ↔ d = e := by
  refine ⟨fun g => ?_, fun g => by rw [g]⟩
  have h3 := unedge_edge h
  rw [g, unedge_edge h2] at h3
  exact (congrArg Prod.fst h3).symm

end Go.Proofs.YtdfidiehkkbimaaDoor
