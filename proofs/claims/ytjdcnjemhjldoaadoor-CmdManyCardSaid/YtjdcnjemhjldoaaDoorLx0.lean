/- Texts cut into pieces. No condition beyond those that each theorem says. -/
import Derived.Test.YtjdcnjemhjldoaaDoorLibX
import Derived.Test.YtjdcnjemhjldoaaDoorBa0
namespace Go.Proofs.YtjdcnjemhjldoaaDoor
open Go Go.Gm
set_option linter.unusedVariables false
set_option linter.unusedSimpArgs false
set_option maxHeartbeats 4000000
set_option maxRecDepth 8000


def splitL (c : UInt8) : List UInt8 → List (List UInt8)
  | [] => [[]]
  | b :: r => if b = c then [] :: splitL c r else match splitL c r with
    | [] => [[b]]
    | h :: t => (b :: h) :: t
theorem splitL_eq (c b : UInt8) (r : List UInt8) : splitL c (b :: r) = if b = c then [] :: splitL c r else match splitL c r with
    | [] => [[b]]
    | h :: t => (b :: h) :: t := by rw [splitL]
def preL (p : List UInt8) : List (List UInt8) → List (List UInt8)
  | [] => [p]
  | h :: t => (p ++ h) :: t
def joinL : List (List UInt8) → List UInt8
  | [] => []
  | [x] => x
  | x :: y :: r => x ++ 32 :: joinL (y :: r)
theorem split_ne (c : UInt8) : ∀ s, splitL c s ≠ []
  | [] => by simp [splitL]
  | b :: r => by
    rw [splitL_eq]
    split
    · simp
    · split <;> simp
theorem split_len (c : UInt8) : ∀ s, (splitL c s).length = s.count c + 1
  | [] => rfl
  | b :: r => by
    have ih := split_len c r
    rw [splitL_eq]
    by_cases h : b = c
    · rw [if_pos h, List.length_cons, ih, h, List.count_cons_self]
    · rw [if_neg h, List.count_cons_of_ne h]
      match hs : splitL c r with
      | [] => exact absurd hs (split_ne c r)
      | x :: t => rw [hs] at ih; simpa using ih
theorem split_app (c : UInt8) : ∀ (p s : List UInt8), c ∉ p → splitL c (p ++ s) = preL p (splitL c s)
  | [], s, _ => by
    rw [List.nil_append]
    match hs : splitL c s with
    | [] => exact absurd hs (split_ne c s)
    | x :: t => rfl
  | b :: p, s, h => by
    simp only [List.mem_cons, not_or] at h
    rw [List.cons_append, splitL_eq, if_neg (fun e => h.1 e.symm), split_app c p s h.2]
    match hs : splitL c s with
    | [] => exact absurd hs (split_ne c s)
    | x :: t => rfl
theorem split_hit (c : UInt8) (s : List UInt8) : splitL c (c :: s) = [] :: splitL c s := by rw [splitL_eq, if_pos rfl]
theorem index_split (c : UInt8) : ∀ s : List UInt8, (Lib.indexByte s c < 0 → c ∉ s) ∧ (0 ≤ Lib.indexByte s c → s = s.take (Lib.indexByte s c).toNat ++ c :: s.drop ((Lib.indexByte s c).toNat + 1) ∧ c ∉ s.take (Lib.indexByte s c).toNat ∧ (Lib.indexByte s c).toNat < s.length)
  | [] => by simp [Lib.indexByte]
  | b :: l => by
    obtain ⟨ih1, ih2⟩ := index_split c l
    have hb := indexByte_lt c l
    unfold Lib.indexByte
    by_cases h : b = c
    · subst h
      simp
    · rw [if_neg (by simpa using h)]
      by_cases h1 : Lib.indexByte l c = -1
      · rw [if_pos (by simpa using h1)]
        refine ⟨fun _ => ?_, fun h2 => absurd h2 (by decide)⟩
        simp only [List.mem_cons, not_or]
        exact ⟨fun e => h e.symm, ih1 (by omega)⟩
      · rw [if_neg (by simpa using h1)]
        refine ⟨fun h2 => by omega, fun _ => ?_⟩
        obtain ⟨g1, g2, g3⟩ := ih2 (by omega)
        rw [show (Lib.indexByte l c + 1).toNat = (Lib.indexByte l c).toNat + 1 by omega]
        refine ⟨?_, ?_, by simpa using g3⟩
        · rw [List.take_succ_cons, List.drop_succ_cons, List.cons_append, ← g1]
        · rw [List.take_succ_cons]
          simp only [List.mem_cons, not_or]
          exact ⟨fun e => h e.symm, g2⟩
theorem split_none {c : UInt8} {s : List UInt8} (h : Lib.indexByte s c < 0) : splitL c s = [s] := by
  have := split_app c s [] ((index_split c s).1 h)
  rw [List.append_nil] at this
  rw [this]
  simp [splitL, preL]
theorem split_cut {c : UInt8} {s : List UInt8} (h : 0 ≤ Lib.indexByte s c) : splitL c s = s.take (Lib.indexByte s c).toNat :: splitL c (s.drop ((Lib.indexByte s c).toNat + 1)) := by
  obtain ⟨g1, g2, g3⟩ := (index_split c s).2 h
  conv => lhs; rw [g1]
  rw [split_app c _ _ g2, split_hit]
  simp [preL]
theorem join_pre (p : List UInt8) : ∀ l, l ≠ [] → joinL (preL p l) = p ++ joinL l
  | [], h => absurd rfl h
  | [x], _ => rfl
  | x :: y :: r, _ => by simp [preL, joinL]
theorem join_split : ∀ s, joinL (splitL 32 s) = s
  | [] => rfl
  | b :: r => by
    have ih := join_split r
    have hne := split_ne 32 r
    rw [splitL_eq]
    by_cases h : b = 32
    · rw [if_pos h]
      match hs : splitL 32 r, hne with
      | x :: t, _ => rw [hs] at ih; simp only [joinL, List.nil_append]; rw [ih, h]
    · rw [if_neg h]
      match hs : splitL 32 r, hne with
      | x :: t, _ =>
        rw [hs] at ih
        have := join_pre [b] (x :: t) (by simp)
        rw [ih] at this
        exact this
theorem split_join : ∀ l : List (List UInt8), l ≠ [] → (∀ x ∈ l, (32 : UInt8) ∉ x) → splitL 32 (joinL l) = l
  | [], h, _ => absurd rfl h
  | [x], _, h => by
    have := split_app 32 x [] (h x (by simp))
    rw [List.append_nil] at this
    rw [joinL, this]
    simp [splitL, preL]
  | x :: y :: r, _, h => by
    rw [joinL, split_app 32 x _ (h x (by simp)), split_hit, split_join (y :: r) (by simp) (fun z hz => h z (by simp only [List.mem_cons] at hz ⊢; exact .inr hz))]
    simp [preL]
def okB (c : UInt8) : Bool := decide (32 ≤ c.toNat) && decide (c.toNat ≤ 126)
def wordsR (s : List UInt8) : List (List UInt8) × Int := if s = [] then ([], 0) else if s.all okB = false then ([], 14) else if (splitL 32 s).all (fun w => decide (w ≠ [])) = false then ([], 14) else (splitL 32 s, 0)
def linesR (s : List UInt8) : List (List UInt8) := if nth (splitL 10 s) ((splitL 10 s).length - 1) = [] then (splitL 10 s).take ((splitL 10 s).length - 1) else splitL 10 s

end Go.Proofs.YtjdcnjemhjldoaaDoor
