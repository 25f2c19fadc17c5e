/- Text. No condition beyond those that each theorem says. -/
import Derived.Test.YtpjjmolibanakaaDoorNu4
namespace Go.Proofs.YtpjjmolibanakaaDoor
open Go Go.Gm
set_option linter.unusedVariables false
set_option linter.unusedSimpArgs false
set_option maxHeartbeats 4000000
set_option maxRecDepth 8000

theorem digZ_len : ∀ (k u : Nat), u < 10 ^ k → (digZ u).length ≤ k
  | 0, u, h => by
    have : u = 0 := by simpa using h
    rw [this, digZ_0]; simp
  | k + 1, u, h => by
    by_cases h0 : u = 0
    · rw [h0, digZ_0]; simp
    · rw [digZ_pos h0]
      unfold digL
      have := digZ_len k (u / 10) (by rw [Nat.pow_succ] at h; omega)
      rw [List.length_append]
      simp only [List.length_cons, List.length_nil]
      omega
theorem digL_len {u : Nat} (h : u ≤ 18446744073709551615) : (digL u).length ≤ 20 := by
  have := digZ_len 19 (u / 10) (by omega)
  unfold digL
  rw [List.length_append]
  simp only [List.length_cons, List.length_nil]
  omega
theorem abs_u64 {n : Int} (h : -9223372036854775808 ≤ n ∧ n ≤ 9223372036854775807) : n.natAbs ≤ 18446744073709551615 := by omega
structure RefOk (u0 i x : Nat) (l : List UInt8) : Prop where
  hl : l.length = i
  hi : i ≤ 20
  hx : x < 10 ^ (20 - i)
  hb : x ≤ 18446744073709551615
  ok : (i = 0 ∧ x = u0 ∧ l = []) ∨ (0 < i ∧ (digZ x).map toB ++ l = (digL u0).map toB)
theorem RefOk.start {u0 : Nat} (h : u0 ≤ 18446744073709551615) : RefOk u0 0 u0 [] := ⟨rfl, by decide, by omega, h, .inl ⟨rfl, rfl, rfl⟩⟩
theorem RefOk.next {u0 i x : Nat} {l : List UInt8} (h : RefOk u0 i x l) (hc : i = 0 ∨ 0 < x) : RefOk u0 (i + 1) (x / 10) (toB ((48 + x % 10 : Nat) : Int) :: l) := by
  have hi := h.hi
  have hlt : i < 20 := by
    rcases hc with hc | hc
    · omega
    · rcases Nat.lt_or_ge i 20 with h1 | h1
      · exact h1
      · have := h.hx; rw [show 20 - i = 0 by omega] at this; omega
  refine ⟨by rw [List.length_cons, h.hl], by omega, ?_, by have := h.hb; omega, .inr ⟨by omega, ?_⟩⟩
  · have := h.hx
    rw [show 20 - i = (20 - (i + 1)) + 1 by omega, Nat.pow_succ] at this
    omega
  · have e : (digZ (x / 10)).map toB ++ toB ((48 + x % 10 : Nat) : Int) :: l = (digL x).map toB ++ l := by unfold digL; simp
    rw [e]
    rcases h.ok with ⟨_, h3, h4⟩ | ⟨h2, h3⟩
    · rw [h3, h4]; simp
    · rw [← digZ_pos (by omega)]; exact h3
theorem RefOk.done {u0 i x : Nat} {l : List UInt8} (h : RefOk u0 i x l) (h1 : i ≠ 0) (h2 : x = 0) : l = (digL u0).map toB := by
  rcases h.ok with ⟨h3, _⟩ | ⟨_, h3⟩
  · exact absurd h3 h1
  · rw [h2, digZ_0] at h3; simpa using h3

theorem text_c (n : Int) : FnP Tryd.prog 19 [.int .i64 n] (.bs (textL n)) := by
  refine FnP.mk Tryd.func19 rfl Tryd.ntmps19 rfl ?_
  intro B a w F hB hfr hS
  have hn := range_i64 (hS.range (i := 0) rfl)
  have hz := digL_len (abs_u64 hn)
  refine wp_seq ?_
  refine region_q hS
    (cF rfl (oN (.cs (by kernel_rfl))) trivial trivial
    Chain.nil)
    hB ?_
  clear hS; intro a w F hS
  obtain ⟨F, hS⟩ := hS.nm [2, 0] [0] rfl rfl
  refine then_n (wp_seq (wp_seq ?_))
  refine region_q hS
    (cF rfl (oM .t) r1 trivial
    (cF rfl (o_lss .t (.ci (by kernel_rfl))) r1 trivial
    Chain.nil))
    hB ?_
  clear hS; intro a w F hS
  obtain ⟨F, hS⟩ := hS.nm [4, 2, 0] [0] rfl rfl
  refine then_n ?_
  refine cond_b hS rfl (fun hc0 => ?_) (fun hc0 => ?_)
  ·skip
   have hb : n < 0 := of_decide_eq_true hc0
   have hu : IntKind.wrap .u64 (0 - IntKind.wrap .u64 n) = (n.natAbs : Int) := by rw [u64_wrap, u64_wrap]; omega
   have hg : textL n = 45 :: (digL n.natAbs).map toB := if_pos hb
   refine wp_seq ?_
   refine region_q hS
     (cF rfl (oM .t) r1 trivial
     (cF rfl (o_conv Tryd.underlying73 (by kernel_rfl) .t) r1 trivial
     (cF rfl (o_neg .t) r1 trivial
     (cF rfl (oP (digits_c n.natAbs (abs_u64 hn)) Tryd.func34 (Args.one (.conv .t (.int hu)))) r1 trivial
     (cF rfl (o_add_bs (.cs (by kernel_rfl)) .t (by simp only [List.length_cons, List.length_nil, List.length_map]; omega)) r1 trivial
     (cF rfl (oN .t) r1 trivial
     Chain.nil))))))
     hB ?_
   clear hS; intro a w F hS
   obtain ⟨F, hS⟩ := hS.nm [2, 0] [0] rfl rfl
   refine then_n (wp_ret (then_r ?_))
   refine ret_P hfr hS rfl (.tmp rfl .nil) (.one (.bs (by rw [hg]; try rfl)))
  have hb : ¬ n < 0 := of_decide_eq_false hc0
  have hu : IntKind.wrap .u64 n = (n.natAbs : Int) := by rw [u64_wrap]; omega
  have hg : textL n = (digL n.natAbs).map toB := if_neg hb
  refine wp_skip (then_n (wp_seq ?_))
  refine region_q hS
    (cF rfl (oM .t) r1 trivial
    (cF rfl (o_conv Tryd.underlying73 (by kernel_rfl) .t) r1 trivial
    (cF rfl (oP (digits_c n.natAbs (abs_u64 hn)) Tryd.func34 (Args.one (.conv .t (.int hu)))) r1 trivial
    (cF rfl (oN .t) r1 trivial
    Chain.nil))))
    hB ?_
  clear hS; intro a w F hS
  obtain ⟨F, hS⟩ := hS.nm [2] [0] rfl rfl
  refine then_n (wp_ret ?_)
  refine ret_P hfr hS rfl (.tmp rfl .nil) (.one (.bs (by rw [hg]; try rfl)))

end Go.Proofs.YtpjjmolibanakaaDoor
