/- slices.Sort at uint64, turned from the shelf. No condition beyond those that each theorem says. -/
import Derived.Test.YtfdjjfplhdpclaaSu1
import Derived.Shelf.SlLaysM
import Derived.Sort.Walk7
import Derived.Shelf.SortM.Walk7aIn
import Derived.OwnWalkIn
import Derived.TacticsInMore
import Derived.RegionIn
import Derived.LoopNIn
import Derived.LoopIn
import Derived.Sort.CutIn
import Derived.Sort.QuietIn
import Derived.Sort.AtCallIn
import Derived.Shelf.RegionOpen
import Derived.Shelf.AbstractIn
import Derived.Shelf.SortM.Walk7In
namespace Go.Proofs.Ytfdjjfplhdpclaa
open Go Go.Gm
set_option linter.unusedVariables false
set_option linter.unusedSimpArgs false
set_option maxHeartbeats 4000000
set_option maxRecDepth 8000


open Go.Shelf Go.Proofs
variable {P : Program} {ρ : Ren}
section
open Go.Shelf
variable {P : Program} {ρ : Ren}

open Go.RowKit Go.Sort

section
variable {α : Type} [Inhabited α]
end

set_option maxHeartbeats 32000000 in
set_option maxRecDepth 1000000 in
theorem AnySU.breakPatterns_int_goIn (Ly : SuLays.n12 P ρ) (D : Nat) (blk off cap a L : Nat) (d : Array Int) (w : World) (hH : Holds (Value.int .u64) w blk off d) (hblk : blk < w.heap.size) (hb : a + L ≤ d.size) (hsz : d.size < 4611686018427387904) (h8 : 8 ≤ L) :
    CallsIn (Fence.list [ρ.f 5, ρ.f 7, ρ.f 8, ρ.f 10, ρ.f 11, ρ.f 12, ρ.f 13, ρ.f 14, ρ.f 15, ρ.f 16, ρ.f 17, ρ.f 18, ρ.f 20, ρ.f 30, ρ.f 31, ρ.f 32, ρ.f 33, ρ.f 34, ρ.f 35, ρ.f 40] (some D)) 3 P (ρ.f 12) #[.slice (some ⟨blk, off, none⟩) d.size cap, .int .i64 a, .int .i64 ((a + L : Nat) : Int)] w fun e w' =>
      e = .returned (.tuple #[]) ∧ ∃ n os, w' = grow (putRow (Value.int .u64) (Sort.ahead w n) blk off (breakPatterns d a (a + L))) os := by
  rw [breakPatterns_eq d a L h8]
  obtain ⟨M, hM⟩ : ∃ M : Nat, M = 1 <<< bitsLen L := ⟨_, rfl⟩
  have hM1 : 1 ≤ M := by rw [hM, Nat.one_shiftLeft]; exact Nat.two_pow_pos _
  have hM2 : M ≤ 2 * L := by rw [hM, Nat.one_shiftLeft]; exact two_pow_bitsLen_le (by omega)
  have hNP : ∀ w, CallsIn (Fence.list [ρ.f 5, ρ.f 7, ρ.f 8, ρ.f 10, ρ.f 11, ρ.f 12, ρ.f 13, ρ.f 14, ρ.f 15, ρ.f 16, ρ.f 17, ρ.f 18, ρ.f 20, ρ.f 30, ρ.f 31, ρ.f 32, ρ.f 33, ρ.f 34, ρ.f 35, ρ.f 40] (some D)) 2 P (ρ.f 31) #[.int .i64 (L : Int)] w fun e w' => e = .returned (.int .u64 (M : Int)) ∧ w' = w := by rw [hM]; exact fun w => AnySM.nextPowerOfTwoIn { Ly with } D L (by omega) w
  rw [← hM]
  clear hM
  have HH : Hid (Holds (Value.int .u64) w blk off d) := hH
  have HST : Hid (w.alloc (Obj.cells #[.int .u64 (L : Int)] (ρ.t 53)) = grow (putRow (Value.int .u64) (Sort.ahead w 0) blk off d) #[Obj.cells #[.int .u64 ((UInt64.ofNat L).toNat : Int)] (ρ.t 53)]) := by
    show _ = _
    rw [show Sort.ahead w 0 = w from rfl, putRow_self _ _ _ _ _ hH, alloc_eq_grow, show (UInt64.ofNat L).toNat = L from by simp; omega]
  clear hH
  have mixed := Ly.mixed
  have t0 := Ly.t0; have a0 := Ly.a0; have z0 := Ly.z0; have v0 := Ly.v0; have t3 := Ly.t3; have a3 := Ly.a3; have z3 := Ly.z3; have v3 := Ly.v3; have t4 := Ly.t4; have a4 := Ly.a4; have z4 := Ly.z4; have v4 := Ly.v4; have t5 := Ly.t5; have a5 := Ly.a5; have z5 := Ly.z5; have v5 := Ly.v5; have t9 := Ly.t9; have a9 := Ly.a9; have z9 := Ly.z9; have v9 := Ly.v9; have t22 := Ly.t22; have a22 := Ly.a22; have z22 := Ly.z22; have v22 := Ly.v22; have t25 := Ly.t25; have a25 := Ly.a25; have z25 := Ly.z25; have v25 := Ly.v25; have t32 := Ly.t32; have a32 := Ly.a32; have z32 := Ly.z32; have v32 := Ly.v32; have t44 := Ly.t44; have a44 := Ly.a44; have z44 := Ly.z44; have v44 := Ly.v44; have t46 := Ly.t46; have a46 := Ly.a46; have z46 := Ly.z46; have v46 := Ly.v46; have t53 := Ly.t53; have a53 := Ly.a53; have z53 := Ly.z53; have v53 := Ly.v53; have t63 := Ly.t63; have a63 := Ly.a63; have z63 := Ly.z63; have v63 := Ly.v63
  have e329 : ∀ args w, (callFunc (ρ.f 31) args).run P w = .ok (.enter (ρ.f 31) args) w := enters_of Ly.f31 (by kernel_rfl) rfl
  have e330 : ∀ args w, (callFunc (ρ.f 32) args).run P w = .ok (.enter (ρ.f 32) args) w := enters_of Ly.f32 (by kernel_rfl) rfl
  obtain ⟨_, _, FG⟩ := Ly.f12
  gi_enter FG, SlBodyM.n12_ntmps ρ
  gi_wp2_with (first | (gi_at_fn (ρ.f 31); rw [show ((a : Int) + (L : Int) - (a : Int)) = (L : Int) by omega]; refine ((hNP _).more (by omega)).mono ?_; rintro e w' ⟨rfl, rfl⟩))
  gi_loopw [9] (fun vi wr => ∃ (t n : Nat) (r : UInt64) (dk : Array Int), vi = .int .i64 ((a + L / 4 * 2 - 1 + t : Nat) : Int) ∧ t ≤ 3 ∧ dk.size = d.size ∧
      wr = grow (putRow (Value.int .u64) (Sort.ahead w n) blk off dk) #[Obj.cells #[.int .u64 (r.toNat : Int)] (ρ.t 53)] ∧
      bpRest a L M (a + L / 4 * 2 - 1) (3 - t) t (r, dk) = bpRest a L M (a + L / 4 * 2 - 1) 3 0 (UInt64.ofNat L, d)) (fun vi _ => a + L / 4 * 2 + 3 - (intOf vi).toNat)
  case atStart => exact ⟨0, 0, UInt64.ofNat L, d, by congr 1; omega, by omega, rfl, HST.out, rfl⟩
  case round =>
    obtain ⟨t, n, r, dk, rfl, ht, hsk, hw, hR⟩ := hrel
    obtain ⟨R, hRr⟩ : ∃ R : Nat, R = r.toNat := ⟨_, rfl⟩
    have lR : R < 18446744073709551616 := by rw [hRr]; exact r.toNat_lt
    obtain ⟨R', hR'⟩ : ∃ R' : Nat, R' = xorNextN R := ⟨_, rfl⟩
    have lR' : R' < 18446744073709551616 := by rw [hR']; exact xorNextN_lt R lR
    obtain ⟨O, hO⟩ : ∃ O : Nat, O = R' &&& (M - 1) := ⟨_, rfl⟩
    have lO : O ≤ M - 1 := by rw [hO]; exact Nat.and_le_right
    have eAnd : bits .and .u64 (R' : Int) ((M : Int) - 1) = (O : Int) := by
      rw [show ((M : Int) - 1) = ((M - 1 : Nat) : Int) by omega, bits_and_u64_nat _ _ lR' (by omega), hO]
    obtain ⟨G, hG⟩ : ∃ G : Nat → Int, ∀ x, G x = dk[x]! := ⟨fun x => dk[x]!, fun _ => rfl⟩
    have hz : (putRow (Value.int .u64) (Sort.ahead w n) blk off dk).heap.size = w.heap.size := by simp
    have hcw : ∀ x, x < d.size → wr.cell? ⟨blk, off + x, none⟩ = some (.int .u64 (G x)) := fun x hx => by
      rw [hw, cell?_grow _ _ _ (by rw [hz]; exact hblk), hG]; exact cell?_putRow _ _ _ _ d dk (holds_ahead _ _ _ _ _ _ HH.out) hsk x (by omega)
    have hfw : ∀ x, x < d.size → wr.frozen? ⟨blk, off + x, none⟩ = false := fun x hx => by
      rw [hw, frozen?_grow _ _ _ (by rw [hz]; exact hblk), frozen?_putRow]; exact ((holds_ahead _ _ n _ _ _ HH.out) x hx).2
    have hcB : wr.cell? ⟨w.heap.size, 0, none⟩ = some (.int .u64 (R : Int)) := by rw [hw, hRr, ← hz]; exact grow_one_cell _ _ _
    have hfB : wr.frozen? ⟨w.heap.size, 0, none⟩ = false := by rw [hw, ← hz]; exact grow_one_frozen _ _ _
    have hNext : CallsIn (Fence.list [ρ.f 5, ρ.f 7, ρ.f 8, ρ.f 10, ρ.f 11, ρ.f 12, ρ.f 13, ρ.f 14, ρ.f 15, ρ.f 16, ρ.f 17, ρ.f 18, ρ.f 20, ρ.f 30, ρ.f 31, ρ.f 32, ρ.f 33, ρ.f 34, ρ.f 35, ρ.f 40] (some D)) 0 P (ρ.f 32) #[.pointer (some ⟨w.heap.size, 0, none⟩)] wr fun e w' => e = .returned (.int .u64 (R' : Int)) ∧ w' = (wr.setCell ⟨w.heap.size, 0, none⟩ (.int .u64 (R' : Int))).drewN 3 := by
      rw [hR']; exact AnySM.xorshift_NextIn { Ly with } D _ _ R lR wr hcB hfB
    have HW : Hid (wr = grow (putRow (Value.int .u64) (Sort.ahead w n) blk off dk) #[Obj.cells #[.int .u64 (r.toNat : Int)] (ρ.t 53)]) := hw
    have HG : Hid (∀ x, G x = dk[x]!) := hG
    have HR : Hid (bpRest a L M (a + L / 4 * 2 - 1) (3 - t) t (r, dk) = bpRest a L M (a + L / 4 * 2 - 1) 3 0 (UInt64.ofNat L, d)) := hR
    have HN : Hid (R' = (xorNext r).toNat ∧ O = (xorNext r).toNat &&& (M - 1)) := by
      have e : R' = (xorNext r).toNat := by rw [hR', hRr, xorNext_toNat]
      exact ⟨e, by rw [hO, e]⟩
    clear hw hG hR hRr hR' hO
    gi_wp2_with (first | (gi_at_fn (ρ.f 32); refine (hNext.more (by omega)).mono ?_; rintro e w' ⟨rfl, rfl⟩))
    all_goals first
      | (have hLO : L ≤ O := by omega
         by_cases hEq : a + L / 4 * 2 - 1 + t = a + (O - L)
         all_goals
           gi_region_o
           all_goals gi_wp2
           go_roundw
           case rel =>
             refine ⟨t + 1, n + 4, xorNext r, swp dk (a + L / 4 * 2 - 1 + t) (a + (O - L)), by first | rfl | (congr 1 <;> omega), by omega, by rw [size_swp]; exact hsk, ?_, ?_⟩
             · (try rw [hEq])
               rw [HW.out, HN.out.1]
               simp only [HG.out]
               exact step_world (Value.int .u64) w n 4 blk off dk _ _ hblk (by omega) (by omega) _ _ _
             · rw [← HR.out, bp_step a L M _ t r dk (O - L) (by omega) (by rw [← HN.out.2, if_pos (by omega)])]
           case measure => simp [intOf]; omega)
      | (have hLO : ¬ L ≤ O := by omega
         by_cases hEq : a + L / 4 * 2 - 1 + t = a + O
         all_goals
           gi_region_o
           all_goals gi_wp2
           go_roundw
           case rel =>
             refine ⟨t + 1, n + 4, xorNext r, swp dk (a + L / 4 * 2 - 1 + t) (a + O), by first | rfl | (congr 1 <;> omega), by omega, by rw [size_swp]; exact hsk, ?_, ?_⟩
             · (try rw [hEq])
               rw [HW.out, HN.out.1]
               simp only [HG.out]
               exact step_world (Value.int .u64) w n 4 blk off dk _ _ hblk (by omega) (by omega) _ _ _
             · rw [← HR.out, bp_step a L M _ t r dk O (by omega) (by rw [← HN.out.2, if_neg (by omega)])]
           case measure => simp [intOf]; omega)
      | (obtain rfl : t = 3 := by omega
         go_end0
         exact ⟨rfl, n, _, by rw [← HR.out, HW.out]; rfl⟩)

set_option maxHeartbeats 32000000 in
set_option maxRecDepth 1000000 in
theorem AnySU.breakPatterns_intIn (Ly : SuLays.n12 P ρ) (D : Nat) (blk off cap a b : Nat) (d : Array Int) (w : World) (hH : Holds (Value.int .u64) w blk off d) (hblk : blk < w.heap.size) (hab : a ≤ b) (hb : b ≤ d.size) (hsz : d.size < 4611686018427387904) :
    CallsIn (Fence.list [ρ.f 5, ρ.f 7, ρ.f 8, ρ.f 10, ρ.f 11, ρ.f 12, ρ.f 13, ρ.f 14, ρ.f 15, ρ.f 16, ρ.f 17, ρ.f 18, ρ.f 20, ρ.f 30, ρ.f 31, ρ.f 32, ρ.f 33, ρ.f 34, ρ.f 35, ρ.f 40] (some D)) 3 P (ρ.f 12) #[.slice (some ⟨blk, off, none⟩) d.size cap, .int .i64 a, .int .i64 b] w fun e w' =>
      e = .returned (.tuple #[]) ∧ ∃ n os, w' = grow (putRow (Value.int .u64) (Sort.ahead w n) blk off (breakPatterns d a b)) os := by
  obtain ⟨L, rfl⟩ : ∃ L, b = a + L := ⟨b - a, by omega⟩
  by_cases h8 : 8 ≤ L
  · exact AnySU.breakPatterns_int_goIn { Ly with } D blk off cap a L d w hH hblk hb hsz h8
  · have hv : breakPatterns d a (a + L) = d := by unfold breakPatterns; simp only [Nat.add_sub_cancel_left]; rw [if_neg h8]
    rw [hv]
    have HST : Hid (w = grow (putRow (Value.int .u64) (Sort.ahead w 0) blk off d) #[]) := by
      show _ = _
      rw [grow_empty, show Sort.ahead w 0 = w from rfl, putRow_self _ _ _ _ _ hH]
    clear hH
    have mixed := Ly.mixed
    have t0 := Ly.t0; have a0 := Ly.a0; have z0 := Ly.z0; have v0 := Ly.v0; have t3 := Ly.t3; have a3 := Ly.a3; have z3 := Ly.z3; have v3 := Ly.v3; have t4 := Ly.t4; have a4 := Ly.a4; have z4 := Ly.z4; have v4 := Ly.v4; have t5 := Ly.t5; have a5 := Ly.a5; have z5 := Ly.z5; have v5 := Ly.v5; have t9 := Ly.t9; have a9 := Ly.a9; have z9 := Ly.z9; have v9 := Ly.v9; have t22 := Ly.t22; have a22 := Ly.a22; have z22 := Ly.z22; have v22 := Ly.v22; have t25 := Ly.t25; have a25 := Ly.a25; have z25 := Ly.z25; have v25 := Ly.v25; have t32 := Ly.t32; have a32 := Ly.a32; have z32 := Ly.z32; have v32 := Ly.v32; have t44 := Ly.t44; have a44 := Ly.a44; have z44 := Ly.z44; have v44 := Ly.v44; have t46 := Ly.t46; have a46 := Ly.a46; have z46 := Ly.z46; have v46 := Ly.v46; have t53 := Ly.t53; have a53 := Ly.a53; have z53 := Ly.z53; have v53 := Ly.v53; have t63 := Ly.t63; have a63 := Ly.a63; have z63 := Ly.z63; have v63 := Ly.v63
    have e329 : ∀ args w, (callFunc (ρ.f 31) args).run P w = .ok (.enter (ρ.f 31) args) w := enters_of Ly.f31 (by kernel_rfl) rfl
    have e330 : ∀ args w, (callFunc (ρ.f 32) args).run P w = .ok (.enter (ρ.f 32) args) w := enters_of Ly.f32 (by kernel_rfl) rfl
    obtain ⟨_, _, FG⟩ := Ly.f12
    gi_enter FG, SlBodyM.n12_ntmps ρ
    gi_wp2
    go_end0
    exact ⟨rfl, 0, #[], HST.out⟩
end

end Go.Proofs.Ytfdjjfplhdpclaa
