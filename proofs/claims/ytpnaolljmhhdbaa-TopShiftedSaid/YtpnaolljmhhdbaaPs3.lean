/- The library's sort of edges. No condition beyond those that each theorem says. -/
import Derived.Test.YtpnaolljmhhdbaaPsX
import Derived.Deep.QuietTactic
import Derived.BigQuiet
import Derived.Shelf.SlSortCmp.WholeK
import Derived.Sort.LotA
namespace Go.Proofs.Ytpnaolljmhhdbaa
open Go Go.Gm
set_option linter.unusedVariables false
set_option linter.unusedSimpArgs false
set_option maxHeartbeats 4000000
set_option maxRecDepth 8000

def laysSortF_ren : Go.Shelf.Ren := ⟨fun | 6 => 85 | 15 => 75 | 14 => 113 | 28 => 100 | 29 => 101 | 20 => 126 | 21 => 127 | 22 => 128 | 23 => 129 | 24 => 130 | 25 => 131 | 26 => 132 | 27 => 133 | 46 => 136 | 47 => 117 | 48 => 118 | 49 => 137 | 50 => 138 | 57 => 139 | n => n, fun | 22 => 114 | 24 => 24 | 25 => 142 | 3 => 3 | 39 => 90 | 0 => 0 | 53 => 157 | 55 => 58 | 4 => 4 | 46 => 151 | 45 => 150 | 50 => 92 | 5 => 5 | 9 => 9 | 66 => 168 | 70 => 172 | 76 => 182 | 77 => 183 | n => n, fun  | n => n⟩
theorem laysSortF : Go.Proofs.SlLaysF0.n6 Try.prog laysSortF_ren where
  mixed := by kernel_rfl
  f6 := ⟨Try.f85.name, by kernel_rfl, Try.func85.trans (congrArg some (by kernel_rfl))⟩
  f14 := ⟨Try.f113.name, by kernel_rfl, Try.func113.trans (congrArg some (by kernel_rfl))⟩
  f15 := Try.func75.trans (congrArg some (by kernel_rfl))
  f20 := ⟨Try.f126.name, by kernel_rfl, Try.func126.trans (congrArg some (by kernel_rfl))⟩
  f21 := ⟨Try.f127.name, by kernel_rfl, Try.func127.trans (congrArg some (by kernel_rfl))⟩
  f22 := ⟨Try.f128.name, by kernel_rfl, Try.func128.trans (congrArg some (by kernel_rfl))⟩
  f23 := ⟨Try.f129.name, by kernel_rfl, Try.func129.trans (congrArg some (by kernel_rfl))⟩
  f24 := ⟨Try.f130.name, by kernel_rfl, Try.func130.trans (congrArg some (by kernel_rfl))⟩
  f25 := ⟨Try.f131.name, by kernel_rfl, Try.func131.trans (congrArg some (by kernel_rfl))⟩
  f26 := ⟨Try.f132.name, by kernel_rfl, Try.func132.trans (congrArg some (by kernel_rfl))⟩
  f27 := ⟨Try.f133.name, by kernel_rfl, Try.func133.trans (congrArg some (by kernel_rfl))⟩
  f28 := Try.func100.trans (congrArg some (by kernel_rfl))
  f29 := Try.func101.trans (congrArg some (by kernel_rfl))
  f46 := ⟨Try.f136.name, by kernel_rfl, Try.func136.trans (congrArg some (by kernel_rfl))⟩
  f47 := Try.func117.trans (congrArg some (by kernel_rfl))
  f48 := Try.func118.trans (congrArg some (by kernel_rfl))
  f49 := ⟨Try.f137.name, by kernel_rfl, Try.func137.trans (congrArg some (by kernel_rfl))⟩
  f50 := ⟨Try.f138.name, by kernel_rfl, Try.func138.trans (congrArg some (by kernel_rfl))⟩
  f57 := ⟨Try.f139.name, by kernel_rfl, Try.func139.trans (congrArg some (by kernel_rfl))⟩
  t0 := Try.underlying0
  a0 := Try.isAgg0
  z0 := Try.sizeOf0
  v0 := Try.zeroValue0
  t3 := Try.underlying3
  a3 := Try.isAgg3
  z3 := Try.sizeOf3
  v3 := Try.zeroValue3
  t4 := Try.underlying4
  a4 := Try.isAgg4
  z4 := Try.sizeOf4
  v4 := Try.zeroValue4
  t5 := Try.underlying5
  a5 := Try.isAgg5
  z5 := Try.sizeOf5
  v5 := Try.zeroValue5
  t9 := Try.underlying9
  a9 := Try.isAgg9
  z9 := Try.sizeOf9
  v9 := Try.zeroValue9
  t22 := Try.underlying114
  a22 := Try.isAgg114
  z22 := Try.sizeOf114
  v22 := Try.zeroValue114
  t25 := Try.underlying142
  a25 := Try.isAgg142
  z25 := Try.sizeOf142
  v25 := Try.zeroValue142
  t39 := Try.underlying90
  a39 := Try.isAgg90
  z39 := Try.sizeOf90
  v39 := Try.zeroValue90
  t45 := Try.underlying150
  a45 := Try.isAgg150
  z45 := Try.sizeOf150
  v45 := Try.zeroValue150
  t46 := Try.underlying151
  a46 := Try.isAgg151
  z46 := Try.sizeOf151
  v46 := Try.zeroValue151
  t50 := Try.underlying92
  a50 := Try.isAgg92
  z50 := Try.sizeOf92
  v50 := Try.zeroValue92
  t53 := Try.underlying157
  a53 := Try.isAgg157
  z53 := Try.sizeOf157
  v53 := Try.zeroValue157
  t55 := Try.underlying58
  a55 := Try.isAgg58
  z55 := Try.sizeOf58
  v55 := Try.zeroValue58
  t66 := Try.underlying168
  a66 := Try.isAgg168
  z66 := Try.sizeOf168
  v66 := Try.zeroValue168
  t70 := Try.underlying172
  a70 := Try.isAgg172
  z70 := Try.sizeOf172
  v70 := Try.zeroValue172
  t76 := Try.underlying182
  a76 := Try.isAgg182
  z76 := Try.sizeOf182
  v76 := Try.zeroValue182
  t77 := Try.underlying183
  a77 := Try.isAgg183
  z77 := Try.sizeOf183
  v77 := Try.zeroValue183

theorem nanW (x : Int) (w : World) : Calls Try.prog 125 #[.int .i64 x] w fun e w' => e = .returned (.bool false) ∧ w' = w := by
  go_enter Try.func125, Try.ntmps125
  go_wp2
  go_ret
  exact ⟨by simp, rfl⟩
theorem cmpW (x y : Int) (w : World) : Calls Try.prog 114 #[.int .i64 x, .int .i64 y] w fun e w' => e = .returned (.int .i64 (cmpI x y)) ∧ w' = w := by
  go_enter Try.func114, Try.ntmps114
  go_wp2_with (go_at_call 125; refine (nanW _ _).mono ?_; rintro e w' ⟨rfl, rfl⟩)
  all_goals (go_ret; refine ⟨?_, rfl⟩; unfold cmpI; (repeat' split) <;> first | rfl | (exfalso; omega))
theorem ne_t {a : Int} (h : (a != 0) = true) : ¬ a = 0 := by simpa using h
theorem ne_f {a : Int} (h : (a != 0) = false) : a = 0 := by simpa using h
theorem cmpE_c0 {x y : EdgeD} (h : (cmpI x.src y.src != 0) = true) : cmpE x y = cmpI x.src y.src := by unfold cmpE keyL cmpL; rw [if_neg (fun e => ne_t h (cmpI_0.2 e))]
theorem cmpE_c1 {x y : EdgeD} (h0 : (cmpI x.src y.src != 0) = false) (h : (cmpI x.kind y.kind != 0) = true) : cmpE x y = cmpI x.kind y.kind := by unfold cmpE keyL cmpL; rw [if_pos (cmpI_0.1 (ne_f h0))]; unfold cmpL; rw [if_neg (fun e => ne_t h (cmpI_0.2 e))]
theorem cmpE_c2 {x y : EdgeD} (h0 : (cmpI x.src y.src != 0) = false) (h1 : (cmpI x.kind y.kind != 0) = false) (h : (cmpI x.key y.key != 0) = true) : cmpE x y = cmpI x.key y.key := by unfold cmpE keyL cmpL; rw [if_pos (cmpI_0.1 (ne_f h0))]; unfold cmpL; rw [if_pos (cmpI_0.1 (ne_f h1))]; unfold cmpL; rw [if_neg (fun e => ne_t h (cmpI_0.2 e))]
theorem cmpE_c3 {x y : EdgeD} (h0 : (cmpI x.src y.src != 0) = false) (h1 : (cmpI x.kind y.kind != 0) = false) (h2 : (cmpI x.key y.key != 0) = false) : cmpE x y = cmpI x.dst y.dst := by
  unfold cmpE keyL cmpL; rw [if_pos (cmpI_0.1 (ne_f h0))]; unfold cmpL; rw [if_pos (cmpI_0.1 (ne_f h1))]; unfold cmpL; rw [if_pos (cmpI_0.1 (ne_f h2))]; unfold cmpL
  by_cases h : x.dst = y.dst
  · rw [if_pos h, cmpI_0.2 h]; rfl
  · rw [if_neg h]
theorem cmpE_c4 {x y : EdgeD} (h0 : (cmpI x.src y.src != 0) = false) (h1 : (cmpI x.kind y.kind != 0) = false) (h2 : (cmpI x.key y.key != 0) = false) (h3 : (cmpI x.dst y.dst != 0) = false) : cmpE x y = 0 := by rw [cmpE_c3 h0 h1 h2]; exact ne_f h3
def objs4 (x y : EdgeD) : Array Obj := #[Obj.cells #[.int .i64 x.src, .int .i64 x.dst, .int .i64 x.kind, .int .i64 x.key] 24, Obj.cells #[.int .i64 y.src, .int .i64 y.dst, .int .i64 y.kind, .int .i64 y.key] 24, Obj.cells #[.int .i64 x.src, .int .i64 x.kind, .int .i64 x.key, .int .i64 x.dst] 167, Obj.cells #[.int .i64 y.src, .int .i64 y.kind, .int .i64 y.key, .int .i64 y.dst] 167]
theorem compareW (x y : EdgeD) (w : World) : Calls Try.prog 86 #[.agg #[.int .i64 x.src, .int .i64 x.dst, .int .i64 x.kind, .int .i64 x.key], .agg #[.int .i64 y.src, .int .i64 y.dst, .int .i64 y.kind, .int .i64 y.key]] w fun e w' => e = .returned (.int .i64 (cmpE x y)) ∧ ∃ q, w' = { w.drewN q with heap := w.heap ++ objs4 x y } := by
  go_enter Try.func86, Try.ntmps86
  go_wp2
  have hw1 : ((((w.alloc (Obj.cells #[.int .i64 x.src, .int .i64 x.dst, .int .i64 x.kind, .int .i64 x.key] 24)).alloc (Obj.cells #[.int .i64 y.src, .int .i64 y.dst, .int .i64 y.kind, .int .i64 y.key] 24)).alloc (Obj.cells #[.int .i64 x.src, .int .i64 x.kind, .int .i64 x.key, .int .i64 x.dst] 167)).alloc (Obj.cells #[.int .i64 y.src, .int .i64 y.kind, .int .i64 y.key, .int .i64 y.dst] 167)) = { w with heap := w.heap ++ objs4 x y } := by
    have e : ∀ (w : World) (o : Obj), w.alloc o = { w with heap := w.heap.push o } := fun _ _ => rfl
    simp only [e, objs4]
    congr 1
  rw [hw1]
  clear hw1
  have ka : ∀ j v, (#[Value.int .i64 x.src, .int .i64 x.kind, .int .i64 x.key, .int .i64 x.dst])[j]? = some v → ({ w with heap := w.heap ++ objs4 x y } : World).cell? ⟨w.heap.size + 1 + 1, j, none⟩ = some v := by
    intro j v hj
    rw [cell_of_block (vs := #[Value.int .i64 x.src, .int .i64 x.kind, .int .i64 x.key, .int .i64 x.dst]) (T := 167) (fr := (0, 0)) (by show (w.heap ++ objs4 x y)[w.heap.size + 1 + 1]? = _; rw [Array.getElem?_append_right (by omega), show w.heap.size + 1 + 1 - w.heap.size = 2 by omega]; rfl)]
    exact hj
  have kb : ∀ j v, (#[Value.int .i64 y.src, .int .i64 y.kind, .int .i64 y.key, .int .i64 y.dst])[j]? = some v → ({ w with heap := w.heap ++ objs4 x y } : World).cell? ⟨w.heap.size + 1 + 1 + 1, j, none⟩ = some v := by
    intro j v hj
    rw [cell_of_block (vs := #[Value.int .i64 y.src, .int .i64 y.kind, .int .i64 y.key, .int .i64 y.dst]) (T := 167) (fr := (0, 0)) (by show (w.heap ++ objs4 x y)[w.heap.size + 1 + 1 + 1]? = _; rw [Array.getElem?_append_right (by omega), show w.heap.size + 1 + 1 + 1 - w.heap.size = 3 by omega]; rfl)]
    exact hj
  have a0 : ({ w with heap := w.heap ++ objs4 x y } : World).cell? ⟨w.heap.size + 1 + 1, 0, none⟩ = some (.int .i64 x.src) := ka 0 _ rfl
  have a1 : ({ w with heap := w.heap ++ objs4 x y } : World).cell? ⟨w.heap.size + 1 + 1, 1, none⟩ = some (.int .i64 x.kind) := ka 1 _ rfl
  have a2 : ({ w with heap := w.heap ++ objs4 x y } : World).cell? ⟨w.heap.size + 1 + 1, 2, none⟩ = some (.int .i64 x.key) := ka 2 _ rfl
  have a3 : ({ w with heap := w.heap ++ objs4 x y } : World).cell? ⟨w.heap.size + 1 + 1, 3, none⟩ = some (.int .i64 x.dst) := ka 3 _ rfl
  have b0 : ({ w with heap := w.heap ++ objs4 x y } : World).cell? ⟨w.heap.size + 1 + 1 + 1, 0, none⟩ = some (.int .i64 y.src) := kb 0 _ rfl
  have b1 : ({ w with heap := w.heap ++ objs4 x y } : World).cell? ⟨w.heap.size + 1 + 1 + 1, 1, none⟩ = some (.int .i64 y.kind) := kb 1 _ rfl
  have b2 : ({ w with heap := w.heap ++ objs4 x y } : World).cell? ⟨w.heap.size + 1 + 1 + 1, 2, none⟩ = some (.int .i64 y.key) := kb 2 _ rfl
  have b3 : ({ w with heap := w.heap ++ objs4 x y } : World).cell? ⟨w.heap.size + 1 + 1 + 1, 3, none⟩ = some (.int .i64 y.dst) := kb 3 _ rfl
  clear ka kb
  have hfin : ∀ q (w' : World), w' = ({ w with heap := w.heap ++ objs4 x y } : World).drewN q → ∃ q, w' = { w.drewN q with heap := w.heap ++ objs4 x y } := fun q w' e => ⟨q, e⟩
  generalize ({ w with heap := w.heap ++ objs4 x y } : World) = w1 at *
  generalize w.heap.size = n0 at *
  refine wp_loop_rounds 5 ?_
  rw [rounds_succ]
  go_wp2
  go_quiet ((go_at_call 114; refine Calls.quiet_of_same (cmpW _ _ _)))
  go_wp2
  · go_ret
    exact ⟨congrArg (fun z => Ending.returned (.int .i64 z)) (cmpE_c0 (by assumption)).symm, hfin _ _ rfl⟩
  have hfin1 : ∀ q (w' : World), w' = (w1.drewN nq).drewN q → ∃ q, w' = { w.drewN q with heap := w.heap ++ objs4 x y } := fun q w' e => hfin (nq + q) w' (by rw [e, World.drewN_drewN])
  have a1' : (w1.drewN nq).cell? ⟨n0 + 1 + 1, 1, none⟩ = some (.int .i64 x.kind) := a1
  have b1' : (w1.drewN nq).cell? ⟨n0 + 1 + 1 + 1, 1, none⟩ = some (.int .i64 y.kind) := b1
  have a2' : (w1.drewN nq).cell? ⟨n0 + 1 + 1, 2, none⟩ = some (.int .i64 x.key) := a2
  have b2' : (w1.drewN nq).cell? ⟨n0 + 1 + 1 + 1, 2, none⟩ = some (.int .i64 y.key) := b2
  have a3' : (w1.drewN nq).cell? ⟨n0 + 1 + 1, 3, none⟩ = some (.int .i64 x.dst) := a3
  have b3' : (w1.drewN nq).cell? ⟨n0 + 1 + 1 + 1, 3, none⟩ = some (.int .i64 y.dst) := b3
  clear hfin a0 b0 a1 b1 a2 b2 a3 b3
  generalize w1.drewN nq = w2 at *
  rw [rounds_succ]
  go_wp2
  go_quiet ((go_at_call 114; refine Calls.quiet_of_same (cmpW _ _ _)))
  go_wp2
  · go_ret
    exact ⟨congrArg (fun z => Ending.returned (.int .i64 z)) (cmpE_c1 (by assumption) (by assumption)).symm, hfin1 _ _ rfl⟩
  have hfin2 : ∀ q (w' : World), w' = (w2.drewN nq).drewN q → ∃ q, w' = { w.drewN q with heap := w.heap ++ objs4 x y } := fun q w' e => hfin1 (nq + q) w' (by rw [e, World.drewN_drewN])
  have a2'' : (w2.drewN nq).cell? ⟨n0 + 1 + 1, 2, none⟩ = some (.int .i64 x.key) := a2'
  have b2'' : (w2.drewN nq).cell? ⟨n0 + 1 + 1 + 1, 2, none⟩ = some (.int .i64 y.key) := b2'
  have a3'' : (w2.drewN nq).cell? ⟨n0 + 1 + 1, 3, none⟩ = some (.int .i64 x.dst) := a3'
  have b3'' : (w2.drewN nq).cell? ⟨n0 + 1 + 1 + 1, 3, none⟩ = some (.int .i64 y.dst) := b3'
  clear hfin1 a1' b1' a2' b2' a3' b3'
  generalize w2.drewN nq = w3 at *
  rw [rounds_succ]
  go_wp2
  go_quiet ((go_at_call 114; refine Calls.quiet_of_same (cmpW _ _ _)))
  go_wp2
  · go_ret
    exact ⟨congrArg (fun z => Ending.returned (.int .i64 z)) (cmpE_c2 (by assumption) (by assumption) (by assumption)).symm, hfin2 _ _ rfl⟩
  have hfin3 : ∀ q (w' : World), w' = (w3.drewN nq).drewN q → ∃ q, w' = { w.drewN q with heap := w.heap ++ objs4 x y } := fun q w' e => hfin2 (nq + q) w' (by rw [e, World.drewN_drewN])
  have a3''' : (w3.drewN nq).cell? ⟨n0 + 1 + 1, 3, none⟩ = some (.int .i64 x.dst) := a3''
  have b3''' : (w3.drewN nq).cell? ⟨n0 + 1 + 1 + 1, 3, none⟩ = some (.int .i64 y.dst) := b3''
  clear hfin2 a2'' b2'' a3'' b3''
  generalize w3.drewN nq = w4 at *
  rw [rounds_succ]
  go_wp2
  go_quiet ((go_at_call 114; refine Calls.quiet_of_same (cmpW _ _ _)))
  go_wp2
  · go_ret
    exact ⟨congrArg (fun z => Ending.returned (.int .i64 z)) (cmpE_c3 (by assumption) (by assumption) (by assumption)).symm, hfin3 _ _ rfl⟩
  have hfin4 : ∀ q (w' : World), w' = (w4.drewN nq).drewN q → ∃ q, w' = { w.drewN q with heap := w.heap ++ objs4 x y } := fun q w' e => hfin3 (nq + q) w' (by rw [e, World.drewN_drewN])
  clear hfin3 a3''' b3'''
  generalize w4.drewN nq = w5 at *
  rw [rounds_succ]
  go_wp2
  go_ret
  exact ⟨congrArg (fun z => Ending.returned (.int .i64 z)) (cmpE_c4 (by assumption) (by assumption) (by assumption) (by assumption)).symm, hfin4 0 _ rfl⟩

def encE (e : EdgeD) : List Value := [.int .i64 e.src, .int .i64 e.dst, .int .i64 e.kind, .int .i64 e.key]
theorem flat_get : ∀ (l : List EdgeD) (j : Nat), (l.flatMap encE)[j]? = if j < l.length * 4 then some ((encE l[j / 4]!)[j % 4]!) else none
  | [], j => by simp
  | e :: l, j => by
    rw [List.flatMap_cons]
    by_cases hj : j < 4
    · rw [List.getElem?_append_left (by simpa [encE] using hj), if_pos (by simp; omega), show j / 4 = 0 by omega, show j % 4 = j by omega]
      match j, hj with
      | 0, _ => rfl
      | 1, _ => rfl
      | 2, _ => rfl
      | 3, _ => rfl
    · obtain ⟨k, rfl⟩ : ∃ k, j = k + 4 := ⟨j - 4, by omega⟩
      rw [List.getElem?_append_right (by simp [encE]), show k + 4 - (encE e).length = k by simp [encE], flat_get l k, show (k + 4) / 4 = k / 4 + 1 by omega, show (k + 4) % 4 = k % 4 by omega]
      by_cases h : k < l.length * 4
      · rw [if_pos h, if_pos (by simp; omega)]; simp
      · rw [if_neg h, if_neg (by simp; omega)]
theorem flatK_list (l : List EdgeD) : (Go.Sort.flatK encE 4 l.toArray).toList = l.flatMap encE := by
  apply List.ext_getElem?
  intro j
  rw [flat_get]
  by_cases h : j < l.length * 4
  · rw [if_pos h]; simp [Go.Sort.flatK, h]
  · rw [if_neg h]; simp [Go.Sort.flatK]; omega
def inE (e : EdgeD) : Prop := inR .i64 e.src ∧ inR .i64 e.dst ∧ inR .i64 e.kind ∧ inR .i64 e.key
theorem PVs_edges {w : World} {y : Ys} : ∀ {l : List EdgeD} {xs : List Value}, PVs (l.flatMap rEdge) xs w y → xs = l.flatMap encE ∧ ∀ e ∈ l, inE e
  | [], [], _ => ⟨rfl, fun x hx => by cases hx⟩
  | [], _ :: _, h => h.elim
  | e :: l, [], h => h.elim
  | e :: l, [_], h => h.2.elim
  | e :: l, [_, _], h => h.2.2.elim
  | e :: l, [_, _, _], h => h.2.2.2.elim
  | e :: l, a :: b :: c :: d :: xs, h => by
    have h1 : a = .int .i64 e.src ∧ inR .i64 e.src := h.1.2
    have h2 : b = .int .i64 e.dst ∧ inR .i64 e.dst := h.2.1.2
    have h3 : c = .int .i64 e.kind ∧ inR .i64 e.kind := h.2.2.1.2
    have h4 : d = .int .i64 e.key ∧ inR .i64 e.key := h.2.2.2.1.2
    obtain ⟨h5, h6⟩ := PVs_edges (l := l) (xs := xs) h.2.2.2.2
    exact ⟨by rw [h1.1, h2.1, h3.1, h4.1, h5]; rfl, fun z hz => by rcases List.mem_cons.1 hz with rfl | hz; exact ⟨h1.2, h2.2, h3.2, h4.2⟩; exact h6 z hz⟩
theorem PVs_of_edges {w : World} {y : Ys} : ∀ {l : List EdgeD}, (∀ e ∈ l, inE e) → PVs (l.flatMap rEdge) (l.flatMap encE) w y
  | [], _ => trivial
  | e :: l, h => by
    have h1 := h e (by simp)
    exact ⟨⟨rfl, rfl, h1.1⟩, ⟨rfl, rfl, h1.2.1⟩, ⟨rfl, rfl, h1.2.2.1⟩, ⟨rfl, rfl, h1.2.2.2⟩, PVs_of_edges fun z hz => h z (by simp [hz])⟩
theorem swoE : Go.Sort.SWO (Go.Proofs.ltOf cmpE) where
  irrefl x := ltE_sto.irr x
  trans x y z h1 h2 := ltE_sto.tr x y z h1 h2
  ntrans x y z h1 h2 := by
    have h1 : ltE x y = false := h1
    have h2 : ltE y z = false := h2
    show ltE x z = false
    rw [ltE_not] at *
    omega
theorem sortedF_heap {w : World} {g n : Nat} {d : List Value} {os : Array Obj} {cur : Array Value} {e : TypeId} (hg : w.heap[g]? = some (.cells cur e (0, 0))) (b : Nat) (hb : b < w.heap.size) :
    (Go.Sort.grow (Go.Sort.putRow id (Go.Sort.ahead w n) g 0 d.toArray) os).heap[b]? = if b = g then some (.cells (Go.Sort.putCells id 0 d.toArray cur) e (0, 0)) else w.heap[b]? := by
  unfold Go.Sort.grow Go.Sort.putRow Go.Sort.mapBlock Go.Sort.ahead
  simp only
  rw [Array.getElem?_append_left (by simpa using hb), Array.getElem?_modify]
  by_cases h : g = b
  · subst h
    rw [if_pos rfl, if_pos rfl, hg]; rfl
  · rw [if_neg h, if_neg (fun e => h e.symm)]
theorem putF_take {cur : Array Value} {d : List Value} (h : d.length ≤ cur.size) : (Go.Sort.putCells id 0 d.toArray cur).toList.take d.length = d := by
  apply List.ext_getElem
  · simp [Go.Sort.putCells]; omega
  · intro i h1 h2
    have hi : i < d.length := h2
    simp [Go.Sort.putCells, hi]
theorem sortE_cmp (g n : Nat) (w : World) : Go.Proofs.CmpLays Try.prog 86 #[] encE 4 cmpE g 0 n w := fun _ _ _ _ x y =>
  (compareW x y _).mono fun _ _ ⟨he, q, hq⟩ => ⟨he, q, objs4 x y, hq⟩
theorem sortE_c (v : Value) (l : List EdgeD) (hlm : l.length ≤ 1000000) : FnG Try.prog 85 1 [.is v, .is (.func (.func 86) #[] #[])] [rowH 24 4 rEdge l v] (.tup []) (fun _ => [rowH 24 4 rEdge (sortE l) v]) := by
  by_cases hl0 : l = []
  · subst hl0
    have h := sortFunc_c v [] (by simp) (fun j _ h1 => absurd h1 (by simp))
    have e : sortE [] = [] := by simp [sortE]
    rw [e]; exact h
  · exact fun w F vs hw hle hvs hpr => by
      match vs, hvs with
      | [u, fv], hvs =>
        have hu : u = v := hvs.1.1
        have hfv : fv = .func (.func 86) #[] #[] := hvs.2.1.1
        subst hu
        subst hfv
        obtain ⟨xs, ⟨hxl, hx⟩, hp, hf⟩ := hpr 0 _ rfl
        rcases hx with ⟨rfl, h0⟩ | ⟨g, cap, cur, rfl, _, hg, hn, hcap, hcs, hct⟩
        · exact absurd (List.eq_nil_of_length_eq_zero h0) hl0
        · have hgs : g < w.heap.size := (Array.getElem?_eq_some_iff.1 hg).1
          obtain ⟨hxe, hin⟩ := PVs_edges hp
          have hcl : l.length * 4 ≤ cur.size := by rw [hcs]; exact Nat.mul_le_mul_right _ hn
          have hbig : l.toArray.size < 4611686018427387904 := by simp; omega
          have hcur : ∀ j, j < l.length * 4 → cur[j]? = (l.flatMap encE)[j]? := fun j hj => by
            have h1 : (cur.toList.take (l.length * 4))[j]? = (l.flatMap encE)[j]? := by rw [hct, hxe]
            rw [List.getElem?_take_of_lt hj] at h1
            simpa using h1
          have hH : Go.Sort.HoldsK encE 4 w g 0 l.toArray := fun j hj => by
            have hj' : j < l.length * 4 := by simpa using hj
            refine ⟨?_, ?_⟩
            · rw [Nat.zero_add, cell_of_block hg, hcur j hj', flat_get, if_pos hj', Go.Sort.get_flatK _ _ _ _ (by simpa using hj')]
              simp
            · simp [World.frozen?, hg]
          have eg : ∀ args w, (callFunc 86 args).run Try.prog w = .ok (.enter 86 args) w := enters_of Try.func86 (by kernel_rfl) rfl
          have hcalls : Calls Try.prog 85 #[.slice (some ⟨g, 0, none⟩) l.toArray.size cap, .func (.func 86) #[] #[]] w fun e w' => e = .returned (.tuple #[]) ∧ ∃ d' n os, Go.Sort.PermIn 0 l.toArray.size l.toArray d' ∧ Go.Sort.SortedIn (Go.Proofs.ltOf cmpE) 0 l.toArray.size d' ∧ w' = Go.Proofs.sortWorldK encE 4 w g 0 n d' os :=
            Go.Proofs.AnyQ.slices_SortFunc laysSortF 4 Try.isAgg24 Try.sizeOf24 encE (fun _ => rfl) (fun x v hv => by simp [encE] at hv; rcases hv with rfl | rfl | rfl | rfl <;> rfl) cmpE swoE 86 #[] g 0 cap l.toArray w eg (sortE_cmp g _ w) hH hgs hbig
          refine hcalls.mono ?_
          rintro e w' ⟨rfl, d', n, os, hperm, hsrt, rfl⟩
          have hd : d'.toList = sortE l := Go.Sort.sorted_unique_holds swoE (fun x y h1 h2 => ltE_sto.tot x y h1 h2) l.toArray d' hperm hsrt
          have hd2 : d' = (sortE l).toArray := by rw [← hd]
          subst hd2
          have hsl : (sortE l).length = l.length := sortE_len l
          have hfl : (Go.Sort.flatK encE 4 (sortE l).toArray) = ((sortE l).flatMap encE).toArray := by rw [← flatK_list]
          have hfn : ((sortE l).flatMap encE).length = l.length * 4 := by
            have h2 := congrArg List.length (flatK_list (sortE l))
            rw [← h2, Array.length_toList, Go.Sort.size_flatK, List.size_toArray, hsl]
          have hW : Go.Proofs.sortWorldK encE 4 w g 0 n (sortE l).toArray os = Go.Sort.grow (Go.Sort.putRow id (Go.Sort.ahead w n) g 0 ((sortE l).flatMap encE).toArray) os := by
            unfold Go.Proofs.sortWorldK Go.Sort.putRowK
            rw [hfl]
          rw [hW]
          have hheap := fun b hb => sortedF_heap (n := n) (d := (sortE l).flatMap encE) (os := os) hg b hb
          have hsz : (Go.Sort.grow (Go.Sort.putRow id (Go.Sort.ahead w n) g 0 ((sortE l).flatMap encE).toArray) os).heap.size = w.heap.size + os.size := by simp [Go.Sort.ahead]
          have hfg : F 1 g := (hf g).2 rfl
          have hst : Stp (List.range' 1 1) w F (Go.Sort.grow (Go.Sort.putRow id (Go.Sort.ahead w n) g 0 ((sortE l).flatMap encE).toArray) os) F :=
            ⟨rfl, rfl, rfl, by rw [hsz]; omega, fun b hb hn => by
              rw [hheap b hb, if_neg (fun e => by subst e; exact hn 1 (by simp) hfg)], fun _ _ => rfl, fun n hn b hb => .inl ⟨n, hn, hb⟩⟩
          refine ⟨.tuple #[], F, rfl, ⟨hw.dis, fun n b hb => by rw [hsz]; have := hw.bd n b hb; omega⟩, hst, hle, ⟨[], rfl, trivial⟩, fun i h hi => ?_⟩
          match i, hi with
          | 0, hi =>
            simp only [List.getElem?_cons_zero, Option.some.injEq] at hi
            subst hi
            refine ⟨(sortE l).flatMap encE, ⟨by rw [hfn, hsl], .inr ⟨g, cap, _, by rw [hsl], Nat.zero_le _, (hheap g hgs).trans (if_pos rfl), by rw [hsl]; exact hn, hcap, by simp [Go.Sort.putCells, hcs], ?_⟩⟩, PVs_of_edges fun x hx => hin x ((List.mergeSort_perm l _).mem_iff.1 hx), hf⟩
            rw [hsl, ← hfn]; exact putF_take (by rw [hfn]; exact hcl)

end Go.Proofs.Ytpnaolljmhhdbaa
