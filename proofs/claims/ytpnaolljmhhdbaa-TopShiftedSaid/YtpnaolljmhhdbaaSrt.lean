/- The library's sort of integers. No condition beyond those that each theorem says. -/
import Derived.Shelf.Sort.Plain
import Derived.Shelf.Slices.In.SortNone
import Derived.Test.YtpnaolljmhhdbaaOr0
namespace Go.Proofs.Ytpnaolljmhhdbaa
open Go Go.Gm
set_option linter.unusedVariables false
set_option linter.unusedSimpArgs false
set_option maxHeartbeats 4000000
set_option maxRecDepth 8000

def laysSort_ren : Go.Shelf.Ren := ⟨fun | 189 => 61 | 125 => 75 | 257 => 83 | 128 => 100 | 129 => 101 | 294 => 104 | 295 => 105 | 296 => 106 | 297 => 107 | 298 => 108 | 299 => 109 | 216 => 110 | 300 => 111 | 301 => 112 | 328 => 122 | 329 => 117 | 330 => 118 | 331 => 123 | 332 => 124 | 215 => 125 | 343 => 135 | n => n, fun | 28 => 76 | 3 => 3 | 46 => 90 | 0 => 0 | 51 => 157 | 53 => 58 | 4 => 4 | 183 => 151 | 182 => 150 | 131 => 92 | 5 => 5 | 9 => 9 | 218 => 168 | 222 => 172 | 228 => 182 | 229 => 183 | n => n, fun  | n => n⟩
theorem laysSort : Lays.n189 Try.prog laysSort_ren where
  mixed := by kernel_rfl
  f125 := Try.func75.trans (congrArg some (by kernel_rfl))
  f128 := Try.func100.trans (congrArg some (by kernel_rfl))
  f129 := Try.func101.trans (congrArg some (by kernel_rfl))
  f189 := Try.func61.trans (congrArg some (by kernel_rfl))
  f215 := Try.func125.trans (congrArg some (by kernel_rfl))
  f216 := Try.func110.trans (congrArg some (by kernel_rfl))
  f257 := Try.func83.trans (congrArg some (by kernel_rfl))
  f294 := Try.func104.trans (congrArg some (by kernel_rfl))
  f295 := Try.func105.trans (congrArg some (by kernel_rfl))
  f296 := Try.func106.trans (congrArg some (by kernel_rfl))
  f297 := Try.func107.trans (congrArg some (by kernel_rfl))
  f298 := Try.func108.trans (congrArg some (by kernel_rfl))
  f299 := Try.func109.trans (congrArg some (by kernel_rfl))
  f300 := Try.func111.trans (congrArg some (by kernel_rfl))
  f301 := Try.func112.trans (congrArg some (by kernel_rfl))
  f328 := Try.func122.trans (congrArg some (by kernel_rfl))
  f329 := Try.func117.trans (congrArg some (by kernel_rfl))
  f330 := Try.func118.trans (congrArg some (by kernel_rfl))
  f331 := Try.func123.trans (congrArg some (by kernel_rfl))
  f332 := Try.func124.trans (congrArg some (by kernel_rfl))
  f343 := Try.func135.trans (congrArg some (by kernel_rfl))
  t0 := Try.underlying0
  a0 := Try.isAgg0
  z0 := Try.sizeOf0
  v0 := Try.zeroValue0
  t3 := Try.underlying3
  a3 := Try.isAgg3
  z3 := Try.sizeOf3
  v3 := Try.zeroValue3
  t4 := Try.underlying4
  a4 := Try.isAgg4
  z4 := Try.sizeOf4
  v4 := Try.zeroValue4
  t5 := Try.underlying5
  a5 := Try.isAgg5
  z5 := Try.sizeOf5
  v5 := Try.zeroValue5
  t9 := Try.underlying9
  a9 := Try.isAgg9
  z9 := Try.sizeOf9
  v9 := Try.zeroValue9
  t28 := Try.underlying76
  a28 := Try.isAgg76
  z28 := Try.sizeOf76
  v28 := Try.zeroValue76
  t46 := Try.underlying90
  a46 := Try.isAgg90
  z46 := Try.sizeOf90
  v46 := Try.zeroValue90
  t51 := Try.underlying157
  a51 := Try.isAgg157
  z51 := Try.sizeOf157
  v51 := Try.zeroValue157
  t53 := Try.underlying58
  a53 := Try.isAgg58
  z53 := Try.sizeOf58
  v53 := Try.zeroValue58
  t131 := Try.underlying92
  a131 := Try.isAgg92
  z131 := Try.sizeOf92
  v131 := Try.zeroValue92
  t182 := Try.underlying150
  a182 := Try.isAgg150
  z182 := Try.sizeOf150
  v182 := Try.zeroValue150
  t183 := Try.underlying151
  a183 := Try.isAgg151
  z183 := Try.sizeOf151
  v183 := Try.zeroValue151
  t218 := Try.underlying168
  a218 := Try.isAgg168
  z218 := Try.sizeOf168
  v218 := Try.zeroValue168
  t222 := Try.underlying172
  a222 := Try.isAgg172
  z222 := Try.sizeOf172
  v222 := Try.zeroValue172
  t228 := Try.underlying182
  a228 := Try.isAgg182
  z228 := Try.sizeOf182
  v228 := Try.zeroValue182
  t229 := Try.underlying183
  a229 := Try.isAgg183
  z229 := Try.sizeOf183
  v229 := Try.zeroValue183

theorem sort_none (w : World) : Calls Try.prog 61 #[.slice none 0 0] w (fun e w' => e = .returned (.tuple #[]) ∧ w' = w) :=
  Go.calls_of_every_depth fun D => Go.Proofs.AnyS.slices_Sort_int_none_in laysSort D none 0 w
theorem PVs_ints {w : World} {y : Ys} : ∀ {l : List Int} {xs : List Value}, PVs (l.flatMap rInt) xs w y → xs = l.map (Value.int .i64) ∧ ∀ x ∈ l, inR .i64 x
  | [], [], _ => ⟨rfl, fun x hx => by cases hx⟩
  | [], _ :: _, h => h.elim
  | x :: l, [], h => h.elim
  | x :: l, v :: xs, h => by
    have h1 : v = .int .i64 x ∧ inR .i64 x := h.1.2
    obtain ⟨h2, h3⟩ := PVs_ints (l := l) (xs := xs) h.2
    exact ⟨by rw [h1.1, h2]; rfl, fun z hz => by rcases List.mem_cons.1 hz with rfl | hz; exact h1.2; exact h3 z hz⟩
theorem PVs_of_ints {w : World} {y : Ys} : ∀ {l : List Int}, (∀ x ∈ l, inR .i64 x) → PVs (l.flatMap rInt) (l.map (Value.int .i64)) w y
  | [], _ => trivial
  | x :: l, h => ⟨⟨rfl, rfl, h x (by simp)⟩, PVs_of_ints fun z hz => h z (by simp [hz])⟩
theorem get_ints {l : List Int} {j : Nat} (hj : j < l.length) : (l.toArray)[j]! = l[j] := by simp [hj]
theorem sorted_heap {w : World} {g n : Nat} {d : List Int} {os : Array Obj} {cur : Array Value} {e : TypeId} (hg : w.heap[g]? = some (.cells cur e (0, 0))) (b : Nat) (hb : b < w.heap.size) :
    (Go.Sort.grow (Go.Sort.putRow (Value.int .i64) (Go.Sort.ahead w n) g 0 d.toArray) os).heap[b]? = if b = g then some (.cells (Go.Sort.putCells (Value.int .i64) 0 d.toArray cur) e (0, 0)) else w.heap[b]? := by
  unfold Go.Sort.grow Go.Sort.putRow Go.Sort.mapBlock Go.Sort.ahead
  simp only
  rw [Array.getElem?_append_left (by simpa using hb), Array.getElem?_modify]
  by_cases h : g = b
  · subst h
    rw [if_pos rfl, if_pos rfl, hg]; rfl
  · rw [if_neg h, if_neg (fun e => h e.symm)]
theorem put_take {cur : Array Value} {d : List Int} (h : d.length ≤ cur.size) : (Go.Sort.putCells (Value.int .i64) 0 d.toArray cur).toList.take d.length = d.map (Value.int .i64) := by
  apply List.ext_getElem
  · simp [Go.Sort.putCells]; omega
  · intro i h1 h2
    have hi : i < d.length := by simpa using h2
    simp [Go.Sort.putCells, hi]
theorem sort_c (v : Value) (l : List Int) (hlm : l.length ≤ 1000000) : FnG Try.prog 61 1 [.is v] [rowH 3 1 rInt l v] (.tup []) (fun _ => [rowH 3 1 rInt (l.mergeSort leI) v]) := fun w F vs hw hle hvs hpr => by
  match vs, hvs with
  | [u], hvs =>
    have hu : u = v := hvs.1.1
    subst hu
    obtain ⟨xs, ⟨hxl, hx⟩, hp, hf⟩ := hpr 0 _ rfl
    rcases hx with ⟨rfl, h0⟩ | ⟨g, cap, cur, rfl, _, hg, hn, hcap, hcs, hct⟩
    · have hl : l = [] := List.eq_nil_of_length_eq_zero h0
      subst hl
      refine (sort_none w).mono ?_
      rintro e w' ⟨rfl, rfl⟩
      refine ⟨.tuple #[], F, rfl, hw, ⟨rfl, rfl, rfl, Nat.le_refl _, fun _ _ _ => rfl, fun _ _ => rfl, fun n hn b hb => .inl ⟨n, hn, hb⟩⟩, hle, ⟨[], rfl, trivial⟩, fun i h hi => ?_⟩
      match i, hi with
      | 0, hi => simp at hi; subst hi; exact ⟨xs, ⟨hxl, .inl ⟨rfl, rfl⟩⟩, by simpa using hp, hf⟩
    · have hgs : g < w.heap.size := (Array.getElem?_eq_some_iff.1 hg).1
      obtain ⟨hxe, hin⟩ := PVs_ints hp
      have hcl : l.length ≤ cur.size := by rw [hcs]; omega
      have hbig : l.length < 4611686018427387904 := by omega
      have hcur : ∀ j (hj : j < l.length), cur[j]? = some (.int .i64 l[j]) := fun j hj => by
        have h1 : (cur.toList.take (l.length * 1))[j]? = (l.map (Value.int .i64))[j]? := by rw [hct, hxe]
        rw [List.getElem?_take_of_lt (by omega)] at h1
        simpa [hj] using h1
      have hH : Go.Sort.Holds (Value.int .i64) w g 0 l.toArray := fun j hj => by
        have hj' : j < l.length := by simpa using hj
        refine ⟨?_, ?_⟩
        · rw [get_ints hj', Nat.zero_add, cell_of_block hg]; exact hcur j hj'
        · simp [World.frozen?, hg]
      have hcalls : Calls Try.prog 61 #[.slice (some ⟨g, 0, none⟩) l.length cap] w fun e w' => e = .returned (.tuple #[]) ∧ ∃ n os, w' = Go.Sort.grow (Go.Sort.putRow (Value.int .i64) (Go.Sort.ahead w n) g 0 (l.mergeSort leI).toArray) os := Go.Proofs.Any.slices_Sort_int laysSort g 0 cap l w hH hgs hbig
      refine hcalls.mono ?_
      rintro e w' ⟨rfl, n, os, rfl⟩
      have hsl : (l.mergeSort leI).length = l.length := List.length_mergeSort l
      have hheap := fun b hb => sorted_heap (n := n) (d := l.mergeSort leI) (os := os) hg b hb
      have hsz : (Go.Sort.grow (Go.Sort.putRow (Value.int .i64) (Go.Sort.ahead w n) g 0 (l.mergeSort leI).toArray) os).heap.size = w.heap.size + os.size := by simp [Go.Sort.ahead]
      have hfg : F 1 g := (hf g).2 rfl
      have hst : Stp (List.range' 1 1) w F (Go.Sort.grow (Go.Sort.putRow (Value.int .i64) (Go.Sort.ahead w n) g 0 (l.mergeSort leI).toArray) os) F :=
        ⟨rfl, rfl, rfl, by rw [hsz]; omega, fun b hb hn => by
          rw [hheap b hb, if_neg (fun e => by subst e; exact hn 1 (by simp) hfg)], fun _ _ => rfl, fun n hn b hb => .inl ⟨n, hn, hb⟩⟩
      refine ⟨.tuple #[], F, rfl, ⟨hw.dis, fun n b hb => by rw [hsz]; have := hw.bd n b hb; omega⟩, hst, hle, ⟨[], rfl, trivial⟩, fun i h hi => ?_⟩
      match i, hi with
      | 0, hi =>
        simp only [List.getElem?_cons_zero, Option.some.injEq] at hi
        subst hi
        refine ⟨(l.mergeSort leI).map (Value.int .i64), ⟨by simp, .inr ⟨g, cap, _, by rw [hsl], Nat.zero_le _, (hheap g hgs).trans (if_pos rfl), by omega, hcap, by simp [Go.Sort.putCells, hcs], ?_⟩⟩, PVs_of_ints fun x hx => hin x ((List.mergeSort_perm l leI).mem_iff.1 hx), hf⟩
        rw [Nat.mul_one]; exact put_take (by omega)

end Go.Proofs.Ytpnaolljmhhdbaa
