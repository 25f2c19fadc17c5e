/- The library's sort of integers. No condition beyond those that each theorem says. -/
import Derived.Shelf.Sort.Plain
import Derived.Shelf.Slices.In.SortNone
import Derived.Test.YtpjjmolibanakaaDoorOr0
namespace Go.Proofs.YtpjjmolibanakaaDoor
open Go Go.Gm
set_option linter.unusedVariables false
set_option linter.unusedSimpArgs false
set_option maxHeartbeats 4000000
set_option maxRecDepth 8000

def laysSort_ren : Go.Shelf.Ren := ⟨fun | 189 => 38 | 125 => 46 | 257 => 45 | 128 => 64 | 129 => 65 | 294 => 55 | 295 => 56 | 296 => 57 | 297 => 58 | 298 => 59 | 299 => 60 | 216 => 61 | 300 => 62 | 301 => 63 | 328 => 74 | 329 => 75 | 330 => 76 | 331 => 77 | 332 => 78 | 215 => 79 | 343 => 85 | n => n, fun | 28 => 36 | 3 => 3 | 46 => 85 | 0 => 0 | 51 => 110 | 53 => 73 | 4 => 4 | 183 => 102 | 182 => 101 | 131 => 107 | 5 => 5 | 9 => 9 | 218 => 118 | 222 => 122 | 228 => 127 | 229 => 128 | n => n, fun  | n => n⟩
theorem laysSort : Lays.n189 Tryd.prog laysSort_ren where
  mixed := by kernel_rfl
  f125 := Tryd.func46.trans (congrArg some (by kernel_rfl))
  f128 := Tryd.func64.trans (congrArg some (by kernel_rfl))
  f129 := Tryd.func65.trans (congrArg some (by kernel_rfl))
  f189 := Tryd.func38.trans (congrArg some (by kernel_rfl))
  f215 := Tryd.func79.trans (congrArg some (by kernel_rfl))
  f216 := Tryd.func61.trans (congrArg some (by kernel_rfl))
  f257 := Tryd.func45.trans (congrArg some (by kernel_rfl))
  f294 := Tryd.func55.trans (congrArg some (by kernel_rfl))
  f295 := Tryd.func56.trans (congrArg some (by kernel_rfl))
  f296 := Tryd.func57.trans (congrArg some (by kernel_rfl))
  f297 := Tryd.func58.trans (congrArg some (by kernel_rfl))
  f298 := Tryd.func59.trans (congrArg some (by kernel_rfl))
  f299 := Tryd.func60.trans (congrArg some (by kernel_rfl))
  f300 := Tryd.func62.trans (congrArg some (by kernel_rfl))
  f301 := Tryd.func63.trans (congrArg some (by kernel_rfl))
  f328 := Tryd.func74.trans (congrArg some (by kernel_rfl))
  f329 := Tryd.func75.trans (congrArg some (by kernel_rfl))
  f330 := Tryd.func76.trans (congrArg some (by kernel_rfl))
  f331 := Tryd.func77.trans (congrArg some (by kernel_rfl))
  f332 := Tryd.func78.trans (congrArg some (by kernel_rfl))
  f343 := Tryd.func85.trans (congrArg some (by kernel_rfl))
  t0 := Tryd.underlying0
  a0 := Tryd.isAgg0
  z0 := Tryd.sizeOf0
  v0 := Tryd.zeroValue0
  t3 := Tryd.underlying3
  a3 := Tryd.isAgg3
  z3 := Tryd.sizeOf3
  v3 := Tryd.zeroValue3
  t4 := Tryd.underlying4
  a4 := Tryd.isAgg4
  z4 := Tryd.sizeOf4
  v4 := Tryd.zeroValue4
  t5 := Tryd.underlying5
  a5 := Tryd.isAgg5
  z5 := Tryd.sizeOf5
  v5 := Tryd.zeroValue5
  t9 := Tryd.underlying9
  a9 := Tryd.isAgg9
  z9 := Tryd.sizeOf9
  v9 := Tryd.zeroValue9
  t28 := Tryd.underlying36
  a28 := Tryd.isAgg36
  z28 := Tryd.sizeOf36
  v28 := Tryd.zeroValue36
  t46 := Tryd.underlying85
  a46 := Tryd.isAgg85
  z46 := Tryd.sizeOf85
  v46 := Tryd.zeroValue85
  t51 := Tryd.underlying110
  a51 := Tryd.isAgg110
  z51 := Tryd.sizeOf110
  v51 := Tryd.zeroValue110
  t53 := Tryd.underlying73
  a53 := Tryd.isAgg73
  z53 := Tryd.sizeOf73
  v53 := Tryd.zeroValue73
  t131 := Tryd.underlying107
  a131 := Tryd.isAgg107
  z131 := Tryd.sizeOf107
  v131 := Tryd.zeroValue107
  t182 := Tryd.underlying101
  a182 := Tryd.isAgg101
  z182 := Tryd.sizeOf101
  v182 := Tryd.zeroValue101
  t183 := Tryd.underlying102
  a183 := Tryd.isAgg102
  z183 := Tryd.sizeOf102
  v183 := Tryd.zeroValue102
  t218 := Tryd.underlying118
  a218 := Tryd.isAgg118
  z218 := Tryd.sizeOf118
  v218 := Tryd.zeroValue118
  t222 := Tryd.underlying122
  a222 := Tryd.isAgg122
  z222 := Tryd.sizeOf122
  v222 := Tryd.zeroValue122
  t228 := Tryd.underlying127
  a228 := Tryd.isAgg127
  z228 := Tryd.sizeOf127
  v228 := Tryd.zeroValue127
  t229 := Tryd.underlying128
  a229 := Tryd.isAgg128
  z229 := Tryd.sizeOf128
  v229 := Tryd.zeroValue128

theorem sort_none (w : World) : Calls Tryd.prog 38 #[.slice none 0 0] w (fun e w' => e = .returned (.tuple #[]) ∧ w' = w) :=
  Go.calls_of_every_depth fun D => Go.Proofs.AnyS.slices_Sort_int_none_in laysSort D none 0 w
theorem PVs_ints {w : World} {y : Ys} : ∀ {l : List Int} {xs : List Value}, PVs (l.flatMap rInt) xs w y → xs = l.map (Value.int .i64) ∧ ∀ x ∈ l, inR .i64 x
  | [], [], _ => ⟨rfl, fun x hx => by cases hx⟩
  | [], _ :: _, h => h.elim
  | x :: l, [], h => h.elim
  | x :: l, v :: xs, h => by
    have h1 : v = .int .i64 x ∧ inR .i64 x := h.1.2
    obtain ⟨h2, h3⟩ := PVs_ints (l := l) (xs := xs) h.2
    exact ⟨by rw [h1.1, h2]; rfl, fun z hz => by rcases List.mem_cons.1 hz with rfl | hz; exact h1.2; exact h3 z hz⟩
theorem PVs_of_ints {w : World} {y : Ys} : ∀ {l : List Int}, (∀ x ∈ l, inR .i64 x) → PVs (l.flatMap rInt) (l.map (Value.int .i64)) w y
  | [], _ => trivial
  | x :: l, h => ⟨⟨rfl, rfl, h x (by simp)⟩, PVs_of_ints fun z hz => h z (by simp [hz])⟩
theorem get_ints {l : List Int} {j : Nat} (hj : j < l.length) : (l.toArray)[j]! = l[j] := by simp [hj]
theorem sorted_heap {w : World} {g n : Nat} {d : List Int} {os : Array Obj} {cur : Array Value} {e : TypeId} (hg : w.heap[g]? = some (.cells cur e (0, 0))) (b : Nat) (hb : b < w.heap.size) :
    (Go.Sort.grow (Go.Sort.putRow (Value.int .i64) (Go.Sort.ahead w n) g 0 d.toArray) os).heap[b]? = if b = g then some (.cells (Go.Sort.putCells (Value.int .i64) 0 d.toArray cur) e (0, 0)) else w.heap[b]? := by
  unfold Go.Sort.grow Go.Sort.putRow Go.Sort.mapBlock Go.Sort.ahead
  simp only
  rw [Array.getElem?_append_left (by simpa using hb), Array.getElem?_modify]
  by_cases h : g = b
  · subst h
    rw [if_pos rfl, if_pos rfl, hg]; rfl
  · rw [if_neg h, if_neg (fun e => h e.symm)]
theorem put_take {cur : Array Value} {d : List Int} (h : d.length ≤ cur.size) : (Go.Sort.putCells (Value.int .i64) 0 d.toArray cur).toList.take d.length = d.map (Value.int .i64) := by
  apply List.ext_getElem
  · simp [Go.Sort.putCells]; omega
  · intro i h1 h2
    have hi : i < d.length := by simpa using h2
    simp [Go.Sort.putCells, hi]
theorem sort_c (v : Value) (l : List Int) (hlm : l.length ≤ 1000000) : FnG Tryd.prog 38 1 [.is v] [rowH 3 1 rInt l v] (.tup []) (fun _ => [rowH 3 1 rInt (l.mergeSort leI) v]) := fun w F vs hw hle hvs hpr => by
  match vs, hvs with
  | [u], hvs =>
    have hu : u = v := hvs.1.1
    subst hu
    obtain ⟨xs, ⟨hxl, hx⟩, hp, hf⟩ := hpr 0 _ rfl
    rcases hx with ⟨rfl, h0⟩ | ⟨g, cap, cur, rfl, _, hg, hn, hcap, hcs, hct⟩
    · have hl : l = [] := List.eq_nil_of_length_eq_zero h0
      subst hl
      refine (sort_none w).mono ?_
      rintro e w' ⟨rfl, rfl⟩
      refine ⟨.tuple #[], F, rfl, hw, ⟨rfl, rfl, rfl, Nat.le_refl _, fun _ _ _ => rfl, fun _ _ => rfl, fun n hn b hb => .inl ⟨n, hn, hb⟩⟩, hle, ⟨[], rfl, trivial⟩, fun i h hi => ?_⟩
      match i, hi with
      | 0, hi => simp at hi; subst hi; exact ⟨xs, ⟨hxl, .inl ⟨rfl, rfl⟩⟩, by simpa using hp, hf⟩
    · have hgs : g < w.heap.size := (Array.getElem?_eq_some_iff.1 hg).1
      obtain ⟨hxe, hin⟩ := PVs_ints hp
      have hcl : l.length ≤ cur.size := by rw [hcs]; omega
      have hbig : l.length < 4611686018427387904 := by omega
      have hcur : ∀ j (hj : j < l.length), cur[j]? = some (.int .i64 l[j]) := fun j hj => by
        have h1 : (cur.toList.take (l.length * 1))[j]? = (l.map (Value.int .i64))[j]? := by rw [hct, hxe]
        rw [List.getElem?_take_of_lt (by omega)] at h1
        simpa [hj] using h1
      have hH : Go.Sort.Holds (Value.int .i64) w g 0 l.toArray := fun j hj => by
        have hj' : j < l.length := by simpa using hj
        refine ⟨?_, ?_⟩
        · rw [get_ints hj', Nat.zero_add, cell_of_block hg]; exact hcur j hj'
        · simp [World.frozen?, hg]
      have hcalls : Calls Tryd.prog 38 #[.slice (some ⟨g, 0, none⟩) l.length cap] w fun e w' => e = .returned (.tuple #[]) ∧ ∃ n os, w' = Go.Sort.grow (Go.Sort.putRow (Value.int .i64) (Go.Sort.ahead w n) g 0 (l.mergeSort leI).toArray) os := Go.Proofs.Any.slices_Sort_int laysSort g 0 cap l w hH hgs hbig
      refine hcalls.mono ?_
      rintro e w' ⟨rfl, n, os, rfl⟩
      have hsl : (l.mergeSort leI).length = l.length := List.length_mergeSort l
      have hheap := fun b hb => sorted_heap (n := n) (d := l.mergeSort leI) (os := os) hg b hb
      have hsz : (Go.Sort.grow (Go.Sort.putRow (Value.int .i64) (Go.Sort.ahead w n) g 0 (l.mergeSort leI).toArray) os).heap.size = w.heap.size + os.size := by simp [Go.Sort.ahead]
      have hfg : F 1 g := (hf g).2 rfl
      have hst : Stp (List.range' 1 1) w F (Go.Sort.grow (Go.Sort.putRow (Value.int .i64) (Go.Sort.ahead w n) g 0 (l.mergeSort leI).toArray) os) F :=
        ⟨rfl, rfl, rfl, by rw [hsz]; omega, fun b hb hn => by
          rw [hheap b hb, if_neg (fun e => by subst e; exact hn 1 (by simp) hfg)], fun _ _ => rfl, fun n hn b hb => .inl ⟨n, hn, hb⟩⟩
      refine ⟨.tuple #[], F, rfl, ⟨hw.dis, fun n b hb => by rw [hsz]; have := hw.bd n b hb; omega⟩, hst, hle, ⟨[], rfl, trivial⟩, fun i h hi => ?_⟩
      match i, hi with
      | 0, hi =>
        simp only [List.getElem?_cons_zero, Option.some.injEq] at hi
        subst hi
        refine ⟨(l.mergeSort leI).map (Value.int .i64), ⟨by simp, .inr ⟨g, cap, _, by rw [hsl], Nat.zero_le _, (hheap g hgs).trans (if_pos rfl), by omega, hcap, by simp [Go.Sort.putCells, hcs], ?_⟩⟩, PVs_of_ints fun x hx => hin x ((List.mergeSort_perm l leI).mem_iff.1 hx), hf⟩
        rw [Nat.mul_one]; exact put_take (by omega)

end Go.Proofs.YtpjjmolibanakaaDoor
