/- The library's sort of uint64. No condition beyond those that each theorem says. -/
import Derived.Test.YtfdjjfplhdpclaaSu8
import Derived.Test.YtfdjjfplhdpclaaMu0
namespace Go.Proofs.Ytfdjjfplhdpclaa
open Go Go.Gm
set_option linter.unusedVariables false
set_option linter.unusedSimpArgs false
set_option maxHeartbeats 4000000
set_option maxRecDepth 8000


open Go.Proofs



theorem sort_none (w : World) : Calls Try.prog 37 #[.slice none 0 0] w (fun e w' => e = .returned (.tuple #[]) ∧ w' = w) :=
  Go.calls_of_every_depth fun D => AnySU.slices_Sort_int_none_in laysSortU D none 0 w
theorem PVs_ints {w : World} {y : Ys} : ∀ {l : List Int} {xs : List Value}, PVs (l.flatMap rU64) xs w y → xs = l.map (Value.int .u64) ∧ ∀ x ∈ l, inR .u64 x
  | [], [], _ => ⟨rfl, fun x hx => by cases hx⟩
  | [], _ :: _, h => h.elim
  | x :: l, [], h => h.elim
  | x :: l, v :: xs, h => by
    have h1 : v = .int .u64 x ∧ inR .u64 x := h.1.2
    obtain ⟨h2, h3⟩ := PVs_ints (l := l) (xs := xs) h.2
    exact ⟨by rw [h1.1, h2]; rfl, fun z hz => by rcases List.mem_cons.1 hz with rfl | hz; exact h1.2; exact h3 z hz⟩
theorem PVs_of_ints {w : World} {y : Ys} : ∀ {l : List Int}, (∀ x ∈ l, inR .u64 x) → PVs (l.flatMap rU64) (l.map (Value.int .u64)) w y
  | [], _ => trivial
  | x :: l, h => ⟨⟨rfl, rfl, h x (by simp)⟩, PVs_of_ints fun z hz => h z (by simp [hz])⟩
theorem get_ints {l : List Int} {j : Nat} (hj : j < l.length) : (l.toArray)[j]! = l[j] := by simp [hj]
theorem sorted_heap {w : World} {g n : Nat} {d : List Int} {os : Array Obj} {cur : Array Value} {e : TypeId} (hg : w.heap[g]? = some (.cells cur e (0, 0))) (b : Nat) (hb : b < w.heap.size) :
    (Go.Sort.grow (Go.Sort.putRow (Value.int .u64) (Go.Sort.ahead w n) g 0 d.toArray) os).heap[b]? = if b = g then some (.cells (Go.Sort.putCells (Value.int .u64) 0 d.toArray cur) e (0, 0)) else w.heap[b]? := by
  unfold Go.Sort.grow Go.Sort.putRow Go.Sort.mapBlock Go.Sort.ahead
  simp only
  rw [Array.getElem?_append_left (by simpa using hb), Array.getElem?_modify]
  by_cases h : g = b
  · subst h
    rw [if_pos rfl, if_pos rfl, hg]; rfl
  · rw [if_neg h, if_neg (fun e => h e.symm)]
theorem put_take {cur : Array Value} {d : List Int} (h : d.length ≤ cur.size) : (Go.Sort.putCells (Value.int .u64) 0 d.toArray cur).toList.take d.length = d.map (Value.int .u64) := by
  apply List.ext_getElem
  · simp [Go.Sort.putCells]; omega
  · intro i h1 h2
    have hi : i < d.length := by simpa using h2
    simp [Go.Sort.putCells, hi]
theorem sortU_c (v : Value) (l : List Int) (hlm : l.length ≤ 1000000) : FnG Try.prog 37 1 [.is v] [rowH 49 1 rU64 l v] (.tup []) (fun _ => [rowH 49 1 rU64 (l.mergeSort leI) v]) := fun w F vs hw hle hvs hpr => by
  match vs, hvs with
  | [u], hvs =>
    have hu : u = v := hvs.1.1
    subst hu
    obtain ⟨xs, ⟨hxl, hx⟩, hp, hf⟩ := hpr 0 _ rfl
    rcases hx with ⟨rfl, h0⟩ | ⟨g, cap, cur, rfl, _, hg, hn, hcap, hcs, hct⟩
    · have hl : l = [] := List.eq_nil_of_length_eq_zero h0
      subst hl
      refine (sort_none w).mono ?_
      rintro e w' ⟨rfl, rfl⟩
      refine ⟨.tuple #[], F, rfl, hw, ⟨rfl, rfl, rfl, Nat.le_refl _, fun _ _ _ => rfl, fun _ _ => rfl, fun n hn b hb => .inl ⟨n, hn, hb⟩⟩, hle, ⟨[], rfl, trivial⟩, fun i h hi => ?_⟩
      match i, hi with
      | 0, hi => simp at hi; subst hi; exact ⟨xs, ⟨hxl, .inl ⟨rfl, rfl⟩⟩, by simpa using hp, hf⟩
    · have hgs : g < w.heap.size := (Array.getElem?_eq_some_iff.1 hg).1
      obtain ⟨hxe, hin⟩ := PVs_ints hp
      have hcl : l.length ≤ cur.size := by rw [hcs]; omega
      have hbig : l.length < 4611686018427387904 := by omega
      have hcur : ∀ j (hj : j < l.length), cur[j]? = some (.int .u64 l[j]) := fun j hj => by
        have h1 : (cur.toList.take (l.length * 1))[j]? = (l.map (Value.int .u64))[j]? := by rw [hct, hxe]
        rw [List.getElem?_take_of_lt (by omega)] at h1
        simpa [hj] using h1
      have hH : Go.Sort.Holds (Value.int .u64) w g 0 l.toArray := fun j hj => by
        have hj' : j < l.length := by simpa using hj
        refine ⟨?_, ?_⟩
        · rw [get_ints hj', Nat.zero_add, cell_of_block hg]; exact hcur j hj'
        · simp [World.frozen?, hg]
      have hcalls : Calls Try.prog 37 #[.slice (some ⟨g, 0, none⟩) l.length cap] w fun e w' => e = .returned (.tuple #[]) ∧ ∃ n os, w' = Go.Sort.grow (Go.Sort.putRow (Value.int .u64) (Go.Sort.ahead w n) g 0 (l.mergeSort leI).toArray) os := Go.calls_of_every_depth fun D => AnySU.slices_Sort_int_in laysSortU D g 0 cap l w hH hgs hbig
      refine hcalls.mono ?_
      rintro e w' ⟨rfl, n, os, rfl⟩
      have hsl : (l.mergeSort leI).length = l.length := List.length_mergeSort l
      have hheap := fun b hb => sorted_heap (n := n) (d := l.mergeSort leI) (os := os) hg b hb
      have hsz : (Go.Sort.grow (Go.Sort.putRow (Value.int .u64) (Go.Sort.ahead w n) g 0 (l.mergeSort leI).toArray) os).heap.size = w.heap.size + os.size := by simp [Go.Sort.ahead]
      have hfg : F 1 g := (hf g).2 rfl
      have hst : Stp (List.range' 1 1) w F (Go.Sort.grow (Go.Sort.putRow (Value.int .u64) (Go.Sort.ahead w n) g 0 (l.mergeSort leI).toArray) os) F :=
        ⟨rfl, rfl, rfl, by rw [hsz]; omega, fun b hb hn => by
          rw [hheap b hb, if_neg (fun e => by subst e; exact hn 1 (by simp) hfg)], fun _ _ => rfl, fun n hn b hb => .inl ⟨n, hn, hb⟩⟩
      refine ⟨.tuple #[], F, rfl, ⟨hw.dis, fun n b hb => by rw [hsz]; have := hw.bd n b hb; omega⟩, hst, hle, ⟨[], rfl, trivial⟩, fun i h hi => ?_⟩
      match i, hi with
      | 0, hi =>
        simp only [List.getElem?_cons_zero, Option.some.injEq] at hi
        subst hi
        refine ⟨(l.mergeSort leI).map (Value.int .u64), ⟨by simp, .inr ⟨g, cap, _, by rw [hsl], Nat.zero_le _, (hheap g hgs).trans (if_pos rfl), by omega, hcap, by simp [Go.Sort.putCells, hcs], ?_⟩⟩, PVs_of_ints fun x hx => hin x ((List.mergeSort_perm l leI).mem_iff.1 hx), hf⟩
        rw [Nat.mul_one]; exact put_take (by omega)

end Go.Proofs.Ytfdjjfplhdpclaa
