/- The iterator over a map's keys. No condition beyond those that each theorem says. -/
import Derived.Test.YtfdjjfplhdpclaaKc0
import Derived.Test.YtfdjjfplhdpclaaMu0
namespace Go.Proofs.Ytfdjjfplhdpclaa
open Go Go.Gm
set_option linter.unusedVariables false
set_option linter.unusedSimpArgs false
set_option maxHeartbeats 4000000
set_option maxRecDepth 8000


open Go.RowKit Go.Maps Go.Sort Go.Shelf Go.ChangeMaps Go.MapKept

def encC (x : Int) : List Value := [.int .u64 x]
def encV (x : Int) : Value := .int .u64 x
def decV (v : Value) : Int := match v with
  | .int _ x => x
  | _ => 0
theorem decV_enc (x : Int) : decV (encV x) = x := rfl
theorem encC_one (x : Int) : ∀ u ∈ [Value.int .u64 x], u.oneCell' = true := by simp [Value.oneCell']
theorem keys_pv {w : World} {y : Ys} : ∀ {l : List Int}, (∀ x ∈ l, inR .u64 x) → PVs (l.flatMap rU64) (l.flatMap encC) w y
  | [], _ => trivial
  | x :: l, h => ⟨⟨rfl, rfl, h x (by simp)⟩, keys_pv fun z hz => h z (by simp [hz])⟩

set_option maxRecDepth 100000 in
set_option maxHeartbeats 1000000 in
theorem kcKeys1 (F : Fence) (n : Nat) (h10 : F.fn 38) (hro : F.round = none) (hn : 1 ≤ n) (l Bm off b clock : Nat) (es : Array MapEntry) (hnd : (es.toList.map (·.born)).Nodup) (hold : ∀ x ∈ es.toList, x.born < clock) (hkv : ∀ e ∈ es.toList, ∃ k : Int, e.key = encV k) (J : List Int → World → Prop)
    (hY : ∀ pre x W, J pre W → pre.length < es.size → YieldAt F (n - 1) Try.prog l #[encV x] W fun e W' => e = .returned (.bool true) ∧ J (pre ++ [x]) W' ∧ KeepsWalks W W')
    (W : World) (hJ : AbidesFrom W.heap.size J) (hm : W.cell? ⟨Bm, off, none⟩ = some (.map (some b))) (hb : W.heap[b]? = some (.map es clock)) (h0 : J [] W) :
    CallsIn F n Try.prog 38 #[.func (.yield l) #[] #[], .pointer (some ⟨Bm, off, none⟩)] W fun e W' => (∃ v, e = .returned v) ∧ ∃ ss : List Int, (ss.map encV).Perm (es.toList.map (·.key)) ∧ J ss W' := by
  have hbl : b < W.heap.size := (Array.getElem?_eq_some_iff.1 hb).1
  refine callsIn_of_wp Try.func38 rfl h10 ?_ hro
  simp only [Try.ntmps38, List.size_toArray, List.length_cons, List.length_nil, Nat.reduceAdd, Nat.reduceSub, Array.replicate_succ, Array.replicate_zero, List.push_toArray, List.append_toArray, List.nil_append, List.cons_append]
  gi_wp2_with (first
    | (gi_at_range; refine wpListIn_range_raw rfl _ 52 rfl 49 21 (by kernel_rfl) b es clock rfl hb ?_)
    | gi_in)
  go_frame
  have hg0 : W.grownBy (W.alloc (.mapIter (some b) clock #[] clock)) none := World.grownBy_alloc W _ none
  have hr0 : (W.alloc (.mapIter (some b) clock #[] clock)).heap[W.heap.size]? = some (.mapIter (some b) clock #[] clock) := World.alloc_heap_new W _
  have hb0 : (W.alloc (.mapIter (some b) clock #[] clock)).heap[b]? = some (.map es clock) := (Below.heap_alloc _ _ b hbl).trans hb
  generalize W.alloc (.mapIter (some b) clock #[] clock) = w0 at hg0 hr0 hb0 ⊢
  gi_loopw [3] (fun _ wr => ∃ (seen : Array Nat) (c0 : Nat) (ss : List Int), wr.heap[W.heap.size]? = some (.mapIter (some b) clock seen c0) ∧ clock ≤ c0 ∧ wr.heap[b]? = some (.map es clock) ∧ (ss.map encV).Perm ((es.toList.filter fun x => seen.contains x.born).map (·.key)) ∧ ss.length + (leftOf es seen).size ≤ es.size ∧ J ss wr)
    (fun _ wr => (leftOf es (wr.iterSeen W.heap.size)).size)
  case atStart =>
    exact ⟨#[], clock, [], hr0, Nat.le_refl _, hb0, by rw [seen_none]; exact .nil, by rw [left_none]; simp, hJ [] W w0 none h0 hg0 (fun r e => by cases e)⟩
  case round =>
    obtain ⟨seen, c0, ss, hr, hsc, hbr, hp, hcs, hJs⟩ := hrel
    gi_wp2_with (first
      | (gi_at_next; refine wpListIn_next_raw rfl _ rfl W.heap.size b clock c0 seen es rfl hr hbr hold hsc (by omega) hnd ?_ ?_)
      | gi_in)
    · intro hl0
      gi_wp2
      go_end0
      exact ⟨⟨_, rfl⟩, ss, by rw [seen_all hl0] at hp; exact hp, hJs⟩
    · intro e w2 hN
      obtain ⟨hem, hes⟩ := mem_left hN.left
      obtain ⟨x, hx⟩ := hkv e hem
      have hr2 := hN.it
      have hb2 := hN.mp
      have hen := hN.entry
      have hlt := left_shrinks es seen e hN.left
      have hJ2 : J ss w2 := hJ ss wr w2 (some W.heap.size) hJs hN.grown (fun r e9 => by cases e9; exact ⟨Nat.le_refl _, _, hr, rfl⟩)
      rw [hx] at hen
      obtain ⟨fn, tmps, assign, body, hy, hR⟩ := hY ss x w2 hJ2 (by omega)
      rw [hx]
      clear hN
      gi_wp2
      refine hR.mono ?_
      rintro e9 W3 ⟨rfl, hJ3, hk3⟩
      gi_wp2
      have hr3 := hk3.same _ _ hr2 rfl
      have hb3 := hk3.same _ _ hb2 rfl
      go_roundw
      case rel =>
        exact ⟨seen.push e.born, clock, ss ++ [x], hr3, Nat.le_refl _, hb3, by
          rw [List.map_append, List.map_singleton]
          have h9 := ((seen_perm hnd hem hes).map (·.key)).symm
          rw [List.map_cons, hx] at h9
          exact ((List.perm_append_singleton _ _).trans (hp.cons _)).trans h9, by rw [List.length_append, List.length_singleton]; omega, hJ3⟩
      case measure =>
        simp only [World.iterSeen, hr3, hr]
        exact hlt

end Go.Proofs.Ytfdjjfplhdpclaa
