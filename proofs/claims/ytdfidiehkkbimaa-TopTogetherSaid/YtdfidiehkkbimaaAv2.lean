/- Arenas that may be none; cells. No condition beyond those that each theorem says. -/
import Derived.Test.YtdfidiehkkbimaaAv1
namespace Go.Proofs.Ytdfidiehkkbimaa
open Go Go.Gm
set_option linter.unusedVariables false
set_option linter.unusedSimpArgs false
set_option maxHeartbeats 4000000
set_option maxRecDepth 8000


theorem FnP.ownA {P : Program} {f : FuncId} {args : List PV} {q : PV} {c c' : Prop} (h : c → FnP P f args q) (hc : c → c') : FnG P f 1 args [HP.and c (HP.star [])] q (fun _ => [HP.and c' (HP.star [])]) := fun w F vs hw hle hvs hpr => by
  have h0 := hpr 0 _ rfl
  refine (h h0.1 w (U F) vs (fun b ⟨n, hn⟩ => hw.bd n b hn) hvs).mono ?_
  rintro e' w' ⟨v, rfl, hq, hbel⟩
  refine ⟨v, F, rfl, ⟨hw.dis, fun n b hn => Nat.lt_of_lt_of_le (hw.bd n b hn) hbel.size⟩, ⟨hbel.os, hbel.tape, hbel.output, hbel.size, fun b hb _ => hbel.block b hb, fun _ _ => rfl, fun n hn b hb => .inl ⟨n, hn, hb⟩⟩, hle, hq, fun i h hi => ?_⟩
  match i, hi with
  | 0, hi =>
    simp at hi
    subst hi
    exact ⟨hc h0.1, h0.2⟩
/-- An arena that may be none. -/
def arV (o : Option Nat) : Value := .pointer (o.map fun b => ⟨b, 0, none⟩)
def arH (o : Option Nat) (room : Int) (q : List Cell) : HP :=
  match o with
  | none => .and (room = 0 ∧ q = []) (.star [])
  | some b => arenaH (.pointer (some ⟨b, 0, none⟩)) room q
theorem aLen_c (o : Option Nat) (room : Int) (q : List Cell) : FnG Try.prog 89 1 [.is (arV o)] [arH o room q] (.int .i64 q.length) (fun _ => [arH o room q]) :=
  match o with
  | some b => arLen_c b room q
  | none => FnP.ownA (c := room = 0 ∧ q = []) (fun h => by rw [h.2]; exact arLen_nil) fun h => h
theorem aGet_c (o : Option Nat) (room : Int) (q : List Cell) (i : Int) : FnG Try.prog 126 1 [.is (arV o), .int .i64 i] [arH o room q] (.tup [.agg (rCell (getC q i)), .bool (getP q i).2]) (fun _ => [arH o room q]) :=
  match o with
  | some b => arGet_c b room q i
  | none => FnP.ownA (c := room = 0 ∧ q = []) (fun h => by rw [h.2]; exact arGet_nil i) fun h => h
theorem aCut_c (o : Option Nat) (room : Int) (q : List Cell) (n : Int) : FnG Try.prog 123 1 [.is (arV o), .int .i64 n] [arH o room q] (.bool (cutIs q n)) (fun _ => [arH o room (arCut q n)]) :=
  match o with
  | some b => arCut_c b room q n
  | none => FnP.ownA (c := room = 0 ∧ q = []) (c' := room = 0 ∧ arCut q n = []) (fun h => by rw [h.2]; exact arCut_nil n) fun h => ⟨h.1, by rw [h.2]; unfold arCut; split <;> simp⟩
theorem aPut_c (o : Option Nat) (room : Int) (q : List Cell) (c : Cell) : FnG Try.prog 145 1 [.is (arV o), .agg (rCell c)] [arH o room q] (.tup [.int .i64 (arPut room q c).2.1, .int .i64 (arPut room q c).2.2]) (fun _ => [arH o room (arPut room q c).1]) :=
  match o with
  | some b => arPut_c b room q c
  | none => FnP.ownA (c := room = 0 ∧ q = []) (c' := room = 0 ∧ (arPut room q c).1 = []) (fun h => by rw [h.1, h.2]; exact arPut_nil c) fun h => ⟨h.1, by rw [h.1, h.2]; unfold arPut; split; rfl; rw [if_pos (by simp)]⟩

theorem mcell_c (o : Option Nat) (room : Int) (q : List Cell) (root i : Int) : FnG Try.prog 93 1 [.agg [.is (arV o), .int .i64 root], .int .i64 i] [arH o room q] (.agg (rCell (getC q i))) (fun _ => [arH o room q]) := by
  refine FnG.mk Try.func93 rfl Try.ntmps93 rfl (by kernel_rfl) ?_
  intro B F0 a w F hB hG hS
  refine wp_seq ?_
  refine region_q hS
    (cF rfl (oX 101 (.conv .t .agg)) r1 trivial
    (cF rfl (oH [.int .i64 0, .int .i64 0, .int .i64 0, .int .i64 0, .int .i64 0, .int .i64 0] 102) trivial trivial
    Chain.nil))
    hB ?_
  clear hS; intro a w F hS
  replace hS := hS.sub
  obtain ⟨F, hS⟩ := hS.nm [4, 2, 1] [102, 101, 1, 0] rfl rfl
  try dsimp only [RS.sub, SF.sub, CF.sub, csub, Anc.sub, List.map, zCF, rCell, rPair] at hS
  generalize Act.tau a 2 = v2 at hS
  generalize Act.tau a 4 = v4 at hS
  refine then_n (wp_seq ?_)
  refine region_q hS
    (cF rfl (oF 0 101 .is) r1 r1
    (cF rfl (oL false 1 101 .adr) r1 r1
    (cF rfl (oM .t) r1 trivial
    (cF rfl (o_callG1 1 (aGet_c o room q i) Try.func126 rfl (by kernel_rfl) (Args.two .t .t)) r2 r1
    (cF rfl (oM .t) r1 trivial
    (cF rfl (o_extract .t rfl) r1 trivial
    (cF rfl (o_extract .t rfl) r1 trivial
    (cF rfl (oH [.int .i64 0, .int .i64 0, .int .i64 0, .int .i64 0, .int .i64 0, .int .i64 0] 103) trivial trivial
    (cF rfl (oA 6 103 .same (.conv .t .agg)) r2 r1
    (cF rfl (oN .t) r1 trivial
    Chain.nil))))))))))
    hB ?_
  clear hS; intro a w F hS
  replace hS := hS.sub
  obtain ⟨F, hS⟩ := hS.nm [5, 4] [103, 102, 1, 0] rfl rfl
  try dsimp only [RS.sub, SF.sub, CF.sub, csub, Anc.sub, List.map, stCells, xL, xM, Nat.reduceAdd, xD, xE, xT, xU, xC, xN, zCF, ldSF, rCell, rPair] at hS
  generalize Act.tau a 5 = v5 at hS
  refine then_n (wp_seq ?_)
  refine region_q hS
    (cF rfl (oL true 6 103 .is) r1 r1
    (cF rfl (oA 6 102 .is .t) r2 r1
    Chain.nil))
    hB ?_
  clear hS; intro a w F hS
  obtain ⟨F, hS⟩ := hS.nm [4] [102, 1, 0] rfl rfl
  try dsimp only [List.map, stCells, xL, xM, Nat.reduceAdd, xD, xE, xT, xU, xC, xN, zCF, ldSF, rCell, rPair] at hS
  refine then_n (wp_ret ?_)
  refine ret_G1 hG hS rfl (.cell (n := 102) (ag := true) (sz := 6) rfl .is rfl (by kernel_rfl) (by kernel_rfl) (by kernel_rfl) .nil) (.one (.aggU rfl rfl)) rfl

theorem scell_c (o : Option Nat) (room : Int) (q : List Cell) (root i : Int) : FnG Try.prog 87 1 [.agg [.is (arV o), .int .i64 root], .int .i64 i] [arH o room q] (.agg (rCell (getC q i))) (fun _ => [arH o room q]) := by
  refine FnG.mk Try.func87 rfl Try.ntmps87 rfl (by kernel_rfl) ?_
  intro B F0 a w F hB hG hS
  refine wp_seq ?_
  refine region_q hS
    (cF rfl (oX 101 (.conv .t .agg)) r1 trivial
    (cF rfl (oH [.int .i64 0, .int .i64 0, .int .i64 0, .int .i64 0, .int .i64 0, .int .i64 0] 102) trivial trivial
    Chain.nil))
    hB ?_
  clear hS; intro a w F hS
  replace hS := hS.sub
  obtain ⟨F, hS⟩ := hS.nm [4, 2, 1] [102, 101, 1, 0] rfl rfl
  try dsimp only [RS.sub, SF.sub, CF.sub, csub, Anc.sub, List.map, zCF, rCell, rPair] at hS
  generalize Act.tau a 2 = v2 at hS
  generalize Act.tau a 4 = v4 at hS
  refine then_n (wp_seq ?_)
  refine region_q hS
    (cF rfl (oF 0 101 .is) r1 r1
    (cF rfl (oL false 1 101 .adr) r1 r1
    (cF rfl (oM .t) r1 trivial
    (cF rfl (o_callG1 1 (aGet_c o room q i) Try.func126 rfl (by kernel_rfl) (Args.two .t .t)) r2 r1
    (cF rfl (oM .t) r1 trivial
    (cF rfl (o_extract .t rfl) r1 trivial
    (cF rfl (o_extract .t rfl) r1 trivial
    (cF rfl (oH [.int .i64 0, .int .i64 0, .int .i64 0, .int .i64 0, .int .i64 0, .int .i64 0] 103) trivial trivial
    (cF rfl (oA 6 103 .same (.conv .t .agg)) r2 r1
    (cF rfl (oN .t) r1 trivial
    Chain.nil))))))))))
    hB ?_
  clear hS; intro a w F hS
  replace hS := hS.sub
  obtain ⟨F, hS⟩ := hS.nm [5, 4] [103, 102, 1, 0] rfl rfl
  try dsimp only [RS.sub, SF.sub, CF.sub, csub, Anc.sub, List.map, stCells, xL, xM, Nat.reduceAdd, xD, xE, xT, xU, xC, xN, zCF, ldSF, rCell, rPair] at hS
  generalize Act.tau a 5 = v5 at hS
  refine then_n (wp_seq ?_)
  refine region_q hS
    (cF rfl (oL true 6 103 .is) r1 r1
    (cF rfl (oA 6 102 .is .t) r2 r1
    Chain.nil))
    hB ?_
  clear hS; intro a w F hS
  obtain ⟨F, hS⟩ := hS.nm [4] [102, 1, 0] rfl rfl
  try dsimp only [List.map, stCells, xL, xM, Nat.reduceAdd, xD, xE, xT, xU, xC, xN, zCF, ldSF, rCell, rPair] at hS
  refine then_n (wp_ret ?_)
  refine ret_G1 hG hS rfl (.cell (n := 102) (ag := true) (sz := 6) rfl .is rfl (by kernel_rfl) (by kernel_rfl) (by kernel_rfl) .nil) (.one (.aggU rfl rfl)) rfl

end Go.Proofs.Ytdfidiehkkbimaa
