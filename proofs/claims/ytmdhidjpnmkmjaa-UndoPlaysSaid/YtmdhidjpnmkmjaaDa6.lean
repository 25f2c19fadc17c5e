/- Deltas copied and turned round. No condition beyond those that each theorem says. -/
import Derived.Test.YtmdhidjpnmkmjaaDa5
namespace Go.Proofs.Ytmdhidjpnmkmjaa
open Go Go.Gm
set_option linter.unusedVariables false
set_option linter.unusedSimpArgs false
set_option maxHeartbeats 4000000
set_option maxRecDepth 8000

def TxsOk (l : List TxD) : Prop := l.length ≤ 1000000 ∧ ∀ t ∈ l, t.ops.length ≤ 1000000
def OrdsOk (l : List OrdD) : Prop := l.length ≤ 1000000 ∧ ∀ t ∈ l, t.txs.length ≤ 1000000
structure DOk (d : DeltaD) : Prop where
  was : TxsOk d.was
  now : TxsOk d.now
  old : OrdsOk d.old
  new : OrdsOk d.new
def inv (d : DeltaD) : DeltaD := ⟨d.now, d.was, d.new, d.old⟩
theorem inv_inv (d : DeltaD) : inv (inv d) = d := rfl
theorem DOk.inv {d : DeltaD} (h : DOk d) : DOk (inv d) := ⟨h.now, h.was, h.new, h.old⟩

theorem dcopied_c (d : DeltaD) (h : DOk d) : FnP Try.prog 56 [.agg (rDelta d)] (.agg (rDelta d)) := by
  refine FnP.mk Try.func56 rfl Try.ntmps56 rfl ?_
  intro B a w F hB hfr hS
  refine wp_seq ?_
  refine region_seq hS (by kernel_rfl)
      (Chain.cons (Cert.free rfl (o_boxA 101 (.conv .t .agg) (by kernel_rfl))) ⟨rfl, trivial⟩ trivial
      (Chain.cons (Cert.free rfl (o_alloc (zs := [.slice none 0 0, .slice none 0 0, .slice none 0 0, .slice none 0 0]) 102 (by kernel_rfl))) trivial trivial
      Chain.nil))
      (by kernel_rfl) (by rw [hB]; kernel_rfl) ?_
  clear hS; intro a w F hS
  replace hS := hS.sub
  replace hS := hS.norm [(1, _), (2, _)] [(0, _), (101, _), (102, _)] ⟨rfl, rfl, trivial⟩ ⟨rfl, rfl, rfl, trivial⟩
  obtain ⟨F, hS⟩ := hS
  try dsimp only [RS.sub, SF.sub, CF.sub, csub, Anc.sub, stCells, List.map, List.length_cons, List.length_nil, Nat.reduceAdd, List.drop_succ_cons, List.drop_zero, List.drop_nil, List.take_succ_cons, List.take_zero, List.take_nil, List.cons_append, List.nil_append, zCF, ldSF] at hS
  generalize Act.tau a 1 = v1 at hS
  generalize Act.tau a 2 = v2 at hS
  refine then_n ?_
  refine wp_seq ?_
  refine region_any (by kernel_rfl) hS (by kernel_rfl)
      (Chain.cons (Cert.free rfl (o_fieldAddr (off := 0) 101 .is (by kernel_rfl) (by rfl))) ⟨rfl, trivial⟩ ⟨rfl, trivial⟩
      (Chain.cons (Cert.free rfl (o_load (ag := false) (sz := 1) 101 .adr (by kernel_rfl) (by kernel_rfl) (by kernel_rfl) (by rfl))) ⟨rfl, trivial⟩ ⟨rfl, trivial⟩
      (Chain.cons (Cert.free rfl (o_callP (txs_c d.was h.was.1 h.was.2) Try.func60 rfl (by kernel_rfl) (Args.one .t))) ⟨rfl, trivial⟩ trivial
      (Chain.cons (Cert.free rfl (o_fieldAddr (off := 1) 101 .is (by kernel_rfl) (by rfl))) ⟨rfl, trivial⟩ ⟨rfl, trivial⟩
      (Chain.cons (Cert.free rfl (o_load (ag := false) (sz := 1) 101 .adr (by kernel_rfl) (by kernel_rfl) (by kernel_rfl) (by rfl))) ⟨rfl, trivial⟩ ⟨rfl, trivial⟩
      (Chain.cons (Cert.free rfl (o_callP (txs_c d.now h.now.1 h.now.2) Try.func60 rfl (by kernel_rfl) (Args.one .t))) ⟨rfl, trivial⟩ trivial
      (Chain.cons (Cert.free rfl (o_fieldAddr (off := 2) 101 .is (by kernel_rfl) (by rfl))) ⟨rfl, trivial⟩ ⟨rfl, trivial⟩
      (Chain.cons (Cert.free rfl (o_load (ag := false) (sz := 1) 101 .adr (by kernel_rfl) (by kernel_rfl) (by kernel_rfl) (by rfl))) ⟨rfl, trivial⟩ ⟨rfl, trivial⟩
      (Chain.cons (Cert.free rfl (o_callP (orders_c d.old h.old.1 h.old.2) Try.func61 rfl (by kernel_rfl) (Args.one .t))) ⟨rfl, trivial⟩ trivial
      (Chain.cons (Cert.free rfl (o_fieldAddr (off := 3) 101 .is (by kernel_rfl) (by rfl))) ⟨rfl, trivial⟩ ⟨rfl, trivial⟩
      (Chain.cons (Cert.free rfl (o_load (ag := false) (sz := 1) 101 .adr (by kernel_rfl) (by kernel_rfl) (by kernel_rfl) (by rfl))) ⟨rfl, trivial⟩ ⟨rfl, trivial⟩
      (Chain.cons (Cert.free rfl (o_callP (orders_c d.new h.new.1 h.new.2) Try.func61 rfl (by kernel_rfl) (Args.one .t))) ⟨rfl, trivial⟩ trivial
      (Chain.cons (Cert.free rfl (o_build (r := [(0, .tmp 5), (1, .tmp 8), (2, .tmp 11), (3, .tmp 14)]) (zs := [.slice none 0 0, .slice none 0 0, .slice none 0 0, .slice none 0 0]) (pl := [(0, 1), (1, 1), (2, 1), (3, 1)]) (by kernel_rfl) (by kernel_rfl) (.one rfl .t one_sl (by kernel_rfl) (.one rfl .t one_sl (by kernel_rfl) (.one rfl .t one_sl (by kernel_rfl) (.one rfl .t one_sl (by kernel_rfl) .nil)))) (by rfl))) ⟨rfl, rfl, rfl, rfl, trivial⟩ trivial
      (Chain.cons (Cert.free rfl (o_storeA (sz := 4) 102 .is .t (by kernel_rfl) (by kernel_rfl) (by kernel_rfl))) ⟨rfl, rfl, trivial⟩ ⟨rfl, trivial⟩
      Chain.nil))))))))))))))
      (by kernel_rfl) (by rw [hB]; kernel_rfl) ?_
  clear hS; intro a w F hS
  replace hS := hS.norm [(2, _)] [(0, _), (102, _)] ⟨rfl, trivial⟩ ⟨rfl, rfl, trivial⟩
  obtain ⟨F, hS⟩ := hS
  try dsimp only [RS.sub, SF.sub, CF.sub, csub, Anc.sub, stCells, List.map, List.length_cons, List.length_nil, Nat.reduceAdd, List.drop_succ_cons, List.drop_zero, List.drop_nil, List.take_succ_cons, List.take_zero, List.take_nil, List.cons_append, List.nil_append, zCF, ldSF] at hS
  refine then_n ?_
  refine wp_ret ?_
  refine ret_P hfr hS rfl (.cell (n := 102) (ag := true) (sz := 4) rfl .is rfl (by kernel_rfl) (by kernel_rfl) (by kernel_rfl) .nil) (.one (.aggU rfl rfl))

theorem invert_c (d : DeltaD) (h : DOk d) : FnP Try.prog 47 [.agg (rDelta d)] (.agg (rDelta (inv d))) := by
  refine FnP.mk Try.func47 rfl Try.ntmps47 rfl ?_
  intro B a w F hB hfr hS
  refine wp_seq ?_
  refine region_seq hS (by kernel_rfl)
      (Chain.cons (Cert.free rfl (o_boxA 101 (.conv .t .agg) (by kernel_rfl))) ⟨rfl, trivial⟩ trivial
      (Chain.cons (Cert.free rfl (o_alloc (zs := [.slice none 0 0, .slice none 0 0, .slice none 0 0, .slice none 0 0]) 102 (by kernel_rfl))) trivial trivial
      Chain.nil))
      (by kernel_rfl) (by rw [hB]; kernel_rfl) ?_
  clear hS; intro a w F hS
  replace hS := hS.sub
  replace hS := hS.norm [(1, _), (2, _)] [(0, _), (101, _), (102, _)] ⟨rfl, rfl, trivial⟩ ⟨rfl, rfl, rfl, trivial⟩
  obtain ⟨F, hS⟩ := hS
  try dsimp only [RS.sub, SF.sub, CF.sub, csub, Anc.sub, stCells, List.map, List.length_cons, List.length_nil, Nat.reduceAdd, List.drop_succ_cons, List.drop_zero, List.drop_nil, List.take_succ_cons, List.take_zero, List.take_nil, List.cons_append, List.nil_append, zCF, ldSF] at hS
  generalize Act.tau a 1 = v1 at hS
  generalize Act.tau a 2 = v2 at hS
  refine then_n ?_
  refine wp_seq ?_
  refine region_seq hS (by kernel_rfl)
      (Chain.cons (Cert.free rfl (o_fieldAddr (off := 1) 101 .is (by kernel_rfl) (by rfl))) ⟨rfl, trivial⟩ ⟨rfl, trivial⟩
      (Chain.cons (Cert.free rfl (o_load (ag := false) (sz := 1) 101 .adr (by kernel_rfl) (by kernel_rfl) (by kernel_rfl) (by rfl))) ⟨rfl, trivial⟩ ⟨rfl, trivial⟩
      (Chain.cons (Cert.free rfl (o_fieldAddr (off := 0) 101 .is (by kernel_rfl) (by rfl))) ⟨rfl, trivial⟩ ⟨rfl, trivial⟩
      (Chain.cons (Cert.free rfl (o_load (ag := false) (sz := 1) 101 .adr (by kernel_rfl) (by kernel_rfl) (by kernel_rfl) (by rfl))) ⟨rfl, trivial⟩ ⟨rfl, trivial⟩
      (Chain.cons (Cert.free rfl (o_fieldAddr (off := 3) 101 .is (by kernel_rfl) (by rfl))) ⟨rfl, trivial⟩ ⟨rfl, trivial⟩
      (Chain.cons (Cert.free rfl (o_load (ag := false) (sz := 1) 101 .adr (by kernel_rfl) (by kernel_rfl) (by kernel_rfl) (by rfl))) ⟨rfl, trivial⟩ ⟨rfl, trivial⟩
      (Chain.cons (Cert.free rfl (o_fieldAddr (off := 2) 101 .is (by kernel_rfl) (by rfl))) ⟨rfl, trivial⟩ ⟨rfl, trivial⟩
      (Chain.cons (Cert.free rfl (o_load (ag := false) (sz := 1) 101 .adr (by kernel_rfl) (by kernel_rfl) (by kernel_rfl) (by rfl))) ⟨rfl, trivial⟩ ⟨rfl, trivial⟩
      (Chain.cons (Cert.free rfl (o_build (r := [(0, .tmp 4), (1, .tmp 6), (2, .tmp 8), (3, .tmp 10)]) (zs := [.slice none 0 0, .slice none 0 0, .slice none 0 0, .slice none 0 0]) (pl := [(0, 1), (1, 1), (2, 1), (3, 1)]) (by kernel_rfl) (by kernel_rfl) (.one rfl .t one_sl (by kernel_rfl) (.one rfl .t one_sl (by kernel_rfl) (.one rfl .t one_sl (by kernel_rfl) (.one rfl .t one_sl (by kernel_rfl) .nil)))) (by rfl))) ⟨rfl, rfl, rfl, rfl, trivial⟩ trivial
      (Chain.cons (Cert.free rfl (o_callP (dcopied_c (inv d) h.inv) Try.func56 rfl (by kernel_rfl) (Args.one (.pagg .t)))) ⟨rfl, trivial⟩ trivial
      (Chain.cons (Cert.free rfl (o_storeA (sz := 4) 102 .is (.conv .t .agg) (by kernel_rfl) (by kernel_rfl) (by kernel_rfl))) ⟨rfl, rfl, trivial⟩ ⟨rfl, trivial⟩
      Chain.nil)))))))))))
      (by kernel_rfl) (by rw [hB]; kernel_rfl) ?_
  clear hS; intro a w F hS
  replace hS := hS.norm [(2, _)] [(0, _), (102, _)] ⟨rfl, trivial⟩ ⟨rfl, rfl, trivial⟩
  obtain ⟨F, hS⟩ := hS
  try dsimp only [RS.sub, SF.sub, CF.sub, csub, Anc.sub, stCells, List.map, List.length_cons, List.length_nil, Nat.reduceAdd, List.drop_succ_cons, List.drop_zero, List.drop_nil, List.take_succ_cons, List.take_zero, List.take_nil, List.cons_append, List.nil_append, zCF, ldSF] at hS
  refine then_n ?_
  refine wp_ret ?_
  refine ret_P hfr hS rfl (.cell (n := 102) (ag := true) (sz := 4) rfl .is rfl (by kernel_rfl) (by kernel_rfl) (by kernel_rfl) .nil) (.one (.aggU rfl rfl))

theorem ucopied_c (d : DeltaD) (h : DOk d) : FnP Try.prog 45 [.agg (rDelta d)] (.agg (rDelta d)) := by
  refine FnP.mk Try.func45 rfl Try.ntmps45 rfl ?_
  intro B a w F hB hfr hS
  refine wp_seq ?_
  refine region_seq hS (by kernel_rfl)
      (Chain.cons (Cert.free rfl (o_boxA 101 (.conv .t .agg) (by kernel_rfl))) ⟨rfl, trivial⟩ trivial
      (Chain.cons (Cert.free rfl (o_alloc (zs := [.slice none 0 0, .slice none 0 0, .slice none 0 0, .slice none 0 0]) 102 (by kernel_rfl))) trivial trivial
      Chain.nil))
      (by kernel_rfl) (by rw [hB]; kernel_rfl) ?_
  clear hS; intro a w F hS
  replace hS := hS.sub
  replace hS := hS.norm [(1, _), (2, _)] [(0, _), (101, _), (102, _)] ⟨rfl, rfl, trivial⟩ ⟨rfl, rfl, rfl, trivial⟩
  obtain ⟨F, hS⟩ := hS
  try dsimp only [RS.sub, SF.sub, CF.sub, csub, Anc.sub, stCells, List.map, List.length_cons, List.length_nil, Nat.reduceAdd, List.drop_succ_cons, List.drop_zero, List.drop_nil, List.take_succ_cons, List.take_zero, List.take_nil, List.cons_append, List.nil_append, zCF, ldSF] at hS
  generalize Act.tau a 1 = v1 at hS
  generalize Act.tau a 2 = v2 at hS
  refine then_n ?_
  refine wp_seq ?_
  refine region_seq hS (by kernel_rfl)
      (Chain.cons (Cert.free rfl (o_load (ag := true) (sz := 4) 101 .is (by kernel_rfl) (by kernel_rfl) (by kernel_rfl) (by rfl))) ⟨rfl, trivial⟩ ⟨rfl, trivial⟩
      (Chain.cons (Cert.free rfl (o_callP (invert_c d h) Try.func47 rfl (by kernel_rfl) (Args.one (.pagg .t)))) ⟨rfl, trivial⟩ trivial
      (Chain.cons (Cert.free rfl (o_callP (invert_c (inv d) h.inv) Try.func47 rfl (by kernel_rfl) (Args.one .t))) ⟨rfl, trivial⟩ trivial
      (Chain.cons (Cert.free rfl (o_storeA (sz := 4) 102 .is (.conv .t .agg) (by kernel_rfl) (by kernel_rfl) (by kernel_rfl))) ⟨rfl, rfl, trivial⟩ ⟨rfl, trivial⟩
      Chain.nil))))
      (by kernel_rfl) (by rw [hB]; kernel_rfl) ?_
  clear hS; intro a w F hS
  replace hS := hS.norm [(2, _)] [(0, _), (102, _)] ⟨rfl, trivial⟩ ⟨rfl, rfl, trivial⟩
  obtain ⟨F, hS⟩ := hS
  try dsimp only [RS.sub, SF.sub, CF.sub, csub, Anc.sub, stCells, List.map, List.length_cons, List.length_nil, Nat.reduceAdd, List.drop_succ_cons, List.drop_zero, List.drop_nil, List.take_succ_cons, List.take_zero, List.take_nil, List.cons_append, List.nil_append, zCF, ldSF] at hS
  refine then_n ?_
  refine wp_ret ?_
  refine ret_P hfr hS rfl (.cell (n := 102) (ag := true) (sz := 4) rfl .is rfl (by kernel_rfl) (by kernel_rfl) (by kernel_rfl) .nil) (.one (.aggU rfl rfl))

theorem refInvert_c (d : DeltaD) : FnP Try.prog 43 [.agg (rDelta d)] (.agg (rDelta (inv d))) := by
  refine FnP.mk Try.func43 rfl Try.ntmps43 rfl ?_
  intro B a w F hB hfr hS
  refine wp_seq ?_
  refine region_seq hS (by kernel_rfl)
      (Chain.cons (Cert.free rfl (o_boxA 101 (.conv .t .agg) (by kernel_rfl))) ⟨rfl, trivial⟩ trivial
      (Chain.cons (Cert.free rfl (o_alloc (zs := [.slice none 0 0, .slice none 0 0, .slice none 0 0, .slice none 0 0]) 102 (by kernel_rfl))) trivial trivial
      Chain.nil))
      (by kernel_rfl) (by rw [hB]; kernel_rfl) ?_
  clear hS; intro a w F hS
  replace hS := hS.sub
  replace hS := hS.norm [(1, _), (2, _)] [(0, _), (101, _), (102, _)] ⟨rfl, rfl, trivial⟩ ⟨rfl, rfl, rfl, trivial⟩
  obtain ⟨F, hS⟩ := hS
  try dsimp only [RS.sub, SF.sub, CF.sub, csub, Anc.sub, stCells, List.map, List.length_cons, List.length_nil, Nat.reduceAdd, List.drop_succ_cons, List.drop_zero, List.drop_nil, List.take_succ_cons, List.take_zero, List.take_nil, List.cons_append, List.nil_append, zCF, ldSF] at hS
  generalize Act.tau a 1 = v1 at hS
  generalize Act.tau a 2 = v2 at hS
  refine then_n ?_
  refine wp_seq ?_
  refine region_seq hS (by kernel_rfl)
      (Chain.cons (Cert.free rfl (o_fieldAddr (off := 1) 101 .is (by kernel_rfl) (by rfl))) ⟨rfl, trivial⟩ ⟨rfl, trivial⟩
      (Chain.cons (Cert.free rfl (o_load (ag := false) (sz := 1) 101 .adr (by kernel_rfl) (by kernel_rfl) (by kernel_rfl) (by rfl))) ⟨rfl, trivial⟩ ⟨rfl, trivial⟩
      (Chain.cons (Cert.free rfl (o_fieldAddr (off := 0) 101 .is (by kernel_rfl) (by rfl))) ⟨rfl, trivial⟩ ⟨rfl, trivial⟩
      (Chain.cons (Cert.free rfl (o_load (ag := false) (sz := 1) 101 .adr (by kernel_rfl) (by kernel_rfl) (by kernel_rfl) (by rfl))) ⟨rfl, trivial⟩ ⟨rfl, trivial⟩
      (Chain.cons (Cert.free rfl (o_fieldAddr (off := 3) 101 .is (by kernel_rfl) (by rfl))) ⟨rfl, trivial⟩ ⟨rfl, trivial⟩
      (Chain.cons (Cert.free rfl (o_load (ag := false) (sz := 1) 101 .adr (by kernel_rfl) (by kernel_rfl) (by kernel_rfl) (by rfl))) ⟨rfl, trivial⟩ ⟨rfl, trivial⟩
      (Chain.cons (Cert.free rfl (o_fieldAddr (off := 2) 101 .is (by kernel_rfl) (by rfl))) ⟨rfl, trivial⟩ ⟨rfl, trivial⟩
      (Chain.cons (Cert.free rfl (o_load (ag := false) (sz := 1) 101 .adr (by kernel_rfl) (by kernel_rfl) (by kernel_rfl) (by rfl))) ⟨rfl, trivial⟩ ⟨rfl, trivial⟩
      (Chain.cons (Cert.free rfl (o_build (r := [(0, .tmp 4), (1, .tmp 6), (2, .tmp 8), (3, .tmp 10)]) (zs := [.slice none 0 0, .slice none 0 0, .slice none 0 0, .slice none 0 0]) (pl := [(0, 1), (1, 1), (2, 1), (3, 1)]) (by kernel_rfl) (by kernel_rfl) (.one rfl .t one_sl (by kernel_rfl) (.one rfl .t one_sl (by kernel_rfl) (.one rfl .t one_sl (by kernel_rfl) (.one rfl .t one_sl (by kernel_rfl) .nil)))) (by rfl))) ⟨rfl, rfl, rfl, rfl, trivial⟩ trivial
      (Chain.cons (Cert.free rfl (o_storeA (sz := 4) 102 .is .t (by kernel_rfl) (by kernel_rfl) (by kernel_rfl))) ⟨rfl, rfl, trivial⟩ ⟨rfl, trivial⟩
      Chain.nil))))))))))
      (by kernel_rfl) (by rw [hB]; kernel_rfl) ?_
  clear hS; intro a w F hS
  replace hS := hS.norm [(2, _)] [(0, _), (102, _)] ⟨rfl, trivial⟩ ⟨rfl, rfl, trivial⟩
  obtain ⟨F, hS⟩ := hS
  try dsimp only [RS.sub, SF.sub, CF.sub, csub, Anc.sub, stCells, List.map, List.length_cons, List.length_nil, Nat.reduceAdd, List.drop_succ_cons, List.drop_zero, List.drop_nil, List.take_succ_cons, List.take_zero, List.take_nil, List.cons_append, List.nil_append, zCF, ldSF] at hS
  refine then_n ?_
  refine wp_ret ?_
  refine ret_P hfr hS rfl (.cell (n := 102) (ag := true) (sz := 4) rfl .is rfl (by kernel_rfl) (by kernel_rfl) (by kernel_rfl) .nil) (.one (.aggU rfl rfl))

end Go.Proofs.Ytmdhidjpnmkmjaa
