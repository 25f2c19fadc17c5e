/- Data held against data. No condition beyond those that each theorem says. -/
import Derived.Test.YtmdhidjpnmkmjaaDa1
namespace Go.Proofs.Ytmdhidjpnmkmjaa
open Go Go.Gm
set_option linter.unusedVariables false
set_option linter.unusedSimpArgs false
set_option maxHeartbeats 4000000
set_option maxRecDepth 8000

theorem txD_eq (u v : TxD) : ((decide (u.id = v.id) && (u.done == v.done)) && decide (u.ops = v.ops)) = decide (u = v) := by
  cases u; cases v
  rw [Bool.eq_iff_iff]
  simp [and_assoc]
theorem ordD_eq (u v : OrdD) : (decide (u.key = v.key) && decide (u.txs = v.txs)) = decide (u = v) := by
  cases u; cases v
  rw [Bool.eq_iff_iff]
  simp
theorem histD_eq (u v : HistD) : (decide (u.txs = v.txs) && decide (u.orders = v.orders)) = decide (u = v) := by
  cases u; cases v
  rw [Bool.eq_iff_iff]
  simp
theorem deltaD_eq (u v : DeltaD) : (decide ((⟨u.was, u.old⟩ : HistD) = ⟨v.was, v.old⟩) && decide ((⟨u.now, u.new⟩ : HistD) = ⟨v.now, v.new⟩)) = decide (u = v) := by
  cases u; cases v
  rw [Bool.eq_iff_iff]
  simp
  constructor
  · rintro ⟨⟨h1, h2⟩, h3, h4⟩; exact ⟨h1, h3, h2, h4⟩
  · rintro ⟨h1, h2, h3, h4⟩; exact ⟨⟨h1, h3⟩, h2, h4⟩

theorem sameTx_c (u v : TxD) : FnP Try.prog 57 [.agg (rTx u), .agg (rTx v)] (.bool (decide (u = v))) := by
  refine FnP.mk Try.func57 rfl Try.ntmps57 rfl ?_
  intro B a w F hB hfr hS
  refine wp_seq ?_
  refine region_seq hS (by kernel_rfl)
      (Chain.cons (Cert.free rfl (o_boxA 101 (.conv .t .agg) (by kernel_rfl))) ⟨rfl, trivial⟩ trivial
      (Chain.cons (Cert.free rfl (o_boxA 102 (.conv .t .agg) (by kernel_rfl))) ⟨rfl, trivial⟩ trivial
      (Chain.cons (Cert.free rfl (o_assign .cb (by rfl))) trivial trivial
      Chain.nil)))
      (by kernel_rfl) (by rw [hB]; kernel_rfl) ?_
  clear hS; intro a w F hS
  replace hS := hS.sub
  replace hS := hS.norm [(2, _), (3, _), (4, _)] [(0, _), (101, _), (102, _)] ⟨rfl, rfl, rfl, trivial⟩ ⟨rfl, rfl, rfl, trivial⟩
  obtain ⟨F, hS⟩ := hS
  try dsimp only [RS.sub, SF.sub, CF.sub, csub, Anc.sub, stCells, List.map, List.length_cons, List.length_nil, Nat.reduceAdd, List.drop_succ_cons, List.drop_zero, List.drop_nil, List.take_succ_cons, List.take_zero, List.take_nil, List.cons_append, List.nil_append, zCF, ldSF] at hS
  generalize Act.tau a 2 = v2 at hS
  generalize Act.tau a 3 = v3 at hS
  refine then_n ?_
  refine wp_seq ?_
  refine region_seq hS (by kernel_rfl)
      (Chain.cons (Cert.free rfl (o_fieldAddr (off := 0) 101 .is (by kernel_rfl) (by rfl))) ⟨rfl, trivial⟩ ⟨rfl, trivial⟩
      (Chain.cons (Cert.free rfl (o_load (ag := false) (sz := 1) 101 .adr (by kernel_rfl) (by kernel_rfl) (by kernel_rfl) (by rfl))) ⟨rfl, trivial⟩ ⟨rfl, trivial⟩
      (Chain.cons (Cert.free rfl (o_fieldAddr (off := 0) 102 .is (by kernel_rfl) (by rfl))) ⟨rfl, trivial⟩ ⟨rfl, trivial⟩
      (Chain.cons (Cert.free rfl (o_load (ag := false) (sz := 1) 102 .adr (by kernel_rfl) (by kernel_rfl) (by kernel_rfl) (by rfl))) ⟨rfl, trivial⟩ ⟨rfl, trivial⟩
      (Chain.cons (Cert.free rfl (o_eql .t .t)) ⟨rfl, rfl, trivial⟩ trivial
      (Chain.cons (Cert.free rfl (o_move .t (by rfl))) ⟨rfl, trivial⟩ trivial
      (Chain.cons (Cert.cond rfl rfl (fun h => o_fieldAddr (off := 1) 101 .is (by kernel_rfl) (by rfl))) ⟨rfl, rfl, trivial⟩ ⟨rfl, trivial⟩
      (Chain.cons (Cert.cond rfl rfl (fun h => o_load (ag := false) (sz := 1) 101 (.w h .adr) (by kernel_rfl) (by kernel_rfl) (by kernel_rfl) (by rfl))) ⟨rfl, rfl, trivial⟩ ⟨rfl, trivial⟩
      (Chain.cons (Cert.cond rfl rfl (fun h => o_fieldAddr (off := 1) 102 .is (by kernel_rfl) (by rfl))) ⟨rfl, rfl, trivial⟩ ⟨rfl, trivial⟩
      (Chain.cons (Cert.cond rfl rfl (fun h => o_load (ag := false) (sz := 1) 102 (.w h .adr) (by kernel_rfl) (by kernel_rfl) (by kernel_rfl) (by rfl))) ⟨rfl, rfl, trivial⟩ ⟨rfl, trivial⟩
      (Chain.cons (Cert.cond rfl rfl (fun h => o_eqlB Try.underlying4 (.w h) (.w h))) ⟨rfl, rfl, rfl, trivial⟩ trivial
      (Chain.cons (Cert.free rfl (o_and2 .t .t)) ⟨rfl, rfl, trivial⟩ trivial
      (Chain.cons (Cert.free rfl (o_move .t (by rfl))) ⟨rfl, trivial⟩ trivial
      (Chain.cons (Cert.cond rfl rfl (fun h => o_fieldAddr (off := 2) 101 .is (by kernel_rfl) (by rfl))) ⟨rfl, rfl, trivial⟩ ⟨rfl, trivial⟩
      (Chain.cons (Cert.cond rfl rfl (fun h => o_load (ag := false) (sz := 1) 101 (.w h .adr) (by kernel_rfl) (by kernel_rfl) (by kernel_rfl) (by rfl))) ⟨rfl, rfl, trivial⟩ ⟨rfl, trivial⟩
      (Chain.cons (Cert.cond rfl rfl (fun h => o_fieldAddr (off := 2) 102 .is (by kernel_rfl) (by rfl))) ⟨rfl, rfl, trivial⟩ ⟨rfl, trivial⟩
      (Chain.cons (Cert.cond rfl rfl (fun h => o_load (ag := false) (sz := 1) 102 (.w h .adr) (by kernel_rfl) (by kernel_rfl) (by kernel_rfl) (by rfl))) ⟨rfl, rfl, trivial⟩ ⟨rfl, trivial⟩
      (Chain.cons (Cert.cond rfl rfl (fun h => o_callP (sameOps_c u.ops v.ops) Try.func62 rfl (by kernel_rfl) (Args.two (.w h) (.w h)))) ⟨rfl, rfl, rfl, trivial⟩ trivial
      (Chain.cons (Cert.free rfl (o_and2 .t .t)) ⟨rfl, rfl, trivial⟩ trivial
      (Chain.cons (Cert.free rfl (o_assign .t (by rfl))) ⟨rfl, trivial⟩ trivial
      Chain.nil))))))))))))))))))))
      (by kernel_rfl) (by rw [hB]; kernel_rfl) ?_
  clear hS; intro a w F hS
  replace hS := hS.norm [(4, _)] [(0, _)] ⟨rfl, trivial⟩ ⟨rfl, trivial⟩
  obtain ⟨F, hS⟩ := hS
  try dsimp only [RS.sub, SF.sub, CF.sub, csub, Anc.sub, stCells, List.map, List.length_cons, List.length_nil, Nat.reduceAdd, List.drop_succ_cons, List.drop_zero, List.drop_nil, List.take_succ_cons, List.take_zero, List.take_nil, List.cons_append, List.nil_append, zCF, ldSF] at hS
  refine then_n ?_
  refine wp_ret ?_
  refine ret_P hfr hS rfl (.tmp rfl .nil) (.one (.bool (txD_eq u v)))

theorem sameOrder_c (u v : OrdD) : FnP Try.prog 58 [.agg (rOrd u), .agg (rOrd v)] (.bool (decide (u = v))) := by
  refine FnP.mk Try.func58 rfl Try.ntmps58 rfl ?_
  intro B a w F hB hfr hS
  refine wp_seq ?_
  refine region_seq hS (by kernel_rfl)
      (Chain.cons (Cert.free rfl (o_boxA 101 (.conv .t .agg) (by kernel_rfl))) ⟨rfl, trivial⟩ trivial
      (Chain.cons (Cert.free rfl (o_boxA 102 (.conv .t .agg) (by kernel_rfl))) ⟨rfl, trivial⟩ trivial
      (Chain.cons (Cert.free rfl (o_assign .cb (by rfl))) trivial trivial
      Chain.nil)))
      (by kernel_rfl) (by rw [hB]; kernel_rfl) ?_
  clear hS; intro a w F hS
  replace hS := hS.sub
  replace hS := hS.norm [(2, _), (3, _), (4, _)] [(0, _), (101, _), (102, _)] ⟨rfl, rfl, rfl, trivial⟩ ⟨rfl, rfl, rfl, trivial⟩
  obtain ⟨F, hS⟩ := hS
  try dsimp only [RS.sub, SF.sub, CF.sub, csub, Anc.sub, stCells, List.map, List.length_cons, List.length_nil, Nat.reduceAdd, List.drop_succ_cons, List.drop_zero, List.drop_nil, List.take_succ_cons, List.take_zero, List.take_nil, List.cons_append, List.nil_append, zCF, ldSF] at hS
  generalize Act.tau a 2 = v2 at hS
  generalize Act.tau a 3 = v3 at hS
  refine then_n ?_
  refine wp_seq ?_
  refine region_seq hS (by kernel_rfl)
      (Chain.cons (Cert.free rfl (o_fieldAddr (off := 0) 101 .is (by kernel_rfl) (by rfl))) ⟨rfl, trivial⟩ ⟨rfl, trivial⟩
      (Chain.cons (Cert.free rfl (o_load (ag := false) (sz := 1) 101 .adr (by kernel_rfl) (by kernel_rfl) (by kernel_rfl) (by rfl))) ⟨rfl, trivial⟩ ⟨rfl, trivial⟩
      (Chain.cons (Cert.free rfl (o_fieldAddr (off := 0) 102 .is (by kernel_rfl) (by rfl))) ⟨rfl, trivial⟩ ⟨rfl, trivial⟩
      (Chain.cons (Cert.free rfl (o_load (ag := false) (sz := 1) 102 .adr (by kernel_rfl) (by kernel_rfl) (by kernel_rfl) (by rfl))) ⟨rfl, trivial⟩ ⟨rfl, trivial⟩
      (Chain.cons (Cert.free rfl (o_eql .t .t)) ⟨rfl, rfl, trivial⟩ trivial
      (Chain.cons (Cert.free rfl (o_move .t (by rfl))) ⟨rfl, trivial⟩ trivial
      (Chain.cons (Cert.cond rfl rfl (fun h => o_fieldAddr (off := 1) 101 .is (by kernel_rfl) (by rfl))) ⟨rfl, rfl, trivial⟩ ⟨rfl, trivial⟩
      (Chain.cons (Cert.cond rfl rfl (fun h => o_load (ag := false) (sz := 1) 101 (.w h .adr) (by kernel_rfl) (by kernel_rfl) (by kernel_rfl) (by rfl))) ⟨rfl, rfl, trivial⟩ ⟨rfl, trivial⟩
      (Chain.cons (Cert.cond rfl rfl (fun h => o_fieldAddr (off := 1) 102 .is (by kernel_rfl) (by rfl))) ⟨rfl, rfl, trivial⟩ ⟨rfl, trivial⟩
      (Chain.cons (Cert.cond rfl rfl (fun h => o_load (ag := false) (sz := 1) 102 (.w h .adr) (by kernel_rfl) (by kernel_rfl) (by kernel_rfl) (by rfl))) ⟨rfl, rfl, trivial⟩ ⟨rfl, trivial⟩
      (Chain.cons (Cert.cond rfl rfl (fun h => o_callP (sameInts_c u.txs v.txs) Try.func63 rfl (by kernel_rfl) (Args.two (.w h) (.w h)))) ⟨rfl, rfl, rfl, trivial⟩ trivial
      (Chain.cons (Cert.free rfl (o_and2 .t .t)) ⟨rfl, rfl, trivial⟩ trivial
      (Chain.cons (Cert.free rfl (o_assign .t (by rfl))) ⟨rfl, trivial⟩ trivial
      Chain.nil)))))))))))))
      (by kernel_rfl) (by rw [hB]; kernel_rfl) ?_
  clear hS; intro a w F hS
  replace hS := hS.norm [(4, _)] [(0, _)] ⟨rfl, trivial⟩ ⟨rfl, trivial⟩
  obtain ⟨F, hS⟩ := hS
  try dsimp only [RS.sub, SF.sub, CF.sub, csub, Anc.sub, stCells, List.map, List.length_cons, List.length_nil, Nat.reduceAdd, List.drop_succ_cons, List.drop_zero, List.drop_nil, List.take_succ_cons, List.take_zero, List.take_nil, List.cons_append, List.nil_append, zCF, ldSF] at hS
  refine then_n ?_
  refine wp_ret ?_
  refine ret_P hfr hS rfl (.tmp rfl .nil) (.one (.bool (ordD_eq u v)))

end Go.Proofs.Ytmdhidjpnmkmjaa
