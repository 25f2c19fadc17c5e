/- Slots: taken, freed, new. No condition beyond those that each theorem says. -/
import Derived.Test.YtdfpljecogijaaaDoorSl1
namespace Go.Proofs.YtdfpljecogijaaaDoor
open Go Go.Gm
set_option linter.unusedVariables false
set_option linter.unusedSimpArgs false
set_option maxHeartbeats 4000000
set_option maxRecDepth 8000


theorem take_c (b N : Nat) (ids : List Int) (id : Int) : FnG Tryd.prog 16 1 [.is (.pointer (some ⟨b, 0, none⟩)), .int .i64 id] [slotsH (.pointer (some ⟨b, 0, none⟩)) N ids] (.tup [.int .i64 (takeI N ids id).2.1, .int .i64 (takeI N ids id).2.2]) (fun _ => [slotsH (.pointer (some ⟨b, 0, none⟩)) N (takeI N ids id).1]) := by
  refine FnG.mk Tryd.func16 rfl Tryd.ntmps16 rfl (by kernel_rfl) ?_
  intro B F0 a w F hB hG hS
  obtain ⟨hhi, hlen, hrg, hone⟩ := slotsH_ok (show (slotsH (.pointer (some ⟨b, 0, none⟩)) N ids).p _ _ _ from hS.r 1 _ rfl)
  refine wp_seq ?_
  refine region_seq hS (by kernel_rfl)
    (cF rfl (o_assign (.ci (by kernel_rfl)) (by rfl)) trivial trivial
    (cF rfl (o_assign (.ci (by kernel_rfl)) (by rfl)) trivial trivial
    Chain.nil))
    (by kernel_rfl) (by rw [hB]; kernel_rfl) ?_
  clear hS; intro a w F hS
  obtain ⟨F, hS⟩ := hS.norm [(0, _), (1, _), (4, _), (5, _)] [(0, _), (1, _)] r4 r2
  refine then_n ?_
  refine wp_seq ?_
  refine wp_seq ?_
  refine region_seq hS (by kernel_rfl)
    (cF rfl (o_move .t (by rfl)) r1 trivial
    (cF rfl (o_lss .t (.ci (by kernel_rfl))) r1 trivial
    (cF rfl (o_move .t (by rfl)) r1 trivial
    (Chain.cons (Cert.cond rfl rfl (fun h => o_move .t (by rfl))) r2 trivial
    (Chain.cons (Cert.cond rfl rfl (fun h => o_gtr (.w h) (.ci (by kernel_rfl)))) r2 trivial
    (cF rfl (o_or2 .t .t) r2 trivial
    Chain.nil))))))
    (by kernel_rfl) (by rw [hB]; kernel_rfl) ?_
  clear hS; intro a w F hS
  obtain ⟨F, hS⟩ := hS.norm [(0, _), (1, _), (4, _), (5, _), (14, _)] [(0, _), (1, _)] r5 r2
  refine then_n ?_
  refine cond_b hS rfl (fun hc0 => ?_) (fun hc0 => ?_)
  ·skip
   have ht : takeI N ids id = (ids, 0, 1) := if_pos (by simp at hc0; omega)
   refine wp_seq ?_
   refine region_seq hS (by kernel_rfl)
     (cF rfl (o_assign (.ci (by kernel_rfl)) (by rfl)) trivial trivial
     (cF rfl (o_assign (.ci (by kernel_rfl)) (by rfl)) trivial trivial
     Chain.nil))
     (by kernel_rfl) (by rw [hB]; kernel_rfl) ?_
   clear hS; intro a w F hS
   obtain ⟨F, hS⟩ := hS.norm [(0, _), (1, _), (4, _), (5, _)] [(0, _), (1, _)] r4 r2
   refine then_n ?_
   refine wp_ret ?_
   refine then_r ?_
   have hS := hS.turn 1 rfl (r' := RS.hp (slotsH (.pointer (some ⟨b, 0, none⟩)) N (takeI N ids id).1)) (by rw [ht]; exact fun _ _ _ _ h => h)
   refine ret_G1 hG hS rfl (.tmp rfl (.tmp rfl .nil)) (.two (.int (by rw [ht])) (.int (by rw [ht]))) rfl
  ·skip
   have hid : 1 ≤ id ∧ id ≤ 1048575 := by simp at hc0; omega
   refine wp_skip ?_
   refine then_n ?_
   refine wp_seq ?_
   refine wp_seq ?_
   refine region_seq hS (by kernel_rfl)
     (cF rfl (o_move .t (by rfl)) r1 trivial
     (cF rfl (o_move .t (by rfl)) r1 trivial
     (cF rfl (o_callG1 1 (slot_c b N ids id) Tryd.func17 rfl (by kernel_rfl) (Args.two .t .t)) r2 r1
     (cF rfl (o_move .t (by rfl)) r1 trivial
     (cF rfl (o_extract .t rfl) r1 trivial
     (cF rfl (o_extract .t rfl) r1 trivial
     (cF rfl (o_assign .t (by rfl)) r1 trivial
     (cF rfl (o_assign .t (by rfl)) r1 trivial
     Chain.nil))))))))
     (by kernel_rfl) (by rw [hB]; kernel_rfl) ?_
   clear hS; intro a w F hS
   obtain ⟨F, hS⟩ := hS.norm [(0, _), (1, _), (4, _), (5, _), (7, _)] [(0, _), (1, _)] r5 r2
   refine then_n ?_
   refine wp_seq ?_
   refine region_seq hS (by kernel_rfl)
     (cF rfl (o_move .t (by rfl)) r1 trivial
     Chain.nil)
     (by kernel_rfl) (by rw [hB]; kernel_rfl) ?_
   clear hS; intro a w F hS
   obtain ⟨F, hS⟩ := hS.norm [(0, _), (1, _), (4, _), (5, _), (21, _)] [(0, _), (1, _)] r5 r2
   refine then_n ?_
   refine cond_b hS rfl (fun hc1 => ?_) (fun hc1 => ?_)
   ·skip
    have ht : takeI N ids id = (ids, 0, 4) := by unfold takeI; rw [if_neg (fun h => h hid), if_pos (by simpa using hc1)]
    refine wp_seq ?_
    refine region_seq hS (by kernel_rfl)
      (cF rfl (o_assign (.ci (by kernel_rfl)) (by rfl)) trivial trivial
      (cF rfl (o_assign (.ci (by kernel_rfl)) (by rfl)) trivial trivial
      Chain.nil))
      (by kernel_rfl) (by rw [hB]; kernel_rfl) ?_
    clear hS; intro a w F hS
    obtain ⟨F, hS⟩ := hS.norm [(0, _), (1, _), (4, _), (5, _)] [(0, _), (1, _)] r4 r2
    refine then_n ?_
    refine wp_ret ?_
    refine then_r ?_
    have hS := hS.turn 1 rfl (r' := RS.hp (slotsH (.pointer (some ⟨b, 0, none⟩)) N (takeI N ids id).1)) (by rw [ht]; exact fun _ _ _ _ h => h)
    refine ret_G1 hG hS rfl (.tmp rfl (.tmp rfl .nil)) (.two (.int (by rw [ht])) (.int (by rw [ht]))) rfl
   ·skip
    have hsl : ¬ 0 ≤ slotF 0 ids id := by simpa using hc1
    refine wp_skip ?_
    refine then_n ?_
    refine wp_seq ?_
    refine wp_seq ?_
    refine region_seq hS (by kernel_rfl)
      (cF rfl (o_move .t (by rfl)) r1 trivial
      (cF rfl (o_callG1 1 (sroom_c b N ids) Tryd.func21 rfl (by kernel_rfl) (Args.one .t)) r1 r1
      (cF rfl (o_eql .t (.ci (by kernel_rfl))) r1 trivial
      Chain.nil)))
      (by kernel_rfl) (by rw [hB]; kernel_rfl) ?_
    clear hS; intro a w F hS
    obtain ⟨F, hS⟩ := hS.norm [(0, _), (1, _), (4, _), (5, _), (24, _)] [(0, _), (1, _)] r5 r2
    refine then_n ?_
    refine cond_b hS rfl (fun hc2 => ?_) (fun hc2 => ?_)
    ·skip
     have ht : takeI N ids id = (ids, 0, 2) := by unfold takeI; rw [if_neg (fun h => h hid), if_neg hsl, if_pos (by simp at hc2; omega)]
     refine wp_seq ?_
     refine region_seq hS (by kernel_rfl)
       (cF rfl (o_assign (.ci (by kernel_rfl)) (by rfl)) trivial trivial
       (cF rfl (o_assign (.ci (by kernel_rfl)) (by rfl)) trivial trivial
       Chain.nil))
       (by kernel_rfl) (by rw [hB]; kernel_rfl) ?_
     clear hS; intro a w F hS
     obtain ⟨F, hS⟩ := hS.norm [(0, _), (1, _), (4, _), (5, _)] [(0, _), (1, _)] r4 r2
     refine then_n ?_
     refine wp_ret ?_
     refine then_r ?_
     have hS := hS.turn 1 rfl (r' := RS.hp (slotsH (.pointer (some ⟨b, 0, none⟩)) N (takeI N ids id).1)) (by rw [ht]; exact fun _ _ _ _ h => h)
     refine ret_G1 hG hS rfl (.tmp rfl (.tmp rfl .nil)) (.two (.int (by rw [ht])) (.int (by rw [ht]))) rfl
    ·skip
     have hcn : cntI ids ≠ N := by simp at hc2; omega
     obtain ⟨⟨wv, mv, fv, es, ck⟩, hS⟩ := hS.open_ex 1 rfl
     obtain ⟨hk, hS⟩ := hS.open_and 1 rfl
     dsimp only [slotParts] at hk hS
     obtain ⟨F, hS⟩ := hS.peel 1 2 rfl rfl
     obtain ⟨F, hS⟩ := hS.peel 1 3 rfl rfl
     obtain ⟨F, hS⟩ := hS.peel 1 4 rfl rfl
     obtain ⟨F, hS⟩ := hS.peel 1 5 rfl rfl
     obtain ⟨_, _, _, ho⟩ := hS.obGet 5 rfl
     obtain ⟨bf, rfl⟩ := setH_ptr ho
     clear ho
     have hlen := hk.len
     have hhi := hk.hi
     obtain ⟨F, hS⟩ := hS.norm [(0, _), (1, _), (4, _), (5, _), (24, _)] [(0, _), (2, _), (3, _), (4, _), (5, _)] r5 r5
     obtain ⟨i, hf, hiN, h0, hmin⟩ := firstZ_get hk hcn
     have hft := free_take (ids := ids) (i := i) (v := id) (by omega) (by omega)
     rw [hlen] at hft
     have hgn : (mGet id es).isSome = false := by rw [(hk.slot id).1]; simpa using hsl
     have hk2 : SlotsOk N (ids.set i id) (mSet id (i : Int) (mEns id (es, ck)).1) := hk.take hid (by omega) hiN h0 (MNd.ens (s := (es, ck)) hk.nd).set (fun k => mGet_entry (es, ck)) (by rw [mSet_length, mEns_length, hgn]; rfl)
     have ht : takeI N ids id = (ids.set i id, (i : Int), 0) := by unfold takeI; rw [if_neg (fun h => h hid), if_neg hsl, if_neg hcn, hf]; rfl
     refine wp_skip ?_
     refine then_n ?_
     refine wp_seq ?_
     refine region_seq hS (by kernel_rfl)
       (cF rfl (o_move .t (by rfl)) r1 trivial
       (cF rfl (o_nilCheck 2 .is (by rfl)) r1 r1
       (cF rfl (o_fieldAddr (off := 2) 2 .adr (by kernel_rfl) (by rfl)) r1 r1
       (cF rfl (o_load (ag := false) (sz := 1) 2 .adr (by kernel_rfl) (by kernel_rfl) (by kernel_rfl) (by rfl)) r1 r1
       (cF rfl (OpC.lend 5 [28] setH_lend (o_callP (next_c N (freeL ids) 0) Tryd.func60 rfl (by kernel_rfl) (Args.two .t (.ci (by kernel_rfl)))) ⟨rfl, trivial⟩ (.pv (fun _ _ _ _ h => h)) trivial (by rfl)) r1 r1
       (cF rfl (o_assign .t (by rfl)) r1 trivial
       Chain.nil))))))
       (by kernel_rfl) (by rw [hB]; kernel_rfl) ?_
     clear hS; intro a w F hS
     obtain ⟨F, hS⟩ := hS.norm [(0, _), (1, _), (4, _), (5, _), (8, _)] [(0, _), (2, _), (3, _), (4, _), (5, _)] r5 r5
     try dsimp only [List.map, List.drop_succ_cons, List.drop_zero, List.drop_nil, List.take_succ_cons, List.take_zero, List.take_nil, ldSF] at hS
     rw [show nextL (freeL ids) 0 = (i : Int) from hf] at hS
     refine then_n ?_
     refine wp_seq ?_
     refine region_seq hS (by kernel_rfl)
       (cF rfl (o_move .t (by rfl)) r1 trivial
       (cF rfl (o_nilCheck 2 .is (by rfl)) r1 r1
       (cF rfl (o_fieldAddr (off := 2) 2 .adr (by kernel_rfl) (by rfl)) r1 r1
       (cF rfl (o_load (ag := false) (sz := 1) 2 .adr (by kernel_rfl) (by kernel_rfl) (by kernel_rfl) (by rfl)) r1 r1
       (cF rfl (o_move .t (by rfl)) r1 trivial
       (cF rfl (o_callG1 5 (setS_c bf N (freeL ids) (i : Int) false) Tryd.func57 rfl (by kernel_rfl) (Args.three .t .t .cb)) r2 r1
       Chain.nil))))))
       (by kernel_rfl) (by rw [hB]; kernel_rfl) ?_
     clear hS; intro a w F hS
     obtain ⟨F, hS⟩ := hS.norm [(0, _), (1, _), (4, _), (5, _), (8, _)] [(0, _), (2, _), (3, _), (4, _), (5, _)] r5 r5
     try dsimp only [List.map, List.drop_succ_cons, List.drop_zero, List.drop_nil, List.take_succ_cons, List.take_zero, List.take_nil, ldSF] at hS
     rw [hft] at hS
     refine then_n ?_
     refine wp_seq ?_
     refine region_any (by kernel_rfl) hS (by kernel_rfl)
       (cF rfl (o_move .t (by rfl)) r1 trivial
       (cF rfl (o_nilCheck 2 .is (by rfl)) r1 r1
       (cF rfl (o_fieldAddr (off := 0) 2 .adr (by kernel_rfl) (by rfl)) r1 r1
       (cF rfl (o_load (ag := false) (sz := 1) 2 .adr (by kernel_rfl) (by kernel_rfl) (by kernel_rfl) (by rfl)) r1 r1
       (cF rfl (o_move .t (by rfl)) r1 trivial
       (cF rfl (o_move .t (by rfl)) r1 trivial
       (cF rfl (o_nilCheck 2 .is (by rfl)) r1 r1
       (cF rfl (o_fieldAddr (off := 1) 2 .adr (by kernel_rfl) (by rfl)) r1 r1
       (cF rfl (o_load (ag := false) (sz := 1) 2 .adr (by kernel_rfl) (by kernel_rfl) (by kernel_rfl) (by rfl)) r1 r1
       (cF rfl (o_move .t (by rfl)) r1 trivial
       (cF rfl (o_move .t (by rfl)) r1 trivial
       (cF rfl (o_conv Tryd.underlying21 (by kernel_rfl) .t) r1 trivial
       (cF rfl (o_move .t (by rfl)) r1 trivial
       (cF rfl (o_conv Tryd.underlying21 (by kernel_rfl) .t) r1 trivial
       (cF rfl (o_indexAddr_row (sz := 1) 3 (.mk Tryd.underlying82 (by kernel_rfl)) .is .t (by omega) (by omega) (by rfl)) r2 r1
       (cF rfl (o_store_row1 (R := rI32) (sz := 1) (v := _) 3 .t (by intro x; rfl) (by rw [Int.toNat_natCast]; omega) .t rfl one_int (by kernel_rfl)) r2 r1
       (cF rfl (o_mapEntry 4 Tryd.underlying83 (key_int Tryd.underlying3) (by kernel_rfl) .is (IsKeyOf.int .t rfl) (by intros; first | rfl | simp [Anc.v, upd])) r2 r1
       (cF rfl (o_extract .t rfl) r1 trivial
       (cF rfl (o_entryStore 4 (mEns_born _ _) .is .t .t) r3 r1
       Chain.nil)))))))))))))))))))
       (by kernel_rfl) (by rw [hB]; kernel_rfl) ?_
     clear hS; intro a w F hS
     obtain ⟨F, hS⟩ := hS.norm [(4, _), (5, _), (8, _)] [(0, _), (2, _), (3, _), (4, _), (5, _)] r3 r5
     try dsimp only [List.map, stCells, List.length_cons, List.length_nil, Nat.reduceAdd, List.drop_succ_cons, List.drop_zero, List.drop_nil, List.take_succ_cons, List.take_zero, List.take_nil, List.cons_append, List.nil_append, zCF, ldSF] at hS
     try simp only [Int.toNat_natCast] at hS
     try simp only [Int.toNat_natCast] at hS
     rw [wrap_i32 (x := id) (by omega), wrap_i32 (x := (i : Int)) (by omega)] at hS
     refine then_n ?_
     refine wp_seq ?_
     refine region_seq hS (by kernel_rfl)
       (cF rfl (o_move .t (by rfl)) r1 trivial
       (cF rfl (o_assign .t (by rfl)) r1 trivial
       (cF rfl (o_assign (.ci (by kernel_rfl)) (by rfl)) trivial trivial
       Chain.nil)))
       (by kernel_rfl) (by rw [hB]; kernel_rfl) ?_
     clear hS; intro a w F hS
     obtain ⟨F, hS⟩ := hS.norm [(4, _), (5, _)] [(0, _), (2, _), (3, _), (4, _), (5, _)] r2 r5
     refine then_n ?_
     refine wp_ret ?_
     obtain ⟨F, hS⟩ := hS.norm [(4, _), (5, _)] [(0, _), (2, _), (3, _), (4, _), (5, _)] ⟨rfl, rfl, trivial⟩ ⟨rfl, rfl, rfl, rfl, rfl, trivial⟩
     have hS := hS.fresh 1 rfl
     obtain ⟨F, hS⟩ := hS.push 1 5 rfl rfl rfl (by kernel_rfl)
     obtain ⟨F, hS⟩ := hS.push 1 4 rfl rfl rfl (by kernel_rfl)
     obtain ⟨F, hS⟩ := hS.push 1 3 rfl rfl rfl (by kernel_rfl)
     obtain ⟨F, hS⟩ := hS.push 1 2 rfl rfl rfl (by kernel_rfl)
     have hS := hS.turn 1 rfl (r' := RS.hp (slotsH (.pointer (some ⟨b, 0, none⟩)) N (ids.set i id))) (fun _ _ _ _ h => ⟨⟨_, _, _, _, _⟩, hk2, h⟩)
     obtain ⟨F, hS⟩ := hS.norm [(4, _), (5, _)] [(0, _), (1, _)] r2 r2
     have hS := hS.turn 1 rfl (r' := RS.hp (slotsH (.pointer (some ⟨b, 0, none⟩)) N (takeI N ids id).1)) (by rw [ht]; exact fun _ _ _ _ h => h)
     refine ret_G1 hG hS rfl (.tmp rfl (.tmp rfl .nil)) (.two (.int (by rw [ht])) (.int (by rw [ht]))) rfl

theorem take_nil (id : Int) (hid : 1 ≤ id ∧ id ≤ 1048575) : FnP Tryd.prog 16 [.is (.pointer none), .int .i64 id] (.tup [.int .i64 0, .int .i64 2]) := by
  refine FnP.mk Tryd.func16 rfl Tryd.ntmps16 rfl ?_
  intro B a w F hB hfr hS
  refine wp_seq ?_
  refine region_seq hS (by kernel_rfl)
    (cF rfl (o_assign (.ci (by kernel_rfl)) (by rfl)) trivial trivial
    (cF rfl (o_assign (.ci (by kernel_rfl)) (by rfl)) trivial trivial
    Chain.nil))
    (by kernel_rfl) (by rw [hB]; kernel_rfl) ?_
  clear hS; intro a w F hS
  obtain ⟨F, hS⟩ := hS.norm [(0, _), (1, _), (4, _), (5, _)] [(0, _)] r4 r1
  refine then_n ?_
  refine wp_seq ?_
  refine wp_seq ?_
  refine region_seq hS (by kernel_rfl)
    (cF rfl (o_move .t (by rfl)) r1 trivial
    (cF rfl (o_lss .t (.ci (by kernel_rfl))) r1 trivial
    (cF rfl (o_move .t (by rfl)) r1 trivial
    (Chain.cons (Cert.cond rfl rfl (fun h => o_move .t (by rfl))) r2 trivial
    (Chain.cons (Cert.cond rfl rfl (fun h => o_gtr (.w h) (.ci (by kernel_rfl)))) r2 trivial
    (cF rfl (o_or2 .t .t) r2 trivial
    Chain.nil))))))
    (by kernel_rfl) (by rw [hB]; kernel_rfl) ?_
  clear hS; intro a w F hS
  obtain ⟨F, hS⟩ := hS.norm [(0, _), (1, _), (4, _), (5, _), (14, _)] [(0, _)] r5 r1
  refine then_n ?_
  refine cond_b hS rfl (fun hc0 => ?_) (fun hc0 => ?_)
  ·skip
   simp at hc0; omega
  ·skip
   refine wp_skip ?_
   refine then_n ?_
   refine wp_seq ?_
   refine wp_seq ?_
   refine region_seq hS (by kernel_rfl)
     (cF rfl (o_move .t (by rfl)) r1 trivial
     (cF rfl (o_move .t (by rfl)) r1 trivial
     (cF rfl (o_callP (slot_nil id) Tryd.func17 rfl (by kernel_rfl) (Args.two .t .t)) r2 trivial
     (cF rfl (o_move .t (by rfl)) r1 trivial
     (cF rfl (o_extract .t rfl) r1 trivial
     (cF rfl (o_extract .t rfl) r1 trivial
     (cF rfl (o_assign .t (by rfl)) r1 trivial
     (cF rfl (o_assign .t (by rfl)) r1 trivial
     Chain.nil))))))))
     (by kernel_rfl) (by rw [hB]; kernel_rfl) ?_
   clear hS; intro a w F hS
   obtain ⟨F, hS⟩ := hS.norm [(0, _), (1, _), (4, _), (5, _), (7, _)] [(0, _)] r5 r1
   refine then_n ?_
   refine wp_seq ?_
   refine region_seq hS (by kernel_rfl)
     (cF rfl (o_move .t (by rfl)) r1 trivial
     Chain.nil)
     (by kernel_rfl) (by rw [hB]; kernel_rfl) ?_
   clear hS; intro a w F hS
   obtain ⟨F, hS⟩ := hS.norm [(0, _), (1, _), (4, _), (5, _), (21, _)] [(0, _)] r5 r1
   refine then_n ?_
   refine cond_b hS rfl (fun hc1 => ?_) (fun hc1 => ?_)
   ·skip
    simp at hc1
   ·skip
    refine wp_skip ?_
    refine then_n ?_
    refine wp_seq ?_
    refine wp_seq ?_
    refine region_seq hS (by kernel_rfl)
      (cF rfl (o_move .t (by rfl)) r1 trivial
      (cF rfl (o_callP (sroom_nil) Tryd.func21 rfl (by kernel_rfl) (Args.one .t)) r1 trivial
      (cF rfl (o_eql .t (.ci (by kernel_rfl))) r1 trivial
      Chain.nil)))
      (by kernel_rfl) (by rw [hB]; kernel_rfl) ?_
    clear hS; intro a w F hS
    obtain ⟨F, hS⟩ := hS.norm [(0, _), (1, _), (4, _), (5, _), (24, _)] [(0, _)] r5 r1
    refine then_n ?_
    refine cond_b hS rfl (fun hc2 => ?_) (fun hc2 => ?_)
    ·skip
     refine wp_seq ?_
     refine region_seq hS (by kernel_rfl)
       (cF rfl (o_assign (.ci (by kernel_rfl)) (by rfl)) trivial trivial
       (cF rfl (o_assign (.ci (by kernel_rfl)) (by rfl)) trivial trivial
       Chain.nil))
       (by kernel_rfl) (by rw [hB]; kernel_rfl) ?_
     clear hS; intro a w F hS
     obtain ⟨F, hS⟩ := hS.norm [(0, _), (1, _), (4, _), (5, _)] [(0, _)] r4 r1
     refine then_n ?_
     refine wp_ret ?_
     refine then_r ?_
     refine ret_P hfr hS rfl (.tmp rfl (.tmp rfl .nil)) (.two .refl .refl)
    ·skip
     simp at hc2

theorem sfree_c (b N : Nat) (ids : List Int) (id : Int) : FnG Tryd.prog 14 1 [.is (.pointer (some ⟨b, 0, none⟩)), .int .i64 id] [slotsH (.pointer (some ⟨b, 0, none⟩)) N ids] (.int .i64 (freeI ids id).2) (fun _ => [slotsH (.pointer (some ⟨b, 0, none⟩)) N (freeI ids id).1]) := by
  refine FnG.mk Tryd.func14 rfl Tryd.ntmps14 rfl (by kernel_rfl) ?_
  intro B F0 a w F hB hG hS
  obtain ⟨hhi, hlen, hrg, hone⟩ := slotsH_ok (show (slotsH (.pointer (some ⟨b, 0, none⟩)) N ids).p _ _ _ from hS.r 1 _ rfl)
  refine wp_seq ?_
  refine region_seq hS (by kernel_rfl)
    (cF rfl (o_assign (.ci (by kernel_rfl)) (by rfl)) trivial trivial
    Chain.nil)
    (by kernel_rfl) (by rw [hB]; kernel_rfl) ?_
  clear hS; intro a w F hS
  obtain ⟨F, hS⟩ := hS.norm [(0, _), (1, _), (4, _)] [(0, _), (1, _)] r3 r2
  refine then_n ?_
  refine wp_seq ?_
  refine region_seq hS (by kernel_rfl)
    (cF rfl (o_move .t (by rfl)) r1 trivial
    (cF rfl (o_move .t (by rfl)) r1 trivial
    (cF rfl (o_callG1 1 (slot_c b N ids id) Tryd.func17 rfl (by kernel_rfl) (Args.two .t .t)) r2 r1
    (cF rfl (o_move .t (by rfl)) r1 trivial
    (cF rfl (o_extract .t rfl) r1 trivial
    (cF rfl (o_extract .t rfl) r1 trivial
    (cF rfl (o_assign .t (by rfl)) r1 trivial
    (cF rfl (o_assign .t (by rfl)) r1 trivial
    Chain.nil))))))))
    (by kernel_rfl) (by rw [hB]; kernel_rfl) ?_
  clear hS; intro a w F hS
  obtain ⟨F, hS⟩ := hS.norm [(0, _), (1, _), (4, _), (5, _), (6, _)] [(0, _), (1, _)] r5 r2
  refine then_n ?_
  refine wp_seq ?_
  refine wp_seq ?_
  refine region_seq hS (by kernel_rfl)
    (cF rfl (o_move .t (by rfl)) r1 trivial
    (cF rfl (o_not .t) r1 trivial
    Chain.nil))
    (by kernel_rfl) (by rw [hB]; kernel_rfl) ?_
  clear hS; intro a w F hS
  obtain ⟨F, hS⟩ := hS.norm [(0, _), (1, _), (4, _), (5, _), (14, _)] [(0, _), (1, _)] r5 r2
  refine then_n ?_
  refine cond_b hS rfl (fun hc0 => ?_) (fun hc0 => ?_)
  ·skip
   have ht : freeI ids id = (ids, 3) := if_neg (by simpa using hc0)
   refine wp_seq ?_
   refine region_seq hS (by kernel_rfl)
     (cF rfl (o_assign (.ci (by kernel_rfl)) (by rfl)) trivial trivial
     Chain.nil)
     (by kernel_rfl) (by rw [hB]; kernel_rfl) ?_
   clear hS; intro a w F hS
   obtain ⟨F, hS⟩ := hS.norm [(0, _), (1, _), (4, _), (5, _)] [(0, _), (1, _)] r4 r2
   refine then_n ?_
   refine wp_ret ?_
   refine then_r ?_
   have hS := hS.turn 1 rfl (r' := RS.hp (slotsH (.pointer (some ⟨b, 0, none⟩)) N (freeI ids id).1)) (by rw [ht]; exact fun _ _ _ _ h => h)
   refine ret_G1 hG hS rfl (.tmp rfl .nil) (.one (.int (by rw [ht]))) rfl
  ·skip
   have hsl : 0 ≤ slotF 0 ids id := by simpa using hc0
   obtain ⟨i, hi⟩ := Int.eq_ofNat_of_zero_le hsl
   rw [slotR_of hi] at hS
   obtain ⟨⟨wv, mv, fv, es, ck⟩, hS⟩ := hS.open_ex 1 rfl
   obtain ⟨hk, hS⟩ := hS.open_and 1 rfl
   dsimp only [slotParts] at hk hS
   obtain ⟨F, hS⟩ := hS.peel 1 2 rfl rfl
   obtain ⟨F, hS⟩ := hS.peel 1 3 rfl rfl
   obtain ⟨F, hS⟩ := hS.peel 1 4 rfl rfl
   obtain ⟨F, hS⟩ := hS.peel 1 5 rfl rfl
   obtain ⟨_, _, _, ho⟩ := hS.obGet 5 rfl
   obtain ⟨bf, rfl⟩ := setH_ptr ho
   clear ho
   have hlen := hk.len
   have hhi := hk.hi
   obtain ⟨F, hS⟩ := hS.norm [(0, _), (1, _), (4, _), (5, _), (14, _)] [(0, _), (2, _), (3, _), (4, _), (5, _)] r5 r5
   obtain ⟨hiN, hie, hne, hk2⟩ := hk.free hi
   have hff := free_free (ids := ids) (i := i) (by omega)
   rw [hlen] at hff
   have ht : freeI ids id = (ids.set i 0, 0) := by unfold freeI; rw [if_pos hsl, hi]; rfl
   refine wp_skip ?_
   refine then_n ?_
   refine wp_seq ?_
   refine region_seq hS (by kernel_rfl)
     (cF rfl (o_move .t (by rfl)) r1 trivial
     (cF rfl (o_nilCheck 2 .is (by rfl)) r1 r1
     (cF rfl (o_fieldAddr (off := 2) 2 .adr (by kernel_rfl) (by rfl)) r1 r1
     (cF rfl (o_load (ag := false) (sz := 1) 2 .adr (by kernel_rfl) (by kernel_rfl) (by kernel_rfl) (by rfl)) r1 r1
     (cF rfl (o_move .t (by rfl)) r1 trivial
     (cF rfl (o_callG1 5 (setS_c bf N (freeL ids) (i : Int) true) Tryd.func57 rfl (by kernel_rfl) (Args.three .t .t .cb)) r2 r1
     Chain.nil))))))
     (by kernel_rfl) (by rw [hB]; kernel_rfl) ?_
   clear hS; intro a w F hS
   obtain ⟨F, hS⟩ := hS.norm [(0, _), (1, _), (4, _), (5, _)] [(0, _), (2, _), (3, _), (4, _), (5, _)] r4 r5
   try dsimp only [List.map, List.drop_succ_cons, List.drop_zero, List.drop_nil, List.take_succ_cons, List.take_zero, List.take_nil, ldSF] at hS
   rw [hff] at hS
   refine then_n ?_
   refine wp_seq ?_
   refine region_seq hS (by kernel_rfl)
     (cF rfl (o_move .t (by rfl)) r1 trivial
     (cF rfl (o_nilCheck 2 .is (by rfl)) r1 r1
     (cF rfl (o_fieldAddr (off := 0) 2 .adr (by kernel_rfl) (by rfl)) r1 r1
     (cF rfl (o_load (ag := false) (sz := 1) 2 .adr (by kernel_rfl) (by kernel_rfl) (by kernel_rfl) (by rfl)) r1 r1
     (cF rfl (o_move .t (by rfl)) r1 trivial
     (cF rfl (o_indexAddr_row (sz := 1) 3 (.mk Tryd.underlying82 (by kernel_rfl)) .is .t (by omega) (by omega) (by rfl)) r2 r1
     (cF rfl (o_store_row1 (R := rI32) (sz := 1) (v := 0) 3 .t (by intro x; rfl) (by rw [Int.toNat_natCast]; omega) (.ci (by kernel_rfl)) rfl one_int (by kernel_rfl)) r1 r1
     Chain.nil)))))))
     (by kernel_rfl) (by rw [hB]; kernel_rfl) ?_
   clear hS; intro a w F hS
   obtain ⟨F, hS⟩ := hS.norm [(0, _), (1, _), (4, _)] [(0, _), (2, _), (3, _), (4, _), (5, _)] r3 r5
   try dsimp only [List.map, stCells, List.length_cons, List.length_nil, Nat.reduceAdd, List.drop_succ_cons, List.drop_zero, List.drop_nil, List.take_succ_cons, List.take_zero, List.take_nil, List.cons_append, List.nil_append, zCF, ldSF] at hS
   try simp only [Int.toNat_natCast] at hS
   try simp only [Int.toNat_natCast] at hS
   refine then_n ?_
   refine wp_seq ?_
   refine region_seq hS (by kernel_rfl)
     (cF rfl (o_move .t (by rfl)) r1 trivial
     (cF rfl (o_nilCheck 2 .is (by rfl)) r1 r1
     (cF rfl (o_fieldAddr (off := 1) 2 .adr (by kernel_rfl) (by rfl)) r1 r1
     (cF rfl (o_load (ag := false) (sz := 1) 2 .adr (by kernel_rfl) (by kernel_rfl) (by kernel_rfl) (by rfl)) r1 r1
     (cF rfl (o_move .t (by rfl)) r1 trivial
     (cF rfl (o_delete 4 Tryd.underlying83 (key_int Tryd.underlying3) .is (IsKeyOf.int .t rfl)) r2 r1
     Chain.nil))))))
     (by kernel_rfl) (by rw [hB]; kernel_rfl) ?_
   clear hS; intro a w F hS
   obtain ⟨F, hS⟩ := hS.norm [(4, _)] [(0, _), (2, _), (3, _), (4, _), (5, _)] r1 r5
   try dsimp only [List.map, List.drop_succ_cons, List.drop_zero, List.drop_nil, List.take_succ_cons, List.take_zero, List.take_nil, ldSF] at hS
   refine then_n ?_
   refine wp_seq ?_
   refine region_seq hS (by kernel_rfl)
     (cF rfl (o_assign (.ci (by kernel_rfl)) (by rfl)) trivial trivial
     Chain.nil)
     (by kernel_rfl) (by rw [hB]; kernel_rfl) ?_
   clear hS; intro a w F hS
   obtain ⟨F, hS⟩ := hS.norm [(4, _)] [(0, _), (2, _), (3, _), (4, _), (5, _)] r1 r5
   refine then_n ?_
   refine wp_ret ?_
   obtain ⟨F, hS⟩ := hS.norm [(4, _)] [(0, _), (2, _), (3, _), (4, _), (5, _)] ⟨rfl, trivial⟩ ⟨rfl, rfl, rfl, rfl, rfl, trivial⟩
   have hS := hS.fresh 1 rfl
   obtain ⟨F, hS⟩ := hS.push 1 5 rfl rfl rfl (by kernel_rfl)
   obtain ⟨F, hS⟩ := hS.push 1 4 rfl rfl rfl (by kernel_rfl)
   obtain ⟨F, hS⟩ := hS.push 1 3 rfl rfl rfl (by kernel_rfl)
   obtain ⟨F, hS⟩ := hS.push 1 2 rfl rfl rfl (by kernel_rfl)
   have hS := hS.turn 1 rfl (r' := RS.hp (slotsH (.pointer (some ⟨b, 0, none⟩)) N (ids.set i 0))) (fun _ _ _ _ h => ⟨⟨_, _, _, _, _⟩, hk2, h⟩)
   obtain ⟨F, hS⟩ := hS.norm [(4, _)] [(0, _), (1, _)] r1 r2
   have hS := hS.turn 1 rfl (r' := RS.hp (slotsH (.pointer (some ⟨b, 0, none⟩)) N (freeI ids id).1)) (by rw [ht]; exact fun _ _ _ _ h => h)
   refine ret_G1 hG hS rfl (.tmp rfl .nil) (.one (.int (by rw [ht]))) rfl

theorem sfree_nil (id : Int) : FnP Tryd.prog 14 [.is (.pointer none), .int .i64 id] (.int .i64 3) := by
  refine FnP.mk Tryd.func14 rfl Tryd.ntmps14 rfl ?_
  intro B a w F hB hfr hS
  refine wp_seq ?_
  refine region_seq hS (by kernel_rfl)
    (cF rfl (o_assign (.ci (by kernel_rfl)) (by rfl)) trivial trivial
    Chain.nil)
    (by kernel_rfl) (by rw [hB]; kernel_rfl) ?_
  clear hS; intro a w F hS
  obtain ⟨F, hS⟩ := hS.norm [(0, _), (1, _), (4, _)] [(0, _)] r3 r1
  refine then_n ?_
  refine wp_seq ?_
  refine region_seq hS (by kernel_rfl)
    (cF rfl (o_move .t (by rfl)) r1 trivial
    (cF rfl (o_move .t (by rfl)) r1 trivial
    (cF rfl (o_callP (slot_nil id) Tryd.func17 rfl (by kernel_rfl) (Args.two .t .t)) r2 trivial
    (cF rfl (o_move .t (by rfl)) r1 trivial
    (cF rfl (o_extract .t rfl) r1 trivial
    (cF rfl (o_extract .t rfl) r1 trivial
    (cF rfl (o_assign .t (by rfl)) r1 trivial
    (cF rfl (o_assign .t (by rfl)) r1 trivial
    Chain.nil))))))))
    (by kernel_rfl) (by rw [hB]; kernel_rfl) ?_
  clear hS; intro a w F hS
  obtain ⟨F, hS⟩ := hS.norm [(0, _), (1, _), (4, _), (5, _), (6, _)] [(0, _)] r5 r1
  refine then_n ?_
  refine wp_seq ?_
  refine wp_seq ?_
  refine region_seq hS (by kernel_rfl)
    (cF rfl (o_move .t (by rfl)) r1 trivial
    (cF rfl (o_not .t) r1 trivial
    Chain.nil))
    (by kernel_rfl) (by rw [hB]; kernel_rfl) ?_
  clear hS; intro a w F hS
  obtain ⟨F, hS⟩ := hS.norm [(0, _), (1, _), (4, _), (5, _), (14, _)] [(0, _)] r5 r1
  refine then_n ?_
  refine cond_b hS rfl (fun hc0 => ?_) (fun hc0 => ?_)
  ·skip
   refine wp_seq ?_
   refine region_seq hS (by kernel_rfl)
     (cF rfl (o_assign (.ci (by kernel_rfl)) (by rfl)) trivial trivial
     Chain.nil)
     (by kernel_rfl) (by rw [hB]; kernel_rfl) ?_
   clear hS; intro a w F hS
   obtain ⟨F, hS⟩ := hS.norm [(0, _), (1, _), (4, _), (5, _)] [(0, _)] r4 r1
   refine then_n ?_
   refine wp_ret ?_
   refine then_r ?_
   refine ret_P hfr hS rfl (.tmp rfl .nil) (.one .refl)
  ·skip
   simp at hc0

theorem snew_c (room : Int) : FnG Tryd.prog 10 1 [.int .i64 room] [gH tabP tabV] (PV.ptr) (fun v => [slotsH v (roomN room) (zerosI (roomN room))]) := by
  refine FnG.mk Tryd.func10 rfl Tryd.ntmps10 rfl (by kernel_rfl) ?_
  intro B F0 a w F hB hG hS
  have hroom := roomN_eq room
  have hrl := roomN_le room
  refine wp_seq ?_
  refine region_seq hS (by kernel_rfl)
    (cF rfl (o_assign (.c rfl) (by rfl)) trivial trivial
    Chain.nil)
    (by kernel_rfl) (by rw [hB]; kernel_rfl) ?_
  clear hS; intro a w F hS
  obtain ⟨F, hS⟩ := hS.norm [(0, _), (2, _)] [(0, _), (1, _)] r2 r2
  refine then_n ?_
  refine wp_seq ?_
  refine region_seq hS (by kernel_rfl)
    (cF rfl (o_move .t (by rfl)) r1 trivial
    (cF rfl (o_max .t (.ci (by kernel_rfl))) r1 trivial
    (cF rfl (o_min .t (.ci (by kernel_rfl))) r1 trivial
    (cF rfl (o_assign .t (by rfl)) r1 trivial
    Chain.nil))))
    (by kernel_rfl) (by rw [hB]; kernel_rfl) ?_
  clear hS; intro a w F hS
  obtain ⟨F, hS⟩ := hS.norm [(2, _), (3, _)] [(0, _), (1, _)] r2 r2
  rw [hroom] at hS
  refine then_n ?_
  refine wp_seq ?_
  obtain ⟨F, hS⟩ := hS.rename 1 41 rfl rfl
  obtain ⟨F, hS⟩ := hS.norm [(2, _), (3, _)] [(0, _), (41, _)] r2 r2
  refine region_any (by kernel_rfl) hS (by kernel_rfl)
    (cF rfl (o_move .t (by rfl)) r1 trivial
    (cF rfl (o_makeSlice (R := rI32) (v := 0) (c := ((roomN room) : Int)) (sz := 1) (bs := 4) (zs := [.int .i32 0]) 101 Tryd.underlying82 (by kernel_rfl) (by kernel_rfl) (by kernel_rfl) zero_pvs32 .t .t (Int.natCast_nonneg _) (by have := roomN_le room; omega) (by have := roomN_le room; omega)) r2 trivial
    (cF rfl (o_makeMap (vk := .i32) (ok := (fun _ => True)) (kv := (fun n : Int => Value.int .i64 n)) 102) trivial trivial
    (cF rfl (o_move .t (by rfl)) r1 trivial
    (cF rfl (o_callNg 41 (newS_c ((roomN room) : Int)) Tryd.func32 rfl (by kernel_rfl) (Args.one .t) PV.ptr_one) r1 r1
    (cF rfl (o_build (r := [(0, .tmp 10), (1, .tmp 11), (2, .tmp 13)]) (zs := [.slice none 0 0, .map none, .pointer none]) (pl := [(0, 1), (1, 1), (2, 1)]) (by kernel_rfl) (by kernel_rfl) (.same rfl (by kernel_rfl) (.same rfl (by kernel_rfl) (.same rfl (by kernel_rfl) .nil))) (by rfl)) r3 trivial
    (cF rfl (o_boxA 103 .t (by kernel_rfl)) r1 trivial
    (cF rfl (o_assign .t (by rfl)) r1 trivial
    Chain.nil))))))))
    (by kernel_rfl) (by rw [hB]; kernel_rfl) ?_
  clear hS; intro a w F hS
  replace hS := hS.sub
  obtain ⟨F, hS⟩ := hS.norm [(2, _), (3, _), (4, _)] [(0, _), (41, _), (101, _), (102, _), (103, _)] r3 r5
  try dsimp only [RS.sub, SF.sub, CF.sub, csub, Anc.sub, List.map, stCells, List.length_cons, List.length_nil, Nat.reduceAdd, List.drop_succ_cons, List.drop_zero, List.drop_nil, List.take_succ_cons, List.take_zero, List.take_nil, List.cons_append, List.nil_append, zCF] at hS
  generalize Act.tau a 15 = v15 at hS
  generalize Act.tau a 13 = v13 at hS
  generalize Act.tau a 10 = v10 at hS
  generalize Act.tau a 11 = v11 at hS
  obtain ⟨_, _, _, ho⟩ := hS.obGet 41 rfl
  obtain ⟨bf, rfl⟩ := setH_ptr ho
  clear ho
  replace hS := hS.turn 41 rfl (r' := RS.hp (setH (.pointer (some ⟨bf, 0, none⟩)) (rowN ((roomN room) : Int)) [])) (fun _ _ _ _ h => h)
  obtain ⟨F, hS⟩ := hS.norm [(2, _), (3, _), (4, _)] [(0, _), (41, _), (101, _), (102, _), (103, _)] r3 r5
  obtain ⟨bs, rfl⟩ := hS.shape 103 rfl
  obtain ⟨F, hS⟩ := hS.norm [(2, _), (3, _), (4, _)] [(0, _), (41, _), (101, _), (102, _), (103, _)] r3 r5
  rw [rowN_nat (by omega)] at hS
  rw [Int.toNat_natCast] at hS
  rw [show ([] : List Int) = upL 0 from rfl] at hS
  refine then_n ?_
  refine wp_seq ?_
  refine wp_seq ?_
  refine region_seq hS (by kernel_rfl)
    (cF rfl (o_move .t (by rfl)) r1 trivial
    (cF rfl (o_move (.ci (by kernel_rfl)) (by rfl)) trivial trivial
    Chain.nil))
    (by kernel_rfl) (by rw [hB]; kernel_rfl) ?_
  clear hS; intro a w F hS
  obtain ⟨F, hS⟩ := hS.norm [(2, _), (4, _), (16, _), (17, _)] [(0, _), (41, _), (101, _), (102, _), (103, _)] r4 r5
  refine then_n ?_
  refine wp_block ?_
  refine loop_keep (σ := Nat) [2, 4, 16] [0, 101, 102, 103] (fun s => [(17, .pv (.int .i64 (s : Int)))]) (fun s => [(41, RS.hp (setH (.pointer (some ⟨bf, 0, none⟩)) (roomN room) (upL s)))]) (fun s => s ≤ (roomN room)) (fun s => (roomN room) - s) (0) hS ⟨rfl, rfl, rfl, rfl, trivial⟩ ⟨rfl, rfl, rfl, rfl, rfl, trivial⟩ (Nat.zero_le _) ?_
  clear hS; intro i a w F hC hS
  try dsimp only at hC
  obtain ⟨F, hS⟩ := hS.norm [(2, _), (4, _), (16, _), (17, _)] [(0, _), (41, _), (101, _), (102, _), (103, _)] r4 r5
  try dsimp only at hS
  have hi : i ≤ (roomN room) := hC
  refine wp_seq ?_
  refine region_seq hS (by kernel_rfl)
    (cF rfl (o_lss .t .t) r2 trivial
    Chain.nil)
    (by kernel_rfl) (by rw [hB]; kernel_rfl) ?_
  clear hS; intro a w F hS
  obtain ⟨F, hS⟩ := hS.norm [(2, _), (4, _), (16, _), (17, _), (18, _)] [(0, _), (41, _), (101, _), (102, _), (103, _)] r5 r5
  refine then_n ?_
  refine wp_seq ?_
  refine cond_b hS rfl (fun hc0 => ?_) (fun hc0 => ?_)
  ·skip
   have hil : i < (roomN room) := by simp at hc0; omega
   refine wp_skip ?_
   refine then_n ?_
   refine wp_seq ?_
   refine wp_block ?_
   refine wp_seq ?_
   refine region_seq hS (by kernel_rfl)
     (cF rfl (o_move .t (by rfl)) r1 trivial
     (cF rfl (o_assign .t (by rfl)) r1 trivial
     Chain.nil))
     (by kernel_rfl) (by rw [hB]; kernel_rfl) ?_
   clear hS; intro a w F hS
   obtain ⟨F, hS⟩ := hS.norm [(2, _), (4, _), (5, _), (16, _), (17, _), (18, _), (19, _)] [(0, _), (41, _), (101, _), (102, _), (103, _)] r7 r5
   refine then_n ?_
   refine region_seq hS (by kernel_rfl)
     (cF rfl (o_move .t (by rfl)) r1 trivial
     (cF rfl (o_nilCheck 103 .is (by rfl)) r1 r1
     (cF rfl (o_fieldAddr (off := 2) 103 .adr (by kernel_rfl) (by rfl)) r1 r1
     (cF rfl (o_load (ag := false) (sz := 1) 103 .adr (by kernel_rfl) (by kernel_rfl) (by kernel_rfl) (by rfl)) r1 r1
     (cF rfl (o_move .t (by rfl)) r1 trivial
     (cF rfl (o_callG1 41 (setS_c bf (roomN room) (upL i) (i : Int) true) Tryd.func57 rfl (by kernel_rfl) (Args.three .t .t .cb)) r2 r1
     Chain.nil))))))
     (by kernel_rfl) (by rw [hB]; kernel_rfl) ?_
   clear hS; intro a w F hS
   obtain ⟨F, hS⟩ := hS.norm [(2, _), (4, _), (5, _), (16, _), (17, _), (18, _), (19, _), (20, _), (21, _), (22, _), (23, _), (24, _)] [(0, _), (41, _), (101, _), (102, _), (103, _)] ⟨rfl, rfl, rfl, rfl, rfl, rfl, rfl, rfl, rfl, rfl, rfl, rfl, trivial⟩ r5
   try dsimp only [List.map, List.drop_succ_cons, List.drop_zero, List.drop_nil, List.take_succ_cons, List.take_zero, List.take_nil, ldSF] at hS
   refine block_n ?_
   refine then_n ?_
   refine region_seq hS (by kernel_rfl)
     (cF rfl (o_add .t (.ci (by kernel_rfl))) r1 trivial
     (cF rfl (o_move .t (by rfl)) r1 trivial
     Chain.nil))
     (by kernel_rfl) (by rw [hB]; kernel_rfl) ?_
   clear hS; intro a w F hS
   obtain ⟨F, hS⟩ := hS.norm [(2, _), (4, _), (5, _), (16, _), (17, _), (18, _), (19, _), (20, _), (21, _), (22, _), (23, _), (24, _), (26, _)] [(0, _), (41, _), (101, _), (102, _), (103, _)] ⟨rfl, rfl, rfl, rfl, rfl, rfl, rfl, rfl, rfl, rfl, rfl, rfl, rfl, trivial⟩ r5
   refine then_n ?_
   rw [upL_next (by omega)] at hS
   replace hS := hS.ent (i := 17) (s' := .pv (.int .i64 ((i + 1 : Nat) : Int))) rfl (.int (wrap_succ (by omega)))
   obtain ⟨F, hS⟩ := hS.norm [(17, _), (2, _), (4, _), (16, _)] [(41, _), (0, _), (101, _), (102, _), (103, _)] ⟨rfl, rfl, rfl, rfl, trivial⟩ ⟨rfl, rfl, rfl, rfl, rfl, trivial⟩
   exact ⟨(i + 1), F, (by show i + 1 ≤ _; omega), hS, (by show _ - (i + 1) < _ - i; omega)⟩
  ·skip
   have hil : i = (roomN room) := by simp at hc0; omega
   rw [hil, upL_free] at hS
   refine wp_exit ?_
   refine then_x ?_
   refine then_x ?_
   refine block_x ?_
   refine then_n ?_
   refine wp_seq ?_
   refine region_seq hS (by kernel_rfl)
     (cF rfl (o_move .t (by rfl)) r1 trivial
     (cF rfl (o_assign .t (by rfl)) r1 trivial
     Chain.nil))
     (by kernel_rfl) (by rw [hB]; kernel_rfl) ?_
   clear hS; intro a w F hS
   obtain ⟨F, hS⟩ := hS.norm [(2, _)] [(0, _), (41, _), (101, _), (102, _), (103, _)] r1 r5
   refine then_n ?_
   refine wp_ret ?_
   obtain ⟨F, hS⟩ := hS.norm [(2, _)] [(0, _), (41, _), (102, _), (101, _), (103, _)] ⟨rfl, trivial⟩ ⟨rfl, rfl, rfl, rfl, rfl, trivial⟩
   have hS := hS.fresh 1 rfl
   obtain ⟨F, hS⟩ := hS.push 1 41 rfl rfl rfl (by kernel_rfl)
   obtain ⟨F, hS⟩ := hS.push 1 102 rfl rfl rfl (by kernel_rfl)
   obtain ⟨F, hS⟩ := hS.push 1 101 rfl rfl rfl (by kernel_rfl)
   obtain ⟨F, hS⟩ := hS.push 1 103 rfl rfl rfl (by kernel_rfl)
   have hS := hS.turn 1 rfl (r' := RS.hp (slotsH (.pointer (some ⟨bs, 0, none⟩)) (roomN room) (zerosI (roomN room)))) (fun _ _ _ _ h => ⟨⟨_, _, _, _, _⟩, SlotsOk.new (roomN_le room), h⟩)
   refine ret_N1 (h' := fun v => slotsH v (roomN room) (zerosI (roomN room))) hG hS rfl (.tmp rfl .nil) (.one .ptr) rfl

end Go.Proofs.YtdfpljecogijaaaDoor
