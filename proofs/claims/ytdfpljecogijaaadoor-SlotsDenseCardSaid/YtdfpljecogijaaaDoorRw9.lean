/- Copies, rows moved, held against each other. No condition beyond those that each theorem says. -/
import Derived.Test.YtdfpljecogijaaaDoorRw8
namespace Go.Proofs.YtdfpljecogijaaaDoor
open Go Go.Gm
set_option linter.unusedVariables false
set_option linter.unusedSimpArgs false
set_option maxHeartbeats 4000000
set_option maxRecDepth 8000


theorem upS_c (b n : Nat) (x : List Int) (K : Nat) (hK : K < n) : FnG Tryd.prog 61 1 [.is (.pointer (some ⟨b, 0, none⟩)), setR n x, .int .i64 ((K / 64 : Nat) : Int), .int .u64 ((K % 64 : Nat) : Int)] [setH (.pointer (some ⟨b, 0, none⟩)) n []] (.tup []) (fun _ => [setH (.pointer (some ⟨b, 0, none⟩)) n (movedL x n K)]) := FnG.ofWords2 fun ws us hs ks => ⟨_, ks.movedUp hK, by rw [hs.zeros, ks.ok.len]; exact upW_c b n us ks.ok _ _ (by omega) (Nat.mod_lt _ (by decide))⟩
theorem downS_c (b n : Nat) (x : List Int) (K : Nat) (hK : K < n) (h0 : 0 < K) : FnG Tryd.prog 62 1 [.is (.pointer (some ⟨b, 0, none⟩)), setR n x, .int .i64 ((K / 64 : Nat) : Int), .int .u64 ((K % 64 : Nat) : Int)] [setH (.pointer (some ⟨b, 0, none⟩)) n []] (.tup []) (fun _ => [setH (.pointer (some ⟨b, 0, none⟩)) n (movedL x n (-(K : Int)))]) := FnG.ofWords2 fun ws us hs ks => ⟨_, ks.movedDown hK h0, by rw [hs.zeros, ks.ok.len]; exact downW_c b n us ks.ok _ _ (by omega) (Nat.mod_lt _ (by decide))⟩
theorem shr6_nat (K : Nat) : ((K : Int)).fdiv (2 ^ min (6 : Int).toNat (IntKind.bits .i64)) = ((K / 64 : Nat) : Int) := by rw [shr6]; omega
theorem and63_nat (K : Nat) (h : K ≤ 65536) : IntKind.wrap .u64 (bits .and .i64 (K : Int) 63) = ((K % 64 : Nat) : Int) := by rw [and63 _ (by omega), wrap_u64 (by omega)]; omega

theorem moved_c (n : Nat) (x : List Int) (k : Int) : FnG Tryd.prog 27 1 [setR n x, .int .i64 k] [gH tabP tabV] (PV.ptr) (fun v => [setH v n (movedL x n k)]) := by
  refine FnG.mk Tryd.func27 rfl Tryd.ntmps27 rfl (by kernel_rfl) ?_
  intro B F0 a w F hB hG hS
  have hup := Sat.setRup hS (i := 0) rfl
  have hhi := hup.1
  refine wp_seq ?_
  refine region_seq hS (by kernel_rfl)
    (cF rfl (o_assign (.c rfl) (by rfl)) trivial trivial
    Chain.nil)
    (by kernel_rfl) (by rw [hB]; kernel_rfl) ?_
  clear hS; intro a w F hS
  obtain ⟨F, hS⟩ := hS.norm [(0, _), (1, _), (4, _)] [(0, _), (1, _)] r3 r2
  refine then_n ?_
  refine wp_seq ?_
  refine region_seq hS (by kernel_rfl)
    (cF rfl (o_move .t (by rfl)) r1 trivial
    (cF rfl (o_callP (len_c n x) Tryd.func30 rfl (by kernel_rfl) (Args.one .t)) r1 trivial
    (cF rfl (o_callNg 1 (newS_c _) Tryd.func32 rfl (by kernel_rfl) (Args.one .t) PV.ptr_one) r1 r1
    (cF rfl (o_assign .t (by rfl)) r1 trivial
    Chain.nil))))
    (by kernel_rfl) (by rw [hB]; kernel_rfl) ?_
  clear hS; intro a w F hS
  replace hS := hS.sub
  obtain ⟨F, hS⟩ := hS.norm [(0, _), (1, _), (4, _), (5, _)] [(0, _), (1, _)] r4 r2
  try dsimp only [RS.sub, SF.sub, CF.sub, csub, Anc.sub, List.map] at hS
  generalize Act.tau a 8 = v8 at hS
  obtain ⟨_, _, _, ho⟩ := hS.obGet 1 rfl
  obtain ⟨b, rfl⟩ := setH_ptr ho
  clear ho
  replace hS := hS.turn 1 rfl (r' := RS.hp (setH (.pointer (some ⟨b, 0, none⟩)) (rowN (n : Int)) [])) (fun _ _ _ _ h => h)
  obtain ⟨F, hS⟩ := hS.norm [(0, _), (1, _), (4, _), (5, _)] [(0, _), (1, _)] r4 r2
  rw [rowN_nat hup.1] at hS
  refine then_n ?_
  refine wp_seq ?_
  refine wp_block ?_
  refine wp_seq ?_
  obtain ⟨ws, hS⟩ := hS.open_ex 1 rfl
  obtain ⟨hs, hS⟩ := hS.open_and 1 rfl
  obtain ⟨F, hS⟩ := hS.peel 1 40 rfl rfl
  obtain ⟨F, hS⟩ := hS.peel 1 41 rfl rfl
  obtain ⟨wv, hS⟩ := hS.open_ex 40 rfl
  obtain ⟨hJ, hS⟩ := hS.open_and 40 rfl
  obtain ⟨F, hS⟩ := hS.peel 40 2 rfl rfl
  obtain ⟨F, hS⟩ := hS.peel 40 3 rfl rfl
  obtain ⟨F, hS⟩ := hS.norm [(0, _), (1, _), (4, _), (5, _)] [(0, _), (2, _), (3, _), (41, _)] r4 r4
  refine region_seq hS (by kernel_rfl)
    (cF rfl (o_move .t (by rfl)) r1 trivial
    (cF rfl (o_move .t (by rfl)) r1 trivial
    (cF rfl (o_nilCheck 2 .is (by rfl)) r1 r1
    (cF rfl (o_fieldAddr (off := 0) 2 .adr (by kernel_rfl) (by rfl)) r1 r1
    (cF rfl (o_load (ag := false) (sz := 1) 2 .adr (by kernel_rfl) (by kernel_rfl) (by kernel_rfl) (by rfl)) r1 r1
    (cF rfl (o_geq .t .t) r2 trivial
    (cF rfl (o_move .t (by rfl)) r1 trivial
    (Chain.cons (Cert.cond rfl rfl (fun h => o_move .t (by rfl))) r2 trivial
    (Chain.cons (Cert.cond rfl rfl (fun h => o_move .t (by rfl))) r2 trivial
    (Chain.cons (Cert.cond rfl rfl (fun h => o_nilCheck 2 (.w h .is) (by rfl))) r2 r1
    (Chain.cons (Cert.cond rfl rfl (fun h => o_fieldAddr (off := 0) 2 (.w h .adr) (by kernel_rfl) (by rfl))) r2 r1
    (Chain.cons (Cert.cond rfl rfl (fun h => o_load (ag := false) (sz := 1) 2 (.w h .adr) (by kernel_rfl) (by kernel_rfl) (by kernel_rfl) (by rfl))) r2 r1
    (Chain.cons (Cert.cond rfl rfl (fun h => o_neg (.w h))) r2 trivial
    (Chain.cons (Cert.cond rfl rfl (fun h => o_leq (.w h) (.w h))) r3 trivial
    (cF rfl (o_or2 .t .t) r2 trivial
    (cF rfl (o_assign .t (by rfl)) r1 trivial
    Chain.nil))))))))))))))))
    (by kernel_rfl) (by rw [hB]; kernel_rfl) ?_
  clear hS; intro a w F hS
  obtain ⟨F, hS⟩ := hS.norm [(0, _), (1, _), (4, _), (5, _), (19, _)] [(0, _), (2, _), (3, _), (41, _)] r5 r4
  try dsimp only [List.map, List.drop_succ_cons, List.drop_zero, List.drop_nil, List.take_succ_cons, List.take_zero, List.take_nil, ldSF] at hS
  refine then_n ?_
  refine cond_b hS rfl (fun hc0 => ?_) (fun hc0 => ?_)
  ·skip
   obtain ⟨F, hS⟩ := hS.norm [(0, _), (1, _), (4, _), (5, _), (19, _)] [(0, _), (2, _), (3, _), (41, _)] ⟨rfl, rfl, rfl, rfl, rfl, trivial⟩ ⟨rfl, rfl, rfl, rfl, trivial⟩
   have hS := hS.fresh 43 rfl
   obtain ⟨F, hS⟩ := hS.push 43 3 rfl rfl rfl (by kernel_rfl)
   obtain ⟨F, hS⟩ := hS.push 43 2 rfl rfl rfl (by kernel_rfl)
   have hS := hS.turn 43 rfl (r' := RS.hp (bitsH (.pointer (some ⟨b, 0, none⟩)) n ws)) (fun _ _ _ _ h => ⟨_, hs.ok, h⟩)
   have hS := hS.fresh 1 rfl
   obtain ⟨F, hS⟩ := hS.push 1 41 rfl rfl rfl (by kernel_rfl)
   obtain ⟨F, hS⟩ := hS.push 1 43 rfl rfl rfl (by kernel_rfl)
   have hS := hS.turn 1 rfl (r' := RS.hp (setH (.pointer (some ⟨b, 0, none⟩)) n [])) (fun _ _ _ _ h => ⟨_, hs, h⟩)
   obtain ⟨F, hS⟩ := hS.norm [(0, _), (1, _), (4, _), (5, _), (19, _)] [(0, _), (1, _)] r5 r2
   have hm : movedL x n k = [] := moved_none (by rw [show IntKind.wrap .i64 (0 - (n : Int)) = -(n : Int) by rw [wrap_i64 (by omega)]; omega] at hc0; simpa using hc0)
   have hS := hS.turn 1 rfl (r' := RS.hp (setH (.pointer (some ⟨b, 0, none⟩)) n (movedL x n k))) (by rw [hm]; exact fun _ _ _ _ h => h)
   refine wp_skip ?_
   refine block_n ?_
   refine then_n ?_
   refine wp_seq ?_
   refine region_seq hS (by kernel_rfl)
     (cF rfl (o_move .t (by rfl)) r1 trivial
     (cF rfl (o_assign .t (by rfl)) r1 trivial
     Chain.nil))
     (by kernel_rfl) (by rw [hB]; kernel_rfl) ?_
   clear hS; intro a w F hS
   obtain ⟨F, hS⟩ := hS.norm [(4, _)] [(0, _), (1, _)] r1 r2
   refine then_n ?_
   refine wp_ret ?_
   refine ret_N1 (h' := fun v => setH v n (movedL x n _)) hG hS rfl (.tmp rfl .nil) (.one .ptr) rfl
  ·skip
   obtain ⟨F, hS⟩ := hS.norm [(0, _), (1, _), (4, _), (5, _), (19, _)] [(0, _), (2, _), (3, _), (41, _)] ⟨rfl, rfl, rfl, rfl, rfl, trivial⟩ ⟨rfl, rfl, rfl, rfl, trivial⟩
   have hS := hS.fresh 43 rfl
   obtain ⟨F, hS⟩ := hS.push 43 3 rfl rfl rfl (by kernel_rfl)
   obtain ⟨F, hS⟩ := hS.push 43 2 rfl rfl rfl (by kernel_rfl)
   have hS := hS.turn 43 rfl (r' := RS.hp (bitsH (.pointer (some ⟨b, 0, none⟩)) n ws)) (fun _ _ _ _ h => ⟨_, hs.ok, h⟩)
   have hS := hS.fresh 1 rfl
   obtain ⟨F, hS⟩ := hS.push 1 41 rfl rfl rfl (by kernel_rfl)
   obtain ⟨F, hS⟩ := hS.push 1 43 rfl rfl rfl (by kernel_rfl)
   have hS := hS.turn 1 rfl (r' := RS.hp (setH (.pointer (some ⟨b, 0, none⟩)) n [])) (fun _ _ _ _ h => ⟨_, hs, h⟩)
   obtain ⟨F, hS⟩ := hS.norm [(0, _), (1, _), (4, _), (5, _), (19, _)] [(0, _), (1, _)] r5 r2
   have hb : k < n ∧ -(n : Int) < k := by rw [show IntKind.wrap .i64 (0 - (n : Int)) = -(n : Int) by rw [wrap_i64 (by omega)]; omega] at hc0; simpa using hc0
   refine wp_seq ?_
   refine region_seq hS (by kernel_rfl)
     (cF rfl (o_move .t (by rfl)) r1 trivial
     (cF rfl (o_geq .t (.ci (by kernel_rfl))) r1 trivial
     (cF rfl (o_assign .t (by rfl)) r1 trivial
     Chain.nil)))
     (by kernel_rfl) (by rw [hB]; kernel_rfl) ?_
   clear hS; intro a w F hS
   obtain ⟨F, hS⟩ := hS.norm [(0, _), (1, _), (4, _), (5, _), (35, _)] [(0, _), (1, _)] r5 r2
   refine then_n ?_
   refine cond_b hS rfl (fun hc1 => ?_) (fun hc1 => ?_)
   ·skip
    obtain ⟨K, rfl⟩ := Int.eq_ofNat_of_zero_le (show 0 ≤ k by simpa using hc1)
    have hKn : K < n := by omega
    refine region_seq hS (by kernel_rfl)
      (cF rfl (o_move .t (by rfl)) r1 trivial
      (cF rfl (o_move .t (by rfl)) r1 trivial
      (cF rfl (o_move .t (by rfl)) r1 trivial
      (cF rfl (o_shr .t (.ci (by kernel_rfl)) (by decide)) r1 trivial
      (cF rfl (o_move .t (by rfl)) r1 trivial
      (cF rfl (o_and .t (.ci (by kernel_rfl))) r1 trivial
      (cF rfl (o_conv Tryd.underlying93 (by kernel_rfl) .t) r1 trivial
      (cF rfl (o_callG1 1 (upS_c b n x K hKn) Tryd.func61 rfl (by kernel_rfl) (Args.four .t .t (.conv .t (Ent.int (shr6_nat K))) (.conv .t (Ent.int (and63_nat K (by omega)))))) r4 r1
      Chain.nil))))))))
      (by kernel_rfl) (by rw [hB]; kernel_rfl) ?_
    clear hS; intro a w F hS
    obtain ⟨F, hS⟩ := hS.norm [(4, _), (5, _)] [(0, _), (1, _)] r2 r2
    refine block_n ?_
    refine then_n ?_
    refine wp_seq ?_
    refine region_seq hS (by kernel_rfl)
      (cF rfl (o_move .t (by rfl)) r1 trivial
      (cF rfl (o_assign .t (by rfl)) r1 trivial
      Chain.nil))
      (by kernel_rfl) (by rw [hB]; kernel_rfl) ?_
    clear hS; intro a w F hS
    obtain ⟨F, hS⟩ := hS.norm [(4, _)] [(0, _), (1, _)] r1 r2
    refine then_n ?_
    refine wp_ret ?_
    refine ret_N1 (h' := fun v => setH v n (movedL x n _)) hG hS rfl (.tmp rfl .nil) (.one .ptr) rfl
   ·skip
    obtain ⟨K, hK⟩ := Int.eq_ofNat_of_zero_le (show 0 ≤ -k by simp at hc1; omega)
    have hke : k = -(K : Int) := by omega
    subst hke
    have hK0 : 0 < K := by simp at hc1; omega
    have hKn : K < n := by omega
    have hkn : IntKind.wrap .i64 (0 - -(K : Int)) = (K : Int) := by rw [wrap_i64 (by omega)]; omega
    refine region_seq hS (by kernel_rfl)
      (cF rfl (o_move .t (by rfl)) r1 trivial
      (cF rfl (o_move .t (by rfl)) r1 trivial
      (cF rfl (o_move .t (by rfl)) r1 trivial
      (cF rfl (o_neg .t) r1 trivial
      (cF rfl (o_shr .t (.ci (by kernel_rfl)) (by decide)) r1 trivial
      (cF rfl (o_move .t (by rfl)) r1 trivial
      (cF rfl (o_neg .t) r1 trivial
      (cF rfl (o_and .t (.ci (by kernel_rfl))) r1 trivial
      (cF rfl (o_conv Tryd.underlying93 (by kernel_rfl) .t) r1 trivial
      (cF rfl (o_callG1 1 (downS_c b n x K hKn hK0) Tryd.func62 rfl (by kernel_rfl) (Args.four .t .t (.conv .t (Ent.int (by rw [hkn]; exact shr6_nat K))) (.conv .t (Ent.int (by rw [hkn]; exact and63_nat K (by omega)))))) r4 r1
      Chain.nil))))))))))
      (by kernel_rfl) (by rw [hB]; kernel_rfl) ?_
    clear hS; intro a w F hS
    obtain ⟨F, hS⟩ := hS.norm [(4, _), (5, _)] [(0, _), (1, _)] r2 r2
    refine block_n ?_
    refine then_n ?_
    refine wp_seq ?_
    refine region_seq hS (by kernel_rfl)
      (cF rfl (o_move .t (by rfl)) r1 trivial
      (cF rfl (o_assign .t (by rfl)) r1 trivial
      Chain.nil))
      (by kernel_rfl) (by rw [hB]; kernel_rfl) ?_
    clear hS; intro a w F hS
    obtain ⟨F, hS⟩ := hS.norm [(4, _)] [(0, _), (1, _)] r1 r2
    refine then_n ?_
    refine wp_ret ?_
    refine ret_N1 (h' := fun v => setH v n (movedL x n _)) hG hS rfl (.tmp rfl .nil) (.one .ptr) rfl

theorem copy_c (n : Nat) (x : List Int) : FnG Tryd.prog 38 1 [setR n x] [gH tabP tabV] (PV.ptr) (fun v => [setH v n x]) := by
  refine FnG.mk Tryd.func38 rfl Tryd.ntmps38 rfl (by kernel_rfl) ?_
  intro B F0 a w F hB hG hS
  have hup := Sat.setRup hS (i := 0) rfl
  have hhi := hup.1
  refine wp_seq ?_
  refine region_seq hS (by kernel_rfl)
    (cF rfl (o_assign (.c rfl) (by rfl)) trivial trivial
    Chain.nil)
    (by kernel_rfl) (by rw [hB]; kernel_rfl) ?_
  clear hS; intro a w F hS
  obtain ⟨F, hS⟩ := hS.norm [(0, _), (2, _)] [(0, _), (1, _)] r2 r2
  refine then_n ?_
  refine wp_seq ?_
  refine region_seq hS (by kernel_rfl)
    (cF rfl (o_move .t (by rfl)) r1 trivial
    (cF rfl (o_callP (len_c n x) Tryd.func30 rfl (by kernel_rfl) (Args.one .t)) r1 trivial
    (cF rfl (o_callNg 1 (newS_c _) Tryd.func32 rfl (by kernel_rfl) (Args.one .t) PV.ptr_one) r1 r1
    (cF rfl (o_assign .t (by rfl)) r1 trivial
    Chain.nil))))
    (by kernel_rfl) (by rw [hB]; kernel_rfl) ?_
  clear hS; intro a w F hS
  replace hS := hS.sub
  obtain ⟨F, hS⟩ := hS.norm [(0, _), (2, _), (3, _)] [(0, _), (1, _)] r3 r2
  try dsimp only [RS.sub, SF.sub, CF.sub, csub, Anc.sub, List.map] at hS
  generalize Act.tau a 6 = v6 at hS
  obtain ⟨_, _, _, ho⟩ := hS.obGet 1 rfl
  obtain ⟨b, rfl⟩ := setH_ptr ho
  clear ho
  replace hS := hS.turn 1 rfl (r' := RS.hp (setH (.pointer (some ⟨b, 0, none⟩)) (rowN (n : Int)) [])) (fun _ _ _ _ h => h)
  obtain ⟨F, hS⟩ := hS.norm [(0, _), (2, _), (3, _)] [(0, _), (1, _)] r3 r2
  rw [rowN_nat hup.1] at hS
  refine then_n ?_
  refine wp_seq ?_
  refine region_seq hS (by kernel_rfl)
    (cF rfl (o_move .t (by rfl)) r1 trivial
    (cF rfl (o_move .t (by rfl)) r1 trivial
    (cF rfl (o_callG1 1 (or_c b n [] n x) Tryd.func39 rfl (by kernel_rfl) (Args.two .t .t)) r2 r1
    Chain.nil)))
    (by kernel_rfl) (by rw [hB]; kernel_rfl) ?_
  clear hS; intro a w F hS
  obtain ⟨F, hS⟩ := hS.norm [(2, _), (3, _)] [(0, _), (1, _)] r2 r2
  rw [orL_nil hup.2] at hS
  refine then_n ?_
  refine wp_seq ?_
  refine region_seq hS (by kernel_rfl)
    (cF rfl (o_move .t (by rfl)) r1 trivial
    (cF rfl (o_assign .t (by rfl)) r1 trivial
    Chain.nil))
    (by kernel_rfl) (by rw [hB]; kernel_rfl) ?_
  clear hS; intro a w F hS
  obtain ⟨F, hS⟩ := hS.norm [(2, _)] [(0, _), (1, _)] r1 r2
  refine then_n ?_
  refine wp_ret ?_
  refine ret_N1 (h' := fun v => setH v n x) hG hS rfl (.tmp rfl .nil) (.one .ptr) rfl

theorem copy_nil  : FnG Tryd.prog 38 1 [.is (.pointer none)] [gH tabP tabV] (PV.ptr) (fun v => [setH v 0 []]) := by
  refine FnG.mk Tryd.func38 rfl Tryd.ntmps38 rfl (by kernel_rfl) ?_
  intro B F0 a w F hB hG hS
  refine wp_seq ?_
  refine region_seq hS (by kernel_rfl)
    (cF rfl (o_assign (.c rfl) (by rfl)) trivial trivial
    Chain.nil)
    (by kernel_rfl) (by rw [hB]; kernel_rfl) ?_
  clear hS; intro a w F hS
  obtain ⟨F, hS⟩ := hS.norm [(0, _), (2, _)] [(0, _), (1, _)] r2 r2
  refine then_n ?_
  refine wp_seq ?_
  refine region_seq hS (by kernel_rfl)
    (cF rfl (o_move .t (by rfl)) r1 trivial
    (cF rfl (o_callP (rlen_nil) Tryd.func30 rfl (by kernel_rfl) (Args.one .t)) r1 trivial
    (cF rfl (o_callNg 1 (newS_c _) Tryd.func32 rfl (by kernel_rfl) (Args.one .t) PV.ptr_one) r1 r1
    (cF rfl (o_assign .t (by rfl)) r1 trivial
    Chain.nil))))
    (by kernel_rfl) (by rw [hB]; kernel_rfl) ?_
  clear hS; intro a w F hS
  replace hS := hS.sub
  obtain ⟨F, hS⟩ := hS.norm [(0, _), (2, _), (3, _)] [(0, _), (1, _)] r3 r2
  try dsimp only [RS.sub, SF.sub, CF.sub, csub, Anc.sub, List.map] at hS
  generalize Act.tau a 6 = v6 at hS
  obtain ⟨_, _, _, ho⟩ := hS.obGet 1 rfl
  obtain ⟨b, rfl⟩ := setH_ptr ho
  clear ho
  replace hS := hS.turn 1 rfl (r' := RS.hp (setH (.pointer (some ⟨b, 0, none⟩)) (rowN 0) [])) (fun _ _ _ _ h => h)
  obtain ⟨F, hS⟩ := hS.norm [(0, _), (2, _), (3, _)] [(0, _), (1, _)] r3 r2
  rw [show rowN 0 = 0 from rfl] at hS
  refine then_n ?_
  refine wp_seq ?_
  refine region_seq hS (by kernel_rfl)
    (cF rfl (o_move .t (by rfl)) r1 trivial
    (cF rfl (o_move .t (by rfl)) r1 trivial
    (cF rfl (o_callG1 1 (or_nil b 0 []) Tryd.func39 rfl (by kernel_rfl) (Args.two .t .t)) r2 r1
    Chain.nil)))
    (by kernel_rfl) (by rw [hB]; kernel_rfl) ?_
  clear hS; intro a w F hS
  obtain ⟨F, hS⟩ := hS.norm [(2, _), (3, _)] [(0, _), (1, _)] r2 r2
  refine then_n ?_
  refine wp_seq ?_
  refine region_seq hS (by kernel_rfl)
    (cF rfl (o_move .t (by rfl)) r1 trivial
    (cF rfl (o_assign .t (by rfl)) r1 trivial
    Chain.nil))
    (by kernel_rfl) (by rw [hB]; kernel_rfl) ?_
  clear hS; intro a w F hS
  obtain ⟨F, hS⟩ := hS.norm [(2, _)] [(0, _), (1, _)] r1 r2
  refine then_n ?_
  refine wp_ret ?_
  refine ret_N1 (h' := fun v => setH v 0 []) hG hS rfl (.tmp rfl .nil) (.one .ptr) rfl

theorem sameW_c (n m : Nat) (ws us : List Int) (hI : RowOk n ws) (hK : RowOk m us) : FnP Tryd.prog 36 [.ref [.int .i64 n, .sl rU64 ws], .ref [.int .i64 m, .sl rU64 us]] (.bool (decide (n = m ∧ ws = us))) := by
  refine FnP.mk Tryd.func36 rfl Tryd.ntmps36 rfl ?_
  intro B a w F hB hfr hS
  refine wp_seq ?_
  refine region_seq hS (by kernel_rfl)
    (cF rfl (o_assign .cb (by rfl)) trivial trivial
    Chain.nil)
    (by kernel_rfl) (by rw [hB]; kernel_rfl) ?_
  clear hS; intro a w F hS
  obtain ⟨F, hS⟩ := hS.norm [(0, _), (1, _), (4, _)] [(0, _)] r3 r1
  refine then_n ?_
  refine wp_seq ?_
  refine wp_seq ?_
  refine region_seq hS (by kernel_rfl)
    (cF rfl (o_move .t (by rfl)) r1 trivial
    (cF rfl (o_callP (rlen_c n _) Tryd.func30 rfl (by kernel_rfl) (Args.one .t)) r1 trivial
    (cF rfl (o_move .t (by rfl)) r1 trivial
    (cF rfl (o_callP (rlen_c m _) Tryd.func30 rfl (by kernel_rfl) (Args.one .t)) r1 trivial
    (cF rfl (o_neq .t .t) r2 trivial
    Chain.nil)))))
    (by kernel_rfl) (by rw [hB]; kernel_rfl) ?_
  clear hS; intro a w F hS
  obtain ⟨F, hS⟩ := hS.norm [(0, _), (1, _), (4, _), (10, _)] [(0, _)] r4 r1
  refine then_n ?_
  refine cond_b hS rfl (fun hc0 => ?_) (fun hc0 => ?_)
  ·skip
   have hg : false = decide (n = m ∧ ws = us) := by rw [eq_comm, decide_eq_false_iff_not]; rintro ⟨rfl, _⟩; simp at hc0
   refine wp_seq ?_
   refine region_seq hS (by kernel_rfl)
     (cF rfl (o_assign .cb (by rfl)) trivial trivial
     Chain.nil)
     (by kernel_rfl) (by rw [hB]; kernel_rfl) ?_
   clear hS; intro a w F hS
   obtain ⟨F, hS⟩ := hS.norm [(0, _), (1, _), (4, _)] [(0, _)] r3 r1
   refine then_n ?_
   refine wp_ret ?_
   refine then_r ?_
   refine ret_P hfr hS rfl (.tmp rfl .nil) (.one (.bool hg))
  ·skip
   have hnm : n = m := by simp at hc0; omega
   have hlu : us.length = ws.length := by rw [hI.len, hK.len, hnm]
   have hll : ws.length ≤ 9223372036854775807 := by have := hI.len; have := hI.hi; omega
   refine wp_skip ?_
   refine then_n ?_
   refine wp_seq ?_
   refine wp_seq ?_
   refine region_seq hS (by kernel_rfl)
     (cF rfl (o_move .t (by rfl)) r1 trivial
     (cF rfl (o_ref_eql Tryd.underlying46 .t) r1 trivial
     (cF rfl (o_move .t (by rfl)) r1 trivial
     (Chain.cons (Cert.cond rfl rfl (fun h => o_move .t (by rfl))) r2 trivial
     (Chain.cons (Cert.cond rfl rfl (fun h => o_ref_eql Tryd.underlying46 (.w h))) r2 trivial
     (cF rfl (o_or2 .t .t) r2 trivial
     Chain.nil))))))
     (by kernel_rfl) (by rw [hB]; kernel_rfl) ?_
   clear hS; intro a w F hS
   obtain ⟨F, hS⟩ := hS.norm [(0, _), (1, _), (4, _), (16, _)] [(0, _)] r4 r1
   refine then_n ?_
   refine cond_b hS rfl (fun hc1 => ?_) (fun hc1 => ?_)
   ·skip
    simp at hc1
   ·skip
    refine wp_skip ?_
    refine then_n ?_
    refine wp_seq ?_
    refine wp_seq ?_
    refine region_seq hS (by kernel_rfl)
      (cF rfl (o_move .t (by rfl)) r1 trivial
      (cF rfl (o_nilCheck_ref .t) r1 trivial
      (cF rfl (o_fieldAddr_ref (off := 1) .t (by kernel_rfl)) r1 trivial
      (cF rfl (o_load_ref (ag := false) (sz := 1) .t (by kernel_rfl) (by kernel_rfl) (by kernel_rfl)) r1 trivial
      (cF rfl (o_len_sl Tryd.underlying89 .t) r1 trivial
      (cF rfl (o_move (.ci (by kernel_rfl)) (by rfl)) trivial trivial
      Chain.nil))))))
      (by kernel_rfl) (by rw [hB]; kernel_rfl) ?_
    clear hS; intro a w F hS
    obtain ⟨F, hS⟩ := hS.norm [(0, _), (1, _), (4, _), (21, _), (22, _)] [(0, _)] r5 r1
    try dsimp only [List.map, List.drop_succ_cons, List.drop_zero, List.drop_nil, List.take_succ_cons, List.take_zero, List.take_nil, ldSF] at hS
    refine then_n ?_
    refine wp_block ?_
    refine loop_keep (σ := (Nat)) [0, 1, 4, 21] [0] (fun s => [(22, .pv (.int .i64 (s : Int)))]) (fun s => []) (fun s => s ≤ ws.length ∧ (∀ j, j < s → Go.Gm.nth ws j = Go.Gm.nth us j)) (fun s => ws.length - s) (0) hS ⟨rfl, rfl, rfl, rfl, rfl, trivial⟩ ⟨rfl, trivial⟩ ⟨Nat.zero_le _, fun j hj => absurd hj (Nat.not_lt_zero j)⟩ ?_
    clear hS; intro i a w F hC hS
    try dsimp only at hC
    obtain ⟨F, hS⟩ := hS.norm [(0, _), (1, _), (4, _), (21, _), (22, _)] [(0, _)] r5 r1
    try dsimp only at hS
    obtain ⟨hi, hq⟩ := hC
    refine wp_seq ?_
    refine region_seq hS (by kernel_rfl)
      (cF rfl (o_lss .t .t) r2 trivial
      Chain.nil)
      (by kernel_rfl) (by rw [hB]; kernel_rfl) ?_
    clear hS; intro a w F hS
    obtain ⟨F, hS⟩ := hS.norm [(0, _), (1, _), (4, _), (21, _), (22, _), (23, _)] [(0, _)] r6 r1
    refine then_n ?_
    refine wp_seq ?_
    refine cond_b hS rfl (fun hc2 => ?_) (fun hc2 => ?_)
    ·skip
     have hil : i < ws.length := by simp at hc2; omega
     refine wp_skip ?_
     refine then_n ?_
     refine wp_seq ?_
     refine wp_block ?_
     refine wp_seq ?_
     refine region_seq hS (by kernel_rfl)
       (cF rfl (o_move .t (by rfl)) r1 trivial
       (cF rfl (o_assign .t (by rfl)) r1 trivial
       Chain.nil))
       (by kernel_rfl) (by rw [hB]; kernel_rfl) ?_
     clear hS; intro a w F hS
     obtain ⟨F, hS⟩ := hS.norm [(0, _), (1, _), (4, _), (5, _), (21, _), (22, _), (23, _), (24, _)] [(0, _)] r8 r1
     refine then_n ?_
     refine wp_seq ?_
     refine region_any (by kernel_rfl) hS (by kernel_rfl)
       (cF rfl (o_move .t (by rfl)) r1 trivial
       (cF rfl (o_nilCheck_ref .t) r1 trivial
       (cF rfl (o_fieldAddr_ref (off := 1) .t (by kernel_rfl)) r1 trivial
       (cF rfl (o_load_ref (ag := false) (sz := 1) .t (by kernel_rfl) (by kernel_rfl) (by kernel_rfl)) r1 trivial
       (cF rfl (o_move .t (by rfl)) r1 trivial
       (cF rfl (o_indexAddr_sl (sz := 1) (.mk Tryd.underlying89 (by kernel_rfl)) (by intro x; rfl) .t .t (by first | assumption | omega) (by first | assumption | omega)) r2 trivial
       (cF rfl (o_load_ref (ag := false) (sz := 1) .t (by kernel_rfl) (by kernel_rfl) (by kernel_rfl)) r1 trivial
       (cF rfl (o_move .t (by rfl)) r1 trivial
       (cF rfl (o_nilCheck_ref .t) r1 trivial
       (cF rfl (o_fieldAddr_ref (off := 1) .t (by kernel_rfl)) r1 trivial
       (cF rfl (o_load_ref (ag := false) (sz := 1) .t (by kernel_rfl) (by kernel_rfl) (by kernel_rfl)) r1 trivial
       (cF rfl (o_move .t (by rfl)) r1 trivial
       (cF rfl (o_indexAddr_sl (sz := 1) (.mk Tryd.underlying89 (by kernel_rfl)) (by intro x; rfl) .t .t (by omega) (by omega)) r2 trivial
       (cF rfl (o_load_ref (ag := false) (sz := 1) .t (by kernel_rfl) (by kernel_rfl) (by kernel_rfl)) r1 trivial
       (cF rfl (o_neq .t .t) r2 trivial
       Chain.nil)))))))))))))))
       (by kernel_rfl) (by rw [hB]; kernel_rfl) ?_
     clear hS; intro a w F hS
     obtain ⟨F, hS⟩ := hS.norm [(0, _), (1, _), (4, _), (5, _), (21, _), (22, _), (23, _), (24, _), (25, _), (26, _), (27, _), (28, _), (29, _), (30, _), (31, _), (32, _), (33, _), (34, _), (35, _), (36, _), (37, _), (38, _), (39, _)] [(0, _)] ⟨rfl, rfl, rfl, rfl, rfl, rfl, rfl, rfl, rfl, rfl, rfl, rfl, rfl, rfl, rfl, rfl, rfl, rfl, rfl, rfl, rfl, rfl, rfl, trivial⟩ r1
     try dsimp only [List.map, List.drop_succ_cons, List.drop_zero, List.drop_nil, List.take_succ_cons, List.take_zero, List.take_nil, ldSF] at hS
     try simp only [Int.toNat_natCast] at hS
     refine then_n ?_
     refine cond_b hS rfl (fun hc3 => ?_) (fun hc3 => ?_)
     ·skip
      have hg : false = decide (n = m ∧ ws = us) := by
        rw [eq_comm, decide_eq_false_iff_not]
        rintro ⟨_, rfl⟩
        simp at hc3
      refine wp_seq ?_
      refine region_seq hS (by kernel_rfl)
        (cF rfl (o_assign .cb (by rfl)) trivial trivial
        Chain.nil)
        (by kernel_rfl) (by rw [hB]; kernel_rfl) ?_
      clear hS; intro a w F hS
      obtain ⟨F, hS⟩ := hS.norm [(0, _), (1, _), (4, _), (5, _), (21, _), (22, _), (23, _), (24, _), (25, _), (26, _), (27, _), (28, _), (29, _), (30, _), (31, _), (32, _), (33, _), (34, _), (35, _), (36, _), (37, _), (38, _), (39, _)] [(0, _)] ⟨rfl, rfl, rfl, rfl, rfl, rfl, rfl, rfl, rfl, rfl, rfl, rfl, rfl, rfl, rfl, rfl, rfl, rfl, rfl, rfl, rfl, rfl, rfl, trivial⟩ r1
      refine then_n ?_
      refine wp_ret ?_
      refine block_r ?_
      refine then_r ?_
      refine then_r ?_
      refine block_r ?_
      refine then_r ?_
      refine ret_P hfr hS rfl (.tmp rfl .nil) (.one (.bool hg))
     ·skip
      have hqi : Go.Gm.nth ws i = Go.Gm.nth us i := by simpa using hc3
      refine wp_skip ?_
      refine block_n ?_
      refine then_n ?_
      refine region_seq hS (by kernel_rfl)
        (cF rfl (o_add .t (.ci (by kernel_rfl))) r1 trivial
        (cF rfl (o_move .t (by rfl)) r1 trivial
        Chain.nil))
        (by kernel_rfl) (by rw [hB]; kernel_rfl) ?_
      clear hS; intro a w F hS
      obtain ⟨F, hS⟩ := hS.norm [(0, _), (1, _), (4, _), (5, _), (21, _), (22, _), (23, _), (24, _), (25, _), (26, _), (27, _), (28, _), (29, _), (30, _), (31, _), (32, _), (33, _), (34, _), (35, _), (36, _), (37, _), (38, _), (39, _), (40, _)] [(0, _)] ⟨rfl, rfl, rfl, rfl, rfl, rfl, rfl, rfl, rfl, rfl, rfl, rfl, rfl, rfl, rfl, rfl, rfl, rfl, rfl, rfl, rfl, rfl, rfl, rfl, trivial⟩ r1
      refine then_n ?_
      replace hS := hS.ent (i := 22) (s' := .pv (.int .i64 ((i + 1 : Nat) : Int))) rfl (.int (wrap_succ (by omega)))
      obtain ⟨F, hS⟩ := hS.norm [(22, _), (0, _), (1, _), (4, _), (21, _)] [(0, _)] ⟨rfl, rfl, rfl, rfl, rfl, trivial⟩ ⟨rfl, trivial⟩
      exact ⟨(i + 1), F, ⟨by omega, fun j hj => by rcases Nat.lt_or_eq_of_le (Nat.le_of_lt_succ hj) with h | h; exact hq j h; rw [h]; exact hqi⟩, hS, by omega⟩
    ·skip
     have hil : i = ws.length := by simp at hc2; omega
     have hg : true = decide (n = m ∧ ws = us) := by
       rw [eq_comm, decide_eq_true_eq]
       exact ⟨hnm, list_same hlu.symm fun j hj => hq j (by omega)⟩
     refine wp_exit ?_
     refine then_x ?_
     refine then_x ?_
     refine block_x ?_
     refine then_n ?_
     refine wp_seq ?_
     refine region_seq hS (by kernel_rfl)
       (cF rfl (o_assign .cb (by rfl)) trivial trivial
       Chain.nil)
       (by kernel_rfl) (by rw [hB]; kernel_rfl) ?_
     clear hS; intro a w F hS
     obtain ⟨F, hS⟩ := hS.norm [(4, _)] [(0, _)] r1 r1
     refine then_n ?_
     refine wp_ret ?_
     refine ret_P hfr hS rfl (.tmp rfl .nil) (.one (.bool hg))

theorem sameW_nil (n : Nat) (p : PV) : FnP Tryd.prog 36 [.ref [.int .i64 n, p], .is (.pointer none)] (.bool (decide (n = 0))) := by
  refine FnP.mk Tryd.func36 rfl Tryd.ntmps36 rfl ?_
  intro B a w F hB hfr hS
  refine wp_seq ?_
  refine region_seq hS (by kernel_rfl)
    (cF rfl (o_assign .cb (by rfl)) trivial trivial
    Chain.nil)
    (by kernel_rfl) (by rw [hB]; kernel_rfl) ?_
  clear hS; intro a w F hS
  obtain ⟨F, hS⟩ := hS.norm [(0, _), (1, _), (4, _)] [(0, _)] r3 r1
  refine then_n ?_
  refine wp_seq ?_
  refine wp_seq ?_
  refine region_seq hS (by kernel_rfl)
    (cF rfl (o_move .t (by rfl)) r1 trivial
    (cF rfl (o_callP (rlen_c n _) Tryd.func30 rfl (by kernel_rfl) (Args.one .t)) r1 trivial
    (cF rfl (o_move .t (by rfl)) r1 trivial
    (cF rfl (o_callP (rlen_nil) Tryd.func30 rfl (by kernel_rfl) (Args.one .t)) r1 trivial
    (cF rfl (o_neq .t .t) r2 trivial
    Chain.nil)))))
    (by kernel_rfl) (by rw [hB]; kernel_rfl) ?_
  clear hS; intro a w F hS
  obtain ⟨F, hS⟩ := hS.norm [(0, _), (1, _), (4, _), (10, _)] [(0, _)] r4 r1
  refine then_n ?_
  refine cond_b hS rfl (fun hc0 => ?_) (fun hc0 => ?_)
  ·skip
   have hg : false = decide (n = 0) := by simp at hc0; rw [eq_comm, decide_eq_false_iff_not]; omega
   refine wp_seq ?_
   refine region_seq hS (by kernel_rfl)
     (cF rfl (o_assign .cb (by rfl)) trivial trivial
     Chain.nil)
     (by kernel_rfl) (by rw [hB]; kernel_rfl) ?_
   clear hS; intro a w F hS
   obtain ⟨F, hS⟩ := hS.norm [(0, _), (1, _), (4, _)] [(0, _)] r3 r1
   refine then_n ?_
   refine wp_ret ?_
   refine then_r ?_
   refine ret_P hfr hS rfl (.tmp rfl .nil) (.one (.bool hg))
  ·skip
   have hg : true = decide (n = 0) := by simp at hc0; rw [eq_comm, decide_eq_true_eq]; omega
   refine wp_skip ?_
   refine then_n ?_
   refine wp_seq ?_
   refine wp_seq ?_
   refine region_seq hS (by kernel_rfl)
     (cF rfl (o_move .t (by rfl)) r1 trivial
     (cF rfl (o_ref_eql Tryd.underlying46 .t) r1 trivial
     (cF rfl (o_move .t (by rfl)) r1 trivial
     (Chain.cons (Cert.cond rfl rfl (fun h => o_move .t (by rfl))) r2 trivial
     (Chain.cons (Cert.cond rfl rfl (fun h => o_nil_eql _ Tryd.underlying46 rfl (.w h))) r2 trivial
     (cF rfl (o_or2 .t .t) r2 trivial
     Chain.nil))))))
     (by kernel_rfl) (by rw [hB]; kernel_rfl) ?_
   clear hS; intro a w F hS
   obtain ⟨F, hS⟩ := hS.norm [(0, _), (1, _), (4, _), (16, _)] [(0, _)] r4 r1
   refine then_n ?_
   refine cond_b hS rfl (fun hc1 => ?_) (fun hc1 => ?_)
   ·skip
    refine wp_seq ?_
    refine region_seq hS (by kernel_rfl)
      (cF rfl (o_assign .cb (by rfl)) trivial trivial
      Chain.nil)
      (by kernel_rfl) (by rw [hB]; kernel_rfl) ?_
    clear hS; intro a w F hS
    obtain ⟨F, hS⟩ := hS.norm [(0, _), (1, _), (4, _)] [(0, _)] r3 r1
    refine then_n ?_
    refine wp_ret ?_
    refine then_r ?_
    refine ret_P hfr hS rfl (.tmp rfl .nil) (.one (.bool hg))
   ·skip
    simp at hc1

theorem sameS_c (n m : Nat) (x z : List Int) : FnP Tryd.prog 36 [setR n x, setR m z] (.bool (decide (n = m ∧ x = z))) := FnP.ofWords2 fun ws us hs ks => by
  have e : decide (n = m ∧ x = z) = decide (n = m ∧ ws = us) := by
    rw [decide_eq_decide]
    constructor
    · rintro ⟨rfl, h⟩; exact ⟨rfl, by have := hs.same ks; rw [decide_eq_decide] at this; exact this.2 h⟩
    · rintro ⟨rfl, h⟩; exact ⟨rfl, by have := hs.same ks; rw [decide_eq_decide] at this; exact this.1 h⟩
  rw [e]; exact (sameW_c n m ws us hs.ok ks.ok).glob
theorem sameS_nil (n : Nat) (x : List Int) : FnP Tryd.prog 36 [setR n x, .is (.pointer none)] (.bool (decide (n = 0))) := FnP.ofWords fun ws hs => (sameW_nil n _).glob

end Go.Proofs.YtdfpljecogijaaaDoor
