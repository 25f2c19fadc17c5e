/- Components: lives. No condition beyond those that each theorem says. -/
import Derived.Test.YtpahapjcdldodaaDoorCoC
namespace Go.Proofs.YtpahapjcdldodaaDoor
open Go Go.Gm
set_option linter.unusedVariables false
set_option linter.unusedSimpArgs false
set_option maxHeartbeats 4000000
set_option maxRecDepth 8000


/-- A function that makes a row and only reads a thing that is owned, called by who only keeps the row's facts. -/
theorem FnG.lendRow {α : Type} {P : Program} {f : FuncId} {args : List PV} {p q : PV} {v : Value} {h : HP} {T sz : Nat} {R : α → List PV} {l : List α} (hc : FnG P f 1 (p :: args) [HP.star []] q (fun v => [rowH T sz R l v])) (hl : Lend h v p) (hfr : ∀ v w f y y', (rowH T sz R l v).p w f y → (rowH T sz R l v).p w f y') : FnG P f 1 (.is v :: args) [h] (.sl R l) (fun _ => [h]) := fun w F vs hw hle hvs hpr => by
  match vs, hvs with
  | u1 :: us, hvs =>
    have e1 : u1 = v := hvs.1.1
    subst e1
    have hh1 := hpr 0 _ rfl
    have hsub : ∀ b, F 0 b → U F b := fun b hb => ⟨0, hb⟩
    have k1 := hl w (F 1) (U F) (F 0) hh1 hsub (fun b h1 h0 => by have := hw.dis 0 1 b h0 h1; omega) (fun b hb => hw.bd 1 b hb)
    have k2 : PVt args us w (F 0) := PVt.mono (Ev.less w hsub) hvs.2
    let F2 : Fp := fun k => if k = 0 then F 0 else fun _ => False
    have hU : U F2 = F 0 := by
      funext b
      refine propext ⟨?_, fun h => ⟨0, by simpa [F2] using h⟩⟩
      rintro ⟨k, hk⟩
      by_cases e : k = 0
      · subst e; simpa [F2] using hk
      · simp [F2, e] at hk
    have h0 : ∀ k b, F2 k b → k = 0 := fun k b hk => by
      by_cases e : k = 0
      · exact e
      · simp [F2, e] at hk
    refine (hc w F2 (u1 :: us) ⟨fun i j b hi hj => by rw [h0 i b hi, h0 j b hj], fun k b hk => by have h9 := h0 k b hk; subst h9; exact hw.bd 0 b (by simpa [F2] using hk)⟩ (fun k b hk => by have := h0 k b hk; omega) (by rw [hU]; exact ⟨k1, k2⟩) (fun i k hi => by
      match i, hi with
      | 0, hi => simp at hi; subst hi; exact fun b hb => by simp [F2] at hb)).mono ?_
    rintro e w' ⟨t, F', rfl, a1, a2, a3, a4, a5⟩
    have hnew := a5 0 _ rfl
    have hfresh : ∀ b, F' 1 b → w.heap.size ≤ b := fun b hb => by
      rcases a2.fnew 1 (by simp) b hb with ⟨k, hk, hkb⟩ | h
      · simp at hk; subst hk; simp [F2] at hkb
      · exact h
    have hk : ∀ b, b < w.heap.size → w'.heap[b]? = w.heap[b]? := fun b hb => a2.keep b hb (fun k hk hkb => by simp at hk; subst hk; simp [F2] at hkb)
    have hev : Ev w (U F) w' (U F) := ⟨a2.os, a2.tape, a2.output, a2.size, fun b hb hn => ⟨hk b hb, hn⟩⟩
    refine ⟨t, F, rfl, ⟨hw.dis, fun n b hb => Nat.lt_of_lt_of_le (hw.bd n b hb) a2.size⟩, ⟨a2.os, a2.tape, a2.output, a2.size, fun b hb _ => hk b hb, fun _ _ => rfl, fun n hn b hb => .inl ⟨n, hn, hb⟩⟩, hle, row_lend w' (F' 1) (fun b => U F b ∨ F' 1 b) (U F) (hfr _ _ _ _ _ hnew) (fun b hb => .inl hb) (fun b hb hbU => by have := hfresh b hb; obtain ⟨k, hkb⟩ := hbU; have := hw.bd k b hkb; omega) (fun b hb => a1.bd 1 b hb), fun i k hi => ?_⟩
    match i, hi with
    | 0, hi => simp at hi; subst hi; exact h.st hev (fun b hb => hk b (hw.bd 1 b hb)) hh1
theorem membersG_c (v : Value) (n : Nat) (q q0 : List PairD) (u : Int)  (hn : n ≤ 4096) (hinn : InN n q) (hql : q.length ≤ 1000000) : FnG Tryd.prog 37 1 [.is v, .int .i64 u] [coH v n q q0] (.sl rInt (memB n q u)) (fun _ => [coH v n q q0]) := FnG.lendRow (members_c n q u hn hinn hql) coH_read (fun _ _ _ _ _ k => rowI_free k)
theorem cadd_lit (b n : Nat) (q q0 : List PairD) (u v : Int) (q' : List PairD) (e : Int) (h : stepQ n q ⟨0, u, v⟩ = (q', e)) (hl : q.length < 1000000) : FnG Tryd.prog 40 1 [.is (.pointer (some ⟨b, 0, none⟩)), .int .i64 u, .int .i64 v] [coH (.pointer (some ⟨b, 0, none⟩)) n q q0] (.int .i64 e) (fun _ => [coH (.pointer (some ⟨b, 0, none⟩)) n q' q0]) := by
  have k := cadd_c b n q q0 u v hl
  rw [h] at k; exact k
theorem cdrop_lit (b n : Nat) (q q0 : List PairD) (u v : Int) (q' : List PairD) (e : Int) (h : stepQ n q ⟨1, u, v⟩ = (q', e)) (hl : q.length < 1000000) : FnG Tryd.prog 55 1 [.is (.pointer (some ⟨b, 0, none⟩)), .int .i64 u, .int .i64 v] [coH (.pointer (some ⟨b, 0, none⟩)) n q q0] (.int .i64 e) (fun _ => [coH (.pointer (some ⟨b, 0, none⟩)) n q' q0]) := by
  have k := cdrop_c b n q q0 u v hl
  rw [h] at k; exact k
theorem cstale_lit (b n : Nat) (q q0 : List PairD) (l : List Int) (h : staleQ n q q0 = l) : FnG Tryd.prog 30 1 [.is (.pointer (some ⟨b, 0, none⟩))] [coH (.pointer (some ⟨b, 0, none⟩)) n q q0] (.sl rInt l) (fun _ => [coH (.pointer (some ⟨b, 0, none⟩)) n q q0]) := by
  have k := cstale_c b n q q0
  rw [h] at k; exact k
theorem free_ib {i : Int} {b : Bool} : Free (.pv (.tup [.int .i64 i, .bool b])) := fun τ w y y' v ⟨vs, e, h⟩ => ⟨vs, e, by
  match vs, h with
  | [a, b], h => exact h⟩

theorem lives25_c  : FnPg Tryd.prog tabP tabV 25 [] (.bool true) := by
  refine FnPg.mk Tryd.func25 rfl Tryd.ntmps25 rfl ?_
  intro B a w F hB hfr hS
  refine wp_seq ?_
  refine region_q hS
    (cF rfl (oN .cb) trivial trivial
    Chain.nil)
    hB ?_
  clear hS; intro a w F hS
  obtain ⟨F, hS⟩ := hS.nm [0] [9, 0] rfl rfl
  refine then_n (wp_seq ?_)
  replace hS := hS.dupG 9 61 rfl rfl
  refine region_q hS
    (cF rfl (o_callNg 61 (conew_c 3) Tryd.func24 rfl (by kernel_rfl) (Args.one (.ci (by kernel_rfl))) PV.ptr_one) trivial r1
    (cF rfl (oN .t) r1 trivial
    Chain.nil))
    hB ?_
  clear hS; intro a w F hS
  replace hS := hS.sub
  obtain ⟨F, hS⟩ := hS.nm [1, 0] [61, 9, 0] rfl rfl
  try dsimp only [RS.sub, SF.sub, CF.sub, csub, Anc.sub, List.map] at hS
  generalize Act.tau a 18 = v18 at hS
  obtain ⟨_, _, _, ho⟩ := hS.obGet 61 rfl
  obtain ⟨b1, rfl⟩ := coH_ptr ho
  clear ho
  replace hS := hS.turn 61 rfl (r' := RS.hp (coH (.pointer (some ⟨b1, 0, none⟩)) (roomN 3) [] [])) (fun _ _ _ _ h => h)
  obtain ⟨F, hS⟩ := hS.nm [1, 0] [61, 9, 0] rfl rfl
  rw [show roomN 3 = 3 from rfl] at hS
  refine then_n (wp_seq (wp_seq ?_))
  refine region_q hS
    (cF rfl (oM .t) r1 trivial
    (cF rfl (o_nil_eql _ Tryd.underlying51 rfl .t) r1 trivial
    Chain.nil))
    hB ?_
  clear hS; intro a w F hS
  obtain ⟨F, hS⟩ := hS.nm [20, 1, 0] [61, 9, 0] rfl rfl
  refine then_n ?_
  refine cond_b hS rfl (fun hc0 => ?_) (fun hc0 => ?_)
  ·skip
   simp at hc0
  refine wp_skip (then_n (wp_seq ?_))
  refine region_q hS
    (cF rfl (oM .t) r1 trivial
    (cF rfl (o_callG1 61 (cadd_lit b1 3 [] [] 0 1 [(⟨0, 1⟩ : PairD)] 0 (by decide +kernel) (by decide)) Tryd.func40 rfl (by kernel_rfl) (Args.three .t (.ci (by kernel_rfl)) (.ci (by kernel_rfl)))) r1 r1
    (cF rfl (oN .t) r1 trivial
    Chain.nil)))
    hB ?_
  clear hS; intro a w F hS
  obtain ⟨F, hS⟩ := hS.nm [2, 1, 0] [61, 9, 0] rfl rfl
  refine then_n (wp_seq ?_)
  refine region_q hS
    (cF rfl (oM .t) r1 trivial
    (cF rfl (o_callG1 61 (cstale_lit b1 3 [(⟨0, 1⟩ : PairD)] [] [] (by decide +kernel)) Tryd.func30 rfl (by kernel_rfl) (Args.one .t)) r1 r1
    (cF rfl (o_len_sl Tryd.underlying30 .t) r1 trivial
    (cF rfl (oN .t) r1 trivial
    Chain.nil))))
    hB ?_
  clear hS; intro a w F hS
  obtain ⟨F, hS⟩ := hS.nm [3, 2, 1, 0] [61, 9, 0] rfl rfl
  refine then_n (wp_seq ?_)
  refine region_q hS
    (cF rfl (oM .t) r1 trivial
    (cF rfl (o_callG1 61 (cadd_lit b1 3 [(⟨0, 1⟩ : PairD)] [] 1 0 [(⟨0, 1⟩ : PairD), (⟨1, 0⟩ : PairD)] 0 (by decide +kernel) (by decide)) Tryd.func40 rfl (by kernel_rfl) (Args.three .t (.ci (by kernel_rfl)) (.ci (by kernel_rfl)))) r1 r1
    (cF rfl (oN .t) r1 trivial
    Chain.nil)))
    hB ?_
  clear hS; intro a w F hS
  obtain ⟨F, hS⟩ := hS.nm [4, 3, 2, 1, 0] [61, 9, 0] rfl rfl
  refine then_n (wp_seq ?_)
  refine region_q hS
    (cF rfl (oM .t) r1 trivial
    (cF rfl (o_callG1 61 (cstale_lit b1 3 [(⟨0, 1⟩ : PairD), (⟨1, 0⟩ : PairD)] [] [0] (by decide +kernel)) Tryd.func30 rfl (by kernel_rfl) (Args.one .t)) r1 r1
    (cF rfl (o_buildSliceE (sz := 1) (zs := [.int .i64 0]) (r := [(0, _)]) (l := [_]) Tryd.underlying30 (by kernel_rfl) (by kernel_rfl) (by kernel_rfl) (by kernel_rfl) rfl rfl (.one rfl (.ci (by kernel_rfl)) one_int (by kernel_rfl) .nil) rfl) trivial trivial
    (cF rfl (oP (sameInts_c [0] [0]) Tryd.func18 (Args.two .t (.conv .t (Ent.arrSl (R := rInt) (l := [0]) rfl)))) r2 trivial
    (cF rfl (oM .t) r1 trivial
    (Chain.cons (Cert.cond rfl rfl (fun h => o_move .t (by rfl))) r2 trivial
    (Chain.cons (Cert.condR rfl rfl (by rfl) (fun h => o_callG1 61 (membersG_c (.pointer (some ⟨b1, 0, none⟩)) 3 [(⟨0, 1⟩ : PairD), (⟨1, 0⟩ : PairD)] [] 1 (by decide) (by intro p hp; revert p; decide) (by decide)) Tryd.func37 rfl (by kernel_rfl) (Args.two (.w h) (.ci (by kernel_rfl))))) r2 r1
    (Chain.cons (Cert.cond rfl rfl (fun h => o_buildSliceE (sz := 1) (zs := [.int .i64 0]) (r := [(0, _), (1, _)]) (l := [_, _]) Tryd.underlying30 (by kernel_rfl) (by kernel_rfl) (by kernel_rfl) (by kernel_rfl) rfl rfl (.one rfl (.ci (by kernel_rfl)) one_int (by kernel_rfl) (.one rfl (.ci (by kernel_rfl)) one_int (by kernel_rfl) .nil)) rfl)) r1 trivial
    (Chain.cons (Cert.cond rfl rfl (fun h => o_callP (sameInts_c (memB 3 [(⟨0, 1⟩ : PairD), (⟨1, 0⟩ : PairD)] 1) [0, 1]) Tryd.func18 rfl (by kernel_rfl) (Args.two (.w h) (.conv (.w h) (Ent.arrSl (R := rInt) (l := [0, 1]) rfl))))) r3 trivial
    (cF rfl (o_and2 .t .t) r2 trivial
    (cF rfl (oM .t) r1 trivial
    (Chain.cons (Cert.cond rfl rfl (fun h => o_move .t (by rfl))) r2 trivial
    (Chain.cons (Cert.cond rfl rfl (fun h => OpC.lend 61 [39] coH_read (oP (cround_c 3 [(⟨0, 1⟩ : PairD), (⟨1, 0⟩ : PairD)] 0) Tryd.func38 (Args.two (.w h) (.ci (by kernel_rfl)))) ⟨rfl, trivial⟩ (.pv (fun _ _ _ _ h => h)) trivial (by rfl))) r2 r1
    (cF rfl (o_and2 .t .t) r2 trivial
    (cF rfl (oM .t) r1 trivial
    (Chain.cons (Cert.cond rfl rfl (fun h => o_move .t (by rfl))) r2 trivial
    (Chain.cons (Cert.cond rfl rfl (fun h => OpC.lend 61 [43] coH_read (oP (cround_c 3 [(⟨0, 1⟩ : PairD), (⟨1, 0⟩ : PairD)] 2) Tryd.func38 (Args.two (.w h) (.ci (by kernel_rfl)))) ⟨rfl, trivial⟩ (.pv (fun _ _ _ _ h => h)) trivial (by rfl))) r2 r1
    (Chain.cons (Cert.cond rfl rfl (fun h => o_not (.w h))) r2 trivial
    (cF rfl (o_and2 .t .t) r2 trivial
    (cF rfl (oN .t) r1 trivial
    Chain.nil))))))))))))))))))))
    hB ?_
  clear hS; intro a w F hS
  obtain ⟨F, hS⟩ := hS.nm [5, 4, 3, 2, 1, 0] [61, 9, 0] rfl rfl
  try dsimp only [List.map, stCells, xL, xM, Nat.reduceAdd, xD, xE, xT, xU, xC, xN, zCF] at hS
  refine then_n (wp_seq ?_)
  refine region_q hS
    (cF rfl (oM .t) r1 trivial
    (cF rfl (OpC.lend 61 [48] coH_read (oP (label_c 3 [(⟨0, 1⟩ : PairD), (⟨1, 0⟩ : PairD)] 1 (by decide) (by intro p hp; revert p; decide) (by decide)) Tryd.func34 (Args.two .t (.ci (by kernel_rfl)))) ⟨rfl, trivial⟩ free_ib trivial (by rfl)) r1 r1
    (cF rfl (oM .t) r1 trivial
    (cF rfl (o_extract .t rfl) r1 trivial
    (cF rfl (o_extract .t rfl) r1 trivial
    (cF rfl (oN .t) r1 trivial
    (cF rfl (oN .t) r1 trivial
    Chain.nil)))))))
    hB ?_
  clear hS; intro a w F hS
  obtain ⟨F, hS⟩ := hS.nm [7, 6, 5, 4, 3, 2, 1, 0] [61, 9, 0] rfl rfl
  refine then_n (wp_seq ?_)
  refine region_q hS
    (cF rfl (oM .t) r1 trivial
    (cF rfl (OpC.lend 61 [53] coH_read (oP (label_c 3 [(⟨0, 1⟩ : PairD), (⟨1, 0⟩ : PairD)] 3 (by decide) (by intro p hp; revert p; decide) (by decide)) Tryd.func34 (Args.two .t (.ci (by kernel_rfl)))) ⟨rfl, trivial⟩ free_ib trivial (by rfl)) r1 r1
    (cF rfl (oM .t) r1 trivial
    (cF rfl (o_extract .t rfl) r1 trivial
    (cF rfl (o_extract .t rfl) r1 trivial
    (cF rfl (oN .t) r1 trivial
    (cF rfl (oN .t) r1 trivial
    Chain.nil)))))))
    hB ?_
  clear hS; intro a w F hS
  obtain ⟨F, hS⟩ := hS.nm [9, 7, 6, 5, 4, 3, 2, 1, 0] [61, 9, 0] rfl rfl
  refine then_n (wp_seq ?_)
  refine region_q hS
    (cF rfl (oM .t) r1 trivial
    (cF rfl (o_callG1 61 (cclean_c b1 3 [(⟨0, 1⟩ : PairD), (⟨1, 0⟩ : PairD)] []) Tryd.func39 rfl (by kernel_rfl) (Args.one .t)) r1 r1
    Chain.nil))
    hB ?_
  clear hS; intro a w F hS
  obtain ⟨F, hS⟩ := hS.nm [9, 7, 6, 5, 4, 3, 2, 1, 0] [61, 9, 0] rfl rfl
  refine then_n (wp_seq ?_)
  refine region_q hS
    (cF rfl (oM .t) r1 trivial
    (cF rfl (o_callG1 61 (cadd_lit b1 3 [(⟨0, 1⟩ : PairD), (⟨1, 0⟩ : PairD)] [(⟨0, 1⟩ : PairD), (⟨1, 0⟩ : PairD)] 0 1 [(⟨0, 1⟩ : PairD), (⟨1, 0⟩ : PairD), (⟨0, 1⟩ : PairD)] 0 (by decide +kernel) (by decide)) Tryd.func40 rfl (by kernel_rfl) (Args.three .t (.ci (by kernel_rfl)) (.ci (by kernel_rfl)))) r1 r1
    (cF rfl (oN .t) r1 trivial
    Chain.nil)))
    hB ?_
  clear hS; intro a w F hS
  obtain ⟨F, hS⟩ := hS.nm [10, 9, 7, 6, 5, 4, 3, 2, 1, 0] [61, 9, 0] rfl rfl
  refine then_n (wp_seq ?_)
  refine region_q hS
    (cF rfl (oM .t) r1 trivial
    (cF rfl (o_callG1 61 (cstale_lit b1 3 [(⟨0, 1⟩ : PairD), (⟨1, 0⟩ : PairD), (⟨0, 1⟩ : PairD)] [(⟨0, 1⟩ : PairD), (⟨1, 0⟩ : PairD)] [] (by decide +kernel)) Tryd.func30 rfl (by kernel_rfl) (Args.one .t)) r1 r1
    (cF rfl (o_len_sl Tryd.underlying30 .t) r1 trivial
    (cF rfl (oN .t) r1 trivial
    Chain.nil))))
    hB ?_
  clear hS; intro a w F hS
  obtain ⟨F, hS⟩ := hS.nm [11, 10, 9, 7, 6, 5, 4, 3, 2, 1, 0] [61, 9, 0] rfl rfl
  refine then_n (wp_seq ?_)
  refine region_q hS
    (cF rfl (oM .t) r1 trivial
    (cF rfl (o_callG1 61 (cdrop_lit b1 3 [(⟨0, 1⟩ : PairD), (⟨1, 0⟩ : PairD), (⟨0, 1⟩ : PairD)] [(⟨0, 1⟩ : PairD), (⟨1, 0⟩ : PairD)] 1 0 [(⟨0, 1⟩ : PairD), (⟨0, 1⟩ : PairD)] 0 (by decide +kernel) (by decide)) Tryd.func55 rfl (by kernel_rfl) (Args.three .t (.ci (by kernel_rfl)) (.ci (by kernel_rfl)))) r1 r1
    (cF rfl (oM .t) r1 trivial
    (cF rfl (o_callG1 61 (cdrop_lit b1 3 [(⟨0, 1⟩ : PairD), (⟨0, 1⟩ : PairD)] [(⟨0, 1⟩ : PairD), (⟨1, 0⟩ : PairD)] 1 0 [(⟨0, 1⟩ : PairD), (⟨0, 1⟩ : PairD)] 3 (by decide +kernel) (by decide)) Tryd.func55 rfl (by kernel_rfl) (Args.three .t (.ci (by kernel_rfl)) (.ci (by kernel_rfl)))) r1 r1
    (cF rfl (oM .t) r1 trivial
    (cF rfl (o_callG1 61 (cadd_lit b1 3 [(⟨0, 1⟩ : PairD), (⟨0, 1⟩ : PairD)] [(⟨0, 1⟩ : PairD), (⟨1, 0⟩ : PairD)] 0 3 [(⟨0, 1⟩ : PairD), (⟨0, 1⟩ : PairD)] 1 (by decide +kernel) (by decide)) Tryd.func40 rfl (by kernel_rfl) (Args.three .t (.ci (by kernel_rfl)) (.ci (by kernel_rfl)))) r1 r1
    (cF rfl (oN .t) r1 trivial
    (cF rfl (oN .t) r1 trivial
    (cF rfl (oN .t) r1 trivial
    Chain.nil)))))))))
    hB ?_
  clear hS; intro a w F hS
  obtain ⟨F, hS⟩ := hS.nm [14, 13, 12, 11, 10, 9, 7, 6, 5, 4, 3, 2, 1, 0] [61, 9, 0] rfl rfl
  refine then_n (wp_seq ?_)
  refine region_q hS
    (cF rfl (oN (.c rfl)) trivial trivial
    Chain.nil)
    hB ?_
  clear hS; intro a w F hS
  obtain ⟨F, hS⟩ := hS.nm [15, 14, 13, 12, 11, 10, 9, 7, 6, 5, 4, 3, 2, 1, 0] [61, 9, 0] rfl rfl
  refine then_n (wp_seq ?_)
  refine region_q hS
    (cF rfl (oM .t) r1 trivial
    (cF rfl (oP (cclean_nil) Tryd.func39 (Args.one .t)) r1 trivial
    Chain.nil))
    hB ?_
  clear hS; intro a w F hS
  obtain ⟨F, hS⟩ := hS.nm [15, 14, 13, 12, 11, 10, 9, 7, 6, 5, 4, 3, 2, 1, 0] [61, 9, 0] rfl rfl
  refine then_n (wp_seq ?_)
  refine region_q hS
    (cF rfl (oM .t) r1 trivial
    (cF rfl (oP (label_nil 0) Tryd.func34 (Args.two .t (.ci (by kernel_rfl)))) r1 trivial
    (cF rfl (oM .t) r1 trivial
    (cF rfl (o_extract .t rfl) r1 trivial
    (cF rfl (o_extract .t rfl) r1 trivial
    (cF rfl (oN .t) r1 trivial
    (cF rfl (oN .t) r1 trivial
    Chain.nil)))))))
    hB ?_
  clear hS; intro a w F hS
  obtain ⟨F, hS⟩ := hS.nm [17, 15, 14, 13, 12, 11, 10, 9, 7, 6, 5, 4, 3, 2, 1, 0] [61, 9, 0] rfl rfl
  refine then_n (wp_seq ?_)
  refine region_seqN hS (by kernel_rfl)
    (cG rfl (oM .t) r1 trivial
    (cG rfl (o_eql .t (.ci (by kernel_rfl))) r1 trivial
    (cG rfl (oM .t) r1 trivial
    (ChainN.cons (Cert.cond rfl rfl (fun h => o_move .t (by rfl))) r2 trivial
    (ChainN.cons (Cert.cond rfl rfl (fun h => o_eql (.w h) (.ci (by kernel_rfl)))) r2 trivial
    (cG rfl (o_and2 .t .t) r2 trivial
    (cG rfl (oM .t) r1 trivial
    (ChainN.cons (Cert.cond rfl rfl (fun h => o_move .t (by rfl))) r2 trivial
    (ChainN.cons (Cert.cond rfl rfl (fun h => o_eql (.w h) (.ci (by kernel_rfl)))) r2 trivial
    (cG rfl (o_and2 .t .t) r2 trivial
    (cG rfl (oM .t) r1 trivial
    (ChainN.cons (Cert.cond rfl rfl (fun h => o_move .t (by rfl))) r2 trivial
    (cG rfl (o_and2 .t .t) r2 trivial
    (cG rfl (oM .t) r1 trivial
    (ChainN.cons (Cert.cond rfl rfl (fun h => o_move .t (by rfl))) r2 trivial
    (ChainN.cons (Cert.cond rfl rfl (fun h => o_eql (.w h) (.ci (by kernel_rfl)))) r2 trivial
    (cG rfl (o_and2 .t .t) r2 trivial
    (cG rfl (oM .t) r1 trivial
    (ChainN.cons (Cert.cond rfl rfl (fun h => o_move .t (by rfl))) r2 trivial
    (cG rfl (o_and2 .t .t) r2 trivial
    (cG rfl (oM .t) r1 trivial
    (ChainN.cons (Cert.cond rfl rfl (fun h => o_move .t (by rfl))) r2 trivial
    (ChainN.cons (Cert.cond rfl rfl (fun h => o_not (.w h))) r2 trivial
    (cG rfl (o_and2 .t .t) r2 trivial
    (ChainN.norm [(0, _), (1, _), (10, _), (11, _), (12, _), (13, _), (14, _), (15, _), (17, _), (100, _)] [(0, _), (9, _), (61, _)] ⟨rfl, rfl, rfl, rfl, rfl, rfl, rfl, rfl, rfl, rfl, trivial⟩ r3
    (cG rfl (oM .t) r1 trivial
    (ChainN.cons (Cert.cond rfl rfl (fun h => o_move .t (by rfl))) r2 trivial
    (ChainN.cons (Cert.cond rfl rfl (fun h => o_eql (.w h) (.ci (by kernel_rfl)))) r2 trivial
    (cG rfl (o_and2 .t .t) r2 trivial
    (cG rfl (oM .t) r1 trivial
    (ChainN.cons (Cert.cond rfl rfl (fun h => o_move .t (by rfl))) r2 trivial
    (ChainN.cons (Cert.cond rfl rfl (fun h => o_eql (.w h) (.ci (by kernel_rfl)))) r2 trivial
    (cG rfl (o_and2 .t .t) r2 trivial
    (cG rfl (oM .t) r1 trivial
    (ChainN.cons (Cert.cond rfl rfl (fun h => o_move .t (by rfl))) r2 trivial
    (ChainN.cons (Cert.cond rfl rfl (fun h => o_eql (.w h) (.ci (by kernel_rfl)))) r2 trivial
    (cG rfl (o_and2 .t .t) r2 trivial
    (cG rfl (oM .t) r1 trivial
    (ChainN.cons (Cert.cond rfl rfl (fun h => o_move .t (by rfl))) r2 trivial
    (ChainN.cons (Cert.cond rfl rfl (fun h => o_eql (.w h) (.ci (by kernel_rfl)))) r2 trivial
    (cG rfl (o_and2 .t .t) r2 trivial
    (cG rfl (oM .t) r1 trivial
    (ChainN.cons (Cert.cond rfl rfl (fun h => o_move .t (by rfl))) r2 trivial
    (ChainN.cons (Cert.cond rfl rfl (fun h => o_eql (.w h) (.ci (by kernel_rfl)))) r2 trivial
    (cG rfl (o_and2 .t .t) r2 trivial
    (cG rfl (oM .t) r1 trivial
    (ChainN.cons (Cert.cond rfl rfl (fun h => o_move .t (by rfl))) r2 trivial
    (ChainN.cons (Cert.condR rfl rfl (by rfl) (fun h => o_callG1 61 (cstale_lit b1 3 [(⟨0, 1⟩ : PairD), (⟨0, 1⟩ : PairD)] [(⟨0, 1⟩ : PairD), (⟨1, 0⟩ : PairD)] [0, 1] (by decide +kernel)) Tryd.func30 rfl (by kernel_rfl) (Args.one (.w h)))) r2 r1
    (ChainN.cons (Cert.cond rfl rfl (fun h => o_buildSliceE (sz := 1) (zs := [.int .i64 0]) (r := [(0, _), (1, _)]) (l := [_, _]) Tryd.underlying30 (by kernel_rfl) (by kernel_rfl) (by kernel_rfl) (by kernel_rfl) rfl rfl (.one rfl (.ci (by kernel_rfl)) one_int (by kernel_rfl) (.one rfl (.ci (by kernel_rfl)) one_int (by kernel_rfl) .nil)) rfl)) r1 trivial
    (ChainN.norm [(0, _), (1, _), (15, _), (17, _), (121, _), (123, _), (124, _)] [(0, _), (9, _), (61, _)] r7 r3
    (ChainN.cons (Cert.cond rfl rfl (fun h => o_callP (sameInts_c [0, 1] [0, 1]) Tryd.func18 rfl (by kernel_rfl) (Args.two (.w h) (.conv (.w h) (Ent.arrSl (R := rInt) (l := [0, 1]) rfl))))) r3 trivial
    (cG rfl (o_and2 .t .t) r2 trivial
    (cG rfl (oM .t) r1 trivial
    (ChainN.cons (Cert.cond rfl rfl (fun h => o_move .t (by rfl))) r2 trivial
    (ChainN.cons (Cert.cond rfl rfl (fun h => OpC.lend 61 [128] coH_read (oP (coNodes_c 3 [(⟨0, 1⟩ : PairD), (⟨0, 1⟩ : PairD)]) Tryd.func29 (Args.one (.w h))) ⟨rfl, trivial⟩ (.pv (fun _ _ _ _ h => h)) trivial (by rfl))) r2 r1
    (ChainN.cons (Cert.cond rfl rfl (fun h => o_eql (.w h) (.ci (by kernel_rfl)))) r2 trivial
    (cG rfl (o_and2 .t .t) r2 trivial
    (cG rfl (oM .t) r1 trivial
    (ChainN.cons (Cert.cond rfl rfl (fun h => o_move .t (by rfl))) r2 trivial
    (ChainN.cons (Cert.cond rfl rfl (fun h => o_not (.w h))) r2 trivial
    (cG rfl (o_and2 .t .t) r2 trivial
    (cG rfl (oM .t) r1 trivial
    (ChainN.cons (Cert.cond rfl rfl (fun h => o_move .t (by rfl))) r2 trivial
    (ChainN.cons (Cert.cond rfl rfl (fun h => o_callP (coNodes_nil) Tryd.func29 rfl (by kernel_rfl) (Args.one (.w h)))) r2 trivial
    (ChainN.cons (Cert.cond rfl rfl (fun h => o_eql (.w h) (.ci (by kernel_rfl)))) r2 trivial
    (cG rfl (o_and2 .t .t) r2 trivial
    (cG rfl (oM .t) r1 trivial
    (ChainN.cons (Cert.cond rfl rfl (fun h => o_move .t (by rfl))) r2 trivial
    (ChainN.cons (Cert.cond rfl rfl (fun h => o_callP (cstale_nil) Tryd.func30 rfl (by kernel_rfl) (Args.one (.w h)))) r2 trivial
    (ChainN.cons (Cert.cond rfl rfl (fun h => o_len_sl Tryd.underlying30 (.w h))) r2 trivial
    (ChainN.cons (Cert.cond rfl rfl (fun h => o_eql (.w h) (.ci (by kernel_rfl)))) r2 trivial
    (cG rfl (o_and2 .t .t) r2 trivial
    (cG rfl (oM .t) r1 trivial
    (ChainN.cons (Cert.cond rfl rfl (fun h => o_move .t (by rfl))) r2 trivial
    (ChainN.norm [(0, _), (147, _), (148, _)] [(0, _), (9, _), (61, _)] r3 r3
    (ChainN.cons (Cert.cond rfl rfl (fun h => o_callP (cadd_nil 0 0) Tryd.func40 rfl (by kernel_rfl) (Args.three (.w h) (.ci (by kernel_rfl)) (.ci (by kernel_rfl))))) r2 trivial
    (ChainN.cons (Cert.cond rfl rfl (fun h => o_eql (.w h) (.ci (by kernel_rfl)))) r2 trivial
    (cG rfl (o_and2 .t .t) r2 trivial
    (cG rfl (oN .t) r1 trivial
    ChainN.nil)))))))))))))))))))))))))))))))))))))))))))))))))))))))))))))))))))))))))))))))
    (by kernel_rfl) (by rw [hB]; kernel_rfl) ?_
  clear hS; intro a w F hS
  obtain ⟨F, hS⟩ := hS.nm [0] [61, 9, 0] rfl rfl
  try dsimp only [List.map, stCells, xL, xM, Nat.reduceAdd, xD, xE, xT, xU, xC, xN, zCF] at hS
  refine then_n (wp_ret ?_)
  refine ret_P hfr hS rfl (.tmp rfl .nil) (.one (.bool (by decide +kernel)))

end Go.Proofs.YtpahapjcdldodaaDoor
