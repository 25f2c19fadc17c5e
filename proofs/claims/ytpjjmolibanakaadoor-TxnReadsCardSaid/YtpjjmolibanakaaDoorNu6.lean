/- strings.Builder. No condition beyond those that each theorem says. -/
import Derived.Test.YtpjjmolibanakaaDoorNu5
import Derived.Test.YtpjjmolibanakaaDoorLibW
namespace Go.Proofs.YtpjjmolibanakaaDoor
open Go Go.Gm
set_option linter.unusedVariables false
set_option linter.unusedSimpArgs false
set_option maxHeartbeats 4000000
set_option maxRecDepth 8000

def bH (v ad : Value) (l : List UInt8) : HP := .ex fun rv => .and (l = [] → rv = .slice none 0 0) (.star [.pt (.val v) 52 [.pv (.is ad), .pv (.is rv)], .ob (.val rv) (rowH 5 1 rC l)])
def builderH (v : Value) (l : List UInt8) : HP := .ex fun ad => .and (ad = .pointer none ∨ ad = v) (bH v ad l)
theorem FnG.cases {P : Program} {f : FuncId} {args : List PV} {h h1 h2 : HP} {q : PV} {qr : Value → List HP} (hh : ∀ w fb y, h.p w fb y → h1.p w fb y ∨ h2.p w fb y) (k1 : FnG P f 1 args [h1] q qr) (k2 : FnG P f 1 args [h2] q qr) : FnG P f 1 args [h] q qr := fun w F vs hw hle hvs hpr => by
  rcases hh w (F 1) (U F) (hpr 0 h rfl) with hx | hx
  · exact k1 w F vs hw hle hvs (fun i h' hi => by
      match i, hi with
      | 0, hi => simp at hi; subst hi; exact hx)
  · exact k2 w F vs hw hle hvs (fun i h' hi => by
      match i, hi with
      | 0, hi => simp at hi; subst hi; exact hx)
theorem builderH_cases {v : Value} {l : List UInt8} (w : World) (fb y : Ys) (h : (builderH v l).p w fb y) : (bH v (.pointer none) l).p w fb y ∨ (bH v v l).p w fb y := by
  obtain ⟨ad, h1, h2⟩ := h
  rcases h1 with rfl | rfl
  · exact .inl h2
  · exact .inr h2
theorem copy0 (b : Nat) (l : List UInt8) : FnG Tryd.prog 33 1 [.is (.pointer (some ⟨b, 0, none⟩))] [bH (.pointer (some ⟨b, 0, none⟩)) (.pointer none) l] (.any) (fun _ => [bH (.pointer (some ⟨b, 0, none⟩)) (.pointer (some ⟨b, 0, none⟩)) l]) := by
  refine FnG.mk Tryd.func33 rfl Tryd.ntmps33 rfl (by kernel_rfl) ?_
  intro B F0 a w F hB hG hS
  obtain ⟨rv, hS⟩ := hS.open_ex 1 rfl
  obtain ⟨hI, hS⟩ := hS.open_and 1 rfl
  obtain ⟨F, hS⟩ := hS.peel 1 2 rfl rfl
  obtain ⟨F, hS⟩ := hS.peel 1 3 rfl rfl
  obtain ⟨F, hS⟩ := hS.nm [0] [3, 2, 0] rfl rfl
  refine wp_seq ?_
  refine region_q hS
    (cF rfl (oM .t) r1 trivial
    (cF rfl (o_nilCheck 2 .is (by rfl)) r1 r1
    (cF rfl (oF 0 2 .adr) r1 r1
    (cF rfl (oL false 1 2 .adr) r1 r1
    (cF rfl (o_nil_eql _ Tryd.underlying49 rfl .t) r1 trivial
    Chain.nil)))))
    hB ?_
  clear hS; intro a w F hS
  obtain ⟨F, hS⟩ := hS.nm [6, 0] [3, 2, 0] rfl rfl
  try dsimp only [List.map, xD, xE, xT, xU, ldSF] at hS
  refine then_n ?_
  refine cond_b hS rfl (fun hc0 => ?_) (fun hc0 => ?_)
  ·skip
   refine region_q hS
     (cF rfl (oM .t) r1 trivial
     (cF rfl (oM .t) r1 trivial
     (cF rfl (o_conv_unsafe 2 Tryd.underlying49 Tryd.underlying86 (by kernel_rfl) (by kernel_rfl) .t) r1 r1
     (cF rfl (o_noEscape Tryd.func42 (by kernel_rfl) (by kernel_rfl) (by kernel_rfl) (by kernel_rfl) .t) r1 trivial
     (cF rfl (o_conv_safe 2 Tryd.underlying86 Tryd.underlying49 (by kernel_rfl) (by kernel_rfl) .t) r1 r1
     (cF rfl (o_nilCheck 2 .is (by rfl)) r1 r1
     (cF rfl (oF 0 2 .adr) r1 r1
     (cF rfl (o_store1 2 .adr .t one_is (by kernel_rfl) (by kernel_rfl)) r2 r1
     Chain.nil))))))))
     hB ?_
   clear hS; intro a w F hS
   obtain ⟨F, hS⟩ := hS.nm [] [3, 2, 0] rfl rfl
   try dsimp only [List.map, stCells, xL, xM, Nat.reduceAdd, xD, xE, xT, xU, xC, xN, zCF] at hS
   have hS := hS.fresh 1 rfl
   obtain ⟨F, hS⟩ := hS.push 1 3 rfl rfl rfl (by kernel_rfl)
   obtain ⟨F, hS⟩ := hS.push 1 2 rfl rfl rfl (by kernel_rfl)
   have hS := hS.turn 1 rfl (r' := RS.hp (bH (.pointer (some ⟨b, 0, none⟩)) (.pointer (some ⟨b, 0, none⟩)) l)) (fun _ _ _ _ h => ⟨_, hI, h⟩)
   refine ret_G1 hG hS rfl .nil Tells.any rfl
  simp at hc0

theorem copy1 (b : Nat) (l : List UInt8) : FnG Tryd.prog 33 1 [.is (.pointer (some ⟨b, 0, none⟩))] [bH (.pointer (some ⟨b, 0, none⟩)) (.pointer (some ⟨b, 0, none⟩)) l] (.any) (fun _ => [bH (.pointer (some ⟨b, 0, none⟩)) (.pointer (some ⟨b, 0, none⟩)) l]) := by
  refine FnG.mk Tryd.func33 rfl Tryd.ntmps33 rfl (by kernel_rfl) ?_
  intro B F0 a w F hB hG hS
  obtain ⟨rv, hS⟩ := hS.open_ex 1 rfl
  obtain ⟨hI, hS⟩ := hS.open_and 1 rfl
  obtain ⟨F, hS⟩ := hS.peel 1 2 rfl rfl
  obtain ⟨F, hS⟩ := hS.peel 1 3 rfl rfl
  obtain ⟨F, hS⟩ := hS.nm [0] [3, 2, 0] rfl rfl
  refine wp_seq ?_
  refine region_q hS
    (cF rfl (oM .t) r1 trivial
    (cF rfl (o_nilCheck 2 .is (by rfl)) r1 r1
    (cF rfl (oF 0 2 .adr) r1 r1
    (cF rfl (oL false 1 2 .adr) r1 r1
    (cF rfl (o_nil_eql _ Tryd.underlying49 rfl .t) r1 trivial
    Chain.nil)))))
    hB ?_
  clear hS; intro a w F hS
  obtain ⟨F, hS⟩ := hS.nm [6, 0] [3, 2, 0] rfl rfl
  try dsimp only [List.map, xD, xE, xT, xU, ldSF] at hS
  refine then_n ?_
  refine cond_b hS rfl (fun hc0 => ?_) (fun hc0 => ?_)
  ·skip
   simp at hc0
  refine wp_seq ?_
  refine region_q hS
    (cF rfl (oM .t) r1 trivial
    (cF rfl (o_nilCheck 2 .is (by rfl)) r1 r1
    (cF rfl (oF 0 2 .adr) r1 r1
    (cF rfl (oL false 1 2 .adr) r1 r1
    (cF rfl (oM .t) r1 trivial
    (cF rfl (o_neq_same Tryd.underlying49 (by kernel_rfl) .t .t) r2 trivial
    Chain.nil))))))
    hB ?_
  clear hS; intro a w F hS
  obtain ⟨F, hS⟩ := hS.nm [19] [3, 2, 0] rfl rfl
  try dsimp only [List.map, xD, xE, xT, xU, ldSF] at hS
  refine then_n ?_
  refine cond_b hS rfl (fun hc1 => ?_) (fun hc1 => ?_)
  ·skip
   simp at hc1
  refine wp_skip ?_
  have hS := hS.fresh 1 rfl
  obtain ⟨F, hS⟩ := hS.push 1 3 rfl rfl rfl (by kernel_rfl)
  obtain ⟨F, hS⟩ := hS.push 1 2 rfl rfl rfl (by kernel_rfl)
  have hS := hS.turn 1 rfl (r' := RS.hp (bH (.pointer (some ⟨b, 0, none⟩)) (.pointer (some ⟨b, 0, none⟩)) l)) (fun _ _ _ _ h => ⟨_, hI, h⟩)
  refine ret_G1 hG hS rfl .nil Tells.any rfl

theorem copy_c (b : Nat) (l : List UInt8) : FnG Tryd.prog 33 1 [.is (.pointer (some ⟨b, 0, none⟩))] [builderH (.pointer (some ⟨b, 0, none⟩)) l] .any (fun _ => [bH (.pointer (some ⟨b, 0, none⟩)) (.pointer (some ⟨b, 0, none⟩)) l]) := FnG.cases builderH_cases (copy0 b l) (copy1 b l)

theorem writeString_c (b : Nat) (l : List UInt8) (hl : l.length ≤ 1000000000) (x : List UInt8) (hx : x ≠ []) (hxl : x.length ≤ 1000000000) : FnG Tryd.prog 18 1 [.is (.pointer (some ⟨b, 0, none⟩)), .bs x] [builderH (.pointer (some ⟨b, 0, none⟩)) l] (.any) (fun _ => [bH (.pointer (some ⟨b, 0, none⟩)) (.pointer (some ⟨b, 0, none⟩)) (l ++ x)]) := by
  refine FnG.mk Tryd.func18 rfl Tryd.ntmps18 rfl (by kernel_rfl) ?_
  intro B F0 a w F hB hG hS
  refine wp_seq ?_
  refine region_q hS
    (cF rfl (oN (.ci (by kernel_rfl))) trivial trivial
    (cF rfl (oN (.c rfl)) trivial trivial
    Chain.nil))
    hB ?_
  clear hS; intro a w F hS
  obtain ⟨F, hS⟩ := hS.nm [5, 4, 1, 0] [1, 0] rfl rfl
  refine then_n (wp_seq ?_)
  refine region_q hS
    (cF rfl (oM .t) r1 trivial
    (cF rfl (o_callG1 1 (copy_c b l) Tryd.func33 rfl (by kernel_rfl) (Args.one .t)) r1 r1
    Chain.nil))
    hB ?_
  clear hS; intro a w F hS
  obtain ⟨F, hS⟩ := hS.nm [5, 4, 1, 0] [1, 0] rfl rfl
  obtain ⟨rv, hS⟩ := hS.open_ex 1 rfl
  obtain ⟨hI, hS⟩ := hS.open_and 1 rfl
  obtain ⟨F, hS⟩ := hS.peel 1 2 rfl rfl
  obtain ⟨F, hS⟩ := hS.peel 1 3 rfl rfl
  obtain ⟨F, hS⟩ := hS.nm [5, 4, 1, 0] [3, 2, 0] rfl rfl
  refine then_n (wp_seq ?_)
  refine region_q hS
    (cF rfl (oM .t) r1 trivial
    (cF rfl (oM .t) r1 trivial
    (cF rfl (o_nilCheck 2 .is (by rfl)) r1 r1
    (cF rfl (oF 1 2 .adr) r1 r1
    (cF rfl (oL false 1 2 .adr) r1 r1
    (cF rfl (oM .t) r1 trivial
    (cF rfl (o_append_str 3 Tryd.underlying50 Tryd.underlying9 (by kernel_rfl) .is .t (by omega)) ⟨rfl, rfl, trivial⟩ ⟨rfl, trivial⟩
    (cF rfl (o_nilCheck 2 .is (by rfl)) r1 r1
    (cF rfl (oF 1 2 .adr) r1 r1
    (cF rfl (o_storeS 2 .adr (by kernel_rfl) (by kernel_rfl)) r2 r1
    Chain.nil))))))))))
    hB ?_
  clear hS; intro a w F hS
  replace hS := hS.sub
  obtain ⟨F, hS⟩ := hS.nm [5, 4, 1] [3, 2, 0] rfl rfl
  try dsimp only [RS.sub, SF.sub, CF.sub, csub, Anc.sub, List.map, stCells, xL, xM, Nat.reduceAdd, xD, xE, xT, xU, xC, xN, zCF, ldSF] at hS
  generalize Act.tau a 14 = v14 at hS
  refine then_n (wp_seq ?_)
  refine region_q hS
    (cF rfl (oM .t) r1 trivial
    (cF rfl (o_len_bs Tryd.underlying9 .t) r1 trivial
    (cF rfl (oN .t) r1 trivial
    (cF rfl (oN (.c rfl)) trivial trivial
    Chain.nil))))
    hB ?_
  clear hS; intro a w F hS
  obtain ⟨F, hS⟩ := hS.nm [5, 4] [3, 2, 0] rfl rfl
  refine then_n (wp_ret ?_)
  have hS := hS.fresh 1 rfl
  obtain ⟨F, hS⟩ := hS.push 1 3 rfl rfl rfl (by kernel_rfl)
  obtain ⟨F, hS⟩ := hS.push 1 2 rfl rfl rfl (by kernel_rfl)
  have hS := hS.turn 1 rfl (r' := RS.hp (bH (.pointer (some ⟨b, 0, none⟩)) (.pointer (some ⟨b, 0, none⟩)) (l ++ x))) (fun _ _ _ _ h => ⟨_, (by intro hh; exact absurd (List.append_eq_nil_iff.1 hh).2 hx), h⟩)
  refine ret_G1 hG hS rfl (.tmp rfl (.tmp rfl .nil)) Tells.any rfl

theorem string0 (b : Nat) : FnG Tryd.prog 21 1 [.is (.pointer (some ⟨b, 0, none⟩))] [builderH (.pointer (some ⟨b, 0, none⟩)) []] (.bs []) (fun _ => [HP.star []]) := by
  refine FnG.mk Tryd.func21 rfl Tryd.ntmps21 rfl (by kernel_rfl) ?_
  intro B F0 a w F hB hG hS
  obtain ⟨ad, hS⟩ := hS.open_ex 1 rfl
  obtain ⟨hA, hS⟩ := hS.open_and 1 rfl
  obtain ⟨rv, hS⟩ := hS.open_ex 1 rfl
  obtain ⟨hI, hS⟩ := hS.open_and 1 rfl
  obtain rfl := hI rfl
  obtain ⟨F, hS⟩ := hS.peel 1 2 rfl rfl
  obtain ⟨F, hS⟩ := hS.peel 1 3 rfl rfl
  obtain ⟨F, hS⟩ := hS.nm [0] [3, 2, 0] rfl rfl
  refine wp_seq ?_
  refine region_q hS
    (cF rfl (oN (.cs (by kernel_rfl))) trivial trivial
    Chain.nil)
    hB ?_
  clear hS; intro a w F hS
  obtain ⟨F, hS⟩ := hS.nm [2, 0] [3, 2, 0] rfl rfl
  refine then_n (wp_seq ?_)
  refine region_any (by kernel_rfl) hS (by kernel_rfl)
    (cF rfl (oM .t) r1 trivial
    (cF rfl (o_nilCheck 2 .is (by rfl)) r1 r1
    (cF rfl (oF 1 2 .adr) r1 r1
    (cF rfl (oL false 1 2 .adr) r1 r1
    (cF rfl (o_sliceData_nil .t) r1 trivial
    (cF rfl (oM .t) r1 trivial
    (cF rfl (o_nilCheck 2 .is (by rfl)) r1 r1
    (cF rfl (oF 1 2 .adr) r1 r1
    (cF rfl (oL false 1 2 .adr) r1 r1
    (cF rfl (o_len_row 3 Tryd.underlying50 .is) r1 r1
    (cF rfl (o_unsafeString_nil .t .t) r2 trivial
    (cF rfl (oN .t) r1 trivial
    Chain.nil))))))))))))
    (by kernel_rfl) (by rw [hB]; kernel_rfl) ?_
  clear hS; intro a w F hS
  obtain ⟨F, hS⟩ := hS.nm [2] [3, 2, 0] rfl rfl
  try dsimp only [List.map, xD, xE, xT, xU, ldSF] at hS
  refine then_n (wp_ret ?_)
  have hS := hS.fresh 1 rfl
  refine ret_G1 (h' := HP.star []) hG hS rfl (.tmp rfl .nil) (.one .refl) rfl

theorem string1 (b : Nat) (l : List UInt8) (hne : l ≠ []) : FnG Tryd.prog 21 1 [.is (.pointer (some ⟨b, 0, none⟩))] [builderH (.pointer (some ⟨b, 0, none⟩)) l] (.bs l) (fun _ => [HP.star []]) := by
  refine FnG.mk Tryd.func21 rfl Tryd.ntmps21 rfl (by kernel_rfl) ?_
  intro B F0 a w F hB hG hS
  obtain ⟨ad, hS⟩ := hS.open_ex 1 rfl
  obtain ⟨hA, hS⟩ := hS.open_and 1 rfl
  obtain ⟨rv, hS⟩ := hS.open_ex 1 rfl
  obtain ⟨hI, hS⟩ := hS.open_and 1 rfl
  obtain ⟨F, hS⟩ := hS.peel 1 2 rfl rfl
  obtain ⟨F, hS⟩ := hS.peel 1 3 rfl rfl
  obtain ⟨F, hS⟩ := hS.nm [0] [3, 2, 0] rfl rfl
  refine wp_seq ?_
  refine region_q hS
    (cF rfl (oN (.cs (by kernel_rfl))) trivial trivial
    Chain.nil)
    hB ?_
  clear hS; intro a w F hS
  obtain ⟨F, hS⟩ := hS.nm [2, 0] [3, 2, 0] rfl rfl
  refine then_n (wp_seq ?_)
  refine region_any (by kernel_rfl) hS (by kernel_rfl)
    (cF rfl (oM .t) r1 trivial
    (cF rfl (o_nilCheck 2 .is (by rfl)) r1 r1
    (cF rfl (oF 1 2 .adr) r1 r1
    (cF rfl (oL false 1 2 .adr) r1 r1
    (cF rfl (o_sliceData 3 hne .is (by rfl)) r1 r1
    (cF rfl (oM .t) r1 trivial
    (cF rfl (o_nilCheck 2 .is (by rfl)) r1 r1
    (cF rfl (oF 1 2 .adr) r1 r1
    (cF rfl (oL false 1 2 .adr) r1 r1
    (cF rfl (o_len_row 3 Tryd.underlying50 .is) r1 r1
    (cF rfl (o_unsafeString 3 Tryd.underlying77 (by kernel_rfl) hne .t) r2 r1
    (cF rfl (oN .t) r1 trivial
    Chain.nil))))))))))))
    (by kernel_rfl) (by rw [hB]; kernel_rfl) ?_
  clear hS; intro a w F hS
  obtain ⟨F, hS⟩ := hS.nm [2] [3, 2, 0] rfl rfl
  try dsimp only [List.map, xD, xE, xT, xU, ldSF] at hS
  refine then_n (wp_ret ?_)
  have hS := hS.fresh 1 rfl
  refine ret_G1 (h' := HP.star []) hG hS rfl (.tmp rfl .nil) (.one .refl) rfl

theorem string_c (b : Nat) (l : List UInt8) : FnG Tryd.prog 21 1 [.is (.pointer (some ⟨b, 0, none⟩))] [builderH (.pointer (some ⟨b, 0, none⟩)) l] (.bs l) (fun _ => [HP.star []]) := by
  by_cases h : l = []
  · subst h; exact string0 b
  · exact string1 b l h

end Go.Proofs.YtpjjmolibanakaaDoor
