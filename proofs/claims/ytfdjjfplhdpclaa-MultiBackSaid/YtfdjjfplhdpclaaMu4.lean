/- Bags: Count, Len. No condition beyond those that each theorem says. -/
import Derived.Test.YtfdjjfplhdpclaaMu3
namespace Go.Proofs.Ytfdjjfplhdpclaa
open Go Go.Gm
set_option linter.unusedVariables false
set_option linter.unusedSimpArgs false
set_option maxHeartbeats 4000000
set_option maxRecDepth 8000


structure MuS where
  cv : Value
  ov : Value
  iv : Value
  es : List (GE Int Int)
  ck : Nat
abbrev outF (B : List HvD) (j : Int) : List Int := numsOf (fun e => decide (e.src = j)) B
abbrev inF (B : List HvD) (j : Int) : List Int := numsOf (fun e => decide (e.dst = j)) B
structure MuOk (B : List HvD) (s : MuS) : Prop where
  bag : BagOk B
  cnt : CntM s.es B
  len : B.length ≤ 100000
def mulH (v : Value) (B : List HvD) : HP := .ex fun s : MuS => .and (MuOk B s) (.star [.pt (.val v) 55 [.pv (.is s.cv), .pv (.is s.ov), .pv (.is s.iv)], .ob (.val s.cv) (MP1 s.es s.ck), RS.hp (rowsH s.ov (outF B)), RS.hp (rowsH s.iv (inF B))])
theorem mulH_ptr {v : Value} {B : List HvD} {w : World} {f y : Ys} (h : (mulH v B).p w f y) : ∃ b, v = .pointer (some ⟨b, 0, none⟩) := by
  obtain ⟨s, _, h⟩ := h
  exact HP.star_pt h
theorem mulH_ok {v : Value} {B : List HvD} {w : World} {f y : Ys} (h : (mulH v B).p w f y) : BagOk B ∧ B.length ≤ 100000 := by
  obtain ⟨s, hk, _⟩ := h
  exact ⟨hk.bag, hk.len⟩
theorem outF_put {B : List HvD} (h : BagOk B) {e : EdgeD} (he : rightB e = true) {n : Int} (hn : 0 ≤ n ∧ n ≤ 2147483647) : setF (outF B) e.src (edgeN e) (decide (0 < n)) = outF (putB B e n) := funext fun j => by
  unfold setF outF
  rw [nums_put h he hn]
  by_cases hj : j = e.src
  · subst hj; simp
  · rw [if_neg hj, if_neg (by simpa using fun h => hj h.symm)]
theorem inF_put {B : List HvD} (h : BagOk B) {e : EdgeD} (he : rightB e = true) {n : Int} (hn : 0 ≤ n ∧ n ≤ 2147483647) : setF (inF B) e.dst (edgeN e) (decide (0 < n)) = inF (putB B e n) := funext fun j => by
  unfold setF inF
  rw [nums_put h he hn]
  by_cases hj : j = e.dst
  · subst hj; simp
  · rw [if_neg hj, if_neg (by simpa using fun h => hj h.symm)]
theorem wrap_i32' {x : Int} (h : -2147483648 ≤ x ∧ x ≤ 2147483647) : IntKind.wrap .i32 x = x := wrap_id ⟨by simp [IntKind.min, IntKind.signed, IntKind.bits]; omega, by simp [IntKind.max, IntKind.signed, IntKind.bits]; omega⟩
theorem rows_nil {v : Value} {τ : Tau} {w : World} {f y : Ys} (h : (RS.hp (.star [.ob (.val v) (MP2 [] 0), famG 49 1 rU64 ([] : List (GE Int (Value × List Int)))])).holds τ w f y) : (RS.hp (rowsH v (outF []))).holds τ w f y := ⟨([], 0), fun _ => rfl, h⟩
theorem ofB_ok (l : List HvD) : BagOk (ofB l) := by
  unfold ofB
  have key : ∀ (l : List HvD) (B : List HvD), BagOk B → BagOk (l.foldl (fun B x => (addB B x.edge x.cnt).1) B) := by
    intro l
    induction l with
    | nil => intro B h; exact h
    | cons x l ih => intro B h; exact ih _ (addB_ok h _ _)
  exact key l [] BagOk.nil
theorem ofB_len (l : List HvD) : (ofB l).length ≤ l.length := by
  unfold ofB
  have key : ∀ (l : List HvD) (B : List HvD), BagOk B → (l.foldl (fun B x => (addB B x.edge x.cnt).1) B).length ≤ B.length + l.length := by
    intro l
    induction l with
    | nil => intro B h; simp
    | cons x l ih =>
      intro B h
      have h1 := ih _ (addB_ok h x.edge x.cnt)
      have h2 := addB_len h x.edge x.cnt
      rw [List.foldl_cons, List.length_cons]
      omega
  simpa using key l [] BagOk.nil
theorem ofB_next {l : List HvD} {k : Nat} (h : k < l.length) : ofB (l.take (k + 1)) = (addB (ofB (l.take k)) (Go.Gm.nth l k).edge (Go.Gm.nth l k).cnt).1 := by
  unfold ofB
  rw [take_nth h, List.foldl_append]; rfl
def hvH (v cv ov iv : Value) (es : List (GE Int Int)) (ck : Nat) : HP := .star [.pt (.val v) 55 [.pv (.is cv), .pv (.is ov), .pv (.is iv)], .ob (.val cv) (MP1 es ck)]
theorem heavy_next {l : List Int} {es : List (GE Int Int)} {k : Nat} (h : k < l.length) : heavyL (l.take (k + 1)) es = heavyL (l.take k) es ++ [⟨(unedgeR (Go.Gm.nth l k)).1, (gGet (Go.Gm.nth l k) es).getD 0⟩] := by
  unfold heavyL
  rw [take_nth h, List.map_append]; rfl
abbrev outB (B : List HvD) (id : Int) : List HvD := B.filter fun x => decide (x.edge.src = id)
abbrev inB (B : List HvD) (id : Int) : List HvD := B.filter fun x => decide (x.edge.dst = id)
theorem nums_val {p : EdgeD → Bool} {es : List (GE Int Int)} {B : List HvD} (hB : BagOk B) (h : CntM es B) : ∀ x ∈ numsOf p B, 0 ≤ (gGet x es).getD 0 ∧ (gGet x es).getD 0 ≤ 2147483647 := fun x hx => by
  obtain ⟨y, hy, _, rfl⟩ := mem_nums.1 hx
  rw [h.val _ (hB.right y hy)]
  exact cntB_bd hB _
theorem heavy_all {es : List (GE Int Int)} {B : List HvD} (hB : BagOk B) (h : CntM es B) : heavyL (numsOf (fun _ => true) B) es = B := by
  rw [heavy_nums hB h]; simp

theorem mcount_c (b : Nat) (bg : List HvD) (e : EdgeD) : FnG Try.prog 14 1 [.is (.pointer (some ⟨b, 0, none⟩)), .agg (rEdge e)] [mulH (.pointer (some ⟨b, 0, none⟩)) bg] (.int .i64 (cntB bg e)) (fun _ => [mulH (.pointer (some ⟨b, 0, none⟩)) bg]) := by
  refine FnG.mk Try.func14 rfl Try.ntmps14 rfl (by kernel_rfl) ?_
  intro B F0 a w F hB hG hS
  obtain ⟨s, hS⟩ := hS.open_ex 1 rfl
  obtain ⟨hk, hS⟩ := hS.open_and 1 rfl
  obtain ⟨F, hS⟩ := hS.peel 1 2 rfl rfl
  obtain ⟨F, hS⟩ := hS.peel 1 3 rfl rfl
  obtain ⟨F, hS⟩ := hS.peel 1 4 rfl rfl
  obtain ⟨F, hS⟩ := hS.peel 1 5 rfl rfl
  have hB9 := hk.bag
  have hlB := hk.len
  have hcl := hk.cnt.len hk.bag
  obtain ⟨F, hS⟩ := hS.nm [1, 0] [5, 4, 3, 2, 0] rfl rfl
  refine wp_seq ?_
  refine region_q hS
    (cF rfl (oX 101 (.conv .t .agg)) r1 trivial
    (cF rfl (oN (.ci (by kernel_rfl))) trivial trivial
    Chain.nil))
    hB ?_
  clear hS; intro a w F hS
  replace hS := hS.sub
  obtain ⟨F, hS⟩ := hS.nm [4, 3, 0] [101, 5, 4, 3, 2, 0] rfl rfl
  try dsimp only [RS.sub, SF.sub, CF.sub, csub, Anc.sub, List.map, zCF, rEdge] at hS
  generalize Act.tau a 3 = v3 at hS
  refine then_n (wp_seq ?_)
  refine region_q hS
    (cF rfl (oL true 4 101 .is) r1 r1
    (cF rfl (oP (edge_c e) Try.func24 (Args.one (.pagg .t))) r1 trivial
    (cF rfl (oM .t) r1 trivial
    (cF rfl (o_extract .t rfl) r1 trivial
    (cF rfl (o_extract .t rfl) r1 trivial
    (cF rfl (oN .t) r1 trivial
    (cF rfl (oN .t) r1 trivial
    Chain.nil)))))))
    hB ?_
  clear hS; intro a w F hS
  obtain ⟨F, hS⟩ := hS.nm [6, 5, 4, 0] [5, 4, 3, 2, 0] rfl rfl
  try dsimp only [List.map, xD, xE, xT, xU, ldSF, rEdge] at hS
  refine then_n (wp_seq (wp_seq ?_))
  refine region_q hS
    (cF rfl (oM .t) r1 trivial
    (cF rfl (o_nil_eql _ Try.underlying26 rfl .t) r1 trivial
    (cF rfl (oM .t) r1 trivial
    (Chain.cons (Cert.cond rfl rfl (fun h => o_move .t (by rfl))) r2 trivial
    (Chain.cons (Cert.cond rfl rfl (fun h => o_neq (.w h) (.ci (by kernel_rfl)))) r2 trivial
    (cF rfl (o_or2 .t .t) r2 trivial
    Chain.nil))))))
    hB ?_
  clear hS; intro a w F hS
  obtain ⟨F, hS⟩ := hS.nm [17, 5, 4, 0] [5, 4, 3, 2, 0] rfl rfl
  try dsimp only [rEdge] at hS
  refine then_n ?_
  refine cond_b hS rfl (fun hc0 => ?_) (fun hc0 => ?_)
  ·skip
   have hr : rightB e = false := by cases hr : rightB e with | false => rfl | true => simp [edgeR_yes hr] at hc0
   have hg : (0 : Int) = cntB bg e := (cntB_no fun x hx e9 => by subst e9; rw [hB9.right x hx] at hr; cases hr).symm
   refine wp_seq ?_
   refine region_q hS
     (cF rfl (oN (.ci (by kernel_rfl))) trivial trivial
     Chain.nil)
     hB ?_
   clear hS; intro a w F hS
   obtain ⟨F, hS⟩ := hS.nm [5, 4, 0] [5, 4, 3, 2, 0] rfl rfl
   try dsimp only [rEdge] at hS
   refine then_n (wp_ret (then_r ?_))
   have hS := hS.fresh 1 rfl
   obtain ⟨F, hS⟩ := hS.push 1 5 rfl rfl rfl (by kernel_rfl)
   obtain ⟨F, hS⟩ := hS.push 1 4 rfl rfl rfl (by kernel_rfl)
   obtain ⟨F, hS⟩ := hS.push 1 3 rfl rfl rfl (by kernel_rfl)
   obtain ⟨F, hS⟩ := hS.push 1 2 rfl rfl rfl (by kernel_rfl)
   have hS := hS.turn 1 rfl (r' := RS.hp (mulH (.pointer (some ⟨b, 0, none⟩)) bg)) (fun _ _ _ _ h => ⟨s, hk, h⟩)
   refine ret_G1 hG hS rfl (.tmp rfl .nil) (.one (.int hg)) rfl
  have hr : rightB e = true := by cases hr : rightB e with | true => rfl | false => simp [edgeR_no hr] at hc0
  rw [edgeR_yes hr] at hS
  dsimp only at hS
  have hcb := cntB_bd hB9 e
  refine wp_skip (then_n (wp_seq ?_))
  refine region_q hS
    (cF rfl (oM .t) r1 trivial
    (cF rfl (o_nilCheck 2 .is (by rfl)) r1 r1
    (cF rfl (oF 0 2 .adr) r1 r1
    (cF rfl (oL false 1 2 .adr) r1 r1
    (cF rfl (oM .t) r1 trivial
    (cF rfl (o_lookupG (ek := (fun c : Int => PV.int .i32 c)) (z0 := (0 : Int)) 3 Try.underlying52 (key_intG Try.underlying49) (by kernel_rfl) (fun _ _ => ⟨rfl, inR0i⟩) .is (IsKeyOf.intU .t rfl)) r2 r1
    (cF rfl (o_conv Try.underlying3 (by kernel_rfl) .t) r1 trivial
    (cF rfl (oN .t) r1 trivial
    Chain.nil))))))))
    hB ?_
  clear hS; intro a w F hS
  obtain ⟨F, hS⟩ := hS.nm [4] [5, 4, 3, 2, 0] rfl rfl
  try dsimp only [List.map, xD, xE, xT, xU, ldSF, rEdge] at hS
  rw [hk.cnt.val e hr] at hS
  have hg : IntKind.wrap .i64 (cntB bg e) = cntB bg e := wrap_i64 (by omega)
  refine then_n (wp_ret ?_)
  have hS := hS.fresh 1 rfl
  obtain ⟨F, hS⟩ := hS.push 1 5 rfl rfl rfl (by kernel_rfl)
  obtain ⟨F, hS⟩ := hS.push 1 4 rfl rfl rfl (by kernel_rfl)
  obtain ⟨F, hS⟩ := hS.push 1 3 rfl rfl rfl (by kernel_rfl)
  obtain ⟨F, hS⟩ := hS.push 1 2 rfl rfl rfl (by kernel_rfl)
  have hS := hS.turn 1 rfl (r' := RS.hp (mulH (.pointer (some ⟨b, 0, none⟩)) bg)) (fun _ _ _ _ h => ⟨s, hk, h⟩)
  refine ret_G1 hG hS rfl (.tmp rfl .nil) (.one (.int hg)) rfl

theorem mlen_c (b : Nat) (bg : List HvD) : FnG Try.prog 15 1 [.is (.pointer (some ⟨b, 0, none⟩))] [mulH (.pointer (some ⟨b, 0, none⟩)) bg] (.int .i64 (bg.length : Int)) (fun _ => [mulH (.pointer (some ⟨b, 0, none⟩)) bg]) := by
  refine FnG.mk Try.func15 rfl Try.ntmps15 rfl (by kernel_rfl) ?_
  intro B F0 a w F hB hG hS
  obtain ⟨s, hS⟩ := hS.open_ex 1 rfl
  obtain ⟨hk, hS⟩ := hS.open_and 1 rfl
  obtain ⟨F, hS⟩ := hS.peel 1 2 rfl rfl
  obtain ⟨F, hS⟩ := hS.peel 1 3 rfl rfl
  obtain ⟨F, hS⟩ := hS.peel 1 4 rfl rfl
  obtain ⟨F, hS⟩ := hS.peel 1 5 rfl rfl
  have hB9 := hk.bag
  have hlB := hk.len
  have hcl := hk.cnt.len hk.bag
  obtain ⟨F, hS⟩ := hS.nm [0] [5, 4, 3, 2, 0] rfl rfl
  refine wp_seq ?_
  refine region_q hS
    (cF rfl (oN (.ci (by kernel_rfl))) trivial trivial
    Chain.nil)
    hB ?_
  clear hS; intro a w F hS
  obtain ⟨F, hS⟩ := hS.nm [2, 0] [5, 4, 3, 2, 0] rfl rfl
  try dsimp only [rEdge] at hS
  refine then_n (wp_seq (wp_seq ?_))
  refine region_q hS
    (cF rfl (oM .t) r1 trivial
    (cF rfl (o_nil_eql _ Try.underlying26 rfl .t) r1 trivial
    Chain.nil))
    hB ?_
  clear hS; intro a w F hS
  obtain ⟨F, hS⟩ := hS.nm [4, 2, 0] [5, 4, 3, 2, 0] rfl rfl
  try dsimp only [rEdge] at hS
  refine then_n ?_
  refine cond_b hS rfl (fun hc0 => ?_) (fun hc0 => ?_)
  ·skip
   simp at hc0
  refine wp_skip (then_n (wp_seq ?_))
  refine region_q hS
    (cF rfl (oM .t) r1 trivial
    (cF rfl (o_nilCheck 2 .is (by rfl)) r1 r1
    (cF rfl (oF 0 2 .adr) r1 r1
    (cF rfl (oL false 1 2 .adr) r1 r1
    (cF rfl (o_len_mapG 3 Try.underlying52 .is (by omega)) r1 r1
    (cF rfl (oN .t) r1 trivial
    Chain.nil))))))
    hB ?_
  clear hS; intro a w F hS
  obtain ⟨F, hS⟩ := hS.nm [2] [5, 4, 3, 2, 0] rfl rfl
  try dsimp only [List.map, xD, xE, xT, xU, ldSF, rEdge] at hS
  refine then_n (wp_ret ?_)
  have hS := hS.fresh 1 rfl
  obtain ⟨F, hS⟩ := hS.push 1 5 rfl rfl rfl (by kernel_rfl)
  obtain ⟨F, hS⟩ := hS.push 1 4 rfl rfl rfl (by kernel_rfl)
  obtain ⟨F, hS⟩ := hS.push 1 3 rfl rfl rfl (by kernel_rfl)
  obtain ⟨F, hS⟩ := hS.push 1 2 rfl rfl rfl (by kernel_rfl)
  have hS := hS.turn 1 rfl (r' := RS.hp (mulH (.pointer (some ⟨b, 0, none⟩)) bg)) (fun _ _ _ _ h => ⟨s, hk, h⟩)
  refine ret_G1 hG hS rfl (.tmp rfl .nil) (.one (.int (by rw [hcl]))) rfl

theorem mcount_nil (e : EdgeD) : FnP Try.prog 14 [.is (.pointer none), .agg (rEdge e)] (.int .i64 0) := by
  refine FnP.mk Try.func14 rfl Try.ntmps14 rfl ?_
  intro B a w F hB hfr hS
  refine wp_seq ?_
  refine region_q hS
    (cF rfl (oX 101 (.conv .t .agg)) r1 trivial
    (cF rfl (oN (.ci (by kernel_rfl))) trivial trivial
    Chain.nil))
    hB ?_
  clear hS; intro a w F hS
  replace hS := hS.sub
  obtain ⟨F, hS⟩ := hS.nm [4, 3, 0] [101, 0] rfl rfl
  try dsimp only [RS.sub, SF.sub, CF.sub, csub, Anc.sub, List.map, zCF, rEdge] at hS
  generalize Act.tau a 3 = v3 at hS
  refine then_n (wp_seq ?_)
  refine region_q hS
    (cF rfl (oL true 4 101 .is) r1 r1
    (cF rfl (oP (edge_c e) Try.func24 (Args.one (.pagg .t))) r1 trivial
    (cF rfl (oM .t) r1 trivial
    (cF rfl (o_extract .t rfl) r1 trivial
    (cF rfl (o_extract .t rfl) r1 trivial
    (cF rfl (oN .t) r1 trivial
    (cF rfl (oN .t) r1 trivial
    Chain.nil)))))))
    hB ?_
  clear hS; intro a w F hS
  obtain ⟨F, hS⟩ := hS.nm [6, 5, 4, 0] [0] rfl rfl
  try dsimp only [List.map, xD, xE, xT, xU, ldSF, rEdge] at hS
  refine then_n (wp_seq (wp_seq ?_))
  refine region_q hS
    (cF rfl (oM .t) r1 trivial
    (cF rfl (o_nil_eql _ Try.underlying26 rfl .t) r1 trivial
    (cF rfl (oM .t) r1 trivial
    (Chain.cons (Cert.cond rfl rfl (fun h => o_move .t (by rfl))) r2 trivial
    (Chain.cons (Cert.cond rfl rfl (fun h => o_neq (.w h) (.ci (by kernel_rfl)))) r2 trivial
    (cF rfl (o_or2 .t .t) r2 trivial
    Chain.nil))))))
    hB ?_
  clear hS; intro a w F hS
  obtain ⟨F, hS⟩ := hS.nm [17, 5, 4, 0] [0] rfl rfl
  try dsimp only [rEdge] at hS
  refine then_n ?_
  refine cond_b hS rfl (fun hc0 => ?_) (fun hc0 => ?_)
  ·skip
   refine wp_seq ?_
   refine region_q hS
     (cF rfl (oN (.ci (by kernel_rfl))) trivial trivial
     Chain.nil)
     hB ?_
   clear hS; intro a w F hS
   obtain ⟨F, hS⟩ := hS.nm [5, 4, 0] [0] rfl rfl
   try dsimp only [rEdge] at hS
   refine then_n (wp_ret (then_r ?_))
   refine ret_P hfr hS rfl (.tmp rfl .nil) (.one .refl)
  simp at hc0

theorem mlen_nil  : FnP Try.prog 15 [.is (.pointer none)] (.int .i64 0) := by
  refine FnP.mk Try.func15 rfl Try.ntmps15 rfl ?_
  intro B a w F hB hfr hS
  refine wp_seq ?_
  refine region_q hS
    (cF rfl (oN (.ci (by kernel_rfl))) trivial trivial
    Chain.nil)
    hB ?_
  clear hS; intro a w F hS
  obtain ⟨F, hS⟩ := hS.nm [2, 0] [0] rfl rfl
  refine then_n (wp_seq (wp_seq ?_))
  refine region_q hS
    (cF rfl (oM .t) r1 trivial
    (cF rfl (o_nil_eql _ Try.underlying26 rfl .t) r1 trivial
    Chain.nil))
    hB ?_
  clear hS; intro a w F hS
  obtain ⟨F, hS⟩ := hS.nm [4, 2, 0] [0] rfl rfl
  refine then_n ?_
  refine cond_b hS rfl (fun hc0 => ?_) (fun hc0 => ?_)
  ·skip
   refine wp_seq ?_
   refine region_q hS
     (cF rfl (oN (.ci (by kernel_rfl))) trivial trivial
     Chain.nil)
     hB ?_
   clear hS; intro a w F hS
   obtain ⟨F, hS⟩ := hS.nm [2, 0] [0] rfl rfl
   refine then_n (wp_ret (then_r ?_))
   refine ret_P hfr hS rfl (.tmp rfl .nil) (.one .refl)
  simp at hc0

end Go.Proofs.Ytfdjjfplhdpclaa
