/- A region that draws its order, by its certificates. No condition. -/
import Derived.Test.YtfldilhddeabeaaDoorLibG
import Derived.Orders
namespace Go.Gm
set_option linter.unusedVariables false
set_option linter.unusedSimpArgs false

theorem blt_self (j : Nat) : Nat.blt j j = false := by
  cases e : Nat.blt j j with
  | false => rfl
  | true => rw [Nat.blt_eq] at e; omega
theorem runT_shift : ∀ (l : List Oper) (cs : List CD) (E : En) (T : Nat → Bool) (k : Nat), runT E l cs T (k + 1) = runT E l cs (fun i => T (i + 1)) k
  | [], _, _, _, _ => by simp [runT]
  | _ :: _, [], _, _, _ => by simp [runT]
  | o :: l, c :: cs, E, T, k => by simp only [runT]; exact runT_shift l cs _ T (k + 1)

theorem Chain.facts {P : Program} {ops : Array Oper} : ∀ {E : En} {l : List Oper} {cs : List CD} {E' : En}, Chain P ops E l cs E' → cs.length = l.length ∧ E' = runT E l cs (fun _ => true) 0 ∧
    ∀ (k : Nat) (o : Oper) (c : CD), l[k]? = some o → cs[k]? = some c → Cert P ops o c ∧ Looks (runT E l cs (fun i => Nat.blt i k) 0).s c.ps ∧ Looks (runT E l cs (fun i => Nat.blt i k) 0).r c.pr
  | E, _, _, _, .nil => ⟨rfl, rfl, fun k o c h _ => by simp at h⟩
  | E, _, _, _, .cons (o := o) (c := c) (l := l) (cs := cs) hc hs hr t => by
    obtain ⟨h1, h2, h3⟩ := t.facts
    refine ⟨by simp [h1], ?_, fun k o' c' ho hcs => ?_⟩
    · simp only [runT, if_true]
      rw [runT_shift]; exact h2
    · cases k with
      | zero =>
        simp at ho hcs
        subst ho; subst hcs
        have e : runT E (o :: l) (c :: cs) (fun i => Nat.blt i 0) 0 = E := by
          have : (fun i => Nat.blt i 0) = fun _ => false := by funext i; rfl
          rw [this, runT_none]
        rw [e]; exact ⟨hc, hs, hr⟩
      | succ k =>
        have e : runT E (o :: l) (c :: cs) (fun i => Nat.blt i (k + 1)) 0 = runT (E.step o c) l cs (fun i => Nat.blt i k) 0 := by
          simp only [runT]
          have h0 : Nat.blt 0 (k + 1) = true := by rw [Nat.blt_eq]; omega
          have hs : (fun i => Nat.blt (i + 1) (k + 1)) = fun i => Nat.blt i k := by
            funext i
            rw [Bool.eq_iff_iff, Nat.blt_eq, Nat.blt_eq]
            omega
          rw [if_pos h0, runT_shift, hs]
        rw [e]
        exact h3 k o' c' (by simpa using ho) (by simpa using hcs)

theorem Sat.congr {B : Base} {E E' : En} {a : Act} {w : World} {F : Fp} (h : Sat B E a w F) (hs : ∀ i, look E'.s i = look E.s i) (hr : ∀ n, look E'.r n = look E.r n) : Sat B E' a w F :=
  ⟨h.wf, h.ev, h.n, h.df, fun i s hl => h.s i s (by rw [← hs]; exact hl), fun i s hl => h.r i s (by rw [← hr]; exact hl), fun n b hb => by
    obtain ⟨r, h'⟩ := h.em n b hb
    exact ⟨r, by rw [hr]; exact h'⟩⟩

/-- One step, in whatever state. -/
theorem Sat.step {B : Base} {E : En} {a : Act} {w : World} {F : Fp} {o : Oper} {c : CD} {v : Value} {w' : World} {F' : Fp} (hS : Sat B E a w F) (hdd : ∀ i, o.dst = some i → i < a.tmps.size)
    (hds : ∀ i s, look E.s i = some s → ∀ j ∈ s.deps, o.dst ≠ some j) (hdr : ∀ i r, look E.r i = some r → ∀ j ∈ r.deps, o.dst ≠ some j)
    (hwf' : Wf F' w') (hst : Stp c.W w F w' F') (hq : c.q.holds (upd (Act.tau a) o.dst v) w' (U F') v) (hqr : Hpr c.qr (upd (Act.tau a) o.dst v) w' F') : Sat B (E.step o c) (a.put o.dst v) w' F' := by
  have keeps := step_keeps (c := c) (v := v) hdd hS.wf hst
  refine ⟨hwf', hS.ev.trans hst.ev, by rw [Act.size_put]; exact hS.n, by rw [Act.defers_put]; exact hS.df, ?_, ?_, ?_⟩
  · intro i s hl
    rw [step_look_s] at hl
    split at hl
    · rename_i hd
      simp at hl
      subst hl
      rw [Act.tau_put a o.dst v hdd]
      have : upd (Act.tau a) o.dst v i = v := by simp [upd, hd]
      rw [this]; exact hq
    · rename_i hd
      exact keeps.1 i s (hds i s hl) hd (hS.s i s hl)
  · intro n r hl
    rw [step_look_r] at hl
    split at hl
    · rename_i hn
      rw [Act.tau_put a o.dst v hdd]
      exact hqr _ (look_mem hl)
    · rename_i hn
      exact keeps.2 n r (hdr n r hl) hn (hS.r n r hl)
  · intro n b hb
    rw [step_look_r]
    by_cases hn : n ∈ c.W
    · rw [if_pos hn]
      exact look_some (l := c.qr) (i := n) hn
    · rw [if_neg hn]
      rw [hst.fkeep n hn] at hb
      exact hS.em n b hb

section
variable {P : Program} {Q : Exit → Act → World → Prop} {l : List Oper} {cs : List CD} {E E' : En} {B : Base}

theorem mask_listed (hb : backs l 0 = true) {S : Nat → Bool} (hcl : ∀ k o, l[k]? = some o → S k = true → ∀ e ∈ o.after.toList, Region.binds .any e = true → S e.on = true) :
    ∀ (k : Nat) (o : Oper), l[k]? = some o → (∀ e ∈ o.after.toList, Region.binds .any e = true → S e.on = true) → ∀ j, ((msks l []).getD k 0).testBit j = true → S j = true := by
  intro k
  induction k using Nat.strongRecOn with
  | _ k ih =>
    intro o ho he j hj
    have hg := msks_get l [] k o ho
    simp only [List.length_nil, Nat.zero_add] at hg
    rw [hg] at hj
    obtain ⟨e, h1, h2, h3⟩ := mskOf_bit hj
    have hS := he e h1 h2
    rcases h3 with h3 | h3
    · rw [← h3]; exact hS
    · have hlt : e.on < k := by have := backs_get hb ho e h1 h2; omega
      have hl : k < l.length := (List.getElem?_eq_some_iff.1 ho).1
      have ho' : l[e.on]? = some l[e.on] := by simp
      refine ih e.on hlt _ ho' (hcl e.on _ ho' hS) j ?_
      simp only [List.getD_eq_getElem?_getD] at h3 ⊢
      rw [List.getElem?_take_of_lt hlt] at h3
      exact h3

def cnt (listed : Array Bool) : Nat := listed.toList.count false

theorem any_run (hch : Chain P l.toArray E l cs E') (hsh : E.shut) (hdrf : drf l cs = true) (hd : dstsIn B.n l = true) (hQ : ∀ a w F, Sat B E' a w F → Q .normal a w) :
    ∀ (fuel : Nat) (listed : Array Bool) (a : Act) (w : World) (F : Fp), listed.size = l.length → cnt listed ≤ fuel →
      (∀ k o, l[k]? = some o → listed.getD k false = true → ∀ e ∈ o.after.toList, Region.binds .any e = true → listed.getD e.on false = true) →
      Sat B (runT E l cs (fun k => listed.getD k false) 0) a w F → wpAny P .any l.toArray Q fuel listed a w := by
  obtain ⟨hlen, hE', hfacts⟩ := hch.facts
  simp only [drf, Bool.and_eq_true] at hdrf
  obtain ⟨⟨hback, hpairs⟩, _⟩ := hdrf
  have hpair : ∀ (j k : Nat) (oj ok : Oper) (cj ck : CD), j < k → l[j]? = some oj → l[k]? = some ok → cs[j]? = some cj → cs[k]? = some ck →
      pairOk ((msks l []).getD k 0) j ⟨oj.dst, cj.ps.map (·.1), cj.pr.map (·.1), cj.W, cj.deps⟩ ⟨ok.dst, ck.ps.map (·.1), ck.pr.map (·.1), ck.W, ck.deps⟩ = true ∧ (∀ d, oj.dst = some d → ok.dst ≠ some d) ∧ isIn ok.dst cj.deps = false := by
    intro j k oj ok cj ck hjk h1 h2 h3 h4
    have := pairs_get hpairs j k _ _ (by simpa using infos_get h1 h3) (infos_get h2 h4) (by simpa using hjk)
    exact this
  have hdst : ∀ (k : Nat) (o : Oper) (d : Nat), l[k]? = some o → o.dst = some d → d < B.n := by
    have : ∀ (l : List Oper), dstsIn B.n l = true → ∀ (k : Nat) (o : Oper) (d : Nat), l[k]? = some o → o.dst = some d → d < B.n := by
      intro l
      induction l with
      | nil => intro _ k o d h; simp at h
      | cons x l ih =>
        intro hd k o d ho hod
        simp only [dstsIn, Bool.and_eq_true] at hd
        cases k with
        | zero => simp at ho; subst ho; have := hd.1; rw [hod] at this; simpa [Nat.blt_eq] using this
        | succ k => exact ih hd.2 k o d (by simpa using ho) hod
    exact this l hd
  -- all listed
  have hall : ∀ (listed : Array Bool) (a : Act) (w : World) (F : Fp), (∀ k, k < l.length → listed.getD k false = true) → Sat B (runT E l cs (fun k => listed.getD k false) 0) a w F → Q .normal a w := by
    intro listed a w F ht hS
    refine hQ a w F (hS.congr (fun i => ?_) (fun n => ?_))
    · rw [hE']
      exact runT_s l cs E E 0 (fun j o hj _ => by simp only [Nat.zero_add]; rw [ht j (List.getElem?_eq_some_iff.1 hj).1]) rfl
    · rw [hE']
      exact runT_r l cs E E 0 (fun j c hj _ => by simp only [Nat.zero_add]; rw [ht j (by rw [← hlen]; exact (List.getElem?_eq_some_iff.1 hj).1)]) rfl
  have hnone : ∀ (listed : Array Bool), listed.size = l.length → Region.ready .any l.toArray listed = [] → ∀ k, k < l.length → listed.getD k false = true := by
    intro listed hsz hr k
    induction k using Nat.strongRecOn with
    | _ k ih =>
      intro hk
      cases hf : listed.getD k false with
      | true => rfl
      | false =>
        exfalso
        have ho : l[k]? = some l[k] := by simp [hk]
        have : k ∈ Region.ready .any l.toArray listed := by
          unfold Region.ready
          rw [List.mem_filter]
          refine ⟨by simp [hk], ?_⟩
          have hk' : k < listed.size := by omega
          have e : listed.getD k true = false := by
            simp [hk'] at hf ⊢; exact hf
          simp only [e, Bool.not_false, Bool.true_and]
          simp only [List.getElem?_toArray, ho, Option.map_some, Option.getD_some]
          rw [Array.all_eq_true_iff_forall_mem]
          intro e he
          by_cases hb : Region.binds .any e = true
          · have hlt := backs_get hback ho e (by simpa using he) hb
            simp [ih e.on (by omega) (by omega)]
          · simp [hb]
        rw [hr] at this
        cases this
  intro fuel
  induction fuel with
  | zero =>
    intro listed a w F hsz hc hcl hS
    have ht : ∀ k, k < l.length → listed.getD k false = true := by
      intro k hk
      cases hf : listed.getD k false with
      | true => rfl
      | false =>
        exfalso
        have hk' : k < listed.size := by omega
        have : false ∈ listed.toList := by
          rw [Array.mem_toList_iff, Array.mem_iff_getElem]
          refine ⟨k, hk', ?_⟩
          simpa [hk'] using hf
        have := List.count_pos_iff.2 this
        unfold cnt at hc
        omega
    refine ⟨?_, hall listed a w F ht hS⟩
    unfold Region.ready
    rw [List.filter_eq_nil_iff]
    intro k hk
    simp only [List.mem_range, List.size_toArray] at hk
    have := ht k hk
    have hk' : k < listed.size := by omega
    have e : listed.getD k true = true := by simpa [hk'] using this
    simp only [e]; simp
  | succ fuel ih =>
    intro listed a w F hsz hc hcl hS
    refine ⟨fun hr => hall listed a w F (hnone listed hsz hr) hS, fun k hk => ?_⟩
    unfold Region.ready at hk
    rw [List.mem_filter] at hk
    obtain ⟨hk1, hk2⟩ := hk
    simp only [List.mem_range, List.size_toArray] at hk1
    simp only [Bool.and_eq_true, Bool.not_eq_true'] at hk2
    have hk' : k < listed.size := by omega
    have hun : listed.getD k false = false := by have := hk2.1; simpa [hk'] using this
    have ho : l[k]? = some l[k] := by simp [hk1]
    have hcs : cs[k]? = some (cs[k]'(by omega)) := by simp [hk1, hlen]
    generalize hog : l[k] = o at ho
    generalize hcg : (cs[k]'(by omega)) = c at hcs
    have hpre : ∀ e ∈ o.after.toList, Region.binds .any e = true → listed.getD e.on false = true := by
      have := hk2.2
      simp only [List.getElem?_toArray, ho, Option.map_some, Option.getD_some] at this
      rw [Array.all_eq_true_iff_forall_mem] at this
      intro e he hb
      have := this e (by simpa using he)
      simp [hb] at this
      simpa using this
    have hmask := mask_listed (S := fun k => listed.getD k false) hback hcl
    have hmk := hmask k o ho hpre
    -- who comes after k in the text and is listed does not hang on k, and k not on it
    have hlater : ∀ j oj cj, k < j → l[j]? = some oj → cs[j]? = some cj → listed.getD j false = true → ((msks l []).getD j 0).testBit k = false := by
      intro j oj cj hkj h1 h2 h3
      cases hb : ((msks l []).getD j 0).testBit k with
      | false => rfl
      | true =>
        have := hmask j oj h1 (hcl j oj h1 h3) k hb
        rw [hun] at this; cases this
    obtain ⟨hcert, hls, hlr⟩ := hfacts k o c ho hcs
    have hdd : ∀ i, o.dst = some i → i < a.tmps.size := fun i hi => by rw [hS.n]; exact hdst k o i ho hi
    -- slots that are read
    have hreadS : ∀ x ∈ c.ps, look (runT E l cs (fun k => listed.getD k false) 0).s x.1 = some x.2 := by
      intro x hx
      rw [← hls.get x hx]
      refine runT_s l cs E E 0 (fun j oj hj hdj => ?_) rfl
      simp only [Nat.zero_add]
      have hjl : j < l.length := (List.getElem?_eq_some_iff.1 hj).1
      have hcj : cs[j]? = some (cs[j]'(by omega)) := by simp [hjl, hlen]
      have hin : isIn oj.dst (c.ps.map (·.1)) = true := by simp only [isIn, hdj]; simp; exact ⟨x.2, hx⟩
      rcases Nat.lt_trichotomy j k with h | h | h
      · have hp := (hpair j k oj o _ c h hj ho hcj hcs).1
        simp only [pairOk, Bool.or_eq_true, Bool.and_eq_true, Bool.not_eq_true'] at hp
        have hb : Nat.blt j k = true := by rw [Nat.blt_eq]; exact h
        rw [hb]
        rcases hp with hp | hp
        · exact hmk j hp
        · rw [hp.1.1.1.1.1.1] at hin; cases hin
      · subst h
        have hb : Nat.blt j j = false := blt_self j
        rw [hb, hun]
      · have hb : Nat.blt j k = false := by
          cases e : Nat.blt j k with
          | false => rfl
          | true => rw [Nat.blt_eq] at e; omega
        rw [hb]
        cases hf : listed.getD j false with
        | false => rfl
        | true =>
          have hp := (hpair k j o oj c _ h ho hj hcs hcj).1
          simp only [pairOk, Bool.or_eq_true, Bool.and_eq_true, Bool.not_eq_true'] at hp
          rcases hp with hp | hp
          · rw [hlater j oj _ h hj hcj hf] at hp; cases hp
          · rw [hp.1.1.1.1.1.2] at hin; cases hin
    have hreadR : ∀ x ∈ c.pr, look (runT E l cs (fun k => listed.getD k false) 0).r x.1 = some x.2 := by
      intro x hx
      rw [← hlr.get x hx]
      refine runT_r l cs E E 0 (fun j cj hj hdj => ?_) rfl
      simp only [Nat.zero_add]
      have hjl : j < l.length := by rw [← hlen]; exact (List.getElem?_eq_some_iff.1 hj).1
      have hoj : l[j]? = some l[j] := by simp [hjl]
      have hin : meets cj.W (c.pr.map (·.1)) = true := by
        simp only [meets, List.any_eq_true]
        exact ⟨x.1, hdj, by simp; exact ⟨x.2, hx⟩⟩
      rcases Nat.lt_trichotomy j k with h | h | h
      · have hp := (hpair j k _ o cj c h hoj ho hj hcs).1
        simp only [pairOk, Bool.or_eq_true, Bool.and_eq_true, Bool.not_eq_true'] at hp
        have hb : Nat.blt j k = true := by rw [Nat.blt_eq]; exact h
        rw [hb]
        rcases hp with hp | hp
        · exact hmk j hp
        · rw [hp.1.1.1.1.2] at hin; cases hin
      · subst h
        have hb : Nat.blt j j = false := blt_self j
        rw [hb, hun]
      · have hb : Nat.blt j k = false := by
          cases e : Nat.blt j k with
          | false => rfl
          | true => rw [Nat.blt_eq] at e; omega
        rw [hb]
        cases hf : listed.getD j false with
        | false => rfl
        | true =>
          have hp := (hpair k j o _ c cj h ho hoj hcs hj).1
          simp only [pairOk, Bool.or_eq_true, Bool.and_eq_true, Bool.not_eq_true'] at hp
          rcases hp with hp | hp
          · rw [hlater j _ _ h hoj hj hf] at hp; cases hp
          · rw [hp.1.1.1.2] at hin; cases hin
    -- facts that are left do not name the slot that is written
    have hfree : ∀ j cj, cs[j]? = some cj → listed.getD j false = true → ∀ i ∈ cj.deps, o.dst ≠ some i := by
      intro j cj hj hf i hi hoi
      have hjl : j < l.length := by rw [← hlen]; exact (List.getElem?_eq_some_iff.1 hj).1
      have hoj : l[j]? = some l[j] := by simp [hjl]
      have hin : isIn o.dst cj.deps = true := by simp only [isIn, hoi]; simpa using hi
      rcases Nat.lt_trichotomy j k with h | h | h
      · have := (hpair j k _ o cj c h hoj ho hj hcs).2.2
        rw [this] at hin; cases hin
      · subst h; rw [hun] at hf; cases hf
      · have hp := (hpair k j o _ c cj h ho hoj hcs hj).1
        simp only [pairOk, Bool.or_eq_true, Bool.and_eq_true, Bool.not_eq_true'] at hp
        rcases hp with hp | hp
        · rw [hlater j _ _ h hoj hj hf] at hp; cases hp
        · rw [hp.1.2] at hin; cases hin
    have hds : ∀ i s, look (runT E l cs (fun k => listed.getD k false) 0).s i = some s → ∀ j ∈ s.deps, o.dst ≠ some j := by
      intro i s hl j hj
      rcases runT_from_s l cs E 0 hl with h | ⟨j', cj, h1, h2, h3, h4⟩
      · rw [hsh.1 _ (look_mem h)] at hj; cases hj
      · subst h4
        exact hfree j' cj h1 (by simpa using h3) j (by simp [CD.deps, hj])
    have hdr : ∀ i r, look (runT E l cs (fun k => listed.getD k false) 0).r i = some r → ∀ j ∈ r.deps, o.dst ≠ some j := by
      intro i r hl j hj
      rcases runT_from_r l cs E 0 hl with h | ⟨j', cj, h1, h2, h3, h4⟩
      · rw [hsh.2 _ (look_mem h)] at hj; cases hj
      · refine hfree j' cj h1 (by simpa using h3) j ?_
        simp only [CD.deps]
        exact List.mem_append_right _ (List.mem_flatMap.2 ⟨_, h4, hj⟩)
    refine wpOp_step (o := o) (by simpa using ho) fun K hK => ?_
    refine hcert a w F K Q hS.wf (fun x hx => hS.s _ _ (hreadS x hx)) (fun x hx => hS.r _ _ (hreadR x hx)) ?_
    intro v w' F' hwf' hst hq hqr
    refine hK _ _ (ih _ _ _ F' (by simp [hsz]) ?_ ?_ ?_)
    · unfold cnt at hc ⊢
      have hg : listed.toList[k]'(by simpa using hk') = false := by
        have := hk2.1
        simpa [hk'] using this
      rw [Array.toList_setIfInBounds, List.count_set (by simpa using hk'), hg, if_pos (by rfl), if_neg (by decide)]
      have : false ∈ listed.toList := List.mem_iff_getElem.2 ⟨k, by simpa using hk', hg⟩
      have := List.count_pos_iff.2 this
      omega
    · intro j oj hj hf e he hb
      have hput : ∀ i, (listed.setIfInBounds k true).getD i false = (if k = i then true else listed.getD i false) := by
        intro i
        by_cases e : k = i
        · subst e; simp [hk']
        · simp [e, Array.getElem?_setIfInBounds_ne e]
      rw [hput] at hf ⊢
      split
      · rfl
      · split at hf
        · rename_i h1 h2
          subst h2
          rw [ho] at hj
          simp at hj
          subst hj
          exact hpre e he hb
        · exact hcl j oj hj hf e he hb
    · have hput : (fun i => (listed.setIfInBounds k true).getD i false) = fun i => (if k = i then true else listed.getD i false) := by
        funext i
        by_cases e : k = i
        · subst e; simp [hk']
        · simp [e, Array.getElem?_setIfInBounds_ne e]
      rw [hput]
      refine (hS.step hdd hds hdr hwf' hst hq hqr).congr (fun i => ?_) (fun n => ?_)
      · rw [step_look_s]
        split
        · rename_i hdi
          refine runT_last_s l cs E 0 k o c ho hcs hdi (by simp) (fun j oj hkj hj hdj => ?_)
          have hjl : j < l.length := (List.getElem?_eq_some_iff.1 hj).1
          have hcj : cs[j]? = some (cs[j]'(by omega)) := by simp [hjl, hlen]
          exact absurd hdj ((hpair k j o oj c _ hkj ho hj hcs hcj).2.1 i hdi)
        · rename_i hdi
          refine runT_s l cs E E 0 (fun j oj hj hdj => ?_) rfl
          simp only [Nat.zero_add]
          split
          · rename_i e; subst e; rw [ho] at hj; simp at hj; subst hj; exact absurd hdj hdi
          · rfl
      · rw [step_look_r]
        split
        · rename_i hn
          refine runT_last_r l cs E 0 k c hcs hk1 hn (by simp) (fun j cj hkj hj hnj => ?_)
          simp only [Nat.zero_add]
          rw [if_neg (by omega)]
          cases hf : listed.getD j false with
          | false => rfl
          | true =>
            have hjl : j < l.length := by rw [← hlen]; exact (List.getElem?_eq_some_iff.1 hj).1
            have hoj : l[j]? = some l[j] := by simp [hjl]
            have hp := (hpair k j o _ c cj hkj ho hoj hcs hj).1
            simp only [pairOk, Bool.or_eq_true, Bool.and_eq_true, Bool.not_eq_true'] at hp
            rcases hp with hp | hp
            · rw [hlater j _ _ hkj hoj hj hf] at hp; cases hp
            · have hin : meets c.W cj.W = true := by
                simp only [meets, List.any_eq_true]
                exact ⟨n, hn, by simpa using hnj⟩
              rw [hp.1.1.2] at hin; cases hin
        · rename_i hn
          refine runT_r l cs E E 0 (fun j cj hj hdj => ?_) rfl
          simp only [Nat.zero_add]
          split
          · rename_i e; subst e; rw [hcs] at hj; simp at hj; subst hj; exact absurd hdj hn
          · rfl

/-- A region that draws its order. -/
theorem region_any (hm : P.follows .mixedOrders = true) {id : Nat} {a : Act} {w : World} {F : Fp} (hS : Sat B E a w F) (hE : E.shutB = true)
    (hc : Chain P l.toArray E l cs E') (ho : drf l cs = true) (hd : dstsIn B.n l = true) (hQ : ∀ a w F, Sat B E' a w F → Q .normal a w) : (Code.region id l.toArray true).wp P Q a w := by
  refine wp_region_any hm ?_
  have hev : Ev w (U F) { w with drawn := w.drawn + 1 } (U F) := ⟨rfl, rfl, rfl, Nat.le_refl _, fun _ _ h => ⟨rfl, h⟩⟩
  have hS' : Sat B E a { w with drawn := w.drawn + 1 } F :=
    ⟨⟨hS.wf.dis, hS.wf.bd⟩, hS.ev.trans hev, hS.n, hS.df, fun i s hl => SF.mono hev (fun _ _ => rfl) (hS.s i s hl), fun i r hl => RS.mono hev (fun _ _ => rfl) (fun _ _ => rfl) (hS.r i r hl), hS.em⟩
  refine any_run hc (En.shut_of hE) ho hd hQ _ _ a _ F (by simp) ?_ ?_ ?_
  · unfold cnt
    simp [List.count_le_length]
  · intro k o _ hf
    exfalso
    simp only [Array.getD_eq_getD_getElem?, Array.getElem?_replicate] at hf
    split at hf <;> simp at hf
  · have : (fun k => (Array.replicate l.toArray.size false).getD k false) = fun _ => false := by
      funext k
      simp [Array.getElem?_replicate]
      split <;> rfl
    rw [this, runT_none]
    exact hS'
end
end Go.Gm
