/- A map's keys as a new row. No condition beyond those that each theorem says. -/
import Derived.Test.YtfdjjfplhdpclaaKc2
namespace Go.Proofs.Ytfdjjfplhdpclaa
open Go Go.Gm
set_option linter.unusedVariables false
set_option linter.unusedSimpArgs false
set_option maxHeartbeats 4000000
set_option maxRecDepth 8000


open Go.RowKit Go.Maps Go.Sort Go.Shelf Go.ChangeMaps Go.MapKept

theorem perm_dec {α : Type} {enc : α → Value} {dec : Value → α} (h : ∀ x, dec (enc x) = x) {l m : List α} (hp : (l.map enc).Perm (m.map enc)) : l.Perm m := by
  have h1 := hp.map dec
  rw [List.map_map, List.map_map] at h1
  have e : dec ∘ enc = id := by funext x; exact h x
  rwa [e, List.map_id, List.map_id] at h1
theorem kcCollect_c {ν : Type} (ek : ν → PV) (mv : Value) (es : List (GE Int ν)) (ck : Nat) (hN : es.length ≤ 1000000000) (hkr : ∀ e ∈ es, inR .u64 e.key) : FnG Try.prog 36 2 [.clos 38 [.ref [.is mv]]] [mapG ek (fun _ : Int => True) (fun n : Int => Value.int .u64 n) es ck mv, .star []] PV.one (fun v => [mapG ek (fun _ : Int => True) (fun n : Int => Value.int .u64 n) es ck mv, .ex fun l : List Int => .and (l.Perm (es.map (·.key))) (rowH 49 1 rU64 l v)]) := fun w F vs hw hle hvs hpr => by
  match vs, hvs with
  | [fv], hvs =>
    obtain ⟨caps, hfv, hcaps⟩ := hvs.1
    match caps, hcaps with
    | [cu], hcaps =>
      obtain ⟨Bm, off, us, hcu, hny, hBm, hc, hus⟩ := hcaps.1
      match us, hus with
      | [mu], hus =>
        have hmu : mu = mv := hus.1.2.1
        subst hmu
        subst hcu
        subst hfv
        obtain ⟨b, rs, hmv, hb, hg, ⟨hwf, hkeys⟩, hf⟩ := hpr 0 _ rfl
        have hst : ∀ c, ¬ F 2 c := hpr 1 _ rfl
        subst hmv
        have hbl : b < w.heap.size := (Array.getElem?_eq_some_iff.1 hb).1
        have hm : w.cell? ⟨Bm, off, none⟩ = some (.map (some b)) := hc.1
        have hkm : rs.map (·.key) = es.map (·.key) := hg.keys
        have hbm : rs.map (·.born) = es.map (·.born) := hg.borns
        have hnd : (((rs.map (rEnc (fun n : Int => Value.int .u64 n))).toArray).toList.map (·.born)).Nodup := by
          have e1 : ((rs.map (rEnc (fun n : Int => Value.int .u64 n))).toArray).toList.map (·.born) = rs.map (·.born) := by rw [List.map_map]; rfl
          rw [e1, hbm]; exact hwf.1
        have hold : ∀ x ∈ ((rs.map (rEnc (fun n : Int => Value.int .u64 n))).toArray).toList, x.born < ck := fun x hx => by
          obtain ⟨r, hr, rfl⟩ := List.mem_map.1 hx
          have h1 : r.born ∈ es.map (·.born) := hbm ▸ List.mem_map.2 ⟨r, hr, rfl⟩
          obtain ⟨e, he, e1⟩ := List.mem_map.1 h1
          show r.born < ck
          rw [← e1]; exact hwf.2 e he
        have hkv : ∀ x ∈ ((rs.map (rEnc (fun n : Int => Value.int .u64 n))).toArray).toList, ∃ k : Int, x.key = encV k := fun x hx => by
          obtain ⟨r, _, rfl⟩ := List.mem_map.1 hx
          exact ⟨r.key, rfl⟩
        have hlen : ((rs.map (rEnc (fun n : Int => Value.int .u64 n))).toArray).size = es.length := by
          have h1 := congrArg List.length hkm
          simp at h1 ⊢; exact h1
        have hseq : SeqGives Fence.wide 10 Try.prog 38 #[.pointer (some ⟨Bm, off, none⟩)] encV (fun ss => (ss.map encV).Perm (((rs.map (rEnc (fun n : Int => Value.int .u64 n))).toArray).toList.map (·.key))) ((rs.map (rEnc (fun n : Int => Value.int .u64 n))).toArray).size w := fun l J W hW hJ hY h0 =>
          kcKeys1 Fence.wide 10 trivial rfl (by omega) l Bm off b ck _ hnd hold hkv J hY W hJ ((hW.cell (p := ⟨Bm, off, none⟩) hBm).trans hm) ((hW.block b hbl).trans hb) h0
        have eg : ∀ args w, (callFunc 38 args).run Try.prog w = .ok (.enter 38 args) w := enters_of Try.func38 (by kernel_rfl) rfl
        have hcalls := callsIn_wide.1 (kcCollect_in Fence.wide 12 trivial trivial rfl (by omega) 38 #[.pointer (some ⟨Bm, off, none⟩)] trivial eg _ _ (by rw [hlen]; unfold maxLen; omega) (by rw [hlen]; omega) w hseq)
        refine hcalls.mono ?_
        rintro e w' ⟨v, ss, rfl, hS, hrow, hnil, hbel⟩
        have hss : ss.Perm (es.map (·.key)) := by
          have e1 : ((rs.map (rEnc (fun n : Int => Value.int .u64 n))).toArray).toList.map (·.key) = (es.map (·.key)).map encV := by
            rw [← hkm, List.map_map, List.map_map]; rfl
          rw [e1] at hS
          exact perm_dec decV_enc hS
        have hown : ∀ c, v.ownBlock = some c → w.heap.size ≤ c ∧ c < w'.heap.size := fun c hc9 => by
          rcases hrow.2 with ⟨rfl, _⟩ | ⟨g, cap, cur, rfl, hbase, hgb, _⟩
          · simp [Value.ownBlock] at hc9
          · simp [Value.ownBlock] at hc9
            subst hc9
            exact ⟨hbase, (Array.getElem?_eq_some_iff.1 hgb).1⟩
        have hrow0 : w'.ownsRow 0 49 1 v ss.length (ss.flatMap encC) := ⟨hrow.1, by
          rcases hrow.2 with h | ⟨g, cap, cur, h1, _, h3⟩
          · exact .inl h
          · exact .inr ⟨g, cap, cur, h1, Nat.zero_le _, h3⟩⟩
        have hst2 : Stp (List.range' 1 2) w F w' (fun n c => F n c ∨ (n = 2 ∧ v.ownBlock = some c)) := ⟨hbel.os, hbel.tape, hbel.output, hbel.size, fun c hc9 _ => hbel.block c hc9, fun n hn => by
            funext c
            have : n ≠ 2 := fun e => hn (by subst e; simp)
            simp [this], fun n hn c hc9 => by
            rcases hc9 with h | ⟨_, h⟩
            · exact .inl ⟨n, hn, h⟩
            · exact .inr (hown c h).1⟩
        refine ⟨v, _, rfl, ⟨fun n m c h1 h2 => ?_, fun n c h1 => ?_⟩, hst2, fun n c h1 => ?_, ?_, fun i h hi => ?_⟩
        · rcases h1 with h1 | ⟨h1, h1'⟩ <;> rcases h2 with h2 | ⟨h2, h2'⟩
          · exact hw.dis n m c h1 h2
          · have := hw.bd n c h1; have := (hown c h2').1; omega
          · have := hw.bd m c h2; have := (hown c h1').1; omega
          · omega
        · rcases h1 with h1 | ⟨_, h1⟩
          · have := hw.bd n c h1; have := hbel.size; omega
          · exact (hown c h1).2
        · rcases h1 with h1 | ⟨h1, _⟩
          · exact hle n c h1
          · omega
        · show v.oneCell' = true
          rcases hrow.2 with ⟨rfl, _⟩ | ⟨g, cap, cur, rfl, _⟩ <;> rfl
        · match i, hi with
          | 0, hi =>
            simp only [List.getElem?_cons_zero, Option.some.injEq] at hi
            subst hi
            exact ⟨b, rs, rfl, (hbel.block b hbl).trans hb, hg.mono hst2.ev, ⟨hwf, hkeys⟩, fun c => by rw [← hf c]; simp⟩
          | 1, hi =>
            simp only [List.getElem?_cons_succ, List.getElem?_cons_zero, Option.some.injEq] at hi
            subst hi
            refine ⟨ss, hss, ss.flatMap encC, hrow0, keys_pv fun x hx => ?_, fun c => ?_⟩
            · obtain ⟨e, he, e1⟩ := List.mem_map.1 (hss.mem_iff.1 hx)
              rw [← e1]; exact hkr e he
            · have := hst c
              simp [this]

end Go.Proofs.Ytfdjjfplhdpclaa
