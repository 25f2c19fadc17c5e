/- Slices: Clone,IndexFunc,DeleteFunc. No condition beyond those that each theorem says. -/
import Derived.Test.YtcfgcpcakdknkaaGreatOr0
import Derived.Test.YtcfgcpcakdknkaaGreatSrt
namespace Go.Proofs.YtcfgcpcakdknkaaGreat
open Go Go.Gm
set_option linter.unusedVariables false
set_option linter.unusedSimpArgs false
set_option maxHeartbeats 4000000
set_option maxRecDepth 8000
theorem filter_step {α:Type} [Inhabited α] {p:α→Bool} {l:List α} {j:Nat} (h:j<l.length):(l.take (j+1)).filter p=(l.take j).filter p++if p (Go.Gm.nth l j)=true then [Go.Gm.nth l j] else []:=by
 rw [take_nth h,List.filter_append]
 congr 1
 by_cases e:p (Go.Gm.nth l j)=true
 · rw [if_pos e];simp [e]
 · rw [if_neg e];simp at e;simp [e]
def foundAt {α:Type} [Inhabited α] (p:α→Bool) (l:List α):Int:=match l.findIdx? p with
 | some i=>i
 | none=>-1
theorem foundAt_none {α:Type} [Inhabited α] {p:α→Bool} {l:List α} (h:∀ k,k<l.length→p (Go.Gm.nth l k)=false):foundAt p l = -1:=by
 unfold foundAt
 have:l.findIdx? p=none:=List.findIdx?_eq_none_iff.2 fun x hx=>by
   obtain ⟨k,hk,rfl⟩:=List.mem_iff_getElem.1 hx
   rw [← nth_eq hk];exact h k hk
 rw [this]
theorem foundAt_at {α:Type} [Inhabited α] {p:α→Bool} {l:List α} {i:Nat} (hi:i<l.length) (h:p (Go.Gm.nth l i)=true) (h2:∀ k,k<i→p (Go.Gm.nth l k)=false):foundAt p l=i:=by
 unfold foundAt
 have:l.findIdx? p=some i:=List.findIdx?_eq_some_iff_getElem.2 ⟨hi,by rw [← nth_eq hi];exact h,fun k hk=>by rw [← nth_eq (by omega),h2 k hk];decide⟩
 rw [this]
theorem foundAt_spec {α:Type} [Inhabited α] (p:α→Bool) (l:List α):(foundAt p l = -1 ∧ ∀ k,k<l.length→p (Go.Gm.nth l k)=false) ∨ ∃ i:Nat,foundAt p l=i∧i<l.length∧p (Go.Gm.nth l i)=true ∧ ∀ k,k<i→p (Go.Gm.nth l k)=false:=by
 cases h:l.findIdx? p with
 | none=>
   left
   refine ⟨by unfold foundAt;rw [h],fun k hk=>?_⟩
   have:=List.findIdx?_eq_none_iff.1 h l[k] (List.getElem_mem hk)
   rw [nth_eq hk];exact this
 | some i=>
   right
   obtain ⟨h1,h2,h3⟩:=List.findIdx?_eq_some_iff_getElem.1 h
   refine ⟨i,by unfold foundAt;rw [h],h1,by rw [nth_eq h1];exact h2,fun k hk=>?_⟩
   rw [nth_eq (by omega)]
   simpa using h3 k hk
theorem inR0:inR .i64 0:=by show IntKind.min .i64≤0∧0≤IntKind.max .i64;decide
theorem cloneI_c (l:List Int) (hl:l.length≤1000000):FnG Tryz.prog 115 1 [.sl rInt l] [.star []] (PV.one) (fun v=>[rowH 3 1 rInt l v]):=by
 refine FnG.mk Tryz.func115 rfl Tryz.ntmps115 rfl (by kernel_rfl) ?_
 intro B F0 a w F hB hG hS
 obtain ⟨F,hS⟩:=hS.nm [0] [0] rfl rfl
 refine wp_seq ?_
 refine region_z hS (qf (oN (.c rfl)) trivial qz qZ) hB [2,0] [0] rfl rfl ?_
 clear hS;intro a w F hS
 refine then_n (wp_seq (wp_seq ?_))
 refine region_z hS (qM rfl rfl (qf (o_eql_nilsl Tryz.underlying35 .t) r1 qz qZ)) hB [4,2,0] [0] rfl rfl ?_
 clear hS;intro a w F hS
 obtain ⟨β4,hβ4,hS⟩:=hS.pickBool 4 rfl
 obtain ⟨F,hS⟩:=hS.nm [4,2,0] [0] rfl rfl
 refine then_n ?_
 refine cond_b hS rfl (fun hc0=>?_) (fun hc0=>?_)
 ·skip
  have hg:l = []:=hβ4 hc0
  refine wp_seq ?_
  refine region_z hS (qf (oN (.c rfl)) trivial qz qZ) hB [2,0] [0] rfl rfl ?_
  clear hS;intro a w F hS
  refine then_n (wp_ret (then_r ?_))
  have hS:=hS.fresh 1 rfl
  have hS:=hS.turn 1 rfl (nilRow (T:=3) (sz:=1) (R:=rInt))
  have hS:=hS.turn 1 rfl (r':=RS.hp (rowH 3 1 rInt l (.slice none 0 0))) (fun _ _ _ _ h=>by rw [hg];exact h)
  refine ret_N1 (h':=fun v=>rowH 3 1 rInt l v) hG hS rfl (.tmp rfl .nil) (.one .one) rfl
 have hg:l = [] ++ l:=rfl
 refine wp_skip (then_n (wp_seq ?_))
 refine region_q hS (qf (o_buildSlice0 (R:=rInt) (sz:=1) 101 Tryz.underlying35 (by kernel_rfl)) trivial qz (qM rfl rfl (qf (o_append (sz:=1) (bs:=8) 101 (.mk' Tryz.underlying35 (by kernel_rfl) (by kernel_rfl)) (by intro x;rfl) .same (.sl .t) (by simp only [List.length_append,List.length_nil];omega) (by decide)) ⟨rfl,rfl,trivial⟩ ⟨rfl,trivial⟩ (qN rfl rfl qZ)))) hB ?_
 clear hS;intro a w F hS
 replace hS:=hS.sub
 obtain ⟨F,hS⟩:=hS.nm [2] [101,0] rfl rfl
 try dsimp only [RS.sub,SF.sub,CF.sub,csub,Anc.sub,List.map,stCells,xL,xM,Nat.reduceAdd,xD,xE,xT,xU,xC,xN,zCF,rInt] at hS
 generalize Act.tau a 7=v7 at hS
 refine then_n (wp_ret ?_)
 obtain ⟨F,hS⟩:=hS.rename 101 1 rfl rfl
 have hS:=hS.turn 1 rfl (r':=RS.hp (rowH 3 1 rInt l v7)) (fun _ _ _ _ h=>by rw [hg];exact h)
 refine ret_N1 (h':=fun v=>rowH 3 1 rInt l v) hG hS rfl (.tmp rfl .nil) (.one .one) rfl
end Go.Proofs.YtcfgcpcakdknkaaGreat
