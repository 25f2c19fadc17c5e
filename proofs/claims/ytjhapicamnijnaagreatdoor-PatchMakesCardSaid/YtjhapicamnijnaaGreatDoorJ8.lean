/- Texts put together. No condition beyond those that each theorem says. -/
import Derived.Test.YtjhapicamnijnaaGreatDoorJ7
import Derived.Test.YtjhapicamnijnaaGreatDoorJ6
import Derived.Test.YtjhapicamnijnaaGreatDoorJ3
import Derived.Test.YtjhapicamnijnaaGreatDoorJ2
import Derived.Test.YtjhapicamnijnaaGreatDoorJ1
import Derived.Test.YtjhapicamnijnaaGreatDoorJ5
import Derived.Test.YtjhapicamnijnaaGreatDoorLibE
import Derived.Test.YtjhapicamnijnaaGreatDoorJ0
namespace Go.Proofs.YtjhapicamnijnaaGreatDoor
open Go Go.Gm
set_option linter.unusedVariables false
set_option linter.unusedSimpArgs false
set_option maxHeartbeats 4000000
set_option maxRecDepth 8000
theorem ZsD (b:Nat) (k:Int) (l:List (List UInt8)) (hs:∀ x ∈ l,x.length≤1000000) (hn:l.length≤1000000) (hl:(ZP k).least≤(l.length:Int)+1):FnG Tryz.prog 39 1 [.is (.pointer (some ⟨b,0,none⟩)),.sl rS l] [ZiC 43 ((rCmd (zeroC k)).map CF.pv) (.pointer (some ⟨b,0,none⟩))] (.int .i64 (fillR k l).2) (fun _=>[ZiC 43 ((rCmd (fillR k l).1).map CF.pv) (.pointer (some ⟨b,0,none⟩))]):=by
 refine FnG.mk Tryz.func39 rfl Tryz.ntmps39 rfl (by kernel_rfl) ?_
 intro B F0 a w F hB hG hS
 replace hS:=hS.turn 1 rfl (r':=.pt (.val (.pointer (some ⟨b,0,none⟩))) 43 [.pv (.int .i64 k),.pv (.int .i64 0),.pv (.bool false),.pv (.sl rOp []),.pv (.int .i64 0),.pv (.sl rInt []),.pv (.int .i64 0),.pv (.int .i64 0),.pv (.int .i64 0),.pv (.int .i64 0)]) (fun τ w f y h=>Zqu rfl τ w f y h)
 replace hS:=hS.nm [1,0] [1,0] rfl rfl
 obtain ⟨F,hS⟩:=hS
 refine wp_seq ?_
 refine Za hS (qI qZ) hB [4,1,0] [1,0] rfl rfl fun a w F hS=>Zb (wp_seq ?_)
 refine Za hS (qI qZ) hB [4,1,0] [1,0] rfl rfl fun a w F hS=>Zb (wp_seq ?_)
 refine Za hS (qC qZ) hB [4,1,0] [1,0] rfl rfl fun a w F hS=>Zb (wp_seq (wp_seq ?_))
 refine Za hS (qM rfl rfl (qf (o_nilCheck 1 .is (by rfl)) r1 r1 (qf (oF 0 1 .adr) r1 r1 (qa 1 r1 r1 qZ)))) hB [10,4,1,0] [1,0] rfl rfl fun a w F hS=>Zb (wp_block (wp_seq (wp_seq ?_)))
 refine Za hS (qf (o_eql .t qi) r1 qz (qN rfl rfl qZ)) hB [11,10,4,1,0] [1,0] rfl rfl fun a w F hS=>Zb ?_
 refine Zd hS rfl (fun hc0=>?_) (fun hc0=>?_)
 ·skip
  have hk:k=1∨k=2:=by first | exact .inl (of_decide_eq_true hc0) | exact .inr (of_decide_eq_true hc0)
  have hr:fillR k l=({zeroC k with tx:=(txR l).1},(txR l).2):=by unfold fillR;rw [if_pos hk]
  have hlm:2≤l.length:=by
    rcases hk with hk | hk
    · subst hk;have h9:(3:Int)≤(l.length:Int)+1:=hl;omega
    · subst hk;have h9:(3:Int)≤(l.length:Int)+1:=hl;omega
  refine wp_skip (Zb ?_)
  refine Zd hS rfl (fun hc1=>?_) (fun hc1=>?_)
  ·skip
   have hk:k=1∨k=2:=by first | exact .inl (of_decide_eq_true hc1) | exact .inr (of_decide_eq_true hc1)
   have hr:fillR k l=({zeroC k with tx:=(txR l).1},(txR l).2):=by unfold fillR;rw [if_pos hk]
   have hlm:2≤l.length:=by
     rcases hk with hk | hk
     · subst hk;have h9:(3:Int)≤(l.length:Int)+1:=hl;omega
     · subst hk;have h9:(3:Int)≤(l.length:Int)+1:=hl;omega
   refine wp_seq ?_
   refine Za hS (qM rfl rfl (qM rfl rfl (qf (oP (ZdZ l hs hn hlm) Tryz.func75 (Args.one .t)) r1 qz (qM rfl rfl (qf (o_extract .t rfl) r1 qz (qf (o_extract .t rfl) r1 qz (qf (o_nilCheck 1 .is (by rfl)) r1 r1 (qf (oF 1 1 .adr) r1 r1 (qf (oA 3 1 .adr (.conv .t .agg)) r2 r1 (qN rfl rfl qZ)))))))))) hB [5,4,1,0] [1,0] rfl rfl fun a w F hS=>Zb (wp_seq ?_)
   refine Za hS (qM rfl rfl (qN rfl rfl qZ)) hB [4,1,0] [1,0] rfl rfl fun a w F hS=>Zb (wp_ret (Zg (Ze ?_)))
   replace hS:=hS.turn 1 rfl (r':=RS.hp (ZiC 43 ((rCmd (fillR k l).1).map CF.pv) (.pointer (some ⟨b,0,none⟩)))) (fun τ w f y h=>ZcX rfl τ w f y (by rw [hr];exact h))
   refine Zay hG hS rfl (.tmp rfl .nil) (.one (.int (by rw [hr]))) rfl
  exact Bool.noConfusion (hc0.symm.trans hc1)
 have hnk:=of_decide_eq_false hc0
 refine Za hS (qf (o_eql .t qi) r1 qz (qN rfl rfl qZ)) hB [11,10,4,1,0] [1,0] rfl rfl fun a w F hS=>Zb ?_
 refine Zd hS rfl (fun hc2=>?_) (fun hc2=>?_)
 ·skip
  have hk:k=1∨k=2:=by first | exact .inl (of_decide_eq_true hc2) | exact .inr (of_decide_eq_true hc2)
  have hr:fillR k l=({zeroC k with tx:=(txR l).1},(txR l).2):=by unfold fillR;rw [if_pos hk]
  have hlm:2≤l.length:=by
    rcases hk with hk | hk
    · subst hk;have h9:(3:Int)≤(l.length:Int)+1:=hl;omega
    · subst hk;have h9:(3:Int)≤(l.length:Int)+1:=hl;omega
  refine wp_seq ?_
  refine Za hS (qM rfl rfl (qM rfl rfl (qf (oP (ZdZ l hs hn hlm) Tryz.func75 (Args.one .t)) r1 qz (qM rfl rfl (qf (o_extract .t rfl) r1 qz (qf (o_extract .t rfl) r1 qz (qf (o_nilCheck 1 .is (by rfl)) r1 r1 (qf (oF 1 1 .adr) r1 r1 (qf (oA 3 1 .adr (.conv .t .agg)) r2 r1 (qN rfl rfl qZ)))))))))) hB [5,4,1,0] [1,0] rfl rfl fun a w F hS=>Zb (wp_seq ?_)
  refine Za hS (qM rfl rfl (qN rfl rfl qZ)) hB [4,1,0] [1,0] rfl rfl fun a w F hS=>Zb (wp_ret (Zg (Ze ?_)))
  replace hS:=hS.turn 1 rfl (r':=RS.hp (ZiC 43 ((rCmd (fillR k l).1).map CF.pv) (.pointer (some ⟨b,0,none⟩)))) (fun τ w f y h=>ZcX rfl τ w f y (by rw [hr];exact h))
  refine Zay hG hS rfl (.tmp rfl .nil) (.one (.int (by rw [hr]))) rfl
 have hnk:=of_decide_eq_false hc2
 refine wp_seq ?_
 refine Za hS (qf (o_eql .t qi) r1 qz (qN rfl rfl qZ)) hB [23,4,1,0] [1,0] rfl rfl fun a w F hS=>Zb ?_
 refine Zd hS rfl (fun hc3=>?_) (fun hc3=>?_)
 ·skip
  have hk:=of_decide_eq_true hc3
  have hlm:1≤l.length:=by subst hk;have h9:(2:Int)≤(l.length:Int)+1:=hl;omega
  refine wp_seq ?_
  refine Za hS (qM rfl rfl (qM rfl rfl (qf (o_indexAddr_sl (sz:=1) (.mk Tryz.underlying34 (by kernel_rfl)) (by intro x;rfl) .t qi (by decide) (by omega)) r1 qz (qf (oR false 1 .t) r1 qz (qf (oP (phen_c (nth l 0)) Tryz.func76 (Args.one .t)) r1 qz (qf (o_nilCheck 1 .is (by rfl)) r1 r1 (qf (oF 9 1 .adr) r1 r1 (qf (o_store1 1 .adr .t one_int (by kernel_rfl) (by kernel_rfl)) r2 r1 qZ)))))))) hB [4,1,0] [1,0] rfl rfl fun a w F hS=>Zb (wp_seq (wp_seq ?_))
  refine Za hS (qM rfl rfl (qf (o_nilCheck 1 .is (by rfl)) r1 r1 (qf (oF 9 1 .adr) r1 r1 (qa 1 r1 r1 (qf (o_eql .t qi) r1 qz qZ))))) hB [36,4,1,0] [1,0] rfl rfl fun a w F hS=>Zb ?_
  refine Zd hS rfl (fun hc4=>?_) (fun hc4=>?_)
  ·skip
   have hp:phenR (nth l 0)=0:=by simpa using hc4
   have hr:fillR k l=({zeroC k with phen:=phenR (nth l 0)},11):=by unfold fillR;rw [if_neg (by omega),if_pos hk,if_pos hp]
   refine wp_seq ?_
   refine Za hS (qI qZ) hB [4,1,0] [1,0] rfl rfl fun a w F hS=>Zb (wp_ret (Ze (Zg (Ze ?_))))
   replace hS:=hS.turn 1 rfl (r':=RS.hp (ZiC 43 ((rCmd (fillR k l).1).map CF.pv) (.pointer (some ⟨b,0,none⟩)))) (fun τ w f y h=>ZcX rfl τ w f y (by rw [hr];exact h))
   refine Zay hG hS rfl (.tmp rfl .nil) (.one (.int (by rw [hr]))) rfl
  have hp:¬ phenR (nth l 0)=0:=by simpa using hc4
  have hr:fillR k l=({zeroC k with phen:=phenR (nth l 0)},0):=by unfold fillR;rw [if_neg (by omega),if_pos hk,if_neg hp]
  refine wp_skip (Zb (wp_seq ?_))
  refine Za hS (qI qZ) hB [4,1,0] [1,0] rfl rfl fun a w F hS=>Zb (wp_ret (Zg (Ze ?_)))
  replace hS:=hS.turn 1 rfl (r':=RS.hp (ZiC 43 ((rCmd (fillR k l).1).map CF.pv) (.pointer (some ⟨b,0,none⟩)))) (fun τ w f y h=>ZcX rfl τ w f y (by rw [hr];exact h))
  refine Zay hG hS rfl (.tmp rfl .nil) (.one (.int (by rw [hr]))) rfl
 have hnk:=of_decide_eq_false hc3
 refine wp_skip (Zh (Zb (wp_seq ?_)))
 refine Za hS (qM rfl rfl (qf (oP (Zm0 l hs hn) Tryz.func77 (Args.one .t)) r1 qz (qM rfl rfl (qf (o_extract .t rfl) r1 qz (qf (o_extract .t rfl) r1 qz (qN rfl rfl (qN rfl rfl qZ))))))) hB [6,5,4,0] [1,0] rfl rfl fun a w F hS=>Zb (wp_seq (wp_seq ?_))
 refine Za hS (qM rfl rfl (qf (o_neq .t qi) r1 qz qZ)) hB [43,6,5,4,0] [1,0] rfl rfl fun a w F hS=>Zb ?_
 refine Zd hS rfl (fun hc5=>?_) (fun hc5=>?_)
 ·skip
  have hw:(numsR l).2≠0:=by simpa using hc5
  have hr:fillR k l=(zeroC k,(numsR l).2):=by unfold fillR;rw [if_neg (by omega),if_neg (by omega),if_pos hw]
  refine wp_seq ?_
  refine Za hS (qM rfl rfl (qN rfl rfl qZ)) hB [6,4,0] [1,0] rfl rfl fun a w F hS=>Zb (wp_ret (Ze ?_))
  replace hS:=hS.turn 1 rfl (r':=RS.hp (ZiC 43 ((rCmd (fillR k l).1).map CF.pv) (.pointer (some ⟨b,0,none⟩)))) (fun τ w f y h=>ZcX rfl τ w f y (by rw [hr];exact h))
  refine Zay hG hS rfl (.tmp rfl .nil) (.one (.int (by rw [hr]))) rfl
 have hw:¬ (numsR l).2≠0:=by simpa using hc5
 have hnl:(numsR l).1.length=l.length:=by rw [(ZpY (Classical.not_not.1 hw)).1,ZhG]
 refine wp_skip (Zb (wp_seq (wp_seq ?_)))
 refine Za hS (qM rfl rfl (qf (o_nilCheck 1 .is (by rfl)) r1 r1 (qf (oF 0 1 .adr) r1 r1 (qa 1 r1 r1 qZ)))) hB [48,6,4,0] [1,0] rfl rfl fun a w F hS=>Zb (wp_block (wp_seq (wp_seq ?_)))
 refine Za hS (qf (o_eql .t qi) r1 qz (qN rfl rfl qZ)) hB [49,48,6,4,0] [1,0] rfl rfl fun a w F hS=>Zb ?_
 refine Zd hS rfl (fun hc6=>?_) (fun hc6=>?_)
 ·skip
  have hk:k=3∨k=10:=by first | exact .inl (of_decide_eq_true hc6) | exact .inr (of_decide_eq_true hc6)
  have hlm:1≤l.length:=by
    rcases hk with hk | hk
    · subst hk;have h9:(2:Int)≤(l.length:Int)+1:=hl;omega
    · subst hk;have h9:(2:Int)≤(l.length:Int)+1:=hl;omega
  have hr:fillR k l=({zeroC k with id:=nth (numsR l).1 0},0):=by unfold fillR;rw [if_neg (by omega),if_neg (by omega),if_neg hw,if_pos hk]
  refine wp_skip (Zb ?_)
  refine Zd hS rfl (fun hc7=>?_) (fun hc7=>?_)
  ·skip
   have hk:k=3∨k=10:=by first | exact .inl (of_decide_eq_true hc7) | exact .inr (of_decide_eq_true hc7)
   have hlm:1≤l.length:=by
     rcases hk with hk | hk
     · subst hk;have h9:(2:Int)≤(l.length:Int)+1:=hl;omega
     · subst hk;have h9:(2:Int)≤(l.length:Int)+1:=hl;omega
   have hr:fillR k l=({zeroC k with id:=nth (numsR l).1 0},0):=by unfold fillR;rw [if_neg (by omega),if_neg (by omega),if_neg hw,if_pos hk]
   refine Za hS (qM rfl rfl (qM rfl rfl (qf (o_indexAddr_sl (sz:=1) (.mk Tryz.underlying39 (by kernel_rfl)) (by intro x;rfl) .t qi (by decide) (by omega)) r1 qz (qf (oR false 1 .t) r1 qz (qf (o_nilCheck 1 .is (by rfl)) r1 r1 (qf (oF 7 1 .adr) r1 r1 (qf (o_store1 1 .adr .t one_int (by kernel_rfl) (by kernel_rfl)) r2 r1 qZ))))))) hB [4] [1,0] rfl rfl fun a w F hS=>Zh (Zb (wp_seq ?_))
   refine Za hS (qI qZ) hB [4] [1,0] rfl rfl fun a w F hS=>Zb (wp_ret ?_)
   replace hS:=hS.turn 1 rfl (r':=RS.hp (ZiC 43 ((rCmd (fillR k l).1).map CF.pv) (.pointer (some ⟨b,0,none⟩)))) (fun τ w f y h=>ZcX rfl τ w f y (by rw [hr];exact h))
   refine Zay hG hS rfl (.tmp rfl .nil) (.one (.int (by rw [hr]))) rfl
  exact Bool.noConfusion (hc6.symm.trans hc7)
 have hnk:=of_decide_eq_false hc6
 refine Za hS (qf (o_eql .t qi) r1 qz (qN rfl rfl qZ)) hB [49,48,6,4,0] [1,0] rfl rfl fun a w F hS=>Zb ?_
 refine Zd hS rfl (fun hc8=>?_) (fun hc8=>?_)
 ·skip
  have hk:k=3∨k=10:=by first | exact .inl (of_decide_eq_true hc8) | exact .inr (of_decide_eq_true hc8)
  have hlm:1≤l.length:=by
    rcases hk with hk | hk
    · subst hk;have h9:(2:Int)≤(l.length:Int)+1:=hl;omega
    · subst hk;have h9:(2:Int)≤(l.length:Int)+1:=hl;omega
  have hr:fillR k l=({zeroC k with id:=nth (numsR l).1 0},0):=by unfold fillR;rw [if_neg (by omega),if_neg (by omega),if_neg hw,if_pos hk]
  refine Za hS (qM rfl rfl (qM rfl rfl (qf (o_indexAddr_sl (sz:=1) (.mk Tryz.underlying39 (by kernel_rfl)) (by intro x;rfl) .t qi (by decide) (by omega)) r1 qz (qf (oR false 1 .t) r1 qz (qf (o_nilCheck 1 .is (by rfl)) r1 r1 (qf (oF 7 1 .adr) r1 r1 (qf (o_store1 1 .adr .t one_int (by kernel_rfl) (by kernel_rfl)) r2 r1 qZ))))))) hB [4] [1,0] rfl rfl fun a w F hS=>Zh (Zb (wp_seq ?_))
  refine Za hS (qI qZ) hB [4] [1,0] rfl rfl fun a w F hS=>Zb (wp_ret ?_)
  replace hS:=hS.turn 1 rfl (r':=RS.hp (ZiC 43 ((rCmd (fillR k l).1).map CF.pv) (.pointer (some ⟨b,0,none⟩)))) (fun τ w f y h=>ZcX rfl τ w f y (by rw [hr];exact h))
  refine Zay hG hS rfl (.tmp rfl .nil) (.one (.int (by rw [hr]))) rfl
 have hnk:=of_decide_eq_false hc8
 refine wp_seq ?_
 refine Za hS (qf (o_eql .t qi) r1 qz (qN rfl rfl qZ)) hB [58,48,6,4,0] [1,0] rfl rfl fun a w F hS=>Zb ?_
 refine Zd hS rfl (fun hc9=>?_) (fun hc9=>?_)
 ·skip
  have hk:=of_decide_eq_true hc9
  have hlm:1≤l.length:=by subst hk;have h9:(2:Int)≤(l.length:Int)+1:=hl;omega
  have hr:fillR k l=({zeroC k with order:=⟨nth (numsR l).1 0,(numsR l).1.drop 1⟩},0):=by unfold fillR;rw [if_neg (by omega),if_neg (by omega),if_neg hw,if_neg (by omega),if_pos hk]
  refine Zz hS (qM rfl rfl (qM rfl rfl (qf (o_indexAddr_sl (sz:=1) (.mk Tryz.underlying39 (by kernel_rfl)) (by intro x;rfl) .t qi (by decide) (by omega)) r1 qz (qf (oR false 1 .t) r1 qz (qM rfl rfl (qf (o_slice_lo (sz:=1) (.mk Tryz.underlying39 (by kernel_rfl)) (by intro x;rfl) .t qi (by decide) (by omega)) r1 qz (qf (oB [(0,.tmp 63),(1,.tmp 65)] [.int .i64 0,.slice none 0 0] [(0,1),(1,1)] (.one rfl .t one_int (by kernel_rfl) (.one rfl .t one_sl (by kernel_rfl) .nil))) r2 qz (qf (o_nilCheck 1 .is (by rfl)) r1 r1 (qf (oF 4 1 .adr) r1 r1 (qf (oA 2 1 .adr .t) r2 r1 qZ)))))))))) hB [4] [1,0] rfl rfl fun a w F hS=>?_
  try dsimp only [List.map,Zf,xL,xM,Nat.reduceAdd,xD,xE,xT,xU,xC,xN,zCF,ldSF] at hS
  refine Zh (Zb (wp_seq ?_))
  refine Za hS (qI qZ) hB [4] [1,0] rfl rfl fun a w F hS=>Zb (wp_ret ?_)
  replace hS:=hS.turn 1 rfl (r':=RS.hp (ZiC 43 ((rCmd (fillR k l).1).map CF.pv) (.pointer (some ⟨b,0,none⟩)))) (fun τ w f y h=>ZcX rfl τ w f y (by rw [hr];exact h))
  refine Zay hG hS rfl (.tmp rfl .nil) (.one (.int (by rw [hr]))) rfl
 have hnk:=of_decide_eq_false hc9
 refine wp_seq ?_
 refine Za hS (qf (o_eql .t qi) r1 qz (qN rfl rfl qZ)) hB [69,6,4,0] [1,0] rfl rfl fun a w F hS=>Zb ?_
 refine Zd hS rfl (fun hc10=>?_) (fun hc10=>?_)
 ·skip
  have hk:=of_decide_eq_true hc10
  have hlm:3≤l.length:=by subst hk;have h9:(4:Int)≤(l.length:Int)+1:=hl;omega
  have hr:fillR k l=({zeroC k with key:=nth (numsR l).1 0,id:=nth (numsR l).1 1,place:=nth (numsR l).1 2},0):=by unfold fillR;rw [if_neg (by omega),if_neg (by omega),if_neg hw,if_neg (by omega),if_neg (by omega),if_pos hk]
  refine Zz hS (qM rfl rfl (qM rfl rfl (qM rfl rfl (qM rfl rfl (qf (o_indexAddr_sl (sz:=1) (.mk Tryz.underlying39 (by kernel_rfl)) (by intro x;rfl) .t qi (by decide) (by omega)) r1 qz (qf (oR false 1 .t) r1 qz (qM rfl rfl (qf (o_indexAddr_sl (sz:=1) (.mk Tryz.underlying39 (by kernel_rfl)) (by intro x;rfl) .t qi (by decide) (by omega)) r1 qz (qf (oR false 1 .t) r1 qz (qM rfl rfl (qf (o_indexAddr_sl (sz:=1) (.mk Tryz.underlying39 (by kernel_rfl)) (by intro x;rfl) .t qi (by decide) (by omega)) r1 qz (qf (oR false 1 .t) r1 qz (qf (o_nilCheck 1 .is (by rfl)) r1 r1 (qf (oF 6 1 .adr) r1 r1 (qf (o_store1 1 .adr .t one_int (by kernel_rfl) (by kernel_rfl)) r2 r1 (qf (o_nilCheck 1 .is (by rfl)) r1 r1 (qf (oF 7 1 .adr) r1 r1 (qf (o_store1 1 .adr .t one_int (by kernel_rfl) (by kernel_rfl)) r2 r1 (qf (o_nilCheck 1 .is (by rfl)) r1 r1 (qf (oF 8 1 .adr) r1 r1 (qf (o_store1 1 .adr .t one_int (by kernel_rfl) (by kernel_rfl)) r2 r1 qZ))))))))))))))))))))) hB [4] [1,0] rfl rfl fun a w F hS=>?_
  try dsimp only [List.map,Zf,xL,xM,Nat.reduceAdd,xD,xE,xT,xU,xC,xN,zCF,ldSF] at hS
  refine Zh (Zb (wp_seq ?_))
  refine Za hS (qI qZ) hB [4] [1,0] rfl rfl fun a w F hS=>Zb (wp_ret ?_)
  replace hS:=hS.turn 1 rfl (r':=RS.hp (ZiC 43 ((rCmd (fillR k l).1).map CF.pv) (.pointer (some ⟨b,0,none⟩)))) (fun τ w f y h=>ZcX rfl τ w f y (by rw [hr];exact h))
  refine Zay hG hS rfl (.tmp rfl .nil) (.one (.int (by rw [hr]))) rfl
 have hnk:=of_decide_eq_false hc10
 have hr:fillR k l=(zeroC k,0):=by unfold fillR;rw [if_neg (by omega),if_neg (by omega),if_neg hw,if_neg (by omega),if_neg (by omega),if_neg (by omega)]
 refine wp_skip (Zh (Zb (wp_seq ?_)))
 refine Za hS (qI qZ) hB [4] [1,0] rfl rfl fun a w F hS=>Zb (wp_ret ?_)
 replace hS:=hS.turn 1 rfl (r':=RS.hp (ZiC 43 ((rCmd (fillR k l).1).map CF.pv) (.pointer (some ⟨b,0,none⟩)))) (fun τ w f y h=>ZcX rfl τ w f y (by rw [hr];exact h))
 refine Zay hG hS rfl (.tmp rfl .nil) (.one (.int (by rw [hr]))) rfl
theorem Zq2 {l:List (List UInt8)} {x:List UInt8} (h:x ∈ l):x.length≤sumL l:=by
 unfold sumL
 induction l with
 | nil=>simp at h
 | cons y r ih=>
   rw [List.map_cons,List.sum_cons]
   rcases List.mem_cons.1 h with rfl | h
   · omega
   · have:=ih h;omega
theorem ZrF (s0:List UInt8) (hs:s0.length≤1000000):FnP Tryz.prog 12 [.bs s0] (.tup [.agg (rCmd (ZbS s0).1),.int .i64 (ZbS s0).2]):=by
 refine FnP.mk Tryz.func12 rfl Tryz.ntmps12 rfl ?_
 intro B a w F hB hfr hS
 have hws:=ZjR s0
 refine wp_seq ?_
 refine Zc hS (qf (oH [.int .i64 0,.int .i64 0,.bool false,.slice none 0 0,.int .i64 0,.slice none 0 0,.int .i64 0,.int .i64 0,.int .i64 0,.int .i64 0] 101) trivial qz (qI qZ)) hB [3,2,0] [101,0] (fun _=>rfl) (fun _=>rfl) fun τ a w F hS=>?_
 try dsimp only [RS.sub,SF.sub,CF.sub,csub,Anc.sub,List.map,zCF] at hS
 generalize τ 2=v2 at hS
 refine Zb (wp_seq ?_)
 refine Za hS (qM rfl rfl (qf (oP (Zpk s0 hs) Tryz.func36 (Args.one .t)) r1 qz (qM rfl rfl (qf (o_extract .t rfl) r1 qz (qf (o_extract .t rfl) r1 qz (qN rfl rfl (qN rfl rfl qZ))))))) hB [5,4,3,2] [101,0] rfl rfl fun a w F hS=>Zb (wp_seq (wp_block (wp_seq ?_)))
 refine Za hS (qM rfl rfl (qf (o_neq .t qi) r1 qz (qN rfl rfl qZ))) hB [14,5,4,3,2] [101,0] rfl rfl fun a w F hS=>Zb ?_
 refine Zd hS rfl (fun hc0=>?_) (fun hc0=>?_)
 ·skip
  have hw:(wordsR s0).2≠0:=by simpa using hc0
  have hr:ZbS s0=(zeroC 0,(wordsR s0).2):=by unfold ZbS;rw [if_pos hw]
  refine wp_seq ?_
  refine Za hS (qf (oB [] [.int .i64 0,.int .i64 0,.bool false,.slice none 0 0,.int .i64 0,.slice none 0 0,.int .i64 0,.int .i64 0,.int .i64 0,.int .i64 0] [(0,1),(1,3),(4,2),(6,1),(7,1),(8,1),(9,1)] .nil) trivial qz (qM rfl rfl (qs 10 101 r2 r1 (qN rfl rfl qZ)))) hB [4,3,2] [101,0] rfl rfl fun a w F hS=>Zb (wp_ret (Zg (Ze ?_)))
  refine Zt hfr hS rfl (.cl 101 true 10 rfl rfl (.tmp rfl .nil)) (.two (.aggLe rfl (by rw [hr];exact (by refine ⟨?_,?_,?_,?_,?_,?_,?_,?_,?_,?_,trivial⟩ <;> first | exact PVLe.refl | exact PVLe.nilSl))) (.int (by rw [hr])))
 have hw:¬ (wordsR s0).2≠0:=by simpa using hc0
 have hp:ZbS s0=Zdt (wordsR s0).1:=by unfold ZbS;rw [if_neg hw]
 refine wp_seq ?_
 refine Za hS (qM rfl rfl (qu Tryz.underlying34 r1 (qf (o_eql .t qi) r1 qz (qN rfl rfl qZ)))) hB [19,4,3,2] [101,0] rfl rfl fun a w F hS=>Zb ?_
 refine Zd hS rfl (fun hc1=>?_) (fun hc1=>?_)
 ·skip
  have he:(wordsR s0).1 = []:=List.eq_nil_of_length_eq_zero (by have h9:=of_decide_eq_true hc1;omega)
  have hr:ZbS s0=(zeroC 0,12):=by rw [hp];unfold Zdt;rw [if_pos he]
  refine wp_seq ?_
  refine Za hS (qf (oB [] [.int .i64 0,.int .i64 0,.bool false,.slice none 0 0,.int .i64 0,.slice none 0 0,.int .i64 0,.int .i64 0,.int .i64 0,.int .i64 0] [(0,1),(1,3),(4,2),(6,1),(7,1),(8,1),(9,1)] .nil) trivial qz (qs 10 101 r2 r1 (qI qZ))) hB [4,3,2] [101,0] rfl rfl fun a w F hS=>Zb (wp_ret (Zg (Ze ?_)))
  refine Zt hfr hS rfl (.cl 101 true 10 rfl rfl (.tmp rfl .nil)) (.two (.aggLe rfl (by rw [hr];exact (by refine ⟨?_,?_,?_,?_,?_,?_,?_,?_,?_,?_,trivial⟩ <;> first | exact PVLe.refl | exact PVLe.nilSl))) (.int (by rw [hr])))
 have hlp:0<(wordsR s0).1.length:=by have h9:=of_decide_eq_false hc1;omega
 have he:¬ (wordsR s0).1 = []:=by intro h;rw [h] at hlp;simp at hlp
 refine wp_skip (Zh (Zb (wp_seq ?_)))
 refine Zc hS (qM rfl rfl (qf (o_indexAddr_sl (sz:=1) (.mk Tryz.underlying34 (by kernel_rfl)) (by intro x;rfl) .t qi (by decide) (by omega)) r1 qz (qf (oR false 1 .t) r1 qz (qf (oP (find_c (nth (wordsR s0).1 0)) Tryz.func37 (Args.one .t)) r1 qz (qf (oB [(0,.tmp 27)] [.int .i64 0,.int .i64 0,.bool false,.slice none 0 0,.int .i64 0,.slice none 0 0,.int .i64 0,.int .i64 0,.int .i64 0,.int .i64 0] [(0,1),(1,3),(4,2),(6,1),(7,1),(8,1),(9,1)] (.one rfl .t one_int (by kernel_rfl) .nil)) r1 qz (qf (oH [.int .i64 0,.int .i64 0,.bool false,.slice none 0 0,.int .i64 0,.slice none 0 0,.int .i64 0,.int .i64 0,.int .i64 0,.int .i64 0] 102) trivial qz (qS 10 102 r2 r1 qZ))))))) hB [6,4,3,2] [102,101,0] (fun _=>rfl) (fun _=>rfl) fun τ a w F hS=>?_
 try dsimp only [RS.sub,SF.sub,CF.sub,csub,Anc.sub,List.map,Zf,xL,xM,Nat.reduceAdd,xD,xE,xT,xU,xC,xN,zCF,ldSF] at hS
 generalize τ 6=v6 at hS
 obtain ⟨b,rfl⟩:=hS.shape 102 rfl
 replace hS:=hS.turn 102 rfl (r':=.pt (.val (.pointer (some ⟨b,0,none⟩))) 43 [.pv (.int .i64 (ZbY (nth (wordsR s0).1 0))),.pv (.int .i64 0),.pv (.bool false),.pv (.sl rOp []),.pv (.int .i64 0),.pv (.sl rInt []),.pv (.int .i64 0),.pv (.int .i64 0),.pv (.int .i64 0),.pv (.int .i64 0)]) (ZsS rfl rfl (by refine ⟨?_,?_,?_,?_,?_,?_,?_,?_,?_,?_,trivial⟩ <;> first | exact PVLe.refl | exact PVLe.nilSl))
 obtain ⟨F,hS⟩:=hS.nm [6,4,3,2] [102,101,0] rfl rfl
 refine Zb (wp_seq ?_)
 refine Zc hS (qg 0 102 r1 r1 (qa 102 r1 r1 (qf (oP (ZlL (ZbY (nth (wordsR s0).1 0))) Tryz.func38 (Args.one .t)) r1 qz (qf (oH [.string ⟨#[]⟩,.int .i64 0,.int .i64 0] 103) trivial qz (qf (oA 3 103 .same (.conv .t .agg)) r2 r1 qZ))))) hB [7,6,4,3,2] [103,102,101,0] (fun _=>rfl) (fun _=>rfl) fun τ a w F hS=>?_
 try dsimp only [RS.sub,SF.sub,CF.sub,csub,Anc.sub,List.map,Zf,xL,xM,Nat.reduceAdd,xD,xE,xT,xU,xC,xN,zCF,ldSF] at hS
 generalize τ 7=v7 at hS
 refine Zb (wp_seq (wp_block (wp_seq ?_)))
 refine Za hS (qg 0 102 r1 r1 (qa 102 r1 r1 (qf (o_eql .t qi) r1 qz (qN rfl rfl qZ)))) hB [32,7,6,4,3,2] [103,102,101,0] rfl rfl fun a w F hS=>Zb ?_
 refine Zd hS rfl (fun hc2=>?_) (fun hc2=>?_)
 ·skip
  have hk0:(ZbY (nth (wordsR s0).1 0))=0:=of_decide_eq_true hc2
  have hr:ZbS s0=(zeroC 0,11):=by rw [hp];unfold Zdt;rw [if_neg he,if_pos hk0]
  refine wp_seq ?_
  refine Za hS (qf (oB [] [.int .i64 0,.int .i64 0,.bool false,.slice none 0 0,.int .i64 0,.slice none 0 0,.int .i64 0,.int .i64 0,.int .i64 0,.int .i64 0] [(0,1),(1,3),(4,2),(6,1),(7,1),(8,1),(9,1)] .nil) trivial qz (qs 10 101 r2 r1 (qI qZ))) hB [6,4,3,2] [103,102,101,0] rfl rfl fun a w F hS=>Zb (wp_ret (Zg (Ze ?_)))
  refine Zt hfr hS rfl (.cl 101 true 10 rfl rfl (.tmp rfl .nil)) (.two (.aggLe rfl (by rw [hr];exact (by refine ⟨?_,?_,?_,?_,?_,?_,?_,?_,?_,?_,trivial⟩ <;> first | exact PVLe.refl | exact PVLe.nilSl))) (.int (by rw [hr])))
 have hk0:¬ (ZbY (nth (wordsR s0).1 0))=0:=of_decide_eq_false hc2
 refine wp_seq ?_
 refine Za hS (qM rfl rfl (qu Tryz.underlying34 r1 (qg 1 103 r1 r1 (qa 103 r1 r1 (qf (Zbq .t .t) r2 qz (qN rfl rfl qZ)))))) hB [37,7,6,4,3,2] [103,102,101,0] rfl rfl fun a w F hS=>Zb ?_
 refine Zd hS rfl (fun hc3=>?_) (fun hc3=>?_)
 ·skip
  have hk1:=of_decide_eq_true hc3
  have hr:ZbS s0=(zeroC 0,12):=by rw [hp];unfold Zdt;rw [if_neg he,if_neg hk0,if_pos hk1]
  refine wp_seq ?_
  refine Za hS (qf (oB [] [.int .i64 0,.int .i64 0,.bool false,.slice none 0 0,.int .i64 0,.slice none 0 0,.int .i64 0,.int .i64 0,.int .i64 0,.int .i64 0] [(0,1),(1,3),(4,2),(6,1),(7,1),(8,1),(9,1)] .nil) trivial qz (qs 10 101 r2 r1 (qI qZ))) hB [6,4,3,2] [103,102,101,0] rfl rfl fun a w F hS=>Zb (wp_ret (Zg (Ze ?_)))
  refine Zt hfr hS rfl (.cl 101 true 10 rfl rfl (.tmp rfl .nil)) (.two (.aggLe rfl (by rw [hr];exact (by refine ⟨?_,?_,?_,?_,?_,?_,?_,?_,?_,?_,trivial⟩ <;> first | exact PVLe.refl | exact PVLe.nilSl))) (.int (by rw [hr])))
 have hk1:=of_decide_eq_false hc3
 refine wp_seq ?_
 refine Za hS (qM rfl rfl (qu Tryz.underlying34 r1 (qg 2 103 r1 r1 (qa 103 r1 r1 (qf (ZaR .t .t) r2 qz (qN rfl rfl qZ)))))) hB [44,6,4,3,2] [103,102,101,0] rfl rfl fun a w F hS=>Zb ?_
 refine Zd hS rfl (fun hc4=>?_) (fun hc4=>?_)
 ·skip
  have hk2:=of_decide_eq_true hc4
  have hr:ZbS s0=(zeroC 0,13):=by rw [hp];unfold Zdt;rw [if_neg he,if_neg hk0,if_neg hk1,if_pos hk2]
  refine wp_seq ?_
  refine Za hS (qf (oB [] [.int .i64 0,.int .i64 0,.bool false,.slice none 0 0,.int .i64 0,.slice none 0 0,.int .i64 0,.int .i64 0,.int .i64 0,.int .i64 0] [(0,1),(1,3),(4,2),(6,1),(7,1),(8,1),(9,1)] .nil) trivial qz (qs 10 101 r2 r1 (qI qZ))) hB [6,4,3,2] [103,102,101,0] rfl rfl fun a w F hS=>Zb (wp_ret (Zg (Ze ?_)))
  refine Zt hfr hS rfl (.cl 101 true 10 rfl rfl (.tmp rfl .nil)) (.two (.aggLe rfl (by rw [hr];exact (by refine ⟨?_,?_,?_,?_,?_,?_,?_,?_,?_,?_,trivial⟩ <;> first | exact PVLe.refl | exact PVLe.nilSl))) (.int (by rw [hr])))
 have hk2:=of_decide_eq_false hc4
 have hdl:((wordsR s0).1.drop 1).length=(wordsR s0).1.length - 1:=by rw [List.length_drop]
 refine wp_skip (Zh (Zb (wp_seq (wp_seq ?_))))
 refine Za hS (qM rfl rfl (qf (o_slice_lo (sz:=1) (.mk Tryz.underlying34 (by kernel_rfl)) (by intro x;rfl) .t qi (by decide) (by omega)) r1 qz (qf (o_callB (cells:=[.pv _,.pv _,.pv _,.pv _,.pv _,.pv _,.pv _,.pv _,.pv _,.pv _]) (cells':=[.pv _,.pv _,.pv _,.pv _,.pv _,.pv _,.pv _,.pv _,.pv _,.pv _]) 102 rfl rfl (ZsD b (ZbY (nth (wordsR s0).1 0)) ((wordsR s0).1.drop 1) (fun x hx=>by have:=Zq2 (List.mem_of_mem_drop hx);omega) (by omega) (by omega)) Tryz.func39 rfl (by kernel_rfl) (Args.two .t .t)) r2 r1 (qN rfl rfl qZ)))) hB [8,6,3,2] [103,102,101,0] rfl rfl fun a w F hS=>Zb (wp_seq ?_)
 refine Za hS (qM rfl rfl (qf (o_neq .t qi) r1 qz qZ)) hB [55,8,6,3,2] [103,102,101,0] rfl rfl fun a w F hS=>Zb ?_
 refine Zd hS rfl (fun hc5=>?_) (fun hc5=>?_)
 ·skip
  have hk3:(fillR (ZbY (nth (wordsR s0).1 0)) ((wordsR s0).1.drop 1)).2≠0:=by simpa using hc5
  have hr:ZbS s0=(zeroC 0,(fillR (ZbY (nth (wordsR s0).1 0)) ((wordsR s0).1.drop 1)).2):=by rw [hp];unfold Zdt;rw [if_neg he,if_neg hk0,if_neg hk1,if_neg hk2,if_pos hk3]
  refine wp_seq ?_
  refine Za hS (qf (oB [] [.int .i64 0,.int .i64 0,.bool false,.slice none 0 0,.int .i64 0,.slice none 0 0,.int .i64 0,.int .i64 0,.int .i64 0,.int .i64 0] [(0,1),(1,3),(4,2),(6,1),(7,1),(8,1),(9,1)] .nil) trivial qz (qM rfl rfl (qs 10 101 r2 r1 (qN rfl rfl qZ)))) hB [6,3,2] [103,102,101,0] rfl rfl fun a w F hS=>Zb (wp_ret (Ze ?_))
  refine Zt hfr hS rfl (.cl 101 true 10 rfl rfl (.tmp rfl .nil)) (.two (.aggLe rfl (by rw [hr];exact (by refine ⟨?_,?_,?_,?_,?_,?_,?_,?_,?_,?_,trivial⟩ <;> first | exact PVLe.refl | exact PVLe.nilSl))) (.int (by rw [hr])))
 have hk3:¬ (fillR (ZbY (nth (wordsR s0).1 0)) ((wordsR s0).1.drop 1)).2≠0:=by simpa using hc5
 have hr:ZbS s0=((fillR (ZbY (nth (wordsR s0).1 0)) ((wordsR s0).1.drop 1)).1,0):=by rw [hp];unfold Zdt;rw [if_neg he,if_neg hk0,if_neg hk1,if_neg hk2,if_neg hk3]
 refine wp_skip (Zb (wp_seq ?_))
 refine Za hS (qe 10 102 r1 r1 (qs 10 101 r2 r1 (qI qZ))) hB [3,2] [103,102,101,0] rfl rfl fun a w F hS=>Zb (wp_ret ?_)
 refine Zt hfr hS rfl (.cl 101 true 10 rfl rfl (.tmp rfl .nil)) (.two (.aggU rfl (by rw [hr] <;> rfl)) (.int (by rw [hr])))
theorem Zb2:∀ (r:List (List UInt8)) (x:List UInt8),Zab (x :: r)=x++r.flatMap fun y=>32 :: y
 | [],x=>by simp [Zab]
 | y :: r,x=>by rw [Zab,Zb2 r y,List.flatMap_cons];simp
theorem ZcP (l:List Int):∀ i,i≤l.length→Zah l i=Zab ((l.map textL).take i)
 | 0,_=>rfl
 | i+1,h=>by
   have hi:i<l.length:=by omega
   rw [Zah,ZcP l i (by omega),ZnR (by simpa using hi),show nth (l.map textL) i=textL (nth l i) by rw [Zp (by simpa using hi),Zp hi];simp]
   split <;> simp
theorem Zfz (l:List Int):ZcT l=Zab (l.map textL):=by
 unfold ZcT
 rw [ZcP l _ (Nat.le_refl _),show l.length=(l.map textL).length by simp,List.take_length]
def ZdG (c:CmdD):List (List UInt8):=
 if c.kind=1∨c.kind=2 then textL c.tx.id :: (if c.tx.done=true then [99] else [97]) :: c.tx.ops.map Zap else if c.kind=3∨c.kind=10 then [textL c.id] else if c.kind=4 then (c.order.key :: c.order.txs).map textL
 else if c.kind=5 then [c.key,c.id,c.place].map textL else if c.kind=9 then [Zbr c.phen] else []
def wC (c:CmdD):List (List UInt8):=(ZP c.kind).s :: ZdG c
theorem ZkJ:∀ l:List OpD,Zfe l=(l.map Zap).flatMap fun y=>32 :: y
 | []=>rfl
 | o :: l=>by
   have:=ZkJ l
   unfold Zfe at this ⊢
   rw [List.flatMap_cons,List.map_cons,List.flatMap_cons,this]
theorem Zl3 {c:CmdD} (h:Zaj c=true):ZcA c=Zab (wC c):=by
 unfold ZcA wC
 rw [if_neg (by rw [h];decide),Zb2,Zb2]
 congr 1
 unfold ZaL ZdG
 split
 · unfold Zfa Zcc
   rw [ZkJ]
   simp only [List.flatMap_cons,List.flatMap_nil,List.append_nil]
   split <;> simp
 · split
   · rfl
   · split
     · rw [Zfz,List.map_cons,Zb2];simp
     · split
       · rw [Zfz,List.map_cons,Zb2];simp
       · split <;> rfl
theorem ZcB {x:List UInt8} (h:x≠[]) (k:∀ b ∈ x,32<b.toNat∧b.toNat<127):ZhJ x:=⟨h,fun j hj=>k _ (ZB hj)⟩
theorem Zqm {c:UInt8} (h:digit c=true):32<c.toNat∧c.toNat<127:=by
 unfold digit at h
 simp at h
 omega
theorem Zb9 {n:Int} (h:0≤n):∀ b ∈ textL n,32<b.toNat∧b.toNat<127:=fun b hb=>Zqm (List.all_eq_true.1 (ZbJ h) b hb)
theorem ZbF {n:Int} (h:0≤n):ZhJ (textL n):=ZcB (ZbQ n) (Zb9 h)
theorem ZmQ {o:OpD} (hk:ZZ o=true):ZhJ (Zap o):=by
 have hb:=Zb4 hk
 have b1:=Zb9 (n:=o.key) (by omega)
 have b2:=Zb9 (n:=o.tx) (by omega)
 have b3:=Zb9 (n:=o.nth) (by omega)
 have b0:=Zb9 (n:=0) (by omega)
 by_cases hr:o.read=true
 · by_cases h:o.tx=0
   · rw [Zdz hk hr h]
     refine ZcB (by simp) fun b hb=>?_
     simp only [List.mem_cons,List.mem_append] at hb
     rcases hb with rfl | hb | rfl | hb
     · decide
     · exact b1 b hb
     · decide
     · exact b0 b hb
   · rw [ZeN hk hr h]
     refine ZcB (by simp) fun b hb=>?_
     simp only [List.mem_cons,List.mem_append] at hb
     rcases hb with rfl | hb | rfl | hb | rfl | hb
     · decide
     · exact b1 b hb
     · decide
     · exact b2 b hb
     · decide
     · exact b3 b hb
 · rw [ZdH hk (by simpa using hr)]
   refine ZcB (by simp) fun b hb=>?_
   simp only [List.mem_cons] at hb
   rcases hb with rfl | hb
   · decide
   · exact b1 b hb
theorem Zn6 {k:Int} (h:1≤k∧k≤12):ZhJ (ZP k).s:=by
 have:(ZP k).s≠[]∧(ZP k).s.all (fun b=>decide (32<b.toNat) && decide (b.toNat<127))=true:=by
   rcases kinds h with rfl | rfl | rfl | rfl | rfl | rfl | rfl | rfl | rfl | rfl | rfl | rfl <;> decide +kernel
 refine ZcB this.1 fun b hb=>?_
 have h9:=List.all_eq_true.1 this.2 b hb
 simpa using h9
theorem ZnK {p:Int} (h:Zbr p≠[]):ZhJ (Zbr p):=by
 have hp:=(ZfM h).1
 have:(Zbr p).all (fun b=>decide (32<b.toNat) && decide (b.toNat<127))=true:=by
   have:p=1∨p=2∨p=3∨p=4∨p=5:=by omega
   rcases this with rfl | rfl | rfl | rfl | rfl <;> decide +kernel
 refine ZcB h fun b hb=>?_
 have h9:=List.all_eq_true.1 this b hb
 simpa using h9
theorem Zjk {c:CmdD} (h:Zaj c=true):∀ o ∈ c.tx.ops,ZZ o=true:=by
 unfold Zaj at h
 simp only [Bool.and_eq_true] at h
 exact fun o ho=>List.all_eq_true.1 h.2.2 o ho
theorem ZoS {c:CmdD} (h:Zaj c=true):∀ x ∈ ZdG c,ZhJ x:=by
 have hr:=Ziq h
 have hh:=Zas h
 have m1:=hr c.tx.id (by unfold ZaP;simp)
 have m2:=hr c.id (by unfold ZaP;simp)
 have m3:=hr c.order.key (by unfold ZaP;simp)
 have m4:=hr c.key (by unfold ZaP;simp)
 have m5:=hr c.place (by unfold ZaP;simp)
 have m6:∀ n ∈ c.order.txs,0≤n∧n≤2147483647:=fun n hn=>hr n (by unfold ZaP;simp [hn])
 have ho:=Zjk h
 unfold ZdG
 intro x hx
 split at hx
 · rcases List.mem_cons.1 hx with rfl | hx
   · exact ZbF m1.1
   · rcases List.mem_cons.1 hx with rfl | hx
     · split
       · exact ZcB (by simp) (fun b hb=>by simp at hb;subst hb;decide)
       · exact ZcB (by simp) (fun b hb=>by simp at hb;subst hb;decide)
     · obtain ⟨o,hm,rfl⟩:=List.mem_map.1 hx
       exact ZmQ (ho o hm)
 · split at hx
   · simp at hx;subst hx;exact ZbF m2.1
   · split at hx
     · obtain ⟨n,hm,rfl⟩:=List.mem_map.1 hx
       rcases List.mem_cons.1 hm with rfl | hm
       · exact ZbF m3.1
       · exact ZbF (m6 n hm).1
     · split at hx
       · obtain ⟨n,hm,rfl⟩:=List.mem_map.1 hx
         simp only [List.mem_cons,List.not_mem_nil,or_false] at hm
         rcases hm with rfl | rfl | rfl
         · exact ZbF m4.1
         · exact ZbF m2.1
         · exact ZbF m5.1
       · split at hx
         · rename_i hk
           simp at hx;subst hx
           exact ZnK fun hc=>hh.2.2.2 ⟨hk,hc⟩
         · simp at hx
theorem Zrv {c:CmdD} (h:Zaj c=true):∀ j,j<(wC c).length→ZhJ (nth (wC c) j):=by
 intro j hj
 have hm:=ZB hj
 unfold wC at hm
 rcases List.mem_cons.1 hm with e | hm
 · unfold wC;rw [e];exact Zn6 (Zer (Zas h).1)
 · exact ZoS h _ hm
theorem Zge {l:List Int} (h:∀ n ∈ l,0≤n∧n≤2147483647):numsR (l.map textL)=(l,0):=by
 have hz:∀ n ∈ l,readR (textL n)=(n,0):=fun n hn=>by
   have:=h n hn
   rw [Zgy this.1,if_neg (by omega)]
 have hb:Zis (l.map textL)=0:=Zfj fun j hj=>by
   have hm:nth (l.map textL) j ∈ l.map textL:=ZB hj
   obtain ⟨n,hn,e⟩:=List.mem_map.1 hm
   rw [← e,hz n hn]
 unfold numsR
 rw [if_neg (by rw [hb];decide)]
 unfold Zby
 rw [List.map_map]
 congr 1
 conv=>rhs;rw [← List.map_id l]
 exact List.map_congr_left fun n hn=>by simp [hz n hn]
theorem ZqO {t:TxD} (h:0≤t.id∧t.id≤2147483647) (h2:t.ops.length≤4095) (h3:∀ o ∈ t.ops,ZZ o=true):txR (textL t.id :: (if t.done=true then [99] else [97]) :: t.ops.map Zap)=(t,0):=by
 have hz:∀ o ∈ t.ops,opR (Zap o)=(o,0):=fun o ho=>ZpU (h3 o ho)
 have hb:Zo0 (t.ops.map Zap)=0:=ZfV fun j hj=>by
   have hm:nth (t.ops.map Zap) j ∈ t.ops.map Zap:=ZB hj
   obtain ⟨o,ho,e⟩:=List.mem_map.1 hm
   rw [← e,hz o ho]
 have ho:ZnJ (t.ops.map Zap)=t.ops:=by
   unfold ZnJ
   rw [List.map_map]
   conv=>rhs;rw [← List.map_id t.ops]
   exact List.map_congr_left fun o ho=>by simp [hz o ho]
 have hr:readR (textL t.id)=(t.id,0):=by rw [Zgy h.1,if_neg (by omega)]
 unfold txR
 have e0:nth (textL t.id :: (if t.done=true then [99] else [97]) :: t.ops.map Zap) 0=textL t.id:=rfl
 have e1:nth (textL t.id :: (if t.done=true then ([99]:List UInt8) else [97]) :: t.ops.map Zap) 1=if t.done=true then [99] else [97]:=rfl
 have e2:(textL t.id :: (if t.done=true then ([99]:List UInt8) else [97]) :: t.ops.map Zap).drop 2=t.ops.map Zap:=rfl
 rw [if_neg (by simp only [List.length_cons,List.length_map];omega),e0,e1,e2,hr,if_neg (by simp),if_neg (by cases t.done <;> simp),if_neg (by rw [hb];decide),ho]
 cases t with
 | mk i d o=>cases d <;> rfl
theorem ZnS {c:CmdD} (h:Zaj c=true):fillR c.kind (ZdG c)=(c,0):=by
 have hr:=Ziq h
 obtain ⟨hh,hu,hop,hph⟩:=Zas h
 have m1:=hr c.tx.id (by unfold ZaP;simp)
 have m2:=hr c.id (by unfold ZaP;simp)
 have m3:=hr c.order.key (by unfold ZaP;simp)
 have m4:=hr c.key (by unfold ZaP;simp)
 have m5:=hr c.place (by unfold ZaP;simp)
 have m6:∀ n ∈ c.order.txs,0≤n∧n≤2147483647:=fun n hn=>hr n (by unfold ZaP;simp [hn])
 have ho:=Zjk h
 unfold usedR at hu
 unfold fillR ZdG
 by_cases h1:c.kind=1∨c.kind=2
 · rw [if_pos h1,if_pos h1,ZqO m1 hop ho]
   rw [if_pos h1] at hu
   exact Prod.ext hu.symm rfl
 · rw [if_neg h1] at hu ⊢
   rw [if_neg h1]
   by_cases h9:c.kind=9
   · rw [if_pos h9,if_neg (by omega),if_neg (by omega),if_neg (by omega),if_pos h9]
     rw [if_neg (by omega),if_neg (by omega),if_neg (by omega),if_pos h9] at hu
     have hc:=ZfM fun hc=>hph ⟨h9,hc⟩
     have e0:nth [Zbr c.phen] 0=Zbr c.phen:=rfl
     rw [e0,hc.2,if_neg (by omega)]
     exact Prod.ext hu.symm rfl
   · rw [if_neg h9]
     by_cases h3:c.kind=3∨c.kind=10
     · rw [if_pos h3] at hu ⊢
       have hn:=Zge (l:=[c.id]) (fun n hn=>by simp at hn;subst hn;exact m2)
       rw [show [textL c.id] = [c.id].map textL from rfl,hn,if_neg (by simp),if_pos h3]
       exact Prod.ext hu.symm rfl
     · rw [if_neg h3] at hu ⊢
       by_cases h4:c.kind=4
       · rw [if_pos h4] at hu ⊢
         have hn:=Zge (l:=c.order.key :: c.order.txs) (fun n hn=>by rcases List.mem_cons.1 hn with rfl | hn;exact m3;exact m6 n hn)
         rw [hn,if_neg (by simp),if_neg h3,if_pos h4]
         exact Prod.ext hu.symm rfl
       · rw [if_neg h4] at hu ⊢
         by_cases h5:c.kind=5
         · rw [if_pos h5] at hu ⊢
           have hn:=Zge (l:=[c.key,c.id,c.place]) (fun n hn=>by simp at hn;rcases hn with rfl | rfl | rfl;exact m4;exact m2;exact m5)
           rw [hn,if_neg (by simp),if_neg h3,if_neg h4,if_pos h5]
           exact Prod.ext hu.symm rfl
         · rw [if_neg h5,if_neg h9] at hu ⊢
           rw [if_neg (by simp [numsR,Zis]),if_neg h3,if_neg h4,if_neg h5]
           exact Prod.ext hu.symm rfl
theorem ZpG {c:CmdD} (h:Zaj c=true) (hc:c.order.txs.length≤998):(ZP c.kind).least≤((ZdG c).length:Int)+1∧((ZdG c).length:Int)+1≤(ZP c.kind).most:=by
 have hk:=Zer (Zas h).1
 have hop:=(Zas h).2.2.1
 obtain ⟨k,t,o,a1,a2,a3,a4⟩:=c
 dsimp only at hk hop hc ⊢
 rcases kinds hk with rfl | rfl | rfl | rfl | rfl | rfl | rfl | rfl | rfl | rfl | rfl | rfl
 all_goals (first | (refine ⟨?_,?_⟩ <;> (simp [ZdG,ZP];done)) | (refine ⟨?_,?_⟩ <;> (simp [ZdG,ZP] <;> omega)))
theorem Zpy {c:CmdD} (h:Zaj c=true) (hc:c.order.txs.length≤998):Zdt (wC c)=(c,0):=by
 have hk:=Zer (Zas h).1
 have hl:=ZpG h hc
 have hf:=ZnS h
 unfold Zdt wC
 have e0:nth ((ZP c.kind).s :: ZdG c) 0=(ZP c.kind).s:=rfl
 have e1:((ZP c.kind).s :: ZdG c).drop 1=ZdG c:=rfl
 have e2:((((ZP c.kind).s :: ZdG c).length:Nat):Int)=((ZdG c).length:Int)+1:=by rw [List.length_cons];omega
 rw [e0,e1,e2,ZmR hk,if_neg (by simp),if_neg (by omega),if_neg (by omega),if_neg (by omega),hf,if_neg (by simp)]
theorem Zmp {c:CmdD} (h:Zaj c=true) (hc:c.order.txs.length≤998):ZbS (ZcA c)=(c,0):=by
 have hw:=Zmm (Zrv h)
 rw [Zl3 h]
 unfold ZbS
 rw [hw,if_neg (by simp)]
 exact Zpy h hc
theorem Zne {c:CmdD} (h:Zaj c=true) (hc:c.order.txs.length≤998):(ZcA c).length≤600000:=by
 obtain ⟨h1,h2⟩:=Z2 h hc
 have h3:=Zbu c.kind
 have h4:=Zh6 ((ZP c.kind).s :: ZaL c)
 unfold ZcA
 rw [if_neg (by rw [h];decide)]
 unfold sumL at h2 h4
 rw [List.map_cons,List.sum_cons,List.length_cons] at h4
 omega
theorem Zjf {id:Int} {s r:List OpD} {o:OpD} : Zag id s (o :: r)=if ZZ o=false then 1 else if o.read=true∧o.tx=id∧(wcnt s o.key:Int)<o.nth then 6 else Zag id (s ++ [o]) r:=by rw [Zag]
theorem ZfD {id:Int} : ∀ (r s:List OpD),Zag id s r=0 → ∀ o ∈ r,ZZ o=true
 | [],_,_,o,ho=>by cases ho
 | x :: r,s,h,o,ho=>by
   rw [Zjf] at h
   split at h
   · cases h
   · rename_i h1
     split at h
     · cases h
     · rcases List.mem_cons.1 ho with rfl | ho
       · simpa using h1
       · exact ZfD r _ h o ho
theorem Zdc {t:TxD} (h:Z1 t=0):(1≤t.id∧t.id≤1048575)∧t.ops.length≤4095 ∧ ∀ o ∈ t.ops,ZZ o=true:=by
 unfold Z1 at h
 split at h
 · cases h
 · rename_i h1
   split at h
   · cases h
   · exact ⟨by omega,by omega,ZfD _ _ h⟩
def Zit (g:Zj) (l:List CmdD) (i:Nat):Zj:=(playC g (l.take i) 0).1
structure Zq0 (g h:Zj) (l:List CmdD):Prop where
 fin:Zit g l l.length=h
 step:∀ i,i<l.length→ZM (Zit g l i) (Go.Gm.nth l i)=(Zit g l (i+1),0)
 fit:∀ i,i≤l.length→ZaT 166 (Zit g l i)
theorem ZbN.way {g h:Zj} {l:List CmdD} (hg:ZaT 166 g) (hp:ZbN (ZaT 166) g l h):Zq0 g h l:=by
 have e:=hp.play 0
 rw [Nat.zero_add] at e
 refine ⟨?_,fun i hi=>?_,fun i hi=>?_⟩
 · unfold Zit;rw [List.take_length,e]
 · obtain ⟨x,h1,h2,h3,h4⟩:=hp.at hi
   have e1:Zit g l i=x:=by unfold Zit;rw [h1]
   have e2:Zit g l (i+1)=(ZM x (Go.Gm.nth l i)).1:=by unfold Zit;rw [h4]
   rw [e1,e2,← h2]
 · cases i with
   | zero=>exact hg
   | succ i=>
     obtain ⟨x,h1,h2,h3,h4⟩:=hp.at (i:=i) hi
     have e2:Zit g l (i+1)=(ZM x (Go.Gm.nth l i)).1:=by unfold Zit;rw [h4]
     rw [e2];exact h3
theorem ZaT.small166 {n:Nat} {g:Zj} (h:ZaT n g) (hn:n≤166):Zbo g:=h.fit.small160 hn
theorem ZoL {a b:Zj} (ha:ZaT 12 a) (hb:ZaT 12 b):Zq0 a b (Zae a b).1:=by
 obtain ⟨_,_,_,_,_,h⟩:=ZdO (a:=a) (b:=b) (Q:=ZaT 166) (fun x h1 _=>h1) ha hb
 exact h.way (ha.le (by omega))
def Zkt (c:CmdD):Prop:=Zaj c=true∧c.order.txs = []∧ZaF c
theorem ZhH {c:CmdD} (h1:(ZP c.kind).s≠[]) (h2:c=usedR c) (h9:c.kind≠9) (h3:c.tx.ops.length≤24) (h4:c.order.txs = []) (h5:∀ o ∈ c.tx.ops,ZZ o=true) (h6:∀ n ∈ [c.tx.id,c.id,c.order.key,c.key,c.place],0≤n∧n≤2147483647):Zkt c:=by
 refine ⟨?_,h4,h3,by rw [h4];exact Nat.zero_le _⟩
 unfold Zaj
 simp only [Bool.and_eq_true,decide_eq_true_eq,List.all_eq_true]
 refine ⟨⟨h1,h2,by omega,fun h=>h9 h.1⟩,fun n hn=>?_,h5⟩
 unfold ZaP at hn
 rw [h4,List.append_nil] at hn
 unfold Zqs
 simp
 exact h6 n hn
theorem Zig {t:TxD} (h:Z1 t=0) (hl:t.ops.length≤24):Zkt (ZdU t):=by
 obtain ⟨h1,_,h3⟩:=Zdc h
 refine ZhH (by show Ztd≠[];decide) rfl (by show (2:Int)≠9;decide) hl rfl h3 fun n hn=>?_
 have:n=t.id∨n=0:=by
   unfold ZdU zeroC at hn
   simp at hn
   exact hn
 omega
theorem Zpb {t:TxD} (h:Z1 t=0) (hl:t.ops.length≤24):Zkt (Ze2 t):=by
 obtain ⟨h1,_,h3⟩:=Zdc (Zbc h)
 refine ZhH (by show Zte≠[];decide) rfl (by show (1:Int)≠9;decide) (Nat.le_trans (List.length_filter_le _ _) hl) rfl h3 fun n hn=>?_
 have:n=(bareT t).id∨n=0:=by
   unfold Ze2 zeroC at hn
   simp at hn
   exact hn
 omega
theorem Zo7 {t:TxD} (h:Z1 t=0):Zkt (Zfd t):=by
 obtain ⟨h1,_,_⟩:=Zdc h
 refine ZhH (by show Ztk≠[];decide) rfl (by show (3:Int)≠9;decide) (Nat.zero_le _) rfl (fun o ho=>by cases ho) fun n hn=>?_
 have:n=0∨n=t.id:=by
   unfold Zfd zeroC at hn
   simp [zeroT] at hn
   omega
 omega
theorem Znk {g:Zj} (hg:Zy g) {o:OrdD} (ho:o ∈ g.orders):(0≤o.key∧o.key≤1048575)∧o.txs.length≤4096:=by
 have q:=(Zaw.1 hg).2.2.2.2.2 o.key
 rw [Zbi (Zv.1 (Zs hg).2) ho] at q
 refine ⟨?_,by rw [q.length_eq];exact Nat.le_trans (ZbT _ _) hg.1⟩
 have hw:ZU g.txs o.key≠[]:=fun h9=>by
   rw [h9] at q
   exact Zda hg o ho q.eq_nil
 obtain ⟨x,hx⟩:=List.exists_mem_of_ne_nil _ hw
 obtain ⟨t,h1,_,_,h2⟩:=Zbe.1 hx
 have h3:=(Zdc (ZaB hg h1).1).2.2
 unfold wcnt at h2
 obtain ⟨u,hu⟩:=List.exists_mem_of_length_pos h2
 have hu:=List.mem_filter.1 hu
 simp at hu
 have h4:=Zb4 (h3 u hu.1)
 rw [← hu.2.2]
 omega
theorem ZpS {k:Int} {p:Zcg} (hk:0≤k∧k≤1048575) (h1:0≤p.key∧p.key≤1048575) (h2:0≤p.val∧p.val≤4096):Zkt (ZmD k p):=by
 refine ZhH (by show Ztm≠[];decide) rfl (by show (5:Int)≠9;decide) (Nat.zero_le _) rfl (fun o ho=>by cases ho) fun n hn=>?_
 have:n=0∨n=p.key∨n=k∨n=p.val:=by
   unfold ZmD zeroC at hn
   simp [zeroT] at hn
   omega
 omega
theorem ZmC {x:List Int} {o:OrdD} {g:Zj} (hg:Zy g) (ho:o ∈ g.orders) {c:CmdD} (hc:c ∈ (ZaY x o.txs).1.map (ZmD o.key)):Zkt c:=by
 obtain ⟨p,hp,rfl⟩:=List.mem_map.1 hc
 obtain ⟨k1,k2⟩:=Znk hg ho
 unfold ZaY at hp
 split at hp
 · rename_i hok
   obtain ⟨v1,v2,v3⟩:=ZdF o.txs x 0 p hp
   have:=hok.2.1.1 p.key v1
   exact ZpS k1 (by omega) (by omega)
 · cases hp
theorem Zg9 {a b:Zj} (ha:ZaT 12 a) (hb:ZaT 12 b) {c:CmdD} (hc:c ∈ (Zae a b).1):Zkt c:=by
 have hl:∀ t:TxD,t.ops.length≤24→(bareT t).ops.length≤24:=fun t h=>Nat.le_trans (List.length_filter_le _ _) h
 unfold Zae at hc
 rw [if_neg (by simp [ha.1,hb.1])] at hc
 rcases List.mem_append.1 hc with hc | hc
 · unfold ZX at hc
   simp only [List.mem_append,List.mem_map,List.mem_filter] at hc
   rcases hc with (((⟨t,ht,rfl⟩ | ⟨t,ht,rfl⟩) | ⟨t,ht,rfl⟩) | ⟨t,ht,rfl⟩) | ⟨t,ht,rfl⟩
   · exact Zig (Zbc (ZaB ha.1 ht.1).1) (hl t (ha.2.2 t ht.1))
   · exact Zo7 (ZaB ha.1 ht.1).1
   · exact Zig (Zbc (ZaB hb.1 ht.1).1) (hl t (hb.2.2 t ht.1))
   · exact Zpb (ZaB hb.1 ht.1).1 (hb.2.2 t ht.1)
   · exact Zig (ZaB hb.1 ht.1).1 (hb.2.2 t ht.1)
 · obtain ⟨o,ho,hc⟩:=List.mem_flatMap.1 hc
   exact ZmC hb.1 ho hc
theorem ZnF {a b:Zj} (ha:ZaT 12 a) (hb:ZaT 12 b):(Zae a b).1.length≤300000000:=by
 unfold Zae
 rw [if_neg (by simp [ha.1,hb.1])]
 dsimp only
 have h1:=Zhr a b
 have h2:=ZoG (h:=(playC a (ZX a b) 0).1) (hb.fit.small160 (by omega)).2 b.orders.length
 rw [List.take_length] at h2
 have h3:=(hb.fit.small160 (by omega)).2.1
 have h4:=ha.2.1
 have h5:=hb.2.1
 rw [List.length_append]
 omega
theorem ZhI (g:Zj) (hs:Zbo g):FnP Tryz.prog 44 [.agg (Zn g)] (.agg (Zn g)):=by
 refine FnP.mk Tryz.func44 rfl Tryz.ntmps44 rfl ?_
 intro B a w F hB hfr hS
 have hsl:=hs.1.1
 have hso:=hs.2.1
 refine wp_seq ?_
 refine Zc hS (qx 101 r1 (qf (oH [.slice none 0 0,.slice none 0 0] 102) trivial qz qZ)) hB [2,1] [102,101,0] (fun _=>rfl) (fun _=>rfl) fun τ a w F hS=>?_
 try dsimp only [RS.sub,SF.sub,CF.sub,csub,Anc.sub,List.map,zCF,Zn,rTx,Zx,ZO,rInt,rOp,rCmd,ZF,ZaN,ZR,ZA] at hS
 generalize τ 1=v1 at hS
 generalize τ 2=v2 at hS
 refine Zb (wp_seq ?_)
 refine Zc hS (qf (oH [.slice none 0 0,.slice none 0 0] 103) trivial qz qZ) hB [3,2,1] [103,102,101,0] (fun _=>rfl) (fun _=>rfl) fun τ a w F hS=>?_
 try dsimp only [RS.sub,SF.sub,CF.sub,csub,Anc.sub,List.map,zCF,Zn,rTx,Zx,ZO,rInt,rOp,rCmd,ZF,ZaN,ZR,ZA] at hS
 generalize τ 3=v3 at hS
 refine Zb (wp_seq (wp_seq ?_))
 refine Za hS (qg 0 101 r1 r1 (qa 101 r1 r1 (qu Tryz.underlying22 r1 (qJ qZ)))) hB [11,10,9,3,2,1] [103,102,101,0] rfl rfl fun a w F hS=>Zb (wp_block ?_)
 replace hS:=hS.fresh 50 rfl
 replace hS:=hS.turn 50 rfl (ZaC (T:=38) (sz:=3) (R:=rTx))
 refine Zr (σ:=(Nat)×(Value)×(List TxD)) [1,2,3,9,10] [0,101,102] (fun s=>[(11,.pv (.int .i64 (s.1:Int)))]) (fun s=>[(103,.pt (.val v3) 25 [.pv (.is s.2.1),.pv (.is (.slice none 0 0))]),(50,.ob (.val s.2.1) (Zu 38 3 rTx s.2.2))]) (fun s=>s.1≤g.txs.length∧(s.2.2=g.txs.take s.1)) (fun s=>g.txs.length - s.1) ((0),(.slice none 0 0),([])) hS ⟨rfl,rfl,rfl,rfl,rfl,rfl,trivial⟩ ⟨rfl,rfl,rfl,rfl,rfl,trivial⟩ ⟨Nat.zero_le _,rfl⟩ ?_
 clear hS;intro s a w F hC hS
 obtain ⟨i,va,oa⟩:=s
 try dsimp only at hC
 obtain ⟨F,hS⟩:=hS.nm [11,10,9,3,2,1] [103,102,101,50,0] rfl rfl
 try dsimp only at hS
 obtain ⟨hi,hq⟩:=hC
 have hol:oa.length≤i:=by rw [hq,List.length_take];omega
 refine wp_seq ?_
 refine Za hS (qL r2) hB [12,11,10,9,3,2,1] [103,102,101,50,0] rfl rfl fun a w F hS=>Zb (wp_seq ?_)
 refine Zd hS rfl (fun hc0=>?_) (fun hc0=>?_)
 ·skip
  have hil:i<g.txs.length:=by simp at hc0;omega
  have hio:=hil
  refine wp_skip (Zb (wp_seq (wp_block (wp_seq ?_))))
  refine Zc hS (qy 3 Tryz.underlying22 r2 (qf (oR true 3 .t) r1 qz (qf (oH [.int .i64 0,.bool false,.slice none 0 0] 104) trivial qz (qS 3 104 r2 r1 qZ)))) hB [11,10,9,5,3,2,1] [104,103,102,101,50,0] (fun _=>rfl) (fun _=>rfl) fun τ a w F hS=>?_
  try dsimp only [RS.sub,SF.sub,CF.sub,csub,Anc.sub,List.map,Zf,xL,xM,Nat.reduceAdd,xD,xE,xT,xU,xC,xN,zCF,ldSF,Zn,rTx,Zx,ZO,rInt,rOp,rCmd,ZF,ZaN,ZR,ZA] at hS
  generalize τ 5=v5 at hS
  try simp only [Int.toNat_natCast] at hS
  refine Zb (wp_seq ?_)
  replace hS:=hS.fresh 105 rfl
  refine Zc hS (qg 2 104 r1 r1 (qa 104 r1 r1 (qf (Za2 105 (Zdm (Go.Gm.nth g.txs i).ops (by have:=hs.1.at hio;omega)) Tryz.func29 rfl (by kernel_rfl) (Args.one .t) ZaO) r1 r1 (qg 2 104 r1 r1 (qf (Zad 104 .adr (by kernel_rfl) (by kernel_rfl)) r2 r1 qZ))))) hB [11,10,9,5,3,2,1] [105,104,103,102,101,50,0] (fun _=>rfl) (fun _=>rfl) fun τ a w F hS=>?_
  try dsimp only [RS.sub,SF.sub,CF.sub,csub,Anc.sub,List.map,Zf,xL,xM,Nat.reduceAdd,xD,xE,xT,xU,xC,xN,zCF,ldSF,Zn,rTx,Zx,ZO,rInt,rOp,rCmd,ZF,ZaN,ZR,ZA] at hS
  generalize τ 17=v17 at hS
  obtain ⟨F,hS⟩:=hS.giveCell 105 104 2 rfl rfl rfl rfl rfl
  try dsimp only [List.set] at hS
  obtain ⟨F,hS⟩:=hS.nm [11,10,9,5,3,2,1] [104,103,102,101,50,0] rfl rfl
  refine Zb ?_
  refine Zc hS (qg 0 103 r1 r1 (qa 103 r1 r1 (qe 3 104 r1 r1 (qf (Zk (sz:=3) (zs:=[.int .i64 0,.bool false,.slice none 0 0]) (r:=[(0,.tmp 21)]) (l:=[_,_,_]) Tryz.underlying22 (by kernel_rfl) (by kernel_rfl) (by kernel_rfl) (by kernel_rfl) rfl rfl (.agg rfl .t (by kernel_rfl) (by kernel_rfl) .nil) rfl) r1 qz (qf (o_append (sz:=3) (bs:=40) 50 (.mk' Tryz.underlying22 (by kernel_rfl) (by kernel_rfl)) (by intro x;rfl) .is (.arr (l':=[(Go.Gm.nth g.txs i)]) .t) (by simp only [List.length_append,List.length_cons,List.length_nil];omega) (by decide)) ⟨rfl,rfl,trivial⟩ ⟨rfl,trivial⟩ (qg 0 103 r1 r1 (qf (Zad 103 .adr (by kernel_rfl) (by kernel_rfl)) r2 r1 qZ))))))) hB [11,10,9,3,2,1] [104,103,102,101,50,0] (fun _=>rfl) (fun _=>rfl) fun τ a w F hS=>?_
  try dsimp only [RS.sub,SF.sub,CF.sub,csub,Anc.sub,List.map,Zf,xL,xM,Nat.reduceAdd,xD,xE,xT,xU,xC,xN,zCF,ldSF,Zn,rTx,Zx,ZO,rInt,rOp,rCmd,ZF,ZaN,ZR,ZA] at hS
  generalize τ 23=v23 at hS
  refine Zh (Zb ?_)
  refine Za hS (qp r1 (qM rfl rfl qZ)) hB [11,10,9,3,2,1] [104,103,102,101,50,0] rfl rfl fun a w F hS=>Zb ?_
  replace hS:=hS.ent (i:=11) (s':=.pv (.int .i64 ((i+1:Nat):Int))) rfl (.int (wrap_succ (by omega)))
  obtain ⟨F,hS⟩:=hS.nm [10,9,3,2,1,11] [102,101,0,50,103] rfl rfl
  exact ⟨((i+1),_,_),F,⟨by omega,(by rw [ZE hil,← hq])⟩,hS,by omega⟩
 have hil:i=g.txs.length:=by simp at hc0;omega
 have hqa:oa=g.txs:=by rw [hq,hil,List.take_length]
 subst hqa
 refine wp_exit (Zi (Zi (Zo (Zb (wp_seq (wp_seq ?_))))))
 refine Za hS (qg 1 101 r1 r1 (qa 101 r1 r1 (qu Tryz.underlying23 r1 (qJ qZ)))) hB [29,28,27,3,2] [103,102,101,50,0] rfl rfl fun a w F hS=>Zb (wp_block ?_)
 replace hS:=hS.fresh 51 rfl
 replace hS:=hS.turn 51 rfl (ZaC (T:=41) (sz:=2) (R:=Zx))
 refine Zr (σ:=(Nat)×(Value)×(List OrdD)) [2,3,27,28] [0,50,101,102] (fun s=>[(29,.pv (.int .i64 (s.1:Int)))]) (fun s=>[(103,.pt (.val v3) 25 [.pv (.is va),.pv (.is s.2.1)]),(51,.ob (.val s.2.1) (Zu 41 2 Zx s.2.2))]) (fun s=>s.1≤g.orders.length∧(s.2.2=g.orders.take s.1)) (fun s=>g.orders.length - s.1) ((0),(.slice none 0 0),([])) hS ⟨rfl,rfl,rfl,rfl,rfl,trivial⟩ ⟨rfl,rfl,rfl,rfl,rfl,rfl,trivial⟩ ⟨Nat.zero_le _,rfl⟩ ?_
 clear hS;intro s a w F hC hS
 obtain ⟨i,vb,ob⟩:=s
 try dsimp only at hC
 obtain ⟨F,hS⟩:=hS.nm [29,28,27,3,2] [103,102,101,51,50,0] rfl rfl
 try dsimp only at hS
 obtain ⟨hi,hq⟩:=hC
 have hol:ob.length≤i:=by rw [hq,List.length_take];omega
 refine wp_seq ?_
 refine Za hS (qL r2) hB [30,29,28,27,3,2] [103,102,101,51,50,0] rfl rfl fun a w F hS=>Zb (wp_seq ?_)
 refine Zd hS rfl (fun hc1=>?_) (fun hc1=>?_)
 ·skip
  have hil:i<g.orders.length:=by simp at hc1;omega
  have hio:=hil
  refine wp_skip (Zb (wp_seq (wp_block (wp_seq ?_))))
  refine Zc hS (qy 2 Tryz.underlying23 r2 (qf (oR true 2 .t) r1 qz (qf (oH [.int .i64 0,.slice none 0 0] 106) trivial qz (qS 2 106 r2 r1 qZ)))) hB [29,28,27,7,3,2] [106,103,102,101,51,50,0] (fun _=>rfl) (fun _=>rfl) fun τ a w F hS=>?_
  try dsimp only [RS.sub,SF.sub,CF.sub,csub,Anc.sub,List.map,Zf,xL,xM,Nat.reduceAdd,xD,xE,xT,xU,xC,xN,zCF,ldSF,Zn,rTx,Zx,ZO,rInt,rOp,rCmd,ZF,ZaN,ZR,ZA] at hS
  generalize τ 7=v7 at hS
  try simp only [Int.toNat_natCast] at hS
  refine Zb ?_
  refine Zcp hS (qg 1 103 r1 r1 (qa 103 r1 r1 (qg 0 106 r1 r1 (qa 106 r1 r1 (qg 1 106 r1 r1 (qa 106 r1 r1 (qf (oP (cloneIP_c (Go.Gm.nth g.orders i).txs (by have:=hs.2.at hio;omega)) Tryz.func64 (Args.one .t)) r1 qz (qf (oB [(0,.tmp 36),(1,.tmp 39)] [.int .i64 0,.slice none 0 0] [(0,1),(1,1)] (.one rfl .t one_int (by kernel_rfl) (.one rfl .t one_sl (by kernel_rfl) .nil))) r2 qz (qf (Zk (sz:=2) (zs:=[.int .i64 0,.slice none 0 0]) (r:=[(0,.tmp 40)]) (l:=[_,_]) Tryz.underlying23 (by kernel_rfl) (by kernel_rfl) (by kernel_rfl) (by kernel_rfl) rfl rfl (.agg rfl .t (by kernel_rfl) (by kernel_rfl) .nil) rfl) r1 qz (qf (o_append (sz:=2) (bs:=32) 51 (.mk' Tryz.underlying23 (by kernel_rfl) (by kernel_rfl)) (by intro x;rfl) .is (.arr (l':=[(Go.Gm.nth g.orders i)]) .t) (by simp only [List.length_append,List.length_cons,List.length_nil];omega) (by decide)) ⟨rfl,rfl,trivial⟩ ⟨rfl,trivial⟩ (qg 1 103 r1 r1 (qf (Zad 103 .adr (by kernel_rfl) (by kernel_rfl)) r2 r1 qZ)))))))))))) hB [29,28,27,3,2] [106,103,102,101,51,50,0] (fun _=>rfl) (fun _=>rfl) fun τ a w F hS=>?_
  try dsimp only [RS.sub,SF.sub,CF.sub,csub,Anc.sub,List.map,Zf,xL,xM,Nat.reduceAdd,xD,xE,xT,xU,xC,xN,zCF,ldSF,Zn,rTx,Zx,ZO,rInt,rOp,rCmd,ZF,ZaN,ZR,ZA] at hS
  generalize τ 42=v42 at hS
  refine Zh (Zb ?_)
  refine Za hS (qp r1 (qM rfl rfl qZ)) hB [29,28,27,3,2] [106,103,102,101,51,50,0] rfl rfl fun a w F hS=>Zb ?_
  replace hS:=hS.ent (i:=29) (s':=.pv (.int .i64 ((i+1:Nat):Int))) rfl (.int (wrap_succ (by omega)))
  obtain ⟨F,hS⟩:=hS.nm [28,27,3,2,29] [102,101,50,0,51,103] rfl rfl
  exact ⟨((i+1),_,_),F,⟨by omega,(by rw [ZE hil,← hq])⟩,hS,by omega⟩
 have hil:i=g.orders.length:=by simp at hc1;omega
 have hqb:ob=g.orders:=by rw [hq,hil,List.take_length]
 subst hqb
 refine wp_exit (Zi (Zi (Zo (Zb (wp_seq ?_)))))
 obtain ⟨F,hS⟩:=hS.giveCell 50 103 0 rfl rfl rfl rfl rfl
 try dsimp only [List.set] at hS
 obtain ⟨F,hS⟩:=hS.nm [30,29,28,27,3,2] [103,102,101,51,0] rfl rfl
 obtain ⟨F,hS⟩:=hS.giveCell 51 103 1 rfl rfl rfl rfl rfl
 try dsimp only [List.set] at hS
 obtain ⟨F,hS⟩:=hS.nm [30,29,28,27,3,2] [103,102,101,0] rfl rfl
 refine Za hS (qe 2 103 r1 r1 (qs 2 102 r2 r1 qZ)) hB [2] [103,102,101,0] rfl rfl fun a w F hS=>Zb (wp_ret ?_)
 refine Zt hfr hS rfl (.cl 102 true 2 rfl rfl .nil) (.one (.aggU rfl rfl))
theorem Zkr (g:Zj) (c:CmdD) (hs:Zbo g) (hc:ZaF c):FnP Tryz.prog 19 [.agg (Zn g),.agg (rCmd c)] (.tup [.agg (Zn (ZM g c).1),.int .i64 (ZM g c).2]):=by
 refine FnP.mk Tryz.func19 rfl Tryz.ntmps19 rfl ?_
 intro B a w F hB hfr hS
 refine wp_seq ?_
 refine Zc hS (qx 101 r1 (qx 102 r1 (qf (oH [.slice none 0 0,.slice none 0 0] 103) trivial qz (qI qZ)))) hB [5,4,3,2] [103,102,101,0] (fun _=>rfl) (fun _=>rfl) fun τ a w F hS=>?_
 try dsimp only [RS.sub,SF.sub,CF.sub,csub,Anc.sub,List.map,zCF,Zn,rTx,Zx,ZO,rInt,rOp,rCmd] at hS
 generalize τ 2=v2 at hS
 generalize τ 3=v3 at hS
 generalize τ 4=v4 at hS
 refine Zb (wp_seq (wp_seq ?_))
 refine Za hS (qg 0 102 r1 r1 (qa 102 r1 r1 qZ)) hB [7,5,4,3,2] [103,102,101,0] rfl rfl fun a w F hS=>Zb (wp_block (wp_seq ?_))
 refine Za hS (qf (o_eql .t qi) r1 qz (qN rfl rfl qZ)) hB [8,7,5,4,3,2] [103,102,101,0] rfl rfl fun a w F hS=>Zb ?_
 refine Zd hS rfl (fun hc0=>?_) (fun hc0=>?_)
 ·skip
  have hg:ZM g c=Zaz g c.tx:=by unfold ZM;rw [if_pos (by simpa using hc0)]
  refine wp_seq ?_
  refine Za hS (qe 2 101 r1 r1 (qg 1 102 r1 r1 (qf (oL true 3 102 .adr) r1 r1 (qf (oP (ZnC g c.tx hs (by have:=hc.1;omega)) Tryz.func51 (Args.two (.pagg .t) (.pagg .t))) r2 qz (qf (o_extract .t rfl) r1 qz (qf (o_extract .t rfl) r1 qz (qf (oA 2 103 .is (.conv .t .agg)) r2 r1 (qN rfl rfl qZ)))))))) hB [5,4] [103,102,101,0] rfl rfl fun a w F hS=>Zb (wp_ret (Zg (Ze ?_)))
  refine Zt hfr hS rfl (.cl 103 true 2 rfl rfl (.tmp rfl .nil)) (.two (by rw [hg];first | exact .aggU rfl rfl | exact .aggLe rfl ⟨PVLe.nilSl,PVLe.nilSl,trivial⟩) (.int (by rw [hg])))
 have k1:¬ c.kind=1:=by simpa using hc0
 refine wp_seq ?_
 refine Za hS (qf (o_eql .t qi) r1 qz (qN rfl rfl qZ)) hB [16,7,5,4,3,2] [103,102,101,0] rfl rfl fun a w F hS=>Zb ?_
 refine Zd hS rfl (fun hc1=>?_) (fun hc1=>?_)
 ·skip
  have hg:ZM g c=Za9 g c.tx:=by unfold ZM;rw [if_neg k1,if_pos (by simpa using hc1)]
  refine wp_seq ?_
  refine Za hS (qe 2 101 r1 r1 (qg 1 102 r1 r1 (qf (oL true 3 102 .adr) r1 r1 (qf (oP (Zp5 g c.tx hs (by have:=hc.1;omega)) Tryz.func52 (Args.two (.pagg .t) (.pagg .t))) r2 qz (qf (o_extract .t rfl) r1 qz (qf (o_extract .t rfl) r1 qz (qf (oA 2 103 .is (.conv .t .agg)) r2 r1 (qN rfl rfl qZ)))))))) hB [5,4] [103,102,101,0] rfl rfl fun a w F hS=>Zb (wp_ret (Zg (Ze ?_)))
  refine Zt hfr hS rfl (.cl 103 true 2 rfl rfl (.tmp rfl .nil)) (.two (by rw [hg];first | exact .aggU rfl rfl | exact .aggLe rfl ⟨PVLe.nilSl,PVLe.nilSl,trivial⟩) (.int (by rw [hg])))
 have k2:¬ c.kind=2:=by simpa using hc1
 refine wp_seq ?_
 refine Za hS (qf (o_eql .t qi) r1 qz (qN rfl rfl qZ)) hB [24,7,5,4,3,2] [103,102,101,0] rfl rfl fun a w F hS=>Zb ?_
 refine Zd hS rfl (fun hc2=>?_) (fun hc2=>?_)
 ·skip
  have hg:ZM g c=Zam g c.id:=by unfold ZM;rw [if_neg k1,if_neg k2,if_pos (by simpa using hc2)]
  refine wp_seq ?_
  refine Za hS (qe 2 101 r1 r1 (qg 7 102 r1 r1 (qa 102 r1 r1 (qf (oP (ZoI g c.id hs) Tryz.func53 (Args.two (.pagg .t) .t)) r2 qz (qf (o_extract .t rfl) r1 qz (qf (o_extract .t rfl) r1 qz (qf (oA 2 103 .is (.conv .t .agg)) r2 r1 (qN rfl rfl qZ)))))))) hB [5,4] [103,102,101,0] rfl rfl fun a w F hS=>Zb (wp_ret (Zg (Ze ?_)))
  refine Zt hfr hS rfl (.cl 103 true 2 rfl rfl (.tmp rfl .nil)) (.two (by rw [hg];first | exact .aggU rfl rfl | exact .aggLe rfl ⟨PVLe.nilSl,PVLe.nilSl,trivial⟩) (.int (by rw [hg])))
 have k3:¬ c.kind=3:=by simpa using hc2
 refine wp_seq ?_
 refine Za hS (qf (o_eql .t qi) r1 qz (qN rfl rfl qZ)) hB [32,7,5,4,3,2] [103,102,101,0] rfl rfl fun a w F hS=>Zb ?_
 refine Zd hS rfl (fun hc3=>?_) (fun hc3=>?_)
 ·skip
  have hg:ZM g c=Zdo g c.order:=by unfold ZM;rw [if_neg k1,if_neg k2,if_neg k3,if_pos (by simpa using hc3)]
  refine wp_seq ?_
  refine Za hS (qe 2 101 r1 r1 (qg 4 102 r1 r1 (qf (oL true 2 102 .adr) r1 r1 (qf (oP (Zl2 g c.order hs (by have:=hc.2;omega)) Tryz.func54 (Args.two (.pagg .t) (.pagg .t))) r2 qz (qf (o_extract .t rfl) r1 qz (qf (o_extract .t rfl) r1 qz (qf (oA 2 103 .is (.conv .t .agg)) r2 r1 (qN rfl rfl qZ)))))))) hB [5,4] [103,102,101,0] rfl rfl fun a w F hS=>Zb (wp_ret (Zg (Ze ?_)))
  refine Zt hfr hS rfl (.cl 103 true 2 rfl rfl (.tmp rfl .nil)) (.two (by rw [hg];first | exact .aggU rfl rfl | exact .aggLe rfl ⟨PVLe.nilSl,PVLe.nilSl,trivial⟩) (.int (by rw [hg])))
 have k4:¬ c.kind=4:=by simpa using hc3
 refine wp_seq ?_
 refine Za hS (qf (o_eql .t qi) r1 qz (qN rfl rfl qZ)) hB [40,5,4,3,2] [103,102,101,0] rfl rfl fun a w F hS=>Zb ?_
 refine Zd hS rfl (fun hc4=>?_) (fun hc4=>?_)
 ·skip
  have hg:ZM g c=ZmE g c.key c.id c.place:=by unfold ZM;rw [if_neg k1,if_neg k2,if_neg k3,if_neg k4,if_pos (by simpa using hc4)]
  refine wp_seq ?_
  refine Za hS (qe 2 101 r1 r1 (qg 6 102 r1 r1 (qa 102 r1 r1 (qg 7 102 r1 r1 (qa 102 r1 r1 (qg 8 102 r1 r1 (qa 102 r1 r1 (qf (oP (Zrd g c.key c.id c.place hs) Tryz.func55 (Args.four (.pagg .t) .t .t .t)) r4 qz (qf (o_extract .t rfl) r1 qz (qf (o_extract .t rfl) r1 qz (qf (oA 2 103 .is (.conv .t .agg)) r2 r1 (qN rfl rfl qZ)))))))))))) hB [5,4] [103,102,101,0] rfl rfl fun a w F hS=>Zb (wp_ret (Zg (Ze ?_)))
  refine Zt hfr hS rfl (.cl 103 true 2 rfl rfl (.tmp rfl .nil)) (.two (by rw [hg];first | exact .aggU rfl rfl | exact .aggLe rfl ⟨PVLe.nilSl,PVLe.nilSl,trivial⟩) (.int (by rw [hg])))
 have k5:¬ c.kind=5:=by simpa using hc4
 have hg:ZM g c=(zeroH,11):=by unfold ZM;rw [if_neg k1,if_neg k2,if_neg k3,if_neg k4,if_neg k5]
 refine wp_skip (Zh (Zb (wp_seq ?_)))
 refine Za hS (qf (oB [] [.slice none 0 0,.slice none 0 0] [(0,1),(1,1)] .nil) trivial qz (qs 2 103 r2 r1 (qI qZ))) hB [5,4] [103,102,101,0] rfl rfl fun a w F hS=>Zb (wp_ret ?_)
 refine Zt hfr hS rfl (.cl 103 true 2 rfl rfl (.tmp rfl .nil)) (.two (by rw [hg];first | exact .aggU rfl rfl | exact .aggLe rfl ⟨PVLe.nilSl,PVLe.nilSl,trivial⟩) (.int (by rw [hg])))
theorem Znf (g:Zj) (l:List CmdD) (n:Nat) (hp:Zex n g) (hnl:n+l.length≤166) (hlt:∀ c ∈ l,ZaF c):FnP Tryz.prog 17 [.agg (Zn g),.sl rCmd l] (.tup [.agg (Zn (playC g l 0).1),.int .i64 (((playC g l 0).2.1:Nat):Int),.int .i64 (playC g l 0).2.2]):=by
 refine FnP.mk Tryz.func17 rfl Tryz.ntmps17 rfl ?_
 intro B a w F hB hfr hS
 refine wp_seq ?_
 refine Zc hS (qx 101 r1 (qf (oH [.slice none 0 0,.slice none 0 0] 102) trivial qz (qI (qI qZ)))) hB [6,5,4,2,1] [102,101,0] (fun _=>rfl) (fun _=>rfl) fun τ a w F hS=>?_
 try dsimp only [RS.sub,SF.sub,CF.sub,csub,Anc.sub,List.map,zCF,Zn,rTx,Zx,ZO,rInt,rOp,rCmd,ZF,ZaN,ZR,ZA] at hS
 generalize τ 2=v2 at hS
 generalize τ 4=v4 at hS
 refine Zb (wp_seq (wp_seq ?_))
 refine Za hS (qM rfl rfl (qu Tryz.underlying28 r1 (qJ qZ))) hB [13,12,11,6,5,4,2,1] [102,101,0] rfl rfl fun a w F hS=>Zb (wp_block ?_)
 refine Zr (σ:=(Nat)×(Zj)) [1,2,4,5,6,11,12] [0,102] (fun s=>[(13,.pv (.int .i64 (s.1:Int)))]) (fun s=>[(101,.pt (.val v2) 25 [.pv (.sl rTx (s.2).txs),.pv (.sl Zx (s.2).orders)])]) (fun s=>s.1≤l.length∧(playC g l 0=playC s.2 (l.drop s.1) s.1∧Zex (n+s.1) s.2)) (fun s=>l.length - s.1) ((0),(g)) hS ⟨rfl,rfl,rfl,rfl,rfl,rfl,rfl,rfl,trivial⟩ ⟨rfl,rfl,rfl,trivial⟩ ⟨Nat.zero_le _,⟨rfl,hp⟩⟩ ?_
 clear hS;intro s a w F hC hS
 obtain ⟨i,gg⟩:=s
 try dsimp only at hC
 obtain ⟨F,hS⟩:=hS.nm [13,12,11,6,5,4,2,1] [102,101,0] rfl rfl
 try dsimp only at hS
 obtain ⟨hi,hq⟩:=hC
 obtain ⟨hpc,hfit⟩:=hq
 refine wp_seq ?_
 refine Za hS (qL r2) hB [14,13,12,11,6,5,4,2,1] [102,101,0] rfl rfl fun a w F hS=>Zb (wp_seq ?_)
 refine Zd hS rfl (fun hc0=>?_) (fun hc0=>?_)
 ·skip
  have hil:i<l.length:=by simp at hc0;omega
  have hio:=hil
  refine wp_skip (Zb (wp_seq (wp_block (wp_seq ?_))))
  refine Zc hS (qM rfl rfl (qy 10 Tryz.underlying28 r2 (qf (oR true 10 .t) r1 qz (qf (oH [.int .i64 0,.int .i64 0,.bool false,.slice none 0 0,.int .i64 0,.slice none 0 0,.int .i64 0,.int .i64 0,.int .i64 0,.int .i64 0] 103) trivial qz (qN rfl rfl (qS 10 103 r2 r1 qZ)))))) hB [13,12,11,8,7,6,5,4,2,1] [103,102,101,0] (fun _=>rfl) (fun _=>rfl) fun τ a w F hS=>?_
  try dsimp only [RS.sub,SF.sub,CF.sub,csub,Anc.sub,List.map,Zf,xL,xM,Nat.reduceAdd,xD,xE,xT,xU,xC,xN,zCF,ldSF,Zn,rTx,Zx,ZO,rInt,rOp,rCmd,ZF,ZaN,ZR,ZA] at hS
  generalize τ 8=v8 at hS
  try simp only [Int.toNat_natCast] at hS
  refine Zb (wp_seq ?_)
  refine Zc hS (qe 2 101 r1 r1 (qe 10 103 r1 r1 (qf (oP (Zkr gg (Go.Gm.nth l i) hfit.1 (hlt _ (ZB hio))) Tryz.func19 (Args.two (.pagg .t) (.pagg .t))) r2 qz (qM rfl rfl (qf (o_extract .t rfl) r1 qz (qf (o_extract .t rfl) r1 qz (qf (oH [.slice none 0 0,.slice none 0 0] 104) trivial qz (qf (oA 2 104 .same (.conv .t .agg)) r2 r1 (qN rfl rfl qZ))))))))) hB [13,12,11,10,9,7,6,5,4,2,1] [104,103,102,101,0] (fun _=>rfl) (fun _=>rfl) fun τ a w F hS=>?_
  try dsimp only [RS.sub,SF.sub,CF.sub,csub,Anc.sub,List.map,Zf,xL,xM,Nat.reduceAdd,xD,xE,xT,xU,xC,xN,zCF,ldSF,Zn,rTx,Zx,ZO,rInt,rOp,rCmd,ZF,ZaN,ZR,ZA] at hS
  generalize τ 9=v9 at hS
  refine Zb (wp_seq (wp_seq ?_))
  refine Za hS (qM rfl rfl (qf (o_neq .t qi) r1 qz qZ)) hB [25,13,12,11,10,9,7,6,5,4,2,1] [104,103,102,101,0] rfl rfl fun a w F hS=>Zb ?_
  refine Zd hS rfl (fun hc1=>?_) (fun hc1=>?_)
  ·skip
   have hg:=Zjl hpc hio (by simpa using hc1)
   refine wp_seq ?_
   refine Za hS (qf (oB [] [.slice none 0 0,.slice none 0 0] [(0,1),(1,1)] .nil) trivial qz (qM rfl rfl (qM rfl rfl (qs 2 102 r2 r1 (qN rfl rfl (qN rfl rfl qZ)))))) hB [13,12,11,9,6,5,4,2,1] [104,103,102,101,0] rfl rfl fun a w F hS=>Zb (wp_ret (Ze (Zg (Ze (Ze (Zg (Ze ?_)))))))
   refine Zt hfr hS rfl (.cl 102 true 2 rfl rfl (.tmp rfl (.tmp rfl .nil))) (.three (by rw [hg];first | exact .aggU rfl rfl | exact .aggLe rfl ⟨PVLe.nilSl,PVLe.nilSl,trivial⟩) (.int (by rw [hg])) (.int (by rw [hg])))
  have hok:¬ (ZM gg (Go.Gm.nth l i)).2≠0:=by simpa using hc1
  refine wp_skip (Zb ?_)
  refine Za hS (qe 2 104 r1 r1 (qs 2 101 r2 r1 qZ)) hB [13,12,11,6,5,4,2,1] [104,103,102,101,0] rfl rfl fun a w F hS=>Zh (Zb ?_)
  refine Za hS (qp r1 (qM rfl rfl qZ)) hB [13,12,11,6,5,4,2,1] [104,103,102,101,0] rfl rfl fun a w F hS=>Zb ?_
  replace hS:=hS.ent (i:=13) (s':=.pv (.int .i64 ((i+1:Nat):Int))) rfl (.int (wrap_succ (by omega)))
  obtain ⟨F,hS⟩:=hS.nm [12,11,6,5,4,2,1,13] [102,0,101] rfl rfl
  exact ⟨((i+1),((ZM gg (Go.Gm.nth l i)).1)),F,⟨by omega,⟨ZgX hpc hio hok,hfit.edit (by omega) (hlt _ (ZB hio)) hok⟩⟩,hS,by omega⟩
 have hil:i=l.length:=by simp at hc0;omega
 have hg:=Zji hpc hil
 refine wp_exit (Zi (Zi (Zo (Zb (wp_seq ?_)))))
 refine Za hS (qe 2 101 r1 r1 (qf (oP (ZhI gg hfit.1) Tryz.func44 (Args.one (.pagg .t))) r1 qz (qM rfl rfl (qu Tryz.underlying28 r1 (qf (oA 2 102 .is (.conv .t .agg)) r2 r1 (qN rfl rfl (qI qZ))))))) hB [6,5,4] [102,101,0] rfl rfl fun a w F hS=>Zb (wp_ret ?_)
 refine Zt hfr hS rfl (.cl 102 true 2 rfl rfl (.tmp rfl (.tmp rfl .nil))) (.three (by rw [hg];first | exact .aggU rfl rfl | exact .aggLe rfl ⟨PVLe.nilSl,PVLe.nilSl,trivial⟩) (.int (by rw [hg])) (.int (by rw [hg])))
theorem Zpg (v:Value) (g:Zj) (l:List CmdD) (n:Nat) (hp:Zex n g) (hnl:n+l.length≤166) (hlt:∀ c ∈ l,ZaF c):FnG Tryz.prog 17 1 [.agg (Zn g),.is v] [Zu 43 10 rCmd l v] (.tup [.agg (Zn (playC g l 0).1),.int .i64 (((playC g l 0).2.1:Nat):Int),.int .i64 (playC g l 0).2.2]) (fun _=>[Zu 43 10 rCmd l v]):=by
 refine FnG.mk Tryz.func17 rfl Tryz.ntmps17 rfl (by kernel_rfl) ?_
 intro B F0 a w F hB hG hS
 have hS:=hS.turn 1 rfl (r':=RS.ob (.val v) (Zu 43 10 rCmd l)) (fun _ _ _ _ h=>h)
 obtain ⟨F,hS⟩:=hS.nm [1,0] [1,0] rfl rfl
 refine wp_seq ?_
 refine Zc hS (qx 101 r1 (qf (oH [.slice none 0 0,.slice none 0 0] 102) trivial qz (qI (qI qZ)))) hB [6,5,4,2,1] [102,101,1,0] (fun _=>rfl) (fun _=>rfl) fun τ a w F hS=>?_
 try dsimp only [RS.sub,SF.sub,CF.sub,csub,Anc.sub,List.map,zCF,Zn,rTx,Zx,ZO,rInt,rOp,rCmd,ZF,ZaN,ZR,ZA] at hS
 generalize τ 2=v2 at hS
 generalize τ 4=v4 at hS
 refine Zb (wp_seq (wp_seq ?_))
 refine Za hS (qM rfl rfl (qf (ZT 1 Tryz.underlying28 .is) r1 r1 (qJ qZ))) hB [13,12,11,6,5,4,2,1] [102,101,1,0] rfl rfl fun a w F hS=>Zb (wp_block ?_)
 refine Zr (σ:=(Nat)×(Zj)) [1,2,4,5,6,11,12] [0,1,102] (fun s=>[(13,.pv (.int .i64 (s.1:Int)))]) (fun s=>[(101,.pt (.val v2) 25 [.pv (.sl rTx (s.2).txs),.pv (.sl Zx (s.2).orders)])]) (fun s=>s.1≤l.length∧(playC g l 0=playC s.2 (l.drop s.1) s.1∧Zex (n+s.1) s.2)) (fun s=>l.length - s.1) ((0),(g)) hS ⟨rfl,rfl,rfl,rfl,rfl,rfl,rfl,rfl,trivial⟩ ⟨rfl,rfl,rfl,rfl,trivial⟩ ⟨Nat.zero_le _,⟨rfl,hp⟩⟩ ?_
 clear hS;intro s a w F hC hS
 obtain ⟨i,gg⟩:=s
 try dsimp only at hC
 obtain ⟨F,hS⟩:=hS.nm [13,12,11,6,5,4,2,1] [102,101,1,0] rfl rfl
 try dsimp only at hS
 obtain ⟨hi,hq⟩:=hC
 obtain ⟨hpc,hfit⟩:=hq
 refine wp_seq ?_
 refine Za hS (qL r2) hB [14,13,12,11,6,5,4,2,1] [102,101,1,0] rfl rfl fun a w F hS=>Zb (wp_seq ?_)
 refine Zd hS rfl (fun hc0=>?_) (fun hc0=>?_)
 ·skip
  have hil:i<l.length:=by simp at hc0;omega
  have hio:=hil
  refine wp_skip (Zb (wp_seq (wp_block (wp_seq ?_))))
  refine Zc hS (qM rfl rfl (qf (o_indexAddr_row (sz:=10) 1 (.mk Tryz.underlying28 (by kernel_rfl)) .is .t (by omega) (by omega) (by rfl)) r2 r1 (qf (Zau (ag:=true) (sz':=10) (sz:=10) 1 .t (by intro x;rfl) (by omega) (by kernel_rfl) (by kernel_rfl) (by kernel_rfl)) r1 r1 (qf (oH [.int .i64 0,.int .i64 0,.bool false,.slice none 0 0,.int .i64 0,.slice none 0 0,.int .i64 0,.int .i64 0,.int .i64 0,.int .i64 0] 103) trivial qz (qN rfl rfl (qS 10 103 r2 r1 qZ)))))) hB [13,12,11,8,7,6,5,4,2,1] [103,102,101,1,0] (fun _=>rfl) (fun _=>rfl) fun τ a w F hS=>?_
  try dsimp only [RS.sub,SF.sub,CF.sub,csub,Anc.sub,List.map,Zf,xL,xM,Nat.reduceAdd,xD,xE,xT,xU,xC,xN,zCF,ldSF,Zn,rTx,Zx,ZO,rInt,rOp,rCmd,ZF,ZaN,ZR,ZA] at hS
  generalize τ 8=v8 at hS
  try simp only [Int.toNat_natCast] at hS
  refine Zb (wp_seq ?_)
  refine Zc hS (qe 2 101 r1 r1 (qe 10 103 r1 r1 (qf (oP (Zkr gg (Go.Gm.nth l i) hfit.1 (hlt _ (ZB hio))) Tryz.func19 (Args.two (.pagg .t) (.pagg .t))) r2 qz (qM rfl rfl (qf (o_extract .t rfl) r1 qz (qf (o_extract .t rfl) r1 qz (qf (oH [.slice none 0 0,.slice none 0 0] 104) trivial qz (qf (oA 2 104 .same (.conv .t .agg)) r2 r1 (qN rfl rfl qZ))))))))) hB [13,12,11,10,9,7,6,5,4,2,1] [104,103,102,101,1,0] (fun _=>rfl) (fun _=>rfl) fun τ a w F hS=>?_
  try dsimp only [RS.sub,SF.sub,CF.sub,csub,Anc.sub,List.map,Zf,xL,xM,Nat.reduceAdd,xD,xE,xT,xU,xC,xN,zCF,ldSF,Zn,rTx,Zx,ZO,rInt,rOp,rCmd,ZF,ZaN,ZR,ZA] at hS
  generalize τ 9=v9 at hS
  refine Zb (wp_seq (wp_seq ?_))
  refine Za hS (qM rfl rfl (qf (o_neq .t qi) r1 qz qZ)) hB [25,13,12,11,10,9,7,6,5,4,2,1] [104,103,102,101,1,0] rfl rfl fun a w F hS=>Zb ?_
  refine Zd hS rfl (fun hc1=>?_) (fun hc1=>?_)
  ·skip
   have hg:=Zjl hpc hio (by simpa using hc1)
   refine wp_seq ?_
   refine Za hS (qf (oB [] [.slice none 0 0,.slice none 0 0] [(0,1),(1,1)] .nil) trivial qz (qM rfl rfl (qM rfl rfl (qs 2 102 r2 r1 (qN rfl rfl (qN rfl rfl qZ)))))) hB [13,12,11,9,6,5,4,2,1] [104,103,102,101,1,0] rfl rfl fun a w F hS=>Zb (wp_ret (Ze (Zg (Ze (Ze (Zg (Ze ?_)))))))
   have hS:=hS.turn 1 rfl (r':=RS.hp (Zu 43 10 rCmd l v)) (fun _ _ _ _ h=>h)
   refine Zay hG hS rfl (.cl 102 true 2 rfl rfl (.tmp rfl (.tmp rfl .nil))) (.three (by rw [hg];first | exact .aggU rfl rfl | exact .aggLe rfl ⟨PVLe.nilSl,PVLe.nilSl,trivial⟩) (.int (by rw [hg])) (.int (by rw [hg]))) rfl
  have hok:¬ (ZM gg (Go.Gm.nth l i)).2≠0:=by simpa using hc1
  refine wp_skip (Zb ?_)
  refine Za hS (qe 2 104 r1 r1 (qs 2 101 r2 r1 qZ)) hB [13,12,11,6,5,4,2,1] [104,103,102,101,1,0] rfl rfl fun a w F hS=>Zh (Zb ?_)
  refine Za hS (qp r1 (qM rfl rfl qZ)) hB [13,12,11,6,5,4,2,1] [104,103,102,101,1,0] rfl rfl fun a w F hS=>Zb ?_
  replace hS:=hS.ent (i:=13) (s':=.pv (.int .i64 ((i+1:Nat):Int))) rfl (.int (wrap_succ (by omega)))
  obtain ⟨F,hS⟩:=hS.nm [12,11,6,5,4,2,1,13] [102,1,0,101] rfl rfl
  exact ⟨((i+1),((ZM gg (Go.Gm.nth l i)).1)),F,⟨by omega,⟨ZgX hpc hio hok,hfit.edit (by omega) (hlt _ (ZB hio)) hok⟩⟩,hS,by omega⟩
 have hil:i=l.length:=by simp at hc0;omega
 have hg:=Zji hpc hil
 refine wp_exit (Zi (Zi (Zo (Zb (wp_seq ?_)))))
 refine Za hS (qe 2 101 r1 r1 (qf (oP (ZhI gg hfit.1) Tryz.func44 (Args.one (.pagg .t))) r1 qz (qM rfl rfl (qf (ZT 1 Tryz.underlying28 .is) r1 r1 (qf (oA 2 102 .is (.conv .t .agg)) r2 r1 (qN rfl rfl (qI qZ))))))) hB [6,5,4] [102,101,1,0] rfl rfl fun a w F hS=>Zb (wp_ret ?_)
 have hS:=hS.turn 1 rfl (r':=RS.hp (Zu 43 10 rCmd l v)) (fun _ _ _ _ h=>h)
 refine Zay hG hS rfl (.cl 102 true 2 rfl rfl (.tmp rfl (.tmp rfl .nil))) (.three (by rw [hg];first | exact .aggU rfl rfl | exact .aggLe rfl ⟨PVLe.nilSl,PVLe.nilSl,trivial⟩) (.int (by rw [hg])) (.int (by rw [hg]))) rfl
theorem Zp8 (g:Zj) (h9:Zj) (l:List CmdD) (hwo:Zq0 g h9 l) (hlt:∀ c ∈ l,ZaF c):FnP Tryz.prog 17 [.agg (Zn g),.sl rCmd l] (.tup [.agg (Zn h9),.int .i64 ((l.length:Nat):Int),.int .i64 0]):=by
 refine FnP.mk Tryz.func17 rfl Tryz.ntmps17 rfl ?_
 intro B a w F hB hfr hS
 have hll:=Sat.lenSl hS (i:=1) rfl
 refine wp_seq ?_
 refine Zc hS (qx 101 r1 (qf (oH [.slice none 0 0,.slice none 0 0] 102) trivial qz (qI (qI qZ)))) hB [6,5,4,2,1] [102,101,0] (fun _=>rfl) (fun _=>rfl) fun τ a w F hS=>?_
 try dsimp only [RS.sub,SF.sub,CF.sub,csub,Anc.sub,List.map,zCF,Zn,rTx,Zx,ZO,rInt,rOp,rCmd,ZF,ZaN,ZR,ZA] at hS
 generalize τ 2=v2 at hS
 generalize τ 4=v4 at hS
 refine Zb (wp_seq (wp_seq ?_))
 refine Za hS (qM rfl rfl (qu Tryz.underlying28 r1 (qJ qZ))) hB [13,12,11,6,5,4,2,1] [102,101,0] rfl rfl fun a w F hS=>Zb (wp_block ?_)
 replace hS:=hS.turn 101 rfl (r':=.pt (.val v2) 25 [.pv (.sl rTx (Zit g l 0).txs),.pv (.sl Zx (Zit g l 0).orders)]) (fun _ _ _ _ h=>h)
 refine Zr (σ:=(Nat)) [1,2,4,5,6,11,12] [0,102] (fun s=>[(13,.pv (.int .i64 (s:Int)))]) (fun s=>[(101,.pt (.val v2) 25 [.pv (.sl rTx (Zit g l s).txs),.pv (.sl Zx (Zit g l s).orders)])]) (fun s=>s≤l.length∧(True)) (fun s=>l.length - s) (0) hS ⟨rfl,rfl,rfl,rfl,rfl,rfl,rfl,rfl,trivial⟩ ⟨rfl,rfl,rfl,trivial⟩ ⟨Nat.zero_le _,trivial⟩ ?_
 clear hS;intro i a w F hC hS
 try dsimp only at hC
 obtain ⟨F,hS⟩:=hS.nm [13,12,11,6,5,4,2,1] [102,101,0] rfl rfl
 try dsimp only at hS
 obtain ⟨hi,hq⟩:=hC
 refine wp_seq ?_
 refine Za hS (qL r2) hB [14,13,12,11,6,5,4,2,1] [102,101,0] rfl rfl fun a w F hS=>Zb (wp_seq ?_)
 refine Zd hS rfl (fun hc0=>?_) (fun hc0=>?_)
 ·skip
  have hil:i<l.length:=by simp at hc0;omega
  have hio:=hil
  refine wp_skip (Zb (wp_seq (wp_block (wp_seq ?_))))
  refine Zc hS (qM rfl rfl (qy 10 Tryz.underlying28 r2 (qf (oR true 10 .t) r1 qz (qf (oH [.int .i64 0,.int .i64 0,.bool false,.slice none 0 0,.int .i64 0,.slice none 0 0,.int .i64 0,.int .i64 0,.int .i64 0,.int .i64 0] 103) trivial qz (qN rfl rfl (qS 10 103 r2 r1 qZ)))))) hB [13,12,11,8,7,6,5,4,2,1] [103,102,101,0] (fun _=>rfl) (fun _=>rfl) fun τ a w F hS=>?_
  try dsimp only [RS.sub,SF.sub,CF.sub,csub,Anc.sub,List.map,Zf,xL,xM,Nat.reduceAdd,xD,xE,xT,xU,xC,xN,zCF,ldSF,Zn,rTx,Zx,ZO,rInt,rOp,rCmd,ZF,ZaN,ZR,ZA] at hS
  generalize τ 8=v8 at hS
  try simp only [Int.toNat_natCast] at hS
  refine Zb (wp_seq ?_)
  refine Zc hS (qe 2 101 r1 r1 (qe 10 103 r1 r1 (qf (oP (Zkr (Zit g l i) (Go.Gm.nth l i) ((hwo.fit i hi).small166 (by omega)) (hlt _ (ZB hio))) Tryz.func19 (Args.two (.pagg .t) (.pagg .t))) r2 qz (qM rfl rfl (qf (o_extract .t rfl) r1 qz (qf (o_extract .t rfl) r1 qz (qf (oH [.slice none 0 0,.slice none 0 0] 104) trivial qz (qf (oA 2 104 .same (.conv .t .agg)) r2 r1 (qN rfl rfl qZ))))))))) hB [13,12,11,10,9,7,6,5,4,2,1] [104,103,102,101,0] (fun _=>rfl) (fun _=>rfl) fun τ a w F hS=>?_
  try dsimp only [RS.sub,SF.sub,CF.sub,csub,Anc.sub,List.map,Zf,xL,xM,Nat.reduceAdd,xD,xE,xT,xU,xC,xN,zCF,ldSF,Zn,rTx,Zx,ZO,rInt,rOp,rCmd,ZF,ZaN,ZR,ZA] at hS
  generalize τ 9=v9 at hS
  rw [hwo.step i hio] at hS
  dsimp only at hS
  refine Zb (wp_seq (wp_seq ?_))
  refine Za hS (qM rfl rfl (qf (o_neq .t qi) r1 qz qZ)) hB [25,13,12,11,10,9,7,6,5,4,2,1] [104,103,102,101,0] rfl rfl fun a w F hS=>Zb ?_
  refine Zd hS rfl (fun hc1=>?_) (fun hc1=>?_)
  ·skip
   simp at hc1
  refine wp_skip (Zb ?_)
  refine Za hS (qe 2 104 r1 r1 (qs 2 101 r2 r1 qZ)) hB [13,12,11,6,5,4,2,1] [104,103,102,101,0] rfl rfl fun a w F hS=>Zh (Zb ?_)
  refine Za hS (qp r1 (qM rfl rfl qZ)) hB [13,12,11,6,5,4,2,1] [104,103,102,101,0] rfl rfl fun a w F hS=>Zb ?_
  replace hS:=hS.ent (i:=13) (s':=.pv (.int .i64 ((i+1:Nat):Int))) rfl (.int (wrap_succ (by omega)))
  obtain ⟨F,hS⟩:=hS.nm [12,11,6,5,4,2,1,13] [102,0,101] rfl rfl
  exact ⟨(i+1),F,⟨by omega,trivial⟩,hS,by omega⟩
 have hil:i=l.length:=by simp at hc0;omega
 have hwe:Zit g l i=h9:=by rw [hil];exact hwo.fin
 refine wp_exit (Zi (Zi (Zo (Zb (wp_seq ?_)))))
 refine Za hS (qe 2 101 r1 r1 (qf (oP (ZhI (Zit g l i) ((hwo.fit i hi).small166 (by omega))) Tryz.func44 (Args.one (.pagg .t))) r1 qz (qM rfl rfl (qu Tryz.underlying28 r1 (qf (oA 2 102 .is (.conv .t .agg)) r2 r1 (qN rfl rfl (qI qZ))))))) hB [6,5,4] [102,101,0] rfl rfl fun a w F hS=>Zb (wp_ret ?_)
 refine Zt hfr hS rfl (.cl 102 true 2 rfl rfl (.tmp rfl (.tmp rfl .nil))) (.three (by rw [← hwe];first | exact .aggU rfl rfl | exact .aggLe rfl ⟨PVLe.nilSl,PVLe.nilSl,trivial⟩) (.int rfl) (.int rfl))
theorem Zsn (n:Int) (hn:0≤n∧n≤1000000):FnG Tryz.prog 121 1 [.is (.slice none 0 0),.int .i64 n] [.star []] (PV.one) (fun v=>[Zu 81 1 ZF ([]:List ZQ) v]):=by
 refine FnG.mk Tryz.func121 rfl Tryz.ntmps121 rfl (by kernel_rfl) ?_
 intro B F0 a w F hB hG hS
 obtain ⟨F,hS⟩:=hS.nm [1,0] [0] rfl rfl
 replace hS:=hS.fresh 50 rfl
 replace hS:=hS.turn 50 rfl (ZaC (T:=81) (sz:=1) (R:=ZF))
 refine wp_seq ?_
 refine Za hS (qC qZ) hB [4,1,0] [50,0] rfl rfl fun a w F hS=>Zb (wp_seq (wp_seq ?_))
 refine Za hS (qM rfl rfl (qf (Zbq .t qi) r1 qz qZ)) hB [6,4,1,0] [50,0] rfl rfl fun a w F hS=>Zb ?_
 refine Zd hS rfl (fun hc0=>?_) (fun hc0=>?_)
 ·skip
  simp at hc0;omega
 refine wp_skip (Zb (wp_seq (wp_seq ?_)))
 refine Za hS (qM rfl rfl (qM rfl rfl (qf (Zep Tryz.underlying78 .t) r1 qz (qM rfl rfl (qf (ZT 50 Tryz.underlying78 .is) r1 r1 (qf (o_sub .t .t) r2 qz (qf (o_sub .t .t) r2 qz (qN rfl rfl qZ)))))))) hB [4,1,0] [50,0] rfl rfl fun a w F hS=>?_
 replace hS:=hS.ent (i:=1) (s':=.pv (.int .i64 n)) rfl (.int (by simp only [List.length_nil,Int.natCast_zero,Int.sub_zero];rw [show IntKind.wrap .i64 0=0 by decide,Int.sub_zero];exact ZC (by omega)))
 obtain ⟨F,hS⟩:=hS.nm [4,1,0] [50,0] rfl rfl
 refine Zb (wp_seq ?_)
 refine Za hS (qM rfl rfl (qf (ZaR .t qi) r1 qz qZ)) hB [16,4,1,0] [50,0] rfl rfl fun a w F hS=>Zb ?_
 refine Zd hS rfl (fun hc1=>?_) (fun hc1=>?_)
 ·skip
  have hn0:0<n:=by simpa using hc1
  have hg:([]:List ZQ) = []:=rfl
  refine Zc hS (qM rfl rfl (qM rfl rfl (qf (Zep Tryz.underlying78 .t) r1 qz (qf (Zc7 (sz:=1) 50 (.mk Tryz.underlying78 (by kernel_rfl)) .is .t (by omega) (by simp)) r2 r1 (qM rfl rfl (qf (ZbZ (R:=ZF) (z:=ZQ.none) (bs:=16) (sz:=1) (zs:=[.nilIface]) 50 101 Tryz.underlying78 Tryz.underlying3 (by kernel_rfl) (by kernel_rfl) (by kernel_rfl) (by intro x;rfl) (fun _ _=>⟨⟨rfl,rfl,rfl⟩,trivial⟩) .t .t (Nat.le_refl 0) (by show 0<0+n.toNat;omega) hn0 (by show (0+n.toNat)*16≤_;omega) (by show 0+n.toNat≤_;omega)) ⟨rfl,rfl,trivial⟩ ⟨rfl,trivial⟩ (qM rfl rfl (qf (ZT 50 Tryz.underlying78 .is) r1 r1 (qf (ZbL (sz:=1) 101 (.mk Tryz.underlying78 (by kernel_rfl)) (by intro x;rfl) .same .t (by omega) (by simp;omega)) r2 r1 (qN rfl rfl qZ)))))))))) hB [4,0] [101,50,0] (fun _=>rfl) (fun _=>rfl) fun τ a w F hS=>?_
  try dsimp only [RS.sub,SF.sub,CF.sub,csub,Anc.sub,List.map,xC,xN,Zn,rTx,Zx,ZO,rInt,rOp,rCmd,ZF,ZaN,ZR,ZA] at hS
  generalize τ 25=v25 at hS
  refine Zb (wp_seq ?_)
  refine Za hS (qM rfl rfl (qN rfl rfl qZ)) hB [4] [101,50,0] rfl rfl fun a w F hS=>Zb (wp_ret ?_)
  obtain ⟨F,hS⟩:=hS.rename 101 1 rfl rfl
  have hS:=hS.turn 1 rfl (r':=RS.hp (Zu 81 1 ZF ([]:List ZQ) v25)) (fun _ _ _ _ h=>by rw [hg];exact h)
  refine ZaG (h':=fun v=>Zu 81 1 ZF ([]:List ZQ) v) hG hS rfl (.tmp rfl .nil) (.one .one) rfl
 have hg:([]:List ZQ) = []:=rfl
 refine wp_skip (Zb (wp_seq ?_))
 refine Za hS (qM rfl rfl (qN rfl rfl qZ)) hB [4] [50,0] rfl rfl fun a w F hS=>Zb (wp_ret ?_)
 have hS:=hS.fresh 1 rfl
 have hS:=hS.turn 1 rfl (ZaC (T:=81) (sz:=1) (R:=ZF))
 have hS:=hS.turn 1 rfl (r':=RS.hp (Zu 81 1 ZF ([]:List ZQ) (.slice none 0 0))) (fun _ _ _ _ h=>by rw [hg];exact h)
 refine ZaG (h':=fun v=>Zu 81 1 ZF ([]:List ZQ) v) hG hS rfl (.tmp rfl .nil) (.one .one) rfl
theorem Zpj (ls:List (List ZQ)) (hl:ls.flatten.length≤100000) (hn:ls.length≤1000):FnP Tryz.prog 79 [.sl ZaN ls] (.sl ZF ls.flatten):=by
 refine FnP.mk Tryz.func79 rfl Tryz.ntmps79 rfl ?_
 intro B a w F hB hfr hS
 refine wp_seq ?_
 refine Za hS (qC qZ) hB [2,0] [0] rfl rfl fun a w F hS=>Zb (wp_seq ?_)
 refine Za hS (qI qZ) hB [3,2,0] [0] rfl rfl fun a w F hS=>Zb (wp_seq (wp_seq ?_))
 refine Za hS (qM rfl rfl (qu Tryz.underlying185 r1 (qJ qZ))) hB [11,10,9,3,2,0] [0] rfl rfl fun a w F hS=>Zb (wp_block ?_)
 refine Zr (σ:=(Nat)) [0,2,9,10] [0] (fun s=>[(11,.pv (.int .i64 (s:Int))),(3,.pv (.int .i64 ((ZjC (ls.take s):Nat):Int)))]) (fun s=>[]) (fun s=>s≤ls.length∧(True)) (fun s=>ls.length - s) (0) hS ⟨rfl,rfl,rfl,rfl,rfl,rfl,trivial⟩ ⟨rfl,trivial⟩ ⟨Nat.zero_le _,trivial⟩ ?_
 clear hS;intro i a w F hC hS
 try dsimp only at hC
 obtain ⟨F,hS⟩:=hS.nm [11,10,9,3,2,0] [0] rfl rfl
 try dsimp only at hS
 obtain ⟨hi,hq⟩:=hC
 have hll:=Zgw ls i
 refine wp_seq ?_
 refine Za hS (qL r2) hB [12,11,10,9,3,2,0] [0] rfl rfl fun a w F hS=>Zb (wp_seq ?_)
 refine Zd hS rfl (fun hc0=>?_) (fun hc0=>?_)
 ·skip
  have hil:i<ls.length:=by simp at hc0;omega
  have hio:=hil
  have hls1:=Zgw ls (i+1)
  rw [Zeu hio] at hls1
  refine wp_skip (Zb (wp_seq (wp_block (wp_seq ?_))))
  refine Za hS (qy 1 Tryz.underlying185 r2 (qf (oR false 1 .t) r1 qz (qN rfl rfl qZ))) hB [11,10,9,5,3,2,0] [0] rfl rfl fun a w F hS=>?_
  try simp only [Int.toNat_natCast] at hS
  refine Zb (wp_seq ?_)
  refine Za hS (qM rfl rfl (qM rfl rfl (qu Tryz.underlying78 r1 (qf (Zbv .t .t) r2 qz (qN rfl rfl qZ))))) hB [11,10,9,3,2,0] [0] rfl rfl fun a w F hS=>Zb (wp_seq ?_)
  refine Za hS (qM rfl rfl (qf (Zbq .t qi) r1 qz qZ)) hB [20,11,10,9,3,2,0] [0] rfl rfl fun a w F hS=>Zb ?_
  refine Zd hS rfl (fun hc1=>?_) (fun hc1=>?_)
  ·skip
   have hls:=Zgw ls (i+1)
   rw [Zeu hio] at hls
   have hw9:IntKind.wrap .i64 ((ZjC (ls.take i):Int)+((Go.Gm.nth ls i).length:Int))=(ZjC (ls.take i):Int)+((Go.Gm.nth ls i).length:Int):=ZC (by omega)
   rw [hw9] at hc1
   simp at hc1
   omega
  refine wp_skip (Zh (Zb ?_))
  refine Za hS (qp r1 (qM rfl rfl qZ)) hB [11,10,9,3,2,0] [0] rfl rfl fun a w F hS=>Zb ?_
  replace hS:=hS.ent (i:=11) (s':=.pv (.int .i64 ((i+1:Nat):Int))) rfl (.int (wrap_succ (by omega)))
  replace hS:=hS.ent (i:=3) (s':=.pv (.int .i64 ((ZjC (ls.take (i+1)):Nat):Int))) rfl (.int (by rw [Zeu hio,ZC (by omega)];omega))
  obtain ⟨F,hS⟩:=hS.nm [10,9,2,0,3,11] [0] rfl rfl
  exact ⟨(i+1),F,⟨by omega,trivial⟩,hS,by omega⟩
 have hil:i=ls.length:=by simp at hc0;omega
 refine wp_exit (Zi (Zi (Zo (Zb (wp_seq ?_)))))
 replace hS:=hS.fresh 101 rfl
 refine Zc hS (qM rfl rfl (qf (Za2 101 (Zsn ((ZjC (ls.take i):Nat):Int) (by omega)) Tryz.func121 rfl (by kernel_rfl) (Args.two (.c rfl) .t) ZaO) r1 r1 (qN rfl rfl qZ))) hB [6,2,0] [101,0] (fun _=>rfl) (fun _=>rfl) fun τ a w F hS=>?_
 try dsimp only [RS.sub,SF.sub,CF.sub,csub,Anc.sub,List.map,Zn,rTx,Zx,ZO,rInt,rOp,rCmd,ZF,ZaN,ZR,ZA] at hS
 generalize τ 24=v24 at hS
 refine Zb (wp_seq (wp_seq ?_))
 refine Za hS (qM rfl rfl (qu Tryz.underlying185 r1 (qJ qZ))) hB [27,26,25,6,2] [101,0] rfl rfl fun a w F hS=>Zb (wp_block ?_)
 refine Zr (σ:=(Nat)×(Value)×(List ZQ)) [2,25,26] [0] (fun s=>[(27,.pv (.int .i64 (s.1:Int))),(6,.pv (.is s.2.1))]) (fun s=>[(101,.ob (.val s.2.1) (Zu 81 1 ZF s.2.2))]) (fun s=>s.1≤ls.length∧(s.2.2=(ls.take s.1).flatten)) (fun s=>ls.length - s.1) ((0),(v24),([])) hS ⟨rfl,rfl,rfl,rfl,rfl,trivial⟩ ⟨rfl,rfl,trivial⟩ ⟨Nat.zero_le _,rfl⟩ ?_
 clear hS;intro s a w F hC hS
 obtain ⟨i,v,out⟩:=s
 try dsimp only at hC
 obtain ⟨F,hS⟩:=hS.nm [27,26,25,6,2] [101,0] rfl rfl
 try dsimp only at hS
 obtain ⟨hi,hq⟩:=hC
 have hol:out.length≤ls.flatten.length:=by rw [hq,← ZdW];exact Zgw ls i
 have hon:i<ls.length→out.length+(Go.Gm.nth ls i).length≤ls.flatten.length:=fun h=>by
   have h1:=Zgw ls (i+1)
   rw [Zeu h,ZdW,← hq] at h1
   exact h1
 refine wp_seq ?_
 refine Za hS (qL r2) hB [28,27,26,25,6,2] [101,0] rfl rfl fun a w F hS=>Zb (wp_seq ?_)
 refine Zd hS rfl (fun hc2=>?_) (fun hc2=>?_)
 ·skip
  have hil:i<ls.length:=by simp at hc2;omega
  have hio:=hil
  refine wp_skip (Zb (wp_seq (wp_block (wp_seq ?_))))
  refine Za hS (qy 1 Tryz.underlying185 r2 (qf (oR false 1 .t) r1 qz (qN rfl rfl qZ))) hB [27,26,25,8,6,2] [101,0] rfl rfl fun a w F hS=>?_
  try simp only [Int.toNat_natCast] at hS
  refine Zb ?_
  refine Zc hS (qM rfl rfl (qM rfl rfl (qf (o_append (sz:=1) (bs:=16) 101 (.mk' Tryz.underlying78 (by kernel_rfl) (by kernel_rfl)) (by intro x;rfl) .is (.sl .t) (by have:=hon hio;omega) (by decide)) ⟨rfl,rfl,trivial⟩ ⟨rfl,trivial⟩ (qN rfl rfl qZ)))) hB [27,26,25,6,2] [101,0] (fun _=>rfl) (fun _=>rfl) fun τ a w F hS=>?_
  try dsimp only [RS.sub,SF.sub,CF.sub,csub,Anc.sub,List.map,xC,xN,Zn,rTx,Zx,ZO,rInt,rOp,rCmd,ZF,ZaN,ZR,ZA] at hS
  generalize τ 33=v33 at hS
  refine Zh (Zb ?_)
  refine Za hS (qp r1 (qM rfl rfl qZ)) hB [27,26,25,6,2] [101,0] rfl rfl fun a w F hS=>Zb ?_
  replace hS:=hS.ent (i:=27) (s':=.pv (.int .i64 ((i+1:Nat):Int))) rfl (.int (wrap_succ (by omega)))
  obtain ⟨F,hS⟩:=hS.nm [26,25,2,6,27] [0,101] rfl rfl
  exact ⟨((i+1),_,_),F,⟨by omega,(by rw [ZlY hio,hq])⟩,hS,by omega⟩
 have hil:i=ls.length:=by simp at hc2;omega
 refine wp_exit (Zi (Zi (Zo (Zb (wp_seq ?_)))))
 refine Za hS (qM rfl rfl (qN rfl rfl qZ)) hB [2] [101,0] rfl rfl fun a w F hS=>Zb (wp_ret ?_)
 obtain ⟨F,hS⟩:=hS.give 101 2 rfl rfl
 refine Zq hfr hS rfl rfl rfl (.sl (by rw [hq,hil,List.take_length]))
theorem ZpN (o:OpD):FnP Tryz.prog 120 [.agg (rOp o)] (.bool o.read):=by
 refine FnP.mk Tryz.func120 rfl Tryz.ntmps120 rfl ?_
 intro B a w F hB hfr hS
 refine wp_seq ?_
 refine Zc hS (qx 101 r1 qB) hB [2,1] [101,0] (fun _=>rfl) (fun _=>rfl) fun τ a w F hS=>?_
 try dsimp only [RS.sub,SF.sub,CF.sub,csub,Anc.sub,List.map,zCF,rOp] at hS
 generalize τ 1=v1 at hS
 refine Zb (wp_seq ?_)
 refine Za hS (qg 0 101 r1 r1 (qa 101 r1 r1 (qN rfl rfl qZ))) hB [2] [0] rfl rfl fun a w F hS=>Zb (wp_ret ?_)
 refine Zq hfr hS rfl rfl rfl .refl
theorem ZnY (g o:Zj) (hs:Zba g.txs) (hso:Zba o.txs):FnP Tryz.prog 78 [.agg (Zn g),.agg (Zn o)] (.sl ZR (Zm g o)):=by
 refine FnP.mk Tryz.func78 rfl Tryz.ntmps78 rfl ?_
 intro B a w F hB hfr hS
 have hsl:=hs.1
 refine wp_seq ?_
 refine Zc hS (qx 101 r1 (qx 102 r1 (qC qZ))) hB [4,3,2] [102,101,0] (fun _=>rfl) (fun _=>rfl) fun τ a w F hS=>?_
 try dsimp only [RS.sub,SF.sub,CF.sub,csub,Anc.sub,List.map,zCF,Zn,rTx,Zx,ZO,rInt,rOp,rCmd,ZF,ZaN,ZR,ZA] at hS
 generalize τ 2=v2 at hS
 generalize τ 3=v3 at hS
 refine Zb (wp_seq ?_)
 refine Za hS (qC qZ) hB [5,4,3,2] [102,101,0] rfl rfl fun a w F hS=>Zb (wp_seq (wp_seq ?_))
 refine Za hS (qg 0 101 r1 r1 (qa 101 r1 r1 (qu Tryz.underlying22 r1 (qJ qZ)))) hB [13,12,11,5,4,3] [102,101,0] rfl rfl fun a w F hS=>Zb (wp_block ?_)
 replace hS:=hS.fresh 50 rfl
 replace hS:=hS.turn 50 rfl (ZaC (T:=128) (sz:=6) (R:=ZR))
 refine Zr (σ:=(Nat)×(Value)×(List ZY)) [3,4,11,12] [0,101,102] (fun s=>[(13,.pv (.int .i64 (s.1:Int))),(5,.pv (.is s.2.1))]) (fun s=>[(50,.ob (.val s.2.1) (Zu 128 6 ZR s.2.2))]) (fun s=>s.1≤g.txs.length∧(s.2.2=(g.txs.take s.1).map (Zcw o))) (fun s=>g.txs.length - s.1) ((0),(.slice none 0 0),([])) hS ⟨rfl,rfl,rfl,rfl,rfl,rfl,trivial⟩ ⟨rfl,rfl,rfl,rfl,trivial⟩ ⟨Nat.zero_le _,rfl⟩ ?_
 clear hS;intro s a w F hC hS
 obtain ⟨i,v,out⟩:=s
 try dsimp only at hC
 obtain ⟨F,hS⟩:=hS.nm [13,12,11,5,4,3] [102,101,50,0] rfl rfl
 try dsimp only at hS
 obtain ⟨hi,hq⟩:=hC
 have hol:out.length≤i:=by rw [hq,List.length_map,List.length_take];omega
 refine wp_seq ?_
 refine Za hS (qL r2) hB [14,13,12,11,5,4,3] [102,101,50,0] rfl rfl fun a w F hS=>Zb (wp_seq ?_)
 refine Zd hS rfl (fun hc0=>?_) (fun hc0=>?_)
 ·skip
  have hil:i<g.txs.length:=by simp at hc0;omega
  have hio:=hil
  refine wp_skip (Zb (wp_seq (wp_block (wp_seq ?_))))
  refine Zc hS (qy 3 Tryz.underlying22 r2 (qf (oR true 3 .t) r1 qz (qf (oH [.int .i64 0,.bool false,.slice none 0 0] 103) trivial qz (qS 3 103 r2 r1 qZ)))) hB [13,12,11,7,5,4,3] [103,102,101,50,0] (fun _=>rfl) (fun _=>rfl) fun τ a w F hS=>?_
  try dsimp only [RS.sub,SF.sub,CF.sub,csub,Anc.sub,List.map,Zf,xL,xM,Nat.reduceAdd,xD,xE,xT,xU,xC,xN,zCF,ldSF,Zn,rTx,Zx,ZO,rInt,rOp,rCmd,ZF,ZaN,ZR,ZA] at hS
  generalize τ 7=v7 at hS
  try simp only [Int.toNat_natCast] at hS
  refine Zb (wp_seq ?_)
  refine Zc hS (qe 2 102 r1 r1 (qg 0 103 r1 r1 (qa 103 r1 r1 (qf (oP (Zni o (Go.Gm.nth g.txs i).id hso) Tryz.func107 (Args.two (.pagg .t) .t)) r2 qz (qM rfl rfl (qf (o_extract .t rfl) r1 qz (qf (o_extract .t rfl) r1 qz (qf (oH [.int .i64 0,.bool false,.slice none 0 0] 104) trivial qz (qf (oA 3 104 .same (.conv .t .agg)) r2 r1 (qN rfl rfl qZ)))))))))) hB [13,12,11,9,8,7,5,4,3] [104,103,102,101,50,0] (fun _=>rfl) (fun _=>rfl) fun τ a w F hS=>?_
  try dsimp only [RS.sub,SF.sub,CF.sub,csub,Anc.sub,List.map,Zf,xL,xM,Nat.reduceAdd,xD,xE,xT,xU,xC,xN,zCF,ldSF,Zn,rTx,Zx,ZO,rInt,rOp,rCmd,ZF,ZaN,ZR,ZA] at hS
  generalize τ 8=v8 at hS
  refine Zb ?_
  refine Zcp hS (qM rfl rfl (qe 3 103 r1 r1 (qM rfl rfl (qM rfl rfl (qM rfl rfl (qk rfl (fun h=>oL true 3 103 .is) r2 r1 (qk rfl (fun h=>oL true 3 104 .is) r2 r1 (qk rfl (fun h=>oP (Zh8 (Go.Gm.nth g.txs i) ((ZN o.txs (Go.Gm.nth g.txs i).id).getD zeroT)) Tryz.func32 (Args.two (.pagg (.w h)) (.pagg (.w h)))) r3 qz (qf (ZK .t .t) r2 qz (qg 2 103 r1 r1 (qa 103 r1 r1 (qf (oP (Zrr (Go.Gm.nth g.txs i).ops (fun o=>o.read) 120 Tryz.f120 [] Tryz.func120 rfl (by kernel_rfl) ZpN) Tryz.func69 (Args.two .t (.conv .f (Ent.fnClos)))) r1 qz (qf (oB [(0,.tmp 25),(1,.tmp 26),(2,.tmp 32),(3,.tmp 35)] [.int .i64 0,.bool false,.slice none 0 0,.bool false,.bool false,.bool false] [(0,3),(3,1),(4,1),(5,1)] (.agg rfl .t (by kernel_rfl) (by kernel_rfl) (.one rfl .t one_bool (by kernel_rfl) (.one rfl .t one_bool (by kernel_rfl) (.one rfl .t one_bool (by kernel_rfl) .nil))))) r4 qz (qf (Zk (sz:=6) (zs:=[.int .i64 0,.bool false,.slice none 0 0,.bool false,.bool false,.bool false]) (r:=[(0,.tmp 36)]) (l:=[_,_,_,_,_,_]) Tryz.underlying125 (by kernel_rfl) (by kernel_rfl) (by kernel_rfl) (by kernel_rfl) rfl rfl (.agg rfl .t (by kernel_rfl) (by kernel_rfl) .nil) rfl) r1 qz (qf (o_append (sz:=6) (bs:=48) 50 (.mk' Tryz.underlying125 (by kernel_rfl) (by kernel_rfl)) (by intro x;rfl) .is (.arr (l':=[Zcw o (Go.Gm.nth g.txs i)]) .t) (by simp only [List.length_append,List.length_cons,List.length_nil];omega) (by decide)) ⟨rfl,rfl,trivial⟩ ⟨rfl,trivial⟩ (qN rfl rfl qZ)))))))))))))))) hB [13,12,11,5,4,3] [104,103,102,101,50,0] (fun _=>rfl) (fun _=>rfl) fun τ a w F hS=>?_
  try dsimp only [RS.sub,SF.sub,CF.sub,csub,Anc.sub,List.map,Zf,xL,xM,Nat.reduceAdd,xD,xE,xT,xU,xC,xN,zCF,ldSF,Zn,rTx,Zx,ZO,rInt,rOp,rCmd,ZF,ZaN,ZR,ZA] at hS
  generalize τ 38=v38 at hS
  refine Zh (Zb ?_)
  refine Za hS (qp r1 (qM rfl rfl qZ)) hB [13,12,11,5,4,3] [104,103,102,101,50,0] rfl rfl fun a w F hS=>Zb ?_
  replace hS:=hS.ent (i:=13) (s':=.pv (.int .i64 ((i+1:Nat):Int))) rfl (.int (wrap_succ (by omega)))
  obtain ⟨F,hS⟩:=hS.nm [12,11,4,3,5,13] [102,101,0,50] rfl rfl
  exact ⟨((i+1),_,_),F,⟨by omega,(by rw [Zf0 hio,hq])⟩,hS,by omega⟩
 have hil:i=g.txs.length:=by simp at hc0;omega
 refine wp_exit (Zi (Zi (Zo (Zb (wp_seq ?_)))))
 refine Za hS (qM rfl rfl (qN rfl rfl qZ)) hB [4] [102,101,50,0] rfl rfl fun a w F hS=>Zb (wp_ret ?_)
 obtain ⟨F,hS⟩:=hS.give 50 4 rfl rfl
 refine Zq hfr hS rfl rfl rfl (.sl (by rw [hq,hil,List.take_length];rfl))
end Go.Proofs.YtjhapicamnijnaaGreatDoor
