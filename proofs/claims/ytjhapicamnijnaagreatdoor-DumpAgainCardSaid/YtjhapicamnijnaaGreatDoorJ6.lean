/- Texts put together. No condition beyond those that each theorem says. -/
import Derived.Test.YtjhapicamnijnaaGreatDoorJ3
import Derived.Test.YtjhapicamnijnaaGreatDoorJ0
import Derived.Test.YtjhapicamnijnaaGreatDoorJ5
import Derived.Test.YtjhapicamnijnaaGreatDoorJ4
import Derived.Test.YtjhapicamnijnaaGreatDoorJ2
namespace Go.Proofs.YtjhapicamnijnaaGreatDoor
open Go Go.Gm
set_option linter.unusedVariables false
set_option linter.unusedSimpArgs false
set_option maxHeartbeats 4000000
set_option maxRecDepth 8000
theorem Sat.aggInt {B:Zbf} {E:En} {a:Act} {w:World} {F:Fp} (h:Sat B E a w F) {i:Nat} {l:List PV} {k:Nat} {x:Int} (hl:Go.Gm.look E.s i=some (SF.pv (PV.agg l))) (hk:l[k]? = some (.int .i64 x)):inR .i64 x:=by
 obtain ⟨vs,_,hv⟩:=h.s i _ hl
 obtain ⟨v,_,h2⟩:=PVs.at hv hk
 exact h2.2
theorem Zlr (k:Int):FnP Tryz.prog 38 [.int .i64 k] (.agg (rWd (ZL k))):=by
 refine FnP.mk Tryz.func38 rfl Tryz.ntmps38 rfl ?_
 intro B a w F hB hfr hS
 refine wp_seq ?_
 refine Zc hS (qf (oH [.string ⟨#[]⟩,.int .i64 0,.int .i64 0] 101) trivial qz qZ) hB [2,0] [101,0] (fun _=>rfl) (fun _=>rfl) fun τ a w F hS=>?_
 try dsimp only [RS.sub,SF.sub,CF.sub,csub,Anc.sub,List.map,zCF] at hS
 generalize τ 2=v2 at hS
 refine Zb (wp_seq (wp_seq ?_))
 refine Za hS (qM rfl rfl qZ) hB [3,2] [101,0] rfl rfl fun a w F hS=>Zb (wp_block (wp_seq ?_))
 refine Za hS (qf (o_eql .t qi) r1 qz (qN rfl rfl qZ)) hB [4,3,2] [101,0] rfl rfl fun a w F hS=>Zb ?_
 refine Zd hS rfl (fun hc0=>?_) (fun hc0=>?_)
 ·skip
  have hk:=of_decide_eq_true hc0
  subst hk
  refine wp_seq ?_
  refine Za hS (qf (oB [(0,_),(1,_),(2,_)] [.string ⟨#[]⟩,.int .i64 0,.int .i64 0] [(0,1),(1,1),(2,1)] (.one rfl (.cs (by kernel_rfl)) one_str (by kernel_rfl) (.one rfl qi one_int (by kernel_rfl) (.one rfl qi one_int (by kernel_rfl) .nil)))) trivial qz (qs 3 101 r2 r1 qZ)) hB [2] [101,0] rfl rfl fun a w F hS=>Zb (wp_ret (Zf (Ze ?_)))
  refine Zr hfr hS rfl (.cl 101 true 3 rfl rfl .nil) (.one (.aggU rfl (by first | rfl | (unfold ZL;rw [if_neg n1,if_neg n2,if_neg n3,if_neg n4,if_neg n5,if_neg n6,if_neg n7,if_neg n8,if_neg n9,if_neg n10,if_neg n11,if_neg n12];rfl))))
 have n1:=of_decide_eq_false hc0
 refine wp_seq ?_
 refine Za hS (qf (o_eql .t qi) r1 qz (qN rfl rfl qZ)) hB [7,3,2] [101,0] rfl rfl fun a w F hS=>Zb ?_
 refine Zd hS rfl (fun hc1=>?_) (fun hc1=>?_)
 ·skip
  have hk:=of_decide_eq_true hc1
  subst hk
  refine wp_seq ?_
  refine Za hS (qf (oB [(0,_),(1,_),(2,_)] [.string ⟨#[]⟩,.int .i64 0,.int .i64 0] [(0,1),(1,1),(2,1)] (.one rfl (.cs (by kernel_rfl)) one_str (by kernel_rfl) (.one rfl qi one_int (by kernel_rfl) (.one rfl qi one_int (by kernel_rfl) .nil)))) trivial qz (qs 3 101 r2 r1 qZ)) hB [2] [101,0] rfl rfl fun a w F hS=>Zb (wp_ret (Zf (Ze ?_)))
  refine Zr hfr hS rfl (.cl 101 true 3 rfl rfl .nil) (.one (.aggU rfl (by first | rfl | (unfold ZL;rw [if_neg n1,if_neg n2,if_neg n3,if_neg n4,if_neg n5,if_neg n6,if_neg n7,if_neg n8,if_neg n9,if_neg n10,if_neg n11,if_neg n12];rfl))))
 have n2:=of_decide_eq_false hc1
 refine wp_seq ?_
 refine Za hS (qf (o_eql .t qi) r1 qz (qN rfl rfl qZ)) hB [10,3,2] [101,0] rfl rfl fun a w F hS=>Zb ?_
 refine Zd hS rfl (fun hc2=>?_) (fun hc2=>?_)
 ·skip
  have hk:=of_decide_eq_true hc2
  subst hk
  refine wp_seq ?_
  refine Za hS (qf (oB [(0,_),(1,_),(2,_)] [.string ⟨#[]⟩,.int .i64 0,.int .i64 0] [(0,1),(1,1),(2,1)] (.one rfl (.cs (by kernel_rfl)) one_str (by kernel_rfl) (.one rfl qi one_int (by kernel_rfl) (.one rfl qi one_int (by kernel_rfl) .nil)))) trivial qz (qs 3 101 r2 r1 qZ)) hB [2] [101,0] rfl rfl fun a w F hS=>Zb (wp_ret (Zf (Ze ?_)))
  refine Zr hfr hS rfl (.cl 101 true 3 rfl rfl .nil) (.one (.aggU rfl (by first | rfl | (unfold ZL;rw [if_neg n1,if_neg n2,if_neg n3,if_neg n4,if_neg n5,if_neg n6,if_neg n7,if_neg n8,if_neg n9,if_neg n10,if_neg n11,if_neg n12];rfl))))
 have n3:=of_decide_eq_false hc2
 refine wp_seq ?_
 refine Za hS (qf (o_eql .t qi) r1 qz (qN rfl rfl qZ)) hB [13,3,2] [101,0] rfl rfl fun a w F hS=>Zb ?_
 refine Zd hS rfl (fun hc3=>?_) (fun hc3=>?_)
 ·skip
  have hk:=of_decide_eq_true hc3
  subst hk
  refine wp_seq ?_
  refine Za hS (qf (oB [(0,_),(1,_),(2,_)] [.string ⟨#[]⟩,.int .i64 0,.int .i64 0] [(0,1),(1,1),(2,1)] (.one rfl (.cs (by kernel_rfl)) one_str (by kernel_rfl) (.one rfl qi one_int (by kernel_rfl) (.one rfl qi one_int (by kernel_rfl) .nil)))) trivial qz (qs 3 101 r2 r1 qZ)) hB [2] [101,0] rfl rfl fun a w F hS=>Zb (wp_ret (Zf (Ze ?_)))
  refine Zr hfr hS rfl (.cl 101 true 3 rfl rfl .nil) (.one (.aggU rfl (by first | rfl | (unfold ZL;rw [if_neg n1,if_neg n2,if_neg n3,if_neg n4,if_neg n5,if_neg n6,if_neg n7,if_neg n8,if_neg n9,if_neg n10,if_neg n11,if_neg n12];rfl))))
 have n4:=of_decide_eq_false hc3
 refine wp_seq ?_
 refine Za hS (qf (o_eql .t qi) r1 qz (qN rfl rfl qZ)) hB [16,3,2] [101,0] rfl rfl fun a w F hS=>Zb ?_
 refine Zd hS rfl (fun hc4=>?_) (fun hc4=>?_)
 ·skip
  have hk:=of_decide_eq_true hc4
  subst hk
  refine wp_seq ?_
  refine Za hS (qf (oB [(0,_),(1,_),(2,_)] [.string ⟨#[]⟩,.int .i64 0,.int .i64 0] [(0,1),(1,1),(2,1)] (.one rfl (.cs (by kernel_rfl)) one_str (by kernel_rfl) (.one rfl qi one_int (by kernel_rfl) (.one rfl qi one_int (by kernel_rfl) .nil)))) trivial qz (qs 3 101 r2 r1 qZ)) hB [2] [101,0] rfl rfl fun a w F hS=>Zb (wp_ret (Zf (Ze ?_)))
  refine Zr hfr hS rfl (.cl 101 true 3 rfl rfl .nil) (.one (.aggU rfl (by first | rfl | (unfold ZL;rw [if_neg n1,if_neg n2,if_neg n3,if_neg n4,if_neg n5,if_neg n6,if_neg n7,if_neg n8,if_neg n9,if_neg n10,if_neg n11,if_neg n12];rfl))))
 have n5:=of_decide_eq_false hc4
 refine wp_seq ?_
 refine Za hS (qf (o_eql .t qi) r1 qz (qN rfl rfl qZ)) hB [19,3,2] [101,0] rfl rfl fun a w F hS=>Zb ?_
 refine Zd hS rfl (fun hc5=>?_) (fun hc5=>?_)
 ·skip
  have hk:=of_decide_eq_true hc5
  subst hk
  refine wp_seq ?_
  refine Za hS (qf (oB [(0,_),(1,_),(2,_)] [.string ⟨#[]⟩,.int .i64 0,.int .i64 0] [(0,1),(1,1),(2,1)] (.one rfl (.cs (by kernel_rfl)) one_str (by kernel_rfl) (.one rfl qi one_int (by kernel_rfl) (.one rfl qi one_int (by kernel_rfl) .nil)))) trivial qz (qs 3 101 r2 r1 qZ)) hB [2] [101,0] rfl rfl fun a w F hS=>Zb (wp_ret (Zf (Ze ?_)))
  refine Zr hfr hS rfl (.cl 101 true 3 rfl rfl .nil) (.one (.aggU rfl (by first | rfl | (unfold ZL;rw [if_neg n1,if_neg n2,if_neg n3,if_neg n4,if_neg n5,if_neg n6,if_neg n7,if_neg n8,if_neg n9,if_neg n10,if_neg n11,if_neg n12];rfl))))
 have n6:=of_decide_eq_false hc5
 refine wp_seq ?_
 refine Za hS (qf (o_eql .t qi) r1 qz (qN rfl rfl qZ)) hB [22,3,2] [101,0] rfl rfl fun a w F hS=>Zb ?_
 refine Zd hS rfl (fun hc6=>?_) (fun hc6=>?_)
 ·skip
  have hk:=of_decide_eq_true hc6
  subst hk
  refine wp_seq ?_
  refine Za hS (qf (oB [(0,_),(1,_),(2,_)] [.string ⟨#[]⟩,.int .i64 0,.int .i64 0] [(0,1),(1,1),(2,1)] (.one rfl (.cs (by kernel_rfl)) one_str (by kernel_rfl) (.one rfl qi one_int (by kernel_rfl) (.one rfl qi one_int (by kernel_rfl) .nil)))) trivial qz (qs 3 101 r2 r1 qZ)) hB [2] [101,0] rfl rfl fun a w F hS=>Zb (wp_ret (Zf (Ze ?_)))
  refine Zr hfr hS rfl (.cl 101 true 3 rfl rfl .nil) (.one (.aggU rfl (by first | rfl | (unfold ZL;rw [if_neg n1,if_neg n2,if_neg n3,if_neg n4,if_neg n5,if_neg n6,if_neg n7,if_neg n8,if_neg n9,if_neg n10,if_neg n11,if_neg n12];rfl))))
 have n7:=of_decide_eq_false hc6
 refine wp_seq ?_
 refine Za hS (qf (o_eql .t qi) r1 qz (qN rfl rfl qZ)) hB [25,3,2] [101,0] rfl rfl fun a w F hS=>Zb ?_
 refine Zd hS rfl (fun hc7=>?_) (fun hc7=>?_)
 ·skip
  have hk:=of_decide_eq_true hc7
  subst hk
  refine wp_seq ?_
  refine Za hS (qf (oB [(0,_),(1,_),(2,_)] [.string ⟨#[]⟩,.int .i64 0,.int .i64 0] [(0,1),(1,1),(2,1)] (.one rfl (.cs (by kernel_rfl)) one_str (by kernel_rfl) (.one rfl qi one_int (by kernel_rfl) (.one rfl qi one_int (by kernel_rfl) .nil)))) trivial qz (qs 3 101 r2 r1 qZ)) hB [2] [101,0] rfl rfl fun a w F hS=>Zb (wp_ret (Zf (Ze ?_)))
  refine Zr hfr hS rfl (.cl 101 true 3 rfl rfl .nil) (.one (.aggU rfl (by first | rfl | (unfold ZL;rw [if_neg n1,if_neg n2,if_neg n3,if_neg n4,if_neg n5,if_neg n6,if_neg n7,if_neg n8,if_neg n9,if_neg n10,if_neg n11,if_neg n12];rfl))))
 have n8:=of_decide_eq_false hc7
 refine wp_seq ?_
 refine Za hS (qf (o_eql .t qi) r1 qz (qN rfl rfl qZ)) hB [28,3,2] [101,0] rfl rfl fun a w F hS=>Zb ?_
 refine Zd hS rfl (fun hc8=>?_) (fun hc8=>?_)
 ·skip
  have hk:=of_decide_eq_true hc8
  subst hk
  refine wp_seq ?_
  refine Za hS (qf (oB [(0,_),(1,_),(2,_)] [.string ⟨#[]⟩,.int .i64 0,.int .i64 0] [(0,1),(1,1),(2,1)] (.one rfl (.cs (by kernel_rfl)) one_str (by kernel_rfl) (.one rfl qi one_int (by kernel_rfl) (.one rfl qi one_int (by kernel_rfl) .nil)))) trivial qz (qs 3 101 r2 r1 qZ)) hB [2] [101,0] rfl rfl fun a w F hS=>Zb (wp_ret (Zf (Ze ?_)))
  refine Zr hfr hS rfl (.cl 101 true 3 rfl rfl .nil) (.one (.aggU rfl (by first | rfl | (unfold ZL;rw [if_neg n1,if_neg n2,if_neg n3,if_neg n4,if_neg n5,if_neg n6,if_neg n7,if_neg n8,if_neg n9,if_neg n10,if_neg n11,if_neg n12];rfl))))
 have n9:=of_decide_eq_false hc8
 refine wp_seq ?_
 refine Za hS (qf (o_eql .t qi) r1 qz (qN rfl rfl qZ)) hB [31,3,2] [101,0] rfl rfl fun a w F hS=>Zb ?_
 refine Zd hS rfl (fun hc9=>?_) (fun hc9=>?_)
 ·skip
  have hk:=of_decide_eq_true hc9
  subst hk
  refine wp_seq ?_
  refine Za hS (qf (oB [(0,_),(1,_),(2,_)] [.string ⟨#[]⟩,.int .i64 0,.int .i64 0] [(0,1),(1,1),(2,1)] (.one rfl (.cs (by kernel_rfl)) one_str (by kernel_rfl) (.one rfl qi one_int (by kernel_rfl) (.one rfl qi one_int (by kernel_rfl) .nil)))) trivial qz (qs 3 101 r2 r1 qZ)) hB [2] [101,0] rfl rfl fun a w F hS=>Zb (wp_ret (Zf (Ze ?_)))
  refine Zr hfr hS rfl (.cl 101 true 3 rfl rfl .nil) (.one (.aggU rfl (by first | rfl | (unfold ZL;rw [if_neg n1,if_neg n2,if_neg n3,if_neg n4,if_neg n5,if_neg n6,if_neg n7,if_neg n8,if_neg n9,if_neg n10,if_neg n11,if_neg n12];rfl))))
 have n10:=of_decide_eq_false hc9
 refine wp_seq ?_
 refine Za hS (qf (o_eql .t qi) r1 qz (qN rfl rfl qZ)) hB [34,3,2] [101,0] rfl rfl fun a w F hS=>Zb ?_
 refine Zd hS rfl (fun hc10=>?_) (fun hc10=>?_)
 ·skip
  have hk:=of_decide_eq_true hc10
  subst hk
  refine wp_seq ?_
  refine Za hS (qf (oB [(0,_),(1,_),(2,_)] [.string ⟨#[]⟩,.int .i64 0,.int .i64 0] [(0,1),(1,1),(2,1)] (.one rfl (.cs (by kernel_rfl)) one_str (by kernel_rfl) (.one rfl qi one_int (by kernel_rfl) (.one rfl qi one_int (by kernel_rfl) .nil)))) trivial qz (qs 3 101 r2 r1 qZ)) hB [2] [101,0] rfl rfl fun a w F hS=>Zb (wp_ret (Zf (Ze ?_)))
  refine Zr hfr hS rfl (.cl 101 true 3 rfl rfl .nil) (.one (.aggU rfl (by first | rfl | (unfold ZL;rw [if_neg n1,if_neg n2,if_neg n3,if_neg n4,if_neg n5,if_neg n6,if_neg n7,if_neg n8,if_neg n9,if_neg n10,if_neg n11,if_neg n12];rfl))))
 have n11:=of_decide_eq_false hc10
 refine wp_seq ?_
 refine Za hS (qf (o_eql .t qi) r1 qz (qN rfl rfl qZ)) hB [37,2] [101,0] rfl rfl fun a w F hS=>Zb ?_
 refine Zd hS rfl (fun hc11=>?_) (fun hc11=>?_)
 ·skip
  have hk:=of_decide_eq_true hc11
  subst hk
  refine wp_seq ?_
  refine Za hS (qf (oB [(0,_),(1,_),(2,_)] [.string ⟨#[]⟩,.int .i64 0,.int .i64 0] [(0,1),(1,1),(2,1)] (.one rfl (.cs (by kernel_rfl)) one_str (by kernel_rfl) (.one rfl qi one_int (by kernel_rfl) (.one rfl qi one_int (by kernel_rfl) .nil)))) trivial qz (qs 3 101 r2 r1 qZ)) hB [2] [101,0] rfl rfl fun a w F hS=>Zb (wp_ret (Zf (Ze ?_)))
  refine Zr hfr hS rfl (.cl 101 true 3 rfl rfl .nil) (.one (.aggU rfl (by first | rfl | (unfold ZL;rw [if_neg n1,if_neg n2,if_neg n3,if_neg n4,if_neg n5,if_neg n6,if_neg n7,if_neg n8,if_neg n9,if_neg n10,if_neg n11,if_neg n12];rfl))))
 have n12:=of_decide_eq_false hc11
 refine wp_skip (Zh (Zb (wp_seq ?_)))
 refine Za hS (qf (oB [] [.string ⟨#[]⟩,.int .i64 0,.int .i64 0] [(0,1),(1,1),(2,1)] .nil) trivial qz (qs 3 101 r2 r1 qZ)) hB [2] [101,0] rfl rfl fun a w F hS=>Zb (wp_ret ?_)
 refine Zr hfr hS rfl (.cl 101 true 3 rfl rfl .nil) (.one (.aggU rfl (by first | rfl | (unfold ZL;rw [if_neg n1,if_neg n2,if_neg n3,if_neg n4,if_neg n5,if_neg n6,if_neg n7,if_neg n8,if_neg n9,if_neg n10,if_neg n11,if_neg n12];rfl))))
theorem ZrD (p:Int):FnP Tryz.prog 90 [.int .i64 p] (.tup [.bs (Zkk p),.bs (Zbe p)]):=by
 refine FnP.mk Tryz.func90 rfl Tryz.ntmps90 rfl ?_
 intro B a w F hB hfr hS
 refine wp_seq ?_
 refine Za hS (qf (oN (.cs (by kernel_rfl))) trivial qz (qf (oN (.cs (by kernel_rfl))) trivial qz qZ)) hB [3,2,0] [0] rfl rfl fun a w F hS=>Zb (wp_seq (wp_seq ?_))
 refine Za hS (qM rfl rfl qZ) hB [4,3,2] [0] rfl rfl fun a w F hS=>Zb (wp_block (wp_seq ?_))
 refine Za hS (qf (o_eql .t qi) r1 qz (qN rfl rfl qZ)) hB [5,4,3,2] [0] rfl rfl fun a w F hS=>Zb ?_
 refine Zd hS rfl (fun hc0=>?_) (fun hc0=>?_)
 ·skip
  have hk:=of_decide_eq_true hc0
  subst hk
  refine wp_seq ?_
  refine Za hS (qf (oN (.cs (by kernel_rfl))) trivial qz (qf (oN (.cs (by kernel_rfl))) trivial qz qZ)) hB [3,2] [0] rfl rfl fun a w F hS=>Zb (wp_ret (Zf (Ze ?_)))
  refine Zr hfr hS rfl (.tmp rfl (.tmp rfl .nil)) (.two (.bs (by first | rfl | (unfold Zkk;rw [if_neg n1,if_neg n2,if_neg n3,if_neg n4,if_neg n5]))) (.bs (by first | rfl | (unfold Zbe;rw [if_neg n1,if_neg n2,if_neg n3,if_neg n4,if_neg n5]))))
 have n1:=of_decide_eq_false hc0
 refine wp_seq ?_
 refine Za hS (qf (o_eql .t qi) r1 qz (qN rfl rfl qZ)) hB [7,4,3,2] [0] rfl rfl fun a w F hS=>Zb ?_
 refine Zd hS rfl (fun hc1=>?_) (fun hc1=>?_)
 ·skip
  have hk:=of_decide_eq_true hc1
  subst hk
  refine wp_seq ?_
  refine Za hS (qf (oN (.cs (by kernel_rfl))) trivial qz (qf (oN (.cs (by kernel_rfl))) trivial qz qZ)) hB [3,2] [0] rfl rfl fun a w F hS=>Zb (wp_ret (Zf (Ze ?_)))
  refine Zr hfr hS rfl (.tmp rfl (.tmp rfl .nil)) (.two (.bs (by first | rfl | (unfold Zkk;rw [if_neg n1,if_neg n2,if_neg n3,if_neg n4,if_neg n5]))) (.bs (by first | rfl | (unfold Zbe;rw [if_neg n1,if_neg n2,if_neg n3,if_neg n4,if_neg n5]))))
 have n2:=of_decide_eq_false hc1
 refine wp_seq ?_
 refine Za hS (qf (o_eql .t qi) r1 qz (qN rfl rfl qZ)) hB [9,4,3,2] [0] rfl rfl fun a w F hS=>Zb ?_
 refine Zd hS rfl (fun hc2=>?_) (fun hc2=>?_)
 ·skip
  have hk:=of_decide_eq_true hc2
  subst hk
  refine wp_seq ?_
  refine Za hS (qf (oN (.cs (by kernel_rfl))) trivial qz (qf (oN (.cs (by kernel_rfl))) trivial qz qZ)) hB [3,2] [0] rfl rfl fun a w F hS=>Zb (wp_ret (Zf (Ze ?_)))
  refine Zr hfr hS rfl (.tmp rfl (.tmp rfl .nil)) (.two (.bs (by first | rfl | (unfold Zkk;rw [if_neg n1,if_neg n2,if_neg n3,if_neg n4,if_neg n5]))) (.bs (by first | rfl | (unfold Zbe;rw [if_neg n1,if_neg n2,if_neg n3,if_neg n4,if_neg n5]))))
 have n3:=of_decide_eq_false hc2
 refine wp_seq ?_
 refine Za hS (qf (o_eql .t qi) r1 qz (qN rfl rfl qZ)) hB [11,4,3,2] [0] rfl rfl fun a w F hS=>Zb ?_
 refine Zd hS rfl (fun hc3=>?_) (fun hc3=>?_)
 ·skip
  have hk:=of_decide_eq_true hc3
  subst hk
  refine wp_seq ?_
  refine Za hS (qf (oN (.cs (by kernel_rfl))) trivial qz (qf (oN (.cs (by kernel_rfl))) trivial qz qZ)) hB [3,2] [0] rfl rfl fun a w F hS=>Zb (wp_ret (Zf (Ze ?_)))
  refine Zr hfr hS rfl (.tmp rfl (.tmp rfl .nil)) (.two (.bs (by first | rfl | (unfold Zkk;rw [if_neg n1,if_neg n2,if_neg n3,if_neg n4,if_neg n5]))) (.bs (by first | rfl | (unfold Zbe;rw [if_neg n1,if_neg n2,if_neg n3,if_neg n4,if_neg n5]))))
 have n4:=of_decide_eq_false hc3
 refine wp_seq ?_
 refine Za hS (qf (o_eql .t qi) r1 qz (qN rfl rfl qZ)) hB [13,3,2] [0] rfl rfl fun a w F hS=>Zb ?_
 refine Zd hS rfl (fun hc4=>?_) (fun hc4=>?_)
 ·skip
  have hk:=of_decide_eq_true hc4
  subst hk
  refine wp_seq ?_
  refine Za hS (qf (oN (.cs (by kernel_rfl))) trivial qz (qf (oN (.cs (by kernel_rfl))) trivial qz qZ)) hB [3,2] [0] rfl rfl fun a w F hS=>Zb (wp_ret (Zf (Ze ?_)))
  refine Zr hfr hS rfl (.tmp rfl (.tmp rfl .nil)) (.two (.bs (by first | rfl | (unfold Zkk;rw [if_neg n1,if_neg n2,if_neg n3,if_neg n4,if_neg n5]))) (.bs (by first | rfl | (unfold Zbe;rw [if_neg n1,if_neg n2,if_neg n3,if_neg n4,if_neg n5]))))
 have n5:=of_decide_eq_false hc4
 refine wp_skip (Zh (Zb (wp_seq ?_)))
 refine Za hS (qf (oN (.cs (by kernel_rfl))) trivial qz (qf (oN (.cs (by kernel_rfl))) trivial qz qZ)) hB [3,2] [0] rfl rfl fun a w F hS=>Zb (wp_ret ?_)
 refine Zr hfr hS rfl (.tmp rfl (.tmp rfl .nil)) (.two (.bs (by first | rfl | (unfold Zkk;rw [if_neg n1,if_neg n2,if_neg n3,if_neg n4,if_neg n5]))) (.bs (by first | rfl | (unfold Zbe;rw [if_neg n1,if_neg n2,if_neg n3,if_neg n4,if_neg n5]))))
theorem ZoE (p:Int):FnP Tryz.prog 49 [.int .i64 p] (.bs (Zbe p)):=by
 refine FnP.mk Tryz.func49 rfl Tryz.ntmps49 rfl ?_
 intro B a w F hB hfr hS
 refine wp_seq ?_
 refine Za hS (qf (oN (.cs (by kernel_rfl))) trivial qz qZ) hB [2,0] [0] rfl rfl fun a w F hS=>Zb (wp_seq ?_)
 refine Za hS (qM rfl rfl (qf (oP (ZrD p) Tryz.func90 (Args.one .t)) r1 qz (qM rfl rfl (qf (o_extract .t rfl) r1 qz (qf (o_extract .t rfl) r1 qz (qN rfl rfl (qN rfl rfl qZ))))))) hB [4,2] [0] rfl rfl fun a w F hS=>Zb (wp_seq ?_)
 refine Za hS (qM rfl rfl (qN rfl rfl qZ)) hB [2] [0] rfl rfl fun a w F hS=>Zb (wp_ret ?_)
 refine Zm hfr hS rfl rfl rfl .refl
theorem find_c (s0:List UInt8):FnP Tryz.prog 37 [.bs s0] (.int .i64 (ZbO s0)):=by
 refine FnP.mk Tryz.func37 rfl Tryz.ntmps37 rfl ?_
 intro B a w F hB hfr hS
 refine wp_seq ?_
 refine Za hS (qI qZ) hB [2,0] [0] rfl rfl fun a w F hS=>Zb (wp_seq (wp_seq ?_))
 refine Za hS (qI qZ) hB [3,2,0] [0] rfl rfl fun a w F hS=>Zb (wp_block ?_)
 obtain ⟨F,hS⟩:=hS.nm [3,0] [0] rfl rfl
 refine ZC (σ:=Nat) (fun s=>(⟨[(0,.pv (.bs s0)),(3,.pv (.int .i64 (s:Nat)))],[(0,frame B)]⟩:En)) (fun s=>(1≤s∧s≤13)∧ZbO s0=Zb4 s0 s (13 - s)) (fun s=>13 - s) 1 hS ⟨by decide,rfl⟩ ?_
 clear hS;intro i a w F hC hS
 try dsimp only at hC
 try dsimp only at hS
 obtain ⟨hi0,hf⟩:=hC
 refine wp_seq (wp_seq ?_)
 refine Za hS (qM rfl rfl (qf (ZbC .t qi) r1 qz qZ)) hB [5,3,0] [0] rfl rfl fun a w F hS=>Zb ?_
 refine Zd hS rfl (fun hc0=>?_) (fun hc0=>?_)
 ·skip
  have hi:i<13:=by have h9:=of_decide_eq_true hc0;omega
  have hfi:Zb4 s0 i (13 - i)=if (ZL (i:Int)).s=s0 then (i:Int) else Zb4 s0 (i+1) (13 - (i+1)):=by rw [show 13 - i=(13 - (i+1))+1 by omega,Zb4]
  refine wp_skip (Zb (wp_seq (wp_block (wp_seq ?_))))
  refine Za hS (qM rfl rfl (qf (oP (Zlr (i:Int)) Tryz.func38 (Args.one .t)) r1 qz (qf (Zh2 (ft:=9) (off:=0) (by kernel_rfl) (by kernel_rfl) .t rfl) r1 qz (qM rfl rfl (qf (o_eql_bs Tryz.underlying9 .t .t) r2 qz qZ))))) hB [12,3,0] [0] rfl rfl fun a w F hS=>Zb ?_
  refine Zd hS rfl (fun hc1=>?_) (fun hc1=>?_)
  ·skip
   have hg:(i:Int)=ZbO s0:=by rw [hf,hfi,if_pos (of_decide_eq_true hc1)]
   refine wp_seq ?_
   refine Za hS (qM rfl rfl (qN rfl rfl qZ)) hB [3,2,0] [0] rfl rfl fun a w F hS=>Zb (wp_ret (Zf (Ze (Ze (Zf (Ze ?_))))))
   refine Zm hfr hS rfl rfl rfl (.int hg)
  have hst:ZbO s0=Zb4 s0 (i+1) (13 - (i+1)):=by rw [hf,hfi,if_neg (of_decide_eq_false hc1)]
  refine wp_skip (Zh (Zb ?_))
  refine Za hS (qM rfl rfl (qp r1 (qN rfl rfl qZ))) hB [3,0] [0] rfl rfl fun a w F hS=>Zb ?_
  replace hS:=hS.ent (i:=3) (s':=.pv (.int .i64 ((i+1:Nat):Int))) rfl (.int (wrap_succ (by omega)))
  obtain ⟨F,hS⟩:=hS.nm [3,0] [0] rfl rfl
  exact ⟨i+1,F,⟨by omega,hst⟩,hS,by omega⟩
 have hg:(0:Int)=ZbO s0:=by rw [hf,show i=13 by have h9:=of_decide_eq_false hc0;omega];rfl
 refine wp_exit (Zi (Zi (Zl (Zb (wp_seq ?_)))))
 refine Za hS (qI qZ) hB [2] [0] rfl rfl fun a w F hS=>Zb (wp_ret ?_)
 refine Zm hfr hS rfl rfl rfl (.int hg)
theorem phen_c (s0:List UInt8):FnP Tryz.prog 76 [.bs s0] (.int .i64 (phenR s0)):=by
 refine FnP.mk Tryz.func76 rfl Tryz.ntmps76 rfl ?_
 intro B a w F hB hfr hS
 refine wp_seq ?_
 refine Za hS (qI qZ) hB [2,0] [0] rfl rfl fun a w F hS=>Zb (wp_seq (wp_seq ?_))
 refine Za hS (qI qZ) hB [3,2,0] [0] rfl rfl fun a w F hS=>Zb (wp_block ?_)
 obtain ⟨F,hS⟩:=hS.nm [3,0] [0] rfl rfl
 refine ZC (σ:=Nat) (fun s=>(⟨[(0,.pv (.bs s0)),(3,.pv (.int .i64 (s:Nat)))],[(0,frame B)]⟩:En)) (fun s=>(1≤s∧s≤6)∧phenR s0=Zcf s0 s (6 - s)) (fun s=>6 - s) 1 hS ⟨by decide,rfl⟩ ?_
 clear hS;intro i a w F hC hS
 try dsimp only at hC
 try dsimp only at hS
 obtain ⟨hi0,hf⟩:=hC
 refine wp_seq (wp_seq ?_)
 refine Za hS (qM rfl rfl (qf (ZbC .t qi) r1 qz qZ)) hB [5,3,0] [0] rfl rfl fun a w F hS=>Zb ?_
 refine Zd hS rfl (fun hc0=>?_) (fun hc0=>?_)
 ·skip
  have hi:i<6:=by have h9:=of_decide_eq_true hc0;omega
  have hfi:Zcf s0 i (6 - i)=if Zbe (i:Int)=s0 then (i:Int) else Zcf s0 (i+1) (6 - (i+1)):=by rw [show 6 - i=(6 - (i+1))+1 by omega,Zcf]
  refine wp_skip (Zb (wp_seq (wp_block (wp_seq ?_))))
  refine Za hS (qM rfl rfl (qf (oP (ZoE (i:Int)) Tryz.func49 (Args.one .t)) r1 qz (qM rfl rfl (qf (o_eql_bs Tryz.underlying9 .t .t) r2 qz qZ)))) hB [11,3,0] [0] rfl rfl fun a w F hS=>Zb ?_
  refine Zd hS rfl (fun hc1=>?_) (fun hc1=>?_)
  ·skip
   have hg:(i:Int)=phenR s0:=by rw [hf,hfi,if_pos (of_decide_eq_true hc1)]
   refine wp_seq ?_
   refine Za hS (qM rfl rfl (qN rfl rfl qZ)) hB [3,2,0] [0] rfl rfl fun a w F hS=>Zb (wp_ret (Zf (Ze (Ze (Zf (Ze ?_))))))
   refine Zm hfr hS rfl rfl rfl (.int hg)
  have hst:phenR s0=Zcf s0 (i+1) (6 - (i+1)):=by rw [hf,hfi,if_neg (of_decide_eq_false hc1)]
  refine wp_skip (Zh (Zb ?_))
  refine Za hS (qM rfl rfl (qp r1 (qN rfl rfl qZ))) hB [3,0] [0] rfl rfl fun a w F hS=>Zb ?_
  replace hS:=hS.ent (i:=3) (s':=.pv (.int .i64 ((i+1:Nat):Int))) rfl (.int (wrap_succ (by omega)))
  obtain ⟨F,hS⟩:=hS.nm [3,0] [0] rfl rfl
  exact ⟨i+1,F,⟨by omega,hst⟩,hS,by omega⟩
 have hg:(0:Int)=phenR s0:=by rw [hf,show i=6 by have h9:=of_decide_eq_false hc0;omega];rfl
 refine wp_exit (Zi (Zi (Zl (Zb (wp_seq ?_)))))
 refine Za hS (qI qZ) hB [2] [0] rfl rfl fun a w F hS=>Zb (wp_ret ?_)
 refine Zm hfr hS rfl rfl rfl (.int hg)
theorem Zf5 (o:OpD):(Zah o).length≤100:=by
 by_cases hk:ZR o=true
 · exact Zjk hk
 · unfold Zah;rw [if_pos (by simpa using hk)];simp
theorem Zkz (t:TxD) (ht:t.ops.length≤1000000):FnP Tryz.prog 46 [.agg (rTx t)] (.bs (ZeP t)):=by
 refine FnP.mk Tryz.func46 rfl Tryz.ntmps46 rfl ?_
 intro B a w F hB hfr hS
 have hid:=Zfi (Sat.aggInt hS (i:=0) (k:=0) rfl rfl)
 have htl:=Z5 hid
 have hhl:(Zb5 t).length≤23:=by unfold Zb5;rw [List.length_append];split <;> simp only [List.length_cons,List.length_nil] <;> omega
 refine wp_seq ?_
 refine Zc hS (qx 101 r1 (qf (oN (.cs (by kernel_rfl))) trivial qz qZ)) hB [2,1] [101,0] (fun _=>rfl) (fun _=>rfl) fun τ a w F hS=>?_
 try dsimp only [RS.sub,SF.sub,CF.sub,csub,Anc.sub,List.map,zCF] at hS
 generalize τ 1=v1 at hS
 refine Zb (wp_seq ?_)
 refine Zc hS (qf (oH [.pointer none,.slice none 0 0] 102) trivial qz qZ) hB [3,2,1] [102,101,0] (fun _=>rfl) (fun _=>rfl) fun τ a w F hS=>?_
 try dsimp only [RS.sub,SF.sub,CF.sub,csub,Anc.sub,List.map,zCF] at hS
 generalize τ 3=v3 at hS
 obtain ⟨b,rfl⟩:=hS.shape 102 rfl
 replace hS:=hS.fresh 9 rfl
 replace hS:=hS.turn 9 rfl (Zbh (T:=5) (sz:=1) (R:=rC))
 replace hS:=hS.fresh 10 rfl
 obtain ⟨F,hS⟩:=hS.push 10 9 rfl rfl rfl (by kernel_rfl)
 obtain ⟨F,hS⟩:=hS.push 10 102 rfl rfl rfl (by kernel_rfl)
 replace hS:=hS.turn 10 rfl (r':=RS.hp (ZV (.pointer (some ⟨b,0,none⟩)) [])) (fun _ _ _ _ h=>⟨_,.inl rfl,_,fun _=>rfl,h⟩)
 obtain ⟨F,hS⟩:=hS.nm [3,2,1] [101,10,0] rfl rfl
 refine Zb (wp_seq ?_)
 refine Za hS (qg 0 101 r1 r1 (qa 101 r1 r1 (qf (oP (Zc9 t.id) Tryz.func47 (Args.one .t)) r1 qz (qf (o_callG1 10 (Zai b [] (by simp) (textL t.id) (ZbF _) (by omega)) Tryz.func85 rfl (by kernel_rfl) (Args.two .t .t)) r2 r1 qZ)))) hB [3,2,1] [101,10,0] rfl rfl fun a w F hS=>?_
 replace hS:=hS.turn 10 rfl (r':=RS.hp (ZV (.pointer (some ⟨b,0,none⟩)) (textL t.id))) (fun _ _ _ _ h=>⟨_,.inr rfl,h⟩)
 refine Zb (wp_seq (wp_seq ?_))
 refine Za hS (qg 1 101 r1 r1 (qa 101 r1 r1 qZ)) hB [11,3,2,1] [101,10,0] rfl rfl fun a w F hS=>Zb ?_
 refine Zd hS rfl (fun hc0=>?_) (fun hc0=>?_)
 ·skip
  have hdn:t.done=true:=hc0
  refine Za hS (qf (o_callG1 10 (Zai b (textL t.id) (by omega) [32,99] (by simp) (by simp)) Tryz.func85 rfl (by kernel_rfl) (Args.two .t (.cs (by kernel_rfl)))) r1 r1 qZ) hB [3,2,1] [101,10,0] rfl rfl fun a w F hS=>?_
  replace hS:=hS.turn 10 rfl (r':=RS.hp (ZV (.pointer (some ⟨b,0,none⟩)) (Zb5 t++ZeQ (t.ops.take 0)))) (fun _ _ _ _ h=>⟨_,.inr rfl,by rw [show (Zb5 t++ZeQ (t.ops.take 0))=textL t.id ++ [32,99] by unfold Zb5 ZeQ;rw [hdn];simp];exact h⟩)
  refine Zb (wp_seq (wp_seq ?_))
  refine Za hS (qg 2 101 r1 r1 (qa 101 r1 r1 (qu Tryz.underlying36 r1 (qJ qZ)))) hB [17,16,15,3,2] [101,10,0] rfl rfl fun a w F hS=>Zb (wp_block ?_)
  obtain ⟨F,hS⟩:=hS.nm [17,16,15,3] [10,0] rfl rfl
  refine ZC (σ:=Nat) (fun s=>(⟨[(3,.pv (.is (.pointer (some ⟨b,0,none⟩)))),(15,.pv (.sl rOp t.ops)),(16,.pv (.int .i64 (t.ops.length:Nat))),(17,.pv (.int .i64 (s:Nat)))],[(0,frame B),(10,RS.hp (ZV (.pointer (some ⟨b,0,none⟩)) (Zb5 t++ZeQ (t.ops.take s))))]⟩:En)) (fun s=>s≤t.ops.length) (fun s=>t.ops.length - s) 0 hS (Nat.zero_le _) ?_
  clear hS;intro i a w F hC hS
  try dsimp only at hC
  try dsimp only at hS
  have hi0:=hC
  have hct:(ZeQ (t.ops.take i)).length≤101*i:=Nat.le_trans (ZeV _) (by rw [List.length_take];omega)
  refine wp_seq ?_
  refine Za hS (qL r2) hB [18,17,16,15,3] [10,0] rfl rfl fun a w F hS=>Zb (wp_seq ?_)
  refine Zd hS rfl (fun hc1=>?_) (fun hc1=>?_)
  ·skip
   have hi:i<t.ops.length:=by have h9:=of_decide_eq_true hc1;omega
   have hto:(Zah (nth t.ops i)).length≤100:=Zf5 _
   refine wp_skip (Zb (wp_seq (wp_block (wp_seq ?_))))
   refine Zc hS (qy 4 Tryz.underlying36 r2 (qf (oR true 4 .t) r1 qz (qf (oH [.bool false,.int .i64 0,.int .i64 0,.int .i64 0] 103) trivial qz (qS 4 103 r2 r1 qZ)))) hB [17,16,15,5,3] [103,10,0] (fun _=>rfl) (fun _=>rfl) fun τ a w F hS=>?_
   try dsimp only [RS.sub,SF.sub,CF.sub,csub,Anc.sub,List.map,Zg,xL,xM,Nat.reduceAdd,xD,xE,xT,xU,xC,xN,zCF,ldSF] at hS
   generalize τ 5=v5 at hS
   rw [Int.toNat_natCast] at hS
   refine Zb ?_
   refine Za hS (qe 4 103 r1 r1 (qf (oP (ZkK (nth t.ops i)) Tryz.func86 (Args.one (.pagg .t))) r1 qz (qf (ZaS (.cs (by kernel_rfl)) .t (by simp only [List.length_cons,List.length_nil];omega)) r1 qz (qf (o_callG1 10 (Zai b (Zb5 t++ZeQ (t.ops.take i)) (by rw [List.length_append];omega) ([32] ++ (Zah (nth t.ops i))) (by simp) (by simp only [List.length_append,List.length_cons,List.length_nil];omega)) Tryz.func85 rfl (by kernel_rfl) (Args.two .t .t)) r2 r1 qZ)))) hB [17,16,15,3] [10,0] rfl rfl fun a w F hS=>Zh (Zb ?_)
   refine Za hS (qp r1 (qM rfl rfl qZ)) hB [17,16,15,3] [10,0] rfl rfl fun a w F hS=>Zb ?_
   replace hS:=hS.turn 10 rfl (r':=RS.hp (ZV (.pointer (some ⟨b,0,none⟩)) (Zb5 t++ZeQ (t.ops.take (i+1))))) (fun _ _ _ _ h=>⟨_,.inr rfl,by rw [Ziq hi,← List.append_assoc];exact h⟩)
   replace hS:=hS.ent (i:=17) (s':=.pv (.int .i64 ((i+1:Nat):Int))) rfl (.int (wrap_succ (by omega)))
   obtain ⟨F,hS⟩:=hS.nm [17,16,15,3] [10,0] rfl rfl
   exact ⟨i+1,F,(by omega),hS,by omega⟩
  have hil:i=t.ops.length:=by have h9:=of_decide_eq_false hc1;omega
  rw [hil,List.take_length] at hS
  refine wp_exit (Zi (Zi (Zl (Zb (wp_seq ?_)))))
  refine Za hS (qf (o_callG1 10 (ZhZ b (Zb5 t++ZeQ t.ops)) Tryz.func87 rfl (by kernel_rfl) (Args.one .t)) r1 r1 (qN rfl rfl qZ)) hB [2] [10,0] rfl rfl fun a w F hS=>Zb (wp_ret ?_)
  refine Zm hfr hS rfl rfl rfl (.bs (by unfold ZeP;rfl))
 have hdn:t.done=false:=hc0
 refine Za hS (qf (o_callG1 10 (Zai b (textL t.id) (by omega) [32,97] (by simp) (by simp)) Tryz.func85 rfl (by kernel_rfl) (Args.two .t (.cs (by kernel_rfl)))) r1 r1 qZ) hB [3,2,1] [101,10,0] rfl rfl fun a w F hS=>?_
 replace hS:=hS.turn 10 rfl (r':=RS.hp (ZV (.pointer (some ⟨b,0,none⟩)) (Zb5 t++ZeQ (t.ops.take 0)))) (fun _ _ _ _ h=>⟨_,.inr rfl,by rw [show (Zb5 t++ZeQ (t.ops.take 0))=textL t.id ++ [32,97] by unfold Zb5 ZeQ;rw [hdn];simp];exact h⟩)
 refine Zb (wp_seq (wp_seq ?_))
 refine Za hS (qg 2 101 r1 r1 (qa 101 r1 r1 (qu Tryz.underlying36 r1 (qJ qZ)))) hB [17,16,15,3,2] [101,10,0] rfl rfl fun a w F hS=>Zb (wp_block ?_)
 obtain ⟨F,hS⟩:=hS.nm [17,16,15,3] [10,0] rfl rfl
 refine ZC (σ:=Nat) (fun s=>(⟨[(3,.pv (.is (.pointer (some ⟨b,0,none⟩)))),(15,.pv (.sl rOp t.ops)),(16,.pv (.int .i64 (t.ops.length:Nat))),(17,.pv (.int .i64 (s:Nat)))],[(0,frame B),(10,RS.hp (ZV (.pointer (some ⟨b,0,none⟩)) (Zb5 t++ZeQ (t.ops.take s))))]⟩:En)) (fun s=>s≤t.ops.length) (fun s=>t.ops.length - s) 0 hS (Nat.zero_le _) ?_
 clear hS;intro i a w F hC hS
 try dsimp only at hC
 try dsimp only at hS
 have hi0:=hC
 have hct:(ZeQ (t.ops.take i)).length≤101*i:=Nat.le_trans (ZeV _) (by rw [List.length_take];omega)
 refine wp_seq ?_
 refine Za hS (qL r2) hB [18,17,16,15,3] [10,0] rfl rfl fun a w F hS=>Zb (wp_seq ?_)
 refine Zd hS rfl (fun hc2=>?_) (fun hc2=>?_)
 ·skip
  have hi:i<t.ops.length:=by have h9:=of_decide_eq_true hc2;omega
  have hto:(Zah (nth t.ops i)).length≤100:=Zf5 _
  refine wp_skip (Zb (wp_seq (wp_block (wp_seq ?_))))
  refine Zc hS (qy 4 Tryz.underlying36 r2 (qf (oR true 4 .t) r1 qz (qf (oH [.bool false,.int .i64 0,.int .i64 0,.int .i64 0] 104) trivial qz (qS 4 104 r2 r1 qZ)))) hB [17,16,15,5,3] [104,10,0] (fun _=>rfl) (fun _=>rfl) fun τ a w F hS=>?_
  try dsimp only [RS.sub,SF.sub,CF.sub,csub,Anc.sub,List.map,Zg,xL,xM,Nat.reduceAdd,xD,xE,xT,xU,xC,xN,zCF,ldSF] at hS
  generalize τ 5=v5 at hS
  rw [Int.toNat_natCast] at hS
  refine Zb ?_
  refine Za hS (qe 4 104 r1 r1 (qf (oP (ZkK (nth t.ops i)) Tryz.func86 (Args.one (.pagg .t))) r1 qz (qf (ZaS (.cs (by kernel_rfl)) .t (by simp only [List.length_cons,List.length_nil];omega)) r1 qz (qf (o_callG1 10 (Zai b (Zb5 t++ZeQ (t.ops.take i)) (by rw [List.length_append];omega) ([32] ++ (Zah (nth t.ops i))) (by simp) (by simp only [List.length_append,List.length_cons,List.length_nil];omega)) Tryz.func85 rfl (by kernel_rfl) (Args.two .t .t)) r2 r1 qZ)))) hB [17,16,15,3] [10,0] rfl rfl fun a w F hS=>Zh (Zb ?_)
  refine Za hS (qp r1 (qM rfl rfl qZ)) hB [17,16,15,3] [10,0] rfl rfl fun a w F hS=>Zb ?_
  replace hS:=hS.turn 10 rfl (r':=RS.hp (ZV (.pointer (some ⟨b,0,none⟩)) (Zb5 t++ZeQ (t.ops.take (i+1))))) (fun _ _ _ _ h=>⟨_,.inr rfl,by rw [Ziq hi,← List.append_assoc];exact h⟩)
  replace hS:=hS.ent (i:=17) (s':=.pv (.int .i64 ((i+1:Nat):Int))) rfl (.int (wrap_succ (by omega)))
  obtain ⟨F,hS⟩:=hS.nm [17,16,15,3] [10,0] rfl rfl
  exact ⟨i+1,F,(by omega),hS,by omega⟩
 have hil:i=t.ops.length:=by have h9:=of_decide_eq_false hc2;omega
 rw [hil,List.take_length] at hS
 refine wp_exit (Zi (Zi (Zl (Zb (wp_seq ?_)))))
 refine Za hS (qf (o_callG1 10 (ZhZ b (Zb5 t++ZeQ t.ops)) Tryz.func87 rfl (by kernel_rfl) (Args.one .t)) r1 r1 (qN rfl rfl qZ)) hB [2] [10,0] rfl rfl fun a w F hS=>Zb (wp_ret ?_)
 refine Zm hfr hS rfl rfl rfl (.bs (by unfold ZeP;rfl))
theorem ZpE (x y:List Int):FnP Tryz.prog 66 [.sl rInt x,.sl rInt y] (.bool (decide (x=y))):=by
 refine FnP.mk Tryz.func66 rfl Tryz.ntmps66 rfl ?_
 intro B a w F hB hfr hS
 have hxl:=Sat.lenSl hS (i:=0) rfl
 refine wp_seq ?_
 refine Za hS qB hB [4,1,0] [0] rfl rfl fun a w F hS=>Zb (wp_seq (wp_seq ?_))
 refine Za hS (qM rfl rfl (qu Tryz.underlying39 r1 (qM rfl rfl (qu Tryz.underlying39 r1 (qf (o_neq .t .t) r2 qz qZ))))) hB [10,4,1,0] [0] rfl rfl fun a w F hS=>Zb ?_
 refine Zd hS rfl (fun hc0=>?_) (fun hc0=>?_)
 ·skip
  have hg:false=decide (x=y):=by
    rw [eq_comm,decide_eq_false_iff_not]
    intro h
    subst h
    simp at hc0
  refine wp_seq ?_
  refine Za hS qB hB [4,1,0] [0] rfl rfl fun a w F hS=>Zb (wp_ret (Ze ?_))
  refine Zm hfr hS rfl rfl rfl (.bool hg)
 have hl:x.length=y.length:=by simp at hc0;omega
 refine wp_skip (Zb (wp_seq (wp_seq ?_)))
 refine Za hS (qM rfl rfl (qu Tryz.underlying39 r1 (qJ qZ))) hB [13,12,4,1,0] [0] rfl rfl fun a w F hS=>Zb (wp_block ?_)
 obtain ⟨F,hS⟩:=hS.nm [13,12,1,0] [0] rfl rfl
 refine ZC (σ:=Nat) (fun s=>(⟨[(0,.pv (.sl rInt x)),(1,.pv (.sl rInt y)),(12,.pv (.int .i64 x.length)),(13,.pv (.int .i64 s))],[(0,frame B)]⟩:En)) (fun s=>s≤x.length ∧ ∀ j,j<s→Go.Gm.nth x j=Go.Gm.nth y j) (fun s=>x.length - s) 0 hS ⟨Nat.zero_le _,fun j hj=>absurd hj (Nat.not_lt_zero j)⟩ ?_
 clear hS;intro i a w F hC hS
 try dsimp only at hC
 try dsimp only at hS
 obtain ⟨hi,hq⟩:=hC
 refine wp_seq ?_
 refine Za hS (qL r2) hB [14,13,12,1,0] [0] rfl rfl fun a w F hS=>Zb (wp_seq ?_)
 refine Zd hS rfl (fun hc1=>?_) (fun hc1=>?_)
 ·skip
  have hil:i<x.length:=by simp at hc1;omega
  refine wp_skip (Zb (wp_seq (wp_block (wp_seq ?_))))
  refine Za hS (qM rfl rfl (qN rfl rfl qZ)) hB [13,12,5,1,0] [0] rfl rfl fun a w F hS=>Zb (wp_seq ?_)
  refine Zw hS (qM rfl rfl (qM rfl rfl (qy 1 Tryz.underlying39 r2 (qf (oR false 1 .t) r1 qz (qM rfl rfl (qM rfl rfl (qy 1 Tryz.underlying39 r2 (qf (oR false 1 .t) r1 qz (qf (o_neq .t .t) r2 qz qZ))))))))) hB [24,13,12,1,0] [0] rfl rfl fun a w F hS=>?_
  try dsimp only [List.map,xD,xE,xT,xU,ldSF] at hS
  refine Zb ?_
  refine Zd hS rfl (fun hc2=>?_) (fun hc2=>?_)
  ·skip
   have hg:false=decide (x=y):=by
     rw [eq_comm,decide_eq_false_iff_not]
     intro h
     subst h
     simp at hc2
   refine wp_seq ?_
   refine Za hS qB hB [13,12,4,1,0] [0] rfl rfl fun a w F hS=>Zb (wp_ret (Zf (Ze (Ze (Zf (Ze ?_))))))
   refine Zm hfr hS rfl rfl rfl (.bool hg)
  rw [Int.toNat_natCast] at hc2
  have hqi:Go.Gm.nth x i=Go.Gm.nth y i:=by simpa using hc2
  refine wp_skip (Zh (Zb ?_))
  refine Za hS (qp r1 (qM rfl rfl qZ)) hB [13,12,1,0] [0] rfl rfl fun a w F hS=>Zb ?_
  replace hS:=hS.ent (i:=13) (s':=.pv (.int .i64 ((i+1:Nat):Int))) rfl (.int (wrap_succ (by omega)))
  obtain ⟨F,hS⟩:=hS.nm [13,12,1,0] [0] rfl rfl
  exact ⟨i+1,F,⟨by omega,fun j hj=>by rcases Nat.lt_or_eq_of_le (Nat.le_of_lt_succ hj) with h | h;exact hq j h;rw [h];exact hqi⟩,hS,by omega⟩
 have hg:true=decide (x=y):=by
   rw [eq_comm,decide_eq_true_eq]
   exact ZaU hl fun j hj=>hq j (by simp at hc1;omega)
 refine wp_exit (Zi (Zi (Zl (Zb (wp_seq ?_)))))
 refine Za hS qB hB [4] [0] rfl rfl fun a w F hS=>Zb (wp_ret ?_)
 refine Zm hfr hS rfl rfl rfl (.bool hg)
theorem Zom (x y:List Int):FnP Tryz.prog 35 [.sl rInt x,.sl rInt y] (.bool (decide (x=y))):=by
 refine FnP.mk Tryz.func35 rfl Tryz.ntmps35 rfl ?_
 intro B a w F hB hfr hS
 refine wp_seq ?_
 refine Za hS qB hB [4,1,0] [0] rfl rfl fun a w F hS=>Zb (wp_seq ?_)
 refine Za hS (qM rfl rfl (qM rfl rfl (qf (oP (ZpE x y) Tryz.func66 (Args.two .t .t)) r2 qz (qN rfl rfl qZ)))) hB [4] [0] rfl rfl fun a w F hS=>Zb (wp_ret ?_)
 refine Zm hfr hS rfl rfl rfl .refl
theorem ZqT (u v:TxD):((decide (u.id=v.id) && (u.done == v.done)) && decide (u.ops=v.ops))=decide (u=v):=by
 cases u;cases v
 rw [Bool.eq_iff_iff]
 simp [and_assoc]
theorem ZkZ (u v:TxD):FnP Tryz.prog 32 [.agg (rTx u),.agg (rTx v)] (.bool (decide (u=v))):=by
 refine FnP.mk Tryz.func32 rfl Tryz.ntmps32 rfl ?_
 intro B a w F hB hfr hS
 refine wp_seq ?_
 refine Zc hS (qx 101 r1 (qx 102 r1 qB)) hB [4,3,2] [102,101,0] (fun _=>rfl) (fun _=>rfl) fun τ a w F hS=>?_
 try dsimp only [RS.sub,SF.sub,CF.sub,csub,Anc.sub,List.map,zCF] at hS
 generalize τ 2=v2 at hS
 generalize τ 3=v3 at hS
 refine Zb (wp_seq ?_)
 refine Za hS (qg 0 101 r1 r1 (qa 101 r1 r1 (qg 0 102 r1 r1 (qa 102 r1 r1 (qf (o_eql .t .t) r2 qz (qM rfl rfl (qv 1 101 rfl r2 r1 (qw 101 rfl r2 r1 (qv 1 102 rfl r2 r1 (qw 102 rfl r2 r1 (qk rfl (fun h=>Zi3 Tryz.underlying4 (.w h) (.w h)) r3 qz (qf (ZI .t .t) r2 qz (qM rfl rfl (qv 2 101 rfl r2 r1 (qw 101 rfl r2 r1 (qv 2 102 rfl r2 r1 (qw 102 rfl r2 r1 (qk rfl (fun h=>oP (Zo1 u.ops v.ops) Tryz.func73 (Args.two (.w h) (.w h))) r3 qz (qf (ZI .t .t) r2 qz (qN rfl rfl qZ)))))))))))))))))))) hB [4] [102,101,0] rfl rfl fun a w F hS=>Zb (wp_ret ?_)
 refine Zm hfr hS rfl rfl rfl (.bool (ZqT u v))
theorem Zig (u v:CmdD):FnP Tryz.prog 13 [.agg (rCmd u),.agg (rCmd v)] (.bool (decide (u=v))):=by
 refine FnP.mk Tryz.func13 rfl Tryz.ntmps13 rfl ?_
 intro B a w F hB hfr hS
 refine wp_seq ?_
 refine Zc hS (qx 101 r1 (qx 102 r1 qB)) hB [4,3,2] [102,101,0] (fun _=>rfl) (fun _=>rfl) fun τ a w F hS=>?_
 try dsimp only [RS.sub,SF.sub,CF.sub,csub,Anc.sub,List.map,zCF] at hS
 generalize τ 2=v2 at hS
 generalize τ 3=v3 at hS
 refine Zb (wp_seq ?_)
 refine Zdy hS (by kernel_rfl) (nf (oF 0 101 .is) r1 r1 (nf (oL false 1 101 .adr) r1 r1 (nf (oF 0 102 .is) r1 r1 (nf (oL false 1 102 .adr) r1 r1 (nf (o_eql .t .t) r2 trivial (nM rfl rfl (nk rfl (fun h=>oF 1 101 .is) r2 r1 (nk rfl (fun h=>oL true 3 101 (.w h .adr)) r2 r1 (nk rfl (fun h=>oF 1 102 .is) r2 r1 (nk rfl (fun h=>oL true 3 102 (.w h .adr)) r2 r1 (nk rfl (fun h=>oP (ZkZ u.tx v.tx) Tryz.func32 (Args.two (.pagg (.w h)) (.pagg (.w h)))) r3 trivial (nf (ZI .t .t) r2 trivial (nM rfl rfl (nk rfl (fun h=>oF 4 101 .is) r2 r1 (nk rfl (fun h=>oF 0 101 (.w h .adr)) r2 r1 (nk rfl (fun h=>oL false 1 101 (.w h .adr)) r2 r1 (nk rfl (fun h=>oF 4 102 .is) r2 r1 (nk rfl (fun h=>oF 0 102 (.w h .adr)) r2 r1 (nk rfl (fun h=>oL false 1 102 (.w h .adr)) r2 r1 (nk rfl (fun h=>o_eql (.w h) (.w h)) r3 trivial (nf (ZI .t .t) r2 trivial (nM rfl rfl (nk rfl (fun h=>oF 4 101 .is) r2 r1 (nk rfl (fun h=>oF 1 101 (.w h .adr)) r2 r1 (nn [28,26,4,3,2] [102,101,0] rfl rfl (nk rfl (fun h=>oL false 1 101 (.w h .adr)) r2 r1 (nk rfl (fun h=>oF 4 102 .is) r2 r1 (nk rfl (fun h=>oF 1 102 (.w h .adr)) r2 r1 (nk rfl (fun h=>oL false 1 102 (.w h .adr)) r2 r1 (nk rfl (fun h=>oP (Zom u.order.txs v.order.txs) Tryz.func35 (Args.two (.w h) (.w h))) r3 trivial (nf (ZI .t .t) r2 trivial (nM rfl rfl (nk rfl (fun h=>oF 6 101 .is) r2 r1 (nk rfl (fun h=>oL false 1 101 (.w h .adr)) r2 r1 (nk rfl (fun h=>oF 6 102 .is) r2 r1 (nk rfl (fun h=>oL false 1 102 (.w h .adr)) r2 r1 (nk rfl (fun h=>o_eql (.w h) (.w h)) r3 trivial (nf (ZI .t .t) r2 trivial (nM rfl rfl (nk rfl (fun h=>oF 7 101 .is) r2 r1 (nk rfl (fun h=>oL false 1 101 (.w h .adr)) r2 r1 (nk rfl (fun h=>oF 7 102 .is) r2 r1 (nk rfl (fun h=>oL false 1 102 (.w h .adr)) r2 r1 (nk rfl (fun h=>o_eql (.w h) (.w h)) r3 trivial (nf (ZI .t .t) r2 trivial (nM rfl rfl (nk rfl (fun h=>oF 8 101 .is) r2 r1 (nk rfl (fun h=>oL false 1 101 (.w h .adr)) r2 r1 (nk rfl (fun h=>oF 8 102 .is) r2 r1 (nn [52,51,49,4,3,2] [102,101,0] rfl rfl (nk rfl (fun h=>oL false 1 102 (.w h .adr)) r2 r1 (nk rfl (fun h=>o_eql (.w h) (.w h)) r3 trivial (nf (ZI .t .t) r2 trivial (nM rfl rfl (nk rfl (fun h=>oF 9 101 .is) r2 r1 (nk rfl (fun h=>oL false 1 101 (.w h .adr)) r2 r1 (nk rfl (fun h=>oF 9 102 .is) r2 r1 (nk rfl (fun h=>oL false 1 102 (.w h .adr)) r2 r1 (nk rfl (fun h=>o_eql (.w h) (.w h)) r3 trivial (nf (ZI .t .t) r2 trivial (nN rfl rfl ZP.nil))))))))))))))))))))))))))))))))))))))))))))))))))))))))))))) (by kernel_rfl) (by rw [hB];kernel_rfl) fun a w F hS=>?_
 obtain ⟨F,hS⟩:=hS.nm [4] [102,101,0] rfl rfl
 try dsimp only [List.map,xD,xE,xT,xU,ldSF] at hS
 refine Zb (wp_ret ?_)
 refine Zm hfr hS rfl rfl rfl (.bool (Zrd u v))
theorem Zsx (c:CmdD):FnP Tryz.prog 84 [.agg (rCmd c)] (.agg (rCmd (usedR c))):=by
 refine FnP.mk Tryz.func84 rfl Tryz.ntmps84 rfl ?_
 intro B a w F hB hfr hS
 refine wp_seq ?_
 refine Zc hS (qx 101 r1 (qf (oH [.int .i64 0,.int .i64 0,.bool false,.slice none 0 0,.int .i64 0,.slice none 0 0,.int .i64 0,.int .i64 0,.int .i64 0,.int .i64 0] 102) trivial qz qZ)) hB [2,1] [102,101,0] (fun _=>rfl) (fun _=>rfl) fun τ a w F hS=>?_
 try dsimp only [RS.sub,SF.sub,CF.sub,csub,Anc.sub,List.map,zCF] at hS
 generalize τ 1=v1 at hS
 generalize τ 2=v2 at hS
 refine Zb (wp_seq ?_)
 refine Zc hS (qg 0 101 r1 r1 (qa 101 r1 r1 (qf (oB [(0,.tmp 5)] [.int .i64 0,.int .i64 0,.bool false,.slice none 0 0,.int .i64 0,.slice none 0 0,.int .i64 0,.int .i64 0,.int .i64 0,.int .i64 0] [(0,1),(1,3),(4,2),(6,1),(7,1),(8,1),(9,1)] (.one rfl .t one_int (by kernel_rfl) .nil)) r1 qz (qf (oH [.int .i64 0,.int .i64 0,.bool false,.slice none 0 0,.int .i64 0,.slice none 0 0,.int .i64 0,.int .i64 0,.int .i64 0,.int .i64 0] 103) trivial qz (qS 10 103 r2 r1 qZ))))) hB [3,2,1] [103,102,101,0] (fun _=>rfl) (fun _=>rfl) fun τ a w F hS=>?_
 try dsimp only [RS.sub,SF.sub,CF.sub,csub,Anc.sub,List.map,Zg,xL,xM,Nat.reduceAdd,xD,xE,xT,xU,xC,xN,zCF,ldSF] at hS
 generalize τ 3=v3 at hS
 refine Zb (wp_seq (wp_seq ?_))
 refine Za hS (qg 0 101 r1 r1 (qa 101 r1 r1 qZ)) hB [8,3,2,1] [103,102,101,0] rfl rfl fun a w F hS=>Zb (wp_block (wp_seq (wp_seq ?_)))
 refine Za hS (qf (o_eql .t qi) r1 qz (qN rfl rfl qZ)) hB [9,8,3,2,1] [103,102,101,0] rfl rfl fun a w F hS=>Zb ?_
 refine Zd hS rfl (fun hc0=>?_) (fun hc0=>?_)
 ·skip
  have hk:c.kind=1∨c.kind=2:=by first | exact .inl (of_decide_eq_true hc0) | exact .inr (of_decide_eq_true hc0)
  have hr:usedR c = {zeroC c.kind with tx:=c.tx} := by unfold usedR;rw [if_pos hk]
  refine wp_skip (Zb ?_)
  refine Zd hS rfl (fun hc1=>?_) (fun hc1=>?_)
  ·skip
   have hk:c.kind=1∨c.kind=2:=by first | exact .inl (of_decide_eq_true hc1) | exact .inr (of_decide_eq_true hc1)
   have hr:usedR c = {zeroC c.kind with tx:=c.tx} := by unfold usedR;rw [if_pos hk]
   refine Za hS (qg 1 101 r1 r1 (qf (oL true 3 101 .adr) r1 r1 (qg 1 103 r1 r1 (qf (oA 3 103 .adr .t) r2 r1 qZ)))) hB [3,2] [103,102,101,0] rfl rfl fun a w F hS=>Zh (Zb (wp_seq ?_))
   refine Za hS (qe 10 103 r1 r1 (qs 10 102 r2 r1 qZ)) hB [2] [103,102,101,0] rfl rfl fun a w F hS=>Zb (wp_ret ?_)
   refine Zr hfr hS rfl (.cl 102 true 10 rfl rfl .nil) (.one (.aggLe rfl (by rw [hr];exact (by refine ⟨?_,?_,?_,?_,?_,?_,?_,?_,?_,?_,trivial⟩ <;> first | exact PVLe.refl | exact PVLe.nilSl))))
  exact Bool.noConfusion (hc0.symm.trans hc1)
 have hn:=of_decide_eq_false hc0
 refine Za hS (qf (o_eql .t qi) r1 qz (qN rfl rfl qZ)) hB [9,8,3,2,1] [103,102,101,0] rfl rfl fun a w F hS=>Zb ?_
 refine Zd hS rfl (fun hc2=>?_) (fun hc2=>?_)
 ·skip
  have hk:c.kind=1∨c.kind=2:=by first | exact .inl (of_decide_eq_true hc2) | exact .inr (of_decide_eq_true hc2)
  have hr:usedR c = {zeroC c.kind with tx:=c.tx} := by unfold usedR;rw [if_pos hk]
  refine Za hS (qg 1 101 r1 r1 (qf (oL true 3 101 .adr) r1 r1 (qg 1 103 r1 r1 (qf (oA 3 103 .adr .t) r2 r1 qZ)))) hB [3,2] [103,102,101,0] rfl rfl fun a w F hS=>Zh (Zb (wp_seq ?_))
  refine Za hS (qe 10 103 r1 r1 (qs 10 102 r2 r1 qZ)) hB [2] [103,102,101,0] rfl rfl fun a w F hS=>Zb (wp_ret ?_)
  refine Zr hfr hS rfl (.cl 102 true 10 rfl rfl .nil) (.one (.aggLe rfl (by rw [hr];exact (by refine ⟨?_,?_,?_,?_,?_,?_,?_,?_,?_,?_,trivial⟩ <;> first | exact PVLe.refl | exact PVLe.nilSl))))
 have hn:=of_decide_eq_false hc2
 refine wp_seq (wp_seq ?_)
 refine Za hS (qf (o_eql .t qi) r1 qz (qN rfl rfl qZ)) hB [15,8,3,2,1] [103,102,101,0] rfl rfl fun a w F hS=>Zb ?_
 refine Zd hS rfl (fun hc3=>?_) (fun hc3=>?_)
 ·skip
  have hk:c.kind=3∨c.kind=10:=by first | exact .inl (of_decide_eq_true hc3) | exact .inr (of_decide_eq_true hc3)
  have hr:usedR c = {zeroC c.kind with id:=c.id} := by unfold usedR;rw [if_neg (by omega),if_pos hk]
  refine wp_skip (Zb ?_)
  refine Zd hS rfl (fun hc4=>?_) (fun hc4=>?_)
  ·skip
   have hk:c.kind=3∨c.kind=10:=by first | exact .inl (of_decide_eq_true hc4) | exact .inr (of_decide_eq_true hc4)
   have hr:usedR c = {zeroC c.kind with id:=c.id} := by unfold usedR;rw [if_neg (by omega),if_pos hk]
   refine Za hS (qg 7 101 r1 r1 (qa 101 r1 r1 (qg 7 103 r1 r1 (qf (o_store1 103 .adr .t one_int (by kernel_rfl) (by kernel_rfl)) r2 r1 qZ)))) hB [3,2] [103,102,101,0] rfl rfl fun a w F hS=>Zh (Zb (wp_seq ?_))
   refine Za hS (qe 10 103 r1 r1 (qs 10 102 r2 r1 qZ)) hB [2] [103,102,101,0] rfl rfl fun a w F hS=>Zb (wp_ret ?_)
   refine Zr hfr hS rfl (.cl 102 true 10 rfl rfl .nil) (.one (.aggLe rfl (by rw [hr];exact (by refine ⟨?_,?_,?_,?_,?_,?_,?_,?_,?_,?_,trivial⟩ <;> first | exact PVLe.refl | exact PVLe.nilSl))))
  exact Bool.noConfusion (hc3.symm.trans hc4)
 have hn:=of_decide_eq_false hc3
 refine Za hS (qf (o_eql .t qi) r1 qz (qN rfl rfl qZ)) hB [15,8,3,2,1] [103,102,101,0] rfl rfl fun a w F hS=>Zb ?_
 refine Zd hS rfl (fun hc5=>?_) (fun hc5=>?_)
 ·skip
  have hk:c.kind=3∨c.kind=10:=by first | exact .inl (of_decide_eq_true hc5) | exact .inr (of_decide_eq_true hc5)
  have hr:usedR c = {zeroC c.kind with id:=c.id} := by unfold usedR;rw [if_neg (by omega),if_pos hk]
  refine Za hS (qg 7 101 r1 r1 (qa 101 r1 r1 (qg 7 103 r1 r1 (qf (o_store1 103 .adr .t one_int (by kernel_rfl) (by kernel_rfl)) r2 r1 qZ)))) hB [3,2] [103,102,101,0] rfl rfl fun a w F hS=>Zh (Zb (wp_seq ?_))
  refine Za hS (qe 10 103 r1 r1 (qs 10 102 r2 r1 qZ)) hB [2] [103,102,101,0] rfl rfl fun a w F hS=>Zb (wp_ret ?_)
  refine Zr hfr hS rfl (.cl 102 true 10 rfl rfl .nil) (.one (.aggLe rfl (by rw [hr];exact (by refine ⟨?_,?_,?_,?_,?_,?_,?_,?_,?_,?_,trivial⟩ <;> first | exact PVLe.refl | exact PVLe.nilSl))))
 have hn:=of_decide_eq_false hc5
 refine wp_seq ?_
 refine Za hS (qf (o_eql .t qi) r1 qz (qN rfl rfl qZ)) hB [21,8,3,2,1] [103,102,101,0] rfl rfl fun a w F hS=>Zb ?_
 refine Zd hS rfl (fun hc6=>?_) (fun hc6=>?_)
 ·skip
  have hk:=of_decide_eq_true hc6
  have hr:usedR c = {zeroC c.kind with order:=c.order} := by unfold usedR;rw [if_neg (by omega),if_neg (by omega),if_pos hk]
  refine Za hS (qg 4 101 r1 r1 (qf (oL true 2 101 .adr) r1 r1 (qg 4 103 r1 r1 (qf (oA 2 103 .adr .t) r2 r1 qZ)))) hB [3,2] [103,102,101,0] rfl rfl fun a w F hS=>Zh (Zb (wp_seq ?_))
  refine Za hS (qe 10 103 r1 r1 (qs 10 102 r2 r1 qZ)) hB [2] [103,102,101,0] rfl rfl fun a w F hS=>Zb (wp_ret ?_)
  refine Zr hfr hS rfl (.cl 102 true 10 rfl rfl .nil) (.one (.aggLe rfl (by rw [hr];exact (by refine ⟨?_,?_,?_,?_,?_,?_,?_,?_,?_,?_,trivial⟩ <;> first | exact PVLe.refl | exact PVLe.nilSl))))
 have hn:=of_decide_eq_false hc6
 refine wp_seq ?_
 refine Za hS (qf (o_eql .t qi) r1 qz (qN rfl rfl qZ)) hB [26,8,3,2,1] [103,102,101,0] rfl rfl fun a w F hS=>Zb ?_
 refine Zd hS rfl (fun hc7=>?_) (fun hc7=>?_)
 ·skip
  have hk:=of_decide_eq_true hc7
  have hr:usedR c = {zeroC c.kind with key:=c.key,id:=c.id,place:=c.place} := by unfold usedR;rw [if_neg (by omega),if_neg (by omega),if_neg (by omega),if_pos hk]
  refine Zw hS (qg 6 101 r1 r1 (qa 101 r1 r1 (qg 7 101 r1 r1 (qa 101 r1 r1 (qg 8 101 r1 r1 (qa 101 r1 r1 (qg 6 103 r1 r1 (qf (o_store1 103 .adr .t one_int (by kernel_rfl) (by kernel_rfl)) r2 r1 (qg 7 103 r1 r1 (qf (o_store1 103 .adr .t one_int (by kernel_rfl) (by kernel_rfl)) r2 r1 (qg 8 103 r1 r1 (qf (o_store1 103 .adr .t one_int (by kernel_rfl) (by kernel_rfl)) r2 r1 qZ)))))))))))) hB [3,2] [103,102,101,0] rfl rfl fun a w F hS=>?_
  try dsimp only [List.map,Zg,xL,xM,Nat.reduceAdd,xD,xE,xT,xU,xC,xN,zCF,ldSF] at hS
  refine Zh (Zb (wp_seq ?_))
  refine Za hS (qe 10 103 r1 r1 (qs 10 102 r2 r1 qZ)) hB [2] [103,102,101,0] rfl rfl fun a w F hS=>Zb (wp_ret ?_)
  refine Zr hfr hS rfl (.cl 102 true 10 rfl rfl .nil) (.one (.aggLe rfl (by rw [hr];exact (by refine ⟨?_,?_,?_,?_,?_,?_,?_,?_,?_,?_,trivial⟩ <;> first | exact PVLe.refl | exact PVLe.nilSl))))
 have hn:=of_decide_eq_false hc7
 refine wp_seq ?_
 refine Za hS (qf (o_eql .t qi) r1 qz (qN rfl rfl qZ)) hB [37,3,2,1] [103,102,101,0] rfl rfl fun a w F hS=>Zb ?_
 refine Zd hS rfl (fun hc8=>?_) (fun hc8=>?_)
 ·skip
  have hk:=of_decide_eq_true hc8
  have hr:usedR c = {zeroC c.kind with phen:=c.phen} := by unfold usedR;rw [if_neg (by omega),if_neg (by omega),if_neg (by omega),if_neg (by omega),if_pos hk]
  refine Za hS (qg 9 101 r1 r1 (qa 101 r1 r1 (qg 9 103 r1 r1 (qf (o_store1 103 .adr .t one_int (by kernel_rfl) (by kernel_rfl)) r2 r1 qZ)))) hB [3,2] [103,102,101,0] rfl rfl fun a w F hS=>Zh (Zb (wp_seq ?_))
  refine Za hS (qe 10 103 r1 r1 (qs 10 102 r2 r1 qZ)) hB [2] [103,102,101,0] rfl rfl fun a w F hS=>Zb (wp_ret ?_)
  refine Zr hfr hS rfl (.cl 102 true 10 rfl rfl .nil) (.one (.aggLe rfl (by rw [hr];exact (by refine ⟨?_,?_,?_,?_,?_,?_,?_,?_,?_,?_,trivial⟩ <;> first | exact PVLe.refl | exact PVLe.nilSl))))
 have hn:=of_decide_eq_false hc8
 have hr:usedR c=zeroC c.kind:=by unfold usedR;rw [if_neg (by omega),if_neg (by omega),if_neg (by omega),if_neg (by omega),if_neg (by omega)]
 refine wp_skip (Zh (Zb (wp_seq ?_)))
 refine Za hS (qe 10 103 r1 r1 (qs 10 102 r2 r1 qZ)) hB [2] [103,102,101,0] rfl rfl fun a w F hS=>Zb (wp_ret ?_)
 refine Zr hfr hS rfl (.cl 102 true 10 rfl rfl .nil) (.one (.aggLe rfl (by rw [hr];exact (by refine ⟨?_,?_,?_,?_,?_,?_,?_,?_,?_,?_,trivial⟩ <;> first | exact PVLe.refl | exact PVLe.nilSl))))
theorem ZsG (x y : List TxD) (f : FuncId) (fn : Func) (cps : List PV) (hf : Tryz.prog.funcs[f]? = some fn) (hb : fn.body.isSome = true) (hnn : (fn.name == "runtime.NumGoroutine") = false) (hw : ∀ u v : TxD, FnP Tryz.prog f (.agg (rTx u) :: .agg (rTx v) :: cps) (.bool (decide (u = v)))) : FnP Tryz.prog 31 [.sl rTx x, .sl rTx y, .clos f cps] (.bool (decide (x = y))) := by
 refine FnP.mk Tryz.func31 rfl Tryz.ntmps31 rfl ?_
 intro B a w F hB hfr hS
 have hxl:=Sat.lenSl hS (i:=0) rfl
 refine wp_seq ?_
 refine Za hS qB hB [6,2,1,0] [0] rfl rfl fun a w F hS=>Zb (wp_seq (wp_seq ?_))
 refine Za hS (qM rfl rfl (qu Tryz.underlying22 r1 (qM rfl rfl (qu Tryz.underlying22 r1 (qf (o_neq .t .t) r2 qz qZ))))) hB [14,6,2,1,0] [0] rfl rfl fun a w F hS=>Zb ?_
 refine Zd hS rfl (fun hc0=>?_) (fun hc0=>?_)
 ·skip
  have hg:false=decide (x=y):=(decide_eq_false fun e=>by subst e;simp at hc0).symm
  refine wp_seq ?_
  refine Za hS qB hB [6,2,1,0] [0] rfl rfl fun a w F hS=>Zb (wp_ret (Ze ?_))
  refine Zm hfr hS rfl rfl rfl (.bool hg)
 have hln:x.length=y.length:=by simp at hc0;omega
 refine wp_skip (Zb (wp_seq (wp_seq ?_)))
 refine Za hS (qM rfl rfl (qu Tryz.underlying22 r1 (qJ qZ))) hB [17,16,15,6,2,1] [0] rfl rfl fun a w F hS=>Zb (wp_block ?_)
 refine Zp (σ:=(Nat)) [1,2,6,15,16] [0] (fun s=>[(17,.pv (.int .i64 (s:Int)))]) (fun s=>[]) (fun s=>s≤x.length∧(∀ q,q<s→Go.Gm.nth x q=Go.Gm.nth y q)) (fun s=>x.length - s) (0) hS ⟨rfl,rfl,rfl,rfl,rfl,rfl,trivial⟩ ⟨rfl,trivial⟩ ⟨Nat.zero_le _,fun q hq=>absurd hq (Nat.not_lt_zero q)⟩ ?_
 clear hS;intro i a w F hC hS
 try dsimp only at hC
 obtain ⟨F,hS⟩:=hS.nm [17,16,15,6,2,1] [0] rfl rfl
 try dsimp only at hS
 obtain ⟨hi,hq⟩:=hC
 refine wp_seq ?_
 refine Za hS (qL r2) hB [18,17,16,15,6,2,1] [0] rfl rfl fun a w F hS=>Zb (wp_seq ?_)
 refine Zd hS rfl (fun hc1=>?_) (fun hc1=>?_)
 ·skip
  have hil:i<x.length:=by simp at hc1;omega
  refine wp_skip (Zb (wp_seq (wp_block (wp_seq ?_))))
  refine Zc hS (qM rfl rfl (qy 3 Tryz.underlying22 r2 (qf (oR true 3 .t) r1 qz (qf (oH [.int .i64 0,.bool false,.slice none 0 0] 101) trivial qz (qN rfl rfl (qS 3 101 r2 r1 qZ)))))) hB [17,16,15,8,7,6,2,1] [101,0] (fun _=>rfl) (fun _=>rfl) fun τ a w F hS=>?_
  try dsimp only [RS.sub,SF.sub,CF.sub,csub,Anc.sub,List.map,Zg,xL,xM,Nat.reduceAdd,xD,xE,xT,xU,xC,xN,zCF,ldSF,rTx] at hS
  generalize τ 8=v8 at hS
  try simp only [Int.toNat_natCast] at hS
  refine Zb (wp_seq ?_)
  refine Zc hS (qM rfl rfl (qM rfl rfl (qy 3 Tryz.underlying22 r2 (qf (oR true 3 .t) r1 qz (qf (oH [.int .i64 0,.bool false,.slice none 0 0] 102) trivial qz (qS 3 102 r2 r1 qZ)))))) hB [17,16,15,9,8,6,2,1] [102,101,0] (fun _=>rfl) (fun _=>rfl) fun τ a w F hS=>?_
  try dsimp only [RS.sub,SF.sub,CF.sub,csub,Anc.sub,List.map,Zg,xL,xM,Nat.reduceAdd,xD,xE,xT,xU,xC,xN,zCF,ldSF,rTx] at hS
  generalize τ 9=v9 at hS
  try simp only [Int.toNat_natCast] at hS
  refine Zb (wp_seq ?_)
  refine Za hS (qM rfl rfl (qe 3 101 r1 r1 (qe 3 102 r1 r1 (qf (ZM (avs:=[.agg (rTx (Go.Gm.nth x i)),.agg (rTx (Go.Gm.nth y i))]) .t (hw (Go.Gm.nth x i) (Go.Gm.nth y i)) hf hb hnn (Args.two (.pagg .t) (.pagg .t))) r3 qz (qf (o_not .t) r1 qz qZ))))) hB [30,17,16,15,6,2,1] [102,101,0] rfl rfl fun a w F hS=>Zb ?_
  refine Zd hS rfl (fun hc2=>?_) (fun hc2=>?_)
  ·skip
   have hg:false=decide (x=y):=(decide_eq_false fun e=>by subst e;simp at hc2).symm
   refine wp_seq ?_
   refine Za hS qB hB [17,16,15,6,2,1] [102,101,0] rfl rfl fun a w F hS=>Zb (wp_ret (Zf (Ze (Ze (Zf (Ze ?_))))))
   refine Zm hfr hS rfl rfl rfl (.bool hg)
  have hne:(Go.Gm.nth x i)=(Go.Gm.nth y i):=by simpa using hc2
  refine wp_skip (Zh (Zb ?_))
  refine Za hS (qp r1 (qM rfl rfl qZ)) hB [17,16,15,6,2,1] [102,101,0] rfl rfl fun a w F hS=>Zb ?_
  replace hS:=hS.ent (i:=17) (s':=.pv (.int .i64 ((i+1:Nat):Int))) rfl (.int (wrap_succ (by omega)))
  obtain ⟨F,hS⟩:=hS.nm [16,15,6,2,1,17] [0] rfl rfl
  exact ⟨(i+1),F,⟨by omega,(fun q h9=>by rcases Nat.lt_or_eq_of_le (Nat.le_of_lt_succ h9) with h8 | h8;exact hq q h8;rw [h8];exact hne)⟩,hS,by omega⟩
 have hil:i=x.length:=by simp at hc1;omega
 have hg:true=decide (x=y):=(decide_eq_true (ZaU hln fun j hj=>hq j (by omega))).symm
 refine wp_exit (Zi (Zi (Zl (Zb (wp_seq ?_)))))
 refine Za hS qB hB [6] [0] rfl rfl fun a w F hS=>Zb (wp_ret ?_)
 refine Zm hfr hS rfl rfl rfl (.bool hg)
theorem Zs2 (x y : List OrdD) (f : FuncId) (fn : Func) (cps : List PV) (hf : Tryz.prog.funcs[f]? = some fn) (hb : fn.body.isSome = true) (hnn : (fn.name == "runtime.NumGoroutine") = false) (hw : ∀ u v : OrdD, FnP Tryz.prog f (.agg (Zz u) :: .agg (Zz v) :: cps) (.bool (decide (u = v)))) : FnP Tryz.prog 33 [.sl Zz x, .sl Zz y, .clos f cps] (.bool (decide (x = y))) := by
 refine FnP.mk Tryz.func33 rfl Tryz.ntmps33 rfl ?_
 intro B a w F hB hfr hS
 have hxl:=Sat.lenSl hS (i:=0) rfl
 refine wp_seq ?_
 refine Za hS qB hB [6,2,1,0] [0] rfl rfl fun a w F hS=>Zb (wp_seq (wp_seq ?_))
 refine Za hS (qM rfl rfl (qu Tryz.underlying23 r1 (qM rfl rfl (qu Tryz.underlying23 r1 (qf (o_neq .t .t) r2 qz qZ))))) hB [14,6,2,1,0] [0] rfl rfl fun a w F hS=>Zb ?_
 refine Zd hS rfl (fun hc0=>?_) (fun hc0=>?_)
 ·skip
  have hg:false=decide (x=y):=(decide_eq_false fun e=>by subst e;simp at hc0).symm
  refine wp_seq ?_
  refine Za hS qB hB [6,2,1,0] [0] rfl rfl fun a w F hS=>Zb (wp_ret (Ze ?_))
  refine Zm hfr hS rfl rfl rfl (.bool hg)
 have hln:x.length=y.length:=by simp at hc0;omega
 refine wp_skip (Zb (wp_seq (wp_seq ?_)))
 refine Za hS (qM rfl rfl (qu Tryz.underlying23 r1 (qJ qZ))) hB [17,16,15,6,2,1] [0] rfl rfl fun a w F hS=>Zb (wp_block ?_)
 refine Zp (σ:=(Nat)) [1,2,6,15,16] [0] (fun s=>[(17,.pv (.int .i64 (s:Int)))]) (fun s=>[]) (fun s=>s≤x.length∧(∀ q,q<s→Go.Gm.nth x q=Go.Gm.nth y q)) (fun s=>x.length - s) (0) hS ⟨rfl,rfl,rfl,rfl,rfl,rfl,trivial⟩ ⟨rfl,trivial⟩ ⟨Nat.zero_le _,fun q hq=>absurd hq (Nat.not_lt_zero q)⟩ ?_
 clear hS;intro i a w F hC hS
 try dsimp only at hC
 obtain ⟨F,hS⟩:=hS.nm [17,16,15,6,2,1] [0] rfl rfl
 try dsimp only at hS
 obtain ⟨hi,hq⟩:=hC
 refine wp_seq ?_
 refine Za hS (qL r2) hB [18,17,16,15,6,2,1] [0] rfl rfl fun a w F hS=>Zb (wp_seq ?_)
 refine Zd hS rfl (fun hc1=>?_) (fun hc1=>?_)
 ·skip
  have hil:i<x.length:=by simp at hc1;omega
  refine wp_skip (Zb (wp_seq (wp_block (wp_seq ?_))))
  refine Zc hS (qM rfl rfl (qy 2 Tryz.underlying23 r2 (qf (oR true 2 .t) r1 qz (qf (oH [.int .i64 0,.slice none 0 0] 101) trivial qz (qN rfl rfl (qS 2 101 r2 r1 qZ)))))) hB [17,16,15,8,7,6,2,1] [101,0] (fun _=>rfl) (fun _=>rfl) fun τ a w F hS=>?_
  try dsimp only [RS.sub,SF.sub,CF.sub,csub,Anc.sub,List.map,Zg,xL,xM,Nat.reduceAdd,xD,xE,xT,xU,xC,xN,zCF,ldSF,Zz] at hS
  generalize τ 8=v8 at hS
  try simp only [Int.toNat_natCast] at hS
  refine Zb (wp_seq ?_)
  refine Zc hS (qM rfl rfl (qM rfl rfl (qy 2 Tryz.underlying23 r2 (qf (oR true 2 .t) r1 qz (qf (oH [.int .i64 0,.slice none 0 0] 102) trivial qz (qS 2 102 r2 r1 qZ)))))) hB [17,16,15,9,8,6,2,1] [102,101,0] (fun _=>rfl) (fun _=>rfl) fun τ a w F hS=>?_
  try dsimp only [RS.sub,SF.sub,CF.sub,csub,Anc.sub,List.map,Zg,xL,xM,Nat.reduceAdd,xD,xE,xT,xU,xC,xN,zCF,ldSF,Zz] at hS
  generalize τ 9=v9 at hS
  try simp only [Int.toNat_natCast] at hS
  refine Zb (wp_seq ?_)
  refine Za hS (qM rfl rfl (qe 2 101 r1 r1 (qe 2 102 r1 r1 (qf (ZM (avs:=[.agg (Zz (Go.Gm.nth x i)),.agg (Zz (Go.Gm.nth y i))]) .t (hw (Go.Gm.nth x i) (Go.Gm.nth y i)) hf hb hnn (Args.two (.pagg .t) (.pagg .t))) r3 qz (qf (o_not .t) r1 qz qZ))))) hB [30,17,16,15,6,2,1] [102,101,0] rfl rfl fun a w F hS=>Zb ?_
  refine Zd hS rfl (fun hc2=>?_) (fun hc2=>?_)
  ·skip
   have hg:false=decide (x=y):=(decide_eq_false fun e=>by subst e;simp at hc2).symm
   refine wp_seq ?_
   refine Za hS qB hB [17,16,15,6,2,1] [102,101,0] rfl rfl fun a w F hS=>Zb (wp_ret (Zf (Ze (Ze (Zf (Ze ?_))))))
   refine Zm hfr hS rfl rfl rfl (.bool hg)
  have hne:(Go.Gm.nth x i)=(Go.Gm.nth y i):=by simpa using hc2
  refine wp_skip (Zh (Zb ?_))
  refine Za hS (qp r1 (qM rfl rfl qZ)) hB [17,16,15,6,2,1] [102,101,0] rfl rfl fun a w F hS=>Zb ?_
  replace hS:=hS.ent (i:=17) (s':=.pv (.int .i64 ((i+1:Nat):Int))) rfl (.int (wrap_succ (by omega)))
  obtain ⟨F,hS⟩:=hS.nm [16,15,6,2,1,17] [0] rfl rfl
  exact ⟨(i+1),F,⟨by omega,(fun q h9=>by rcases Nat.lt_or_eq_of_le (Nat.le_of_lt_succ h9) with h8 | h8;exact hq q h8;rw [h8];exact hne)⟩,hS,by omega⟩
 have hil:i=x.length:=by simp at hc1;omega
 have hg:true=decide (x=y):=(decide_eq_true (ZaU hln fun j hj=>hq j (by omega))).symm
 refine wp_exit (Zi (Zi (Zl (Zb (wp_seq ?_)))))
 refine Za hS qB hB [6] [0] rfl rfl fun a w F hS=>Zb (wp_ret ?_)
 refine Zm hfr hS rfl rfl rfl (.bool hg)
theorem Zrt (u v:OrdD):FnP Tryz.prog 34 [.agg (Zz u),.agg (Zz v)] (.bool (decide (u=v))):=by
 refine FnP.mk Tryz.func34 rfl Tryz.ntmps34 rfl ?_
 intro B a w F hB hfr hS
 refine wp_seq ?_
 refine Zc hS (qx 101 r1 (qx 102 r1 qB)) hB [4,3,2] [102,101,0] (fun _=>rfl) (fun _=>rfl) fun τ a w F hS=>?_
 try dsimp only [RS.sub,SF.sub,CF.sub,csub,Anc.sub,List.map,zCF,Zo,rTx,Zz,ZQ,rInt,rOp] at hS
 generalize τ 2=v2 at hS
 generalize τ 3=v3 at hS
 refine Zb (wp_seq ?_)
 refine Za hS (qg 0 101 r1 r1 (qa 101 r1 r1 (qg 0 102 r1 r1 (qa 102 r1 r1 (qf (o_eql .t .t) r2 qz (qM rfl rfl (qv 1 101 rfl r2 r1 (qw 101 rfl r2 r1 (qv 1 102 rfl r2 r1 (qw 102 rfl r2 r1 (qk rfl (fun h=>oP (ZqJ u.txs v.txs) Tryz.func35 (Args.two (.w h) (.w h))) r3 qz (qf (ZI .t .t) r2 qz (qN rfl rfl qZ))))))))))))) hB [4] [102,101,0] rfl rfl fun a w F hS=>Zb (wp_ret ?_)
 refine Zm hfr hS rfl rfl rfl (.bool (ZrG))
theorem Zq0 (u v:HistD):FnP Tryz.prog 10 [.agg (Zo u),.agg (Zo v)] (.bool (decide (u=v))):=by
 refine FnP.mk Tryz.func10 rfl Tryz.ntmps10 rfl ?_
 intro B a w F hB hfr hS
 refine wp_seq ?_
 refine Zc hS (qx 101 r1 (qx 102 r1 qB)) hB [4,3,2] [102,101,0] (fun _=>rfl) (fun _=>rfl) fun τ a w F hS=>?_
 try dsimp only [RS.sub,SF.sub,CF.sub,csub,Anc.sub,List.map,zCF,Zo,rTx,Zz,ZQ,rInt,rOp] at hS
 generalize τ 2=v2 at hS
 generalize τ 3=v3 at hS
 refine Zb (wp_seq ?_)
 refine Za hS (qg 0 101 r1 r1 (qa 101 r1 r1 (qg 0 102 r1 r1 (qa 102 r1 r1 (qf (oP (ZsG u.txs v.txs 32 Tryz.f32 [] Tryz.func32 rfl (by kernel_rfl) (fun a b=>ZkZ a b)) Tryz.func31 (Args.three .t .t (.conv .f (Ent.fnClos)))) r2 qz (qM rfl rfl (qv 1 101 rfl r2 r1 (qw 101 rfl r2 r1 (qv 1 102 rfl r2 r1 (qw 102 rfl r2 r1 (qk rfl (fun h=>oP (Zs2 u.orders v.orders 34 Tryz.f34 [] Tryz.func34 rfl (by kernel_rfl) (fun a b=>Zrt a b)) Tryz.func33 (Args.three (.w h) (.w h) (.conv .f (Ent.fnClos)))) r3 qz (qf (ZI .t .t) r2 qz (qN rfl rfl qZ))))))))))))) hB [4] [102,101,0] rfl rfl fun a w F hS=>Zb (wp_ret ?_)
 refine Zm hfr hS rfl rfl rfl (.bool (Zle u v))
instance (l:List TxD):Decidable (ZbG l):=by unfold ZbG;exact inferInstance
instance (l:List OrdD):Decidable (Zda l):=by unfold Zda;exact inferInstance
instance (g:HistD):Decidable (Za0 g):=by unfold Za0;exact inferInstance
theorem Za6 {l:List TxD} {k x:Int} : x ∈ ZN l k ↔ ∃ t ∈ l,t.id=x∧t.done=true∧0<wcnt t.ops k:=by
 unfold ZN
 rw [List.mem_map]
 constructor
 · rintro ⟨t,ht,e⟩
   rw [List.mem_filter] at ht
   simp at ht
   exact ⟨t,ht.1,e,ht.2.1,ht.2.2⟩
 · rintro ⟨t,ht,e,h1,h2⟩
   exact ⟨t,by rw [List.mem_filter];simp [ht,h1,h2],e⟩
theorem ZaW {l:List TxD} (h:ZbP TxD.id l) (k:Int):(ZN l k).Nodup:=by
 unfold ZN
 have h1:(l.map TxD.id).Nodup:=(List.pairwise_map.2 (Zs.1 h)).imp fun h=>Int.ne_of_lt h
 exact (h1.sublist ((List.filter_sublist).map _))
theorem Zbj {l:List TxD} (h:ZbP TxD.id l) {t:TxD} (ht:t ∈ l):ZK l t.id=some t:=by
 have h:=Zs.1 h
 induction l with
 | nil=>cases ht
 | cons x l ih=>
   rw [List.pairwise_cons] at h
   unfold ZK
   rw [List.find?_cons]
   rcases List.mem_cons.1 ht with rfl | ht
   · simp
   · have:=h.1 t ht
     rw [show decide (x.id=t.id)=false by simp;omega]
     exact ih (Zs.2 h.2) ht h.2
theorem Zp3 {l:List TxD} {id:Int} (h:∀ t ∈ l,t.id≠id):ZK l id=none:=by
 unfold ZK
 exact List.find?_eq_none.2 fun t ht=>by simpa using h t ht
theorem Z7 {g:HistD} : Zx g ↔ g.txs.length≤4096∧ZbP TxD.id g.txs∧(∀ t ∈ g.txs,ZU t=0∧Zbi g t=true)∧ZbP OrdD.key g.orders∧NE g.orders ∧ ∀ k,(getO g.orders k).Perm (ZN g.txs k):=by
 constructor
 · intro h
   obtain ⟨r1',r2'⟩:=Zq h
   have hne:=Zc4 h
   have h2:=(ZcQ g).2 h.2.2
   refine ⟨h.1,r1',fun t ht=>?_,r2',hne,fun k=>?_⟩
   · obtain ⟨j,hj,e⟩:=List.getElem_of_mem ht
     have:=(h.2.1 j hj).2
     rwa [Zn hj,e] at this
   · by_cases hk:getO g.orders k = []
     · rw [hk]
       have hw:ZN g.txs k = []:=by
         refine Decidable.byContradiction fun hw=>?_
         obtain ⟨j,hj,e⟩:=List.getElem_of_mem (Zcp.2 hw)
         have hjo:j<g.orders.length:=by rw [h.2.2.1];exact hj
         have h3:=(h.2.2.2 j hjo).1
         rw [Zn hj,e] at h3
         have h4:=Za8 (Zs.1 r2') (ZB hjo)
         rw [h3,hk] at h4
         exact hne _ (ZB hjo) h4.symm
       rw [hw]
     · have hm:=Zh9 hk
       obtain ⟨j,hj,e⟩:=List.getElem_of_mem hm
       have:=(h2.2 j hj).2.2
       rw [Zn hj,e] at this
       exact this
 · rintro ⟨h1,h2,h3,h4,h5,h6⟩
   have hk:g.orders.map OrdD.key=ZbK g.txs:=by
     refine ZcS (List.pairwise_map.2 (Zs.1 h4)) (Zal _).1 fun k=>?_
     rw [Zcp,List.mem_map]
     constructor
     · rintro ⟨o,ho,rfl⟩ e
       have:=h6 o.key
       rw [e,Za8 (Zs.1 h4) ho] at this
       exact h5 o ho this.eq_nil
     · intro e
       have:getO g.orders k≠[]:=fun e2=>by
         have:=h6 k
         rw [e2] at this
         exact e this.symm.eq_nil
       exact ⟨_,Zh9 this,rfl⟩
   have hlen:g.orders.length=(ZbK g.txs).length:=by rw [← hk,List.length_map]
   refine ⟨h1,fun i hi=>?_,(ZcQ g).1 ⟨hlen,fun i hi=>?_⟩⟩
   · obtain ⟨g1,g2⟩:=h3 _ (ZB hi)
     exact ⟨fun h0=>h2 (i - 1) i (by omega) hi,g1,g2⟩
   · refine ⟨fun h0=>h4 (i - 1) i (by omega) hi,h5 _ (ZB hi),?_⟩
     have:=h6 (Go.Gm.nth g.orders i).key
     rwa [Za8 (Zs.1 h4) (ZB hi)] at this
theorem ZoD {t:TxD} {l:List Int} {k x:Int} : x ∈ ZeK t l k ↔ (x ∈ l∧x≠t.id)∨(x=t.id∧t.done=true∧0<wcnt t.ops k):=by
 unfold ZeK
 by_cases h:t.done=true∧0<wcnt t.ops k
 · rw [if_pos h]
   unfold withO
   split
   · rename_i hi
     constructor
     · intro hx
       by_cases e:x=t.id
       · exact .inr ⟨e,h⟩
       · exact .inl ⟨hx,e⟩
     · rintro (⟨hx,_⟩ | ⟨rfl,_⟩)
       · exact hx
       · exact hi
   · rename_i hi
     rw [List.mem_append,List.mem_singleton]
     constructor
     · rintro (hx | hx)
       · exact .inl ⟨hx,fun e=>hi (e ▸ hx)⟩
       · exact .inr ⟨hx,h⟩
     · rintro (⟨hx,_⟩ | ⟨e,_⟩)
       · exact .inl hx
       · exact .inr e
 · rw [if_neg h]
   unfold withoutO
   rw [List.mem_filter,decide_eq_true_eq]
   exact ⟨fun h1=>.inl h1,fun h1=>h1.elim id fun h2=>absurd h2.2 h⟩
theorem ZjK {t:TxD} {l:List Int} (h:l.Nodup) (k:Int):(ZeK t l k).Nodup:=by
 unfold ZeK
 split
 · unfold withO
   split
   · exact h
   · rename_i hi
     rw [List.nodup_append]
     exact ⟨h,by simp,fun a ha b hb=>by rw [List.mem_singleton] at hb;subst hb;exact fun e=>hi (e ▸ ha)⟩
 · exact h.filter _
theorem Zem {g:HistD} {t:TxD} {b:Bool} {l:List TxD} (hR:Zx g) (hs:Zda g.orders) (hr:ZbP TxD.id l) (hl:l.length≤4096) (hM:∀ s,s ∈ l ↔ (s ∈ g.txs∧s.id≠t.id)∨(s=t∧b=true))
   (ht:b=true→ZU t=0∧Zbi g t=true) (hb:b=false→t.done=false)
   (hu:∀ x ∈ l,∀ v ∈ Zas x,v.tx=t.id→Zgv g v=true→¬ (v.tx=0∧v.nth=0)→b=true∧v.nth≤(wcnt t.ops v.key:Int)):Zx ⟨l,settleO t g.orders⟩:=by
 obtain ⟨h1,h2,h3,h4,h5,h6⟩:=Z7.1 hR
 obtain ⟨s1,s2⟩:=Zkd (t:=t) h4 hs
 have hhas:∀ x ∈ l,∀ v ∈ Zas x,Zgv g v=true→Zgv ⟨l,settleO t g.orders⟩ v=true:=by
   intro x hx v hv hg
   by_cases hz:v.tx=0∧v.nth=0
   · unfold Zgv at hg ⊢
     rw [if_pos hz] at hg ⊢
     exact hg
   · have hu2:=hu x hx v hv
     unfold Zgv at hg hu2 ⊢
     rw [if_neg hz] at hg hu2 ⊢
     by_cases e:v.tx=t.id
     · obtain ⟨b1,b2⟩:=hu2 e hg hz
       have hm:t ∈ l:=(hM t).2 (.inr ⟨rfl,b1⟩)
       have hf:=Zbj hr hm
       simp only [Bool.and_eq_true,decide_eq_true_eq] at hg ⊢
       show _∧_
       rw [e,hf]
       exact ⟨rfl,hg.2.1,b2⟩
     · have hf:ZK l v.tx=ZK g.txs v.tx:=by
         cases hc:ZK g.txs v.tx with
         | none=>
           refine Zp3 fun s hsl es=>?_
           rcases (hM s).1 hsl with ⟨m1,m2⟩ | ⟨rfl,_⟩
           · have:=Zbj h2 m1
             rw [es,hc] at this;cases this
           · exact e es.symm
         | some s=>
           obtain ⟨m1,m2⟩:=findT_mem hc
           have hm:s ∈ l:=(hM s).2 (.inl ⟨m1,by rw [m2];exact e⟩)
           have:=Zbj hr hm
           rwa [m2] at this
       show (((ZK l v.tx).isSome && _):Bool)=true
       rw [hf];exact hg
 refine Z7.2 ⟨hl,hr,fun x hx=>?_,Zs.2 s1,s2,fun k=>?_⟩
 · have hx2:ZU x=0∧Zbi g x=true:=by
     rcases (hM x).1 hx with ⟨m1,_⟩ | ⟨rfl,b1⟩
     · exact h3 x m1
     · exact ht b1
   refine ⟨hx2.1,?_⟩
   have h7:=hx2.2
   unfold Zbi at h7 ⊢
   rw [List.all_eq_true] at h7 ⊢
   exact fun v hv=>hhas x hx v hv (h7 v hv)
 · rw [Zel h4 k]
   have hn:(getO g.orders k).Nodup:=(h6 k).symm.nodup (ZaW h2 k)
   refine (List.perm_ext_iff_of_nodup (ZjK hn k) (ZaW hr k)).2 fun x=>?_
   rw [ZoD,Za6,(h6 k).mem_iff,Za6]
   constructor
   · rintro (⟨⟨s,m1,m2,m3,m4⟩,m5⟩ | ⟨rfl,m3,m4⟩)
     · exact ⟨s,(hM s).2 (.inl ⟨m1,by rw [m2];exact m5⟩),m2,m3,m4⟩
     · refine ⟨t,(hM t).2 (.inr ⟨rfl,?_⟩),rfl,m3,m4⟩
       cases b with
       | true=>rfl
       | false=>rw [hb rfl] at m3;cases m3
   · rintro ⟨s,m1,m2,m3,m4⟩
     rcases (hM s).1 m1 with ⟨m5,m6⟩ | ⟨rfl,_⟩
     · exact .inl ⟨⟨s,m5,m2,m3,m4⟩,by rw [← m2];exact m6⟩
     · exact .inr ⟨m2.symm,m3,m4⟩
theorem Zk2 {l:List TxD} {t:TxD} (h:ZbP TxD.id l) (hk:isK TxD.id t.id l=false):ZbP TxD.id (l.take (lowK TxD.id t.id l) ++ [t] ++ l.drop (lowK TxD.id t.id l)) ∧ ∀ s,s ∈ l.take (lowK TxD.id t.id l) ++ [t] ++ l.drop (lowK TxD.id t.id l) ↔ (s ∈ l∧s.id≠t.id)∨(s=t∧true=true):=by
 rw [← Zip (Zs.1 h) hk]
 refine ⟨Zs.2 (Zep (Zs.1 h)),fun s=>?_⟩
 rw [Zip (Zs.1 h) hk,List.mem_append,List.mem_append,List.mem_singleton]
 have hne:∀ s ∈ l,s.id≠t.id:=fun s hs e=>by
   have:=List.any_eq_false.1 hk s hs
   simp at this;exact this e
 constructor
 · rintro ((h1 | h1) | h1)
   · exact .inl ⟨List.mem_of_mem_take h1,hne s (List.mem_of_mem_take h1)⟩
   · exact .inr ⟨h1,rfl⟩
   · exact .inl ⟨List.mem_of_mem_drop h1,hne s (List.mem_of_mem_drop h1)⟩
 · rintro (⟨h1,_⟩ | ⟨h1,_⟩)
   · rw [← List.take_append_drop (lowK TxD.id t.id l) l,List.mem_append] at h1
     rcases h1 with h1 | h1
     · exact .inl (.inl h1)
     · exact .inr h1
   · exact .inl (.inr h1)
theorem Zld {l:List TxD} {t:TxD} (h:ZbP TxD.id l) (hk:isK TxD.id t.id l=true):ZbP TxD.id (l.set (lowK TxD.id t.id l) t) ∧ ∀ s,s ∈ l.set (lowK TxD.id t.id l) t ↔ (s ∈ l∧s.id≠t.id)∨(s=t∧true=true):=by
 rw [← Zij (Zs.1 h) hk]
 refine ⟨Zs.2 (Zep (Zs.1 h)),fun s=>?_⟩
 constructor
 · intro hs
   rcases Zfc hs with ⟨rfl,_⟩ | h1
   · exact .inr ⟨rfl,rfl⟩
   · exact .inl h1
 · have key:∀ (l:List TxD) (d:Bool),((s ∈ l∧s.id≠t.id)∨(s=t∧d=false))→s ∈ ZbN TxD.id t l d:=by
     intro l
     induction l with
     | nil=>
       rintro d (⟨h1,_⟩ | ⟨rfl,h1⟩)
       · cases h1
       · subst h1;simp [ZbN]
     | cons x l ih=>
       intro d hx
       rw [ZbN,List.mem_append,List.mem_append]
       rcases hx with ⟨h1,h2⟩ | ⟨rfl,h1⟩
       · rcases List.mem_cons.1 h1 with rfl | h1
         · exact .inl (.inr (by rw [if_neg h2];simp))
         · exact .inr (ih _ (.inl ⟨h1,h2⟩))
       · by_cases hA:s.id≤x.id
         · exact .inl (.inl (by rw [if_pos ⟨h1,hA⟩];simp))
         · exact .inr (ih _ (.inr ⟨rfl,by rw [h1];simp;omega⟩))
   rintro (h1 | ⟨h1,_⟩)
   · exact key l false (.inl h1)
   · exact key l false (.inr ⟨h1,rfl⟩)
theorem ZpT {t:TxD} {v:ZbQ} (h:v ∈ Zas t):v.tx≠t.id:=by
 have key:∀ (l:List OpD) (out:List ZbQ),(∀ v ∈ out,v.tx≠t.id) → ∀ v ∈ l.foldl (Zaq t.id) out,v.tx≠t.id:=by
   intro l
   induction l with
   | nil=>intro out h;exact h
   | cons o l ih=>
     intro out h
     refine ih _ fun v hv=>?_
     unfold Zaq at hv
     split at hv
     · rename_i hc
       rcases List.mem_append.1 hv with hv | hv
       · exact h v hv
       · have e:v=ofO o:=by simpa using hv
         have hn:=hc.1
         unfold ZjI at hn
         simp at hn
         rw [e]
         unfold ofO
         rw [if_pos hn.1.1]
         exact hn.2
     · exact h v hv
 exact key _ _ (fun v hv=>by cases hv) v h
theorem ZlG {g:HistD} {v:ZbQ} (h:Zgv g v=true) (hz:¬ (v.tx=0∧v.nth=0)):isK TxD.id v.tx g.txs=true∧1≤v.nth:=by
 unfold Zgv at h
 rw [if_neg hz,Bool.and_eq_true,Bool.and_eq_true,ZjN] at h
 exact ⟨h.1,by simpa using h.2.1⟩
theorem Zqf {g:HistD} {t x:TxD} {v:ZbQ} (h:Zen g t=false) (hx:x ∈ g.txs) (hn:x.id≠t.id) (hv:v ∈ Zas x) (e:v.tx=t.id):v.nth≤(wcnt t.ops v.key:Int):=by
 have h1:=List.any_eq_false.1 h x hx
 unfold Zka at h1
 rw [decide_eq_true hn,Bool.true_and] at h1
 have h2:=List.any_eq_false.1 (by simpa using h1) v hv
 unfold Zj5 at h2
 simp [e] at h2
 omega
theorem Zi6 {g:HistD} {t:TxD} (hs:Za0 g) (h:(Zam g t).2=0):Zx (Zam g t).1:=by
 unfold Zam at h ⊢
 split at h
 · rename_i h1;exact absurd h h1
 · rename_i h1
   split at h
   · simp at h
   · rename_i h2
     obtain ⟨hr,hrt,hik,hnd,_⟩:=Zli (by decide) (Decidable.not_not.1 h1)
     rw [if_neg h1,if_neg h2]
     obtain ⟨m1,m2⟩:=Zk2 (Zq hr).1 hik
     refine Zem (b:=true) hr hs.2 m1 ?_ m2 (fun _=>⟨hrt,hnd⟩) (fun h=>by cases h) fun x _ v _ e hv hz=>?_
     · have:=hr.1
       rw [List.length_append,List.length_append,List.length_take,List.length_drop];simp;omega
     · have:=(ZlG hv hz).1
       rw [e,hik] at this;cases this
theorem ZjZ {g:HistD} {t:TxD} (hs:Za0 g) (h:(Za4 g t).2=0):Zx (Za4 g t).1:=by
 unfold Za4 at h ⊢
 split at h
 · rename_i h1;exact absurd h h1
 · rename_i h1
   split at h
   · simp at h
   · rename_i h2
     obtain ⟨hr,hrt,hik,hnd,_⟩:=Zli (by decide) (Decidable.not_not.1 h1)
     rw [if_neg h1,if_neg h2]
     obtain ⟨m1,m2⟩:=Zld (Zq hr).1 hik
     refine Zem (b:=true) hr hs.2 m1 (by rw [List.length_set];exact hr.1) m2 (fun _=>⟨hrt,hnd⟩) (fun h=>by cases h) fun x hx v hv e _ _=>⟨rfl,?_⟩
     rcases (m2 x).1 hx with ⟨h3,h4⟩ | ⟨rfl,_⟩
     · exact Zqf (by simpa using h2) h3 h4 hv e
     · exact absurd e (ZpT hv)
theorem Zjl {g:HistD} {id:Int} (hs:Za0 g) (h:(Zad g id).2=0):Zx (Zad g id).1:=by
 unfold Zad at h ⊢
 split at h
 · simp at h
 · rename_i h1
   split at h
   · simp at h
   · rename_i h2
     split at h
     · simp at h
     · rename_i h3
       have hr:=Decidable.not_not.1 h1
       have hik:isK TxD.id id g.txs=true:=by simpa using h2
       have hri:=(Zq hr).1
       rw [if_neg h1,if_neg h2,if_neg h3,← ZgB (Zs.1 hri) hik]
       refine Zem (b:=false) hr hs.2 (Zs.2 ((Zs.1 hri).filter _)) (Nat.le_trans (List.length_filter_le _ _) hr.1) (fun s=>?_) (fun h=>by cases h) (fun _=>rfl) fun x hx v hv e hg hz=>?_
       · rw [List.mem_filter];simp [Zc8]
       · rw [List.mem_filter] at hx
         have h5:=Zqf (t:=Zc8 id) (by simpa using h3) hx.1 (by simpa [Zc8] using hx.2) hv e
         have h6:=(ZlG hg hz).2
         have h7:wcnt (Zc8 id).ops v.key=0:=rfl
         rw [h7] at h5
         omega
theorem Zcn {g:HistD} {key:Int} {rule:List Int→List Int×Int} (hp:∀ l,(rule l).2=0→(rule l).1.Perm l) (h:(Z0 g key rule).2=0):Zx (Z0 g key rule).1:=by
 by_cases hr:Zx g
 · by_cases hg:getO g.orders key = []
   · rw [ZrZ hr hg] at h;simp at h
   · by_cases h3:(rule (getO g.orders key)).2=0
     · have hpp:=hp _ h3
       have hne:(rule (getO g.orders key)).1≠[]:=fun e=>hg (by rw [e] at hpp;exact hpp.symm.eq_nil)
       rw [Zqv hr hg h3 hne,decide_eq_false hne]
       obtain ⟨h1,h2,h4,h5,h6,h7⟩:=Z7.1 hr
       refine Z7.2 ⟨h1,h2,fun t ht=>?_,Zs.2 (Zep (Zs.1 h5)),fun o ho=>?_,fun k=>?_⟩
       · obtain ⟨g1,g2⟩:=h4 t ht
         exact ⟨g1,g2⟩
       · rcases Zfc ho with ⟨rfl,_⟩ | ⟨g1,_⟩
         · exact hne
         · exact h6 o g1
       · show (getO (ZbN OrdD.key _ g.orders false) k).Perm _
         rw [ZkT (Zs.1 h5)]
         by_cases e:k=key
         · subst e
           rw [if_pos rfl]
           exact hpp.trans (h7 k)
         · rw [if_neg e];exact h7 k
     · rw [Zr1 hr hg h3] at h;exact absurd h h3
 · rw [Zos hr] at h;simp at h
theorem Zor {o:OrdD} (l:List Int) (h:(ZeR o l).2=0):(ZeR o l).1.Perm l:=by
 unfold ZeR at h ⊢
 split at h
 · rename_i hp;rw [if_pos hp];exact hp.symm
 · simp at h
theorem ZkB {g:HistD} {e:EdD} (hs:Za0 g) (h:(doH g e).2=0):Zx (doH g e).1:=by
 unfold doH at h ⊢
 by_cases k0:e.kind=0
 · rw [if_pos k0] at h ⊢;exact Zi6 hs h
 · rw [if_neg k0] at h ⊢
   by_cases k1:e.kind=1
   · rw [if_pos k1] at h ⊢;exact Zjl hs h
   · rw [if_neg k1] at h ⊢
     by_cases k2:e.kind=2
     · rw [if_pos k2] at h ⊢;exact ZjZ hs h
     · rw [if_neg k2] at h ⊢
       by_cases k3:e.kind=3
       · rw [if_pos k3] at h ⊢;exact Zcn Zor h
       · rw [if_neg k3] at h ⊢
         by_cases k4:e.kind=4
         · rw [if_pos k4] at h ⊢;exact Zcn (rule:=fun l=>Zaf l e.t.id e.place) (fun l h=>Zif h) h
         · rw [if_neg k4] at h;simp at h
theorem ZgN:Zx zeroH:=by decide +kernel
theorem Zo9 (x y:List Int) (hx:x.length≤1000000) (hy:y.length≤1000000):FnP Tryz.prog 42 [.sl rInt x,.sl rInt y] (.tup [.sl ZhU (ZaD x y).1,.int .i64 (ZaD x y).2]):=by
 refine FnP.mk Tryz.func42 rfl Tryz.ntmps42 rfl ?_
 intro B a w F hB hfr hS
 refine wp_seq ?_
 refine Za hS (qC (qI qZ)) hB [5,4,1,0] [0] rfl rfl fun a w F hS=>Zb (wp_seq (wp_seq ?_))
 refine Za hS (qM rfl rfl (qf (oP (ZkA x) Tryz.func80 (Args.one .t)) r1 qz (qf (o_not .t) r1 qz (qM rfl rfl (qm rfl rfl rfl rfl (qk rfl (fun h=>oP (ZkA y) Tryz.func80 (Args.one (.w h))) r2 qz (qk rfl (fun h=>o_not (.w h)) r2 qz (qf (ZaC .t .t) r2 qz (qM rfl rfl (qm rfl rfl rfl rfl (qm rfl rfl rfl rfl (qk rfl (fun h=>oP (Zns x y hx hy) Tryz.func26 (Args.two (.w h) (.w h))) r3 qz (qk rfl (fun h=>o_not (.w h)) r2 qz (qf (ZaC .t .t) r2 qz qZ)))))))))))))) hB [23,5,4,1,0] [0] rfl rfl fun a w F hS=>Zb ?_
 refine Zd hS rfl (fun hc0=>?_) (fun hc0=>?_)
 ·skip
  have hno:¬ Zca x y:=by unfold Zca;rintro ⟨k1,k2,k3⟩;simp [k1,k2,k3] at hc0
  have hm:ZaD x y=([],8):=if_neg hno
  refine wp_seq ?_
  refine Za hS (qC (qI qZ)) hB [5,4,1,0] [0] rfl rfl fun a w F hS=>Zb (wp_ret (Ze ?_))
  refine Zr hfr hS rfl (.tmp rfl (.tmp rfl .nil)) (.two (.trans .nilSl (.sl (by rw [hm]))) (.int (by rw [hm])))
 have hok:Zca x y:=by unfold Zca;simp at hc0;simpa [and_assoc] using hc0
 have hxyl:=hok.2.2.length_eq
 refine wp_skip (Zb (wp_seq ?_))
 refine Za hS (qC qZ) hB [6,5,4,1,0] [0] rfl rfl fun a w F hS=>Zb (wp_seq ?_)
 replace hS:=hS.fresh 101 rfl
 refine Zc hS (qM rfl rfl (qf (Zbz 101 (Zc2 x hx) Tryz.func64 rfl (by kernel_rfl) (Args.one .t) Za3) r1 r1 (qN rfl rfl qZ))) hB [7,6,5,4,1] [101,0] (fun _=>rfl) (fun _=>rfl) fun τ a w F hS=>?_
 try dsimp only [RS.sub,SF.sub,CF.sub,csub,Anc.sub,List.map,rInt,ZhU] at hS
 generalize τ 25=v25 at hS
 obtain ⟨F,hS⟩:=hS.give 101 7 rfl rfl
 obtain ⟨F,hS⟩:=hS.nm [7,6,5,4,1] [0] rfl rfl
 refine Zb (wp_seq (wp_seq ?_))
 refine Za hS (qM rfl rfl (qu Tryz.underlying39 r1 (qJ qZ))) hB [28,27,26,7,6,5,4] [0] rfl rfl fun a w F hS=>Zb (wp_block ?_)
 replace hS:=hS.fresh 50 rfl
 replace hS:=hS.turn 50 rfl (Zbh (T:=87) (sz:=2) (R:=ZhU))
 refine Zp (σ:=(Nat)×(List Int)×(Value)×(List Zb8)) [4,5,26,27] [0] (fun s=>[(28,.pv (.int .i64 (s.1:Int))),(7,.pv (.sl rInt s.2.1)),(6,.pv (.is s.2.2.1))]) (fun s=>[(50,.ob (.val s.2.2.1) (Zu 87 2 ZhU s.2.2.2))]) (fun s=>s.1≤y.length∧(Zao x 0 y=s.2.2.2++Zao s.2.1 s.1 (y.drop s.1)∧(s.2.1).Perm x∧(s.2.2.2).length≤s.1)) (fun s=>y.length - s.1) ((0),(x),(.slice none 0 0),([])) hS ⟨rfl,rfl,rfl,rfl,rfl,rfl,rfl,trivial⟩ ⟨rfl,rfl,trivial⟩ ⟨Nat.zero_le _,⟨rfl,.refl _,Nat.zero_le _⟩⟩ ?_
 clear hS;intro s a w F hC hS
 obtain ⟨i,now,v,out⟩:=s
 try dsimp only at hC
 obtain ⟨F,hS⟩:=hS.nm [28,27,26,7,6,5,4] [50,0] rfl rfl
 try dsimp only at hS
 obtain ⟨hi,hq⟩:=hC
 obtain ⟨hst,hpm,hol⟩:=hq
 have hnl:now.length=x.length:=hpm.length_eq
 have hdn:=@Zb2 _ _ y i
 refine wp_seq ?_
 refine Za hS (qL r2) hB [29,28,27,26,7,6,5,4] [50,0] rfl rfl fun a w F hS=>Zb (wp_seq ?_)
 refine Zd hS rfl (fun hc1=>?_) (fun hc1=>?_)
 ·skip
  have hil:i<y.length:=by simp at hc1;omega
  refine wp_skip (Zb (wp_seq (wp_block (wp_seq ?_))))
  refine Za hS (qM rfl rfl (qy 1 Tryz.underlying39 r2 (qf (oR false 1 .t) r1 qz (qN rfl rfl (qN rfl rfl qZ))))) hB [28,27,26,9,8,7,6,5,4] [50,0] rfl rfl fun a w F hS=>?_
  try simp only [Int.toNat_natCast] at hS
  refine Zb (wp_seq (wp_seq ?_))
  refine Za hS (qM rfl rfl (qM rfl rfl (qy 1 Tryz.underlying39 r2 (qf (oR false 1 .t) r1 qz (qM rfl rfl (qf (o_eql .t .t) r2 qz qZ)))))) hB [38,28,27,26,9,8,7,6,5,4] [50,0] rfl rfl fun a w F hS=>?_
  try simp only [Int.toNat_natCast] at hS
  refine Zb ?_
  refine Zd hS rfl (fun hc2=>?_) (fun hc2=>?_)
  ·skip
   have hne:Go.Gm.nth now i=Go.Gm.nth y i:=by simpa using hc2
   have hst2:=Zgy (to:=y.drop (i+1)) hne
   rw [← Zb2 hil] at hst2
   have hpm2:=hpm
   obtain ⟨now2,hn2⟩:∃ z,z=now:=⟨_,rfl⟩
   rw [← hn2] at hS hst hst2 hpm2
   refine wp_exit (Zi (Zl (Zb ?_)))
   refine Za hS (qp r1 (qM rfl rfl qZ)) hB [28,27,26,7,6,5,4] [50,0] rfl rfl fun a w F hS=>Zb ?_
   replace hS:=hS.ent (i:=28) (s':=.pv (.int .i64 ((i+1:Nat):Int))) rfl (.int (wrap_succ (by omega)))
   obtain ⟨F,hS⟩:=hS.nm [27,26,5,4,6,7,28] [0,50] rfl rfl
   exact ⟨((i+1),(now2),_,_),F,⟨by omega,⟨by first | (rw [hst,hst2];done) | (rw [hst,hst2];simp),hpm2,by first | omega | (simp only [List.length_append,List.length_cons,List.length_nil];omega)⟩⟩,hS,by omega⟩
  have hne:¬ Go.Gm.nth now i=Go.Gm.nth y i:=by simpa using hc2
  have hst2:=Zjy (to:=y.drop (i+1)) hne
  rw [← Zb2 hil] at hst2
  have hpm2:=(ZcY (place:=(i:Int)) (hpm.mem_iff.2 (hok.2.2.mem_iff.2 (ZB hil))) (by omega)).trans hpm
  obtain ⟨now2,hn2⟩:∃ z,z=(Zaf now (Go.Gm.nth y i) i).1:=⟨_,rfl⟩
  rw [← hn2] at hst2 hpm2
  refine wp_skip (Zb (wp_seq ?_))
  refine Za hS (qM rfl rfl (qM rfl rfl (qM rfl rfl (qf (oP (Zob now (Go.Gm.nth y i) i (by omega)) Tryz.func81 (Args.three .t .t .t)) r3 qz (qM rfl rfl (qf (o_extract .t rfl) r1 qz (qf (o_extract .t rfl) r1 qz (qN rfl rfl qZ)))))))) hB [28,27,26,9,8,7,6,5,4] [50,0] rfl rfl fun a w F hS=>?_
  rw [← hn2] at hS
  refine Zb ?_
  refine Zc hS (qM rfl rfl (qM rfl rfl (qM rfl rfl (qf (oB [(0,.tmp 47),(1,.tmp 48)] [.int .i64 0,.int .i64 0] [(0,1),(1,1)] (.one rfl .t one_int (by kernel_rfl) (.one rfl .t one_int (by kernel_rfl) .nil))) r2 qz (qf (Zk (sz:=2) (zs:=[.int .i64 0,.int .i64 0]) (r:=[(0,.tmp 49)]) (l:=[_,_]) Tryz.underlying83 (by kernel_rfl) (by kernel_rfl) (by kernel_rfl) (by kernel_rfl) rfl rfl (.agg rfl .t (by kernel_rfl) (by kernel_rfl) .nil) rfl) r1 qz (qf (o_append (sz:=2) (bs:=16) 50 (.mk' Tryz.underlying83 (by kernel_rfl) (by kernel_rfl)) (by intro x;rfl) .is (.arr (l':=[(⟨Go.Gm.nth y i,i⟩:Zb8)]) .t) (by simp only [List.length_append,List.length_cons,List.length_nil];omega) (by decide)) ⟨rfl,rfl,trivial⟩ ⟨rfl,trivial⟩ (qN rfl rfl qZ))))))) hB [28,27,26,7,6,5,4] [50,0] (fun _=>rfl) (fun _=>rfl) fun τ a w F hS=>?_
  try dsimp only [RS.sub,SF.sub,CF.sub,csub,Anc.sub,List.map,Zg,xL,xM,Nat.reduceAdd,xD,xE,xT,xU,xC,xN,zCF,rInt,ZhU] at hS
  generalize τ 51=v51 at hS
  refine Zh (Zb ?_)
  refine Za hS (qp r1 (qM rfl rfl qZ)) hB [28,27,26,7,6,5,4] [50,0] rfl rfl fun a w F hS=>Zb ?_
  replace hS:=hS.ent (i:=28) (s':=.pv (.int .i64 ((i+1:Nat):Int))) rfl (.int (wrap_succ (by omega)))
  obtain ⟨F,hS⟩:=hS.nm [27,26,5,4,6,7,28] [0,50] rfl rfl
  exact ⟨((i+1),(now2),_,_),F,⟨by omega,⟨by first | (rw [hst,hst2];done) | (rw [hst,hst2];simp),hpm2,by first | omega | (simp only [List.length_append,List.length_cons,List.length_nil];omega)⟩⟩,hS,by omega⟩
 have hil:i=y.length:=by simp at hc1;omega
 rw [hil,List.drop_length,Zao,List.append_nil] at hst
 have hm:ZaD x y=(out,0):=by unfold ZaD;rw [if_pos hok,hst]
 refine wp_exit (Zi (Zi (Zl (Zb (wp_seq ?_)))))
 refine Za hS (qM rfl rfl (qN rfl rfl (qI qZ))) hB [5,4] [50,0] rfl rfl fun a w F hS=>Zb (wp_ret ?_)
 obtain ⟨F,hS⟩:=hS.give 50 4 rfl rfl
 refine Zr hfr hS rfl (.tmp rfl (.tmp rfl .nil)) (.two (.sl (by rw [hm])) (.int (by rw [hm])))
theorem ZaO.nth {l:List Int} (h:ZaO l) {i:Nat} (hi:i<l.length):Go.Gm.nth l i≠0:=by
 have:=(h.1 _ (ZB hi)).1
 omega
theorem ZeC:∀ (s:List Zb8) (l:List Int) (p:Zb8),ZaX l (s ++ [p])=(Zaf (ZaX l s) p.key p.val).1
 | [],l,p=>rfl
 | q :: s,l,p=>ZeC s _ p
theorem Zdr:∀ (to now:List Int) (i:Int),∀ p ∈ Zao now i to,p.key ∈ to∧i≤p.val∧p.val<i+to.length
 | [],now,i,p,h=>by cases h
 | x :: to,now,i,p,h=>by
   have key:∀ now',p ∈ Zao now' (i+1) to→p.key ∈ x :: to∧i≤p.val∧p.val<i+(x :: to).length:=fun now' h=>by
     obtain ⟨h1,h2,h3⟩:=Zdr to now' (i+1) p h
     refine ⟨List.mem_cons_of_mem _ h1,by omega,?_⟩
     rw [List.length_cons];omega
   unfold Zao at h
   split at h
   · exact key _ h
   · rcases List.mem_cons.1 h with rfl | h
     · refine ⟨List.mem_cons_self,Int.le_refl _,?_⟩
       rw [List.length_cons]
       show i<_
       omega
     · exact key _ h
theorem ZcF:∀ (s:List Zb8) (l:List Int),(∀ p ∈ s,p.key ∈ l∧0≤p.val∧p.val<l.length)→(ZaX l s).Perm l
 | [],l,_=>.refl _
 | p :: s,l,h=>by
   obtain ⟨h1,h2,h3⟩:=h p (by simp)
   have hp:=ZcY h1 ⟨h2,h3⟩
   refine (ZcF s _ fun q hq=>?_).trans hp
   obtain ⟨k1,k2,k3⟩:=h q (by simp [hq])
   exact ⟨hp.mem_iff.2 k1,k2,by rw [hp.length_eq];exact k3⟩
theorem Zf0:∀ (to now:List Int) (i:Nat),now.drop i=to→Zao now i to = []
 | [],now,i,_=>rfl
 | x :: to,now,i,h=>by
   have hi:i<now.length:=by
     rcases Nat.lt_or_ge i now.length with h1 | h1
     · exact h1
     · rw [List.drop_eq_nil_of_le h1] at h;cases h
   rw [Zb2 hi] at h
   injection h with h1 h2
   rw [Zgy h1]
   exact Zf0 to now (i+1) h2
structure Zm8 (x y:List Int) (s:List Zb8):Prop where
 keys:(s.map Zb8.key).Nodup
 done:ZaX x s=y
 each:∀ i,i<s.length→Zaf (ZaX x (s.take i)) (Go.Gm.nth s i).key (Go.Gm.nth s i).val=(ZaX x (s.take (i+1)),0)
 none:(s.length:Int)=0 ↔ x=y
 len:∀ i,(ZaX x (s.take i)).length=x.length
 short:s.length≤y.length
theorem steps_facts {x y:List Int} {s:List Zb8} (h:Zca x y) (hs:s=Zao x 0 y):Zm8 x y s:=by
 have hv:∀ p ∈ s,p.key ∈ x∧0≤p.val∧p.val<x.length:=fun p hp=>by
   rw [hs] at hp
   obtain ⟨h1,h2,h3⟩:=Zdr y x 0 p hp
   exact ⟨h.2.2.mem_iff.2 h1,h2,by rw [h.2.2.length_eq];omega⟩
 have hvt:∀ i,∀ p ∈ s.take i,p.key ∈ x∧0≤p.val∧p.val<x.length:=fun i p hp=>hv p (List.mem_of_mem_take hp)
 have hd:ZaX x s=y:=by
   have:=Zdq y x [] h.2.2 rfl h.1.2
   rw [hs];exact this
 obtain ⟨ks,k1,k2⟩:=Zdm y x 0
 refine ⟨by rw [hs,k2];exact h.2.1.2.sublist k1,hd,fun i hi=>?_,⟨fun h0=>?_,fun e=>?_⟩,fun i=>(ZcF _ _ (hvt i)).length_eq,?_⟩
 · obtain ⟨h1,h2,h3⟩:=hv _ (ZB hi)
   have hp:=ZcF _ _ (hvt i)
   rw [ZF hi,ZeC,Zhq (hp.mem_iff.2 h1) ⟨h2,by rw [hp.length_eq];exact h3⟩]
 · have:s = []:=List.eq_nil_of_length_eq_zero (by omega)
   rw [this] at hd;exact hd
 · subst e
   rw [hs,show Zao x 0 x = [] from Zf0 x x 0 rfl];rfl
 · have:=k1.length_le
   rw [← k2,List.length_map] at this
   rw [hs];exact this
def Z6 (t:TxD):Bool:=t.ops.any fun o=>o.read
theorem Zfq (t:TxD):(!decide (t=bareT t))=Z6 t:=by
 unfold Z6
 rw [Bool.eq_iff_iff]
 simp only [Bool.not_eq_true',decide_eq_false_iff_not,List.any_eq_true]
 constructor
 · intro h
   refine Classical.byContradiction fun h2=>h ?_
   obtain ⟨a,b,c⟩:=t
   unfold bareT
   congr 1
   symm
   rw [List.filter_eq_self]
   intro o ho
   cases hr:o.read with
   | false=>rfl
   | true=>exact absurd ⟨o,ho,hr⟩ h2
 · rintro ⟨o,ho,hr⟩ e
   have:o ∈ (bareT t).ops:=by rw [← e];exact ho
   unfold bareT at this
   have:=(List.mem_filter.1 this).2
   rw [hr] at this;cases this
def Zc6 (t:TxD):CmdD:={zeroC 1 with tx:=bareT t}
def ZcM (t:TxD):CmdD:={zeroC 2 with tx:=t}
def Zh8 (k:Int) (p:Zb8):CmdD:={zeroC 5 with key:=k,id:=p.key,place:=p.val}
def ZbR (o:OrdD):List CmdD:=(ZaD (o.txs.mergeSort leI) o.txs).1.map (Zh8 o.key)
def Zv (g:HistD):List CmdD:=if Zx g then (g.txs.map Zc6++(g.txs.filter Z6).map ZcM)++g.orders.flatMap ZbR else []
def ZJ (g:HistD) (c:CmdD):HistD×Int:=if c.kind=1 then Zam g c.tx else if c.kind=2 then Za4 g c.tx else if c.kind=3 then Zad g c.id else if c.kind=4 then ZcZ g c.order else if c.kind=5 then Zmp g c.key c.id c.place else (zeroH,11)
def playC:HistD→List CmdD→Nat→HistD×Nat×Int
 | g,[],i=>(g,i,0)
 | g,c :: l,i=>if (ZJ g c).2≠0 then (zeroH,i,(ZJ g c).2) else playC (ZJ g c).1 l (i+1)
theorem Znz {g0 g:HistD} {l:List CmdD} {i:Nat} (h:playC g0 l 0=playC g (l.drop i) i) (hi:i=l.length):playC g0 l 0=(g,l.length,0):=by
 rw [h,hi,List.drop_length];rfl
theorem Zm4 {g0 g:HistD} {l:List CmdD} {i:Nat} (h:playC g0 l 0=playC g (l.drop i) i) (hi:i<l.length) (h2:(ZJ g (Go.Gm.nth l i)).2≠0):playC g0 l 0=(zeroH,i,(ZJ g (Go.Gm.nth l i)).2):=by
 rw [h,Zb2 hi,playC,if_pos h2]
theorem Zmm {g0 g:HistD} {l:List CmdD} {i:Nat} (h:playC g0 l 0=playC g (l.drop i) i) (hi:i<l.length) (h2:¬ (ZJ g (Go.Gm.nth l i)).2≠0):playC g0 l 0=playC (ZJ g (Go.Gm.nth l i)).1 (l.drop (i+1)) (i+1):=by
 rw [h,Zb2 hi,playC,if_neg h2]
def ZaK (c:CmdD):Prop:=c.tx.ops.length≤24∧c.order.txs.length≤24
instance (c:CmdD):Decidable (ZaK c):=by unfold ZaK;exact inferInstance
def Zlc (l:List CmdD):Prop:=l.length≤40 ∧ ∀ c ∈ l,ZaK c
instance (l:List CmdD):Decidable (Zlc l):=by unfold Zlc;exact inferInstance
theorem LightC.at {l:List CmdD} (h:Zlc l) {i:Nat} (hi:i<l.length):ZaK (Go.Gm.nth l i):=h.2 _ (ZB hi)
def toE (c:CmdD):EdD:=if c.kind=1 then ⟨0,c.tx,⟨0,[]⟩,0⟩ else if c.kind=2 then ⟨2,c.tx,⟨0,[]⟩,0⟩ else if c.kind=3 then ⟨1,⟨c.id,false,[]⟩,⟨0,[]⟩,0⟩ else if c.kind=4 then ⟨3,zeroT,c.order,0⟩ else ⟨4,⟨c.id,false,[]⟩,⟨c.key,[]⟩,c.place⟩
theorem Zno {g:HistD} {c:CmdD} (h:(ZJ g c).2=0):ZJ g c=doH g (toE c):=by
 unfold ZJ at h ⊢
 unfold toE
 by_cases k1:c.kind=1
 · simp only [if_pos k1];rfl
 · by_cases k2:c.kind=2
   · simp only [if_neg k1,if_pos k2];rfl
   · by_cases k3:c.kind=3
     · simp only [if_neg k1,if_neg k2,if_pos k3];rfl
     · by_cases k4:c.kind=4
       · simp only [if_neg k1,if_neg k2,if_neg k3,if_pos k4];rfl
       · by_cases k5:c.kind=5
         · simp only [if_neg k1,if_neg k2,if_neg k3,if_neg k4,if_pos k5];rfl
         · simp only [if_neg k1,if_neg k2,if_neg k3,if_neg k4,if_neg k5] at h;exact absurd h (by decide)
theorem Zjd {c:CmdD} (h:ZaK c):Zeu (toE c):=by
 unfold toE Zeu
 obtain ⟨h1,h2⟩:=h
 split
 · exact ⟨h1,Nat.zero_le _⟩
 · split
   · exact ⟨h1,Nat.zero_le _⟩
   · split
     · exact ⟨Nat.zero_le _,Nat.zero_le _⟩
     · split
       · exact ⟨Nat.zero_le _,h2⟩
       · exact ⟨Nat.zero_le _,Nat.zero_le _⟩
def ZaB (n:Nat) (g:HistD):Prop:=Zx g∧g.txs.length≤n ∧ ∀ t ∈ g.txs,t.ops.length≤24
theorem Zpd:∀ l:List TxD,(∀ t ∈ l,t.ops.length≤24)→(ZbK l).length≤24*l.length:=fun l h=>by
 unfold ZbK
 refine Nat.le_trans (Zfs _) ?_
 induction l with
 | nil=>simp
 | cons t l ih=>
   have h1:=ih fun x hx=>h x (by simp [hx])
   have h2:=h t (by simp)
   have h3:=Zcz t
   by_cases hd:t.done=true
   · rw [List.filter_cons_of_pos (by simpa using hd),List.flatMap_cons,List.length_append,List.length_cons]
     omega
   · rw [List.filter_cons_of_neg (by simpa using hd),List.length_cons]
     omega
theorem ZaB.fit {n:Nat} {g:HistD} (h:ZaB n g):Fit n g:=by
 obtain ⟨hr,h1,h2⟩:=h
 refine ⟨⟨h1,h2⟩,?_,fun o ho=>?_⟩
 · have:=Zpd g.txs h2
   rw [hr.2.2.1]
   exact Nat.le_trans this (Nat.mul_le_mul_left _ h1)
 · obtain ⟨i,hi,e⟩:=List.getElem_of_mem ho
   have:=(hr.2.2.2 i hi).2.length_eq
   rw [Zn hi,e] at this
   rw [this]
   exact Nat.le_trans (ZbJ _ _) h1
theorem Fit.small40 {n:Nat} {g:HistD} (h:Fit n g) (hn:n≤41):Za0 g:=by
 obtain ⟨⟨h1,h2⟩,h3,h4⟩:=h
 exact ⟨⟨by omega,fun t ht=>by have:=h2 t ht;omega⟩,by omega,fun o ho=>by have:=h4 o ho;omega⟩
theorem ZaB.edit {n:Nat} {g:HistD} {c:CmdD} (h:ZaB n g) (hn:n≤41) (hc:ZaK c) (h0:¬ (ZJ g c).2≠0):ZaB (n+1) (ZJ g c).1:=by
 have h0:=Decidable.not_not.1 h0
 have e:=Zno h0
 rw [e] at h0 ⊢
 have hf:=h.fit.doH (Zjd hc)
 exact ⟨ZkB (h.fit.small40 hn) h0,hf.1.1,hf.1.2⟩
theorem ZaB.zero:ZaB 0 zeroH:=⟨ZgN,Nat.le_refl _,fun t ht=>by cases ht⟩
theorem Zie {l:List Int} (h:l.Nodup):Zdh l=l.mergeSort leI:=by
 have hp:=List.mergeSort_perm l leI
 have hs:List.Pairwise (fun x y=>x≤y) (l.mergeSort leI):=by
   have:=List.pairwise_mergeSort (le:=leI) (fun a b c h1 h2=>by simp [leI] at *;omega) (fun a b=>by simp [leI];omega) l
   exact this.imp fun h=>by simpa [leI] using h
 have hi:ZdR (l.mergeSort leI):=by
   have hn:(l.mergeSort leI).Nodup:=hp.nodup_iff.2 h
   exact (hs.and hn).imp fun h=>by have:=h.1;have:=h.2;omega
 have hk:=Zal l
 have h1:=ZfK hk.1 hi fun x hx=>hp.mem_iff.2 ((hk.2 x).1 hx)
 have h2:=ZfK hi hk.1 fun x hx=>(hk.2 x).2 (hp.mem_iff.1 hx)
 exact h1.2 (Nat.le_antisymm h1.1 h2.1)
theorem Zgc (x y:List Int):(ZaD x y).1.length≤y.length:=by
 unfold ZaD
 split
 · rename_i h;exact (steps_facts h rfl).short
 · simp
theorem Ziy (o:OrdD):(ZbR o).length≤o.txs.length:=by
 unfold ZbR;rw [List.length_map];exact Zgc _ _
theorem ZgC {os:List OrdD} (h:Zda os) (i:Nat):((os.take i).flatMap ZbR).length≤1000*i:=by
 induction i with
 | zero=>simp
 | succ i ih=>
   by_cases hi:i<os.length
   · rw [ZF hi,List.flatMap_append,List.length_append]
     have h1:=Ziy (Go.Gm.nth os i)
     have h2:=h.at hi
     simp only [List.flatMap_cons,List.flatMap_nil,List.append_nil]
     omega
   · rw [List.take_of_length_le (by omega)]
     rw [List.take_of_length_le (by omega)] at ih
     omega
theorem Zex {g:HistD} (h:Za0 g):(Zv g).length≤4002000:=by
 unfold Zv
 split
 · rw [List.length_append,List.length_append,List.length_map,List.length_map]
   have h1:=h.1.1
   have h2:=h.2.1
   have h3:=ZgC h.2 g.orders.length
   rw [List.take_length] at h3
   have h4:=List.length_filter_le Z6 g.txs
   omega
 · simp
theorem Zgu {g:HistD} {c:CmdD} (h:c ∈ Zv g):c.order.txs = []:=by
 unfold Zv at h
 split at h
 · rcases List.mem_append.1 h with h | h
   · rcases List.mem_append.1 h with h | h
     · obtain ⟨t,_,rfl⟩:=List.mem_map.1 h;rfl
     · obtain ⟨t,_,rfl⟩:=List.mem_map.1 h;rfl
   · obtain ⟨o,_,h⟩:=List.mem_flatMap.1 h
     unfold ZbR at h
     obtain ⟨p,_,rfl⟩:=List.mem_map.1 h;rfl
 · cases h
theorem Zcj {g:HistD} (h:Zx g):Zv g=(g.txs.map Zc6++(g.txs.filter Z6).map ZcM)++g.orders.flatMap ZbR:=if_pos h
theorem Zgh {g:HistD} (h:¬ Zx g):Zv g = []:=if_neg h
theorem Zii {α:Type} [Inhabited α] {β:Type} {f:α→Bool} {m:α→β} {l:List α} {i:Nat} (h:i<l.length) (b:Bool) (hb:f (Go.Gm.nth l i)=b):((l.take (i+1)).filter f).map m=((l.take i).filter f).map m++if b=true then [m (Go.Gm.nth l i)] else []:=by
 rw [ZF h,List.filter_append,List.map_append]
 subst hb
 by_cases e:f (Go.Gm.nth l i)=true
 · rw [if_pos e,List.filter_cons_of_pos e];rfl
 · rw [if_neg e,List.filter_cons_of_neg e];rfl
theorem Zfe {α β:Type} [Inhabited α] {m:α→β} {l:List α} {i:Nat} (h:i<l.length):(l.take (i+1)).map m=(l.take i).map m ++ [m (Go.Gm.nth l i)]:=by rw [ZF h,List.map_append];rfl
end Go.Proofs.YtjhapicamnijnaaGreatDoor
