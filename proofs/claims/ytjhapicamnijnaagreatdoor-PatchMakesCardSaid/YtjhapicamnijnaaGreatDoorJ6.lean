/- Texts put together. No condition beyond those that each theorem says. -/
import Derived.Test.YtjhapicamnijnaaGreatDoorJ5
import Derived.Test.YtjhapicamnijnaaGreatDoorJ0
import Derived.Test.YtjhapicamnijnaaGreatDoorJ2
import Derived.Test.YtjhapicamnijnaaGreatDoorJ4
import Derived.Test.YtjhapicamnijnaaGreatDoorJ3
import Derived.Test.YtjhapicamnijnaaGreatDoorLibI
namespace Go.Proofs.YtjhapicamnijnaaGreatDoor
open Go Go.Gm
set_option linter.unusedVariables false
set_option linter.unusedSimpArgs false
set_option maxHeartbeats 4000000
set_option maxRecDepth 8000
theorem Zgx (o:OpD):(Zap o).length≤100:=by
 by_cases hk:ZZ o=true
 · exact ZiA hk
 · unfold Zap;rw [if_pos (by simpa using hk)];simp
theorem ZkL (t:TxD) (ht:t.ops.length≤1000000):FnP Tryz.prog 46 [.agg (rTx t)] (.bs (Zfa t)):=by
 refine FnP.mk Tryz.func46 rfl Tryz.ntmps46 rfl ?_
 intro B a w F hB hfr hS
 have hid:=ZgI (Sat.aggInt hS (i:=0) (k:=0) rfl rfl)
 have htl:=Zaf hid
 have hhl:(Zcc t).length≤23:=by unfold Zcc;rw [List.length_append];split <;> simp only [List.length_cons,List.length_nil] <;> omega
 refine wp_seq ?_
 refine Zc hS (qx 101 r1 (qf (oN (.cs (by kernel_rfl))) trivial qz qZ)) hB [2,1] [101,0] (fun _=>rfl) (fun _=>rfl) fun τ a w F hS=>?_
 try dsimp only [RS.sub,SF.sub,CF.sub,csub,Anc.sub,List.map,zCF] at hS
 generalize τ 1=v1 at hS
 refine Zb (wp_seq ?_)
 refine Zc hS (qf (oH [.pointer none,.slice none 0 0] 102) trivial qz qZ) hB [3,2,1] [102,101,0] (fun _=>rfl) (fun _=>rfl) fun τ a w F hS=>?_
 try dsimp only [RS.sub,SF.sub,CF.sub,csub,Anc.sub,List.map,zCF] at hS
 generalize τ 3=v3 at hS
 obtain ⟨b,rfl⟩:=hS.shape 102 rfl
 replace hS:=hS.fresh 9 rfl
 replace hS:=hS.turn 9 rfl (ZaC (T:=5) (sz:=1) (R:=rC))
 replace hS:=hS.fresh 10 rfl
 obtain ⟨F,hS⟩:=hS.push 10 9 rfl rfl rfl (by kernel_rfl)
 obtain ⟨F,hS⟩:=hS.push 10 102 rfl rfl rfl (by kernel_rfl)
 replace hS:=hS.turn 10 rfl (r':=RS.hp (Z5 (.pointer (some ⟨b,0,none⟩)) [])) (fun _ _ _ _ h=>⟨_,.inl rfl,_,fun _=>rfl,h⟩)
 obtain ⟨F,hS⟩:=hS.nm [3,2,1] [101,10,0] rfl rfl
 refine Zb (wp_seq ?_)
 refine Za hS (qg 0 101 r1 r1 (qa 101 r1 r1 (qf (oP (Zdu t.id) Tryz.func47 (Args.one .t)) r1 qz (qf (o_callG1 10 (Zar b [] (by simp) (textL t.id) (ZbQ _) (by omega)) Tryz.func85 rfl (by kernel_rfl) (Args.two .t .t)) r2 r1 qZ)))) hB [3,2,1] [101,10,0] rfl rfl fun a w F hS=>?_
 replace hS:=hS.turn 10 rfl (r':=RS.hp (Z5 (.pointer (some ⟨b,0,none⟩)) (textL t.id))) (fun _ _ _ _ h=>⟨_,.inr rfl,h⟩)
 refine Zb (wp_seq (wp_seq ?_))
 refine Za hS (qg 1 101 r1 r1 (qa 101 r1 r1 qZ)) hB [11,3,2,1] [101,10,0] rfl rfl fun a w F hS=>Zb ?_
 refine Zd hS rfl (fun hc0=>?_) (fun hc0=>?_)
 ·skip
  have hdn:t.done=true:=hc0
  refine Za hS (qf (o_callG1 10 (Zar b (textL t.id) (by omega) [32,99] (by simp) (by simp)) Tryz.func85 rfl (by kernel_rfl) (Args.two .t (.cs (by kernel_rfl)))) r1 r1 qZ) hB [3,2,1] [101,10,0] rfl rfl fun a w F hS=>?_
  replace hS:=hS.turn 10 rfl (r':=RS.hp (Z5 (.pointer (some ⟨b,0,none⟩)) (Zcc t++Zfe (t.ops.take 0)))) (fun _ _ _ _ h=>⟨_,.inr rfl,by rw [show (Zcc t++Zfe (t.ops.take 0))=textL t.id ++ [32,99] by unfold Zcc Zfe;rw [hdn];simp];exact h⟩)
  refine Zb (wp_seq (wp_seq ?_))
  refine Za hS (qg 2 101 r1 r1 (qa 101 r1 r1 (qu Tryz.underlying36 r1 (qJ qZ)))) hB [17,16,15,3,2] [101,10,0] rfl rfl fun a w F hS=>Zb (wp_block ?_)
  obtain ⟨F,hS⟩:=hS.nm [17,16,15,3] [10,0] rfl rfl
  refine ZG (σ:=Nat) (fun s=>(⟨[(3,.pv (.is (.pointer (some ⟨b,0,none⟩)))),(15,.pv (.sl rOp t.ops)),(16,.pv (.int .i64 (t.ops.length:Nat))),(17,.pv (.int .i64 (s:Nat)))],[(0,frame B),(10,RS.hp (Z5 (.pointer (some ⟨b,0,none⟩)) (Zcc t++Zfe (t.ops.take s))))]⟩:En)) (fun s=>s≤t.ops.length) (fun s=>t.ops.length - s) 0 hS (Nat.zero_le _) ?_
  clear hS;intro i a w F hC hS
  try dsimp only at hC
  try dsimp only at hS
  have hi0:=hC
  have hct:(Zfe (t.ops.take i)).length≤101*i:=Nat.le_trans (Zfo _) (by rw [List.length_take];omega)
  refine wp_seq ?_
  refine Za hS (qL r2) hB [18,17,16,15,3] [10,0] rfl rfl fun a w F hS=>Zb (wp_seq ?_)
  refine Zd hS rfl (fun hc1=>?_) (fun hc1=>?_)
  ·skip
   have hi:i<t.ops.length:=by have h9:=of_decide_eq_true hc1;omega
   have hto:(Zap (nth t.ops i)).length≤100:=Zgx _
   refine wp_skip (Zb (wp_seq (wp_block (wp_seq ?_))))
   refine Zc hS (qy 4 Tryz.underlying36 r2 (qf (oR true 4 .t) r1 qz (qf (oH [.bool false,.int .i64 0,.int .i64 0,.int .i64 0] 103) trivial qz (qS 4 103 r2 r1 qZ)))) hB [17,16,15,5,3] [103,10,0] (fun _=>rfl) (fun _=>rfl) fun τ a w F hS=>?_
   try dsimp only [RS.sub,SF.sub,CF.sub,csub,Anc.sub,List.map,Zf,xL,xM,Nat.reduceAdd,xD,xE,xT,xU,xC,xN,zCF,ldSF] at hS
   generalize τ 5=v5 at hS
   rw [Int.toNat_natCast] at hS
   refine Zb ?_
   refine Za hS (qe 4 103 r1 r1 (qf (oP (Zle (nth t.ops i)) Tryz.func86 (Args.one (.pagg .t))) r1 qz (qf (Za4 (.cs (by kernel_rfl)) .t (by simp only [List.length_cons,List.length_nil];omega)) r1 qz (qf (o_callG1 10 (Zar b (Zcc t++Zfe (t.ops.take i)) (by rw [List.length_append];omega) ([32] ++ (Zap (nth t.ops i))) (by simp) (by simp only [List.length_append,List.length_cons,List.length_nil];omega)) Tryz.func85 rfl (by kernel_rfl) (Args.two .t .t)) r2 r1 qZ)))) hB [17,16,15,3] [10,0] rfl rfl fun a w F hS=>Zh (Zb ?_)
   refine Za hS (qp r1 (qM rfl rfl qZ)) hB [17,16,15,3] [10,0] rfl rfl fun a w F hS=>Zb ?_
   replace hS:=hS.turn 10 rfl (r':=RS.hp (Z5 (.pointer (some ⟨b,0,none⟩)) (Zcc t++Zfe (t.ops.take (i+1))))) (fun _ _ _ _ h=>⟨_,.inr rfl,by rw [Zjv hi,← List.append_assoc];exact h⟩)
   replace hS:=hS.ent (i:=17) (s':=.pv (.int .i64 ((i+1:Nat):Int))) rfl (.int (wrap_succ (by omega)))
   obtain ⟨F,hS⟩:=hS.nm [17,16,15,3] [10,0] rfl rfl
   exact ⟨i+1,F,(by omega),hS,by omega⟩
  have hil:i=t.ops.length:=by have h9:=of_decide_eq_false hc1;omega
  rw [hil,List.take_length] at hS
  refine wp_exit (Zi (Zi (Zo (Zb (wp_seq ?_)))))
  refine Za hS (qf (o_callG1 10 (Zir b (Zcc t++Zfe t.ops)) Tryz.func87 rfl (by kernel_rfl) (Args.one .t)) r1 r1 (qN rfl rfl qZ)) hB [2] [10,0] rfl rfl fun a w F hS=>Zb (wp_ret ?_)
  refine Zq hfr hS rfl rfl rfl (.bs (by unfold Zfa;rfl))
 have hdn:t.done=false:=hc0
 refine Za hS (qf (o_callG1 10 (Zar b (textL t.id) (by omega) [32,97] (by simp) (by simp)) Tryz.func85 rfl (by kernel_rfl) (Args.two .t (.cs (by kernel_rfl)))) r1 r1 qZ) hB [3,2,1] [101,10,0] rfl rfl fun a w F hS=>?_
 replace hS:=hS.turn 10 rfl (r':=RS.hp (Z5 (.pointer (some ⟨b,0,none⟩)) (Zcc t++Zfe (t.ops.take 0)))) (fun _ _ _ _ h=>⟨_,.inr rfl,by rw [show (Zcc t++Zfe (t.ops.take 0))=textL t.id ++ [32,97] by unfold Zcc Zfe;rw [hdn];simp];exact h⟩)
 refine Zb (wp_seq (wp_seq ?_))
 refine Za hS (qg 2 101 r1 r1 (qa 101 r1 r1 (qu Tryz.underlying36 r1 (qJ qZ)))) hB [17,16,15,3,2] [101,10,0] rfl rfl fun a w F hS=>Zb (wp_block ?_)
 obtain ⟨F,hS⟩:=hS.nm [17,16,15,3] [10,0] rfl rfl
 refine ZG (σ:=Nat) (fun s=>(⟨[(3,.pv (.is (.pointer (some ⟨b,0,none⟩)))),(15,.pv (.sl rOp t.ops)),(16,.pv (.int .i64 (t.ops.length:Nat))),(17,.pv (.int .i64 (s:Nat)))],[(0,frame B),(10,RS.hp (Z5 (.pointer (some ⟨b,0,none⟩)) (Zcc t++Zfe (t.ops.take s))))]⟩:En)) (fun s=>s≤t.ops.length) (fun s=>t.ops.length - s) 0 hS (Nat.zero_le _) ?_
 clear hS;intro i a w F hC hS
 try dsimp only at hC
 try dsimp only at hS
 have hi0:=hC
 have hct:(Zfe (t.ops.take i)).length≤101*i:=Nat.le_trans (Zfo _) (by rw [List.length_take];omega)
 refine wp_seq ?_
 refine Za hS (qL r2) hB [18,17,16,15,3] [10,0] rfl rfl fun a w F hS=>Zb (wp_seq ?_)
 refine Zd hS rfl (fun hc2=>?_) (fun hc2=>?_)
 ·skip
  have hi:i<t.ops.length:=by have h9:=of_decide_eq_true hc2;omega
  have hto:(Zap (nth t.ops i)).length≤100:=Zgx _
  refine wp_skip (Zb (wp_seq (wp_block (wp_seq ?_))))
  refine Zc hS (qy 4 Tryz.underlying36 r2 (qf (oR true 4 .t) r1 qz (qf (oH [.bool false,.int .i64 0,.int .i64 0,.int .i64 0] 104) trivial qz (qS 4 104 r2 r1 qZ)))) hB [17,16,15,5,3] [104,10,0] (fun _=>rfl) (fun _=>rfl) fun τ a w F hS=>?_
  try dsimp only [RS.sub,SF.sub,CF.sub,csub,Anc.sub,List.map,Zf,xL,xM,Nat.reduceAdd,xD,xE,xT,xU,xC,xN,zCF,ldSF] at hS
  generalize τ 5=v5 at hS
  rw [Int.toNat_natCast] at hS
  refine Zb ?_
  refine Za hS (qe 4 104 r1 r1 (qf (oP (Zle (nth t.ops i)) Tryz.func86 (Args.one (.pagg .t))) r1 qz (qf (Za4 (.cs (by kernel_rfl)) .t (by simp only [List.length_cons,List.length_nil];omega)) r1 qz (qf (o_callG1 10 (Zar b (Zcc t++Zfe (t.ops.take i)) (by rw [List.length_append];omega) ([32] ++ (Zap (nth t.ops i))) (by simp) (by simp only [List.length_append,List.length_cons,List.length_nil];omega)) Tryz.func85 rfl (by kernel_rfl) (Args.two .t .t)) r2 r1 qZ)))) hB [17,16,15,3] [10,0] rfl rfl fun a w F hS=>Zh (Zb ?_)
  refine Za hS (qp r1 (qM rfl rfl qZ)) hB [17,16,15,3] [10,0] rfl rfl fun a w F hS=>Zb ?_
  replace hS:=hS.turn 10 rfl (r':=RS.hp (Z5 (.pointer (some ⟨b,0,none⟩)) (Zcc t++Zfe (t.ops.take (i+1))))) (fun _ _ _ _ h=>⟨_,.inr rfl,by rw [Zjv hi,← List.append_assoc];exact h⟩)
  replace hS:=hS.ent (i:=17) (s':=.pv (.int .i64 ((i+1:Nat):Int))) rfl (.int (wrap_succ (by omega)))
  obtain ⟨F,hS⟩:=hS.nm [17,16,15,3] [10,0] rfl rfl
  exact ⟨i+1,F,(by omega),hS,by omega⟩
 have hil:i=t.ops.length:=by have h9:=of_decide_eq_false hc2;omega
 rw [hil,List.take_length] at hS
 refine wp_exit (Zi (Zi (Zo (Zb (wp_seq ?_)))))
 refine Za hS (qf (o_callG1 10 (Zir b (Zcc t++Zfe t.ops)) Tryz.func87 rfl (by kernel_rfl) (Args.one .t)) r1 r1 (qN rfl rfl qZ)) hB [2] [10,0] rfl rfl fun a w F hS=>Zb (wp_ret ?_)
 refine Zq hfr hS rfl rfl rfl (.bs (by unfold Zfa;rfl))
theorem Zo2 (x y:List Int):FnP Tryz.prog 66 [.sl rInt x,.sl rInt y] (.bool (decide (x=y))):=by
 refine FnP.mk Tryz.func66 rfl Tryz.ntmps66 rfl ?_
 intro B a w F hB hfr hS
 have hxl:=Sat.lenSl hS (i:=0) rfl
 refine wp_seq ?_
 refine Za hS qB hB [4,1,0] [0] rfl rfl fun a w F hS=>Zb (wp_seq (wp_seq ?_))
 refine Za hS (qM rfl rfl (qu Tryz.underlying39 r1 (qM rfl rfl (qu Tryz.underlying39 r1 (qf (o_neq .t .t) r2 qz qZ))))) hB [10,4,1,0] [0] rfl rfl fun a w F hS=>Zb ?_
 refine Zd hS rfl (fun hc0=>?_) (fun hc0=>?_)
 ·skip
  have hg:false=decide (x=y):=by
    rw [eq_comm,decide_eq_false_iff_not]
    intro h
    subst h
    simp at hc0
  refine wp_seq ?_
  refine Za hS qB hB [4,1,0] [0] rfl rfl fun a w F hS=>Zb (wp_ret (Ze ?_))
  refine Zq hfr hS rfl rfl rfl (.bool hg)
 have hl:x.length=y.length:=by simp at hc0;omega
 refine wp_skip (Zb (wp_seq (wp_seq ?_)))
 refine Za hS (qM rfl rfl (qu Tryz.underlying39 r1 (qJ qZ))) hB [13,12,4,1,0] [0] rfl rfl fun a w F hS=>Zb (wp_block ?_)
 obtain ⟨F,hS⟩:=hS.nm [13,12,1,0] [0] rfl rfl
 refine ZG (σ:=Nat) (fun s=>(⟨[(0,.pv (.sl rInt x)),(1,.pv (.sl rInt y)),(12,.pv (.int .i64 x.length)),(13,.pv (.int .i64 s))],[(0,frame B)]⟩:En)) (fun s=>s≤x.length ∧ ∀ j,j<s→Go.Gm.nth x j=Go.Gm.nth y j) (fun s=>x.length - s) 0 hS ⟨Nat.zero_le _,fun j hj=>absurd hj (Nat.not_lt_zero j)⟩ ?_
 clear hS;intro i a w F hC hS
 try dsimp only at hC
 try dsimp only at hS
 obtain ⟨hi,hq⟩:=hC
 refine wp_seq ?_
 refine Za hS (qL r2) hB [14,13,12,1,0] [0] rfl rfl fun a w F hS=>Zb (wp_seq ?_)
 refine Zd hS rfl (fun hc1=>?_) (fun hc1=>?_)
 ·skip
  have hil:i<x.length:=by simp at hc1;omega
  refine wp_skip (Zb (wp_seq (wp_block (wp_seq ?_))))
  refine Za hS (qM rfl rfl (qN rfl rfl qZ)) hB [13,12,5,1,0] [0] rfl rfl fun a w F hS=>Zb (wp_seq ?_)
  refine Zz hS (qM rfl rfl (qM rfl rfl (qy 1 Tryz.underlying39 r2 (qf (oR false 1 .t) r1 qz (qM rfl rfl (qM rfl rfl (qy 1 Tryz.underlying39 r2 (qf (oR false 1 .t) r1 qz (qf (o_neq .t .t) r2 qz qZ))))))))) hB [24,13,12,1,0] [0] rfl rfl fun a w F hS=>?_
  try dsimp only [List.map,xD,xE,xT,xU,ldSF] at hS
  refine Zb ?_
  refine Zd hS rfl (fun hc2=>?_) (fun hc2=>?_)
  ·skip
   have hg:false=decide (x=y):=by
     rw [eq_comm,decide_eq_false_iff_not]
     intro h
     subst h
     simp at hc2
   refine wp_seq ?_
   refine Za hS qB hB [13,12,4,1,0] [0] rfl rfl fun a w F hS=>Zb (wp_ret (Zg (Ze (Ze (Zg (Ze ?_))))))
   refine Zq hfr hS rfl rfl rfl (.bool hg)
  rw [Int.toNat_natCast] at hc2
  have hqi:Go.Gm.nth x i=Go.Gm.nth y i:=by simpa using hc2
  refine wp_skip (Zh (Zb ?_))
  refine Za hS (qp r1 (qM rfl rfl qZ)) hB [13,12,1,0] [0] rfl rfl fun a w F hS=>Zb ?_
  replace hS:=hS.ent (i:=13) (s':=.pv (.int .i64 ((i+1:Nat):Int))) rfl (.int (wrap_succ (by omega)))
  obtain ⟨F,hS⟩:=hS.nm [13,12,1,0] [0] rfl rfl
  exact ⟨i+1,F,⟨by omega,fun j hj=>by rcases Nat.lt_or_eq_of_le (Nat.le_of_lt_succ hj) with h | h;exact hq j h;rw [h];exact hqi⟩,hS,by omega⟩
 have hg:true=decide (x=y):=by
   rw [eq_comm,decide_eq_true_eq]
   exact Za0 hl fun j hj=>hq j (by simp at hc1;omega)
 refine wp_exit (Zi (Zi (Zo (Zb (wp_seq ?_)))))
 refine Za hS qB hB [4] [0] rfl rfl fun a w F hS=>Zb (wp_ret ?_)
 refine Zq hfr hS rfl rfl rfl (.bool hg)
theorem ZnN (x y:List Int):FnP Tryz.prog 35 [.sl rInt x,.sl rInt y] (.bool (decide (x=y))):=by
 refine FnP.mk Tryz.func35 rfl Tryz.ntmps35 rfl ?_
 intro B a w F hB hfr hS
 refine wp_seq ?_
 refine Za hS qB hB [4,1,0] [0] rfl rfl fun a w F hS=>Zb (wp_seq ?_)
 refine Za hS (qM rfl rfl (qM rfl rfl (qf (oP (Zo2 x y) Tryz.func66 (Args.two .t .t)) r2 qz (qN rfl rfl qZ)))) hB [4] [0] rfl rfl fun a w F hS=>Zb (wp_ret ?_)
 refine Zq hfr hS rfl rfl rfl .refl
theorem Zq8 (u v:TxD):((decide (u.id=v.id) && (u.done == v.done)) && decide (u.ops=v.ops))=decide (u=v):=by
 cases u;cases v
 rw [Bool.eq_iff_iff]
 simp [and_assoc]
theorem Zh8 (u v:TxD):FnP Tryz.prog 32 [.agg (rTx u),.agg (rTx v)] (.bool (decide (u=v))):=by
 refine FnP.mk Tryz.func32 rfl Tryz.ntmps32 rfl ?_
 intro B a w F hB hfr hS
 refine wp_seq ?_
 refine Zc hS (qx 101 r1 (qx 102 r1 qB)) hB [4,3,2] [102,101,0] (fun _=>rfl) (fun _=>rfl) fun τ a w F hS=>?_
 try dsimp only [RS.sub,SF.sub,CF.sub,csub,Anc.sub,List.map,zCF] at hS
 generalize τ 2=v2 at hS
 generalize τ 3=v3 at hS
 refine Zb (wp_seq ?_)
 refine Za hS (qg 0 101 r1 r1 (qa 101 r1 r1 (qg 0 102 r1 r1 (qa 102 r1 r1 (qf (o_eql .t .t) r2 qz (qM rfl rfl (qv 1 101 rfl r2 r1 (qw 101 rfl r2 r1 (qv 1 102 rfl r2 r1 (qw 102 rfl r2 r1 (qk rfl (fun h=>ZiJ Tryz.underlying4 (.w h) (.w h)) r3 qz (qf (ZK .t .t) r2 qz (qM rfl rfl (qv 2 101 rfl r2 r1 (qw 101 rfl r2 r1 (qv 2 102 rfl r2 r1 (qw 102 rfl r2 r1 (qk rfl (fun h=>oP (Zqk u.ops v.ops) Tryz.func73 (Args.two (.w h) (.w h))) r3 qz (qf (ZK .t .t) r2 qz (qN rfl rfl qZ)))))))))))))))))))) hB [4] [102,101,0] rfl rfl fun a w F hS=>Zb (wp_ret ?_)
 refine Zq hfr hS rfl rfl rfl (.bool (Zq8 u v))
theorem Zjx (u v:CmdD):FnP Tryz.prog 13 [.agg (rCmd u),.agg (rCmd v)] (.bool (decide (u=v))):=by
 refine FnP.mk Tryz.func13 rfl Tryz.ntmps13 rfl ?_
 intro B a w F hB hfr hS
 refine wp_seq ?_
 refine Zc hS (qx 101 r1 (qx 102 r1 qB)) hB [4,3,2] [102,101,0] (fun _=>rfl) (fun _=>rfl) fun τ a w F hS=>?_
 try dsimp only [RS.sub,SF.sub,CF.sub,csub,Anc.sub,List.map,zCF] at hS
 generalize τ 2=v2 at hS
 generalize τ 3=v3 at hS
 refine Zb (wp_seq ?_)
 refine ZdJ hS (by kernel_rfl) (nf (oF 0 101 .is) r1 r1 (nf (oL false 1 101 .adr) r1 r1 (nf (oF 0 102 .is) r1 r1 (nf (oL false 1 102 .adr) r1 r1 (nf (o_eql .t .t) r2 trivial (nM rfl rfl (nk rfl (fun h=>oF 1 101 .is) r2 r1 (nk rfl (fun h=>oL true 3 101 (.w h .adr)) r2 r1 (nk rfl (fun h=>oF 1 102 .is) r2 r1 (nk rfl (fun h=>oL true 3 102 (.w h .adr)) r2 r1 (nk rfl (fun h=>oP (Zh8 u.tx v.tx) Tryz.func32 (Args.two (.pagg (.w h)) (.pagg (.w h)))) r3 trivial (nf (ZK .t .t) r2 trivial (nM rfl rfl (nk rfl (fun h=>oF 4 101 .is) r2 r1 (nk rfl (fun h=>oF 0 101 (.w h .adr)) r2 r1 (nk rfl (fun h=>oL false 1 101 (.w h .adr)) r2 r1 (nk rfl (fun h=>oF 4 102 .is) r2 r1 (nk rfl (fun h=>oF 0 102 (.w h .adr)) r2 r1 (nk rfl (fun h=>oL false 1 102 (.w h .adr)) r2 r1 (nk rfl (fun h=>o_eql (.w h) (.w h)) r3 trivial (nf (ZK .t .t) r2 trivial (nM rfl rfl (nk rfl (fun h=>oF 4 101 .is) r2 r1 (nk rfl (fun h=>oF 1 101 (.w h .adr)) r2 r1 (nn [28,26,4,3,2] [102,101,0] rfl rfl (nk rfl (fun h=>oL false 1 101 (.w h .adr)) r2 r1 (nk rfl (fun h=>oF 4 102 .is) r2 r1 (nk rfl (fun h=>oF 1 102 (.w h .adr)) r2 r1 (nk rfl (fun h=>oL false 1 102 (.w h .adr)) r2 r1 (nk rfl (fun h=>oP (ZnN u.order.txs v.order.txs) Tryz.func35 (Args.two (.w h) (.w h))) r3 trivial (nf (ZK .t .t) r2 trivial (nM rfl rfl (nk rfl (fun h=>oF 6 101 .is) r2 r1 (nk rfl (fun h=>oL false 1 101 (.w h .adr)) r2 r1 (nk rfl (fun h=>oF 6 102 .is) r2 r1 (nk rfl (fun h=>oL false 1 102 (.w h .adr)) r2 r1 (nk rfl (fun h=>o_eql (.w h) (.w h)) r3 trivial (nf (ZK .t .t) r2 trivial (nM rfl rfl (nk rfl (fun h=>oF 7 101 .is) r2 r1 (nk rfl (fun h=>oL false 1 101 (.w h .adr)) r2 r1 (nk rfl (fun h=>oF 7 102 .is) r2 r1 (nk rfl (fun h=>oL false 1 102 (.w h .adr)) r2 r1 (nk rfl (fun h=>o_eql (.w h) (.w h)) r3 trivial (nf (ZK .t .t) r2 trivial (nM rfl rfl (nk rfl (fun h=>oF 8 101 .is) r2 r1 (nk rfl (fun h=>oL false 1 101 (.w h .adr)) r2 r1 (nk rfl (fun h=>oF 8 102 .is) r2 r1 (nn [52,51,49,4,3,2] [102,101,0] rfl rfl (nk rfl (fun h=>oL false 1 102 (.w h .adr)) r2 r1 (nk rfl (fun h=>o_eql (.w h) (.w h)) r3 trivial (nf (ZK .t .t) r2 trivial (nM rfl rfl (nk rfl (fun h=>oF 9 101 .is) r2 r1 (nk rfl (fun h=>oL false 1 101 (.w h .adr)) r2 r1 (nk rfl (fun h=>oF 9 102 .is) r2 r1 (nk rfl (fun h=>oL false 1 102 (.w h .adr)) r2 r1 (nk rfl (fun h=>o_eql (.w h) (.w h)) r3 trivial (nf (ZK .t .t) r2 trivial (nN rfl rfl ZV.nil))))))))))))))))))))))))))))))))))))))))))))))))))))))))))))) (by kernel_rfl) (by rw [hB];kernel_rfl) fun a w F hS=>?_
 obtain ⟨F,hS⟩:=hS.nm [4] [102,101,0] rfl rfl
 try dsimp only [List.map,xD,xE,xT,xU,ldSF] at hS
 refine Zb (wp_ret ?_)
 refine Zq hfr hS rfl rfl rfl (.bool (Zrf u v))
theorem Zsj (c:CmdD):FnP Tryz.prog 84 [.agg (rCmd c)] (.agg (rCmd (usedR c))):=by
 refine FnP.mk Tryz.func84 rfl Tryz.ntmps84 rfl ?_
 intro B a w F hB hfr hS
 refine wp_seq ?_
 refine Zc hS (qx 101 r1 (qf (oH [.int .i64 0,.int .i64 0,.bool false,.slice none 0 0,.int .i64 0,.slice none 0 0,.int .i64 0,.int .i64 0,.int .i64 0,.int .i64 0] 102) trivial qz qZ)) hB [2,1] [102,101,0] (fun _=>rfl) (fun _=>rfl) fun τ a w F hS=>?_
 try dsimp only [RS.sub,SF.sub,CF.sub,csub,Anc.sub,List.map,zCF] at hS
 generalize τ 1=v1 at hS
 generalize τ 2=v2 at hS
 refine Zb (wp_seq ?_)
 refine Zc hS (qg 0 101 r1 r1 (qa 101 r1 r1 (qf (oB [(0,.tmp 5)] [.int .i64 0,.int .i64 0,.bool false,.slice none 0 0,.int .i64 0,.slice none 0 0,.int .i64 0,.int .i64 0,.int .i64 0,.int .i64 0] [(0,1),(1,3),(4,2),(6,1),(7,1),(8,1),(9,1)] (.one rfl .t one_int (by kernel_rfl) .nil)) r1 qz (qf (oH [.int .i64 0,.int .i64 0,.bool false,.slice none 0 0,.int .i64 0,.slice none 0 0,.int .i64 0,.int .i64 0,.int .i64 0,.int .i64 0] 103) trivial qz (qS 10 103 r2 r1 qZ))))) hB [3,2,1] [103,102,101,0] (fun _=>rfl) (fun _=>rfl) fun τ a w F hS=>?_
 try dsimp only [RS.sub,SF.sub,CF.sub,csub,Anc.sub,List.map,Zf,xL,xM,Nat.reduceAdd,xD,xE,xT,xU,xC,xN,zCF,ldSF] at hS
 generalize τ 3=v3 at hS
 refine Zb (wp_seq (wp_seq ?_))
 refine Za hS (qg 0 101 r1 r1 (qa 101 r1 r1 qZ)) hB [8,3,2,1] [103,102,101,0] rfl rfl fun a w F hS=>Zb (wp_block (wp_seq (wp_seq ?_)))
 refine Za hS (qf (o_eql .t qi) r1 qz (qN rfl rfl qZ)) hB [9,8,3,2,1] [103,102,101,0] rfl rfl fun a w F hS=>Zb ?_
 refine Zd hS rfl (fun hc0=>?_) (fun hc0=>?_)
 ·skip
  have hk:c.kind=1∨c.kind=2:=by first | exact .inl (of_decide_eq_true hc0) | exact .inr (of_decide_eq_true hc0)
  have hr:usedR c = {zeroC c.kind with tx:=c.tx} := by unfold usedR;rw [if_pos hk]
  refine wp_skip (Zb ?_)
  refine Zd hS rfl (fun hc1=>?_) (fun hc1=>?_)
  ·skip
   have hk:c.kind=1∨c.kind=2:=by first | exact .inl (of_decide_eq_true hc1) | exact .inr (of_decide_eq_true hc1)
   have hr:usedR c = {zeroC c.kind with tx:=c.tx} := by unfold usedR;rw [if_pos hk]
   refine Za hS (qg 1 101 r1 r1 (qf (oL true 3 101 .adr) r1 r1 (qg 1 103 r1 r1 (qf (oA 3 103 .adr .t) r2 r1 qZ)))) hB [3,2] [103,102,101,0] rfl rfl fun a w F hS=>Zh (Zb (wp_seq ?_))
   refine Za hS (qe 10 103 r1 r1 (qs 10 102 r2 r1 qZ)) hB [2] [103,102,101,0] rfl rfl fun a w F hS=>Zb (wp_ret ?_)
   refine Zt hfr hS rfl (.cl 102 true 10 rfl rfl .nil) (.one (.aggLe rfl (by rw [hr];exact (by refine ⟨?_,?_,?_,?_,?_,?_,?_,?_,?_,?_,trivial⟩ <;> first | exact PVLe.refl | exact PVLe.nilSl))))
  exact Bool.noConfusion (hc0.symm.trans hc1)
 have hn:=of_decide_eq_false hc0
 refine Za hS (qf (o_eql .t qi) r1 qz (qN rfl rfl qZ)) hB [9,8,3,2,1] [103,102,101,0] rfl rfl fun a w F hS=>Zb ?_
 refine Zd hS rfl (fun hc2=>?_) (fun hc2=>?_)
 ·skip
  have hk:c.kind=1∨c.kind=2:=by first | exact .inl (of_decide_eq_true hc2) | exact .inr (of_decide_eq_true hc2)
  have hr:usedR c = {zeroC c.kind with tx:=c.tx} := by unfold usedR;rw [if_pos hk]
  refine Za hS (qg 1 101 r1 r1 (qf (oL true 3 101 .adr) r1 r1 (qg 1 103 r1 r1 (qf (oA 3 103 .adr .t) r2 r1 qZ)))) hB [3,2] [103,102,101,0] rfl rfl fun a w F hS=>Zh (Zb (wp_seq ?_))
  refine Za hS (qe 10 103 r1 r1 (qs 10 102 r2 r1 qZ)) hB [2] [103,102,101,0] rfl rfl fun a w F hS=>Zb (wp_ret ?_)
  refine Zt hfr hS rfl (.cl 102 true 10 rfl rfl .nil) (.one (.aggLe rfl (by rw [hr];exact (by refine ⟨?_,?_,?_,?_,?_,?_,?_,?_,?_,?_,trivial⟩ <;> first | exact PVLe.refl | exact PVLe.nilSl))))
 have hn:=of_decide_eq_false hc2
 refine wp_seq (wp_seq ?_)
 refine Za hS (qf (o_eql .t qi) r1 qz (qN rfl rfl qZ)) hB [15,8,3,2,1] [103,102,101,0] rfl rfl fun a w F hS=>Zb ?_
 refine Zd hS rfl (fun hc3=>?_) (fun hc3=>?_)
 ·skip
  have hk:c.kind=3∨c.kind=10:=by first | exact .inl (of_decide_eq_true hc3) | exact .inr (of_decide_eq_true hc3)
  have hr:usedR c = {zeroC c.kind with id:=c.id} := by unfold usedR;rw [if_neg (by omega),if_pos hk]
  refine wp_skip (Zb ?_)
  refine Zd hS rfl (fun hc4=>?_) (fun hc4=>?_)
  ·skip
   have hk:c.kind=3∨c.kind=10:=by first | exact .inl (of_decide_eq_true hc4) | exact .inr (of_decide_eq_true hc4)
   have hr:usedR c = {zeroC c.kind with id:=c.id} := by unfold usedR;rw [if_neg (by omega),if_pos hk]
   refine Za hS (qg 7 101 r1 r1 (qa 101 r1 r1 (qg 7 103 r1 r1 (qf (o_store1 103 .adr .t one_int (by kernel_rfl) (by kernel_rfl)) r2 r1 qZ)))) hB [3,2] [103,102,101,0] rfl rfl fun a w F hS=>Zh (Zb (wp_seq ?_))
   refine Za hS (qe 10 103 r1 r1 (qs 10 102 r2 r1 qZ)) hB [2] [103,102,101,0] rfl rfl fun a w F hS=>Zb (wp_ret ?_)
   refine Zt hfr hS rfl (.cl 102 true 10 rfl rfl .nil) (.one (.aggLe rfl (by rw [hr];exact (by refine ⟨?_,?_,?_,?_,?_,?_,?_,?_,?_,?_,trivial⟩ <;> first | exact PVLe.refl | exact PVLe.nilSl))))
  exact Bool.noConfusion (hc3.symm.trans hc4)
 have hn:=of_decide_eq_false hc3
 refine Za hS (qf (o_eql .t qi) r1 qz (qN rfl rfl qZ)) hB [15,8,3,2,1] [103,102,101,0] rfl rfl fun a w F hS=>Zb ?_
 refine Zd hS rfl (fun hc5=>?_) (fun hc5=>?_)
 ·skip
  have hk:c.kind=3∨c.kind=10:=by first | exact .inl (of_decide_eq_true hc5) | exact .inr (of_decide_eq_true hc5)
  have hr:usedR c = {zeroC c.kind with id:=c.id} := by unfold usedR;rw [if_neg (by omega),if_pos hk]
  refine Za hS (qg 7 101 r1 r1 (qa 101 r1 r1 (qg 7 103 r1 r1 (qf (o_store1 103 .adr .t one_int (by kernel_rfl) (by kernel_rfl)) r2 r1 qZ)))) hB [3,2] [103,102,101,0] rfl rfl fun a w F hS=>Zh (Zb (wp_seq ?_))
  refine Za hS (qe 10 103 r1 r1 (qs 10 102 r2 r1 qZ)) hB [2] [103,102,101,0] rfl rfl fun a w F hS=>Zb (wp_ret ?_)
  refine Zt hfr hS rfl (.cl 102 true 10 rfl rfl .nil) (.one (.aggLe rfl (by rw [hr];exact (by refine ⟨?_,?_,?_,?_,?_,?_,?_,?_,?_,?_,trivial⟩ <;> first | exact PVLe.refl | exact PVLe.nilSl))))
 have hn:=of_decide_eq_false hc5
 refine wp_seq ?_
 refine Za hS (qf (o_eql .t qi) r1 qz (qN rfl rfl qZ)) hB [21,8,3,2,1] [103,102,101,0] rfl rfl fun a w F hS=>Zb ?_
 refine Zd hS rfl (fun hc6=>?_) (fun hc6=>?_)
 ·skip
  have hk:=of_decide_eq_true hc6
  have hr:usedR c = {zeroC c.kind with order:=c.order} := by unfold usedR;rw [if_neg (by omega),if_neg (by omega),if_pos hk]
  refine Za hS (qg 4 101 r1 r1 (qf (oL true 2 101 .adr) r1 r1 (qg 4 103 r1 r1 (qf (oA 2 103 .adr .t) r2 r1 qZ)))) hB [3,2] [103,102,101,0] rfl rfl fun a w F hS=>Zh (Zb (wp_seq ?_))
  refine Za hS (qe 10 103 r1 r1 (qs 10 102 r2 r1 qZ)) hB [2] [103,102,101,0] rfl rfl fun a w F hS=>Zb (wp_ret ?_)
  refine Zt hfr hS rfl (.cl 102 true 10 rfl rfl .nil) (.one (.aggLe rfl (by rw [hr];exact (by refine ⟨?_,?_,?_,?_,?_,?_,?_,?_,?_,?_,trivial⟩ <;> first | exact PVLe.refl | exact PVLe.nilSl))))
 have hn:=of_decide_eq_false hc6
 refine wp_seq ?_
 refine Za hS (qf (o_eql .t qi) r1 qz (qN rfl rfl qZ)) hB [26,8,3,2,1] [103,102,101,0] rfl rfl fun a w F hS=>Zb ?_
 refine Zd hS rfl (fun hc7=>?_) (fun hc7=>?_)
 ·skip
  have hk:=of_decide_eq_true hc7
  have hr:usedR c = {zeroC c.kind with key:=c.key,id:=c.id,place:=c.place} := by unfold usedR;rw [if_neg (by omega),if_neg (by omega),if_neg (by omega),if_pos hk]
  refine Zz hS (qg 6 101 r1 r1 (qa 101 r1 r1 (qg 7 101 r1 r1 (qa 101 r1 r1 (qg 8 101 r1 r1 (qa 101 r1 r1 (qg 6 103 r1 r1 (qf (o_store1 103 .adr .t one_int (by kernel_rfl) (by kernel_rfl)) r2 r1 (qg 7 103 r1 r1 (qf (o_store1 103 .adr .t one_int (by kernel_rfl) (by kernel_rfl)) r2 r1 (qg 8 103 r1 r1 (qf (o_store1 103 .adr .t one_int (by kernel_rfl) (by kernel_rfl)) r2 r1 qZ)))))))))))) hB [3,2] [103,102,101,0] rfl rfl fun a w F hS=>?_
  try dsimp only [List.map,Zf,xL,xM,Nat.reduceAdd,xD,xE,xT,xU,xC,xN,zCF,ldSF] at hS
  refine Zh (Zb (wp_seq ?_))
  refine Za hS (qe 10 103 r1 r1 (qs 10 102 r2 r1 qZ)) hB [2] [103,102,101,0] rfl rfl fun a w F hS=>Zb (wp_ret ?_)
  refine Zt hfr hS rfl (.cl 102 true 10 rfl rfl .nil) (.one (.aggLe rfl (by rw [hr];exact (by refine ⟨?_,?_,?_,?_,?_,?_,?_,?_,?_,?_,trivial⟩ <;> first | exact PVLe.refl | exact PVLe.nilSl))))
 have hn:=of_decide_eq_false hc7
 refine wp_seq ?_
 refine Za hS (qf (o_eql .t qi) r1 qz (qN rfl rfl qZ)) hB [37,3,2,1] [103,102,101,0] rfl rfl fun a w F hS=>Zb ?_
 refine Zd hS rfl (fun hc8=>?_) (fun hc8=>?_)
 ·skip
  have hk:=of_decide_eq_true hc8
  have hr:usedR c = {zeroC c.kind with phen:=c.phen} := by unfold usedR;rw [if_neg (by omega),if_neg (by omega),if_neg (by omega),if_neg (by omega),if_pos hk]
  refine Za hS (qg 9 101 r1 r1 (qa 101 r1 r1 (qg 9 103 r1 r1 (qf (o_store1 103 .adr .t one_int (by kernel_rfl) (by kernel_rfl)) r2 r1 qZ)))) hB [3,2] [103,102,101,0] rfl rfl fun a w F hS=>Zh (Zb (wp_seq ?_))
  refine Za hS (qe 10 103 r1 r1 (qs 10 102 r2 r1 qZ)) hB [2] [103,102,101,0] rfl rfl fun a w F hS=>Zb (wp_ret ?_)
  refine Zt hfr hS rfl (.cl 102 true 10 rfl rfl .nil) (.one (.aggLe rfl (by rw [hr];exact (by refine ⟨?_,?_,?_,?_,?_,?_,?_,?_,?_,?_,trivial⟩ <;> first | exact PVLe.refl | exact PVLe.nilSl))))
 have hn:=of_decide_eq_false hc8
 have hr:usedR c=zeroC c.kind:=by unfold usedR;rw [if_neg (by omega),if_neg (by omega),if_neg (by omega),if_neg (by omega),if_neg (by omega)]
 refine wp_skip (Zh (Zb (wp_seq ?_)))
 refine Za hS (qe 10 103 r1 r1 (qs 10 102 r2 r1 qZ)) hB [2] [103,102,101,0] rfl rfl fun a w F hS=>Zb (wp_ret ?_)
 refine Zt hfr hS rfl (.cl 102 true 10 rfl rfl .nil) (.one (.aggLe rfl (by rw [hr];exact (by refine ⟨?_,?_,?_,?_,?_,?_,?_,?_,?_,?_,trivial⟩ <;> first | exact PVLe.refl | exact PVLe.nilSl))))
theorem Zs8 (x y : List TxD) (f : FuncId) (fn : Func) (cps : List PV) (hf : Tryz.prog.funcs[f]? = some fn) (hb : fn.body.isSome = true) (hnn : (fn.name == "runtime.NumGoroutine") = false) (hw : ∀ u v : TxD, FnP Tryz.prog f (.agg (rTx u) :: .agg (rTx v) :: cps) (.bool (decide (u = v)))) : FnP Tryz.prog 31 [.sl rTx x, .sl rTx y, .clos f cps] (.bool (decide (x = y))) := by
 refine FnP.mk Tryz.func31 rfl Tryz.ntmps31 rfl ?_
 intro B a w F hB hfr hS
 have hxl:=Sat.lenSl hS (i:=0) rfl
 refine wp_seq ?_
 refine Za hS qB hB [6,2,1,0] [0] rfl rfl fun a w F hS=>Zb (wp_seq (wp_seq ?_))
 refine Za hS (qM rfl rfl (qu Tryz.underlying22 r1 (qM rfl rfl (qu Tryz.underlying22 r1 (qf (o_neq .t .t) r2 qz qZ))))) hB [14,6,2,1,0] [0] rfl rfl fun a w F hS=>Zb ?_
 refine Zd hS rfl (fun hc0=>?_) (fun hc0=>?_)
 ·skip
  have hg:false=decide (x=y):=(decide_eq_false fun e=>by subst e;simp at hc0).symm
  refine wp_seq ?_
  refine Za hS qB hB [6,2,1,0] [0] rfl rfl fun a w F hS=>Zb (wp_ret (Ze ?_))
  refine Zq hfr hS rfl rfl rfl (.bool hg)
 have hln:x.length=y.length:=by simp at hc0;omega
 refine wp_skip (Zb (wp_seq (wp_seq ?_)))
 refine Za hS (qM rfl rfl (qu Tryz.underlying22 r1 (qJ qZ))) hB [17,16,15,6,2,1] [0] rfl rfl fun a w F hS=>Zb (wp_block ?_)
 refine Zr (σ:=(Nat)) [1,2,6,15,16] [0] (fun s=>[(17,.pv (.int .i64 (s:Int)))]) (fun s=>[]) (fun s=>s≤x.length∧(∀ q,q<s→Go.Gm.nth x q=Go.Gm.nth y q)) (fun s=>x.length - s) (0) hS ⟨rfl,rfl,rfl,rfl,rfl,rfl,trivial⟩ ⟨rfl,trivial⟩ ⟨Nat.zero_le _,fun q hq=>absurd hq (Nat.not_lt_zero q)⟩ ?_
 clear hS;intro i a w F hC hS
 try dsimp only at hC
 obtain ⟨F,hS⟩:=hS.nm [17,16,15,6,2,1] [0] rfl rfl
 try dsimp only at hS
 obtain ⟨hi,hq⟩:=hC
 refine wp_seq ?_
 refine Za hS (qL r2) hB [18,17,16,15,6,2,1] [0] rfl rfl fun a w F hS=>Zb (wp_seq ?_)
 refine Zd hS rfl (fun hc1=>?_) (fun hc1=>?_)
 ·skip
  have hil:i<x.length:=by simp at hc1;omega
  refine wp_skip (Zb (wp_seq (wp_block (wp_seq ?_))))
  refine Zc hS (qM rfl rfl (qy 3 Tryz.underlying22 r2 (qf (oR true 3 .t) r1 qz (qf (oH [.int .i64 0,.bool false,.slice none 0 0] 101) trivial qz (qN rfl rfl (qS 3 101 r2 r1 qZ)))))) hB [17,16,15,8,7,6,2,1] [101,0] (fun _=>rfl) (fun _=>rfl) fun τ a w F hS=>?_
  try dsimp only [RS.sub,SF.sub,CF.sub,csub,Anc.sub,List.map,Zf,xL,xM,Nat.reduceAdd,xD,xE,xT,xU,xC,xN,zCF,ldSF,rTx] at hS
  generalize τ 8=v8 at hS
  try simp only [Int.toNat_natCast] at hS
  refine Zb (wp_seq ?_)
  refine Zc hS (qM rfl rfl (qM rfl rfl (qy 3 Tryz.underlying22 r2 (qf (oR true 3 .t) r1 qz (qf (oH [.int .i64 0,.bool false,.slice none 0 0] 102) trivial qz (qS 3 102 r2 r1 qZ)))))) hB [17,16,15,9,8,6,2,1] [102,101,0] (fun _=>rfl) (fun _=>rfl) fun τ a w F hS=>?_
  try dsimp only [RS.sub,SF.sub,CF.sub,csub,Anc.sub,List.map,Zf,xL,xM,Nat.reduceAdd,xD,xE,xT,xU,xC,xN,zCF,ldSF,rTx] at hS
  generalize τ 9=v9 at hS
  try simp only [Int.toNat_natCast] at hS
  refine Zb (wp_seq ?_)
  refine Za hS (qM rfl rfl (qe 3 101 r1 r1 (qe 3 102 r1 r1 (qf (ZS (avs:=[.agg (rTx (Go.Gm.nth x i)),.agg (rTx (Go.Gm.nth y i))]) .t (hw (Go.Gm.nth x i) (Go.Gm.nth y i)) hf hb hnn (Args.two (.pagg .t) (.pagg .t))) r3 qz (qf (o_not .t) r1 qz qZ))))) hB [30,17,16,15,6,2,1] [102,101,0] rfl rfl fun a w F hS=>Zb ?_
  refine Zd hS rfl (fun hc2=>?_) (fun hc2=>?_)
  ·skip
   have hg:false=decide (x=y):=(decide_eq_false fun e=>by subst e;simp at hc2).symm
   refine wp_seq ?_
   refine Za hS qB hB [17,16,15,6,2,1] [102,101,0] rfl rfl fun a w F hS=>Zb (wp_ret (Zg (Ze (Ze (Zg (Ze ?_))))))
   refine Zq hfr hS rfl rfl rfl (.bool hg)
  have hne:(Go.Gm.nth x i)=(Go.Gm.nth y i):=by simpa using hc2
  refine wp_skip (Zh (Zb ?_))
  refine Za hS (qp r1 (qM rfl rfl qZ)) hB [17,16,15,6,2,1] [102,101,0] rfl rfl fun a w F hS=>Zb ?_
  replace hS:=hS.ent (i:=17) (s':=.pv (.int .i64 ((i+1:Nat):Int))) rfl (.int (wrap_succ (by omega)))
  obtain ⟨F,hS⟩:=hS.nm [16,15,6,2,1,17] [0] rfl rfl
  exact ⟨(i+1),F,⟨by omega,(fun q h9=>by rcases Nat.lt_or_eq_of_le (Nat.le_of_lt_succ h9) with h8 | h8;exact hq q h8;rw [h8];exact hne)⟩,hS,by omega⟩
 have hil:i=x.length:=by simp at hc1;omega
 have hg:true=decide (x=y):=(decide_eq_true (Za0 hln fun j hj=>hq j (by omega))).symm
 refine wp_exit (Zi (Zi (Zo (Zb (wp_seq ?_)))))
 refine Za hS qB hB [6] [0] rfl rfl fun a w F hS=>Zb (wp_ret ?_)
 refine Zq hfr hS rfl rfl rfl (.bool hg)
theorem ZsR (x y : List OrdD) (f : FuncId) (fn : Func) (cps : List PV) (hf : Tryz.prog.funcs[f]? = some fn) (hb : fn.body.isSome = true) (hnn : (fn.name == "runtime.NumGoroutine") = false) (hw : ∀ u v : OrdD, FnP Tryz.prog f (.agg (Zx u) :: .agg (Zx v) :: cps) (.bool (decide (u = v)))) : FnP Tryz.prog 33 [.sl Zx x, .sl Zx y, .clos f cps] (.bool (decide (x = y))) := by
 refine FnP.mk Tryz.func33 rfl Tryz.ntmps33 rfl ?_
 intro B a w F hB hfr hS
 have hxl:=Sat.lenSl hS (i:=0) rfl
 refine wp_seq ?_
 refine Za hS qB hB [6,2,1,0] [0] rfl rfl fun a w F hS=>Zb (wp_seq (wp_seq ?_))
 refine Za hS (qM rfl rfl (qu Tryz.underlying23 r1 (qM rfl rfl (qu Tryz.underlying23 r1 (qf (o_neq .t .t) r2 qz qZ))))) hB [14,6,2,1,0] [0] rfl rfl fun a w F hS=>Zb ?_
 refine Zd hS rfl (fun hc0=>?_) (fun hc0=>?_)
 ·skip
  have hg:false=decide (x=y):=(decide_eq_false fun e=>by subst e;simp at hc0).symm
  refine wp_seq ?_
  refine Za hS qB hB [6,2,1,0] [0] rfl rfl fun a w F hS=>Zb (wp_ret (Ze ?_))
  refine Zq hfr hS rfl rfl rfl (.bool hg)
 have hln:x.length=y.length:=by simp at hc0;omega
 refine wp_skip (Zb (wp_seq (wp_seq ?_)))
 refine Za hS (qM rfl rfl (qu Tryz.underlying23 r1 (qJ qZ))) hB [17,16,15,6,2,1] [0] rfl rfl fun a w F hS=>Zb (wp_block ?_)
 refine Zr (σ:=(Nat)) [1,2,6,15,16] [0] (fun s=>[(17,.pv (.int .i64 (s:Int)))]) (fun s=>[]) (fun s=>s≤x.length∧(∀ q,q<s→Go.Gm.nth x q=Go.Gm.nth y q)) (fun s=>x.length - s) (0) hS ⟨rfl,rfl,rfl,rfl,rfl,rfl,trivial⟩ ⟨rfl,trivial⟩ ⟨Nat.zero_le _,fun q hq=>absurd hq (Nat.not_lt_zero q)⟩ ?_
 clear hS;intro i a w F hC hS
 try dsimp only at hC
 obtain ⟨F,hS⟩:=hS.nm [17,16,15,6,2,1] [0] rfl rfl
 try dsimp only at hS
 obtain ⟨hi,hq⟩:=hC
 refine wp_seq ?_
 refine Za hS (qL r2) hB [18,17,16,15,6,2,1] [0] rfl rfl fun a w F hS=>Zb (wp_seq ?_)
 refine Zd hS rfl (fun hc1=>?_) (fun hc1=>?_)
 ·skip
  have hil:i<x.length:=by simp at hc1;omega
  refine wp_skip (Zb (wp_seq (wp_block (wp_seq ?_))))
  refine Zc hS (qM rfl rfl (qy 2 Tryz.underlying23 r2 (qf (oR true 2 .t) r1 qz (qf (oH [.int .i64 0,.slice none 0 0] 101) trivial qz (qN rfl rfl (qS 2 101 r2 r1 qZ)))))) hB [17,16,15,8,7,6,2,1] [101,0] (fun _=>rfl) (fun _=>rfl) fun τ a w F hS=>?_
  try dsimp only [RS.sub,SF.sub,CF.sub,csub,Anc.sub,List.map,Zf,xL,xM,Nat.reduceAdd,xD,xE,xT,xU,xC,xN,zCF,ldSF,Zx] at hS
  generalize τ 8=v8 at hS
  try simp only [Int.toNat_natCast] at hS
  refine Zb (wp_seq ?_)
  refine Zc hS (qM rfl rfl (qM rfl rfl (qy 2 Tryz.underlying23 r2 (qf (oR true 2 .t) r1 qz (qf (oH [.int .i64 0,.slice none 0 0] 102) trivial qz (qS 2 102 r2 r1 qZ)))))) hB [17,16,15,9,8,6,2,1] [102,101,0] (fun _=>rfl) (fun _=>rfl) fun τ a w F hS=>?_
  try dsimp only [RS.sub,SF.sub,CF.sub,csub,Anc.sub,List.map,Zf,xL,xM,Nat.reduceAdd,xD,xE,xT,xU,xC,xN,zCF,ldSF,Zx] at hS
  generalize τ 9=v9 at hS
  try simp only [Int.toNat_natCast] at hS
  refine Zb (wp_seq ?_)
  refine Za hS (qM rfl rfl (qe 2 101 r1 r1 (qe 2 102 r1 r1 (qf (ZS (avs:=[.agg (Zx (Go.Gm.nth x i)),.agg (Zx (Go.Gm.nth y i))]) .t (hw (Go.Gm.nth x i) (Go.Gm.nth y i)) hf hb hnn (Args.two (.pagg .t) (.pagg .t))) r3 qz (qf (o_not .t) r1 qz qZ))))) hB [30,17,16,15,6,2,1] [102,101,0] rfl rfl fun a w F hS=>Zb ?_
  refine Zd hS rfl (fun hc2=>?_) (fun hc2=>?_)
  ·skip
   have hg:false=decide (x=y):=(decide_eq_false fun e=>by subst e;simp at hc2).symm
   refine wp_seq ?_
   refine Za hS qB hB [17,16,15,6,2,1] [102,101,0] rfl rfl fun a w F hS=>Zb (wp_ret (Zg (Ze (Ze (Zg (Ze ?_))))))
   refine Zq hfr hS rfl rfl rfl (.bool hg)
  have hne:(Go.Gm.nth x i)=(Go.Gm.nth y i):=by simpa using hc2
  refine wp_skip (Zh (Zb ?_))
  refine Za hS (qp r1 (qM rfl rfl qZ)) hB [17,16,15,6,2,1] [102,101,0] rfl rfl fun a w F hS=>Zb ?_
  replace hS:=hS.ent (i:=17) (s':=.pv (.int .i64 ((i+1:Nat):Int))) rfl (.int (wrap_succ (by omega)))
  obtain ⟨F,hS⟩:=hS.nm [16,15,6,2,1,17] [0] rfl rfl
  exact ⟨(i+1),F,⟨by omega,(fun q h9=>by rcases Nat.lt_or_eq_of_le (Nat.le_of_lt_succ h9) with h8 | h8;exact hq q h8;rw [h8];exact hne)⟩,hS,by omega⟩
 have hil:i=x.length:=by simp at hc1;omega
 have hg:true=decide (x=y):=(decide_eq_true (Za0 hln fun j hj=>hq j (by omega))).symm
 refine wp_exit (Zi (Zi (Zo (Zb (wp_seq ?_)))))
 refine Za hS qB hB [6] [0] rfl rfl fun a w F hS=>Zb (wp_ret ?_)
 refine Zq hfr hS rfl rfl rfl (.bool hg)
theorem Zq6 (u v:OrdD):FnP Tryz.prog 34 [.agg (Zx u),.agg (Zx v)] (.bool (decide (u=v))):=by
 refine FnP.mk Tryz.func34 rfl Tryz.ntmps34 rfl ?_
 intro B a w F hB hfr hS
 refine wp_seq ?_
 refine Zc hS (qx 101 r1 (qx 102 r1 qB)) hB [4,3,2] [102,101,0] (fun _=>rfl) (fun _=>rfl) fun τ a w F hS=>?_
 try dsimp only [RS.sub,SF.sub,CF.sub,csub,Anc.sub,List.map,zCF,Zn,rTx,Zx,ZO,rInt,rOp] at hS
 generalize τ 2=v2 at hS
 generalize τ 3=v3 at hS
 refine Zb (wp_seq ?_)
 refine Za hS (qg 0 101 r1 r1 (qa 101 r1 r1 (qg 0 102 r1 r1 (qa 102 r1 r1 (qf (o_eql .t .t) r2 qz (qM rfl rfl (qv 1 101 rfl r2 r1 (qw 101 rfl r2 r1 (qv 1 102 rfl r2 r1 (qw 102 rfl r2 r1 (qk rfl (fun h=>oP (Zre u.txs v.txs) Tryz.func35 (Args.two (.w h) (.w h))) r3 qz (qf (ZK .t .t) r2 qz (qN rfl rfl qZ))))))))))))) hB [4] [102,101,0] rfl rfl fun a w F hS=>Zb (wp_ret ?_)
 refine Zq hfr hS rfl rfl rfl (.bool (ZrA))
theorem ZoF (u v:Zj):FnP Tryz.prog 10 [.agg (Zn u),.agg (Zn v)] (.bool (decide (u=v))):=by
 refine FnP.mk Tryz.func10 rfl Tryz.ntmps10 rfl ?_
 intro B a w F hB hfr hS
 refine wp_seq ?_
 refine Zc hS (qx 101 r1 (qx 102 r1 qB)) hB [4,3,2] [102,101,0] (fun _=>rfl) (fun _=>rfl) fun τ a w F hS=>?_
 try dsimp only [RS.sub,SF.sub,CF.sub,csub,Anc.sub,List.map,zCF,Zn,rTx,Zx,ZO,rInt,rOp] at hS
 generalize τ 2=v2 at hS
 generalize τ 3=v3 at hS
 refine Zb (wp_seq ?_)
 refine Za hS (qg 0 101 r1 r1 (qa 101 r1 r1 (qg 0 102 r1 r1 (qa 102 r1 r1 (qf (oP (Zs8 u.txs v.txs 32 Tryz.f32 [] Tryz.func32 rfl (by kernel_rfl) (fun a b=>Zh8 a b)) Tryz.func31 (Args.three .t .t (.conv .f (Ent.fnClos)))) r2 qz (qM rfl rfl (qv 1 101 rfl r2 r1 (qw 101 rfl r2 r1 (qv 1 102 rfl r2 r1 (qw 102 rfl r2 r1 (qk rfl (fun h=>oP (ZsR u.orders v.orders 34 Tryz.f34 [] Tryz.func34 rfl (by kernel_rfl) (fun a b=>Zq6 a b)) Tryz.func33 (Args.three (.w h) (.w h) (.conv .f (Ent.fnClos)))) r3 qz (qf (ZK .t .t) r2 qz (qN rfl rfl qZ))))))))))))) hB [4] [102,101,0] rfl rfl fun a w F hS=>Zb (wp_ret ?_)
 refine Zq hfr hS rfl rfl rfl (.bool (Zk5 u v))
instance (l:List TxD):Decidable (Zba l):=by unfold Zba;exact inferInstance
instance (l:List OrdD):Decidable (Zcx l):=by unfold Zcx;exact inferInstance
instance (g:Zj):Decidable (Zbo g):=by unfold Zbo;exact inferInstance
theorem Zbe {l:List TxD} {k x:Int} : x ∈ ZU l k ↔ ∃ t ∈ l,t.id=x∧t.done=true∧0<wcnt t.ops k:=by
 unfold ZU
 rw [List.mem_map]
 constructor
 · rintro ⟨t,ht,e⟩
   rw [List.mem_filter] at ht
   simp at ht
   exact ⟨t,ht.1,e,ht.2.1,ht.2.2⟩
 · rintro ⟨t,ht,e,h1,h2⟩
   exact ⟨t,by rw [List.mem_filter];simp [ht,h1,h2],e⟩
theorem Zci {l:List TxD} (h:Zb0 TxD.id l) (k:Int):(ZU l k).Nodup:=by
 unfold ZU
 have h1:(l.map TxD.id).Nodup:=(List.pairwise_map.2 (Zv.1 h)).imp fun h=>Int.ne_of_lt h
 exact (h1.sublist ((List.filter_sublist).map _))
theorem Zbh {l:List TxD} (h:Zb0 TxD.id l) {t:TxD} (ht:t ∈ l):ZN l t.id=some t:=by
 have h:=Zv.1 h
 induction l with
 | nil=>cases ht
 | cons x l ih=>
   rw [List.pairwise_cons] at h
   unfold ZN
   rw [List.find?_cons]
   rcases List.mem_cons.1 ht with rfl | ht
   · simp
   · have:=h.1 t ht
     rw [show decide (x.id=t.id)=false by simp;omega]
     exact ih (Zv.2 h.2) ht h.2
theorem Zo8 {l:List TxD} {id:Int} (h:∀ t ∈ l,t.id≠id):ZN l id=none:=by
 unfold ZN
 exact List.find?_eq_none.2 fun t ht=>by simpa using h t ht
theorem Zaw {g:Zj} : Zy g ↔ g.txs.length≤4096∧Zb0 TxD.id g.txs∧(∀ t ∈ g.txs,Z1 t=0∧Zbt g t=true)∧Zb0 OrdD.key g.orders∧NE g.orders ∧ ∀ k,(getO g.orders k).Perm (ZU g.txs k):=by
 constructor
 · intro h
   obtain ⟨r1',r2'⟩:=Zs h
   have hne:=Zda h
   have h2:=(Zdk g).2 h.2.2
   refine ⟨h.1,r1',fun t ht=>?_,r2',hne,fun k=>?_⟩
   · obtain ⟨j,hj,e⟩:=List.getElem_of_mem ht
     have:=(h.2.1 j hj).2
     rwa [Zp hj,e] at this
   · by_cases hk:getO g.orders k = []
     · rw [hk]
       have hw:ZU g.txs k = []:=by
         refine Decidable.byContradiction fun hw=>?_
         obtain ⟨j,hj,e⟩:=List.getElem_of_mem (ZcU.2 hw)
         have hjo:j<g.orders.length:=by rw [h.2.2.1];exact hj
         have h3:=(h.2.2.2 j hjo).1
         rw [Zp hj,e] at h3
         have h4:=Zbi (Zv.1 r2') (ZB hjo)
         rw [h3,hk] at h4
         exact hne _ (ZB hjo) h4.symm
       rw [hw]
     · have hm:=Zgq hk
       obtain ⟨j,hj,e⟩:=List.getElem_of_mem hm
       have:=(h2.2 j hj).2.2
       rw [Zp hj,e] at this
       exact this
 · rintro ⟨h1,h2,h3,h4,h5,h6⟩
   have hk:g.orders.map OrdD.key=ZbU g.txs:=by
     refine ZeL (List.pairwise_map.2 (Zv.1 h4)) (Zbm _).1 fun k=>?_
     rw [ZcU,List.mem_map]
     constructor
     · rintro ⟨o,ho,rfl⟩ e
       have:=h6 o.key
       rw [e,Zbi (Zv.1 h4) ho] at this
       exact h5 o ho this.eq_nil
     · intro e
       have:getO g.orders k≠[]:=fun e2=>by
         have:=h6 k
         rw [e2] at this
         exact e this.symm.eq_nil
       exact ⟨_,Zgq this,rfl⟩
   have hlen:g.orders.length=(ZbU g.txs).length:=by rw [← hk,List.length_map]
   refine ⟨h1,fun i hi=>?_,(Zdk g).1 ⟨hlen,fun i hi=>?_⟩⟩
   · obtain ⟨g1,g2⟩:=h3 _ (ZB hi)
     exact ⟨fun h0=>h2 (i - 1) i (by omega) hi,g1,g2⟩
   · refine ⟨fun h0=>h4 (i - 1) i (by omega) hi,h5 _ (ZB hi),?_⟩
     have:=h6 (Go.Gm.nth g.orders i).key
     rwa [Zbi (Zv.1 h4) (ZB hi)] at this
theorem ZoE {t:TxD} {l:List Int} {k x:Int} : x ∈ Zfg t l k ↔ (x ∈ l∧x≠t.id)∨(x=t.id∧t.done=true∧0<wcnt t.ops k):=by
 unfold Zfg
 by_cases h:t.done=true∧0<wcnt t.ops k
 · rw [if_pos h]
   unfold withO
   split
   · rename_i hi
     constructor
     · intro hx
       by_cases e:x=t.id
       · exact .inr ⟨e,h⟩
       · exact .inl ⟨hx,e⟩
     · rintro (⟨hx,_⟩ | ⟨rfl,_⟩)
       · exact hx
       · exact hi
   · rename_i hi
     rw [List.mem_append,List.mem_singleton]
     constructor
     · rintro (hx | hx)
       · exact .inl ⟨hx,fun e=>hi (e ▸ hx)⟩
       · exact .inr ⟨hx,h⟩
     · rintro (⟨hx,_⟩ | ⟨e,_⟩)
       · exact .inl hx
       · exact .inr e
 · rw [if_neg h]
   unfold withoutO
   rw [List.mem_filter,decide_eq_true_eq]
   exact ⟨fun h1=>.inl h1,fun h1=>h1.elim id fun h2=>absurd h2.2 h⟩
theorem Zj8 {t:TxD} {l:List Int} (h:l.Nodup) (k:Int):(Zfg t l k).Nodup:=by
 unfold Zfg
 split
 · unfold withO
   split
   · exact h
   · rename_i hi
     rw [List.nodup_append]
     exact ⟨h,by simp,fun a ha b hb=>by rw [List.mem_singleton] at hb;subst hb;exact fun e=>hi (e ▸ ha)⟩
 · exact h.filter _
theorem ZeO {g:Zj} {t:TxD} {b:Bool} {l:List TxD} (hR:Zy g) (hs:Zcx g.orders) (hr:Zb0 TxD.id l) (hl:l.length≤4096) (hM:∀ s,s ∈ l ↔ (s ∈ g.txs∧s.id≠t.id)∨(s=t∧b=true))
   (ht:b=true→Z1 t=0∧Zbt g t=true) (hb:b=false→t.done=false)
   (hu:∀ x ∈ l,∀ v ∈ ZaE x,v.tx=t.id→ZgR g v=true→¬ (v.tx=0∧v.nth=0)→b=true∧v.nth≤(wcnt t.ops v.key:Int)):Zy ⟨l,settleO t g.orders⟩:=by
 obtain ⟨h1,h2,h3,h4,h5,h6⟩:=Zaw.1 hR
 obtain ⟨s1,s2⟩:=ZjP (t:=t) h4 hs
 have hhas:∀ x ∈ l,∀ v ∈ ZaE x,ZgR g v=true→ZgR ⟨l,settleO t g.orders⟩ v=true:=by
   intro x hx v hv hg
   by_cases hz:v.tx=0∧v.nth=0
   · unfold ZgR at hg ⊢
     rw [if_pos hz] at hg ⊢
     exact hg
   · have hu2:=hu x hx v hv
     unfold ZgR at hg hu2 ⊢
     rw [if_neg hz] at hg hu2 ⊢
     by_cases e:v.tx=t.id
     · obtain ⟨b1,b2⟩:=hu2 e hg hz
       have hm:t ∈ l:=(hM t).2 (.inr ⟨rfl,b1⟩)
       have hf:=Zbh hr hm
       simp only [Bool.and_eq_true,decide_eq_true_eq] at hg ⊢
       show _∧_
       rw [e,hf]
       exact ⟨rfl,hg.2.1,b2⟩
     · have hf:ZN l v.tx=ZN g.txs v.tx:=by
         cases hc:ZN g.txs v.tx with
         | none=>
           refine Zo8 fun s hsl es=>?_
           rcases (hM s).1 hsl with ⟨m1,m2⟩ | ⟨rfl,_⟩
           · have:=Zbh h2 m1
             rw [es,hc] at this;cases this
           · exact e es.symm
         | some s=>
           obtain ⟨m1,m2⟩:=findT_mem hc
           have hm:s ∈ l:=(hM s).2 (.inl ⟨m1,by rw [m2];exact e⟩)
           have:=Zbh hr hm
           rwa [m2] at this
       show (((ZN l v.tx).isSome && _):Bool)=true
       rw [hf];exact hg
 refine Zaw.2 ⟨hl,hr,fun x hx=>?_,Zv.2 s1,s2,fun k=>?_⟩
 · have hx2:Z1 x=0∧Zbt g x=true:=by
     rcases (hM x).1 hx with ⟨m1,_⟩ | ⟨rfl,b1⟩
     · exact h3 x m1
     · exact ht b1
   refine ⟨hx2.1,?_⟩
   have h7:=hx2.2
   unfold Zbt at h7 ⊢
   rw [List.all_eq_true] at h7 ⊢
   exact fun v hv=>hhas x hx v hv (h7 v hv)
 · rw [ZeA h4 k]
   have hn:(getO g.orders k).Nodup:=(h6 k).symm.nodup (Zci h2 k)
   refine (List.perm_ext_iff_of_nodup (Zj8 hn k) (Zci hr k)).2 fun x=>?_
   rw [ZoE,Zbe,(h6 k).mem_iff,Zbe]
   constructor
   · rintro (⟨⟨s,m1,m2,m3,m4⟩,m5⟩ | ⟨rfl,m3,m4⟩)
     · exact ⟨s,(hM s).2 (.inl ⟨m1,by rw [m2];exact m5⟩),m2,m3,m4⟩
     · refine ⟨t,(hM t).2 (.inr ⟨rfl,?_⟩),rfl,m3,m4⟩
       cases b with
       | true=>rfl
       | false=>rw [hb rfl] at m3;cases m3
   · rintro ⟨s,m1,m2,m3,m4⟩
     rcases (hM s).1 m1 with ⟨m5,m6⟩ | ⟨rfl,_⟩
     · exact .inl ⟨⟨s,m5,m2,m3,m4⟩,by rw [← m2];exact m6⟩
     · exact .inr ⟨m2.symm,m3,m4⟩
theorem Zlo {l:List TxD} {t:TxD} (h:Zb0 TxD.id l) (hk:isK TxD.id t.id l=false):Zb0 TxD.id (l.take (lowK TxD.id t.id l) ++ [t] ++ l.drop (lowK TxD.id t.id l)) ∧ ∀ s,s ∈ l.take (lowK TxD.id t.id l) ++ [t] ++ l.drop (lowK TxD.id t.id l) ↔ (s ∈ l∧s.id≠t.id)∨(s=t∧true=true):=by
 rw [← Zi4 (Zv.1 h) hk]
 refine ⟨Zv.2 (ZeM (Zv.1 h)),fun s=>?_⟩
 rw [Zi4 (Zv.1 h) hk,List.mem_append,List.mem_append,List.mem_singleton]
 have hne:∀ s ∈ l,s.id≠t.id:=fun s hs e=>by
   have:=List.any_eq_false.1 hk s hs
   simp at this;exact this e
 constructor
 · rintro ((h1 | h1) | h1)
   · exact .inl ⟨List.mem_of_mem_take h1,hne s (List.mem_of_mem_take h1)⟩
   · exact .inr ⟨h1,rfl⟩
   · exact .inl ⟨List.mem_of_mem_drop h1,hne s (List.mem_of_mem_drop h1)⟩
 · rintro (⟨h1,_⟩ | ⟨h1,_⟩)
   · rw [← List.take_append_drop (lowK TxD.id t.id l) l,List.mem_append] at h1
     rcases h1 with h1 | h1
     · exact .inl (.inl h1)
     · exact .inr h1
   · exact .inl (.inr h1)
theorem Zk8 {l:List TxD} {t:TxD} (h:Zb0 TxD.id l) (hk:isK TxD.id t.id l=true):Zb0 TxD.id (l.set (lowK TxD.id t.id l) t) ∧ ∀ s,s ∈ l.set (lowK TxD.id t.id l) t ↔ (s ∈ l∧s.id≠t.id)∨(s=t∧true=true):=by
 rw [← Zjn (Zv.1 h) hk]
 refine ⟨Zv.2 (ZeM (Zv.1 h)),fun s=>?_⟩
 constructor
 · intro hs
   rcases ZfX hs with ⟨rfl,_⟩ | h1
   · exact .inr ⟨rfl,rfl⟩
   · exact .inl h1
 · have key:∀ (l:List TxD) (d:Bool),((s ∈ l∧s.id≠t.id)∨(s=t∧d=false))→s ∈ ZbX TxD.id t l d:=by
     intro l
     induction l with
     | nil=>
       rintro d (⟨h1,_⟩ | ⟨rfl,h1⟩)
       · cases h1
       · subst h1;simp [ZbX]
     | cons x l ih=>
       intro d hx
       rw [ZbX,List.mem_append,List.mem_append]
       rcases hx with ⟨h1,h2⟩ | ⟨rfl,h1⟩
       · rcases List.mem_cons.1 h1 with rfl | h1
         · exact .inl (.inr (by rw [if_neg h2];simp))
         · exact .inr (ih _ (.inl ⟨h1,h2⟩))
       · by_cases hA:s.id≤x.id
         · exact .inl (.inl (by rw [if_pos ⟨h1,hA⟩];simp))
         · exact .inr (ih _ (.inr ⟨rfl,by rw [h1];simp;omega⟩))
   rintro (h1 | ⟨h1,_⟩)
   · exact key l false (.inl h1)
   · exact key l false (.inr ⟨h1,rfl⟩)
theorem Zpz {t:TxD} {v:Zb1} (h:v ∈ ZaE t):v.tx≠t.id:=by
 have key:∀ (l:List OpD) (out:List Zb1),(∀ v ∈ out,v.tx≠t.id) → ∀ v ∈ l.foldl (ZaD t.id) out,v.tx≠t.id:=by
   intro l
   induction l with
   | nil=>intro out h;exact h
   | cons o l ih=>
     intro out h
     refine ih _ fun v hv=>?_
     unfold ZaD at hv
     split at hv
     · rename_i hc
       rcases List.mem_append.1 hv with hv | hv
       · exact h v hv
       · have e:v=ofO o:=by simpa using hv
         have hn:=hc.1
         unfold Zki at hn
         simp at hn
         rw [e]
         unfold ofO
         rw [if_pos hn.1.1]
         exact hn.2
     · exact h v hv
 exact key _ _ (fun v hv=>by cases hv) v h
theorem ZlS {g:Zj} {v:Zb1} (h:ZgR g v=true) (hz:¬ (v.tx=0∧v.nth=0)):isK TxD.id v.tx g.txs=true∧1≤v.nth:=by
 unfold ZgR at h
 rw [if_neg hz,Bool.and_eq_true,Bool.and_eq_true,Zkn] at h
 exact ⟨h.1,by simpa using h.2.1⟩
theorem Zqy {g:Zj} {t x:TxD} {v:Zb1} (h:ZeH g t=false) (hx:x ∈ g.txs) (hn:x.id≠t.id) (hv:v ∈ ZaE x) (e:v.tx=t.id):v.nth≤(wcnt t.ops v.key:Int):=by
 have h1:=List.any_eq_false.1 h x hx
 unfold ZjW at h1
 rw [decide_eq_true hn,Bool.true_and] at h1
 have h2:=List.any_eq_false.1 (by simpa using h1) v hv
 unfold ZjQ at h2
 simp [e] at h2
 omega
theorem ZiI {g:Zj} {t:TxD} (hs:Zbo g) (h:(Zaz g t).2=0):Zy (Zaz g t).1:=by
 unfold Zaz at h ⊢
 split at h
 · rename_i h1;exact absurd h h1
 · rename_i h1
   split at h
   · simp at h
   · rename_i h2
     obtain ⟨hr,hrt,hik,hnd,_⟩:=ZkG (by decide) (Decidable.not_not.1 h1)
     rw [if_neg h1,if_neg h2]
     obtain ⟨m1,m2⟩:=Zlo (Zs hr).1 hik
     refine ZeO (b:=true) hr hs.2 m1 ?_ m2 (fun _=>⟨hrt,hnd⟩) (fun h=>by cases h) fun x _ v _ e hv hz=>?_
     · have:=hr.1
       rw [List.length_append,List.length_append,List.length_take,List.length_drop];simp;omega
     · have:=(ZlS hv hz).1
       rw [e,hik] at this;cases this
theorem Zkp {g:Zj} {t:TxD} (hs:Zbo g) (h:(Za9 g t).2=0):Zy (Za9 g t).1:=by
 unfold Za9 at h ⊢
 split at h
 · rename_i h1;exact absurd h h1
 · rename_i h1
   split at h
   · simp at h
   · rename_i h2
     obtain ⟨hr,hrt,hik,hnd,_⟩:=ZkG (by decide) (Decidable.not_not.1 h1)
     rw [if_neg h1,if_neg h2]
     obtain ⟨m1,m2⟩:=Zk8 (Zs hr).1 hik
     refine ZeO (b:=true) hr hs.2 m1 (by rw [List.length_set];exact hr.1) m2 (fun _=>⟨hrt,hnd⟩) (fun h=>by cases h) fun x hx v hv e _ _=>⟨rfl,?_⟩
     rcases (m2 x).1 hx with ⟨h3,h4⟩ | ⟨rfl,_⟩
     · exact Zqy (by simpa using h2) h3 h4 hv e
     · exact absurd e (Zpz hv)
theorem Zju {g:Zj} {id:Int} (hs:Zbo g) (h:(Zam g id).2=0):Zy (Zam g id).1:=by
 unfold Zam at h ⊢
 split at h
 · simp at h
 · rename_i h1
   split at h
   · simp at h
   · rename_i h2
     split at h
     · simp at h
     · rename_i h3
       have hr:=Decidable.not_not.1 h1
       have hik:isK TxD.id id g.txs=true:=by simpa using h2
       have hri:=(Zs hr).1
       rw [if_neg h1,if_neg h2,if_neg h3,← Zhd (Zv.1 hri) hik]
       refine ZeO (b:=false) hr hs.2 (Zv.2 ((Zv.1 hri).filter _)) (Nat.le_trans (List.length_filter_le _ _) hr.1) (fun s=>?_) (fun h=>by cases h) (fun _=>rfl) fun x hx v hv e hg hz=>?_
       · rw [List.mem_filter];simp [Zdq]
       · rw [List.mem_filter] at hx
         have h5:=Zqy (t:=Zdq id) (by simpa using h3) hx.1 (by simpa [Zdq] using hx.2) hv e
         have h6:=(ZlS hg hz).2
         have h7:wcnt (Zdq id).ops v.key=0:=rfl
         rw [h7] at h5
         omega
theorem Zc0 {g:Zj} {key:Int} {rule:List Int→List Int×Int} (hp:∀ l,(rule l).2=0→(rule l).1.Perm l) (h:(Z8 g key rule).2=0):Zy (Z8 g key rule).1:=by
 by_cases hr:Zy g
 · by_cases hg:getO g.orders key = []
   · rw [Zr7 hr hg] at h;simp at h
   · by_cases h3:(rule (getO g.orders key)).2=0
     · have hpp:=hp _ h3
       have hne:(rule (getO g.orders key)).1≠[]:=fun e=>hg (by rw [e] at hpp;exact hpp.symm.eq_nil)
       rw [Zqn hr hg h3 hne,decide_eq_false hne]
       obtain ⟨h1,h2,h4,h5,h6,h7⟩:=Zaw.1 hr
       refine Zaw.2 ⟨h1,h2,fun t ht=>?_,Zv.2 (ZeM (Zv.1 h5)),fun o ho=>?_,fun k=>?_⟩
       · obtain ⟨g1,g2⟩:=h4 t ht
         exact ⟨g1,g2⟩
       · rcases ZfX ho with ⟨rfl,_⟩ | ⟨g1,_⟩
         · exact hne
         · exact h6 o g1
       · show (getO (ZbX OrdD.key _ g.orders false) k).Perm _
         rw [Zlz (Zv.1 h5)]
         by_cases e:k=key
         · subst e
           rw [if_pos rfl]
           exact hpp.trans (h7 k)
         · rw [if_neg e];exact h7 k
     · rw [Zsq hr hg h3] at h;exact absurd h h3
 · rw [Zm1 hr] at h;simp at h
theorem ZnG {o:OrdD} (l:List Int) (h:(Ze9 o l).2=0):(Ze9 o l).1.Perm l:=by
 unfold Ze9 at h ⊢
 split at h
 · rename_i hp;rw [if_pos hp];exact hp.symm
 · simp at h
theorem Zls {g:Zj} {e:EdD} (hs:Zbo g) (h:(doH g e).2=0):Zy (doH g e).1:=by
 unfold doH at h ⊢
 by_cases k0:e.kind=0
 · rw [if_pos k0] at h ⊢;exact ZiI hs h
 · rw [if_neg k0] at h ⊢
   by_cases k1:e.kind=1
   · rw [if_pos k1] at h ⊢;exact Zju hs h
   · rw [if_neg k1] at h ⊢
     by_cases k2:e.kind=2
     · rw [if_pos k2] at h ⊢;exact Zkp hs h
     · rw [if_neg k2] at h ⊢
       by_cases k3:e.kind=3
       · rw [if_pos k3] at h ⊢;exact Zc0 ZnG h
       · rw [if_neg k3] at h ⊢
         by_cases k4:e.kind=4
         · rw [if_pos k4] at h ⊢;exact Zc0 (rule:=fun l=>Zal l e.t.id e.place) (fun l h=>Zi3 h) h
         · rw [if_neg k4] at h;simp at h
theorem ZmT:Zy zeroH:=by decide +kernel
theorem ZpT (x y:List Int) (hx:x.length≤1000000) (hy:y.length≤1000000):FnP Tryz.prog 42 [.sl rInt x,.sl rInt y] (.tup [.sl Zff (ZaY x y).1,.int .i64 (ZaY x y).2]):=by
 refine FnP.mk Tryz.func42 rfl Tryz.ntmps42 rfl ?_
 intro B a w F hB hfr hS
 refine wp_seq ?_
 refine Za hS (qC (qI qZ)) hB [5,4,1,0] [0] rfl rfl fun a w F hS=>Zb (wp_seq (wp_seq ?_))
 refine Za hS (qM rfl rfl (qf (oP (Zln x) Tryz.func80 (Args.one .t)) r1 qz (qf (o_not .t) r1 qz (qM rfl rfl (qm rfl rfl rfl rfl (qk rfl (fun h=>oP (Zln y) Tryz.func80 (Args.one (.w h))) r2 qz (qk rfl (fun h=>o_not (.w h)) r2 qz (qf (Zao .t .t) r2 qz (qM rfl rfl (qm rfl rfl rfl rfl (qm rfl rfl rfl rfl (qk rfl (fun h=>oP (ZoD x y hx hy) Tryz.func26 (Args.two (.w h) (.w h))) r3 qz (qk rfl (fun h=>o_not (.w h)) r2 qz (qf (Zao .t .t) r2 qz qZ)))))))))))))) hB [23,5,4,1,0] [0] rfl rfl fun a w F hS=>Zb ?_
 refine Zd hS rfl (fun hc0=>?_) (fun hc0=>?_)
 ·skip
  have hno:¬ Zch x y:=by unfold Zch;rintro ⟨k1,k2,k3⟩;simp [k1,k2,k3] at hc0
  have hm:ZaY x y=([],8):=if_neg hno
  refine wp_seq ?_
  refine Za hS (qC (qI qZ)) hB [5,4,1,0] [0] rfl rfl fun a w F hS=>Zb (wp_ret (Ze ?_))
  refine Zt hfr hS rfl (.tmp rfl (.tmp rfl .nil)) (.two (.trans .nilSl (.sl (by rw [hm]))) (.int (by rw [hm])))
 have hok:Zch x y:=by unfold Zch;simp at hc0;simpa [and_assoc] using hc0
 have hxyl:=hok.2.2.length_eq
 refine wp_skip (Zb (wp_seq ?_))
 refine Za hS (qC qZ) hB [6,5,4,1,0] [0] rfl rfl fun a w F hS=>Zb (wp_seq ?_)
 replace hS:=hS.fresh 101 rfl
 refine Zc hS (qM rfl rfl (qf (Za2 101 (Zdb x hx) Tryz.func64 rfl (by kernel_rfl) (Args.one .t) ZaO) r1 r1 (qN rfl rfl qZ))) hB [7,6,5,4,1] [101,0] (fun _=>rfl) (fun _=>rfl) fun τ a w F hS=>?_
 try dsimp only [RS.sub,SF.sub,CF.sub,csub,Anc.sub,List.map,rInt,Zff] at hS
 generalize τ 25=v25 at hS
 obtain ⟨F,hS⟩:=hS.give 101 7 rfl rfl
 obtain ⟨F,hS⟩:=hS.nm [7,6,5,4,1] [0] rfl rfl
 refine Zb (wp_seq (wp_seq ?_))
 refine Za hS (qM rfl rfl (qu Tryz.underlying39 r1 (qJ qZ))) hB [28,27,26,7,6,5,4] [0] rfl rfl fun a w F hS=>Zb (wp_block ?_)
 replace hS:=hS.fresh 50 rfl
 replace hS:=hS.turn 50 rfl (ZaC (T:=87) (sz:=2) (R:=Zff))
 refine Zr (σ:=(Nat)×(List Int)×(Value)×(List Zcg)) [4,5,26,27] [0] (fun s=>[(28,.pv (.int .i64 (s.1:Int))),(7,.pv (.sl rInt s.2.1)),(6,.pv (.is s.2.2.1))]) (fun s=>[(50,.ob (.val s.2.2.1) (Zu 87 2 Zff s.2.2.2))]) (fun s=>s.1≤y.length∧(Zax x 0 y=s.2.2.2++Zax s.2.1 s.1 (y.drop s.1)∧(s.2.1).Perm x∧(s.2.2.2).length≤s.1)) (fun s=>y.length - s.1) ((0),(x),(.slice none 0 0),([])) hS ⟨rfl,rfl,rfl,rfl,rfl,rfl,rfl,trivial⟩ ⟨rfl,rfl,trivial⟩ ⟨Nat.zero_le _,⟨rfl,.refl _,Nat.zero_le _⟩⟩ ?_
 clear hS;intro s a w F hC hS
 obtain ⟨i,now,v,out⟩:=s
 try dsimp only at hC
 obtain ⟨F,hS⟩:=hS.nm [28,27,26,7,6,5,4] [50,0] rfl rfl
 try dsimp only at hS
 obtain ⟨hi,hq⟩:=hC
 obtain ⟨hst,hpm,hol⟩:=hq
 have hnl:now.length=x.length:=hpm.length_eq
 have hdn:=@Zcu _ _ y i
 refine wp_seq ?_
 refine Za hS (qL r2) hB [29,28,27,26,7,6,5,4] [50,0] rfl rfl fun a w F hS=>Zb (wp_seq ?_)
 refine Zd hS rfl (fun hc1=>?_) (fun hc1=>?_)
 ·skip
  have hil:i<y.length:=by simp at hc1;omega
  refine wp_skip (Zb (wp_seq (wp_block (wp_seq ?_))))
  refine Za hS (qM rfl rfl (qy 1 Tryz.underlying39 r2 (qf (oR false 1 .t) r1 qz (qN rfl rfl (qN rfl rfl qZ))))) hB [28,27,26,9,8,7,6,5,4] [50,0] rfl rfl fun a w F hS=>?_
  try simp only [Int.toNat_natCast] at hS
  refine Zb (wp_seq (wp_seq ?_))
  refine Za hS (qM rfl rfl (qM rfl rfl (qy 1 Tryz.underlying39 r2 (qf (oR false 1 .t) r1 qz (qM rfl rfl (qf (o_eql .t .t) r2 qz qZ)))))) hB [38,28,27,26,9,8,7,6,5,4] [50,0] rfl rfl fun a w F hS=>?_
  try simp only [Int.toNat_natCast] at hS
  refine Zb ?_
  refine Zd hS rfl (fun hc2=>?_) (fun hc2=>?_)
  ·skip
   have hne:Go.Gm.nth now i=Go.Gm.nth y i:=by simpa using hc2
   have hst2:=Zg7 (to:=y.drop (i+1)) hne
   rw [← Zcu hil] at hst2
   have hpm2:=hpm
   obtain ⟨now2,hn2⟩:∃ z,z=now:=⟨_,rfl⟩
   rw [← hn2] at hS hst hst2 hpm2
   refine wp_exit (Zi (Zo (Zb ?_)))
   refine Za hS (qp r1 (qM rfl rfl qZ)) hB [28,27,26,7,6,5,4] [50,0] rfl rfl fun a w F hS=>Zb ?_
   replace hS:=hS.ent (i:=28) (s':=.pv (.int .i64 ((i+1:Nat):Int))) rfl (.int (wrap_succ (by omega)))
   obtain ⟨F,hS⟩:=hS.nm [27,26,5,4,6,7,28] [0,50] rfl rfl
   exact ⟨((i+1),(now2),_,_),F,⟨by omega,⟨by first | (rw [hst,hst2];done) | (rw [hst,hst2];simp),hpm2,by first | omega | (simp only [List.length_append,List.length_cons,List.length_nil];omega)⟩⟩,hS,by omega⟩
  have hne:¬ Go.Gm.nth now i=Go.Gm.nth y i:=by simpa using hc2
  have hst2:=Zj3 (to:=y.drop (i+1)) hne
  rw [← Zcu hil] at hst2
  have hpm2:=(Zdj (place:=(i:Int)) (hpm.mem_iff.2 (hok.2.2.mem_iff.2 (ZB hil))) (by omega)).trans hpm
  obtain ⟨now2,hn2⟩:∃ z,z=(Zal now (Go.Gm.nth y i) i).1:=⟨_,rfl⟩
  rw [← hn2] at hst2 hpm2
  refine wp_skip (Zb (wp_seq ?_))
  refine Za hS (qM rfl rfl (qM rfl rfl (qM rfl rfl (qf (oP (Zoy now (Go.Gm.nth y i) i (by omega)) Tryz.func81 (Args.three .t .t .t)) r3 qz (qM rfl rfl (qf (o_extract .t rfl) r1 qz (qf (o_extract .t rfl) r1 qz (qN rfl rfl qZ)))))))) hB [28,27,26,9,8,7,6,5,4] [50,0] rfl rfl fun a w F hS=>?_
  rw [← hn2] at hS
  refine Zb ?_
  refine Zc hS (qM rfl rfl (qM rfl rfl (qM rfl rfl (qf (oB [(0,.tmp 47),(1,.tmp 48)] [.int .i64 0,.int .i64 0] [(0,1),(1,1)] (.one rfl .t one_int (by kernel_rfl) (.one rfl .t one_int (by kernel_rfl) .nil))) r2 qz (qf (Zk (sz:=2) (zs:=[.int .i64 0,.int .i64 0]) (r:=[(0,.tmp 49)]) (l:=[_,_]) Tryz.underlying83 (by kernel_rfl) (by kernel_rfl) (by kernel_rfl) (by kernel_rfl) rfl rfl (.agg rfl .t (by kernel_rfl) (by kernel_rfl) .nil) rfl) r1 qz (qf (o_append (sz:=2) (bs:=16) 50 (.mk' Tryz.underlying83 (by kernel_rfl) (by kernel_rfl)) (by intro x;rfl) .is (.arr (l':=[(⟨Go.Gm.nth y i,i⟩:Zcg)]) .t) (by simp only [List.length_append,List.length_cons,List.length_nil];omega) (by decide)) ⟨rfl,rfl,trivial⟩ ⟨rfl,trivial⟩ (qN rfl rfl qZ))))))) hB [28,27,26,7,6,5,4] [50,0] (fun _=>rfl) (fun _=>rfl) fun τ a w F hS=>?_
  try dsimp only [RS.sub,SF.sub,CF.sub,csub,Anc.sub,List.map,Zf,xL,xM,Nat.reduceAdd,xD,xE,xT,xU,xC,xN,zCF,rInt,Zff] at hS
  generalize τ 51=v51 at hS
  refine Zh (Zb ?_)
  refine Za hS (qp r1 (qM rfl rfl qZ)) hB [28,27,26,7,6,5,4] [50,0] rfl rfl fun a w F hS=>Zb ?_
  replace hS:=hS.ent (i:=28) (s':=.pv (.int .i64 ((i+1:Nat):Int))) rfl (.int (wrap_succ (by omega)))
  obtain ⟨F,hS⟩:=hS.nm [27,26,5,4,6,7,28] [0,50] rfl rfl
  exact ⟨((i+1),(now2),_,_),F,⟨by omega,⟨by first | (rw [hst,hst2];done) | (rw [hst,hst2];simp),hpm2,by first | omega | (simp only [List.length_append,List.length_cons,List.length_nil];omega)⟩⟩,hS,by omega⟩
 have hil:i=y.length:=by simp at hc1;omega
 rw [hil,List.drop_length,Zax,List.append_nil] at hst
 have hm:ZaY x y=(out,0):=by unfold ZaY;rw [if_pos hok,hst]
 refine wp_exit (Zi (Zi (Zo (Zb (wp_seq ?_)))))
 refine Za hS (qM rfl rfl (qN rfl rfl (qI qZ))) hB [5,4] [50,0] rfl rfl fun a w F hS=>Zb (wp_ret ?_)
 obtain ⟨F,hS⟩:=hS.give 50 4 rfl rfl
 refine Zt hfr hS rfl (.tmp rfl (.tmp rfl .nil)) (.two (.sl (by rw [hm])) (.int (by rw [hm])))
theorem ZaX.nth {l:List Int} (h:ZaX l) {i:Nat} (hi:i<l.length):Go.Gm.nth l i≠0:=by
 have:=(h.1 _ (ZB hi)).1
 omega
theorem ZeZ:∀ (s:List Zcg) (l:List Int) (p:Zcg),ZaZ l (s ++ [p])=(Zal (ZaZ l s) p.key p.val).1
 | [],l,p=>rfl
 | q :: s,l,p=>ZeZ s _ p
theorem ZdF:∀ (to now:List Int) (i:Int),∀ p ∈ Zax now i to,p.key ∈ to∧i≤p.val∧p.val<i+to.length
 | [],now,i,p,h=>by cases h
 | x :: to,now,i,p,h=>by
   have key:∀ now',p ∈ Zax now' (i+1) to→p.key ∈ x :: to∧i≤p.val∧p.val<i+(x :: to).length:=fun now' h=>by
     obtain ⟨h1,h2,h3⟩:=ZdF to now' (i+1) p h
     refine ⟨List.mem_cons_of_mem _ h1,by omega,?_⟩
     rw [List.length_cons];omega
   unfold Zax at h
   split at h
   · exact key _ h
   · rcases List.mem_cons.1 h with rfl | h
     · refine ⟨List.mem_cons_self,Int.le_refl _,?_⟩
       rw [List.length_cons]
       show i<_
       omega
     · exact key _ h
theorem Zc2:∀ (s:List Zcg) (l:List Int),(∀ p ∈ s,p.key ∈ l∧0≤p.val∧p.val<l.length)→(ZaZ l s).Perm l
 | [],l,_=>.refl _
 | p :: s,l,h=>by
   obtain ⟨h1,h2,h3⟩:=h p (by simp)
   have hp:=Zdj h1 ⟨h2,h3⟩
   refine (Zc2 s _ fun q hq=>?_).trans hp
   obtain ⟨k1,k2,k3⟩:=h q (by simp [hq])
   exact ⟨hp.mem_iff.2 k1,k2,by rw [hp.length_eq];exact k3⟩
theorem ZdQ:∀ (to now:List Int) (i:Nat),now.drop i=to→Zax now i to = []
 | [],now,i,_=>rfl
 | x :: to,now,i,h=>by
   have hi:i<now.length:=by
     rcases Nat.lt_or_ge i now.length with h1 | h1
     · exact h1
     · rw [List.drop_eq_nil_of_le h1] at h;cases h
   rw [Zcu hi] at h
   injection h with h1 h2
   rw [Zg7 h1]
   exact ZdQ to now (i+1) h2
structure Zm8 (x y:List Int) (s:List Zcg):Prop where
 keys:(s.map Zcg.key).Nodup
 done:ZaZ x s=y
 each:∀ i,i<s.length→Zal (ZaZ x (s.take i)) (Go.Gm.nth s i).key (Go.Gm.nth s i).val=(ZaZ x (s.take (i+1)),0)
 none:(s.length:Int)=0 ↔ x=y
 len:∀ i,(ZaZ x (s.take i)).length=x.length
 short:s.length≤y.length
theorem steps_facts {x y:List Int} {s:List Zcg} (h:Zch x y) (hs:s=Zax x 0 y):Zm8 x y s:=by
 have hv:∀ p ∈ s,p.key ∈ x∧0≤p.val∧p.val<x.length:=fun p hp=>by
   rw [hs] at hp
   obtain ⟨h1,h2,h3⟩:=ZdF y x 0 p hp
   exact ⟨h.2.2.mem_iff.2 h1,h2,by rw [h.2.2.length_eq];omega⟩
 have hvt:∀ i,∀ p ∈ s.take i,p.key ∈ x∧0≤p.val∧p.val<x.length:=fun i p hp=>hv p (List.mem_of_mem_take hp)
 have hd:ZaZ x s=y:=by
   have:=Zdv y x [] h.2.2 rfl h.1.2
   rw [hs];exact this
 obtain ⟨ks,k1,k2⟩:=ZdP y x 0
 refine ⟨by rw [hs,k2];exact h.2.1.2.sublist k1,hd,fun i hi=>?_,⟨fun h0=>?_,fun e=>?_⟩,fun i=>(Zc2 _ _ (hvt i)).length_eq,?_⟩
 · obtain ⟨h1,h2,h3⟩:=hv _ (ZB hi)
   have hp:=Zc2 _ _ (hvt i)
   rw [ZE hi,ZeZ,Zh7 (hp.mem_iff.2 h1) ⟨h2,by rw [hp.length_eq];exact h3⟩]
 · have:s = []:=List.eq_nil_of_length_eq_zero (by omega)
   rw [this] at hd;exact hd
 · subst e
   rw [hs,show Zax x 0 x = [] from ZdQ x x 0 rfl];rfl
 · have:=k1.length_le
   rw [← k2,List.length_map] at this
   rw [hs];exact this
def ZcV (t:TxD):Bool:=t.ops.any fun o=>o.read
theorem Zoo (t:TxD):(!decide (t=bareT t))=ZcV t:=by
 unfold ZcV
 rw [Bool.eq_iff_iff]
 simp only [Bool.not_eq_true',decide_eq_false_iff_not,List.any_eq_true]
 constructor
 · intro h
   refine Classical.byContradiction fun h2=>h ?_
   obtain ⟨a,b,c⟩:=t
   unfold bareT
   congr 1
   symm
   rw [List.filter_eq_self]
   intro o ho
   cases hr:o.read with
   | false=>rfl
   | true=>exact absurd ⟨o,ho,hr⟩ h2
 · rintro ⟨o,ho,hr⟩ e
   have:o ∈ (bareT t).ops:=by rw [← e];exact ho
   unfold bareT at this
   have:=(List.mem_filter.1 this).2
   rw [hr] at this;cases this
def Ze2 (t:TxD):CmdD:={zeroC 1 with tx:=bareT t}
def ZdU (t:TxD):CmdD:={zeroC 2 with tx:=t}
def ZmD (k:Int) (p:Zcg):CmdD:={zeroC 5 with key:=k,id:=p.key,place:=p.val}
def ZM (g:Zj) (c:CmdD):Zj×Int:=if c.kind=1 then Zaz g c.tx else if c.kind=2 then Za9 g c.tx else if c.kind=3 then Zam g c.id else if c.kind=4 then Zdo g c.order else if c.kind=5 then ZmE g c.key c.id c.place else (zeroH,11)
def playC:Zj→List CmdD→Nat→Zj×Nat×Int
 | g,[],i=>(g,i,0)
 | g,c :: l,i=>if (ZM g c).2≠0 then (zeroH,i,(ZM g c).2) else playC (ZM g c).1 l (i+1)
theorem Zji {g0 g:Zj} {l:List CmdD} {i:Nat} (h:playC g0 l 0=playC g (l.drop i) i) (hi:i=l.length):playC g0 l 0=(g,l.length,0):=by
 rw [h,hi,List.drop_length];rfl
theorem Zjl {g0 g:Zj} {l:List CmdD} {i:Nat} (h:playC g0 l 0=playC g (l.drop i) i) (hi:i<l.length) (h2:(ZM g (Go.Gm.nth l i)).2≠0):playC g0 l 0=(zeroH,i,(ZM g (Go.Gm.nth l i)).2):=by
 rw [h,Zcu hi,playC,if_pos h2]
theorem ZgX {g0 g:Zj} {l:List CmdD} {i:Nat} (h:playC g0 l 0=playC g (l.drop i) i) (hi:i<l.length) (h2:¬ (ZM g (Go.Gm.nth l i)).2≠0):playC g0 l 0=playC (ZM g (Go.Gm.nth l i)).1 (l.drop (i+1)) (i+1):=by
 rw [h,Zcu hi,playC,if_neg h2]
def ZaF (c:CmdD):Prop:=c.tx.ops.length≤24∧c.order.txs.length≤24
instance (c:CmdD):Decidable (ZaF c):=by unfold ZaF;exact inferInstance
def ZoU (l:List CmdD):Prop:=l.length≤40 ∧ ∀ c ∈ l,ZaF c
instance (l:List CmdD):Decidable (ZoU l):=by unfold ZoU;exact inferInstance
theorem LightC.at {l:List CmdD} (h:ZoU l) {i:Nat} (hi:i<l.length):ZaF (Go.Gm.nth l i):=h.2 _ (ZB hi)
def toE (c:CmdD):EdD:=if c.kind=1 then ⟨0,c.tx,⟨0,[]⟩,0⟩ else if c.kind=2 then ⟨2,c.tx,⟨0,[]⟩,0⟩ else if c.kind=3 then ⟨1,⟨c.id,false,[]⟩,⟨0,[]⟩,0⟩ else if c.kind=4 then ⟨3,zeroT,c.order,0⟩ else ⟨4,⟨c.id,false,[]⟩,⟨c.key,[]⟩,c.place⟩
theorem Zn5 {g:Zj} {c:CmdD} (h:(ZM g c).2=0):ZM g c=doH g (toE c):=by
 unfold ZM at h ⊢
 unfold toE
 by_cases k1:c.kind=1
 · simp only [if_pos k1];rfl
 · by_cases k2:c.kind=2
   · simp only [if_neg k1,if_pos k2];rfl
   · by_cases k3:c.kind=3
     · simp only [if_neg k1,if_neg k2,if_pos k3];rfl
     · by_cases k4:c.kind=4
       · simp only [if_neg k1,if_neg k2,if_neg k3,if_pos k4];rfl
       · by_cases k5:c.kind=5
         · simp only [if_neg k1,if_neg k2,if_neg k3,if_neg k4,if_pos k5];rfl
         · simp only [if_neg k1,if_neg k2,if_neg k3,if_neg k4,if_neg k5] at h;exact absurd h (by decide)
theorem Zi9 {c:CmdD} (h:ZaF c):ZeY (toE c):=by
 unfold toE ZeY
 obtain ⟨h1,h2⟩:=h
 split
 · exact ⟨h1,Nat.zero_le _⟩
 · split
   · exact ⟨h1,Nat.zero_le _⟩
   · split
     · exact ⟨Nat.zero_le _,Nat.zero_le _⟩
     · split
       · exact ⟨Nat.zero_le _,h2⟩
       · exact ⟨Nat.zero_le _,Nat.zero_le _⟩
def ZaT (n:Nat) (g:Zj):Prop:=Zy g∧g.txs.length≤n ∧ ∀ t ∈ g.txs,t.ops.length≤24
theorem Zpl:∀ l:List TxD,(∀ t ∈ l,t.ops.length≤24)→(ZbU l).length≤24*l.length:=fun l h=>by
 unfold ZbU
 refine Nat.le_trans (Zf9 _) ?_
 induction l with
 | nil=>simp
 | cons t l ih=>
   have h1:=ih fun x hx=>h x (by simp [hx])
   have h2:=h t (by simp)
   have h3:=ZcF t
   by_cases hd:t.done=true
   · rw [List.filter_cons_of_pos (by simpa using hd),List.flatMap_cons,List.length_append,List.length_cons]
     omega
   · rw [List.filter_cons_of_neg (by simpa using hd),List.length_cons]
     omega
theorem ZaT.fit {n:Nat} {g:Zj} (h:ZaT n g):Fit n g:=by
 obtain ⟨hr,h1,h2⟩:=h
 refine ⟨⟨h1,h2⟩,?_,fun o ho=>?_⟩
 · have:=Zpl g.txs h2
   rw [hr.2.2.1]
   exact Nat.le_trans this (Nat.mul_le_mul_left _ h1)
 · obtain ⟨i,hi,e⟩:=List.getElem_of_mem ho
   have:=(hr.2.2.2 i hi).2.length_eq
   rw [Zp hi,e] at this
   rw [this]
   exact Nat.le_trans (ZbT _ _) h1
theorem Fit.small40 {n:Nat} {g:Zj} (h:Fit n g) (hn:n≤41):Zbo g:=by
 obtain ⟨⟨h1,h2⟩,h3,h4⟩:=h
 exact ⟨⟨by omega,fun t ht=>by have:=h2 t ht;omega⟩,by omega,fun o ho=>by have:=h4 o ho;omega⟩
theorem ZaT.edit {n:Nat} {g:Zj} {c:CmdD} (h:ZaT n g) (hn:n≤41) (hc:ZaF c) (h0:¬ (ZM g c).2≠0):ZaT (n+1) (ZM g c).1:=by
 have h0:=Decidable.not_not.1 h0
 have e:=Zn5 h0
 rw [e] at h0 ⊢
 have hf:=h.fit.doH (Zi9 hc)
 exact ⟨Zls (h.fit.small40 hn) h0,hf.1.1,hf.1.2⟩
theorem ZaT.zero:ZaT 0 zeroH:=⟨ZmT,Nat.le_refl _,fun t ht=>by cases ht⟩
theorem Zgm (x y:List Int):(ZaY x y).1.length≤y.length:=by
 unfold ZaY
 split
 · rename_i h;exact (steps_facts h rfl).short
 · simp
theorem ZeS {α:Type} [Inhabited α] {β:Type} {f:α→Bool} {m:α→β} {l:List α} {i:Nat} (h:i<l.length) (b:Bool) (hb:f (Go.Gm.nth l i)=b):((l.take (i+1)).filter f).map m=((l.take i).filter f).map m++if b=true then [m (Go.Gm.nth l i)] else []:=by
 rw [ZE h,List.filter_append,List.map_append]
 subst hb
 by_cases e:f (Go.Gm.nth l i)=true
 · rw [if_pos e,List.filter_cons_of_pos e];rfl
 · rw [if_neg e,List.filter_cons_of_neg e];rfl
theorem Zf0 {α β:Type} [Inhabited α] {m:α→β} {l:List α} {i:Nat} (h:i<l.length):(l.take (i+1)).map m=(l.take i).map m ++ [m (Go.Gm.nth l i)]:=by rw [ZE h,List.map_append];rfl
inductive ZQ where
 | none
 | away (t:TxD)
 | plain (t:TxD) (b:Bool)
 | whole (t:TxD)
 deriving Inhabited
def ZA:ZQ→PV
 | .none=>.is .nilIface
 | .away t=>.ifc 132 (.agg (rTx t))
 | .plain t b=>.ifc 130 (.agg [.int .i64 t.id,.bool t.done,.sl rOp t.ops,.bool b])
 | .whole t=>.ifc 133 (.agg (rTx t))
def ZF (s:ZQ):List PV:=[ZA s]
def ZaN (l:List ZQ):List PV:=[.sl ZF l]
structure ZY where
 t:TxD
 there:Bool
 just:Bool
 reads:Bool
 deriving Inhabited
def ZR (s:ZY):List PV:=[.int .i64 s.t.id,.bool s.t.done,.sl rOp s.t.ops,.bool s.there,.bool s.just,.bool s.reads]
def hasT (o:Zj) (t:TxD):Bool:=(ZN o.txs t.id).isSome
def Za5 (o:Zj) (t:TxD):Bool:=(ZN o.txs t.id).isSome && decide (t=(ZN o.txs t.id).getD zeroT)
def Zcw (o:Zj) (t:TxD):ZY:=⟨t,hasT o t,Za5 o t,ZcV t⟩
def Zm (h o:Zj):List ZY:=h.txs.map (Zcw o)
def ZcW (l:List ZY):List ZQ:=(l.filter fun s=>!s.just && s.reads).map fun s=>.plain s.t true
def ZeQ (l:List ZY):List ZQ:=(l.filter fun s=>!s.there).map fun s=>.away s.t
def Zfh (l:List ZY):List ZQ:=(l.filter fun s=>!s.just && s.there).map fun s=>.plain s.t true
def Ze8 (l:List ZY):List ZQ:=(l.filter fun s=>!s.just && !s.there).map fun s=>.plain s.t false
def ZdY (l:List ZY):List ZQ:=(l.filter fun s=>!s.just && s.reads).map fun s=>.whole s.t
def Zat (a b:Zj):List (List ZQ):=[ZcW (Zm a b),ZeQ (Zm a b),Zfh (Zm b a),Ze8 (Zm b a),ZdY (Zm b a)]
def Zfd (t:TxD):CmdD:={zeroC 3 with id:=t.id}
def Zcz:ZQ→CmdD
 | .none=>zeroC 0
 | .away t=>Zfd t
 | .plain t b=>if b=true then ZdU (bareT t) else Ze2 t
 | .whole t=>ZdU t
def ZX (a b:Zj):List CmdD:=
 ((((a.txs.filter fun t=>!Za5 b t && ZcV t).map fun t=>ZdU (bareT t))++((a.txs.filter fun t=>!hasT b t).map Zfd))++((b.txs.filter fun t=>hasT a t && !Za5 a t).map fun t=>ZdU (bareT t)))++((b.txs.filter fun t=>!hasT a t).map Ze2)++((b.txs.filter fun t=>!Za5 a t && ZcV t).map ZdU)
theorem Zoq {β:Type} (o:Zj) (f:ZY→Bool) (m:ZY→β) (l:List TxD):((l.map (Zcw o)).filter f).map m=(l.filter fun t=>f (Zcw o t)).map fun t=>m (Zcw o t):=by rw [List.filter_map,List.map_map];rfl
theorem Zmy {o:Zj} {t:TxD} : (!Za5 o t && !hasT o t) = !hasT o t:=by
 unfold Za5 hasT
 cases (ZN o.txs t.id).isSome <;> simp
theorem Zgv (a b:Zj):(Zat a b).flatten.map Zcz=ZX a b:=by
 unfold Zat ZX ZcW ZeQ Zfh Ze8 ZdY Zm
 simp only [List.flatten_cons,List.flatten_nil,List.append_nil,List.map_append,List.map_map,Zoq]
 have e1:∀ t:TxD,(!(Zcw a t).just && !(Zcw a t).there) = !hasT a t:=fun t=>Zmy
 have e2:∀ t:TxD,(!(Zcw a t).just && (Zcw a t).there)=(hasT a t && !Za5 a t):=fun t=>Bool.and_comm _ _
 simp only [e1,e2,List.append_assoc]
 rfl
theorem Zl4 {a b:Zj} {s:ZQ} (h:s ∈ (Zat a b).flatten):s ≠ .none:=by
 unfold Zat ZcW ZeQ Zfh Ze8 ZdY at h
 simp only [List.flatten_cons,List.flatten_nil,List.append_nil,List.mem_append,List.mem_map] at h
 rcases h with ⟨_,_,rfl⟩ | ⟨_,_,rfl⟩ | ⟨_,_,rfl⟩ | ⟨_,_,rfl⟩ | ⟨_,_,rfl⟩ <;> (intro h;cases h)
theorem Zbf {α β:Type} (f:α→Bool) (m:α→β) (l:List α):((l.filter f).map m).length≤l.length:=by
 rw [List.length_map];exact List.length_filter_le _ _
theorem Zdw (a b:Zj):(Zat a b).flatten.length≤2*a.txs.length+3*b.txs.length:=by
 unfold Zat ZcW ZeQ Zfh Ze8 ZdY Zm
 simp only [List.flatten_cons,List.flatten_nil,List.append_nil,List.length_append]
 have h1:=fun (f:ZY→Bool) (m:ZY→ZQ)=>Zbf f m (a.txs.map (Zcw b))
 have h2:=fun (f:ZY→Bool) (m:ZY→ZQ)=>Zbf f m (b.txs.map (Zcw a))
 simp only [List.length_map] at h1 h2 ⊢
 have a1:=h1 (fun s=>!s.just && s.reads) (fun s=>.plain s.t true)
 have a2:=h1 (fun s=>!s.there) (fun s=>.away s.t)
 have a3:=h2 (fun s=>!s.just && s.there) (fun s=>.plain s.t true)
 have a4:=h2 (fun s=>!s.just && !s.there) (fun s=>.plain s.t false)
 have a5:=h2 (fun s=>!s.just && s.reads) (fun s=>.whole s.t)
 omega
theorem Zhr (a b:Zj):(ZX a b).length≤2*a.txs.length+3*b.txs.length:=by
 rw [← Zgv,List.length_map];exact Zdw a b
theorem Zi8 {a b:Zj} (ha:∀ t ∈ a.txs,t.ops.length≤24) (hb:∀ t ∈ b.txs,t.ops.length≤24):∀ c ∈ ZX a b,ZaF c:=fun c hc=>by
 have hbare:∀ t:TxD,t.ops.length≤24→(bareT t).ops.length≤24:=fun t h=>Nat.le_trans (List.length_filter_le _ _) h
 unfold ZX at hc
 simp only [List.mem_append,List.mem_map,List.mem_filter] at hc
 rcases hc with (((⟨t,ht,rfl⟩ | ⟨t,ht,rfl⟩) | ⟨t,ht,rfl⟩) | ⟨t,ht,rfl⟩) | ⟨t,ht,rfl⟩
 · exact ⟨hbare t (ha t ht.1),Nat.zero_le _⟩
 · exact ⟨Nat.zero_le _,Nat.zero_le _⟩
 · exact ⟨hbare t (hb t ht.1),Nat.zero_le _⟩
 · exact ⟨hbare t (hb t ht.1),Nat.zero_le _⟩
 · exact ⟨hb t ht.1,Nat.zero_le _⟩
def Zex (n:Nat) (g:Zj):Prop:=Zbo g∧g.txs.length≤n ∧ ∀ t ∈ g.txs,t.ops.length≤24
theorem Zmd {g:Zj} {c:CmdD} (h:¬ (ZM g c).2≠0):Zy g:=by
 refine Classical.byContradiction fun hr=>h ?_
 unfold ZM
 have m:∀ t there wanted,mayH g t there wanted=(0,5):=fun t there wanted=>ZsK hr
 split
 · unfold Zaz;rw [m,if_pos (show ((0:Int),(5:Int)).2≠0 by decide)];decide
 · split
   · unfold Za9;rw [m,if_pos (show ((0:Int),(5:Int)).2≠0 by decide)];decide
   · split
     · unfold Zam;rw [if_pos hr];decide
     · split
       · unfold Zdo;rw [Zm1 hr];decide
       · split
         · unfold ZmE;rw [Zm1 hr];decide
         · decide
theorem Fit.small160 {n:Nat} {g:Zj} (h:Fit n g) (hn:n≤166):Zbo g:=by
 obtain ⟨⟨h1,h2⟩,h3,h4⟩:=h
 exact ⟨⟨by omega,fun t ht=>by have:=h2 t ht;omega⟩,by omega,fun o ho=>by have:=h4 o ho;omega⟩
theorem ZaT.edit2 {n:Nat} {g:Zj} {c:CmdD} (h:ZaT n g) (hn:n≤165) (hc:ZaF c) (h0:¬ (ZM g c).2≠0):ZaT (n+1) (ZM g c).1:=by
 have h0:=Decidable.not_not.1 h0
 have e:=Zn5 h0
 rw [e] at h0 ⊢
 have hf:=h.fit.doH (Zi9 hc)
 exact ⟨Zls (h.fit.small160 (by omega)) h0,hf.1.1,hf.1.2⟩
theorem Zex.edit {n:Nat} {g:Zj} {c:CmdD} (h:Zex n g) (hn:n≤165) (hc:ZaF c) (h0:¬ (ZM g c).2≠0):Zex (n+1) (ZM g c).1:=by
 have hf:ZaT (n+1) (ZM g c).1:=ZaT.edit2 ⟨Zmd h0,h.2⟩ hn hc h0
 exact ⟨hf.fit.small160 (by omega),hf.2⟩
theorem Zex.none {n:Nat} : Zex n zeroH:=⟨⟨⟨by simp [zeroH],fun t ht=>by cases ht⟩,by simp [zeroH],fun o ho=>by cases ho⟩,by simp [zeroH],fun t ht=>by cases ht⟩
theorem Zex.play:∀ (l:List CmdD) {n i:Nat} {g:Zj},Zex n g→n+l.length≤166→(∀ c ∈ l,ZaF c)→Zbo (playC g l i).1
 | [],n,i,g,h,_,_=>h.1
 | c :: l,n,i,g,h,hn,hl=>by
   rw [List.length_cons] at hn
   unfold playC
   by_cases h0:(ZM g c).2≠0
   · rw [if_pos h0];exact (Zex.none (n:=0)).1
   · rw [if_neg h0];exact Zex.play l (h.edit (by omega) (hl c (by simp)) h0) (by omega) fun x hx=>hl x (by simp [hx])
def mvC (h:Zj) (o:OrdD):List CmdD:=(ZaY (getO h.orders o.key) o.txs).1.map (ZmD o.key)
def Zae (a b:Zj):List CmdD×Int:=if ¬ Zy a∨¬ Zy b then ([],5) else (ZX a b++b.orders.flatMap (mvC (playC a (ZX a b) 0).1),0)
theorem ZqT (h:Zj) (o:OrdD):(mvC h o).length≤o.txs.length:=by unfold mvC;rw [List.length_map];exact Zgm _ _
theorem ZoG {h:Zj} {os:List OrdD} (hs:Zcx os) (i:Nat):((os.take i).flatMap (mvC h)).length≤1000*i:=by
 induction i with
 | zero=>simp
 | succ i ih=>
   by_cases hi:i<os.length
   · rw [ZE hi,List.flatMap_append,List.length_append]
     have h1:=ZqT h (Go.Gm.nth os i)
     have h2:=hs.at hi
     simp only [List.flatMap_cons,List.flatMap_nil,List.append_nil]
     omega
   · rw [List.take_of_length_le (by omega)]
     rw [List.take_of_length_le (by omega)] at ih
     omega
def ZjC (l:List (List ZQ)):Nat:=(l.map List.length).sum
theorem Zeu {l:List (List ZQ)} {i:Nat} (hi:i<l.length):ZjC (l.take (i+1))=ZjC (l.take i)+(Go.Gm.nth l i).length:=by unfold ZjC;rw [ZE hi,List.map_append,List.sum_append];simp
theorem ZdW:∀ l:List (List ZQ),ZjC l=l.flatten.length
 | []=>rfl
 | x :: l=>by unfold ZjC;rw [List.map_cons,List.sum_cons,List.flatten_cons,List.length_append];have:=ZdW l;unfold ZjC at this;omega
theorem Zgw (l:List (List ZQ)) (i:Nat):ZjC (l.take i)≤l.flatten.length:=by
 have h:ZjC l=ZjC (l.take i)+ZjC (l.drop i):=by
   unfold ZjC
   rw [← List.sum_append,← List.map_append,List.take_append_drop]
 have:=ZdW l
 omega
theorem ZlY {l:List (List ZQ)} {i:Nat} (hi:i<l.length):(l.take (i+1)).flatten=(l.take i).flatten++Go.Gm.nth l i:=by rw [ZE hi,List.flatten_append];simp
def fA (a b:Zj):List CmdD:=(a.txs.filter fun t=>!Za5 b t && ZcV t).map fun t=>ZdU (bareT t)
def fB (a b:Zj):List CmdD:=(a.txs.filter fun t=>!hasT b t).map Zfd
def fC (a b:Zj):List CmdD:=(b.txs.filter fun t=>hasT a t && !Za5 a t).map fun t=>ZdU (bareT t)
def fD (a b:Zj):List CmdD:=(b.txs.filter fun t=>!hasT a t).map Ze2
def fE (a b:Zj):List CmdD:=(b.txs.filter fun t=>!Za5 a t && ZcV t).map ZdU
theorem ZnI {a b:Zj} {n:Nat} (ha:∀ t ∈ a.txs,t.ops.length≤n) (hb:∀ t ∈ b.txs,t.ops.length≤n) {s:ZQ} (h:s ∈ (Zat a b).flatten):(match s with | .none=>[] | .away t=>t.ops | .plain t _=>t.ops | .whole t=>t.ops).length≤n:=by
 unfold Zat ZcW ZeQ Zfh Ze8 ZdY Zm at h
 simp only [List.flatten_cons,List.flatten_nil,List.append_nil,List.mem_append,List.mem_map,List.mem_filter] at h
 rcases h with ⟨_,⟨⟨t,ht,rfl⟩,_⟩,rfl⟩ | ⟨_,⟨⟨t,ht,rfl⟩,_⟩,rfl⟩ | ⟨_,⟨⟨t,ht,rfl⟩,_⟩,rfl⟩ | ⟨_,⟨⟨t,ht,rfl⟩,_⟩,rfl⟩ | ⟨_,⟨⟨t,ht,rfl⟩,_⟩,rfl⟩
 · exact ha t ht
 · exact ha t ht
 · exact hb t ht
 · exact hb t ht
 · exact hb t ht
theorem Zee {a b:Zj} (h:¬ Zy a∨¬ Zy b):Zae a b=([],5):=if_pos h
theorem Zet {a b:Zj} (h:¬ (¬ Zy a∨¬ Zy b)):Zae a b=(ZX a b++b.orders.flatMap (mvC (playC a (ZX a b) 0).1),0):=if_neg h
theorem Zp7 {h:Zj} {os:List OrdD} {i:Nat} {p out:List CmdD} (hq:out=p++(os.take i).flatMap (mvC h)) (hi:i<os.length):out++mvC h (Go.Gm.nth os i)=p++(os.take (i+1)).flatMap (mvC h):=by
 rw [hq,ZE hi,List.flatMap_append,List.append_assoc];simp
theorem Zex.light {g:Zj} (h:Zbo g) (h1:g.txs.length≤12) (h2:∀ j,j<g.txs.length→(Go.Gm.nth g.txs j).ops.length≤24):Zex 12 g:=⟨h,h1,fun t ht=>by
 obtain ⟨j,hj,e⟩:=List.getElem_of_mem ht
 have:=h2 j hj
 rwa [Zp hj,e] at this⟩
theorem Zex.first {n:Nat} {a b:Zj} (ha:Zex n a) (hb:Zex n b) (hn:n≤27):n+(ZX a b).length≤166∧(∀ c ∈ ZX a b,ZaF c)∧Zbo (playC a (ZX a b) 0).1:=by
 have h1:=Zhr a b
 have h2:=ha.2.1
 have h3:=hb.2.1
 have h4:∀ c ∈ ZX a b,ZaF c:=Zi8 ha.2.2 hb.2.2
 exact ⟨by omega,h4,Zex.play _ ha (by omega) h4⟩
end Go.Proofs.YtjhapicamnijnaaGreatDoor
