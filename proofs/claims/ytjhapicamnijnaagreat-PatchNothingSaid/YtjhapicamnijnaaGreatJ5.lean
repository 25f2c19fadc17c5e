/- Texts put together. No condition beyond those that each theorem says. -/
import Derived.Test.YtjhapicamnijnaaGreatJ4
import Derived.Test.YtjhapicamnijnaaGreatJ0
import Derived.Test.YtjhapicamnijnaaGreatJ2
import Derived.Test.YtjhapicamnijnaaGreatJ1
import Derived.Test.YtjhapicamnijnaaGreatJ3
import Derived.Test.YtjhapicamnijnaaGreatLibI
namespace Go.Proofs.YtjhapicamnijnaaGreat
open Go Go.Gm
set_option linter.unusedVariables false
set_option linter.unusedSimpArgs false
set_option maxHeartbeats 4000000
set_option maxRecDepth 8000
theorem Ze8 (o:OpD):(Zbk o).length≤100:=by
 by_cases hk:Zaf o=true
 · exact ZiS hk
 · unfold Zbk;rw [if_pos (by simpa using hk)];simp
theorem Zj5 (t:TxD) (ht:t.ops.length≤1000000):FnP Tryz.prog 68 [.agg (rTx t)] (.bs (Zdc t)):=by
 refine FnP.mk Tryz.func68 rfl Tryz.ntmps68 rfl ?_
 intro B a w F hB hfr hS
 have hid:=Zge (Sat.aggInt hS (i:=0) (k:=0) rfl rfl)
 have htl:=Zae hid
 have hhl:(Zb7 t).length≤23:=by unfold Zb7;rw [List.length_append];split <;> simp only [List.length_cons,List.length_nil] <;> omega
 refine wp_seq ?_
 refine Zc hS (qx 101 r1 (qf (oN (.cs (by kernel_rfl))) trivial qz qZ)) hB [2,1] [101,0] (fun _=>rfl) (fun _=>rfl) fun τ a w F hS=>?_
 try dsimp only [RS.sub,SF.sub,CF.sub,csub,Anc.sub,List.map,zCF] at hS
 generalize τ 1=v1 at hS
 refine Zb (wp_seq ?_)
 refine Zc hS (qf (oH [.pointer none,.slice none 0 0] 102) trivial qz qZ) hB [3,2,1] [102,101,0] (fun _=>rfl) (fun _=>rfl) fun τ a w F hS=>?_
 try dsimp only [RS.sub,SF.sub,CF.sub,csub,Anc.sub,List.map,zCF] at hS
 generalize τ 3=v3 at hS
 obtain ⟨b,rfl⟩:=hS.shape 102 rfl
 replace hS:=hS.fresh 9 rfl
 replace hS:=hS.turn 9 rfl (Zav (T:=5) (sz:=1) (R:=rC))
 replace hS:=hS.fresh 10 rfl
 obtain ⟨F,hS⟩:=hS.push 10 9 rfl rfl rfl (by kernel_rfl)
 obtain ⟨F,hS⟩:=hS.push 10 102 rfl rfl rfl (by kernel_rfl)
 replace hS:=hS.turn 10 rfl (r':=RS.hp (Z0 (.pointer (some ⟨b,0,none⟩)) [])) (fun _ _ _ _ h=>⟨_,.inl rfl,_,fun _=>rfl,h⟩)
 obtain ⟨F,hS⟩:=hS.nm [3,2,1] [101,10,0] rfl rfl
 refine Zb (wp_seq ?_)
 refine Za hS (qg 0 101 r1 r1 (qa 101 r1 r1 (qf (oP (Zdf t.id) Tryz.func69 (Args.one .t)) r1 qz (qf (o_callG1 10 (Zau b [] (by simp) (textL t.id) (ZhQ _) (by omega)) Tryz.func135 rfl (by kernel_rfl) (Args.two .t .t)) r2 r1 qZ)))) hB [3,2,1] [101,10,0] rfl rfl fun a w F hS=>?_
 replace hS:=hS.turn 10 rfl (r':=RS.hp (Z0 (.pointer (some ⟨b,0,none⟩)) (textL t.id))) (fun _ _ _ _ h=>⟨_,.inr rfl,h⟩)
 refine Zb (wp_seq (wp_seq ?_))
 refine Za hS (qg 1 101 r1 r1 (qa 101 r1 r1 qZ)) hB [11,3,2,1] [101,10,0] rfl rfl fun a w F hS=>Zb ?_
 refine Zd hS rfl (fun hc0=>?_) (fun hc0=>?_)
 ·skip
  have hdn:t.done=true:=hc0
  refine Za hS (qf (o_callG1 10 (Zau b (textL t.id) (by omega) [32,99] (by simp) (by simp)) Tryz.func135 rfl (by kernel_rfl) (Args.two .t (.cs (by kernel_rfl)))) r1 r1 qZ) hB [3,2,1] [101,10,0] rfl rfl fun a w F hS=>?_
  replace hS:=hS.turn 10 rfl (r':=RS.hp (Z0 (.pointer (some ⟨b,0,none⟩)) (Zb7 t++Zes (t.ops.take 0)))) (fun _ _ _ _ h=>⟨_,.inr rfl,by rw [show (Zb7 t++Zes (t.ops.take 0))=textL t.id ++ [32,99] by unfold Zb7 Zes;rw [hdn];simp];exact h⟩)
  refine Zb (wp_seq (wp_seq ?_))
  refine Za hS (qg 2 101 r1 r1 (qa 101 r1 r1 (qu Tryz.underlying38 r1 (qJ qZ)))) hB [17,16,15,3,2] [101,10,0] rfl rfl fun a w F hS=>Zb (wp_block ?_)
  obtain ⟨F,hS⟩:=hS.nm [17,16,15,3] [10,0] rfl rfl
  refine Z7 (σ:=Nat) (fun s=>(⟨[(3,.pv (.is (.pointer (some ⟨b,0,none⟩)))),(15,.pv (.sl rOp t.ops)),(16,.pv (.int .i64 (t.ops.length:Nat))),(17,.pv (.int .i64 (s:Nat)))],[(0,frame B),(10,RS.hp (Z0 (.pointer (some ⟨b,0,none⟩)) (Zb7 t++Zes (t.ops.take s))))]⟩:En)) (fun s=>s≤t.ops.length) (fun s=>t.ops.length - s) 0 hS (Nat.zero_le _) ?_
  clear hS;intro i a w F hC hS
  try dsimp only at hC
  try dsimp only at hS
  have hi0:=hC
  have hct:(Zes (t.ops.take i)).length≤101*i:=Nat.le_trans (Ze1 _) (by rw [List.length_take];omega)
  refine wp_seq ?_
  refine Za hS (qL r2) hB [18,17,16,15,3] [10,0] rfl rfl fun a w F hS=>Zb (wp_seq ?_)
  refine Zd hS rfl (fun hc1=>?_) (fun hc1=>?_)
  ·skip
   have hi:i<t.ops.length:=by have h9:=of_decide_eq_true hc1;omega
   have hto:(Zbk (nth t.ops i)).length≤100:=Ze8 _
   refine wp_skip (Zb (wp_seq (wp_block (wp_seq ?_))))
   refine Zc hS (qy 4 Tryz.underlying38 r2 (qf (oR true 4 .t) r1 qz (qf (oH [.bool false,.int .i64 0,.int .i64 0,.int .i64 0] 103) trivial qz (qS 4 103 r2 r1 qZ)))) hB [17,16,15,5,3] [103,10,0] (fun _=>rfl) (fun _=>rfl) fun τ a w F hS=>?_
   try dsimp only [RS.sub,SF.sub,CF.sub,csub,Anc.sub,List.map,Zf,xL,xM,Nat.reduceAdd,xD,xE,xT,xU,xC,xN,zCF,ldSF] at hS
   generalize τ 5=v5 at hS
   rw [Int.toNat_natCast] at hS
   refine Zb ?_
   refine Za hS (qe 4 103 r1 r1 (qf (oP (Zj9 (nth t.ops i)) Tryz.func136 (Args.one (.pagg .t))) r1 qz (qf (Za7 (.cs (by kernel_rfl)) .t (by simp only [List.length_cons,List.length_nil];omega)) r1 qz (qf (o_callG1 10 (Zau b (Zb7 t++Zes (t.ops.take i)) (by rw [List.length_append];omega) ([32] ++ (Zbk (nth t.ops i))) (by simp) (by simp only [List.length_append,List.length_cons,List.length_nil];omega)) Tryz.func135 rfl (by kernel_rfl) (Args.two .t .t)) r2 r1 qZ)))) hB [17,16,15,3] [10,0] rfl rfl fun a w F hS=>Zi (Zb ?_)
   refine Za hS (qp r1 (qM rfl rfl qZ)) hB [17,16,15,3] [10,0] rfl rfl fun a w F hS=>Zb ?_
   replace hS:=hS.turn 10 rfl (r':=RS.hp (Z0 (.pointer (some ⟨b,0,none⟩)) (Zb7 t++Zes (t.ops.take (i+1))))) (fun _ _ _ _ h=>⟨_,.inr rfl,by rw [Zie hi,← List.append_assoc];exact h⟩)
   replace hS:=hS.ent (i:=17) (s':=.pv (.int .i64 ((i+1:Nat):Int))) rfl (.int (Ze (by omega)))
   obtain ⟨F,hS⟩:=hS.nm [17,16,15,3] [10,0] rfl rfl
   exact ⟨i+1,F,(by omega),hS,by omega⟩
  have hil:i=t.ops.length:=by have h9:=of_decide_eq_false hc1;omega
  rw [hil,List.take_length] at hS
  refine wp_exit (Zj (Zj (Zp (Zb (wp_seq ?_)))))
  refine Za hS (qf (o_callG1 10 (ZhP b (Zb7 t++Zes t.ops)) Tryz.func137 rfl (by kernel_rfl) (Args.one .t)) r1 r1 (qN rfl rfl qZ)) hB [2] [10,0] rfl rfl fun a w F hS=>Zb (wp_ret ?_)
  refine Zq hfr hS rfl rfl rfl (.bs (by unfold Zdc;rfl))
 have hdn:t.done=false:=hc0
 refine Za hS (qf (o_callG1 10 (Zau b (textL t.id) (by omega) [32,97] (by simp) (by simp)) Tryz.func135 rfl (by kernel_rfl) (Args.two .t (.cs (by kernel_rfl)))) r1 r1 qZ) hB [3,2,1] [101,10,0] rfl rfl fun a w F hS=>?_
 replace hS:=hS.turn 10 rfl (r':=RS.hp (Z0 (.pointer (some ⟨b,0,none⟩)) (Zb7 t++Zes (t.ops.take 0)))) (fun _ _ _ _ h=>⟨_,.inr rfl,by rw [show (Zb7 t++Zes (t.ops.take 0))=textL t.id ++ [32,97] by unfold Zb7 Zes;rw [hdn];simp];exact h⟩)
 refine Zb (wp_seq (wp_seq ?_))
 refine Za hS (qg 2 101 r1 r1 (qa 101 r1 r1 (qu Tryz.underlying38 r1 (qJ qZ)))) hB [17,16,15,3,2] [101,10,0] rfl rfl fun a w F hS=>Zb (wp_block ?_)
 obtain ⟨F,hS⟩:=hS.nm [17,16,15,3] [10,0] rfl rfl
 refine Z7 (σ:=Nat) (fun s=>(⟨[(3,.pv (.is (.pointer (some ⟨b,0,none⟩)))),(15,.pv (.sl rOp t.ops)),(16,.pv (.int .i64 (t.ops.length:Nat))),(17,.pv (.int .i64 (s:Nat)))],[(0,frame B),(10,RS.hp (Z0 (.pointer (some ⟨b,0,none⟩)) (Zb7 t++Zes (t.ops.take s))))]⟩:En)) (fun s=>s≤t.ops.length) (fun s=>t.ops.length - s) 0 hS (Nat.zero_le _) ?_
 clear hS;intro i a w F hC hS
 try dsimp only at hC
 try dsimp only at hS
 have hi0:=hC
 have hct:(Zes (t.ops.take i)).length≤101*i:=Nat.le_trans (Ze1 _) (by rw [List.length_take];omega)
 refine wp_seq ?_
 refine Za hS (qL r2) hB [18,17,16,15,3] [10,0] rfl rfl fun a w F hS=>Zb (wp_seq ?_)
 refine Zd hS rfl (fun hc2=>?_) (fun hc2=>?_)
 ·skip
  have hi:i<t.ops.length:=by have h9:=of_decide_eq_true hc2;omega
  have hto:(Zbk (nth t.ops i)).length≤100:=Ze8 _
  refine wp_skip (Zb (wp_seq (wp_block (wp_seq ?_))))
  refine Zc hS (qy 4 Tryz.underlying38 r2 (qf (oR true 4 .t) r1 qz (qf (oH [.bool false,.int .i64 0,.int .i64 0,.int .i64 0] 104) trivial qz (qS 4 104 r2 r1 qZ)))) hB [17,16,15,5,3] [104,10,0] (fun _=>rfl) (fun _=>rfl) fun τ a w F hS=>?_
  try dsimp only [RS.sub,SF.sub,CF.sub,csub,Anc.sub,List.map,Zf,xL,xM,Nat.reduceAdd,xD,xE,xT,xU,xC,xN,zCF,ldSF] at hS
  generalize τ 5=v5 at hS
  rw [Int.toNat_natCast] at hS
  refine Zb ?_
  refine Za hS (qe 4 104 r1 r1 (qf (oP (Zj9 (nth t.ops i)) Tryz.func136 (Args.one (.pagg .t))) r1 qz (qf (Za7 (.cs (by kernel_rfl)) .t (by simp only [List.length_cons,List.length_nil];omega)) r1 qz (qf (o_callG1 10 (Zau b (Zb7 t++Zes (t.ops.take i)) (by rw [List.length_append];omega) ([32] ++ (Zbk (nth t.ops i))) (by simp) (by simp only [List.length_append,List.length_cons,List.length_nil];omega)) Tryz.func135 rfl (by kernel_rfl) (Args.two .t .t)) r2 r1 qZ)))) hB [17,16,15,3] [10,0] rfl rfl fun a w F hS=>Zi (Zb ?_)
  refine Za hS (qp r1 (qM rfl rfl qZ)) hB [17,16,15,3] [10,0] rfl rfl fun a w F hS=>Zb ?_
  replace hS:=hS.turn 10 rfl (r':=RS.hp (Z0 (.pointer (some ⟨b,0,none⟩)) (Zb7 t++Zes (t.ops.take (i+1))))) (fun _ _ _ _ h=>⟨_,.inr rfl,by rw [Zie hi,← List.append_assoc];exact h⟩)
  replace hS:=hS.ent (i:=17) (s':=.pv (.int .i64 ((i+1:Nat):Int))) rfl (.int (Ze (by omega)))
  obtain ⟨F,hS⟩:=hS.nm [17,16,15,3] [10,0] rfl rfl
  exact ⟨i+1,F,(by omega),hS,by omega⟩
 have hil:i=t.ops.length:=by have h9:=of_decide_eq_false hc2;omega
 rw [hil,List.take_length] at hS
 refine wp_exit (Zj (Zj (Zp (Zb (wp_seq ?_)))))
 refine Za hS (qf (o_callG1 10 (ZhP b (Zb7 t++Zes t.ops)) Tryz.func137 rfl (by kernel_rfl) (Args.one .t)) r1 r1 (qN rfl rfl qZ)) hB [2] [10,0] rfl rfl fun a w F hS=>Zb (wp_ret ?_)
 refine Zq hfr hS rfl rfl rfl (.bs (by unfold Zdc;rfl))
theorem Zox (x y:List Int):FnP Tryz.prog 104 [.sl rInt x,.sl rInt y] (.bool (decide (x=y))):=by
 refine FnP.mk Tryz.func104 rfl Tryz.ntmps104 rfl ?_
 intro B a w F hB hfr hS
 have hxl:=Sat.lenSl hS (i:=0) rfl
 refine wp_seq ?_
 refine Za hS qB hB [4,1,0] [0] rfl rfl fun a w F hS=>Zb (wp_seq (wp_seq ?_))
 refine Za hS (qM rfl rfl (qu Tryz.underlying41 r1 (qM rfl rfl (qu Tryz.underlying41 r1 (qf (o_neq .t .t) r2 qz qZ))))) hB [10,4,1,0] [0] rfl rfl fun a w F hS=>Zb ?_
 refine Zd hS rfl (fun hc0=>?_) (fun hc0=>?_)
 ·skip
  have hg:false=decide (x=y):=by
    rw [eq_comm,decide_eq_false_iff_not]
    intro h
    subst h
    simp at hc0
  refine wp_seq ?_
  refine Za hS qB hB [4,1,0] [0] rfl rfl fun a w F hS=>Zb (wp_ret (Zg ?_))
  refine Zq hfr hS rfl rfl rfl (.bool hg)
 have hl:x.length=y.length:=by simp at hc0;omega
 refine wp_skip (Zb (wp_seq (wp_seq ?_)))
 refine Za hS (qM rfl rfl (qu Tryz.underlying41 r1 (qJ qZ))) hB [13,12,4,1,0] [0] rfl rfl fun a w F hS=>Zb (wp_block ?_)
 obtain ⟨F,hS⟩:=hS.nm [13,12,1,0] [0] rfl rfl
 refine Z7 (σ:=Nat) (fun s=>(⟨[(0,.pv (.sl rInt x)),(1,.pv (.sl rInt y)),(12,.pv (.int .i64 x.length)),(13,.pv (.int .i64 s))],[(0,frame B)]⟩:En)) (fun s=>s≤x.length ∧ ∀ j,j<s→Go.Gm.nth x j=Go.Gm.nth y j) (fun s=>x.length - s) 0 hS ⟨Nat.zero_le _,fun j hj=>absurd hj (Nat.not_lt_zero j)⟩ ?_
 clear hS;intro i a w F hC hS
 try dsimp only at hC
 try dsimp only at hS
 obtain ⟨hi,hq⟩:=hC
 refine wp_seq ?_
 refine Za hS (qL r2) hB [14,13,12,1,0] [0] rfl rfl fun a w F hS=>Zb (wp_seq ?_)
 refine Zd hS rfl (fun hc1=>?_) (fun hc1=>?_)
 ·skip
  have hil:i<x.length:=by simp at hc1;omega
  refine wp_skip (Zb (wp_seq (wp_block (wp_seq ?_))))
  refine Za hS (qM rfl rfl (qN rfl rfl qZ)) hB [13,12,5,1,0] [0] rfl rfl fun a w F hS=>Zb (wp_seq ?_)
  refine ZC hS (qM rfl rfl (qM rfl rfl (qy 1 Tryz.underlying41 r2 (qf (oR false 1 .t) r1 qz (qM rfl rfl (qM rfl rfl (qy 1 Tryz.underlying41 r2 (qf (oR false 1 .t) r1 qz (qf (o_neq .t .t) r2 qz qZ))))))))) hB [24,13,12,1,0] [0] rfl rfl fun a w F hS=>?_
  try dsimp only [List.map,xD,xE,xT,xU,ldSF] at hS
  refine Zb ?_
  refine Zd hS rfl (fun hc2=>?_) (fun hc2=>?_)
  ·skip
   have hg:false=decide (x=y):=by
     rw [eq_comm,decide_eq_false_iff_not]
     intro h
     subst h
     simp at hc2
   refine wp_seq ?_
   refine Za hS qB hB [13,12,4,1,0] [0] rfl rfl fun a w F hS=>Zb (wp_ret (Zl (Zg (Zg (Zl (Zg ?_))))))
   refine Zq hfr hS rfl rfl rfl (.bool hg)
  rw [Int.toNat_natCast] at hc2
  have hqi:Go.Gm.nth x i=Go.Gm.nth y i:=by simpa using hc2
  refine wp_skip (Zi (Zb ?_))
  refine Za hS (qp r1 (qM rfl rfl qZ)) hB [13,12,1,0] [0] rfl rfl fun a w F hS=>Zb ?_
  replace hS:=hS.ent (i:=13) (s':=.pv (.int .i64 ((i+1:Nat):Int))) rfl (.int (Ze (by omega)))
  obtain ⟨F,hS⟩:=hS.nm [13,12,1,0] [0] rfl rfl
  exact ⟨i+1,F,⟨by omega,fun j hj=>by rcases Nat.lt_or_eq_of_le (Nat.le_of_lt_succ hj) with h | h;exact hq j h;rw [h];exact hqi⟩,hS,by omega⟩
 have hg:true=decide (x=y):=by
   rw [eq_comm,decide_eq_true_eq]
   exact ZaP hl fun j hj=>hq j (by simp at hc1;omega)
 refine wp_exit (Zj (Zj (Zp (Zb (wp_seq ?_)))))
 refine Za hS qB hB [4] [0] rfl rfl fun a w F hS=>Zb (wp_ret ?_)
 refine Zq hfr hS rfl rfl rfl (.bool hg)
theorem Zms (x y:List Int):FnP Tryz.prog 78 [.sl rInt x,.sl rInt y] (.bool (decide (x=y))):=by
 refine FnP.mk Tryz.func78 rfl Tryz.ntmps78 rfl ?_
 intro B a w F hB hfr hS
 refine wp_seq ?_
 refine Za hS qB hB [4,1,0] [0] rfl rfl fun a w F hS=>Zb (wp_seq ?_)
 refine Za hS (qM rfl rfl (qM rfl rfl (qf (oP (Zox x y) Tryz.func104 (Args.two .t .t)) r2 qz (qN rfl rfl qZ)))) hB [4] [0] rfl rfl fun a w F hS=>Zb (wp_ret ?_)
 refine Zq hfr hS rfl rfl rfl .refl
theorem Zpg (u v:TxD):((decide (u.id=v.id) && (u.done == v.done)) && decide (u.ops=v.ops))=decide (u=v):=by
 cases u;cases v
 rw [Bool.eq_iff_iff]
 simp [and_assoc]
theorem Zhy (u v:TxD):FnP Tryz.prog 75 [.agg (rTx u),.agg (rTx v)] (.bool (decide (u=v))):=by
 refine FnP.mk Tryz.func75 rfl Tryz.ntmps75 rfl ?_
 intro B a w F hB hfr hS
 refine wp_seq ?_
 refine Zc hS (qx 101 r1 (qx 102 r1 qB)) hB [4,3,2] [102,101,0] (fun _=>rfl) (fun _=>rfl) fun τ a w F hS=>?_
 try dsimp only [RS.sub,SF.sub,CF.sub,csub,Anc.sub,List.map,zCF] at hS
 generalize τ 2=v2 at hS
 generalize τ 3=v3 at hS
 refine Zb (wp_seq ?_)
 refine Za hS (qg 0 101 r1 r1 (qa 101 r1 r1 (qg 0 102 r1 r1 (qa 102 r1 r1 (qf (o_eql .t .t) r2 qz (qM rfl rfl (qv 1 101 rfl r2 r1 (qw 101 rfl r2 r1 (qv 1 102 rfl r2 r1 (qw 102 rfl r2 r1 (qk rfl (fun h=>ZoU Tryz.underlying4 (.w h) (.w h)) r3 qz (qf (ZB .t .t) r2 qz (qM rfl rfl (qv 2 101 rfl r2 r1 (qw 101 rfl r2 r1 (qv 2 102 rfl r2 r1 (qw 102 rfl r2 r1 (qk rfl (fun h=>oP (Zog u.ops v.ops) Tryz.func142 (Args.two (.w h) (.w h))) r3 qz (qf (ZB .t .t) r2 qz (qN rfl rfl qZ)))))))))))))))))))) hB [4] [102,101,0] rfl rfl fun a w F hS=>Zb (wp_ret ?_)
 refine Zq hfr hS rfl rfl rfl (.bool (Zpg u v))
theorem Znr (u v:CmdD):FnP Tryz.prog 133 [.agg (rCmd u),.agg (rCmd v)] (.bool (decide (u=v))):=by
 refine FnP.mk Tryz.func133 rfl Tryz.ntmps133 rfl ?_
 intro B a w F hB hfr hS
 refine wp_seq ?_
 refine Zc hS (qx 101 r1 (qx 102 r1 qB)) hB [4,3,2] [102,101,0] (fun _=>rfl) (fun _=>rfl) fun τ a w F hS=>?_
 try dsimp only [RS.sub,SF.sub,CF.sub,csub,Anc.sub,List.map,zCF] at hS
 generalize τ 2=v2 at hS
 generalize τ 3=v3 at hS
 refine Zb (wp_seq ?_)
 refine ZbI hS (by kernel_rfl) (nf (oF 0 101 .is) r1 r1 (nf (oL false 1 101 .adr) r1 r1 (nf (oF 0 102 .is) r1 r1 (nf (oL false 1 102 .adr) r1 r1 (nf (o_eql .t .t) r2 trivial (nM rfl rfl (nk rfl (fun h=>oF 1 101 .is) r2 r1 (nk rfl (fun h=>oL true 3 101 (.w h .adr)) r2 r1 (nk rfl (fun h=>oF 1 102 .is) r2 r1 (nk rfl (fun h=>oL true 3 102 (.w h .adr)) r2 r1 (nk rfl (fun h=>oP (Zhy u.tx v.tx) Tryz.func75 (Args.two (.pagg (.w h)) (.pagg (.w h)))) r3 trivial (nf (ZB .t .t) r2 trivial (nM rfl rfl (nk rfl (fun h=>oF 4 101 .is) r2 r1 (nk rfl (fun h=>oF 0 101 (.w h .adr)) r2 r1 (nk rfl (fun h=>oL false 1 101 (.w h .adr)) r2 r1 (nk rfl (fun h=>oF 4 102 .is) r2 r1 (nk rfl (fun h=>oF 0 102 (.w h .adr)) r2 r1 (nk rfl (fun h=>oL false 1 102 (.w h .adr)) r2 r1 (nk rfl (fun h=>o_eql (.w h) (.w h)) r3 trivial (nf (ZB .t .t) r2 trivial (nM rfl rfl (nk rfl (fun h=>oF 4 101 .is) r2 r1 (nk rfl (fun h=>oF 1 101 (.w h .adr)) r2 r1 (nn [28,26,4,3,2] [102,101,0] rfl rfl (nk rfl (fun h=>oL false 1 101 (.w h .adr)) r2 r1 (nk rfl (fun h=>oF 4 102 .is) r2 r1 (nk rfl (fun h=>oF 1 102 (.w h .adr)) r2 r1 (nk rfl (fun h=>oL false 1 102 (.w h .adr)) r2 r1 (nk rfl (fun h=>oP (Zms u.order.txs v.order.txs) Tryz.func78 (Args.two (.w h) (.w h))) r3 trivial (nf (ZB .t .t) r2 trivial (nM rfl rfl (nk rfl (fun h=>oF 6 101 .is) r2 r1 (nk rfl (fun h=>oL false 1 101 (.w h .adr)) r2 r1 (nk rfl (fun h=>oF 6 102 .is) r2 r1 (nk rfl (fun h=>oL false 1 102 (.w h .adr)) r2 r1 (nk rfl (fun h=>o_eql (.w h) (.w h)) r3 trivial (nf (ZB .t .t) r2 trivial (nM rfl rfl (nk rfl (fun h=>oF 7 101 .is) r2 r1 (nk rfl (fun h=>oL false 1 101 (.w h .adr)) r2 r1 (nk rfl (fun h=>oF 7 102 .is) r2 r1 (nk rfl (fun h=>oL false 1 102 (.w h .adr)) r2 r1 (nk rfl (fun h=>o_eql (.w h) (.w h)) r3 trivial (nf (ZB .t .t) r2 trivial (nM rfl rfl (nk rfl (fun h=>oF 8 101 .is) r2 r1 (nk rfl (fun h=>oL false 1 101 (.w h .adr)) r2 r1 (nk rfl (fun h=>oF 8 102 .is) r2 r1 (nn [52,51,49,4,3,2] [102,101,0] rfl rfl (nk rfl (fun h=>oL false 1 102 (.w h .adr)) r2 r1 (nk rfl (fun h=>o_eql (.w h) (.w h)) r3 trivial (nf (ZB .t .t) r2 trivial (nM rfl rfl (nk rfl (fun h=>oF 9 101 .is) r2 r1 (nk rfl (fun h=>oL false 1 101 (.w h .adr)) r2 r1 (nk rfl (fun h=>oF 9 102 .is) r2 r1 (nk rfl (fun h=>oL false 1 102 (.w h .adr)) r2 r1 (nk rfl (fun h=>o_eql (.w h) (.w h)) r3 trivial (nf (ZB .t .t) r2 trivial (nN rfl rfl ZT.nil))))))))))))))))))))))))))))))))))))))))))))))))))))))))))))) (by kernel_rfl) (by rw [hB];kernel_rfl) fun a w F hS=>?_
 obtain ⟨F,hS⟩:=hS.nm [4] [102,101,0] rfl rfl
 try dsimp only [List.map,xD,xE,xT,xU,ldSF] at hS
 refine Zb (wp_ret ?_)
 refine Zq hfr hS rfl rfl rfl (.bool (ZpB u v))
theorem ZqF (c:CmdD):FnP Tryz.prog 134 [.agg (rCmd c)] (.agg (rCmd (usedR c))):=by
 refine FnP.mk Tryz.func134 rfl Tryz.ntmps134 rfl ?_
 intro B a w F hB hfr hS
 refine wp_seq ?_
 refine Zc hS (qx 101 r1 (qf (oH [.int .i64 0,.int .i64 0,.bool false,.slice none 0 0,.int .i64 0,.slice none 0 0,.int .i64 0,.int .i64 0,.int .i64 0,.int .i64 0] 102) trivial qz qZ)) hB [2,1] [102,101,0] (fun _=>rfl) (fun _=>rfl) fun τ a w F hS=>?_
 try dsimp only [RS.sub,SF.sub,CF.sub,csub,Anc.sub,List.map,zCF] at hS
 generalize τ 1=v1 at hS
 generalize τ 2=v2 at hS
 refine Zb (wp_seq ?_)
 refine Zc hS (qg 0 101 r1 r1 (qa 101 r1 r1 (qf (oB [(0,.tmp 5)] [.int .i64 0,.int .i64 0,.bool false,.slice none 0 0,.int .i64 0,.slice none 0 0,.int .i64 0,.int .i64 0,.int .i64 0,.int .i64 0] [(0,1),(1,3),(4,2),(6,1),(7,1),(8,1),(9,1)] (.one rfl .t one_int (by kernel_rfl) .nil)) r1 qz (qf (oH [.int .i64 0,.int .i64 0,.bool false,.slice none 0 0,.int .i64 0,.slice none 0 0,.int .i64 0,.int .i64 0,.int .i64 0,.int .i64 0] 103) trivial qz (qS 10 103 r2 r1 qZ))))) hB [3,2,1] [103,102,101,0] (fun _=>rfl) (fun _=>rfl) fun τ a w F hS=>?_
 try dsimp only [RS.sub,SF.sub,CF.sub,csub,Anc.sub,List.map,Zf,xL,xM,Nat.reduceAdd,xD,xE,xT,xU,xC,xN,zCF,ldSF] at hS
 generalize τ 3=v3 at hS
 refine Zb (wp_seq (wp_seq ?_))
 refine Za hS (qg 0 101 r1 r1 (qa 101 r1 r1 qZ)) hB [8,3,2,1] [103,102,101,0] rfl rfl fun a w F hS=>Zb (wp_block (wp_seq (wp_seq ?_)))
 refine Za hS (qf (o_eql .t qi) r1 qz (qN rfl rfl qZ)) hB [9,8,3,2,1] [103,102,101,0] rfl rfl fun a w F hS=>Zb ?_
 refine Zd hS rfl (fun hc0=>?_) (fun hc0=>?_)
 ·skip
  have hk:c.kind=1∨c.kind=2:=by first | exact .inl (of_decide_eq_true hc0) | exact .inr (of_decide_eq_true hc0)
  have hr:usedR c = {zeroC c.kind with tx:=c.tx} := by unfold usedR;rw [if_pos hk]
  refine wp_skip (Zb ?_)
  refine Zd hS rfl (fun hc1=>?_) (fun hc1=>?_)
  ·skip
   have hk:c.kind=1∨c.kind=2:=by first | exact .inl (of_decide_eq_true hc1) | exact .inr (of_decide_eq_true hc1)
   have hr:usedR c = {zeroC c.kind with tx:=c.tx} := by unfold usedR;rw [if_pos hk]
   refine Za hS (qg 1 101 r1 r1 (qf (oL true 3 101 .adr) r1 r1 (qg 1 103 r1 r1 (qf (oA 3 103 .adr .t) r2 r1 qZ)))) hB [3,2] [103,102,101,0] rfl rfl fun a w F hS=>Zi (Zb (wp_seq ?_))
   refine Za hS (qe 10 103 r1 r1 (qs 10 102 r2 r1 qZ)) hB [2] [103,102,101,0] rfl rfl fun a w F hS=>Zb (wp_ret ?_)
   refine ZI hfr hS rfl (.cl 102 true 10 rfl rfl .nil) (.one (.aggLe rfl (by rw [hr];exact (by refine ⟨?_,?_,?_,?_,?_,?_,?_,?_,?_,?_,trivial⟩ <;> first | exact PVLe.refl | exact PVLe.nilSl))))
  exact Bool.noConfusion (hc0.symm.trans hc1)
 have hn:=of_decide_eq_false hc0
 refine Za hS (qf (o_eql .t qi) r1 qz (qN rfl rfl qZ)) hB [9,8,3,2,1] [103,102,101,0] rfl rfl fun a w F hS=>Zb ?_
 refine Zd hS rfl (fun hc2=>?_) (fun hc2=>?_)
 ·skip
  have hk:c.kind=1∨c.kind=2:=by first | exact .inl (of_decide_eq_true hc2) | exact .inr (of_decide_eq_true hc2)
  have hr:usedR c = {zeroC c.kind with tx:=c.tx} := by unfold usedR;rw [if_pos hk]
  refine Za hS (qg 1 101 r1 r1 (qf (oL true 3 101 .adr) r1 r1 (qg 1 103 r1 r1 (qf (oA 3 103 .adr .t) r2 r1 qZ)))) hB [3,2] [103,102,101,0] rfl rfl fun a w F hS=>Zi (Zb (wp_seq ?_))
  refine Za hS (qe 10 103 r1 r1 (qs 10 102 r2 r1 qZ)) hB [2] [103,102,101,0] rfl rfl fun a w F hS=>Zb (wp_ret ?_)
  refine ZI hfr hS rfl (.cl 102 true 10 rfl rfl .nil) (.one (.aggLe rfl (by rw [hr];exact (by refine ⟨?_,?_,?_,?_,?_,?_,?_,?_,?_,?_,trivial⟩ <;> first | exact PVLe.refl | exact PVLe.nilSl))))
 have hn:=of_decide_eq_false hc2
 refine wp_seq (wp_seq ?_)
 refine Za hS (qf (o_eql .t qi) r1 qz (qN rfl rfl qZ)) hB [15,8,3,2,1] [103,102,101,0] rfl rfl fun a w F hS=>Zb ?_
 refine Zd hS rfl (fun hc3=>?_) (fun hc3=>?_)
 ·skip
  have hk:c.kind=3∨c.kind=10:=by first | exact .inl (of_decide_eq_true hc3) | exact .inr (of_decide_eq_true hc3)
  have hr:usedR c = {zeroC c.kind with id:=c.id} := by unfold usedR;rw [if_neg (by omega),if_pos hk]
  refine wp_skip (Zb ?_)
  refine Zd hS rfl (fun hc4=>?_) (fun hc4=>?_)
  ·skip
   have hk:c.kind=3∨c.kind=10:=by first | exact .inl (of_decide_eq_true hc4) | exact .inr (of_decide_eq_true hc4)
   have hr:usedR c = {zeroC c.kind with id:=c.id} := by unfold usedR;rw [if_neg (by omega),if_pos hk]
   refine Za hS (qg 7 101 r1 r1 (qa 101 r1 r1 (qg 7 103 r1 r1 (qf (Zbh 103 .adr .t one_int (by kernel_rfl) (by kernel_rfl)) r2 r1 qZ)))) hB [3,2] [103,102,101,0] rfl rfl fun a w F hS=>Zi (Zb (wp_seq ?_))
   refine Za hS (qe 10 103 r1 r1 (qs 10 102 r2 r1 qZ)) hB [2] [103,102,101,0] rfl rfl fun a w F hS=>Zb (wp_ret ?_)
   refine ZI hfr hS rfl (.cl 102 true 10 rfl rfl .nil) (.one (.aggLe rfl (by rw [hr];exact (by refine ⟨?_,?_,?_,?_,?_,?_,?_,?_,?_,?_,trivial⟩ <;> first | exact PVLe.refl | exact PVLe.nilSl))))
  exact Bool.noConfusion (hc3.symm.trans hc4)
 have hn:=of_decide_eq_false hc3
 refine Za hS (qf (o_eql .t qi) r1 qz (qN rfl rfl qZ)) hB [15,8,3,2,1] [103,102,101,0] rfl rfl fun a w F hS=>Zb ?_
 refine Zd hS rfl (fun hc5=>?_) (fun hc5=>?_)
 ·skip
  have hk:c.kind=3∨c.kind=10:=by first | exact .inl (of_decide_eq_true hc5) | exact .inr (of_decide_eq_true hc5)
  have hr:usedR c = {zeroC c.kind with id:=c.id} := by unfold usedR;rw [if_neg (by omega),if_pos hk]
  refine Za hS (qg 7 101 r1 r1 (qa 101 r1 r1 (qg 7 103 r1 r1 (qf (Zbh 103 .adr .t one_int (by kernel_rfl) (by kernel_rfl)) r2 r1 qZ)))) hB [3,2] [103,102,101,0] rfl rfl fun a w F hS=>Zi (Zb (wp_seq ?_))
  refine Za hS (qe 10 103 r1 r1 (qs 10 102 r2 r1 qZ)) hB [2] [103,102,101,0] rfl rfl fun a w F hS=>Zb (wp_ret ?_)
  refine ZI hfr hS rfl (.cl 102 true 10 rfl rfl .nil) (.one (.aggLe rfl (by rw [hr];exact (by refine ⟨?_,?_,?_,?_,?_,?_,?_,?_,?_,?_,trivial⟩ <;> first | exact PVLe.refl | exact PVLe.nilSl))))
 have hn:=of_decide_eq_false hc5
 refine wp_seq ?_
 refine Za hS (qf (o_eql .t qi) r1 qz (qN rfl rfl qZ)) hB [21,8,3,2,1] [103,102,101,0] rfl rfl fun a w F hS=>Zb ?_
 refine Zd hS rfl (fun hc6=>?_) (fun hc6=>?_)
 ·skip
  have hk:=of_decide_eq_true hc6
  have hr:usedR c = {zeroC c.kind with order:=c.order} := by unfold usedR;rw [if_neg (by omega),if_neg (by omega),if_pos hk]
  refine Za hS (qg 4 101 r1 r1 (qf (oL true 2 101 .adr) r1 r1 (qg 4 103 r1 r1 (qf (oA 2 103 .adr .t) r2 r1 qZ)))) hB [3,2] [103,102,101,0] rfl rfl fun a w F hS=>Zi (Zb (wp_seq ?_))
  refine Za hS (qe 10 103 r1 r1 (qs 10 102 r2 r1 qZ)) hB [2] [103,102,101,0] rfl rfl fun a w F hS=>Zb (wp_ret ?_)
  refine ZI hfr hS rfl (.cl 102 true 10 rfl rfl .nil) (.one (.aggLe rfl (by rw [hr];exact (by refine ⟨?_,?_,?_,?_,?_,?_,?_,?_,?_,?_,trivial⟩ <;> first | exact PVLe.refl | exact PVLe.nilSl))))
 have hn:=of_decide_eq_false hc6
 refine wp_seq ?_
 refine Za hS (qf (o_eql .t qi) r1 qz (qN rfl rfl qZ)) hB [26,8,3,2,1] [103,102,101,0] rfl rfl fun a w F hS=>Zb ?_
 refine Zd hS rfl (fun hc7=>?_) (fun hc7=>?_)
 ·skip
  have hk:=of_decide_eq_true hc7
  have hr:usedR c = {zeroC c.kind with key:=c.key,id:=c.id,place:=c.place} := by unfold usedR;rw [if_neg (by omega),if_neg (by omega),if_neg (by omega),if_pos hk]
  refine ZC hS (qg 6 101 r1 r1 (qa 101 r1 r1 (qg 7 101 r1 r1 (qa 101 r1 r1 (qg 8 101 r1 r1 (qa 101 r1 r1 (qg 6 103 r1 r1 (qf (Zbh 103 .adr .t one_int (by kernel_rfl) (by kernel_rfl)) r2 r1 (qg 7 103 r1 r1 (qf (Zbh 103 .adr .t one_int (by kernel_rfl) (by kernel_rfl)) r2 r1 (qg 8 103 r1 r1 (qf (Zbh 103 .adr .t one_int (by kernel_rfl) (by kernel_rfl)) r2 r1 qZ)))))))))))) hB [3,2] [103,102,101,0] rfl rfl fun a w F hS=>?_
  try dsimp only [List.map,Zf,xL,xM,Nat.reduceAdd,xD,xE,xT,xU,xC,xN,zCF,ldSF] at hS
  refine Zi (Zb (wp_seq ?_))
  refine Za hS (qe 10 103 r1 r1 (qs 10 102 r2 r1 qZ)) hB [2] [103,102,101,0] rfl rfl fun a w F hS=>Zb (wp_ret ?_)
  refine ZI hfr hS rfl (.cl 102 true 10 rfl rfl .nil) (.one (.aggLe rfl (by rw [hr];exact (by refine ⟨?_,?_,?_,?_,?_,?_,?_,?_,?_,?_,trivial⟩ <;> first | exact PVLe.refl | exact PVLe.nilSl))))
 have hn:=of_decide_eq_false hc7
 refine wp_seq ?_
 refine Za hS (qf (o_eql .t qi) r1 qz (qN rfl rfl qZ)) hB [37,3,2,1] [103,102,101,0] rfl rfl fun a w F hS=>Zb ?_
 refine Zd hS rfl (fun hc8=>?_) (fun hc8=>?_)
 ·skip
  have hk:=of_decide_eq_true hc8
  have hr:usedR c = {zeroC c.kind with phen:=c.phen} := by unfold usedR;rw [if_neg (by omega),if_neg (by omega),if_neg (by omega),if_neg (by omega),if_pos hk]
  refine Za hS (qg 9 101 r1 r1 (qa 101 r1 r1 (qg 9 103 r1 r1 (qf (Zbh 103 .adr .t one_int (by kernel_rfl) (by kernel_rfl)) r2 r1 qZ)))) hB [3,2] [103,102,101,0] rfl rfl fun a w F hS=>Zi (Zb (wp_seq ?_))
  refine Za hS (qe 10 103 r1 r1 (qs 10 102 r2 r1 qZ)) hB [2] [103,102,101,0] rfl rfl fun a w F hS=>Zb (wp_ret ?_)
  refine ZI hfr hS rfl (.cl 102 true 10 rfl rfl .nil) (.one (.aggLe rfl (by rw [hr];exact (by refine ⟨?_,?_,?_,?_,?_,?_,?_,?_,?_,?_,trivial⟩ <;> first | exact PVLe.refl | exact PVLe.nilSl))))
 have hn:=of_decide_eq_false hc8
 have hr:usedR c=zeroC c.kind:=by unfold usedR;rw [if_neg (by omega),if_neg (by omega),if_neg (by omega),if_neg (by omega),if_neg (by omega)]
 refine wp_skip (Zi (Zb (wp_seq ?_)))
 refine Za hS (qe 10 103 r1 r1 (qs 10 102 r2 r1 qZ)) hB [2] [103,102,101,0] rfl rfl fun a w F hS=>Zb (wp_ret ?_)
 refine ZI hfr hS rfl (.cl 102 true 10 rfl rfl .nil) (.one (.aggLe rfl (by rw [hr];exact (by refine ⟨?_,?_,?_,?_,?_,?_,?_,?_,?_,?_,trivial⟩ <;> first | exact PVLe.refl | exact PVLe.nilSl))))
theorem Zq2 (x y : List TxD) (f : FuncId) (fn : Func) (cps : List PV) (hf : Tryz.prog.funcs[f]? = some fn) (hb : fn.body.isSome = true) (hnn : (fn.name == "runtime.NumGoroutine") = false) (hw : ∀ u v : TxD, FnP Tryz.prog f (.agg (rTx u) :: .agg (rTx v) :: cps) (.bool (decide (u = v)))) : FnP Tryz.prog 74 [.sl rTx x, .sl rTx y, .clos f cps] (.bool (decide (x = y))) := by
 refine FnP.mk Tryz.func74 rfl Tryz.ntmps74 rfl ?_
 intro B a w F hB hfr hS
 have hxl:=Sat.lenSl hS (i:=0) rfl
 refine wp_seq ?_
 refine Za hS qB hB [6,2,1,0] [0] rfl rfl fun a w F hS=>Zb (wp_seq (wp_seq ?_))
 refine Za hS (qM rfl rfl (qu Tryz.underlying22 r1 (qM rfl rfl (qu Tryz.underlying22 r1 (qf (o_neq .t .t) r2 qz qZ))))) hB [14,6,2,1,0] [0] rfl rfl fun a w F hS=>Zb ?_
 refine Zd hS rfl (fun hc0=>?_) (fun hc0=>?_)
 ·skip
  have hg:false=decide (x=y):=(decide_eq_false fun e=>by subst e;simp at hc0).symm
  refine wp_seq ?_
  refine Za hS qB hB [6,2,1,0] [0] rfl rfl fun a w F hS=>Zb (wp_ret (Zg ?_))
  refine Zq hfr hS rfl rfl rfl (.bool hg)
 have hln:x.length=y.length:=by simp at hc0;omega
 refine wp_skip (Zb (wp_seq (wp_seq ?_)))
 refine Za hS (qM rfl rfl (qu Tryz.underlying22 r1 (qJ qZ))) hB [17,16,15,6,2,1] [0] rfl rfl fun a w F hS=>Zb (wp_block ?_)
 refine Zo (σ:=(Nat)) [1,2,6,15,16] [0] (fun s=>[(17,.pv (.int .i64 (s:Int)))]) (fun s=>[]) (fun s=>s≤x.length∧(∀ q,q<s→Go.Gm.nth x q=Go.Gm.nth y q)) (fun s=>x.length - s) (0) hS ⟨rfl,rfl,rfl,rfl,rfl,rfl,trivial⟩ ⟨rfl,trivial⟩ ⟨Nat.zero_le _,fun q hq=>absurd hq (Nat.not_lt_zero q)⟩ ?_
 clear hS;intro i a w F hC hS
 try dsimp only at hC
 obtain ⟨F,hS⟩:=hS.nm [17,16,15,6,2,1] [0] rfl rfl
 try dsimp only at hS
 obtain ⟨hi,hq⟩:=hC
 refine wp_seq ?_
 refine Za hS (qL r2) hB [18,17,16,15,6,2,1] [0] rfl rfl fun a w F hS=>Zb (wp_seq ?_)
 refine Zd hS rfl (fun hc1=>?_) (fun hc1=>?_)
 ·skip
  have hil:i<x.length:=by simp at hc1;omega
  refine wp_skip (Zb (wp_seq (wp_block (wp_seq ?_))))
  refine Zc hS (qM rfl rfl (qy 3 Tryz.underlying22 r2 (qf (oR true 3 .t) r1 qz (qf (oH [.int .i64 0,.bool false,.slice none 0 0] 101) trivial qz (qN rfl rfl (qS 3 101 r2 r1 qZ)))))) hB [17,16,15,8,7,6,2,1] [101,0] (fun _=>rfl) (fun _=>rfl) fun τ a w F hS=>?_
  try dsimp only [RS.sub,SF.sub,CF.sub,csub,Anc.sub,List.map,Zf,xL,xM,Nat.reduceAdd,xD,xE,xT,xU,xC,xN,zCF,ldSF,rTx] at hS
  generalize τ 8=v8 at hS
  try simp only [Int.toNat_natCast] at hS
  refine Zb (wp_seq ?_)
  refine Zc hS (qM rfl rfl (qM rfl rfl (qy 3 Tryz.underlying22 r2 (qf (oR true 3 .t) r1 qz (qf (oH [.int .i64 0,.bool false,.slice none 0 0] 102) trivial qz (qS 3 102 r2 r1 qZ)))))) hB [17,16,15,9,8,6,2,1] [102,101,0] (fun _=>rfl) (fun _=>rfl) fun τ a w F hS=>?_
  try dsimp only [RS.sub,SF.sub,CF.sub,csub,Anc.sub,List.map,Zf,xL,xM,Nat.reduceAdd,xD,xE,xT,xU,xC,xN,zCF,ldSF,rTx] at hS
  generalize τ 9=v9 at hS
  try simp only [Int.toNat_natCast] at hS
  refine Zb (wp_seq ?_)
  refine Za hS (qM rfl rfl (qe 3 101 r1 r1 (qe 3 102 r1 r1 (qf (ZU (avs:=[.agg (rTx (Go.Gm.nth x i)),.agg (rTx (Go.Gm.nth y i))]) .t (hw (Go.Gm.nth x i) (Go.Gm.nth y i)) hf hb hnn (Args.two (.pagg .t) (.pagg .t))) r3 qz (qf (o_not .t) r1 qz qZ))))) hB [30,17,16,15,6,2,1] [102,101,0] rfl rfl fun a w F hS=>Zb ?_
  refine Zd hS rfl (fun hc2=>?_) (fun hc2=>?_)
  ·skip
   have hg:false=decide (x=y):=(decide_eq_false fun e=>by subst e;simp at hc2).symm
   refine wp_seq ?_
   refine Za hS qB hB [17,16,15,6,2,1] [102,101,0] rfl rfl fun a w F hS=>Zb (wp_ret (Zl (Zg (Zg (Zl (Zg ?_))))))
   refine Zq hfr hS rfl rfl rfl (.bool hg)
  have hne:(Go.Gm.nth x i)=(Go.Gm.nth y i):=by simpa using hc2
  refine wp_skip (Zi (Zb ?_))
  refine Za hS (qp r1 (qM rfl rfl qZ)) hB [17,16,15,6,2,1] [102,101,0] rfl rfl fun a w F hS=>Zb ?_
  replace hS:=hS.ent (i:=17) (s':=.pv (.int .i64 ((i+1:Nat):Int))) rfl (.int (Ze (by omega)))
  obtain ⟨F,hS⟩:=hS.nm [16,15,6,2,1,17] [0] rfl rfl
  exact ⟨(i+1),F,⟨by omega,(fun q h9=>by rcases Nat.lt_or_eq_of_le (Nat.le_of_lt_succ h9) with h8 | h8;exact hq q h8;rw [h8];exact hne)⟩,hS,by omega⟩
 have hil:i=x.length:=by simp at hc1;omega
 have hg:true=decide (x=y):=(decide_eq_true (ZaP hln fun j hj=>hq j (by omega))).symm
 refine wp_exit (Zj (Zj (Zp (Zb (wp_seq ?_)))))
 refine Za hS qB hB [6] [0] rfl rfl fun a w F hS=>Zb (wp_ret ?_)
 refine Zq hfr hS rfl rfl rfl (.bool hg)
theorem Zq7 (x y : List OrdD) (f : FuncId) (fn : Func) (cps : List PV) (hf : Tryz.prog.funcs[f]? = some fn) (hb : fn.body.isSome = true) (hnn : (fn.name == "runtime.NumGoroutine") = false) (hw : ∀ u v : OrdD, FnP Tryz.prog f (.agg (Zs u) :: .agg (Zs v) :: cps) (.bool (decide (u = v)))) : FnP Tryz.prog 76 [.sl Zs x, .sl Zs y, .clos f cps] (.bool (decide (x = y))) := by
 refine FnP.mk Tryz.func76 rfl Tryz.ntmps76 rfl ?_
 intro B a w F hB hfr hS
 have hxl:=Sat.lenSl hS (i:=0) rfl
 refine wp_seq ?_
 refine Za hS qB hB [6,2,1,0] [0] rfl rfl fun a w F hS=>Zb (wp_seq (wp_seq ?_))
 refine Za hS (qM rfl rfl (qu Tryz.underlying23 r1 (qM rfl rfl (qu Tryz.underlying23 r1 (qf (o_neq .t .t) r2 qz qZ))))) hB [14,6,2,1,0] [0] rfl rfl fun a w F hS=>Zb ?_
 refine Zd hS rfl (fun hc0=>?_) (fun hc0=>?_)
 ·skip
  have hg:false=decide (x=y):=(decide_eq_false fun e=>by subst e;simp at hc0).symm
  refine wp_seq ?_
  refine Za hS qB hB [6,2,1,0] [0] rfl rfl fun a w F hS=>Zb (wp_ret (Zg ?_))
  refine Zq hfr hS rfl rfl rfl (.bool hg)
 have hln:x.length=y.length:=by simp at hc0;omega
 refine wp_skip (Zb (wp_seq (wp_seq ?_)))
 refine Za hS (qM rfl rfl (qu Tryz.underlying23 r1 (qJ qZ))) hB [17,16,15,6,2,1] [0] rfl rfl fun a w F hS=>Zb (wp_block ?_)
 refine Zo (σ:=(Nat)) [1,2,6,15,16] [0] (fun s=>[(17,.pv (.int .i64 (s:Int)))]) (fun s=>[]) (fun s=>s≤x.length∧(∀ q,q<s→Go.Gm.nth x q=Go.Gm.nth y q)) (fun s=>x.length - s) (0) hS ⟨rfl,rfl,rfl,rfl,rfl,rfl,trivial⟩ ⟨rfl,trivial⟩ ⟨Nat.zero_le _,fun q hq=>absurd hq (Nat.not_lt_zero q)⟩ ?_
 clear hS;intro i a w F hC hS
 try dsimp only at hC
 obtain ⟨F,hS⟩:=hS.nm [17,16,15,6,2,1] [0] rfl rfl
 try dsimp only at hS
 obtain ⟨hi,hq⟩:=hC
 refine wp_seq ?_
 refine Za hS (qL r2) hB [18,17,16,15,6,2,1] [0] rfl rfl fun a w F hS=>Zb (wp_seq ?_)
 refine Zd hS rfl (fun hc1=>?_) (fun hc1=>?_)
 ·skip
  have hil:i<x.length:=by simp at hc1;omega
  refine wp_skip (Zb (wp_seq (wp_block (wp_seq ?_))))
  refine Zc hS (qM rfl rfl (qy 2 Tryz.underlying23 r2 (qf (oR true 2 .t) r1 qz (qf (oH [.int .i64 0,.slice none 0 0] 101) trivial qz (qN rfl rfl (qS 2 101 r2 r1 qZ)))))) hB [17,16,15,8,7,6,2,1] [101,0] (fun _=>rfl) (fun _=>rfl) fun τ a w F hS=>?_
  try dsimp only [RS.sub,SF.sub,CF.sub,csub,Anc.sub,List.map,Zf,xL,xM,Nat.reduceAdd,xD,xE,xT,xU,xC,xN,zCF,ldSF,Zs] at hS
  generalize τ 8=v8 at hS
  try simp only [Int.toNat_natCast] at hS
  refine Zb (wp_seq ?_)
  refine Zc hS (qM rfl rfl (qM rfl rfl (qy 2 Tryz.underlying23 r2 (qf (oR true 2 .t) r1 qz (qf (oH [.int .i64 0,.slice none 0 0] 102) trivial qz (qS 2 102 r2 r1 qZ)))))) hB [17,16,15,9,8,6,2,1] [102,101,0] (fun _=>rfl) (fun _=>rfl) fun τ a w F hS=>?_
  try dsimp only [RS.sub,SF.sub,CF.sub,csub,Anc.sub,List.map,Zf,xL,xM,Nat.reduceAdd,xD,xE,xT,xU,xC,xN,zCF,ldSF,Zs] at hS
  generalize τ 9=v9 at hS
  try simp only [Int.toNat_natCast] at hS
  refine Zb (wp_seq ?_)
  refine Za hS (qM rfl rfl (qe 2 101 r1 r1 (qe 2 102 r1 r1 (qf (ZU (avs:=[.agg (Zs (Go.Gm.nth x i)),.agg (Zs (Go.Gm.nth y i))]) .t (hw (Go.Gm.nth x i) (Go.Gm.nth y i)) hf hb hnn (Args.two (.pagg .t) (.pagg .t))) r3 qz (qf (o_not .t) r1 qz qZ))))) hB [30,17,16,15,6,2,1] [102,101,0] rfl rfl fun a w F hS=>Zb ?_
  refine Zd hS rfl (fun hc2=>?_) (fun hc2=>?_)
  ·skip
   have hg:false=decide (x=y):=(decide_eq_false fun e=>by subst e;simp at hc2).symm
   refine wp_seq ?_
   refine Za hS qB hB [17,16,15,6,2,1] [102,101,0] rfl rfl fun a w F hS=>Zb (wp_ret (Zl (Zg (Zg (Zl (Zg ?_))))))
   refine Zq hfr hS rfl rfl rfl (.bool hg)
  have hne:(Go.Gm.nth x i)=(Go.Gm.nth y i):=by simpa using hc2
  refine wp_skip (Zi (Zb ?_))
  refine Za hS (qp r1 (qM rfl rfl qZ)) hB [17,16,15,6,2,1] [102,101,0] rfl rfl fun a w F hS=>Zb ?_
  replace hS:=hS.ent (i:=17) (s':=.pv (.int .i64 ((i+1:Nat):Int))) rfl (.int (Ze (by omega)))
  obtain ⟨F,hS⟩:=hS.nm [16,15,6,2,1,17] [0] rfl rfl
  exact ⟨(i+1),F,⟨by omega,(fun q h9=>by rcases Nat.lt_or_eq_of_le (Nat.le_of_lt_succ h9) with h8 | h8;exact hq q h8;rw [h8];exact hne)⟩,hS,by omega⟩
 have hil:i=x.length:=by simp at hc1;omega
 have hg:true=decide (x=y):=(decide_eq_true (ZaP hln fun j hj=>hq j (by omega))).symm
 refine wp_exit (Zj (Zj (Zp (Zb (wp_seq ?_)))))
 refine Za hS qB hB [6] [0] rfl rfl fun a w F hS=>Zb (wp_ret ?_)
 refine Zq hfr hS rfl rfl rfl (.bool hg)
theorem Zpo (u v:OrdD):FnP Tryz.prog 77 [.agg (Zs u),.agg (Zs v)] (.bool (decide (u=v))):=by
 refine FnP.mk Tryz.func77 rfl Tryz.ntmps77 rfl ?_
 intro B a w F hB hfr hS
 refine wp_seq ?_
 refine Zc hS (qx 101 r1 (qx 102 r1 qB)) hB [4,3,2] [102,101,0] (fun _=>rfl) (fun _=>rfl) fun τ a w F hS=>?_
 try dsimp only [RS.sub,SF.sub,CF.sub,csub,Anc.sub,List.map,zCF,Zk,rTx,Zs,ZG,rInt,rOp] at hS
 generalize τ 2=v2 at hS
 generalize τ 3=v3 at hS
 refine Zb (wp_seq ?_)
 refine Za hS (qg 0 101 r1 r1 (qa 101 r1 r1 (qg 0 102 r1 r1 (qa 102 r1 r1 (qf (o_eql .t .t) r2 qz (qM rfl rfl (qv 1 101 rfl r2 r1 (qw 101 rfl r2 r1 (qv 1 102 rfl r2 r1 (qw 102 rfl r2 r1 (qk rfl (fun h=>oP (ZpZ u.txs v.txs) Tryz.func78 (Args.two (.w h) (.w h))) r3 qz (qf (ZB .t .t) r2 qz (qN rfl rfl qZ))))))))))))) hB [4] [102,101,0] rfl rfl fun a w F hS=>Zb (wp_ret ?_)
 refine Zq hfr hS rfl rfl rfl (.bool (Zpz))
theorem Zpi (u v:HistD):FnP Tryz.prog 30 [.agg (Zk u),.agg (Zk v)] (.bool (decide (u=v))):=by
 refine FnP.mk Tryz.func30 rfl Tryz.ntmps30 rfl ?_
 intro B a w F hB hfr hS
 refine wp_seq ?_
 refine Zc hS (qx 101 r1 (qx 102 r1 qB)) hB [4,3,2] [102,101,0] (fun _=>rfl) (fun _=>rfl) fun τ a w F hS=>?_
 try dsimp only [RS.sub,SF.sub,CF.sub,csub,Anc.sub,List.map,zCF,Zk,rTx,Zs,ZG,rInt,rOp] at hS
 generalize τ 2=v2 at hS
 generalize τ 3=v3 at hS
 refine Zb (wp_seq ?_)
 refine Za hS (qg 0 101 r1 r1 (qa 101 r1 r1 (qg 0 102 r1 r1 (qa 102 r1 r1 (qf (oP (Zq2 u.txs v.txs 75 Tryz.f75 [] Tryz.func75 rfl (by kernel_rfl) (fun a b=>Zhy a b)) Tryz.func74 (Args.three .t .t (.conv .f (Ent.fnClos)))) r2 qz (qM rfl rfl (qv 1 101 rfl r2 r1 (qw 101 rfl r2 r1 (qv 1 102 rfl r2 r1 (qw 102 rfl r2 r1 (qk rfl (fun h=>oP (Zq7 u.orders v.orders 77 Tryz.f77 [] Tryz.func77 rfl (by kernel_rfl) (fun a b=>Zpo a b)) Tryz.func76 (Args.three (.w h) (.w h) (.conv .f (Ent.fnClos)))) r3 qz (qf (ZB .t .t) r2 qz (qN rfl rfl qZ))))))))))))) hB [4] [102,101,0] rfl rfl fun a w F hS=>Zb (wp_ret ?_)
 refine Zq hfr hS rfl rfl rfl (.bool (Zk6 u v))
instance (l:List TxD):Decidable (ZaS l):=by unfold ZaS;exact inferInstance
instance (l:List OrdD):Decidable (Zb0 l):=by unfold Zb0;exact inferInstance
instance (g:HistD):Decidable (ZaY g):=by unfold ZaY;exact inferInstance
theorem Zbe {l:List TxD} {k x:Int} : x ∈ ZW l k ↔ ∃ t ∈ l,t.id=x∧t.done=true∧0<wcnt t.ops k:=by
 unfold ZW
 rw [List.mem_map]
 constructor
 · rintro ⟨t,ht,e⟩
   rw [List.mem_filter] at ht
   simp at ht
   exact ⟨t,ht.1,e,ht.2.1,ht.2.2⟩
 · rintro ⟨t,ht,e,h1,h2⟩
   exact ⟨t,by rw [List.mem_filter];simp [ht,h1,h2],e⟩
theorem ZaZ {l:List TxD} (h:ZbZ TxD.id l) (k:Int):(ZW l k).Nodup:=by
 unfold ZW
 have h1:(l.map TxD.id).Nodup:=(List.pairwise_map.2 (Zv.1 h)).imp fun h=>Int.ne_of_lt h
 exact (h1.sublist ((List.filter_sublist).map _))
theorem Za4 {l:List TxD} (h:ZbZ TxD.id l) {t:TxD} (ht:t ∈ l):ZK l t.id=some t:=by
 have h:=Zv.1 h
 induction l with
 | nil=>cases ht
 | cons x l ih=>
   rw [List.pairwise_cons] at h
   unfold ZK
   rw [List.find?_cons]
   rcases List.mem_cons.1 ht with rfl | ht
   · simp
   · have:=h.1 t ht
     rw [show decide (x.id=t.id)=false by simp;omega]
     exact ih (Zv.2 h.2) ht h.2
theorem ZnU {l:List TxD} {id:Int} (h:∀ t ∈ l,t.id≠id):ZK l id=none:=by
 unfold ZK
 exact List.find?_eq_none.2 fun t ht=>by simpa using h t ht
theorem Zab {g:HistD} : Zu g ↔ g.txs.length≤4096∧ZbZ TxD.id g.txs∧(∀ t ∈ g.txs,Z1 t=0∧Zbq g t=true)∧ZbZ OrdD.key g.orders∧NE g.orders ∧ ∀ k,(getO g.orders k).Perm (ZW g.txs k):=by
 constructor
 · intro h
   obtain ⟨r1',r2'⟩:=Zr h
   have hne:=ZcV h
   have h2:=(ZcT g).2 h.2.2
   refine ⟨h.1,r1',fun t ht=>?_,r2',hne,fun k=>?_⟩
   · obtain ⟨j,hj,e⟩:=List.getElem_of_mem ht
     have:=(h.2.1 j hj).2
     rwa [Zt hj,e] at this
   · by_cases hk:getO g.orders k = []
     · rw [hk]
       have hw:ZW g.txs k = []:=by
         refine Decidable.byContradiction fun hw=>?_
         obtain ⟨j,hj,e⟩:=List.getElem_of_mem (ZcI.2 hw)
         have hjo:j<g.orders.length:=by rw [h.2.2.1];exact hj
         have h3:=(h.2.2.2 j hjo).1
         rw [Zt hj,e] at h3
         have h4:=Za3 (Zv.1 r2') (ZR hjo)
         rw [h3,hk] at h4
         exact hne _ (ZR hjo) h4.symm
       rw [hw]
     · have hm:=Zf3 hk
       obtain ⟨j,hj,e⟩:=List.getElem_of_mem hm
       have:=(h2.2 j hj).2.2
       rw [Zt hj,e] at this
       exact this
 · rintro ⟨h1,h2,h3,h4,h5,h6⟩
   have hk:g.orders.map OrdD.key=ZbV g.txs:=by
     refine ZcS (List.pairwise_map.2 (Zv.1 h4)) (Zaw _).1 fun k=>?_
     rw [ZcI,List.mem_map]
     constructor
     · rintro ⟨o,ho,rfl⟩ e
       have:=h6 o.key
       rw [e,Za3 (Zv.1 h4) ho] at this
       exact h5 o ho this.eq_nil
     · intro e
       have:getO g.orders k≠[]:=fun e2=>by
         have:=h6 k
         rw [e2] at this
         exact e this.symm.eq_nil
       exact ⟨_,Zf3 this,rfl⟩
   have hlen:g.orders.length=(ZbV g.txs).length:=by rw [← hk,List.length_map]
   refine ⟨h1,fun i hi=>?_,(ZcT g).1 ⟨hlen,fun i hi=>?_⟩⟩
   · obtain ⟨g1,g2⟩:=h3 _ (ZR hi)
     exact ⟨fun h0=>h2 (i - 1) i (by omega) hi,g1,g2⟩
   · refine ⟨fun h0=>h4 (i - 1) i (by omega) hi,h5 _ (ZR hi),?_⟩
     have:=h6 (Go.Gm.nth g.orders i).key
     rwa [Za3 (Zv.1 h4) (ZR hi)] at this
theorem Znt {t:TxD} {l:List Int} {k x:Int} : x ∈ ZeS t l k ↔ (x ∈ l∧x≠t.id)∨(x=t.id∧t.done=true∧0<wcnt t.ops k):=by
 unfold ZeS
 by_cases h:t.done=true∧0<wcnt t.ops k
 · rw [if_pos h]
   unfold withO
   split
   · rename_i hi
     constructor
     · intro hx
       by_cases e:x=t.id
       · exact .inr ⟨e,h⟩
       · exact .inl ⟨hx,e⟩
     · rintro (⟨hx,_⟩ | ⟨rfl,_⟩)
       · exact hx
       · exact hi
   · rename_i hi
     rw [List.mem_append,List.mem_singleton]
     constructor
     · rintro (hx | hx)
       · exact .inl ⟨hx,fun e=>hi (e ▸ hx)⟩
       · exact .inr ⟨hx,h⟩
     · rintro (⟨hx,_⟩ | ⟨e,_⟩)
       · exact .inl hx
       · exact .inr e
 · rw [if_neg h]
   unfold withoutO
   rw [List.mem_filter,decide_eq_true_eq]
   exact ⟨fun h1=>.inl h1,fun h1=>h1.elim id fun h2=>absurd h2.2 h⟩
theorem ZjP {t:TxD} {l:List Int} (h:l.Nodup) (k:Int):(ZeS t l k).Nodup:=by
 unfold ZeS
 split
 · unfold withO
   split
   · exact h
   · rename_i hi
     rw [List.nodup_append]
     exact ⟨h,by simp,fun a ha b hb=>by rw [List.mem_singleton] at hb;subst hb;exact fun e=>hi (e ▸ ha)⟩
 · exact h.filter _
theorem Zeb {g:HistD} {t:TxD} {b:Bool} {l:List TxD} (hR:Zu g) (hs:Zb0 g.orders) (hr:ZbZ TxD.id l) (hl:l.length≤4096) (hM:∀ s,s ∈ l ↔ (s ∈ g.txs∧s.id≠t.id)∨(s=t∧b=true))
   (ht:b=true→Z1 t=0∧Zbq g t=true) (hb:b=false→t.done=false)
   (hu:∀ x ∈ l,∀ v ∈ ZaI x,v.tx=t.id→Zgw g v=true→¬ (v.tx=0∧v.nth=0)→b=true∧v.nth≤(wcnt t.ops v.key:Int)):Zu ⟨l,settleO t g.orders⟩:=by
 obtain ⟨h1,h2,h3,h4,h5,h6⟩:=Zab.1 hR
 obtain ⟨s1,s2⟩:=Zjc (t:=t) h4 hs
 have hhas:∀ x ∈ l,∀ v ∈ ZaI x,Zgw g v=true→Zgw ⟨l,settleO t g.orders⟩ v=true:=by
   intro x hx v hv hg
   by_cases hz:v.tx=0∧v.nth=0
   · unfold Zgw at hg ⊢
     rw [if_pos hz] at hg ⊢
     exact hg
   · have hu2:=hu x hx v hv
     unfold Zgw at hg hu2 ⊢
     rw [if_neg hz] at hg hu2 ⊢
     by_cases e:v.tx=t.id
     · obtain ⟨b1,b2⟩:=hu2 e hg hz
       have hm:t ∈ l:=(hM t).2 (.inr ⟨rfl,b1⟩)
       have hf:=Za4 hr hm
       simp only [Bool.and_eq_true,decide_eq_true_eq] at hg ⊢
       show _∧_
       rw [e,hf]
       exact ⟨rfl,hg.2.1,b2⟩
     · have hf:ZK l v.tx=ZK g.txs v.tx:=by
         cases hc:ZK g.txs v.tx with
         | none=>
           refine ZnU fun s hsl es=>?_
           rcases (hM s).1 hsl with ⟨m1,m2⟩ | ⟨rfl,_⟩
           · have:=Za4 h2 m1
             rw [es,hc] at this;cases this
           · exact e es.symm
         | some s=>
           obtain ⟨m1,m2⟩:=findT_mem hc
           have hm:s ∈ l:=(hM s).2 (.inl ⟨m1,by rw [m2];exact e⟩)
           have:=Za4 hr hm
           rwa [m2] at this
       show (((ZK l v.tx).isSome && _):Bool)=true
       rw [hf];exact hg
 refine Zab.2 ⟨hl,hr,fun x hx=>?_,Zv.2 s1,s2,fun k=>?_⟩
 · have hx2:Z1 x=0∧Zbq g x=true:=by
     rcases (hM x).1 hx with ⟨m1,_⟩ | ⟨rfl,b1⟩
     · exact h3 x m1
     · exact ht b1
   refine ⟨hx2.1,?_⟩
   have h7:=hx2.2
   unfold Zbq at h7 ⊢
   rw [List.all_eq_true] at h7 ⊢
   exact fun v hv=>hhas x hx v hv (h7 v hv)
 · rw [Zeg h4 k]
   have hn:(getO g.orders k).Nodup:=(h6 k).symm.nodup (ZaZ h2 k)
   refine (List.perm_ext_iff_of_nodup (ZjP hn k) (ZaZ hr k)).2 fun x=>?_
   rw [Znt,Zbe,(h6 k).mem_iff,Zbe]
   constructor
   · rintro (⟨⟨s,m1,m2,m3,m4⟩,m5⟩ | ⟨rfl,m3,m4⟩)
     · exact ⟨s,(hM s).2 (.inl ⟨m1,by rw [m2];exact m5⟩),m2,m3,m4⟩
     · refine ⟨t,(hM t).2 (.inr ⟨rfl,?_⟩),rfl,m3,m4⟩
       cases b with
       | true=>rfl
       | false=>rw [hb rfl] at m3;cases m3
   · rintro ⟨s,m1,m2,m3,m4⟩
     rcases (hM s).1 m1 with ⟨m5,m6⟩ | ⟨rfl,_⟩
     · exact .inl ⟨⟨s,m5,m2,m3,m4⟩,by rw [← m2];exact m6⟩
     · exact .inr ⟨m2.symm,m3,m4⟩
theorem ZkO {l:List TxD} {t:TxD} (h:ZbZ TxD.id l) (hk:isK TxD.id t.id l=false):ZbZ TxD.id (l.take (lowK TxD.id t.id l) ++ [t] ++ l.drop (lowK TxD.id t.id l)) ∧ ∀ s,s ∈ l.take (lowK TxD.id t.id l) ++ [t] ++ l.drop (lowK TxD.id t.id l) ↔ (s ∈ l∧s.id≠t.id)∨(s=t∧true=true):=by
 rw [← ZiB (Zv.1 h) hk]
 refine ⟨Zv.2 (Zea (Zv.1 h)),fun s=>?_⟩
 rw [ZiB (Zv.1 h) hk,List.mem_append,List.mem_append,List.mem_singleton]
 have hne:∀ s ∈ l,s.id≠t.id:=fun s hs e=>by
   have:=List.any_eq_false.1 hk s hs
   simp at this;exact this e
 constructor
 · rintro ((h1 | h1) | h1)
   · exact .inl ⟨List.mem_of_mem_take h1,hne s (List.mem_of_mem_take h1)⟩
   · exact .inr ⟨h1,rfl⟩
   · exact .inl ⟨List.mem_of_mem_drop h1,hne s (List.mem_of_mem_drop h1)⟩
 · rintro (⟨h1,_⟩ | ⟨h1,_⟩)
   · rw [← List.take_append_drop (lowK TxD.id t.id l) l,List.mem_append] at h1
     rcases h1 with h1 | h1
     · exact .inl (.inl h1)
     · exact .inr h1
   · exact .inl (.inr h1)
theorem Zk0 {l:List TxD} {t:TxD} (h:ZbZ TxD.id l) (hk:isK TxD.id t.id l=true):ZbZ TxD.id (l.set (lowK TxD.id t.id l) t) ∧ ∀ s,s ∈ l.set (lowK TxD.id t.id l) t ↔ (s ∈ l∧s.id≠t.id)∨(s=t∧true=true):=by
 rw [← Zih (Zv.1 h) hk]
 refine ⟨Zv.2 (Zea (Zv.1 h)),fun s=>?_⟩
 constructor
 · intro hs
   rcases ZfE hs with ⟨rfl,_⟩ | h1
   · exact .inr ⟨rfl,rfl⟩
   · exact .inl h1
 · have key:∀ (l:List TxD) (d:Bool),((s ∈ l∧s.id≠t.id)∨(s=t∧d=false))→s ∈ ZbR TxD.id t l d:=by
     intro l
     induction l with
     | nil=>
       rintro d (⟨h1,_⟩ | ⟨rfl,h1⟩)
       · cases h1
       · subst h1;simp [ZbR]
     | cons x l ih=>
       intro d hx
       rw [ZbR,List.mem_append,List.mem_append]
       rcases hx with ⟨h1,h2⟩ | ⟨rfl,h1⟩
       · rcases List.mem_cons.1 h1 with rfl | h1
         · exact .inl (.inr (by rw [if_neg h2];simp))
         · exact .inr (ih _ (.inl ⟨h1,h2⟩))
       · by_cases hA:s.id≤x.id
         · exact .inl (.inl (by rw [if_pos ⟨h1,hA⟩];simp))
         · exact .inr (ih _ (.inr ⟨rfl,by rw [h1];simp;omega⟩))
   rintro (h1 | ⟨h1,_⟩)
   · exact key l false (.inl h1)
   · exact key l false (.inr ⟨h1,rfl⟩)
theorem ZnM {t:TxD} {v:ZbY} (h:v ∈ ZaI t):v.tx≠t.id:=by
 have key:∀ (l:List OpD) (out:List ZbY),(∀ v ∈ out,v.tx≠t.id) → ∀ v ∈ l.foldl (Zaz t.id) out,v.tx≠t.id:=by
   intro l
   induction l with
   | nil=>intro out h;exact h
   | cons o l ih=>
     intro out h
     refine ih _ fun v hv=>?_
     unfold Zaz at hv
     split at hv
     · rename_i hc
       rcases List.mem_append.1 hv with hv | hv
       · exact h v hv
       · have e:v=ofO o:=by simpa using hv
         have hn:=hc.1
         unfold ZjN at hn
         simp at hn
         rw [e]
         unfold ofO
         rw [if_pos hn.1.1]
         exact hn.2
     · exact h v hv
 exact key _ _ (fun v hv=>by cases hv) v h
theorem Zk8 {g:HistD} {v:ZbY} (h:Zgw g v=true) (hz:¬ (v.tx=0∧v.nth=0)):isK TxD.id v.tx g.txs=true∧1≤v.nth:=by
 unfold Zgw at h
 rw [if_neg hz,Bool.and_eq_true,Bool.and_eq_true,ZjF] at h
 exact ⟨h.1,by simpa using h.2.1⟩
theorem Zo1 {g:HistD} {t x:TxD} {v:ZbY} (h:Zeo g t=false) (hx:x ∈ g.txs) (hn:x.id≠t.id) (hv:v ∈ ZaI x) (e:v.tx=t.id):v.nth≤(wcnt t.ops v.key:Int):=by
 have h1:=List.any_eq_false.1 h x hx
 unfold Zjr at h1
 rw [decide_eq_true hn,Bool.true_and] at h1
 have h2:=List.any_eq_false.1 (by simpa using h1) v hv
 unfold Zjl at h2
 simp [e] at h2
 omega
theorem Ziy {g:HistD} {t:TxD} (hs:ZaY g) (h:(Zay g t).2=0):Zu (Zay g t).1:=by
 unfold Zay at h ⊢
 split at h
 · rename_i h1;exact absurd h h1
 · rename_i h1
   split at h
   · simp at h
   · rename_i h2
     obtain ⟨hr,hrt,hik,hnd,_⟩:=Zkk (by decide) (Decidable.not_not.1 h1)
     rw [if_neg h1,if_neg h2]
     obtain ⟨m1,m2⟩:=ZkO (Zr hr).1 hik
     refine Zeb (b:=true) hr hs.2 m1 ?_ m2 (fun _=>⟨hrt,hnd⟩) (fun h=>by cases h) fun x _ v _ e hv hz=>?_
     · have:=hr.1
       rw [List.length_append,List.length_append,List.length_take,List.length_drop];simp;omega
     · have:=(Zk8 hv hz).1
       rw [e,hik] at this;cases this
theorem ZjB {g:HistD} {t:TxD} (hs:ZaY g) (h:(Za8 g t).2=0):Zu (Za8 g t).1:=by
 unfold Za8 at h ⊢
 split at h
 · rename_i h1;exact absurd h h1
 · rename_i h1
   split at h
   · simp at h
   · rename_i h2
     obtain ⟨hr,hrt,hik,hnd,_⟩:=Zkk (by decide) (Decidable.not_not.1 h1)
     rw [if_neg h1,if_neg h2]
     obtain ⟨m1,m2⟩:=Zk0 (Zr hr).1 hik
     refine Zeb (b:=true) hr hs.2 m1 (by rw [List.length_set];exact hr.1) m2 (fun _=>⟨hrt,hnd⟩) (fun h=>by cases h) fun x hx v hv e _ _=>⟨rfl,?_⟩
     rcases (m2 x).1 hx with ⟨h3,h4⟩ | ⟨rfl,_⟩
     · exact Zo1 (by simpa using h2) h3 h4 hv e
     · exact absurd e (ZnM hv)
theorem Zig {g:HistD} {id:Int} (hs:ZaY g) (h:(Zal g id).2=0):Zu (Zal g id).1:=by
 unfold Zal at h ⊢
 split at h
 · simp at h
 · rename_i h1
   split at h
   · simp at h
   · rename_i h2
     split at h
     · simp at h
     · rename_i h3
       have hr:=Decidable.not_not.1 h1
       have hik:isK TxD.id id g.txs=true:=by simpa using h2
       have hri:=(Zr hr).1
       rw [if_neg h1,if_neg h2,if_neg h3,← ZgG (Zv.1 hri) hik]
       refine Zeb (b:=false) hr hs.2 (Zv.2 ((Zv.1 hri).filter _)) (Nat.le_trans (List.length_filter_le _ _) hr.1) (fun s=>?_) (fun h=>by cases h) (fun _=>rfl) fun x hx v hv e hg hz=>?_
       · rw [List.mem_filter];simp [Zc9]
       · rw [List.mem_filter] at hx
         have h5:=Zo1 (t:=Zc9 id) (by simpa using h3) hx.1 (by simpa [Zc9] using hx.2) hv e
         have h6:=(Zk8 hg hz).2
         have h7:wcnt (Zc9 id).ops v.key=0:=rfl
         rw [h7] at h5
         omega
theorem Zcw {g:HistD} {key:Int} {rule:List Int→List Int×Int} (hp:∀ l,(rule l).2=0→(rule l).1.Perm l) (h:(Z9 g key rule).2=0):Zu (Z9 g key rule).1:=by
 by_cases hr:Zu g
 · by_cases hg:getO g.orders key = []
   · rw [Zqv hr hg] at h;simp at h
   · by_cases h3:(rule (getO g.orders key)).2=0
     · have hpp:=hp _ h3
       have hne:(rule (getO g.orders key)).1≠[]:=fun e=>hg (by rw [e] at hpp;exact hpp.symm.eq_nil)
       rw [ZoZ hr hg h3 hne,decide_eq_false hne]
       obtain ⟨h1,h2,h4,h5,h6,h7⟩:=Zab.1 hr
       refine Zab.2 ⟨h1,h2,fun t ht=>?_,Zv.2 (Zea (Zv.1 h5)),fun o ho=>?_,fun k=>?_⟩
       · obtain ⟨g1,g2⟩:=h4 t ht
         exact ⟨g1,g2⟩
       · rcases ZfE ho with ⟨rfl,_⟩ | ⟨g1,_⟩
         · exact hne
         · exact h6 o g1
       · show (getO (ZbR OrdD.key _ g.orders false) k).Perm _
         rw [Zk3 (Zv.1 h5)]
         by_cases e:k=key
         · subst e
           rw [if_pos rfl]
           exact hpp.trans (h7 k)
         · rw [if_neg e];exact h7 k
     · rw [ZqQ hr hg h3] at h;exact absurd h h3
 · rw [Zl4 hr] at h;simp at h
theorem Zmd {o:OrdD} (l:List Int) (h:(ZeP o l).2=0):(ZeP o l).1.Perm l:=by
 unfold ZeP at h ⊢
 split at h
 · rename_i hp;rw [if_pos hp];exact hp.symm
 · simp at h
theorem Zkt {g:HistD} {e:EdD} (hs:ZaY g) (h:(doH g e).2=0):Zu (doH g e).1:=by
 unfold doH at h ⊢
 by_cases k0:e.kind=0
 · rw [if_pos k0] at h ⊢;exact Ziy hs h
 · rw [if_neg k0] at h ⊢
   by_cases k1:e.kind=1
   · rw [if_pos k1] at h ⊢;exact Zig hs h
   · rw [if_neg k1] at h ⊢
     by_cases k2:e.kind=2
     · rw [if_pos k2] at h ⊢;exact ZjB hs h
     · rw [if_neg k2] at h ⊢
       by_cases k3:e.kind=3
       · rw [if_pos k3] at h ⊢;exact Zcw Zmd h
       · rw [if_neg k3] at h ⊢
         by_cases k4:e.kind=4
         · rw [if_pos k4] at h ⊢;exact Zcw (rule:=fun l=>Zam l e.t.id e.place) (fun l h=>Ziv h) h
         · rw [if_neg k4] at h;simp at h
theorem Zc1:Zu zeroH:=by decide +kernel
theorem ZkR (x y:List Int) (hx:x.length≤1000000) (hy:y.length≤1000000):FnP Tryz.prog 33 [.sl rInt x,.sl rInt y] (.tup [.sl Zdb (Zak x y).1,.int .i64 (Zak x y).2]):=by
 refine FnP.mk Tryz.func33 rfl Tryz.ntmps33 rfl ?_
 intro B a w F hB hfr hS
 refine wp_seq ?_
 refine Za hS (qC (qI qZ)) hB [5,4,1,0] [0] rfl rfl fun a w F hS=>Zb (wp_seq (wp_seq ?_))
 refine Za hS (qM rfl rfl (qf (oP (ZkE x) Tryz.func81 (Args.one .t)) r1 qz (qf (o_not .t) r1 qz (qM rfl rfl (qm rfl rfl rfl rfl (qk rfl (fun h=>oP (ZkE y) Tryz.func81 (Args.one (.w h))) r2 qz (qk rfl (fun h=>o_not (.w h)) r2 qz (qf (ZaL .t .t) r2 qz (qM rfl rfl (qm rfl rfl rfl rfl (qm rfl rfl rfl rfl (qk rfl (fun h=>oP (ZmY x y hx hy) Tryz.func46 (Args.two (.w h) (.w h))) r3 qz (qk rfl (fun h=>o_not (.w h)) r2 qz (qf (ZaL .t .t) r2 qz qZ)))))))))))))) hB [23,5,4,1,0] [0] rfl rfl fun a w F hS=>Zb ?_
 refine Zd hS rfl (fun hc0=>?_) (fun hc0=>?_)
 ·skip
  have hno:¬ Zcc x y:=by unfold Zcc;rintro ⟨k1,k2,k3⟩;simp [k1,k2,k3] at hc0
  have hm:Zak x y=([],8):=if_neg hno
  refine wp_seq ?_
  refine Za hS (qC (qI qZ)) hB [5,4,1,0] [0] rfl rfl fun a w F hS=>Zb (wp_ret (Zg ?_))
  refine ZI hfr hS rfl (.tmp rfl (.tmp rfl .nil)) (.two (.trans .nilSl (.sl (by rw [hm]))) (.int (by rw [hm])))
 have hok:Zcc x y:=by unfold Zcc;simp at hc0;simpa [and_assoc] using hc0
 have hxyl:=hok.2.2.length_eq
 refine wp_skip (Zb (wp_seq ?_))
 refine Za hS (qC qZ) hB [6,5,4,1,0] [0] rfl rfl fun a w F hS=>Zb (wp_seq ?_)
 replace hS:=hS.fresh 101 rfl
 refine Zc hS (qM rfl rfl (qf (ZaM 101 (Zc3 x hx) Tryz.func82 rfl (by kernel_rfl) (Args.one .t) ZaC) r1 r1 (qN rfl rfl qZ))) hB [7,6,5,4,1] [101,0] (fun _=>rfl) (fun _=>rfl) fun τ a w F hS=>?_
 try dsimp only [RS.sub,SF.sub,CF.sub,csub,Anc.sub,List.map,rInt,Zdb] at hS
 generalize τ 25=v25 at hS
 obtain ⟨F,hS⟩:=hS.give 101 7 rfl rfl
 obtain ⟨F,hS⟩:=hS.nm [7,6,5,4,1] [0] rfl rfl
 refine Zb (wp_seq (wp_seq ?_))
 refine Za hS (qM rfl rfl (qu Tryz.underlying41 r1 (qJ qZ))) hB [28,27,26,7,6,5,4] [0] rfl rfl fun a w F hS=>Zb (wp_block ?_)
 replace hS:=hS.fresh 50 rfl
 replace hS:=hS.turn 50 rfl (Zav (T:=70) (sz:=2) (R:=Zdb))
 refine Zo (σ:=(Nat)×(List Int)×(Value)×(List Zco)) [4,5,26,27] [0] (fun s=>[(28,.pv (.int .i64 (s.1:Int))),(7,.pv (.sl rInt s.2.1)),(6,.pv (.is s.2.2.1))]) (fun s=>[(50,.ob (.val s.2.2.1) (Zx 70 2 Zdb s.2.2.2))]) (fun s=>s.1≤y.length∧(ZaA x 0 y=s.2.2.2++ZaA s.2.1 s.1 (y.drop s.1)∧(s.2.1).Perm x∧(s.2.2.2).length≤s.1)) (fun s=>y.length - s.1) ((0),(x),(.slice none 0 0),([])) hS ⟨rfl,rfl,rfl,rfl,rfl,rfl,rfl,trivial⟩ ⟨rfl,rfl,trivial⟩ ⟨Nat.zero_le _,⟨rfl,.refl _,Nat.zero_le _⟩⟩ ?_
 clear hS;intro s a w F hC hS
 obtain ⟨i,now,v,out⟩:=s
 try dsimp only at hC
 obtain ⟨F,hS⟩:=hS.nm [28,27,26,7,6,5,4] [50,0] rfl rfl
 try dsimp only at hS
 obtain ⟨hi,hq⟩:=hC
 obtain ⟨hst,hpm,hol⟩:=hq
 have hnl:now.length=x.length:=hpm.length_eq
 have hdn:=@Zcb _ _ y i
 refine wp_seq ?_
 refine Za hS (qL r2) hB [29,28,27,26,7,6,5,4] [50,0] rfl rfl fun a w F hS=>Zb (wp_seq ?_)
 refine Zd hS rfl (fun hc1=>?_) (fun hc1=>?_)
 ·skip
  have hil:i<y.length:=by simp at hc1;omega
  refine wp_skip (Zb (wp_seq (wp_block (wp_seq ?_))))
  refine Za hS (qM rfl rfl (qy 1 Tryz.underlying41 r2 (qf (oR false 1 .t) r1 qz (qN rfl rfl (qN rfl rfl qZ))))) hB [28,27,26,9,8,7,6,5,4] [50,0] rfl rfl fun a w F hS=>?_
  try simp only [Int.toNat_natCast] at hS
  refine Zb (wp_seq (wp_seq ?_))
  refine Za hS (qM rfl rfl (qM rfl rfl (qy 1 Tryz.underlying41 r2 (qf (oR false 1 .t) r1 qz (qM rfl rfl (qf (o_eql .t .t) r2 qz qZ)))))) hB [38,28,27,26,9,8,7,6,5,4] [50,0] rfl rfl fun a w F hS=>?_
  try simp only [Int.toNat_natCast] at hS
  refine Zb ?_
  refine Zd hS rfl (fun hc2=>?_) (fun hc2=>?_)
  ·skip
   have hne:Go.Gm.nth now i=Go.Gm.nth y i:=by simpa using hc2
   have hst2:=ZgL (to:=y.drop (i+1)) hne
   rw [← Zcb hil] at hst2
   have hpm2:=hpm
   obtain ⟨now2,hn2⟩:∃ z,z=now:=⟨_,rfl⟩
   rw [← hn2] at hS hst hst2 hpm2
   refine wp_exit (Zj (Zp (Zb ?_)))
   refine Za hS (qp r1 (qM rfl rfl qZ)) hB [28,27,26,7,6,5,4] [50,0] rfl rfl fun a w F hS=>Zb ?_
   replace hS:=hS.ent (i:=28) (s':=.pv (.int .i64 ((i+1:Nat):Int))) rfl (.int (Ze (by omega)))
   obtain ⟨F,hS⟩:=hS.nm [27,26,5,4,6,7,28] [0,50] rfl rfl
   exact ⟨((i+1),(now2),_,_),F,⟨by omega,⟨by first | (rw [hst,hst2];done) | (rw [hst,hst2];simp),hpm2,by first | omega | (simp only [List.length_append,List.length_cons,List.length_nil];omega)⟩⟩,hS,by omega⟩
  have hne:¬ Go.Gm.nth now i=Go.Gm.nth y i:=by simpa using hc2
  have hst2:=ZjT (to:=y.drop (i+1)) hne
  rw [← Zcb hil] at hst2
  have hpm2:=(Zc0 (place:=(i:Int)) (hpm.mem_iff.2 (hok.2.2.mem_iff.2 (ZR hil))) (by omega)).trans hpm
  obtain ⟨now2,hn2⟩:∃ z,z=(Zam now (Go.Gm.nth y i) i).1:=⟨_,rfl⟩
  rw [← hn2] at hst2 hpm2
  refine wp_skip (Zb (wp_seq ?_))
  refine Za hS (qM rfl rfl (qM rfl rfl (qM rfl rfl (qf (oP (Zmc now (Go.Gm.nth y i) i (by omega)) Tryz.func83 (Args.three .t .t .t)) r3 qz (qM rfl rfl (qf (o_extract .t rfl) r1 qz (qf (o_extract .t rfl) r1 qz (qN rfl rfl qZ)))))))) hB [28,27,26,9,8,7,6,5,4] [50,0] rfl rfl fun a w F hS=>?_
  rw [← hn2] at hS
  refine Zb ?_
  refine Zc hS (qM rfl rfl (qM rfl rfl (qM rfl rfl (qf (oB [(0,.tmp 47),(1,.tmp 48)] [.int .i64 0,.int .i64 0] [(0,1),(1,1)] (.one rfl .t one_int (by kernel_rfl) (.one rfl .t one_int (by kernel_rfl) .nil))) r2 qz (qf (Zh (sz:=2) (zs:=[.int .i64 0,.int .i64 0]) (r:=[(0,.tmp 49)]) (l:=[_,_]) Tryz.underlying65 (by kernel_rfl) (by kernel_rfl) (by kernel_rfl) (by kernel_rfl) rfl rfl (.agg rfl .t (by kernel_rfl) (by kernel_rfl) .nil) rfl) r1 qz (qf (o_append (sz:=2) (bs:=16) 50 (.mk' Tryz.underlying65 (by kernel_rfl) (by kernel_rfl)) (by intro x;rfl) .is (.arr (l':=[(⟨Go.Gm.nth y i,i⟩:Zco)]) .t) (by simp only [List.length_append,List.length_cons,List.length_nil];omega) (by decide)) ⟨rfl,rfl,trivial⟩ ⟨rfl,trivial⟩ (qN rfl rfl qZ))))))) hB [28,27,26,7,6,5,4] [50,0] (fun _=>rfl) (fun _=>rfl) fun τ a w F hS=>?_
  try dsimp only [RS.sub,SF.sub,CF.sub,csub,Anc.sub,List.map,Zf,xL,xM,Nat.reduceAdd,xD,xE,xT,xU,xC,xN,zCF,rInt,Zdb] at hS
  generalize τ 51=v51 at hS
  refine Zi (Zb ?_)
  refine Za hS (qp r1 (qM rfl rfl qZ)) hB [28,27,26,7,6,5,4] [50,0] rfl rfl fun a w F hS=>Zb ?_
  replace hS:=hS.ent (i:=28) (s':=.pv (.int .i64 ((i+1:Nat):Int))) rfl (.int (Ze (by omega)))
  obtain ⟨F,hS⟩:=hS.nm [27,26,5,4,6,7,28] [0,50] rfl rfl
  exact ⟨((i+1),(now2),_,_),F,⟨by omega,⟨by first | (rw [hst,hst2];done) | (rw [hst,hst2];simp),hpm2,by first | omega | (simp only [List.length_append,List.length_cons,List.length_nil];omega)⟩⟩,hS,by omega⟩
 have hil:i=y.length:=by simp at hc1;omega
 rw [hil,List.drop_length,ZaA,List.append_nil] at hst
 have hm:Zak x y=(out,0):=by unfold Zak;rw [if_pos hok,hst]
 refine wp_exit (Zj (Zj (Zp (Zb (wp_seq ?_)))))
 refine Za hS (qM rfl rfl (qN rfl rfl (qI qZ))) hB [5,4] [50,0] rfl rfl fun a w F hS=>Zb (wp_ret ?_)
 obtain ⟨F,hS⟩:=hS.give 50 4 rfl rfl
 refine ZI hfr hS rfl (.tmp rfl (.tmp rfl .nil)) (.two (.sl (by rw [hm])) (.int (by rw [hm])))
theorem ZaU.nth {l:List Int} (h:ZaU l) {i:Nat} (hi:i<l.length):Go.Gm.nth l i≠0:=by
 have:=(h.1 _ (ZR hi)).1
 omega
theorem ZeE:∀ (s:List Zco) (l:List Int) (p:Zco),Za1 l (s ++ [p])=(Zam (Za1 l s) p.key p.val).1
 | [],l,p=>rfl
 | q :: s,l,p=>ZeE s _ p
theorem Zds:∀ (to now:List Int) (i:Int),∀ p ∈ ZaA now i to,p.key ∈ to∧i≤p.val∧p.val<i+to.length
 | [],now,i,p,h=>by cases h
 | x :: to,now,i,p,h=>by
   have key:∀ now',p ∈ ZaA now' (i+1) to→p.key ∈ x :: to∧i≤p.val∧p.val<i+(x :: to).length:=fun now' h=>by
     obtain ⟨h1,h2,h3⟩:=Zds to now' (i+1) p h
     refine ⟨List.mem_cons_of_mem _ h1,by omega,?_⟩
     rw [List.length_cons];omega
   unfold ZaA at h
   split at h
   · exact key _ h
   · rcases List.mem_cons.1 h with rfl | h
     · refine ⟨List.mem_cons_self,Int.le_refl _,?_⟩
       rw [List.length_cons]
       show i<_
       omega
     · exact key _ h
theorem ZcA:∀ (s:List Zco) (l:List Int),(∀ p ∈ s,p.key ∈ l∧0≤p.val∧p.val<l.length)→(Za1 l s).Perm l
 | [],l,_=>.refl _
 | p :: s,l,h=>by
   obtain ⟨h1,h2,h3⟩:=h p (by simp)
   have hp:=Zc0 h1 ⟨h2,h3⟩
   refine (ZcA s _ fun q hq=>?_).trans hp
   obtain ⟨k1,k2,k3⟩:=h q (by simp [hq])
   exact ⟨hp.mem_iff.2 k1,k2,by rw [hp.length_eq];exact k3⟩
theorem ZfX:∀ (to now:List Int) (i:Nat),now.drop i=to→ZaA now i to = []
 | [],now,i,_=>rfl
 | x :: to,now,i,h=>by
   have hi:i<now.length:=by
     rcases Nat.lt_or_ge i now.length with h1 | h1
     · exact h1
     · rw [List.drop_eq_nil_of_le h1] at h;cases h
   rw [Zcb hi] at h
   injection h with h1 h2
   rw [ZgL h1]
   exact ZfX to now (i+1) h2
structure ZnD (x y:List Int) (s:List Zco):Prop where
 keys:(s.map Zco.key).Nodup
 done:Za1 x s=y
 each:∀ i,i<s.length→Zam (Za1 x (s.take i)) (Go.Gm.nth s i).key (Go.Gm.nth s i).val=(Za1 x (s.take (i+1)),0)
 none:(s.length:Int)=0 ↔ x=y
 len:∀ i,(Za1 x (s.take i)).length=x.length
 short:s.length≤y.length
theorem steps_facts {x y:List Int} {s:List Zco} (h:Zcc x y) (hs:s=ZaA x 0 y):ZnD x y s:=by
 have hv:∀ p ∈ s,p.key ∈ x∧0≤p.val∧p.val<x.length:=fun p hp=>by
   rw [hs] at hp
   obtain ⟨h1,h2,h3⟩:=Zds y x 0 p hp
   exact ⟨h.2.2.mem_iff.2 h1,h2,by rw [h.2.2.length_eq];omega⟩
 have hvt:∀ i,∀ p ∈ s.take i,p.key ∈ x∧0≤p.val∧p.val<x.length:=fun i p hp=>hv p (List.mem_of_mem_take hp)
 have hd:Za1 x s=y:=by
   have:=Zdw y x [] h.2.2 rfl h.1.2
   rw [hs];exact this
 obtain ⟨ks,k1,k2⟩:=Zdo y x 0
 refine ⟨by rw [hs,k2];exact h.2.1.2.sublist k1,hd,fun i hi=>?_,⟨fun h0=>?_,fun e=>?_⟩,fun i=>(ZcA _ _ (hvt i)).length_eq,?_⟩
 · obtain ⟨h1,h2,h3⟩:=hv _ (ZR hi)
   have hp:=ZcA _ _ (hvt i)
   rw [ZD hi,ZeE,ZhF (hp.mem_iff.2 h1) ⟨h2,by rw [hp.length_eq];exact h3⟩]
 · have:s = []:=List.eq_nil_of_length_eq_zero (by omega)
   rw [this] at hd;exact hd
 · subst e
   rw [hs,show ZaA x 0 x = [] from ZfX x x 0 rfl];rfl
 · have:=k1.length_le
   rw [← k2,List.length_map] at this
   rw [hs];exact this
def Zad (t:TxD):Bool:=t.ops.any fun o=>o.read
theorem ZfP (t:TxD):(!decide (t=bareT t))=Zad t:=by
 unfold Zad
 rw [Bool.eq_iff_iff]
 simp only [Bool.not_eq_true',decide_eq_false_iff_not,List.any_eq_true]
 constructor
 · intro h
   refine Classical.byContradiction fun h2=>h ?_
   obtain ⟨a,b,c⟩:=t
   unfold bareT
   congr 1
   symm
   rw [List.filter_eq_self]
   intro o ho
   cases hr:o.read with
   | false=>rfl
   | true=>exact absurd ⟨o,ho,hr⟩ h2
 · rintro ⟨o,ho,hr⟩ e
   have:o ∈ (bareT t).ops:=by rw [← e];exact ho
   unfold bareT at this
   have:=(List.mem_filter.1 this).2
   rw [hr] at this;cases this
def ZbJ (t:TxD):CmdD:={zeroC 1 with tx:=bareT t}
def ZbK (t:TxD):CmdD:={zeroC 2 with tx:=t}
def Zh2 (k:Int) (p:Zco):CmdD:={zeroC 5 with key:=k,id:=p.key,place:=p.val}
def ZbF (o:OrdD):List CmdD:=(Zak (o.txs.mergeSort leI) o.txs).1.map (Zh2 o.key)
def commandsC (g:HistD):List CmdD:=if Zu g then (g.txs.map ZbJ++(g.txs.filter Zad).map ZbK)++g.orders.flatMap ZbF else []
def ZN (g:HistD) (c:CmdD):HistD×Int:=if c.kind=1 then Zay g c.tx else if c.kind=2 then Za8 g c.tx else if c.kind=3 then Zal g c.id else if c.kind=4 then ZcW g c.order else if c.kind=5 then ZlE g c.key c.id c.place else (zeroH,11)
def playC:HistD→List CmdD→Nat→HistD×Nat×Int
 | g,[],i=>(g,i,0)
 | g,c :: l,i=>if (ZN g c).2≠0 then (zeroH,i,(ZN g c).2) else playC (ZN g c).1 l (i+1)
theorem Zfr {g0 g:HistD} {l:List CmdD} {i:Nat} (h:playC g0 l 0=playC g (l.drop i) i) (hi:i=l.length):playC g0 l 0=(g,l.length,0):=by
 rw [h,hi,List.drop_length];rfl
theorem ZfA {g0 g:HistD} {l:List CmdD} {i:Nat} (h:playC g0 l 0=playC g (l.drop i) i) (hi:i<l.length) (h2:(ZN g (Go.Gm.nth l i)).2≠0):playC g0 l 0=(zeroH,i,(ZN g (Go.Gm.nth l i)).2):=by
 rw [h,Zcb hi,playC,if_pos h2]
theorem Zed {g0 g:HistD} {l:List CmdD} {i:Nat} (h:playC g0 l 0=playC g (l.drop i) i) (hi:i<l.length) (h2:¬ (ZN g (Go.Gm.nth l i)).2≠0):playC g0 l 0=playC (ZN g (Go.Gm.nth l i)).1 (l.drop (i+1)) (i+1):=by
 rw [h,Zcb hi,playC,if_neg h2]
def ZaO (c:CmdD):Prop:=c.tx.ops.length≤24∧c.order.txs.length≤24
instance (c:CmdD):Decidable (ZaO c):=by unfold ZaO;exact inferInstance
def Zk2 (l:List CmdD):Prop:=l.length≤40 ∧ ∀ c ∈ l,ZaO c
instance (l:List CmdD):Decidable (Zk2 l):=by unfold Zk2;exact inferInstance
theorem LightC.at {l:List CmdD} (h:Zk2 l) {i:Nat} (hi:i<l.length):ZaO (Go.Gm.nth l i):=h.2 _ (ZR hi)
def toE (c:CmdD):EdD:=if c.kind=1 then ⟨0,c.tx,⟨0,[]⟩,0⟩ else if c.kind=2 then ⟨2,c.tx,⟨0,[]⟩,0⟩ else if c.kind=3 then ⟨1,⟨c.id,false,[]⟩,⟨0,[]⟩,0⟩ else if c.kind=4 then ⟨3,zeroT,c.order,0⟩ else ⟨4,⟨c.id,false,[]⟩,⟨c.key,[]⟩,c.place⟩
theorem ZnG {g:HistD} {c:CmdD} (h:(ZN g c).2=0):ZN g c=doH g (toE c):=by
 unfold ZN at h ⊢
 unfold toE
 by_cases k1:c.kind=1
 · simp only [if_pos k1];rfl
 · by_cases k2:c.kind=2
   · simp only [if_neg k1,if_pos k2];rfl
   · by_cases k3:c.kind=3
     · simp only [if_neg k1,if_neg k2,if_pos k3];rfl
     · by_cases k4:c.kind=4
       · simp only [if_neg k1,if_neg k2,if_neg k3,if_pos k4];rfl
       · by_cases k5:c.kind=5
         · simp only [if_neg k1,if_neg k2,if_neg k3,if_neg k4,if_pos k5];rfl
         · simp only [if_neg k1,if_neg k2,if_neg k3,if_neg k4,if_neg k5] at h;exact absurd h (by decide)
theorem ZiI {c:CmdD} (h:ZaO c):ZeC (toE c):=by
 unfold toE ZeC
 obtain ⟨h1,h2⟩:=h
 split
 · exact ⟨h1,Nat.zero_le _⟩
 · split
   · exact ⟨h1,Nat.zero_le _⟩
   · split
     · exact ⟨Nat.zero_le _,Nat.zero_le _⟩
     · split
       · exact ⟨Nat.zero_le _,h2⟩
       · exact ⟨Nat.zero_le _,Nat.zero_le _⟩
def ZaQ (n:Nat) (g:HistD):Prop:=Zu g∧g.txs.length≤n ∧ ∀ t ∈ g.txs,t.ops.length≤24
theorem ZoF:∀ l:List TxD,(∀ t ∈ l,t.ops.length≤24)→(ZbV l).length≤24*l.length:=fun l h=>by
 unfold ZbV
 refine Nat.le_trans (ZfR _) ?_
 induction l with
 | nil=>simp
 | cons t l ih=>
   have h1:=ih fun x hx=>h x (by simp [hx])
   have h2:=h t (by simp)
   have h3:=ZcG t
   by_cases hd:t.done=true
   · rw [List.filter_cons_of_pos (by simpa using hd),List.flatMap_cons,List.length_append,List.length_cons]
     omega
   · rw [List.filter_cons_of_neg (by simpa using hd),List.length_cons]
     omega
theorem ZaQ.fit {n:Nat} {g:HistD} (h:ZaQ n g):Fit n g:=by
 obtain ⟨hr,h1,h2⟩:=h
 refine ⟨⟨h1,h2⟩,?_,fun o ho=>?_⟩
 · have:=ZoF g.txs h2
   rw [hr.2.2.1]
   exact Nat.le_trans this (Nat.mul_le_mul_left _ h1)
 · obtain ⟨i,hi,e⟩:=List.getElem_of_mem ho
   have:=(hr.2.2.2 i hi).2.length_eq
   rw [Zt hi,e] at this
   rw [this]
   exact Nat.le_trans (ZbO _ _) h1
theorem Fit.small40 {n:Nat} {g:HistD} (h:Fit n g) (hn:n≤41):ZaY g:=by
 obtain ⟨⟨h1,h2⟩,h3,h4⟩:=h
 exact ⟨⟨by omega,fun t ht=>by have:=h2 t ht;omega⟩,by omega,fun o ho=>by have:=h4 o ho;omega⟩
theorem ZaQ.edit {n:Nat} {g:HistD} {c:CmdD} (h:ZaQ n g) (hn:n≤41) (hc:ZaO c) (h0:¬ (ZN g c).2≠0):ZaQ (n+1) (ZN g c).1:=by
 have h0:=Decidable.not_not.1 h0
 have e:=ZnG h0
 rw [e] at h0 ⊢
 have hf:=h.fit.doH (ZiI hc)
 exact ⟨Zkt (h.fit.small40 hn) h0,hf.1.1,hf.1.2⟩
theorem ZaQ.zero:ZaQ 0 zeroH:=⟨Zc1,Nat.le_refl _,fun t ht=>by cases ht⟩
theorem Zi1 {l:List Int} (h:l.Nodup):Zdz l=l.mergeSort leI:=by
 have hp:=List.mergeSort_perm l leI
 have hs:List.Pairwise (fun x y=>x≤y) (l.mergeSort leI):=by
   have:=List.pairwise_mergeSort (le:=leI) (fun a b c h1 h2=>by simp [leI] at *;omega) (fun a b=>by simp [leI];omega) l
   exact this.imp fun h=>by simpa [leI] using h
 have hi:Zd0 (l.mergeSort leI):=by
   have hn:(l.mergeSort leI).Nodup:=hp.nodup_iff.2 h
   exact (hs.and hn).imp fun h=>by have:=h.1;have:=h.2;omega
 have hk:=Zaw l
 have h1:=Zfu hk.1 hi fun x hx=>hp.mem_iff.2 ((hk.2 x).1 hx)
 have h2:=Zfu hi hk.1 fun x hx=>(hk.2 x).2 (hp.mem_iff.1 hx)
 exact h1.2 (Nat.le_antisymm h1.1 h2.1)
theorem Zcj (x y:List Int):(Zak x y).1.length≤y.length:=by
 unfold Zak
 split
 · rename_i h;exact (steps_facts h rfl).short
 · simp
theorem Zid (o:OrdD):(ZbF o).length≤o.txs.length:=by
 unfold ZbF;rw [List.length_map];exact Zcj _ _
theorem ZgB {os:List OrdD} (h:Zb0 os) (i:Nat):((os.take i).flatMap ZbF).length≤1000*i:=by
 induction i with
 | zero=>simp
 | succ i ih=>
   by_cases hi:i<os.length
   · rw [ZD hi,List.flatMap_append,List.length_append]
     have h1:=Zid (Go.Gm.nth os i)
     have h2:=h.at hi
     simp only [List.flatMap_cons,List.flatMap_nil,List.append_nil]
     omega
   · rw [List.take_of_length_le (by omega)]
     rw [List.take_of_length_le (by omega)] at ih
     omega
theorem ZeO {g:HistD} (h:ZaY g):(commandsC g).length≤4002000:=by
 unfold commandsC
 split
 · rw [List.length_append,List.length_append,List.length_map,List.length_map]
   have h1:=h.1.1
   have h2:=h.2.1
   have h3:=ZgB h.2 g.orders.length
   rw [List.take_length] at h3
   have h4:=List.length_filter_le Zad g.txs
   omega
 · simp
theorem Zde {g:HistD} {c:CmdD} (h:c ∈ commandsC g):c.order.txs = []:=by
 unfold commandsC at h
 split at h
 · rcases List.mem_append.1 h with h | h
   · rcases List.mem_append.1 h with h | h
     · obtain ⟨t,_,rfl⟩:=List.mem_map.1 h;rfl
     · obtain ⟨t,_,rfl⟩:=List.mem_map.1 h;rfl
   · obtain ⟨o,_,h⟩:=List.mem_flatMap.1 h
     unfold ZbF at h
     obtain ⟨p,_,rfl⟩:=List.mem_map.1 h;rfl
 · cases h
theorem Zba {g:HistD} (h:Zu g):commandsC g=(g.txs.map ZbJ++(g.txs.filter Zad).map ZbK)++g.orders.flatMap ZbF:=if_pos h
theorem Zf5 {g:HistD} (h:¬ Zu g):commandsC g = []:=if_neg h
theorem ZcJ {α:Type} [Inhabited α] {β:Type} {f:α→Bool} {m:α→β} {l:List α} {i:Nat} (h:i<l.length) (b:Bool) (hb:f (Go.Gm.nth l i)=b):((l.take (i+1)).filter f).map m=((l.take i).filter f).map m++if b=true then [m (Go.Gm.nth l i)] else []:=by
 rw [ZD h,List.filter_append,List.map_append]
 subst hb
 by_cases e:f (Go.Gm.nth l i)=true
 · rw [if_pos e,List.filter_cons_of_pos e];rfl
 · rw [if_neg e,List.filter_cons_of_neg e];rfl
theorem Zb5 {α β:Type} [Inhabited α] {m:α→β} {l:List α} {i:Nat} (h:i<l.length):(l.take (i+1)).map m=(l.take i).map m ++ [m (Go.Gm.nth l i)]:=by rw [ZD h,List.map_append];rfl
inductive ZS where
 | none
 | away (t:TxD)
 | plain (t:TxD) (b:Bool)
 | whole (t:TxD)
 deriving Inhabited
def ZA:ZS→PV
 | .none=>.is .nilIface
 | .away t=>.ifc 108 (.agg (rTx t))
 | .plain t b=>.ifc 106 (.agg [.int .i64 t.id,.bool t.done,.sl rOp t.ops,.bool b])
 | .whole t=>.ifc 109 (.agg (rTx t))
def ZH (s:ZS):List PV:=[ZA s]
def ZaJ (l:List ZS):List PV:=[.sl ZH l]
structure ZY where
 t:TxD
 there:Bool
 just:Bool
 reads:Bool
 deriving Inhabited
def ZQ (s:ZY):List PV:=[.int .i64 s.t.id,.bool s.t.done,.sl rOp s.t.ops,.bool s.there,.bool s.just,.bool s.reads]
def hasT (o:HistD) (t:TxD):Bool:=(ZK o.txs t.id).isSome
def ZaX (o:HistD) (t:TxD):Bool:=(ZK o.txs t.id).isSome && decide (t=(ZK o.txs t.id).getD zeroT)
def Zcl (o:HistD) (t:TxD):ZY:=⟨t,hasT o t,ZaX o t,Zad t⟩
def Zn (h o:HistD):List ZY:=h.txs.map (Zcl o)
def ZcB (l:List ZY):List ZS:=(l.filter fun s=>!s.just && s.reads).map fun s=>.plain s.t true
def Zet (l:List ZY):List ZS:=(l.filter fun s=>!s.there).map fun s=>.away s.t
def ZeQ (l:List ZY):List ZS:=(l.filter fun s=>!s.just && s.there).map fun s=>.plain s.t true
def ZeW (l:List ZY):List ZS:=(l.filter fun s=>!s.just && !s.there).map fun s=>.plain s.t false
def ZdQ (l:List ZY):List ZS:=(l.filter fun s=>!s.just && s.reads).map fun s=>.whole s.t
def Zas (a b:HistD):List (List ZS):=[ZcB (Zn a b),Zet (Zn a b),ZeQ (Zn b a),ZeW (Zn b a),ZdQ (Zn b a)]
def ZeD (t:TxD):CmdD:={zeroC 3 with id:=t.id}
def Zcq:ZS→CmdD
 | .none=>zeroC 0
 | .away t=>ZeD t
 | .plain t b=>if b=true then ZbK (bareT t) else ZbJ t
 | .whole t=>ZbK t
def ZJ (a b:HistD):List CmdD:=
 ((((a.txs.filter fun t=>!ZaX b t && Zad t).map fun t=>ZbK (bareT t))++((a.txs.filter fun t=>!hasT b t).map ZeD))++((b.txs.filter fun t=>hasT a t && !ZaX a t).map fun t=>ZbK (bareT t)))++((b.txs.filter fun t=>!hasT a t).map ZbJ)++((b.txs.filter fun t=>!ZaX a t && Zad t).map ZbK)
theorem Zm8 {β:Type} (o:HistD) (f:ZY→Bool) (m:ZY→β) (l:List TxD):((l.map (Zcl o)).filter f).map m=(l.filter fun t=>f (Zcl o t)).map fun t=>m (Zcl o t):=by rw [List.filter_map,List.map_map];rfl
theorem Zlr {o:HistD} {t:TxD} : (!ZaX o t && !hasT o t) = !hasT o t:=by
 unfold ZaX hasT
 cases (ZK o.txs t.id).isSome <;> simp
theorem ZfO (a b:HistD):(Zas a b).flatten.map Zcq=ZJ a b:=by
 unfold Zas ZJ ZcB Zet ZeQ ZeW ZdQ Zn
 simp only [List.flatten_cons,List.flatten_nil,List.append_nil,List.map_append,List.map_map,Zm8]
 have e1:∀ t:TxD,(!(Zcl a t).just && !(Zcl a t).there) = !hasT a t:=fun t=>Zlr
 have e2:∀ t:TxD,(!(Zcl a t).just && (Zcl a t).there)=(hasT a t && !ZaX a t):=fun t=>Bool.and_comm _ _
 simp only [e1,e2,List.append_assoc]
 rfl
theorem ZlJ {a b:HistD} {s:ZS} (h:s ∈ (Zas a b).flatten):s ≠ .none:=by
 unfold Zas ZcB Zet ZeQ ZeW ZdQ at h
 simp only [List.flatten_cons,List.flatten_nil,List.append_nil,List.mem_append,List.mem_map] at h
 rcases h with ⟨_,_,rfl⟩ | ⟨_,_,rfl⟩ | ⟨_,_,rfl⟩ | ⟨_,_,rfl⟩ | ⟨_,_,rfl⟩ <;> (intro h;cases h)
theorem Zbf {α β:Type} (f:α→Bool) (m:α→β) (l:List α):((l.filter f).map m).length≤l.length:=by
 rw [List.length_map];exact List.length_filter_le _ _
theorem Zdl (a b:HistD):(Zas a b).flatten.length≤2*a.txs.length+3*b.txs.length:=by
 unfold Zas ZcB Zet ZeQ ZeW ZdQ Zn
 simp only [List.flatten_cons,List.flatten_nil,List.append_nil,List.length_append]
 have h1:=fun (f:ZY→Bool) (m:ZY→ZS)=>Zbf f m (a.txs.map (Zcl b))
 have h2:=fun (f:ZY→Bool) (m:ZY→ZS)=>Zbf f m (b.txs.map (Zcl a))
 simp only [List.length_map] at h1 h2 ⊢
 have a1:=h1 (fun s=>!s.just && s.reads) (fun s=>.plain s.t true)
 have a2:=h1 (fun s=>!s.there) (fun s=>.away s.t)
 have a3:=h2 (fun s=>!s.just && s.there) (fun s=>.plain s.t true)
 have a4:=h2 (fun s=>!s.just && !s.there) (fun s=>.plain s.t false)
 have a5:=h2 (fun s=>!s.just && s.reads) (fun s=>.whole s.t)
 omega
theorem ZgY (a b:HistD):(ZJ a b).length≤2*a.txs.length+3*b.txs.length:=by
 rw [← ZfO,List.length_map];exact Zdl a b
theorem Zio {a b:HistD} (ha:∀ t ∈ a.txs,t.ops.length≤24) (hb:∀ t ∈ b.txs,t.ops.length≤24):∀ c ∈ ZJ a b,ZaO c:=fun c hc=>by
 have hbare:∀ t:TxD,t.ops.length≤24→(bareT t).ops.length≤24:=fun t h=>Nat.le_trans (List.length_filter_le _ _) h
 unfold ZJ at hc
 simp only [List.mem_append,List.mem_map,List.mem_filter] at hc
 rcases hc with (((⟨t,ht,rfl⟩ | ⟨t,ht,rfl⟩) | ⟨t,ht,rfl⟩) | ⟨t,ht,rfl⟩) | ⟨t,ht,rfl⟩
 · exact ⟨hbare t (ha t ht.1),Nat.zero_le _⟩
 · exact ⟨Nat.zero_le _,Nat.zero_le _⟩
 · exact ⟨hbare t (hb t ht.1),Nat.zero_le _⟩
 · exact ⟨hbare t (hb t ht.1),Nat.zero_le _⟩
 · exact ⟨hb t ht.1,Nat.zero_le _⟩
def ZdD (n:Nat) (g:HistD):Prop:=ZaY g∧g.txs.length≤n ∧ ∀ t ∈ g.txs,t.ops.length≤24
theorem ZlX {g:HistD} {c:CmdD} (h:¬ (ZN g c).2≠0):Zu g:=by
 refine Classical.byContradiction fun hr=>h ?_
 unfold ZN
 have m:∀ t there wanted,mayH g t there wanted=(0,5):=fun t there wanted=>Zra hr
 split
 · unfold Zay;rw [m,if_pos (show ((0:Int),(5:Int)).2≠0 by decide)];decide
 · split
   · unfold Za8;rw [m,if_pos (show ((0:Int),(5:Int)).2≠0 by decide)];decide
   · split
     · unfold Zal;rw [if_pos hr];decide
     · split
       · unfold ZcW;rw [Zl4 hr];decide
       · split
         · unfold ZlE;rw [Zl4 hr];decide
         · decide
theorem Fit.small160 {n:Nat} {g:HistD} (h:Fit n g) (hn:n≤166):ZaY g:=by
 obtain ⟨⟨h1,h2⟩,h3,h4⟩:=h
 exact ⟨⟨by omega,fun t ht=>by have:=h2 t ht;omega⟩,by omega,fun o ho=>by have:=h4 o ho;omega⟩
theorem ZaQ.edit2 {n:Nat} {g:HistD} {c:CmdD} (h:ZaQ n g) (hn:n≤165) (hc:ZaO c) (h0:¬ (ZN g c).2≠0):ZaQ (n+1) (ZN g c).1:=by
 have h0:=Decidable.not_not.1 h0
 have e:=ZnG h0
 rw [e] at h0 ⊢
 have hf:=h.fit.doH (ZiI hc)
 exact ⟨Zkt (h.fit.small160 (by omega)) h0,hf.1.1,hf.1.2⟩
theorem ZdD.edit {n:Nat} {g:HistD} {c:CmdD} (h:ZdD n g) (hn:n≤165) (hc:ZaO c) (h0:¬ (ZN g c).2≠0):ZdD (n+1) (ZN g c).1:=by
 have hf:ZaQ (n+1) (ZN g c).1:=ZaQ.edit2 ⟨ZlX h0,h.2⟩ hn hc h0
 exact ⟨hf.fit.small160 (by omega),hf.2⟩
theorem ZdD.none {n:Nat} : ZdD n zeroH:=⟨⟨⟨by simp [zeroH],fun t ht=>by cases ht⟩,by simp [zeroH],fun o ho=>by cases ho⟩,by simp [zeroH],fun t ht=>by cases ht⟩
theorem ZdD.play:∀ (l:List CmdD) {n i:Nat} {g:HistD},ZdD n g→n+l.length≤166→(∀ c ∈ l,ZaO c)→ZaY (playC g l i).1
 | [],n,i,g,h,_,_=>h.1
 | c :: l,n,i,g,h,hn,hl=>by
   rw [List.length_cons] at hn
   unfold playC
   by_cases h0:(ZN g c).2≠0
   · rw [if_pos h0];exact (ZdD.none (n:=0)).1
   · rw [if_neg h0];exact ZdD.play l (h.edit (by omega) (hl c (by simp)) h0) (by omega) fun x hx=>hl x (by simp [hx])
def mvC (h:HistD) (o:OrdD):List CmdD:=(Zak (getO h.orders o.key) o.txs).1.map (Zh2 o.key)
def Zb4 (a b:HistD):List CmdD×Int:=if ¬ Zu a∨¬ Zu b then ([],5) else (ZJ a b++b.orders.flatMap (mvC (playC a (ZJ a b) 0).1),0)
theorem ZpQ (h:HistD) (o:OrdD):(mvC h o).length≤o.txs.length:=by unfold mvC;rw [List.length_map];exact Zcj _ _
theorem ZpK {h:HistD} {os:List OrdD} (hs:Zb0 os) (i:Nat):((os.take i).flatMap (mvC h)).length≤1000*i:=by
 induction i with
 | zero=>simp
 | succ i ih=>
   by_cases hi:i<os.length
   · rw [ZD hi,List.flatMap_append,List.length_append]
     have h1:=ZpQ h (Go.Gm.nth os i)
     have h2:=hs.at hi
     simp only [List.flatMap_cons,List.flatMap_nil,List.append_nil]
     omega
   · rw [List.take_of_length_le (by omega)]
     rw [List.take_of_length_le (by omega)] at ih
     omega
def Zja (l:List (List ZS)):Nat:=(l.map List.length).sum
theorem ZdS {l:List (List ZS)} {i:Nat} (hi:i<l.length):Zja (l.take (i+1))=Zja (l.take i)+(Go.Gm.nth l i).length:=by unfold Zja;rw [ZD hi,List.map_append,List.sum_append];simp
theorem ZdU:∀ l:List (List ZS),Zja l=l.flatten.length
 | []=>rfl
 | x :: l=>by unfold Zja;rw [List.map_cons,List.sum_cons,List.flatten_cons,List.length_append];have:=ZdU l;unfold Zja at this;omega
theorem Zfv (l:List (List ZS)) (i:Nat):Zja (l.take i)≤l.flatten.length:=by
 have h:Zja l=Zja (l.take i)+Zja (l.drop i):=by
   unfold Zja
   rw [← List.sum_append,← List.map_append,List.take_append_drop]
 have:=ZdU l
 omega
theorem Zls {l:List (List ZS)} {i:Nat} (hi:i<l.length):(l.take (i+1)).flatten=(l.take i).flatten++Go.Gm.nth l i:=by rw [ZD hi,List.flatten_append];simp
def fA (a b:HistD):List CmdD:=(a.txs.filter fun t=>!ZaX b t && Zad t).map fun t=>ZbK (bareT t)
def fB (a b:HistD):List CmdD:=(a.txs.filter fun t=>!hasT b t).map ZeD
def fC (a b:HistD):List CmdD:=(b.txs.filter fun t=>hasT a t && !ZaX a t).map fun t=>ZbK (bareT t)
def fD (a b:HistD):List CmdD:=(b.txs.filter fun t=>!hasT a t).map ZbJ
def fE (a b:HistD):List CmdD:=(b.txs.filter fun t=>!ZaX a t && Zad t).map ZbK
theorem Zl2 {a b:HistD} {n:Nat} (ha:∀ t ∈ a.txs,t.ops.length≤n) (hb:∀ t ∈ b.txs,t.ops.length≤n) {s:ZS} (h:s ∈ (Zas a b).flatten):(match s with | .none=>[] | .away t=>t.ops | .plain t _=>t.ops | .whole t=>t.ops).length≤n:=by
 unfold Zas ZcB Zet ZeQ ZeW ZdQ Zn at h
 simp only [List.flatten_cons,List.flatten_nil,List.append_nil,List.mem_append,List.mem_map,List.mem_filter] at h
 rcases h with ⟨_,⟨⟨t,ht,rfl⟩,_⟩,rfl⟩ | ⟨_,⟨⟨t,ht,rfl⟩,_⟩,rfl⟩ | ⟨_,⟨⟨t,ht,rfl⟩,_⟩,rfl⟩ | ⟨_,⟨⟨t,ht,rfl⟩,_⟩,rfl⟩ | ⟨_,⟨⟨t,ht,rfl⟩,_⟩,rfl⟩
 · exact ha t ht
 · exact ha t ht
 · exact hb t ht
 · exact hb t ht
 · exact hb t ht
theorem ZdK {a b:HistD} (h:¬ Zu a∨¬ Zu b):Zb4 a b=([],5):=if_pos h
theorem ZdI {a b:HistD} (h:¬ (¬ Zu a∨¬ Zu b)):Zb4 a b=(ZJ a b++b.orders.flatMap (mvC (playC a (ZJ a b) 0).1),0):=if_neg h
theorem ZnO {h:HistD} {os:List OrdD} {i:Nat} {p out:List CmdD} (hq:out=p++(os.take i).flatMap (mvC h)) (hi:i<os.length):out++mvC h (Go.Gm.nth os i)=p++(os.take (i+1)).flatMap (mvC h):=by
 rw [hq,ZD hi,List.flatMap_append,List.append_assoc];simp
theorem ZdD.light {g:HistD} (h:ZaY g) (h1:g.txs.length≤12) (h2:∀ j,j<g.txs.length→(Go.Gm.nth g.txs j).ops.length≤24):ZdD 12 g:=⟨h,h1,fun t ht=>by
 obtain ⟨j,hj,e⟩:=List.getElem_of_mem ht
 have:=h2 j hj
 rwa [Zt hj,e] at this⟩
theorem ZdD.first {n:Nat} {a b:HistD} (ha:ZdD n a) (hb:ZdD n b) (hn:n≤27):n+(ZJ a b).length≤166∧(∀ c ∈ ZJ a b,ZaO c)∧ZaY (playC a (ZJ a b) 0).1:=by
 have h1:=ZgY a b
 have h2:=ha.2.1
 have h3:=hb.2.1
 have h4:∀ c ∈ ZJ a b,ZaO c:=Zio ha.2.2 hb.2.2
 exact ⟨by omega,h4,ZdD.play _ ha (by omega) h4⟩
end Go.Proofs.YtjhapicamnijnaaGreat
