/- Texts put together. No condition beyond those that each theorem says. -/
import Derived.Test.YtjhapicamnijnaaGreatJ9
import Derived.Test.YtjhapicamnijnaaGreatJ1
import Derived.Test.YtjhapicamnijnaaGreatJ8
import Derived.Test.YtjhapicamnijnaaGreatJ7
import Derived.Test.YtjhapicamnijnaaGreatJ5
import Derived.Test.YtjhapicamnijnaaGreatJ6
namespace Go.Proofs.YtjhapicamnijnaaGreat
open Go Go.Gm
set_option linter.unusedVariables false
set_option linter.unusedSimpArgs false
set_option maxHeartbeats 4000000
set_option maxRecDepth 8000
theorem Zaq (c:CmdD):Zaj c=true ↔ ((1≤c.kind∧c.kind≤12)∧c=usedR c)∧(c.tx.ops.length≤4095∧Zfs c.tx.id=true∧Zfs c.id=true∧Zfs c.order.key=true∧Zfs c.key=true∧Zfs c.place=true)∧c.tx.ops.all Z0=true∧c.order.txs.all Zfs=true∧¬ (c.kind=9∧Za1 c.phen = []):=by
 constructor
 · intro h
   obtain ⟨h1,h2,h3,h4⟩:=ZbB h
   unfold Zaj Za7 at h
   simp only [Bool.and_eq_true,List.all_append,List.all_cons,List.all_nil] at h
   obtain ⟨_,⟨⟨h5,h6,h7,h8,h9,_⟩,ha⟩,hb⟩:=h
   exact ⟨⟨Zf2 h1,h2⟩,⟨h3,h5,h6,h7,h8,h9⟩,hb,ha,h4⟩
 · rintro ⟨⟨h1,h2⟩,⟨h3,h5,h6,h7,h8,h9⟩,hb,ha,h4⟩
   unfold Zaj Za7
   rw [decide_eq_true (show Zi5 c from ⟨(ZmI h1).1,h2,h3,h4⟩)]
   simp only [Bool.and_eq_true,List.all_append,List.all_cons,List.all_nil]
   exact ⟨trivial,⟨⟨h5,h6,h7,h8,h9,trivial⟩,ha⟩,hb⟩
theorem Zd1 {c:CmdD} (h:¬ Zaj c=true):false=Zaj c:=by simpa using h
theorem Zhc (c:CmdD) (hc:c.order.txs.length≤998):FnP Tryz.prog 112 [.agg (rCmd c)] (.bool (Zaj c)):=by
 refine FnP.mk Tryz.func112 rfl Tryz.ntmps112 rfl ?_
 intro B a w F hB hfr hS
 refine wp_seq ?_
 refine Zc hS (qx 101 r1 qB) hB [2,1] [101,0] (fun _=>rfl) (fun _=>rfl) fun τ a w F hS=>?_
 try dsimp only [RS.sub,SF.sub,CF.sub,csub,Anc.sub,List.map,zCF,rCmd] at hS
 generalize τ 1=v1 at hS
 refine Zb (wp_seq (wp_seq ?_))
 refine Zu hS (qg 0 101 r1 r1 (qa 101 r1 r1 (qf (Zbu .t qi) r1 qz (qM rfl rfl (qv 0 101 rfl r2 r1 (qw 101 rfl r2 r1 (qk rfl (fun h=>Zal (.w h) qi) r2 qz (qf (Z4 .t .t) r2 qz (qM rfl rfl (qk rfl (fun h=>oL true 10 101 .is) r2 r1 (qk rfl (fun h=>oL true 10 101 .is) r2 r1 (qk rfl (fun h=>oP (ZpI c) Tryz.func169 (Args.one (.pagg (.w h)))) r2 qz (qk rfl (fun h=>oP (Zeo c (usedR c)) Tryz.func40 (Args.two (.pagg (.w h)) (.w h))) r3 qz (qk rfl (fun h=>o_not (.w h)) r2 qz (qf (Z4 .t .t) r2 qz qZ))))))))))))))) hB [21,2,1] [101,0] rfl rfl fun a w F hS=>?_
 try dsimp only [List.map,xD,xE,xT,xU,ldSF,rCmd] at hS
 refine Zb ?_
 refine Zd hS rfl (fun hc0=>?_) (fun hc0=>?_)
 ·skip
  have hg:false=Zaj c:=Zd1 fun h=>by
    obtain ⟨⟨g1,g2⟩,_⟩:=(Zaq c).1 h
    simp only [Bool.or_eq_true,decide_eq_true_eq,Bool.not_eq_true',Bool.not_eq_false,decide_eq_false_iff_not] at hc0
    rcases hc0 with (hx | hx) | hx
    · omega
    · omega
    · exact hx g2
  refine wp_seq ?_
  refine Za hS qB hB [2,1] [101,0] rfl rfl fun a w F hS=>Zb (wp_ret (Zf ?_))
  refine Zn hfr hS rfl rfl rfl (.bool (by first | exact hg | (rw [Bool.eq_iff_iff,Zaq];exact ⟨fun h=>⟨hA,hB5,hallo,halln,fun g=>by simp [g.1,g.2] at h⟩,fun h=>(Classical.em (c.kind=9)).elim (fun g=>by have g2:Za1 c.phen≠[]:=fun e=>h.2.2.2.2 ⟨g,e⟩;simp [g2]) (fun g=>by simp [g])⟩)))
 have hA:(1≤c.kind∧c.kind≤12)∧c=usedR c:=by
   rw [Bool.eq_false_iff] at hc0
   refine Classical.byContradiction fun g=>hc0 ?_
   simp only [Bool.or_eq_true,decide_eq_true_eq,Bool.not_eq_true',Bool.not_eq_false,decide_eq_false_iff_not]
   by_cases g2:c=usedR c
   · left;exact Classical.byContradiction fun g3=>g ⟨by omega,g2⟩
   · exact .inr g2
 refine wp_skip (Zb (wp_seq (wp_seq ?_)))
 refine Zbx hS (by kernel_rfl) (nf (oF 1 101 .is) r1 r1 (nf (oF 2 101 .adr) r1 r1 (nf (oL false 1 101 .adr) r1 r1 (nf (Zaz Tryz.underlying38 .t) r1 trivial (nf (Zal .t (.ci (by kernel_rfl))) r1 trivial (nM rfl rfl (nk rfl (fun h=>oF 1 101 .is) r2 r1 (nk rfl (fun h=>oF 0 101 (.w h .adr)) r2 r1 (nk rfl (fun h=>oL false 1 101 (.w h .adr)) r2 r1 (nk rfl (fun h=>oP (Za5 c.tx.id) Tryz.func170 (Args.one (.w h))) r2 trivial (nk rfl (fun h=>o_not (.w h)) r2 trivial (nf (Z4 .t .t) r2 trivial (nM rfl rfl (nk rfl (fun h=>oF 7 101 .is) r2 r1 (nk rfl (fun h=>oL false 1 101 (.w h .adr)) r2 r1 (nk rfl (fun h=>oP (Za5 c.id) Tryz.func170 (Args.one (.w h))) r2 trivial (nk rfl (fun h=>o_not (.w h)) r2 trivial (nf (Z4 .t .t) r2 trivial (nM rfl rfl (nk rfl (fun h=>oF 4 101 .is) r2 r1 (nk rfl (fun h=>oF 0 101 (.w h .adr)) r2 r1 (nk rfl (fun h=>oL false 1 101 (.w h .adr)) r2 r1 (nk rfl (fun h=>oP (Za5 c.order.key) Tryz.func170 (Args.one (.w h))) r2 trivial (nk rfl (fun h=>o_not (.w h)) r2 trivial (nn [45,40,2,1] [101,0] rfl rfl (nf (Z4 .t .t) r2 trivial (nM rfl rfl (nk rfl (fun h=>oF 6 101 .is) r2 r1 (nk rfl (fun h=>oL false 1 101 (.w h .adr)) r2 r1 (nk rfl (fun h=>oP (Za5 c.key) Tryz.func170 (Args.one (.w h))) r2 trivial (nk rfl (fun h=>o_not (.w h)) r2 trivial (nf (Z4 .t .t) r2 trivial (nM rfl rfl (nk rfl (fun h=>oF 8 101 .is) r2 r1 (nk rfl (fun h=>oL false 1 101 (.w h .adr)) r2 r1 (nk rfl (fun h=>oP (Za5 c.place) Tryz.func170 (Args.one (.w h))) r2 trivial (nk rfl (fun h=>o_not (.w h)) r2 trivial (nf (Z4 .t .t) r2 trivial ZW.nil)))))))))))))))))))))))))))))))))))))) (by kernel_rfl) (by rw [hB];kernel_rfl) fun a w F hS=>?_
 obtain ⟨F,hS⟩:=hS.nm [58,2,1] [101,0] rfl rfl
 try dsimp only [List.map,xD,xE,xT,xU,ldSF,rCmd] at hS
 refine Zb ?_
 refine Zd hS rfl (fun hc1=>?_) (fun hc1=>?_)
 ·skip
  have hg:false=Zaj c:=Zd1 fun h=>by
    obtain ⟨_,⟨g1,g2,g3,g4,g5,g6⟩,_⟩:=(Zaq c).1 h
    rw [g2,g3,g4,g5,g6] at hc1
    simp at hc1
    omega
  refine wp_seq ?_
  refine Za hS qB hB [2,1] [101,0] rfl rfl fun a w F hS=>Zb (wp_ret (Zf ?_))
  refine Zn hfr hS rfl rfl rfl (.bool (by first | exact hg | (rw [Bool.eq_iff_iff,Zaq];exact ⟨fun h=>⟨hA,hB5,hallo,halln,fun g=>by simp [g.1,g.2] at h⟩,fun h=>(Classical.em (c.kind=9)).elim (fun g=>by have g2:Za1 c.phen≠[]:=fun e=>h.2.2.2.2 ⟨g,e⟩;simp [g2]) (fun g=>by simp [g])⟩)))
 have hB5:(c.tx.ops.length≤4095∧Zfs c.tx.id=true∧Zfs c.id=true∧Zfs c.order.key=true∧Zfs c.key=true∧Zfs c.place=true):=by
   simp only [Bool.or_eq_false_iff,decide_eq_false_iff_not,Bool.not_eq_false'] at hc1
   obtain ⟨⟨⟨⟨⟨g1,g2⟩,g3⟩,g4⟩,g5⟩,g6⟩:=hc1
   exact ⟨by omega,g2,g3,g4,g5,g6⟩
 have hol:=hB5.1
 refine wp_skip (Zb (wp_seq (wp_seq ?_)))
 refine Za hS (qg 1 101 r1 r1 (qf (oF 2 101 .adr) r1 r1 (qa 101 r1 r1 (qu Tryz.underlying38 r1 (qJ qZ))))) hB [63,62,61,2,1] [101,0] rfl rfl fun a w F hS=>Zb (wp_block ?_)
 obtain ⟨F,hS⟩:=hS.nm [63,62,61,1] [101,0] rfl rfl
 refine ZQ (σ:=Nat) (fun s=>(⟨[(1,.pv (.is v1)),(61,.pv (.sl rOp c.tx.ops)),(62,.pv (.int .i64 (c.tx.ops.length:Nat))),(63,.pv (.int .i64 (s:Nat)))],[(0,frame B),(101,.pt (.val v1) 45 [.pv (.int .i64 c.kind),.pv (.int .i64 c.tx.id),.pv (.bool c.tx.done),.pv (.sl rOp c.tx.ops),.pv (.int .i64 c.order.key),.pv (.sl rInt c.order.txs),.pv (.int .i64 c.key),.pv (.int .i64 c.id),.pv (.int .i64 c.place),.pv (.int .i64 c.phen)])]⟩:En)) (fun s=>s≤c.tx.ops.length ∧ ∀ j,j<s→Z0 (nth c.tx.ops j)=true) (fun s=>c.tx.ops.length - s) 0 hS ⟨Nat.zero_le _,fun j hj=>absurd hj (Nat.not_lt_zero _)⟩ ?_
 clear hS;intro k a w F hC hS
 try dsimp only at hC
 try dsimp only at hS
 obtain ⟨hk0,hqk⟩:=hC
 refine wp_seq ?_
 refine Za hS (qL r2) hB [64,63,62,61,1] [101,0] rfl rfl fun a w F hS=>Zb (wp_seq ?_)
 refine Zd hS rfl (fun hc2=>?_) (fun hc2=>?_)
 ·skip
  have hkl:k<c.tx.ops.length:=by have h9:=of_decide_eq_true hc2;omega
  refine wp_skip (Zb (wp_seq (wp_block (wp_seq ?_))))
  refine Zc hS (qy 4 Tryz.underlying38 r2 (qf (oR true 4 .t) r1 qz (qf (oH [.bool false,.int .i64 0,.int .i64 0,.int .i64 0] 102) trivial qz (qS 4 102 r2 r1 qZ)))) hB [63,62,61,4,1] [102,101,0] (fun _=>rfl) (fun _=>rfl) fun τ a w F hS=>?_
  try dsimp only [RS.sub,SF.sub,CF.sub,csub,Anc.sub,List.map,Zg,xL,xM,Nat.reduceAdd,xD,xE,xT,xU,xC,xN,zCF,ldSF,rCmd] at hS
  generalize τ 4=v4 at hS
  rw [Int.toNat_natCast] at hS
  refine Zb (wp_seq ?_)
  refine Za hS (qe 4 102 r1 r1 (qf (oP (ZcA (nth c.tx.ops k)) Tryz.func147 (Args.one (.pagg .t))) r1 qz (qf (o_not .t) r1 qz qZ))) hB [69,63,62,61,1] [101,0] rfl rfl fun a w F hS=>Zb ?_
  refine Zd hS rfl (fun hc3=>?_) (fun hc3=>?_)
  ·skip
   have h8:Z0 (nth c.tx.ops k)=false:=by simpa using hc3
   have hg:false=Zaj c:=Zd1 fun h=>by rw [List.all_eq_true.1 ((Zaq c).1 h).2.2.1 _ (ZP hkl)] at h8;cases h8
   refine wp_seq ?_
   refine Za hS qB hB [63,62,61,2,1] [101,0] rfl rfl fun a w F hS=>Zb (wp_ret (Zk (Zf (Zf (Zk (Zf ?_))))))
   refine Zn hfr hS rfl rfl rfl (.bool (by first | exact hg | (rw [Bool.eq_iff_iff,Zaq];exact ⟨fun h=>⟨hA,hB5,hallo,halln,fun g=>by simp [g.1,g.2] at h⟩,fun h=>(Classical.em (c.kind=9)).elim (fun g=>by have g2:Za1 c.phen≠[]:=fun e=>h.2.2.2.2 ⟨g,e⟩;simp [g2]) (fun g=>by simp [g])⟩)))
  have hqe:Z0 (nth c.tx.ops k)=true:=by simpa using hc3
  refine wp_skip (Zh (Zb ?_))
  refine Za hS (qp r1 (qM rfl rfl qZ)) hB [63,62,61,1] [101,0] rfl rfl fun a w F hS=>Zb ?_
  replace hS:=hS.ent (i:=63) (s':=.pv (.int .i64 ((k+1:Nat):Int))) rfl (.int (Ze (by omega)))
  obtain ⟨F,hS⟩:=hS.nm [63,62,61,1] [101,0] rfl rfl
  exact ⟨k+1,F,⟨by omega,fun j hj=>(Nat.lt_or_ge j k).elim (hqk j) (fun h1=>(show k=j by omega) ▸ hqe)⟩,hS,by omega⟩
 have hallo:c.tx.ops.all Z0=true:=by
   rw [List.all_eq_true]
   intro x hx
   obtain ⟨j,hj,rfl⟩:=List.getElem_of_mem hx
   rw [← Zq hj]
   exact hqk j (by have h9:=of_decide_eq_false hc2;omega)
 refine wp_exit (Zi (Zi (Zo (Zb (wp_seq (wp_seq ?_))))))
 refine Za hS (qg 4 101 r1 r1 (qf (oF 1 101 .adr) r1 r1 (qa 101 r1 r1 (qu Tryz.underlying41 r1 (qJ qZ))))) hB [75,74,73,1] [101,0] rfl rfl fun a w F hS=>Zb (wp_block ?_)
 obtain ⟨F,hS⟩:=hS.nm [75,74,73,1] [101,0] rfl rfl
 refine ZQ (σ:=Nat) (fun s=>(⟨[(1,.pv (.is v1)),(73,.pv (.sl rInt c.order.txs)),(74,.pv (.int .i64 (c.order.txs.length:Nat))),(75,.pv (.int .i64 (s:Nat)))],[(0,frame B),(101,.pt (.val v1) 45 [.pv (.int .i64 c.kind),.pv (.int .i64 c.tx.id),.pv (.bool c.tx.done),.pv (.sl rOp c.tx.ops),.pv (.int .i64 c.order.key),.pv (.sl rInt c.order.txs),.pv (.int .i64 c.key),.pv (.int .i64 c.id),.pv (.int .i64 c.place),.pv (.int .i64 c.phen)])]⟩:En)) (fun s=>s≤c.order.txs.length ∧ ∀ j,j<s→Zfs (nth c.order.txs j)=true) (fun s=>c.order.txs.length - s) 0 hS ⟨Nat.zero_le _,fun j hj=>absurd hj (Nat.not_lt_zero _)⟩ ?_
 clear hS;intro i a w F hC hS
 try dsimp only at hC
 try dsimp only at hS
 obtain ⟨hi0,hqi⟩:=hC
 refine wp_seq ?_
 refine Za hS (qL r2) hB [76,75,74,73,1] [101,0] rfl rfl fun a w F hS=>Zb (wp_seq ?_)
 refine Zd hS rfl (fun hc4=>?_) (fun hc4=>?_)
 ·skip
  have hil:i<c.order.txs.length:=by have h9:=of_decide_eq_true hc4;omega
  refine wp_skip (Zb (wp_seq (wp_block (wp_seq ?_))))
  refine Za hS (qy 1 Tryz.underlying41 r2 (qf (oR false 1 .t) r1 qz (qN rfl rfl qZ))) hB [75,74,73,6,1] [101,0] rfl rfl fun a w F hS=>?_
  rw [Int.toNat_natCast] at hS
  refine Zb (wp_seq ?_)
  refine Za hS (qM rfl rfl (qf (oP (Za5 (nth c.order.txs i)) Tryz.func170 (Args.one .t)) r1 qz (qf (o_not .t) r1 qz qZ))) hB [81,75,74,73,1] [101,0] rfl rfl fun a w F hS=>Zb ?_
  refine Zd hS rfl (fun hc5=>?_) (fun hc5=>?_)
  ·skip
   have h8:Zfs (nth c.order.txs i)=false:=by simpa using hc5
   have hg:false=Zaj c:=Zd1 fun h=>by rw [List.all_eq_true.1 ((Zaq c).1 h).2.2.2.1 _ (ZP hil)] at h8;cases h8
   refine wp_seq ?_
   refine Za hS qB hB [75,74,73,2,1] [101,0] rfl rfl fun a w F hS=>Zb (wp_ret (Zk (Zf (Zf (Zk (Zf ?_))))))
   refine Zn hfr hS rfl rfl rfl (.bool (by first | exact hg | (rw [Bool.eq_iff_iff,Zaq];exact ⟨fun h=>⟨hA,hB5,hallo,halln,fun g=>by simp [g.1,g.2] at h⟩,fun h=>(Classical.em (c.kind=9)).elim (fun g=>by have g2:Za1 c.phen≠[]:=fun e=>h.2.2.2.2 ⟨g,e⟩;simp [g2]) (fun g=>by simp [g])⟩)))
  have hqe:Zfs (nth c.order.txs i)=true:=by simpa using hc5
  refine wp_skip (Zh (Zb ?_))
  refine Za hS (qp r1 (qM rfl rfl qZ)) hB [75,74,73,1] [101,0] rfl rfl fun a w F hS=>Zb ?_
  replace hS:=hS.ent (i:=75) (s':=.pv (.int .i64 ((i+1:Nat):Int))) rfl (.int (Ze (by omega)))
  obtain ⟨F,hS⟩:=hS.nm [75,74,73,1] [101,0] rfl rfl
  exact ⟨i+1,F,⟨by omega,fun j hj=>(Nat.lt_or_ge j i).elim (hqi j) (fun h1=>(show i=j by omega) ▸ hqe)⟩,hS,by omega⟩
 have halln:c.order.txs.all Zfs=true:=by
   rw [List.all_eq_true]
   intro x hx
   obtain ⟨j,hj,rfl⟩:=List.getElem_of_mem hx
   rw [← Zq hj]
   exact hqi j (by have h9:=of_decide_eq_false hc4;omega)
 refine wp_exit (Zi (Zi (Zo (Zb (wp_seq ?_)))))
 refine Za hS (qg 0 101 r1 r1 (qa 101 r1 r1 (qf (o_neq .t qi) r1 qz (qM rfl rfl (qv 9 101 rfl r2 r1 (qw 101 rfl r2 r1 (qk rfl (fun h=>oP (ZhR c.phen) Tryz.func117 (Args.one (.w h))) r2 qz (qk rfl (fun h=>ZkD Tryz.underlying9 (.w h) (.cs (by kernel_rfl))) r2 qz (qf (Z4 .t .t) r2 qz (qN rfl rfl qZ)))))))))) hB [2] [101,0] rfl rfl fun a w F hS=>Zb (wp_ret ?_)
 refine Zn hfr hS rfl rfl rfl (.bool (by first | exact hg | (rw [Bool.eq_iff_iff,Zaq];exact ⟨fun h=>⟨hA,hB5,hallo,halln,fun g=>by simp [g.1,g.2] at h⟩,fun h=>(Classical.em (c.kind=9)).elim (fun g=>by have g2:Za1 c.phen≠[]:=fun e=>h.2.2.2.2 ⟨g,e⟩;simp [g2]) (fun g=>by simp [g])⟩)))
end Go.Proofs.YtjhapicamnijnaaGreat
namespace Go.Proofs.YtjhapicamnijnaaGreat
open Go Go.Gm
set_option linter.unusedVariables false
set_option linter.unusedSimpArgs false
set_option maxHeartbeats 4000000
set_option maxRecDepth 8000
theorem Zfw (t:TxD) (ht:t.ops.length≤1000000):FnP Tryz.prog 114 [.agg (rTx t)] (.bs (ZcI t)):=by
 refine FnP.mk Tryz.func114 rfl Tryz.ntmps114 rfl ?_
 intro B a w F hB hfr hS
 have hid:=Zca (Sat.aggInt hS (i:=0) (k:=0) rfl rfl)
 have htl:=ZN hid
 have hhl:(Za3 t).length≤23:=by unfold Za3;rw [List.length_append];split <;> simp only [List.length_cons,List.length_nil] <;> omega
 refine wp_seq ?_
 refine Zc hS (qx 101 r1 (qf (oN (.cs (by kernel_rfl))) trivial qz qZ)) hB [2,1] [101,0] (fun _=>rfl) (fun _=>rfl) fun τ a w F hS=>?_
 try dsimp only [RS.sub,SF.sub,CF.sub,csub,Anc.sub,List.map,zCF] at hS
 generalize τ 1=v1 at hS
 refine Zb (wp_seq ?_)
 refine Za hS (qg 0 101 r1 r1 (qa 101 r1 r1 (qf (oP (Zat t.id) Tryz.func115 (Args.one .t)) r1 qz (qf (Zw .t (.cs (by kernel_rfl)) (by simp only [List.length_cons,List.length_nil];omega)) r1 qz (qN rfl rfl qZ))))) hB [3,2,1] [101,0] rfl rfl fun a w F hS=>Zb (wp_seq (wp_seq ?_))
 refine Za hS (qg 1 101 r1 r1 (qa 101 r1 r1 qZ)) hB [11,3,2,1] [101,0] rfl rfl fun a w F hS=>Zb ?_
 refine Zd hS rfl (fun hc0=>?_) (fun hc0=>?_)
 ·skip
  have hdn:t.done=true:=hc0
  refine Za hS (qg 0 101 r1 r1 (qa 101 r1 r1 (qf (oP (Zat t.id) Tryz.func115 (Args.one .t)) r1 qz (qf (Zw .t (.cs (by kernel_rfl)) (by simp only [List.length_cons,List.length_nil];omega)) r1 qz (qN rfl rfl qZ))))) hB [3,2,1] [101,0] rfl rfl fun a w F hS=>Zb (wp_seq (wp_seq ?_))
  refine Za hS (qg 2 101 r1 r1 (qa 101 r1 r1 (qu Tryz.underlying38 r1 (qJ qZ)))) hB [19,18,17,3,2] [101,0] rfl rfl fun a w F hS=>Zb (wp_block ?_)
  replace hS:=hS.ent (i:=3) (s':=.pv (.bs (Za3 t++Zc3 (t.ops.take 0)))) rfl (.bs (by unfold Za3 Zc3;rw [hdn];simp))
  obtain ⟨F,hS⟩:=hS.nm [19,18,17,3] [0] rfl rfl
  refine ZQ (σ:=Nat) (fun s=>(⟨[(3,.pv (.bs (Za3 t++Zc3 (t.ops.take s)))),(17,.pv (.sl rOp t.ops)),(18,.pv (.int .i64 (t.ops.length:Nat))),(19,.pv (.int .i64 (s:Nat)))],[(0,frame B)]⟩:En)) (fun s=>s≤t.ops.length) (fun s=>t.ops.length - s) 0 hS (Nat.zero_le _) ?_
  clear hS;intro i a w F hC hS
  try dsimp only at hC
  try dsimp only at hS
  have hi0:=hC
  have hct:(Zc3 (t.ops.take i)).length≤101*i:=Nat.le_trans (ZcY _) (by rw [List.length_take];omega)
  refine wp_seq ?_
  refine Za hS (qL r2) hB [20,19,18,17,3] [0] rfl rfl fun a w F hS=>Zb (wp_seq ?_)
  refine Zd hS rfl (fun hc1=>?_) (fun hc1=>?_)
  ·skip
   have hi:i<t.ops.length:=by have h9:=of_decide_eq_true hc1;omega
   have hto:(Zay (nth t.ops i)).length≤100:=Zcp _
   refine wp_skip (Zb (wp_seq (wp_block (wp_seq ?_))))
   refine Zc hS (qy 4 Tryz.underlying38 r2 (qf (oR true 4 .t) r1 qz (qf (oH [.bool false,.int .i64 0,.int .i64 0,.int .i64 0] 102) trivial qz (qS 4 102 r2 r1 qZ)))) hB [19,18,17,5,3] [102,0] (fun _=>rfl) (fun _=>rfl) fun τ a w F hS=>?_
   try dsimp only [RS.sub,SF.sub,CF.sub,csub,Anc.sub,List.map,Zg,xL,xM,Nat.reduceAdd,xD,xE,xT,xU,xC,xN,zCF,ldSF] at hS
   generalize τ 5=v5 at hS
   rw [Int.toNat_natCast] at hS
   refine Zb ?_
   refine Za hS (qM rfl rfl (qe 4 102 r1 r1 (qf (oP (ZfX (nth t.ops i)) Tryz.func171 (Args.one (.pagg .t))) r1 qz (qf (Zw (.cs (by kernel_rfl)) .t (by simp only [List.length_cons,List.length_nil];omega)) r1 qz (qf (Zw .t .t (by rw [List.length_append];simp only [List.length_append,List.length_cons,List.length_nil];omega)) r2 qz (qN rfl rfl qZ)))))) hB [19,18,17,3] [0] rfl rfl fun a w F hS=>Zh (Zb ?_)
   refine Za hS (qp r1 (qM rfl rfl qZ)) hB [19,18,17,3] [0] rfl rfl fun a w F hS=>Zb ?_
   replace hS:=hS.ent (i:=19) (s':=.pv (.int .i64 ((i+1:Nat):Int))) rfl (.int (Ze (by omega)))
   replace hS:=hS.ent (i:=3) (s':=.pv (.bs (Za3 t++Zc3 (t.ops.take (i+1))))) rfl (.bs (by rw [ZdO hi];simp))
   obtain ⟨F,hS⟩:=hS.nm [19,18,17,3] [0] rfl rfl
   exact ⟨i+1,F,(by omega),hS,by omega⟩
  have hil:i=t.ops.length:=by have h9:=of_decide_eq_false hc1;omega
  rw [hil,List.take_length] at hS
  refine wp_exit (Zi (Zi (Zo (Zb (wp_seq ?_)))))
  refine Za hS (qM rfl rfl (qN rfl rfl qZ)) hB [2] [0] rfl rfl fun a w F hS=>Zb (wp_ret ?_)
  refine Zn hfr hS rfl rfl rfl (.bs (by unfold ZcI;rfl))
 have hdn:t.done=false:=hc0
 refine wp_skip (Zb (wp_seq (wp_seq ?_)))
 refine Za hS (qg 2 101 r1 r1 (qa 101 r1 r1 (qu Tryz.underlying38 r1 (qJ qZ)))) hB [19,18,17,3,2] [101,0] rfl rfl fun a w F hS=>Zb (wp_block ?_)
 replace hS:=hS.ent (i:=3) (s':=.pv (.bs (Za3 t++Zc3 (t.ops.take 0)))) rfl (.bs (by unfold Za3 Zc3;rw [hdn];simp))
 obtain ⟨F,hS⟩:=hS.nm [19,18,17,3] [0] rfl rfl
 refine ZQ (σ:=Nat) (fun s=>(⟨[(3,.pv (.bs (Za3 t++Zc3 (t.ops.take s)))),(17,.pv (.sl rOp t.ops)),(18,.pv (.int .i64 (t.ops.length:Nat))),(19,.pv (.int .i64 (s:Nat)))],[(0,frame B)]⟩:En)) (fun s=>s≤t.ops.length) (fun s=>t.ops.length - s) 0 hS (Nat.zero_le _) ?_
 clear hS;intro i a w F hC hS
 try dsimp only at hC
 try dsimp only at hS
 have hi0:=hC
 have hct:(Zc3 (t.ops.take i)).length≤101*i:=Nat.le_trans (ZcY _) (by rw [List.length_take];omega)
 refine wp_seq ?_
 refine Za hS (qL r2) hB [20,19,18,17,3] [0] rfl rfl fun a w F hS=>Zb (wp_seq ?_)
 refine Zd hS rfl (fun hc2=>?_) (fun hc2=>?_)
 ·skip
  have hi:i<t.ops.length:=by have h9:=of_decide_eq_true hc2;omega
  have hto:(Zay (nth t.ops i)).length≤100:=Zcp _
  refine wp_skip (Zb (wp_seq (wp_block (wp_seq ?_))))
  refine Zc hS (qy 4 Tryz.underlying38 r2 (qf (oR true 4 .t) r1 qz (qf (oH [.bool false,.int .i64 0,.int .i64 0,.int .i64 0] 103) trivial qz (qS 4 103 r2 r1 qZ)))) hB [19,18,17,5,3] [103,0] (fun _=>rfl) (fun _=>rfl) fun τ a w F hS=>?_
  try dsimp only [RS.sub,SF.sub,CF.sub,csub,Anc.sub,List.map,Zg,xL,xM,Nat.reduceAdd,xD,xE,xT,xU,xC,xN,zCF,ldSF] at hS
  generalize τ 5=v5 at hS
  rw [Int.toNat_natCast] at hS
  refine Zb ?_
  refine Za hS (qM rfl rfl (qe 4 103 r1 r1 (qf (oP (ZfX (nth t.ops i)) Tryz.func171 (Args.one (.pagg .t))) r1 qz (qf (Zw (.cs (by kernel_rfl)) .t (by simp only [List.length_cons,List.length_nil];omega)) r1 qz (qf (Zw .t .t (by rw [List.length_append];simp only [List.length_append,List.length_cons,List.length_nil];omega)) r2 qz (qN rfl rfl qZ)))))) hB [19,18,17,3] [0] rfl rfl fun a w F hS=>Zh (Zb ?_)
  refine Za hS (qp r1 (qM rfl rfl qZ)) hB [19,18,17,3] [0] rfl rfl fun a w F hS=>Zb ?_
  replace hS:=hS.ent (i:=19) (s':=.pv (.int .i64 ((i+1:Nat):Int))) rfl (.int (Ze (by omega)))
  replace hS:=hS.ent (i:=3) (s':=.pv (.bs (Za3 t++Zc3 (t.ops.take (i+1))))) rfl (.bs (by rw [ZdO hi];simp))
  obtain ⟨F,hS⟩:=hS.nm [19,18,17,3] [0] rfl rfl
  exact ⟨i+1,F,(by omega),hS,by omega⟩
 have hil:i=t.ops.length:=by have h9:=of_decide_eq_false hc2;omega
 rw [hil,List.take_length] at hS
 refine wp_exit (Zi (Zi (Zo (Zb (wp_seq ?_)))))
 refine Za hS (qM rfl rfl (qN rfl rfl qZ)) hB [2] [0] rfl rfl fun a w F hS=>Zb (wp_ret ?_)
 refine Zn hfr hS rfl rfl rfl (.bs (by unfold ZcI;rfl))
set_option maxHeartbeats 40000000
end Go.Proofs.YtjhapicamnijnaaGreat
namespace Go.Proofs.YtjhapicamnijnaaGreat
open Go Go.Gm
set_option linter.unusedVariables false
set_option linter.unusedSimpArgs false
set_option maxHeartbeats 4000000
set_option maxRecDepth 8000
def ZkY (w:List UInt8) (k:Int) (l:List Int):List UInt8:=w++((k :: l).map textL).flatMap fun y=>32 :: y
theorem ZnX (w:List UInt8) (k:Int):w++([32] ++ textL k)=ZkY w k []:=by simp [ZkY]
theorem ZlJ (w:List UInt8) (k:Int) {l:List Int} {i:Nat} (h:i<l.length):ZkY w k (l.take (i+1))=ZkY w k (l.take i)++([32] ++ textL (nth l i)):=by
 unfold ZkY
 rw [List.take_succ_eq_append_getElem h,Zq h]
 simp only [List.map_cons,List.map_append,List.map_nil,List.flatMap_cons,List.flatMap_append,List.flatMap_nil,List.append_nil,List.append_assoc,List.cons_append,List.nil_append]
theorem Zif:∀ l:List Int,(∀ n ∈ l,0≤n∧n≤2147483647)→((l.map textL).flatMap fun y=>32 :: y).length≤22*l.length
 | [],_=>by simp
 | n :: l,h=>by
   have h1:=Zif l fun x hx=>h x (List.mem_cons_of_mem _ hx)
   have h2:=ZN (n:=n) (by have:=h n (by simp);omega)
   rw [List.map_cons,List.flatMap_cons,List.length_append,List.length_cons,List.length_cons]
   omega
theorem Znn {w:List UInt8} {k:Int} {l:List Int} (h:0≤k∧k≤2147483647) (hl:∀ n ∈ l,0≤n∧n≤2147483647):(ZkY w k l).length≤w.length+22*(l.length+1):=by
 have:=Zif (k :: l) fun n hn=>by rcases List.mem_cons.1 hn with rfl | hn;exact h;exact hl n hn
 unfold ZkY
 rw [List.length_append]
 rw [List.length_cons] at this
 omega
theorem Ziw (c:CmdD) (hc:c.order.txs.length≤998):FnP Tryz.prog 54 [.agg (rCmd c)] (.bs (ZaN c)):=by
 refine FnP.mk Tryz.func54 rfl Tryz.ntmps54 rfl ?_
 intro B a w F hB hfr hS
 refine wp_seq ?_
 refine Zc hS (qx 101 r1 (qf (oN (.cs (by kernel_rfl))) trivial qz qZ)) hB [2,1] [101,0] (fun _=>rfl) (fun _=>rfl) fun τ a w F hS=>?_
 try dsimp only [RS.sub,SF.sub,CF.sub,csub,Anc.sub,List.map,zCF,rCmd] at hS
 generalize τ 1=v1 at hS
 refine Zb (wp_seq (wp_seq ?_))
 refine Za hS (qe 10 101 r1 r1 (qf (oP (Zhc c hc) Tryz.func112 (Args.one (.pagg .t))) r1 qz (qf (o_not .t) r1 qz qZ))) hB [8,2,1] [101,0] rfl rfl fun a w F hS=>Zb ?_
 refine Zd hS rfl (fun hc0=>?_) (fun hc0=>?_)
 ·skip
  have hg:([]:List UInt8)=ZaN c:=by unfold ZaN;rw [if_pos (by simpa using hc0)]
  refine wp_seq ?_
  refine Za hS (qf (oN (.cs (by kernel_rfl))) trivial qz qZ) hB [2,1] [101,0] rfl rfl fun a w F hS=>Zb (wp_ret (Zf ?_))
  refine Zn hfr hS rfl rfl rfl (.bs (by first | exact hg | exact hg2))
 have hrc:Zaj c=true:=by simpa using hc0
 have hr:=Zko hrc
 have hop:=(ZbB hrc).2.2.1
 have hsl:=Zbs c.kind
 have hcl:=ZjB c.phen
 have m1:=hr c.tx.id (by unfold Za7;simp)
 have m2:=hr c.id (by unfold Za7;simp)
 have m3:=hr c.order.key (by unfold Za7;simp)
 have m6:∀ n ∈ c.order.txs,0≤n∧n≤2147483647:=fun n hn=>hr n (by unfold Za7;simp [hn])
 have t1:=Zh5 c.tx m1 hop
 have t2:=ZN (n:=c.id) (by omega)
 have t3:=ZN (n:=c.order.key) (by omega)
 have m4:=hr c.key (by unfold Za7;simp)
 have m5:=hr c.place (by unfold Za7;simp)
 have t4:(ZbQ [c.key,c.id,c.place]).length≤66:=Zcl [c.key,c.id,c.place] (fun n hn=>by simp at hn;rcases hn with rfl | rfl | rfl <;> omega) _ (Nat.le_refl _)
 refine wp_skip (Zb (wp_seq ?_))
 refine Za hS (qg 0 101 r1 r1 (qa 101 r1 r1 (qf (oP (Zm7 c.kind) Tryz.func113 (Args.one .t)) r1 qz (qN rfl rfl qZ)))) hB [3,2,1] [101,0] rfl rfl fun a w F hS=>Zb (wp_seq (wp_seq ?_))
 refine Za hS (qg 0 101 r1 r1 (qa 101 r1 r1 qZ)) hB [13,3,2,1] [101,0] rfl rfl fun a w F hS=>Zb (wp_block (wp_seq (wp_seq ?_)))
 refine Za hS (qf (o_eql .t qi) r1 qz (qN rfl rfl qZ)) hB [14,13,3,2,1] [101,0] rfl rfl fun a w F hS=>Zb ?_
 refine Zd hS rfl (fun hc1=>?_) (fun hc1=>?_)
 ·skip
  have hk:c.kind=1∨c.kind=2:=by first | exact .inl (of_decide_eq_true hc1) | exact .inr (of_decide_eq_true hc1)
  have hg:((ZO c.kind).s ++ [32])++ZcI c.tx=ZaN c:=by rw [Zax hrc];unfold Zah;rw [if_pos hk];simp
  refine wp_skip (Zb ?_)
  refine Zd hS rfl (fun hc2=>?_) (fun hc2=>?_)
  ·skip
   have hk:c.kind=1∨c.kind=2:=by first | exact .inl (of_decide_eq_true hc2) | exact .inr (of_decide_eq_true hc2)
   have hg:((ZO c.kind).s ++ [32])++ZcI c.tx=ZaN c:=by rw [Zax hrc];unfold Zah;rw [if_pos hk];simp
   refine wp_seq ?_
   refine Za hS (qM rfl rfl (qf (Zw .t (.cs (by kernel_rfl)) (by simp only [List.length_append,List.length_cons,List.length_nil];omega)) r1 qz (qg 1 101 r1 r1 (qf (oL true 3 101 .adr) r1 r1 (qf (oP (Zfw c.tx (by omega)) Tryz.func114 (Args.one (.pagg .t))) r1 qz (qf (Zw .t .t (by simp only [List.length_append,List.length_cons,List.length_nil];omega)) r2 qz (qN rfl rfl qZ))))))) hB [3,2] [101,0] rfl rfl fun a w F hS=>Zb (wp_ret (Zk (Zf ?_)))
   refine Zn hfr hS rfl rfl rfl (.bs (by first | exact hg | exact hg2))
  exact Bool.noConfusion (hc1.symm.trans hc2)
 have hn:=of_decide_eq_false hc1
 refine Za hS (qf (o_eql .t qi) r1 qz (qN rfl rfl qZ)) hB [14,13,3,2,1] [101,0] rfl rfl fun a w F hS=>Zb ?_
 refine Zd hS rfl (fun hc3=>?_) (fun hc3=>?_)
 ·skip
  have hk:c.kind=1∨c.kind=2:=by first | exact .inl (of_decide_eq_true hc3) | exact .inr (of_decide_eq_true hc3)
  have hg:((ZO c.kind).s ++ [32])++ZcI c.tx=ZaN c:=by rw [Zax hrc];unfold Zah;rw [if_pos hk];simp
  refine wp_seq ?_
  refine Za hS (qM rfl rfl (qf (Zw .t (.cs (by kernel_rfl)) (by simp only [List.length_append,List.length_cons,List.length_nil];omega)) r1 qz (qg 1 101 r1 r1 (qf (oL true 3 101 .adr) r1 r1 (qf (oP (Zfw c.tx (by omega)) Tryz.func114 (Args.one (.pagg .t))) r1 qz (qf (Zw .t .t (by simp only [List.length_append,List.length_cons,List.length_nil];omega)) r2 qz (qN rfl rfl qZ))))))) hB [3,2] [101,0] rfl rfl fun a w F hS=>Zb (wp_ret (Zk (Zf ?_)))
  refine Zn hfr hS rfl rfl rfl (.bs (by first | exact hg | exact hg2))
 have hn:=of_decide_eq_false hc3
 refine wp_seq (wp_seq ?_)
 refine Za hS (qf (o_eql .t qi) r1 qz (qN rfl rfl qZ)) hB [23,13,3,2,1] [101,0] rfl rfl fun a w F hS=>Zb ?_
 refine Zd hS rfl (fun hc4=>?_) (fun hc4=>?_)
 ·skip
  have hk:c.kind=3∨c.kind=10:=by first | exact .inl (of_decide_eq_true hc4) | exact .inr (of_decide_eq_true hc4)
  have hg:((ZO c.kind).s ++ [32])++textL c.id=ZaN c:=by rw [Zax hrc];unfold Zah;rw [if_neg (by omega),if_pos hk];simp
  refine wp_skip (Zb ?_)
  refine Zd hS rfl (fun hc5=>?_) (fun hc5=>?_)
  ·skip
   have hk:c.kind=3∨c.kind=10:=by first | exact .inl (of_decide_eq_true hc5) | exact .inr (of_decide_eq_true hc5)
   have hg:((ZO c.kind).s ++ [32])++textL c.id=ZaN c:=by rw [Zax hrc];unfold Zah;rw [if_neg (by omega),if_pos hk];simp
   refine wp_seq ?_
   refine Za hS (qM rfl rfl (qf (Zw .t (.cs (by kernel_rfl)) (by simp only [List.length_append,List.length_cons,List.length_nil];omega)) r1 qz (qg 7 101 r1 r1 (qa 101 r1 r1 (qf (oP (Zat c.id) Tryz.func115 (Args.one .t)) r1 qz (qf (Zw .t .t (by simp only [List.length_append,List.length_cons,List.length_nil];omega)) r2 qz (qN rfl rfl qZ))))))) hB [3,2] [101,0] rfl rfl fun a w F hS=>Zb (wp_ret (Zk (Zf ?_)))
   refine Zn hfr hS rfl rfl rfl (.bs (by first | exact hg | exact hg2))
  exact Bool.noConfusion (hc4.symm.trans hc5)
 have hn:=of_decide_eq_false hc4
 refine Za hS (qf (o_eql .t qi) r1 qz (qN rfl rfl qZ)) hB [23,13,3,2,1] [101,0] rfl rfl fun a w F hS=>Zb ?_
 refine Zd hS rfl (fun hc6=>?_) (fun hc6=>?_)
 ·skip
  have hk:c.kind=3∨c.kind=10:=by first | exact .inl (of_decide_eq_true hc6) | exact .inr (of_decide_eq_true hc6)
  have hg:((ZO c.kind).s ++ [32])++textL c.id=ZaN c:=by rw [Zax hrc];unfold Zah;rw [if_neg (by omega),if_pos hk];simp
  refine wp_seq ?_
  refine Za hS (qM rfl rfl (qf (Zw .t (.cs (by kernel_rfl)) (by simp only [List.length_append,List.length_cons,List.length_nil];omega)) r1 qz (qg 7 101 r1 r1 (qa 101 r1 r1 (qf (oP (Zat c.id) Tryz.func115 (Args.one .t)) r1 qz (qf (Zw .t .t (by simp only [List.length_append,List.length_cons,List.length_nil];omega)) r2 qz (qN rfl rfl qZ))))))) hB [3,2] [101,0] rfl rfl fun a w F hS=>Zb (wp_ret (Zk (Zf ?_)))
  refine Zn hfr hS rfl rfl rfl (.bs (by first | exact hg | exact hg2))
 have hn:=of_decide_eq_false hc6
 refine wp_seq ?_
 refine Za hS (qf (o_eql .t qi) r1 qz (qN rfl rfl qZ)) hB [32,13,3,2,1] [101,0] rfl rfl fun a w F hS=>Zb ?_
 refine Zd hS rfl (fun hc7=>?_) (fun hc7=>?_)
 ·skip
  have hk:=of_decide_eq_true hc7
  refine wp_seq ?_
  refine Za hS (qM rfl rfl (qg 4 101 r1 r1 (qf (oF 0 101 .adr) r1 r1 (qa 101 r1 r1 (qf (oP (Zat c.order.key) Tryz.func115 (Args.one .t)) r1 qz (qf (Zw (.cs (by kernel_rfl)) .t (by simp only [List.length_append,List.length_cons,List.length_nil];omega)) r1 qz (qf (Zw .t .t (by simp only [List.length_append,List.length_cons,List.length_nil];omega)) r2 qz (qN rfl rfl qZ)))))))) hB [3,2,1] [101,0] rfl rfl fun a w F hS=>Zb (wp_seq (wp_seq ?_))
  refine Za hS (qg 4 101 r1 r1 (qf (oF 1 101 .adr) r1 r1 (qa 101 r1 r1 (qu Tryz.underlying41 r1 (qJ qZ))))) hB [45,44,43,3,2] [101,0] rfl rfl fun a w F hS=>Zb (wp_block ?_)
  replace hS:=hS.ent (i:=3) (s':=.pv (.bs (ZkY (ZO c.kind).s c.order.key (c.order.txs.take 0)))) rfl (.bs (ZnX _ _))
  obtain ⟨F,hS⟩:=hS.nm [45,44,43,3] [0] rfl rfl
  refine ZQ (σ:=Nat) (fun s=>(⟨[(3,.pv (.bs (ZkY (ZO c.kind).s c.order.key (c.order.txs.take s)))),(43,.pv (.sl rInt c.order.txs)),(44,.pv (.int .i64 (c.order.txs.length:Nat))),(45,.pv (.int .i64 (s:Nat)))],[(0,frame B)]⟩:En)) (fun s=>s≤c.order.txs.length) (fun s=>c.order.txs.length - s) 0 hS (Nat.zero_le _) ?_
  clear hS;intro i a w F hC hS
  try dsimp only at hC
  try dsimp only at hS
  have hi0:=hC
  have hcl:(ZkY (ZO c.kind).s c.order.key (c.order.txs.take i)).length≤22004:=Nat.le_trans (Znn m3 fun n hn=>m6 n (List.mem_of_mem_take hn)) (by rw [List.length_take];omega)
  refine wp_seq ?_
  refine Za hS (qL r2) hB [46,45,44,43,3] [0] rfl rfl fun a w F hS=>Zb (wp_seq ?_)
  refine Zd hS rfl (fun hc8=>?_) (fun hc8=>?_)
  ·skip
   have hi:i<c.order.txs.length:=by have h9:=of_decide_eq_true hc8;omega
   refine wp_skip (Zb (wp_seq (wp_block (wp_seq ?_))))
   refine Za hS (qy 1 Tryz.underlying41 r2 (qf (oR false 1 .t) r1 qz (qN rfl rfl qZ))) hB [45,44,43,5,3] [0] rfl rfl fun a w F hS=>?_
   rw [Int.toNat_natCast] at hS
   refine Zb ?_
   refine Za hS (qM rfl rfl (qM rfl rfl (qf (oP (Zat (nth c.order.txs i)) Tryz.func115 (Args.one .t)) r1 qz (qf (Zw (.cs (by kernel_rfl)) .t (by have:=ZN (n:=nth c.order.txs i) (by have:=m6 _ (ZP hi);omega);simp only [List.length_append,List.length_cons,List.length_nil];omega)) r1 qz (qf (Zw .t .t (by have:=ZN (n:=nth c.order.txs i) (by have:=m6 _ (ZP hi);omega);simp only [List.length_append,List.length_cons,List.length_nil];omega)) r2 qz (qN rfl rfl qZ)))))) hB [45,44,43,3] [0] rfl rfl fun a w F hS=>Zh (Zb ?_)
   refine Za hS (qp r1 (qM rfl rfl qZ)) hB [45,44,43,3] [0] rfl rfl fun a w F hS=>Zb ?_
   replace hS:=hS.ent (i:=45) (s':=.pv (.int .i64 ((i+1:Nat):Int))) rfl (.int (Ze (by omega)))
   replace hS:=hS.ent (i:=3) (s':=.pv (.bs (ZkY (ZO c.kind).s c.order.key (c.order.txs.take (i+1))))) rfl (.bs (ZlJ _ _ hi).symm)
   obtain ⟨F,hS⟩:=hS.nm [45,44,43,3] [0] rfl rfl
   exact ⟨i+1,F,(by omega),hS,by omega⟩
  have hil:i=c.order.txs.length:=by have h9:=of_decide_eq_false hc8;omega
  rw [hil,List.take_length] at hS
  have hg:ZkY (ZO c.kind).s c.order.key c.order.txs=ZaN c:=by rw [Zax hrc];unfold Zah ZkY;rw [if_neg (by omega),if_neg (by omega),if_pos hk,Zjg,List.map_cons,Zd9];simp
  refine wp_exit (Zi (Zi (Zo (Zb (wp_seq ?_)))))
  refine Za hS (qM rfl rfl (qN rfl rfl qZ)) hB [3,2] [0] rfl rfl fun a w F hS=>Zb (wp_ret (Zk (Zf ?_)))
  refine Zn hfr hS rfl rfl rfl (.bs (by first | exact hg | exact hg2))
 have hn:=of_decide_eq_false hc7
 refine wp_seq ?_
 refine Za hS (qf (o_eql .t qi) r1 qz (qN rfl rfl qZ)) hB [56,13,3,2,1] [101,0] rfl rfl fun a w F hS=>Zb ?_
 refine Zd hS rfl (fun hc9=>?_) (fun hc9=>?_)
 ·skip
  have hk:=of_decide_eq_true hc9
  have hg:((ZO c.kind).s ++ [32])++ZbQ [c.key,c.id,c.place] = ZaN c:=by rw [Zax hrc];unfold Zah;rw [if_neg (by omega),if_neg (by omega),if_neg (by omega),if_pos hk];simp
  refine wp_seq ?_
  refine Za hS (qM rfl rfl (qf (Zw .t (.cs (by kernel_rfl)) (by simp only [List.length_append,List.length_cons,List.length_nil];omega)) r1 qz (qg 6 101 r1 r1 (qa 101 r1 r1 (qg 7 101 r1 r1 (qa 101 r1 r1 (qg 8 101 r1 r1 (qa 101 r1 r1 (qf (Zj (sz:=1) (zs:=[.int .i64 0]) (r:=[(0,.tmp 61),(1,.tmp 63),(2,.tmp 65)]) (l:=[_,_,_]) Tryz.underlying41 (by kernel_rfl) (by kernel_rfl) (by kernel_rfl) (by kernel_rfl) rfl rfl (.one rfl .t one_int (by kernel_rfl) (.one rfl .t one_int (by kernel_rfl) (.one rfl .t one_int (by kernel_rfl) .nil))) rfl) r3 qz (qf (oP (ZkZ [c.key,c.id,c.place] (by simp)) Tryz.func116 (Args.one (.conv .t (Ent.arrSl (R:=rInt) (l:=[c.key,c.id,c.place]) rfl)))) r1 qz (qf (Zw .t .t (by simp only [List.length_append,List.length_cons,List.length_nil];omega)) r2 qz (qN rfl rfl qZ)))))))))))) hB [3,2] [101,0] rfl rfl fun a w F hS=>Zb (wp_ret (Zk (Zf ?_)))
  refine Zn hfr hS rfl rfl rfl (.bs (by first | exact hg | exact hg2))
 have hn:=of_decide_eq_false hc9
 refine wp_seq ?_
 refine Za hS (qf (o_eql .t qi) r1 qz (qN rfl rfl qZ)) hB [69,3,2,1] [101,0] rfl rfl fun a w F hS=>Zb ?_
 refine Zd hS rfl (fun hc10=>?_) (fun hc10=>?_)
 ·skip
  have hk:=of_decide_eq_true hc10
  have hg:((ZO c.kind).s ++ [32])++Za1 c.phen=ZaN c:=by rw [Zax hrc];unfold Zah;rw [if_neg (by omega),if_neg (by omega),if_neg (by omega),if_neg (by omega),if_pos hk];simp
  refine wp_seq ?_
  refine Za hS (qM rfl rfl (qf (Zw .t (.cs (by kernel_rfl)) (by simp only [List.length_append,List.length_cons,List.length_nil];omega)) r1 qz (qg 9 101 r1 r1 (qa 101 r1 r1 (qf (oP (ZhR c.phen) Tryz.func117 (Args.one .t)) r1 qz (qf (Zw .t .t (by simp only [List.length_append,List.length_cons,List.length_nil];omega)) r2 qz (qN rfl rfl qZ))))))) hB [3,2] [101,0] rfl rfl fun a w F hS=>Zb (wp_ret (Zk (Zf ?_)))
  refine Zn hfr hS rfl rfl rfl (.bs (by first | exact hg | exact hg2))
 have hn:=of_decide_eq_false hc10
 have hg:(ZO c.kind).s=ZaN c:=by rw [Zax hrc];unfold Zah;rw [if_neg (by omega),if_neg (by omega),if_neg (by omega),if_neg (by omega),if_neg (by omega)];simp
 refine wp_skip (Zh (Zb (wp_seq ?_)))
 refine Za hS (qM rfl rfl (qN rfl rfl qZ)) hB [2] [101,0] rfl rfl fun a w F hS=>Zb (wp_ret ?_)
 refine Zn hfr hS rfl rfl rfl (.bs (by first | exact hg | exact hg2))
theorem Zg2 (g:HistD) (hs:ZaR g):FnP Tryz.prog 23 [.agg (Zm g)] (.sl rS ((ZI g).map ZaN)):=by
 refine FnP.mk Tryz.func23 rfl Tryz.ntmps23 rfl ?_
 intro B a w F hB hfr hS
 have hcl:=Zer hs
 refine wp_seq ?_
 refine Zc hS (qx 101 r1 (qC qZ)) hB [2,1] [101,0] (fun _=>rfl) (fun _=>rfl) fun τ a w F hS=>?_
 try dsimp only [RS.sub,SF.sub,CF.sub,csub,Anc.sub,List.map,zCF,Zm,rTx,Zs,ZC,rInt,rOp,rCmd,rS] at hS
 generalize τ 1=v1 at hS
 refine Zb (wp_seq ?_)
 refine Za hS (qC qZ) hB [3,2,1] [101,0] rfl rfl fun a w F hS=>Zb (wp_seq (wp_seq ?_))
 refine Za hS (qe 2 101 r1 r1 (qf (oP (Zcj g hs) Tryz.func17 (Args.one (.pagg .t))) r1 qz (qu Tryz.underlying26 r1 (qJ qZ)))) hB [9,8,7,3,2] [101,0] rfl rfl fun a w F hS=>Zb (wp_block ?_)
 replace hS:=hS.fresh 50 rfl
 replace hS:=hS.turn 50 rfl (Zav (T:=9) (sz:=1) (R:=rS))
 refine Zl (σ:=(Nat)×(Value)×(List (List UInt8))) [2,7,8] [0,101] (fun s=>[(9,.pv (.int .i64 (s.1:Int))),(3,.pv (.is s.2.1))]) (fun s=>[(50,.ob (.val s.2.1) (Zy 9 1 rS s.2.2))]) (fun s=>s.1≤(ZI g).length∧(s.2.2=((ZI g).take s.1).map ZaN)) (fun s=>(ZI g).length - s.1) ((0),(.slice none 0 0),([])) hS ⟨rfl,rfl,rfl,rfl,rfl,trivial⟩ ⟨rfl,rfl,rfl,trivial⟩ ⟨Nat.zero_le _,rfl⟩ ?_
 clear hS;intro s a w F hC hS
 obtain ⟨i,v,out⟩:=s
 try dsimp only at hC
 obtain ⟨F,hS⟩:=hS.nm [9,8,7,3,2] [101,50,0] rfl rfl
 try dsimp only at hS
 obtain ⟨hi,hq⟩:=hC
 have hol:out.length≤i:=by rw [hq,List.length_map,List.length_take];omega
 refine wp_seq ?_
 refine Za hS (qL r2) hB [10,9,8,7,3,2] [101,50,0] rfl rfl fun a w F hS=>Zb (wp_seq ?_)
 refine Zd hS rfl (fun hc0=>?_) (fun hc0=>?_)
 ·skip
  have hil:i<(ZI g).length:=by simp at hc0;omega
  have hio:=hil
  refine wp_skip (Zb (wp_seq (wp_block (wp_seq ?_))))
  refine Zc hS (qy 10 Tryz.underlying26 r2 (qf (oR true 10 .t) r1 qz (qf (oH [.int .i64 0,.int .i64 0,.bool false,.slice none 0 0,.int .i64 0,.slice none 0 0,.int .i64 0,.int .i64 0,.int .i64 0,.int .i64 0] 102) trivial qz (qS 10 102 r2 r1 qZ)))) hB [9,8,7,5,3,2] [102,101,50,0] (fun _=>rfl) (fun _=>rfl) fun τ a w F hS=>?_
  try dsimp only [RS.sub,SF.sub,CF.sub,csub,Anc.sub,List.map,Zg,xL,xM,Nat.reduceAdd,xD,xE,xT,xU,xC,xN,zCF,ldSF,Zm,rTx,Zs,ZC,rInt,rOp,rCmd,rS] at hS
  generalize τ 5=v5 at hS
  try simp only [Int.toNat_natCast] at hS
  refine Zb ?_
  refine Zc hS (qM rfl rfl (qe 10 102 r1 r1 (qf (oP (Zms (Go.Gm.nth (ZI g) i) (by rw [Zc8 (ZP hio)];simp)) Tryz.func28 (Args.one (.pagg .t))) r1 qz (qf (Zj (sz:=1) (zs:=[.string ⟨#[]⟩]) (r:=[(0,.tmp 15)]) (l:=[_]) Tryz.underlying49 (by kernel_rfl) (by kernel_rfl) (by kernel_rfl) (by kernel_rfl) rfl rfl (.one rfl .t ZF (by kernel_rfl) .nil) rfl) r1 qz (qf (o_append (sz:=1) (bs:=16) 50 (.mk' Tryz.underlying49 (by kernel_rfl) (by kernel_rfl)) (by intro x;rfl) .is (.arr (l':=[ZaN (Go.Gm.nth (ZI g) i)]) .t) (by simp only [List.length_append,List.length_cons,List.length_nil];omega) (by decide)) ⟨rfl,rfl,trivial⟩ ⟨rfl,trivial⟩ (qN rfl rfl qZ)))))) hB [9,8,7,3,2] [102,101,50,0] (fun _=>rfl) (fun _=>rfl) fun τ a w F hS=>?_
  try dsimp only [RS.sub,SF.sub,CF.sub,csub,Anc.sub,List.map,Zg,xL,xM,Nat.reduceAdd,xD,xE,xT,xU,xC,xN,zCF,ldSF,Zm,rTx,Zs,ZC,rInt,rOp,rCmd,rS] at hS
  generalize τ 17=v17 at hS
  refine Zh (Zb ?_)
  refine Za hS (qp r1 (qM rfl rfl qZ)) hB [9,8,7,3,2] [102,101,50,0] rfl rfl fun a w F hS=>Zb ?_
  replace hS:=hS.ent (i:=9) (s':=.pv (.int .i64 ((i+1:Nat):Int))) rfl (.int (Ze (by omega)))
  obtain ⟨F,hS⟩:=hS.nm [8,7,2,3,9] [101,0,50] rfl rfl
  exact ⟨((i+1),_,_),F,⟨by omega,(by rw [Zb4 hio,hq])⟩,hS,by omega⟩
 have hil:i=(ZI g).length:=by simp at hc0;omega
 refine wp_exit (Zi (Zi (Zo (Zb (wp_seq ?_)))))
 refine Za hS (qM rfl rfl (qN rfl rfl qZ)) hB [2] [101,50,0] rfl rfl fun a w F hS=>Zb (wp_ret ?_)
 obtain ⟨F,hS⟩:=hS.give 50 2 rfl rfl
 refine Zn hfr hS rfl rfl rfl (.sl (by rw [hq,hil,List.take_length]))
theorem Zlt (g:HistD) (hs:ZaR g):FnP Tryz.prog 24 [.agg (Zm g)] (.sl rS ((ZI g).map ZaN)):=by
 refine FnP.mk Tryz.func24 rfl Tryz.ntmps24 rfl ?_
 intro B a w F hB hfr hS
 have hcl:=Zer hs
 refine wp_seq ?_
 refine Zc hS (qx 101 r1 (qC qZ)) hB [2,1] [101,0] (fun _=>rfl) (fun _=>rfl) fun τ a w F hS=>?_
 try dsimp only [RS.sub,SF.sub,CF.sub,csub,Anc.sub,List.map,zCF,Zm,rTx,Zs,ZC,rInt,rOp,rCmd,rS] at hS
 generalize τ 1=v1 at hS
 refine Zb (wp_seq ?_)
 refine Za hS (qC qZ) hB [3,2,1] [101,0] rfl rfl fun a w F hS=>Zb (wp_seq (wp_seq ?_))
 refine Za hS (qe 2 101 r1 r1 (qf (oP (ZdF g hs) Tryz.func21 (Args.one (.pagg .t))) r1 qz (qu Tryz.underlying26 r1 (qJ qZ)))) hB [9,8,7,3,2] [101,0] rfl rfl fun a w F hS=>Zb (wp_block ?_)
 replace hS:=hS.fresh 50 rfl
 replace hS:=hS.turn 50 rfl (Zav (T:=9) (sz:=1) (R:=rS))
 refine Zl (σ:=(Nat)×(Value)×(List (List UInt8))) [2,7,8] [0,101] (fun s=>[(9,.pv (.int .i64 (s.1:Int))),(3,.pv (.is s.2.1))]) (fun s=>[(50,.ob (.val s.2.1) (Zy 9 1 rS s.2.2))]) (fun s=>s.1≤(ZI g).length∧(s.2.2=((ZI g).take s.1).map ZaN)) (fun s=>(ZI g).length - s.1) ((0),(.slice none 0 0),([])) hS ⟨rfl,rfl,rfl,rfl,rfl,trivial⟩ ⟨rfl,rfl,rfl,trivial⟩ ⟨Nat.zero_le _,rfl⟩ ?_
 clear hS;intro s a w F hC hS
 obtain ⟨i,v,out⟩:=s
 try dsimp only at hC
 obtain ⟨F,hS⟩:=hS.nm [9,8,7,3,2] [101,50,0] rfl rfl
 try dsimp only at hS
 obtain ⟨hi,hq⟩:=hC
 have hol:out.length≤i:=by rw [hq,List.length_map,List.length_take];omega
 refine wp_seq ?_
 refine Za hS (qL r2) hB [10,9,8,7,3,2] [101,50,0] rfl rfl fun a w F hS=>Zb (wp_seq ?_)
 refine Zd hS rfl (fun hc0=>?_) (fun hc0=>?_)
 ·skip
  have hil:i<(ZI g).length:=by simp at hc0;omega
  have hio:=hil
  refine wp_skip (Zb (wp_seq (wp_block (wp_seq ?_))))
  refine Zc hS (qy 10 Tryz.underlying26 r2 (qf (oR true 10 .t) r1 qz (qf (oH [.int .i64 0,.int .i64 0,.bool false,.slice none 0 0,.int .i64 0,.slice none 0 0,.int .i64 0,.int .i64 0,.int .i64 0,.int .i64 0] 102) trivial qz (qS 10 102 r2 r1 qZ)))) hB [9,8,7,5,3,2] [102,101,50,0] (fun _=>rfl) (fun _=>rfl) fun τ a w F hS=>?_
  try dsimp only [RS.sub,SF.sub,CF.sub,csub,Anc.sub,List.map,Zg,xL,xM,Nat.reduceAdd,xD,xE,xT,xU,xC,xN,zCF,ldSF,Zm,rTx,Zs,ZC,rInt,rOp,rCmd,rS] at hS
  generalize τ 5=v5 at hS
  try simp only [Int.toNat_natCast] at hS
  refine Zb ?_
  refine Zc hS (qM rfl rfl (qe 10 102 r1 r1 (qf (oP (Ziw (Go.Gm.nth (ZI g) i) (by rw [Zc8 (ZP hio)];simp)) Tryz.func54 (Args.one (.pagg .t))) r1 qz (qf (Zj (sz:=1) (zs:=[.string ⟨#[]⟩]) (r:=[(0,.tmp 15)]) (l:=[_]) Tryz.underlying49 (by kernel_rfl) (by kernel_rfl) (by kernel_rfl) (by kernel_rfl) rfl rfl (.one rfl .t ZF (by kernel_rfl) .nil) rfl) r1 qz (qf (o_append (sz:=1) (bs:=16) 50 (.mk' Tryz.underlying49 (by kernel_rfl) (by kernel_rfl)) (by intro x;rfl) .is (.arr (l':=[ZaN (Go.Gm.nth (ZI g) i)]) .t) (by simp only [List.length_append,List.length_cons,List.length_nil];omega) (by decide)) ⟨rfl,rfl,trivial⟩ ⟨rfl,trivial⟩ (qN rfl rfl qZ)))))) hB [9,8,7,3,2] [102,101,50,0] (fun _=>rfl) (fun _=>rfl) fun τ a w F hS=>?_
  try dsimp only [RS.sub,SF.sub,CF.sub,csub,Anc.sub,List.map,Zg,xL,xM,Nat.reduceAdd,xD,xE,xT,xU,xC,xN,zCF,ldSF,Zm,rTx,Zs,ZC,rInt,rOp,rCmd,rS] at hS
  generalize τ 17=v17 at hS
  refine Zh (Zb ?_)
  refine Za hS (qp r1 (qM rfl rfl qZ)) hB [9,8,7,3,2] [102,101,50,0] rfl rfl fun a w F hS=>Zb ?_
  replace hS:=hS.ent (i:=9) (s':=.pv (.int .i64 ((i+1:Nat):Int))) rfl (.int (Ze (by omega)))
  obtain ⟨F,hS⟩:=hS.nm [8,7,2,3,9] [101,0,50] rfl rfl
  exact ⟨((i+1),_,_),F,⟨by omega,(by rw [Zb4 hio,hq])⟩,hS,by omega⟩
 have hil:i=(ZI g).length:=by simp at hc0;omega
 refine wp_exit (Zi (Zi (Zo (Zb (wp_seq ?_)))))
 refine Za hS (qM rfl rfl (qN rfl rfl qZ)) hB [2] [101,50,0] rfl rfl fun a w F hS=>Zb (wp_ret ?_)
 obtain ⟨F,hS⟩:=hS.give 50 2 rfl rfl
 refine Zn hfr hS rfl rfl rfl (.sl (by rw [hq,hil,List.take_length]))
theorem ZnL (x y:List CmdD):FnP Tryz.prog 14 [.sl rCmd x,.sl rCmd y] (.bool (decide (x=y))):=by
 refine FnP.mk Tryz.func14 rfl Tryz.ntmps14 rfl ?_
 intro B a w F hB hfr hS
 have hxl:=Sat.lenSl hS (i:=0) rfl
 refine wp_seq ?_
 refine Za hS qB hB [4,1,0] [0] rfl rfl fun a w F hS=>Zb (wp_seq (wp_seq ?_))
 refine Za hS (qM rfl rfl (qu Tryz.underlying26 r1 (qM rfl rfl (qu Tryz.underlying26 r1 (qf (o_neq .t .t) r2 qz qZ))))) hB [10,4,1,0] [0] rfl rfl fun a w F hS=>Zb ?_
 refine Zd hS rfl (fun hc0=>?_) (fun hc0=>?_)
 ·skip
  have hg:false=decide (x=y):=(decide_eq_false fun e=>by subst e;simp at hc0).symm
  refine wp_seq ?_
  refine Za hS qB hB [4,1,0] [0] rfl rfl fun a w F hS=>Zb (wp_ret (Zf ?_))
  refine Zn hfr hS rfl rfl rfl (.bool hg)
 have hln:x.length=y.length:=by simp at hc0;omega
 refine wp_skip (Zb (wp_seq (wp_seq ?_)))
 refine Za hS (qM rfl rfl (qu Tryz.underlying26 r1 (qJ qZ))) hB [13,12,4,1,0] [0] rfl rfl fun a w F hS=>Zb (wp_block ?_)
 refine Zl (σ:=(Nat)) [0,1,4,12] [0] (fun s=>[(13,.pv (.int .i64 (s:Int)))]) (fun s=>[]) (fun s=>s≤x.length∧(∀ q,q<s→Go.Gm.nth x q=Go.Gm.nth y q)) (fun s=>x.length - s) (0) hS ⟨rfl,rfl,rfl,rfl,rfl,trivial⟩ ⟨rfl,trivial⟩ ⟨Nat.zero_le _,fun q hq=>absurd hq (Nat.not_lt_zero q)⟩ ?_
 clear hS;intro i a w F hC hS
 try dsimp only at hC
 obtain ⟨F,hS⟩:=hS.nm [13,12,4,1,0] [0] rfl rfl
 try dsimp only at hS
 obtain ⟨hi,hq⟩:=hC
 refine wp_seq ?_
 refine Za hS (qL r2) hB [14,13,12,4,1,0] [0] rfl rfl fun a w F hS=>Zb (wp_seq ?_)
 refine Zd hS rfl (fun hc1=>?_) (fun hc1=>?_)
 ·skip
  have hil:i<x.length:=by simp at hc1;omega
  refine wp_skip (Zb (wp_seq (wp_block (wp_seq ?_))))
  refine Za hS (qM rfl rfl (qN rfl rfl qZ)) hB [13,12,5,4,1,0] [0] rfl rfl fun a w F hS=>Zb (wp_seq ?_)
  refine Zu hS (qM rfl rfl (qM rfl rfl (qy 10 Tryz.underlying26 r2 (qf (oR true 10 .t) r1 qz (qM rfl rfl (qM rfl rfl (qy 10 Tryz.underlying26 r2 (qf (oR true 10 .t) r1 qz (qf (oP (Zeo (Go.Gm.nth x i) (Go.Gm.nth y i)) Tryz.func40 (Args.two (.pagg .t) (.pagg .t))) r2 qz (qf (o_not .t) r1 qz qZ)))))))))) hB [25,13,12,4,1,0] [0] rfl rfl fun a w F hS=>?_
  try dsimp only [List.map,xD,xE,xT,xU,ldSF,Zm,rTx,Zs,ZC,rInt,rOp,rCmd] at hS
  try simp only [Int.toNat_natCast] at hS
  refine Zb ?_
  refine Zd hS rfl (fun hc2=>?_) (fun hc2=>?_)
  ·skip
   have hg:false=decide (x=y):=(decide_eq_false fun e=>by subst e;simp at hc2).symm
   refine wp_seq ?_
   refine Za hS qB hB [13,12,4,1,0] [0] rfl rfl fun a w F hS=>Zb (wp_ret (Zk (Zf (Zf (Zk (Zf ?_))))))
   refine Zn hfr hS rfl rfl rfl (.bool hg)
  have hne:Go.Gm.nth x i=Go.Gm.nth y i:=by simpa using hc2
  refine wp_skip (Zh (Zb ?_))
  refine Za hS (qp r1 (qM rfl rfl qZ)) hB [13,12,4,1,0] [0] rfl rfl fun a w F hS=>Zb ?_
  replace hS:=hS.ent (i:=13) (s':=.pv (.int .i64 ((i+1:Nat):Int))) rfl (.int (Ze (by omega)))
  obtain ⟨F,hS⟩:=hS.nm [12,4,1,0,13] [0] rfl rfl
  exact ⟨(i+1),F,⟨by omega,(fun q h9=>by rcases Nat.lt_or_eq_of_le (Nat.le_of_lt_succ h9) with h8 | h8;exact hq q h8;rw [h8];exact hne)⟩,hS,by omega⟩
 have hil:i=x.length:=by simp at hc1;omega
 have hg:true=decide (x=y):=(decide_eq_true (Zbi hln fun j hj=>hq j (by omega))).symm
 refine wp_exit (Zi (Zi (Zo (Zb (wp_seq ?_)))))
 refine Za hS qB hB [4] [0] rfl rfl fun a w F hS=>Zb (wp_ret ?_)
 refine Zn hfr hS rfl rfl rfl (.bool hg)
theorem Znx (l:List CmdD):FnP Tryz.prog 8 [.sl rCmd l] (.bool (decide (Zdd l))):=by
 refine FnP.mk Tryz.func8 rfl Tryz.ntmps8 rfl ?_
 intro B a w F hB hfr hS
 have hll:=Sat.lenSl hS (i:=0) rfl
 refine wp_seq ?_
 refine Za hS qB hB [2,0] [0] rfl rfl fun a w F hS=>Zb (wp_seq (wp_seq ?_))
 refine Za hS (qM rfl rfl (qu Tryz.underlying26 r1 (qf (Zal .t qi) r1 qz qZ))) hB [7,2,0] [0] rfl rfl fun a w F hS=>Zb ?_
 refine Zd hS rfl (fun hc0=>?_) (fun hc0=>?_)
 ·skip
  have hg:false=decide (Zdd l):=(decide_eq_false fun h9=>by have:=h9.1;simp at hc0;omega).symm
  refine wp_seq ?_
  refine Za hS qB hB [2,0] [0] rfl rfl fun a w F hS=>Zb (wp_ret (Zf ?_))
  refine Zn hfr hS rfl rfl rfl (.bool hg)
 have hl0:l.length≤40:=by simp at hc0;omega
 refine wp_skip (Zb (wp_seq (wp_seq ?_)))
 refine Za hS (qM rfl rfl (qu Tryz.underlying26 r1 (qJ qZ))) hB [10,9,8,2] [0] rfl rfl fun a w F hS=>Zb (wp_block ?_)
 refine Zl (σ:=(Nat)) [2,8,9] [0] (fun s=>[(10,.pv (.int .i64 (s:Int)))]) (fun s=>[]) (fun s=>s≤l.length∧(∀ q,q<s→Zbl (Go.Gm.nth l q))) (fun s=>l.length - s) (0) hS ⟨rfl,rfl,rfl,rfl,trivial⟩ ⟨rfl,trivial⟩ ⟨Nat.zero_le _,fun q hq=>absurd hq (Nat.not_lt_zero q)⟩ ?_
 clear hS;intro i a w F hC hS
 try dsimp only at hC
 obtain ⟨F,hS⟩:=hS.nm [10,9,8,2] [0] rfl rfl
 try dsimp only at hS
 obtain ⟨hi,hq⟩:=hC
 refine wp_seq ?_
 refine Za hS (qL r2) hB [11,10,9,8,2] [0] rfl rfl fun a w F hS=>Zb (wp_seq ?_)
 refine Zd hS rfl (fun hc1=>?_) (fun hc1=>?_)
 ·skip
  have hil:i<l.length:=by simp at hc1;omega
  have hio:=hil
  refine wp_skip (Zb (wp_seq (wp_block (wp_seq ?_))))
  refine Zc hS (qy 10 Tryz.underlying26 r2 (qf (oR true 10 .t) r1 qz (qf (oH [.int .i64 0,.int .i64 0,.bool false,.slice none 0 0,.int .i64 0,.slice none 0 0,.int .i64 0,.int .i64 0,.int .i64 0,.int .i64 0] 101) trivial qz (qS 10 101 r2 r1 qZ)))) hB [10,9,8,4,2] [101,0] (fun _=>rfl) (fun _=>rfl) fun τ a w F hS=>?_
  try dsimp only [RS.sub,SF.sub,CF.sub,csub,Anc.sub,List.map,Zg,xL,xM,Nat.reduceAdd,xD,xE,xT,xU,xC,xN,zCF,ldSF,Zm,rTx,Zs,ZC,rInt,rOp,rCmd] at hS
  generalize τ 4=v4 at hS
  try simp only [Int.toNat_natCast] at hS
  refine Zb (wp_seq ?_)
  refine Za hS (qg 1 101 r1 r1 (qf (oF 2 101 .adr) r1 r1 (qa 101 r1 r1 (qu Tryz.underlying38 r1 (qf (Zal .t qi) r1 qz (qM rfl rfl (qv 4 101 rfl r2 r1 (qk rfl (fun h=>oF 1 101 (.w h .adr)) r2 r1 (qw 101 rfl r2 r1 (qk rfl (fun h=>Zaz Tryz.underlying41 (.w h)) r2 qz (qk rfl (fun h=>Zal (.w h) qi) r2 qz (qf (Z4 .t .t) r2 qz qZ)))))))))))) hB [25,10,9,8,2] [101,0] rfl rfl fun a w F hS=>Zb ?_
  refine Zd hS rfl (fun hc2=>?_) (fun hc2=>?_)
  ·skip
   have hg:false=decide (Zdd l):=(decide_eq_false fun h9=>by have:=LightC.at h9 hio;unfold Zbl at this;simp at hc2;omega).symm
   refine wp_seq ?_
   refine Za hS qB hB [10,9,8,2] [101,0] rfl rfl fun a w F hS=>Zb (wp_ret (Zk (Zf (Zf (Zk (Zf ?_))))))
   refine Zn hfr hS rfl rfl rfl (.bool hg)
  have hne:Zbl (Go.Gm.nth l i):=by unfold Zbl;simp at hc2;omega
  refine wp_skip (Zh (Zb ?_))
  refine Za hS (qp r1 (qM rfl rfl qZ)) hB [10,9,8,2] [101,0] rfl rfl fun a w F hS=>Zb ?_
  replace hS:=hS.ent (i:=10) (s':=.pv (.int .i64 ((i+1:Nat):Int))) rfl (.int (Ze (by omega)))
  obtain ⟨F,hS⟩:=hS.nm [9,8,2,10] [0] rfl rfl
  exact ⟨(i+1),F,⟨by omega,(fun q h9=>by rcases Nat.lt_or_eq_of_le (Nat.le_of_lt_succ h9) with h8 | h8;exact hq q h8;rw [h8];exact hne)⟩,hS,by omega⟩
 have hil:i=l.length:=by simp at hc1;omega
 have hg:true=decide (Zdd l):=(decide_eq_true ⟨hl0,fun c hc=>by
   obtain ⟨j,hj,e⟩:=List.getElem_of_mem hc
   have:=hq j (by omega)
   rwa [Zq hj,e] at this⟩).symm
 refine wp_exit (Zi (Zi (Zo (Zb (wp_seq ?_)))))
 refine Za hS qB hB [2] [0] rfl rfl fun a w F hS=>Zb (wp_ret ?_)
 refine Zn hfr hS rfl rfl rfl (.bool hg)
theorem Zhm (g:HistD) (c:CmdD) (hs:ZaR g) (hc:Zbl c):FnP Tryz.prog 25 [.agg (Zm g),.agg (rCmd c)] (.tup [.agg (Zm (Zad g c).1),.int .i64 (Zad g c).2]):=by
 refine FnP.mk Tryz.func25 rfl Tryz.ntmps25 rfl ?_
 intro B a w F hB hfr hS
 refine wp_seq ?_
 refine Zc hS (qx 101 r1 (qx 102 r1 (qf (oH [.slice none 0 0,.slice none 0 0] 103) trivial qz (qI qZ)))) hB [5,4,3,2] [103,102,101,0] (fun _=>rfl) (fun _=>rfl) fun τ a w F hS=>?_
 try dsimp only [RS.sub,SF.sub,CF.sub,csub,Anc.sub,List.map,zCF,Zm,rTx,Zs,ZC,rInt,rOp,rCmd] at hS
 generalize τ 2=v2 at hS
 generalize τ 3=v3 at hS
 generalize τ 4=v4 at hS
 refine Zb (wp_seq (wp_seq ?_))
 refine Za hS (qg 0 102 r1 r1 (qa 102 r1 r1 qZ)) hB [7,5,4,3,2] [103,102,101,0] rfl rfl fun a w F hS=>Zb (wp_block (wp_seq ?_))
 refine Za hS (qf (o_eql .t qi) r1 qz (qN rfl rfl qZ)) hB [8,7,5,4,3,2] [103,102,101,0] rfl rfl fun a w F hS=>Zb ?_
 refine Zd hS rfl (fun hc0=>?_) (fun hc0=>?_)
 ·skip
  have hg:Zad g c=Z9 g c.tx:=by unfold Zad;rw [if_pos (by simpa using hc0)]
  refine wp_seq ?_
  refine Za hS (qe 2 101 r1 r1 (qg 1 102 r1 r1 (qf (oL true 3 102 .adr) r1 r1 (qf (oP (Zmh g c.tx hs (by have:=hc.1;omega)) Tryz.func55 (Args.two (.pagg .t) (.pagg .t))) r2 qz (qf (o_extract .t rfl) r1 qz (qf (o_extract .t rfl) r1 qz (qf (oA 2 103 .is (.conv .t .agg)) r2 r1 (qN rfl rfl qZ)))))))) hB [5,4] [103,102,101,0] rfl rfl fun a w F hS=>Zb (wp_ret (Zk (Zf ?_)))
  refine Zr hfr hS rfl (.cl 103 true 2 rfl rfl (.tmp rfl .nil)) (.two (by rw [hg];first | exact .aggU rfl rfl | exact .aggLe rfl ⟨PVLe.nilSl,PVLe.nilSl,trivial⟩) (.int (by rw [hg])))
 have k1:¬ c.kind=1:=by simpa using hc0
 refine wp_seq ?_
 refine Za hS (qf (o_eql .t qi) r1 qz (qN rfl rfl qZ)) hB [16,7,5,4,3,2] [103,102,101,0] rfl rfl fun a w F hS=>Zb ?_
 refine Zd hS rfl (fun hc1=>?_) (fun hc1=>?_)
 ·skip
  have hg:Zad g c=ZaA g c.tx:=by unfold Zad;rw [if_neg k1,if_pos (by simpa using hc1)]
  refine wp_seq ?_
  refine Za hS (qe 2 101 r1 r1 (qg 1 102 r1 r1 (qf (oL true 3 102 .adr) r1 r1 (qf (oP (Znc g c.tx hs (by have:=hc.1;omega)) Tryz.func56 (Args.two (.pagg .t) (.pagg .t))) r2 qz (qf (o_extract .t rfl) r1 qz (qf (o_extract .t rfl) r1 qz (qf (oA 2 103 .is (.conv .t .agg)) r2 r1 (qN rfl rfl qZ)))))))) hB [5,4] [103,102,101,0] rfl rfl fun a w F hS=>Zb (wp_ret (Zk (Zf ?_)))
  refine Zr hfr hS rfl (.cl 103 true 2 rfl rfl (.tmp rfl .nil)) (.two (by rw [hg];first | exact .aggU rfl rfl | exact .aggLe rfl ⟨PVLe.nilSl,PVLe.nilSl,trivial⟩) (.int (by rw [hg])))
 have k2:¬ c.kind=2:=by simpa using hc1
 refine wp_seq ?_
 refine Za hS (qf (o_eql .t qi) r1 qz (qN rfl rfl qZ)) hB [24,7,5,4,3,2] [103,102,101,0] rfl rfl fun a w F hS=>Zb ?_
 refine Zd hS rfl (fun hc2=>?_) (fun hc2=>?_)
 ·skip
  have hg:Zad g c=Z1 g c.id:=by unfold Zad;rw [if_neg k1,if_neg k2,if_pos (by simpa using hc2)]
  refine wp_seq ?_
  refine Za hS (qe 2 101 r1 r1 (qg 7 102 r1 r1 (qa 102 r1 r1 (qf (oP (Zma g c.id hs) Tryz.func57 (Args.two (.pagg .t) .t)) r2 qz (qf (o_extract .t rfl) r1 qz (qf (o_extract .t rfl) r1 qz (qf (oA 2 103 .is (.conv .t .agg)) r2 r1 (qN rfl rfl qZ)))))))) hB [5,4] [103,102,101,0] rfl rfl fun a w F hS=>Zb (wp_ret (Zk (Zf ?_)))
  refine Zr hfr hS rfl (.cl 103 true 2 rfl rfl (.tmp rfl .nil)) (.two (by rw [hg];first | exact .aggU rfl rfl | exact .aggLe rfl ⟨PVLe.nilSl,PVLe.nilSl,trivial⟩) (.int (by rw [hg])))
 have k3:¬ c.kind=3:=by simpa using hc2
 refine wp_seq ?_
 refine Za hS (qf (o_eql .t qi) r1 qz (qN rfl rfl qZ)) hB [32,7,5,4,3,2] [103,102,101,0] rfl rfl fun a w F hS=>Zb ?_
 refine Zd hS rfl (fun hc3=>?_) (fun hc3=>?_)
 ·skip
  have hg:Zad g c=ZaV g c.order:=by unfold Zad;rw [if_neg k1,if_neg k2,if_neg k3,if_pos (by simpa using hc3)]
  refine wp_seq ?_
  refine Za hS (qe 2 101 r1 r1 (qg 4 102 r1 r1 (qf (oL true 2 102 .adr) r1 r1 (qf (oP (Zlc g c.order hs (by have:=hc.2;omega)) Tryz.func58 (Args.two (.pagg .t) (.pagg .t))) r2 qz (qf (o_extract .t rfl) r1 qz (qf (o_extract .t rfl) r1 qz (qf (oA 2 103 .is (.conv .t .agg)) r2 r1 (qN rfl rfl qZ)))))))) hB [5,4] [103,102,101,0] rfl rfl fun a w F hS=>Zb (wp_ret (Zk (Zf ?_)))
  refine Zr hfr hS rfl (.cl 103 true 2 rfl rfl (.tmp rfl .nil)) (.two (by rw [hg];first | exact .aggU rfl rfl | exact .aggLe rfl ⟨PVLe.nilSl,PVLe.nilSl,trivial⟩) (.int (by rw [hg])))
 have k4:¬ c.kind=4:=by simpa using hc3
 refine wp_seq ?_
 refine Za hS (qf (o_eql .t qi) r1 qz (qN rfl rfl qZ)) hB [40,5,4,3,2] [103,102,101,0] rfl rfl fun a w F hS=>Zb ?_
 refine Zd hS rfl (fun hc4=>?_) (fun hc4=>?_)
 ·skip
  have hg:Zad g c=ZeA g c.key c.id c.place:=by unfold Zad;rw [if_neg k1,if_neg k2,if_neg k3,if_neg k4,if_pos (by simpa using hc4)]
  refine wp_seq ?_
  refine Za hS (qe 2 101 r1 r1 (qg 6 102 r1 r1 (qa 102 r1 r1 (qg 7 102 r1 r1 (qa 102 r1 r1 (qg 8 102 r1 r1 (qa 102 r1 r1 (qf (oP (Zo1 g c.key c.id c.place hs) Tryz.func59 (Args.four (.pagg .t) .t .t .t)) r4 qz (qf (o_extract .t rfl) r1 qz (qf (o_extract .t rfl) r1 qz (qf (oA 2 103 .is (.conv .t .agg)) r2 r1 (qN rfl rfl qZ)))))))))))) hB [5,4] [103,102,101,0] rfl rfl fun a w F hS=>Zb (wp_ret (Zk (Zf ?_)))
  refine Zr hfr hS rfl (.cl 103 true 2 rfl rfl (.tmp rfl .nil)) (.two (by rw [hg];first | exact .aggU rfl rfl | exact .aggLe rfl ⟨PVLe.nilSl,PVLe.nilSl,trivial⟩) (.int (by rw [hg])))
 have k5:¬ c.kind=5:=by simpa using hc4
 have hg:Zad g c=(zeroH,11):=by unfold Zad;rw [if_neg k1,if_neg k2,if_neg k3,if_neg k4,if_neg k5]
 refine wp_skip (Zh (Zb (wp_seq ?_)))
 refine Za hS (qf (oB [] [.slice none 0 0,.slice none 0 0] [(0,1),(1,1)] .nil) trivial qz (qs 2 103 r2 r1 (qI qZ))) hB [5,4] [103,102,101,0] rfl rfl fun a w F hS=>Zb (wp_ret ?_)
 refine Zr hfr hS rfl (.cl 103 true 2 rfl rfl (.tmp rfl .nil)) (.two (by rw [hg];first | exact .aggU rfl rfl | exact .aggLe rfl ⟨PVLe.nilSl,PVLe.nilSl,trivial⟩) (.int (by rw [hg])))
theorem ZhJ (g:HistD) (c:CmdD) (hs:ZaR g) (hc:Zbl c):FnP Tryz.prog 26 [.agg (Zm g),.agg (rCmd c)] (.tup [.agg (Zm (Zad g c).1),.int .i64 (Zad g c).2]):=by
 refine FnP.mk Tryz.func26 rfl Tryz.ntmps26 rfl ?_
 intro B a w F hB hfr hS
 refine wp_seq ?_
 refine Zc hS (qx 101 r1 (qx 102 r1 (qf (oH [.slice none 0 0,.slice none 0 0] 103) trivial qz (qI qZ)))) hB [5,4,3,2] [103,102,101,0] (fun _=>rfl) (fun _=>rfl) fun τ a w F hS=>?_
 try dsimp only [RS.sub,SF.sub,CF.sub,csub,Anc.sub,List.map,zCF,Zm,rTx,Zs,ZC,rInt,rOp,rCmd] at hS
 generalize τ 2=v2 at hS
 generalize τ 3=v3 at hS
 generalize τ 4=v4 at hS
 refine Zb (wp_seq (wp_seq ?_))
 refine Za hS (qg 0 102 r1 r1 (qa 102 r1 r1 qZ)) hB [7,5,4,3,2] [103,102,101,0] rfl rfl fun a w F hS=>Zb (wp_block (wp_seq ?_))
 refine Za hS (qf (o_eql .t qi) r1 qz (qN rfl rfl qZ)) hB [8,7,5,4,3,2] [103,102,101,0] rfl rfl fun a w F hS=>Zb ?_
 refine Zd hS rfl (fun hc0=>?_) (fun hc0=>?_)
 ·skip
  have hg:Zad g c=Z9 g c.tx:=by unfold Zad;rw [if_pos (by simpa using hc0)]
  refine wp_seq ?_
  refine Za hS (qe 2 101 r1 r1 (qg 1 102 r1 r1 (qf (oL true 3 102 .adr) r1 r1 (qf (oP (Zi2 g c.tx hs (by have:=hc.1;omega)) Tryz.func60 (Args.two (.pagg .t) (.pagg .t))) r2 qz (qf (o_extract .t rfl) r1 qz (qf (o_extract .t rfl) r1 qz (qf (oA 2 103 .is (.conv .t .agg)) r2 r1 (qN rfl rfl qZ)))))))) hB [5,4] [103,102,101,0] rfl rfl fun a w F hS=>Zb (wp_ret (Zk (Zf ?_)))
  refine Zr hfr hS rfl (.cl 103 true 2 rfl rfl (.tmp rfl .nil)) (.two (by rw [hg];first | exact .aggU rfl rfl | exact .aggLe rfl ⟨PVLe.nilSl,PVLe.nilSl,trivial⟩) (.int (by rw [hg])))
 have k1:¬ c.kind=1:=by simpa using hc0
 refine wp_seq ?_
 refine Za hS (qf (o_eql .t qi) r1 qz (qN rfl rfl qZ)) hB [16,7,5,4,3,2] [103,102,101,0] rfl rfl fun a w F hS=>Zb ?_
 refine Zd hS rfl (fun hc1=>?_) (fun hc1=>?_)
 ·skip
  have hg:Zad g c=ZaA g c.tx:=by unfold Zad;rw [if_neg k1,if_pos (by simpa using hc1)]
  refine wp_seq ?_
  refine Za hS (qe 2 101 r1 r1 (qg 1 102 r1 r1 (qf (oL true 3 102 .adr) r1 r1 (qf (oP (Zls g c.tx hs (by have:=hc.1;omega)) Tryz.func61 (Args.two (.pagg .t) (.pagg .t))) r2 qz (qf (o_extract .t rfl) r1 qz (qf (o_extract .t rfl) r1 qz (qf (oA 2 103 .is (.conv .t .agg)) r2 r1 (qN rfl rfl qZ)))))))) hB [5,4] [103,102,101,0] rfl rfl fun a w F hS=>Zb (wp_ret (Zk (Zf ?_)))
  refine Zr hfr hS rfl (.cl 103 true 2 rfl rfl (.tmp rfl .nil)) (.two (by rw [hg];first | exact .aggU rfl rfl | exact .aggLe rfl ⟨PVLe.nilSl,PVLe.nilSl,trivial⟩) (.int (by rw [hg])))
 have k2:¬ c.kind=2:=by simpa using hc1
 refine wp_seq ?_
 refine Za hS (qf (o_eql .t qi) r1 qz (qN rfl rfl qZ)) hB [24,7,5,4,3,2] [103,102,101,0] rfl rfl fun a w F hS=>Zb ?_
 refine Zd hS rfl (fun hc2=>?_) (fun hc2=>?_)
 ·skip
  have hg:Zad g c=Z1 g c.id:=by unfold Zad;rw [if_neg k1,if_neg k2,if_pos (by simpa using hc2)]
  refine wp_seq ?_
  refine Za hS (qe 2 101 r1 r1 (qg 7 102 r1 r1 (qa 102 r1 r1 (qf (oP (Zi9 g c.id hs) Tryz.func62 (Args.two (.pagg .t) .t)) r2 qz (qf (o_extract .t rfl) r1 qz (qf (o_extract .t rfl) r1 qz (qf (oA 2 103 .is (.conv .t .agg)) r2 r1 (qN rfl rfl qZ)))))))) hB [5,4] [103,102,101,0] rfl rfl fun a w F hS=>Zb (wp_ret (Zk (Zf ?_)))
  refine Zr hfr hS rfl (.cl 103 true 2 rfl rfl (.tmp rfl .nil)) (.two (by rw [hg];first | exact .aggU rfl rfl | exact .aggLe rfl ⟨PVLe.nilSl,PVLe.nilSl,trivial⟩) (.int (by rw [hg])))
 have k3:¬ c.kind=3:=by simpa using hc2
 refine wp_seq ?_
 refine Za hS (qf (o_eql .t qi) r1 qz (qN rfl rfl qZ)) hB [32,7,5,4,3,2] [103,102,101,0] rfl rfl fun a w F hS=>Zb ?_
 refine Zd hS rfl (fun hc3=>?_) (fun hc3=>?_)
 ·skip
  have hg:Zad g c=ZaV g c.order:=by unfold Zad;rw [if_neg k1,if_neg k2,if_neg k3,if_pos (by simpa using hc3)]
  refine wp_seq ?_
  refine Za hS (qe 2 101 r1 r1 (qg 4 102 r1 r1 (qf (oL true 2 102 .adr) r1 r1 (qf (oP (ZiE g c.order hs (by have:=hc.2;omega)) Tryz.func63 (Args.two (.pagg .t) (.pagg .t))) r2 qz (qf (o_extract .t rfl) r1 qz (qf (o_extract .t rfl) r1 qz (qf (oA 2 103 .is (.conv .t .agg)) r2 r1 (qN rfl rfl qZ)))))))) hB [5,4] [103,102,101,0] rfl rfl fun a w F hS=>Zb (wp_ret (Zk (Zf ?_)))
  refine Zr hfr hS rfl (.cl 103 true 2 rfl rfl (.tmp rfl .nil)) (.two (by rw [hg];first | exact .aggU rfl rfl | exact .aggLe rfl ⟨PVLe.nilSl,PVLe.nilSl,trivial⟩) (.int (by rw [hg])))
 have k4:¬ c.kind=4:=by simpa using hc3
 refine wp_seq ?_
 refine Za hS (qf (o_eql .t qi) r1 qz (qN rfl rfl qZ)) hB [40,5,4,3,2] [103,102,101,0] rfl rfl fun a w F hS=>Zb ?_
 refine Zd hS rfl (fun hc4=>?_) (fun hc4=>?_)
 ·skip
  have hg:Zad g c=ZeA g c.key c.id c.place:=by unfold Zad;rw [if_neg k1,if_neg k2,if_neg k3,if_neg k4,if_pos (by simpa using hc4)]
  refine wp_seq ?_
  refine Za hS (qe 2 101 r1 r1 (qg 6 102 r1 r1 (qa 102 r1 r1 (qg 7 102 r1 r1 (qa 102 r1 r1 (qg 8 102 r1 r1 (qa 102 r1 r1 (qf (oP (ZlC g c.key c.id c.place hs) Tryz.func64 (Args.four (.pagg .t) .t .t .t)) r4 qz (qf (o_extract .t rfl) r1 qz (qf (o_extract .t rfl) r1 qz (qf (oA 2 103 .is (.conv .t .agg)) r2 r1 (qN rfl rfl qZ)))))))))))) hB [5,4] [103,102,101,0] rfl rfl fun a w F hS=>Zb (wp_ret (Zk (Zf ?_)))
  refine Zr hfr hS rfl (.cl 103 true 2 rfl rfl (.tmp rfl .nil)) (.two (by rw [hg];first | exact .aggU rfl rfl | exact .aggLe rfl ⟨PVLe.nilSl,PVLe.nilSl,trivial⟩) (.int (by rw [hg])))
 have k5:¬ c.kind=5:=by simpa using hc4
 have hg:Zad g c=(zeroH,11):=by unfold Zad;rw [if_neg k1,if_neg k2,if_neg k3,if_neg k4,if_neg k5]
 refine wp_skip (Zh (Zb (wp_seq ?_)))
 refine Za hS (qf (oB [] [.slice none 0 0,.slice none 0 0] [(0,1),(1,1)] .nil) trivial qz (qs 2 103 r2 r1 (qI qZ))) hB [5,4] [103,102,101,0] rfl rfl fun a w F hS=>Zb (wp_ret ?_)
 refine Zr hfr hS rfl (.cl 103 true 2 rfl rfl (.tmp rfl .nil)) (.two (by rw [hg];first | exact .aggU rfl rfl | exact .aggLe rfl ⟨PVLe.nilSl,PVLe.nilSl,trivial⟩) (.int (by rw [hg])))
theorem ZiY (l:List CmdD) (hl:Zdd l):FnP Tryz.prog 19 [.sl rCmd l] (.tup [.agg (Zm (Zbm zeroH l 0).1),.int .i64 (((Zbm zeroH l 0).2.1:Nat):Int),.int .i64 (Zbm zeroH l 0).2.2]):=by
 refine FnP.mk Tryz.func19 rfl Tryz.ntmps19 rfl ?_
 intro B a w F hB hfr hS
 have hll:=hl.1
 refine wp_seq ?_
 refine Zc hS (qf (oH [.slice none 0 0,.slice none 0 0] 101) trivial qz (qI (qI qZ))) hB [4,3,2,0] [101,0] (fun _=>rfl) (fun _=>rfl) fun τ a w F hS=>?_
 try dsimp only [RS.sub,SF.sub,CF.sub,csub,Anc.sub,List.map,zCF,Zm,rTx,Zs,ZC,rInt,rOp,rCmd] at hS
 generalize τ 2=v2 at hS
 refine Zb (wp_seq (wp_seq ?_))
 refine Za hS (qM rfl rfl (qu Tryz.underlying26 r1 (qJ qZ))) hB [11,10,9,4,3,2,0] [101,0] rfl rfl fun a w F hS=>Zb (wp_block ?_)
 replace hS:=hS.turn 101 rfl (r':=.pt (.val v2) 25 [.pv (.sl rTx zeroH.txs),.pv (.sl Zs zeroH.orders)]) (Zqa rfl rfl ⟨PVLe.nilSl,PVLe.nilSl,trivial⟩)
 refine Zl (σ:=(Nat)×(HistD)) [0,2,3,4,9,10] [0] (fun s=>[(11,.pv (.int .i64 (s.1:Int)))]) (fun s=>[(101,.pt (.val v2) 25 [.pv (.sl rTx (s.2).txs),.pv (.sl Zs (s.2).orders)])]) (fun s=>s.1≤l.length∧(Zbm zeroH l 0=Zbm s.2 (l.drop s.1) s.1∧Zl8 s.1 s.2)) (fun s=>l.length - s.1) ((0),(zeroH)) hS ⟨rfl,rfl,rfl,rfl,rfl,rfl,rfl,trivial⟩ ⟨rfl,rfl,trivial⟩ ⟨Nat.zero_le _,⟨rfl,Zl8.zero⟩⟩ ?_
 clear hS;intro s a w F hC hS
 obtain ⟨i,gg⟩:=s
 try dsimp only at hC
 obtain ⟨F,hS⟩:=hS.nm [11,10,9,4,3,2,0] [101,0] rfl rfl
 try dsimp only at hS
 obtain ⟨hi,hq⟩:=hC
 obtain ⟨hpc,hfit⟩:=hq
 refine wp_seq ?_
 refine Za hS (qL r2) hB [12,11,10,9,4,3,2,0] [101,0] rfl rfl fun a w F hS=>Zb (wp_seq ?_)
 refine Zd hS rfl (fun hc0=>?_) (fun hc0=>?_)
 ·skip
  have hil:i<l.length:=by simp at hc0;omega
  have hio:=hil
  refine wp_skip (Zb (wp_seq (wp_block (wp_seq ?_))))
  refine Zc hS (qM rfl rfl (qy 10 Tryz.underlying26 r2 (qf (oR true 10 .t) r1 qz (qf (oH [.int .i64 0,.int .i64 0,.bool false,.slice none 0 0,.int .i64 0,.slice none 0 0,.int .i64 0,.int .i64 0,.int .i64 0,.int .i64 0] 102) trivial qz (qN rfl rfl (qS 10 102 r2 r1 qZ)))))) hB [11,10,9,6,5,4,3,2,0] [102,101,0] (fun _=>rfl) (fun _=>rfl) fun τ a w F hS=>?_
  try dsimp only [RS.sub,SF.sub,CF.sub,csub,Anc.sub,List.map,Zg,xL,xM,Nat.reduceAdd,xD,xE,xT,xU,xC,xN,zCF,ldSF,Zm,rTx,Zs,ZC,rInt,rOp,rCmd] at hS
  generalize τ 6=v6 at hS
  try simp only [Int.toNat_natCast] at hS
  refine Zb (wp_seq ?_)
  refine Zc hS (qe 2 101 r1 r1 (qe 10 102 r1 r1 (qf (oP (Zhm gg (Go.Gm.nth l i) (hfit.fit.small40 (by have:=hl.1;omega)) (LightC.at hl hio)) Tryz.func25 (Args.two (.pagg .t) (.pagg .t))) r2 qz (qM rfl rfl (qf (o_extract .t rfl) r1 qz (qf (o_extract .t rfl) r1 qz (qf (oH [.slice none 0 0,.slice none 0 0] 103) trivial qz (qf (oA 2 103 .same (.conv .t .agg)) r2 r1 (qN rfl rfl qZ))))))))) hB [11,10,9,8,7,5,4,3,2,0] [103,102,101,0] (fun _=>rfl) (fun _=>rfl) fun τ a w F hS=>?_
  try dsimp only [RS.sub,SF.sub,CF.sub,csub,Anc.sub,List.map,Zg,xL,xM,Nat.reduceAdd,xD,xE,xT,xU,xC,xN,zCF,ldSF,Zm,rTx,Zs,ZC,rInt,rOp,rCmd] at hS
  generalize τ 7=v7 at hS
  refine Zb (wp_seq (wp_seq ?_))
  refine Za hS (qM rfl rfl (qf (o_neq .t qi) r1 qz qZ)) hB [23,11,10,9,8,7,5,4,3,2,0] [103,102,101,0] rfl rfl fun a w F hS=>Zb ?_
  refine Zd hS rfl (fun hc1=>?_) (fun hc1=>?_)
  ·skip
   have hg:=Zia hpc hio (by simpa using hc1)
   refine wp_seq ?_
   refine Za hS (qf (oB [] [.slice none 0 0,.slice none 0 0] [(0,1),(1,1)] .nil) trivial qz (qM rfl rfl (qM rfl rfl (qs 2 101 r2 r1 (qN rfl rfl (qN rfl rfl qZ)))))) hB [11,10,9,7,4,3,2,0] [103,102,101,0] rfl rfl fun a w F hS=>Zb (wp_ret (Zf (Zk (Zf (Zf (Zk (Zf ?_)))))))
   refine Zr hfr hS rfl (.cl 101 true 2 rfl rfl (.tmp rfl (.tmp rfl .nil))) (.three (by rw [hg];first | exact .aggU rfl rfl | exact .aggLe rfl ⟨PVLe.nilSl,PVLe.nilSl,trivial⟩) (.int (by rw [hg])) (.int (by rw [hg])))
  have hok:¬ (Zad gg (Go.Gm.nth l i)).2≠0:=by simpa using hc1
  refine wp_skip (Zb ?_)
  refine Za hS (qe 2 103 r1 r1 (qs 2 101 r2 r1 qZ)) hB [11,10,9,4,3,2,0] [103,102,101,0] rfl rfl fun a w F hS=>Zh (Zb ?_)
  refine Za hS (qp r1 (qM rfl rfl qZ)) hB [11,10,9,4,3,2,0] [103,102,101,0] rfl rfl fun a w F hS=>Zb ?_
  replace hS:=hS.ent (i:=11) (s':=.pv (.int .i64 ((i+1:Nat):Int))) rfl (.int (Ze (by omega)))
  obtain ⟨F,hS⟩:=hS.nm [10,9,4,3,2,0,11] [0,101] rfl rfl
  exact ⟨((i+1),((Zad gg (Go.Gm.nth l i)).1)),F,⟨by omega,⟨Zgv hpc hio hok,hfit.edit (by have:=hl.1;omega) (LightC.at hl hio) hok⟩⟩,hS,by omega⟩
 have hil:i=l.length:=by simp at hc0;omega
 have hg:=ZiI hpc hil
 refine wp_exit (Zi (Zi (Zo (Zb (wp_seq ?_)))))
 refine Za hS (qe 2 101 r1 r1 (qM rfl rfl (qu Tryz.underlying26 r1 (qs 2 101 r2 r1 (qN rfl rfl (qI qZ)))))) hB [4,3,2] [101,0] rfl rfl fun a w F hS=>Zb (wp_ret ?_)
 refine Zr hfr hS rfl (.cl 101 true 2 rfl rfl (.tmp rfl (.tmp rfl .nil))) (.three (by rw [hg];first | exact .aggU rfl rfl | exact .aggLe rfl ⟨PVLe.nilSl,PVLe.nilSl,trivial⟩) (.int (by rw [hg])) (.int (by rw [hg])))
theorem Zjk (l:List CmdD) (hl:Zdd l):FnP Tryz.prog 20 [.sl rCmd l] (.tup [.agg (Zm (Zbm zeroH l 0).1),.int .i64 (((Zbm zeroH l 0).2.1:Nat):Int),.int .i64 (Zbm zeroH l 0).2.2]):=by
 refine FnP.mk Tryz.func20 rfl Tryz.ntmps20 rfl ?_
 intro B a w F hB hfr hS
 have hll:=hl.1
 refine wp_seq ?_
 refine Zc hS (qf (oH [.slice none 0 0,.slice none 0 0] 101) trivial qz (qI (qI qZ))) hB [4,3,2,0] [101,0] (fun _=>rfl) (fun _=>rfl) fun τ a w F hS=>?_
 try dsimp only [RS.sub,SF.sub,CF.sub,csub,Anc.sub,List.map,zCF,Zm,rTx,Zs,ZC,rInt,rOp,rCmd] at hS
 generalize τ 2=v2 at hS
 refine Zb (wp_seq ?_)
 refine Zc hS (qf (oH [.slice none 0 0,.slice none 0 0] 102) trivial qz qZ) hB [5,4,3,2,0] [102,101,0] (fun _=>rfl) (fun _=>rfl) fun τ a w F hS=>?_
 try dsimp only [RS.sub,SF.sub,CF.sub,csub,Anc.sub,List.map,zCF,Zm,rTx,Zs,ZC,rInt,rOp,rCmd] at hS
 generalize τ 5=v5 at hS
 refine Zb (wp_seq (wp_seq ?_))
 refine Za hS (qM rfl rfl (qu Tryz.underlying26 r1 (qJ qZ))) hB [12,11,10,5,4,3,2,0] [102,101,0] rfl rfl fun a w F hS=>Zb (wp_block ?_)
 replace hS:=hS.turn 102 rfl (r':=.pt (.val v5) 25 [.pv (.sl rTx zeroH.txs),.pv (.sl Zs zeroH.orders)]) (Zqa rfl rfl ⟨PVLe.nilSl,PVLe.nilSl,trivial⟩)
 refine Zl (σ:=(Nat)×(HistD)) [0,2,3,4,5,10,11] [0,101] (fun s=>[(12,.pv (.int .i64 (s.1:Int)))]) (fun s=>[(102,.pt (.val v5) 25 [.pv (.sl rTx (s.2).txs),.pv (.sl Zs (s.2).orders)])]) (fun s=>s.1≤l.length∧(Zbm zeroH l 0=Zbm s.2 (l.drop s.1) s.1∧Zl8 s.1 s.2)) (fun s=>l.length - s.1) ((0),(zeroH)) hS ⟨rfl,rfl,rfl,rfl,rfl,rfl,rfl,rfl,trivial⟩ ⟨rfl,rfl,rfl,trivial⟩ ⟨Nat.zero_le _,⟨rfl,Zl8.zero⟩⟩ ?_
 clear hS;intro s a w F hC hS
 obtain ⟨i,gg⟩:=s
 try dsimp only at hC
 obtain ⟨F,hS⟩:=hS.nm [12,11,10,5,4,3,2,0] [102,101,0] rfl rfl
 try dsimp only at hS
 obtain ⟨hi,hq⟩:=hC
 obtain ⟨hpc,hfit⟩:=hq
 refine wp_seq ?_
 refine Za hS (qL r2) hB [13,12,11,10,5,4,3,2,0] [102,101,0] rfl rfl fun a w F hS=>Zb (wp_seq ?_)
 refine Zd hS rfl (fun hc0=>?_) (fun hc0=>?_)
 ·skip
  have hil:i<l.length:=by simp at hc0;omega
  have hio:=hil
  refine wp_skip (Zb (wp_seq (wp_block (wp_seq ?_))))
  refine Zc hS (qM rfl rfl (qy 10 Tryz.underlying26 r2 (qf (oR true 10 .t) r1 qz (qf (oH [.int .i64 0,.int .i64 0,.bool false,.slice none 0 0,.int .i64 0,.slice none 0 0,.int .i64 0,.int .i64 0,.int .i64 0,.int .i64 0] 103) trivial qz (qN rfl rfl (qS 10 103 r2 r1 qZ)))))) hB [12,11,10,7,6,5,4,3,2,0] [103,102,101,0] (fun _=>rfl) (fun _=>rfl) fun τ a w F hS=>?_
  try dsimp only [RS.sub,SF.sub,CF.sub,csub,Anc.sub,List.map,Zg,xL,xM,Nat.reduceAdd,xD,xE,xT,xU,xC,xN,zCF,ldSF,Zm,rTx,Zs,ZC,rInt,rOp,rCmd] at hS
  generalize τ 7=v7 at hS
  try simp only [Int.toNat_natCast] at hS
  refine Zb (wp_seq ?_)
  refine Zc hS (qe 2 102 r1 r1 (qe 10 103 r1 r1 (qf (oP (ZhJ gg (Go.Gm.nth l i) (hfit.fit.small40 (by have:=hl.1;omega)) (LightC.at hl hio)) Tryz.func26 (Args.two (.pagg .t) (.pagg .t))) r2 qz (qM rfl rfl (qf (o_extract .t rfl) r1 qz (qf (o_extract .t rfl) r1 qz (qf (oH [.slice none 0 0,.slice none 0 0] 104) trivial qz (qf (oA 2 104 .same (.conv .t .agg)) r2 r1 (qN rfl rfl qZ))))))))) hB [12,11,10,9,8,6,5,4,3,2,0] [104,103,102,101,0] (fun _=>rfl) (fun _=>rfl) fun τ a w F hS=>?_
  try dsimp only [RS.sub,SF.sub,CF.sub,csub,Anc.sub,List.map,Zg,xL,xM,Nat.reduceAdd,xD,xE,xT,xU,xC,xN,zCF,ldSF,Zm,rTx,Zs,ZC,rInt,rOp,rCmd] at hS
  generalize τ 8=v8 at hS
  refine Zb (wp_seq (wp_seq ?_))
  refine Za hS (qM rfl rfl (qf (o_neq .t qi) r1 qz qZ)) hB [24,12,11,10,9,8,6,5,4,3,2,0] [104,103,102,101,0] rfl rfl fun a w F hS=>Zb ?_
  refine Zd hS rfl (fun hc1=>?_) (fun hc1=>?_)
  ·skip
   have hg:=Zia hpc hio (by simpa using hc1)
   refine wp_seq ?_
   refine Za hS (qf (oB [] [.slice none 0 0,.slice none 0 0] [(0,1),(1,1)] .nil) trivial qz (qM rfl rfl (qM rfl rfl (qs 2 101 r2 r1 (qN rfl rfl (qN rfl rfl qZ)))))) hB [12,11,10,8,5,4,3,2,0] [104,103,102,101,0] rfl rfl fun a w F hS=>Zb (wp_ret (Zf (Zk (Zf (Zf (Zk (Zf ?_)))))))
   refine Zr hfr hS rfl (.cl 101 true 2 rfl rfl (.tmp rfl (.tmp rfl .nil))) (.three (by rw [hg];first | exact .aggU rfl rfl | exact .aggLe rfl ⟨PVLe.nilSl,PVLe.nilSl,trivial⟩) (.int (by rw [hg])) (.int (by rw [hg])))
  have hok:¬ (Zad gg (Go.Gm.nth l i)).2≠0:=by simpa using hc1
  refine wp_skip (Zb ?_)
  refine Za hS (qe 2 104 r1 r1 (qs 2 102 r2 r1 qZ)) hB [12,11,10,5,4,3,2,0] [104,103,102,101,0] rfl rfl fun a w F hS=>Zh (Zb ?_)
  refine Za hS (qp r1 (qM rfl rfl qZ)) hB [12,11,10,5,4,3,2,0] [104,103,102,101,0] rfl rfl fun a w F hS=>Zb ?_
  replace hS:=hS.ent (i:=12) (s':=.pv (.int .i64 ((i+1:Nat):Int))) rfl (.int (Ze (by omega)))
  obtain ⟨F,hS⟩:=hS.nm [11,10,5,4,3,2,0,12] [101,0,102] rfl rfl
  exact ⟨((i+1),((Zad gg (Go.Gm.nth l i)).1)),F,⟨by omega,⟨Zgv hpc hio hok,hfit.edit (by have:=hl.1;omega) (LightC.at hl hio) hok⟩⟩,hS,by omega⟩
 have hil:i=l.length:=by simp at hc0;omega
 have hg:=ZiI hpc hil
 refine wp_exit (Zi (Zi (Zo (Zb (wp_seq ?_)))))
 refine Za hS (qe 2 102 r1 r1 (qM rfl rfl (qu Tryz.underlying26 r1 (qs 2 101 r2 r1 (qN rfl rfl (qI qZ)))))) hB [4,3,2] [102,101,0] rfl rfl fun a w F hS=>Zb (wp_ret ?_)
 refine Zr hfr hS rfl (.cl 101 true 2 rfl rfl (.tmp rfl (.tmp rfl .nil))) (.three (by rw [hg];first | exact .aggU rfl rfl | exact .aggLe rfl ⟨PVLe.nilSl,PVLe.nilSl,trivial⟩) (.int (by rw [hg])) (.int (by rw [hg])))
theorem ZiR {o:OrdD} (h:o.txs.Nodup):ZbM o=(Zae (ZaO o.txs) o.txs).1.map (Zna o.key):=by unfold ZbM;rw [Zh9 h]
theorem zC_le (k i j:Int):ZdK [.int .i64 k,.int .i64 0,.bool false,.is (.slice none 0 0),.int .i64 0,.is (.slice none 0 0),.int .i64 j,.int .i64 i,.int .i64 0,.int .i64 0] (rCmd {zeroC k with key:=j,id:=i}):=⟨PVLe.refl,PVLe.refl,PVLe.refl,PVLe.nilSl,PVLe.refl,PVLe.nilSl,PVLe.refl,PVLe.refl,PVLe.refl,PVLe.refl,trivial⟩
theorem lvc:ZI (⟨[(⟨1,true,[⟨false,5,0,0⟩]⟩:TxD),(⟨2,true,[⟨true,5,1,1⟩,⟨false,5,0,0⟩]⟩:TxD)],[⟨5,[2,1]⟩]⟩:HistD)=([Zdt (⟨1,true,[⟨false,5,0,0⟩]⟩:TxD),Zdt (⟨2,true,[⟨true,5,1,1⟩,⟨false,5,0,0⟩]⟩:TxD),ZeI (⟨2,true,[⟨true,5,1,1⟩,⟨false,5,0,0⟩]⟩:TxD),Zna 5 ⟨2,0⟩]:List CmdD):=by
 rw [ZbA (by decide +kernel)]
 rw [show ((⟨[(⟨1,true,[⟨false,5,0,0⟩]⟩:TxD),(⟨2,true,[⟨true,5,1,1⟩,⟨false,5,0,0⟩]⟩:TxD)],[⟨5,[2,1]⟩]⟩:HistD)).orders.flatMap ZbM=ZbM ⟨5,[2,1]⟩ from by simp,ZiR (by decide)]
 decide +kernel
theorem lvp:Zbm zeroH ([Zdt (⟨1,true,[⟨false,5,0,0⟩]⟩:TxD),Zdt (⟨2,true,[⟨true,5,1,1⟩,⟨false,5,0,0⟩]⟩:TxD),ZeI (⟨2,true,[⟨true,5,1,1⟩,⟨false,5,0,0⟩]⟩:TxD),Zna 5 ⟨2,0⟩]:List CmdD) 0=((⟨[(⟨1,true,[⟨false,5,0,0⟩]⟩:TxD),(⟨2,true,[⟨true,5,1,1⟩,⟨false,5,0,0⟩]⟩:TxD)],[⟨5,[2,1]⟩]⟩:HistD),4,0):=by decide +kernel
theorem lvq:Zbm zeroH [({zeroC 1 with tx:=⟨1,false,[]⟩} : CmdD),({zeroC 1 with tx:=⟨1,false,[]⟩} : CmdD)] 0=(zeroH,1,4):=by decide +kernel
theorem lve:Zad (⟨[(⟨1,true,[⟨false,5,0,0⟩]⟩:TxD),(⟨2,true,[⟨true,5,1,1⟩,⟨false,5,0,0⟩]⟩:TxD)],[⟨5,[2,1]⟩]⟩:HistD) ({zeroC 8 with key:=0,id:=0} : CmdD)=(zeroH,11):=by decide +kernel
theorem lvf:Zad (⟨[(⟨1,true,[⟨false,5,0,0⟩]⟩:TxD),(⟨2,true,[⟨true,5,1,1⟩,⟨false,5,0,0⟩]⟩:TxD)],[⟨5,[2,1]⟩]⟩:HistD) ({zeroC 5 with key:=5,id:=1} : CmdD)=((⟨[(⟨1,true,[⟨false,5,0,0⟩]⟩:TxD),(⟨2,true,[⟨true,5,1,1⟩,⟨false,5,0,0⟩]⟩:TxD)],[⟨5,[1,2]⟩]⟩:HistD),0):=by decide +kernel
theorem lvs:([Zdt (⟨1,true,[⟨false,5,0,0⟩]⟩:TxD),Zdt (⟨2,true,[⟨true,5,1,1⟩,⟨false,5,0,0⟩]⟩:TxD),ZeI (⟨2,true,[⟨true,5,1,1⟩,⟨false,5,0,0⟩]⟩:TxD),Zna 5 ⟨2,0⟩]:List CmdD).map ZaN = [[97,100,100,32,49,32,99,32,119,53],[97,100,100,32,50,32,99,32,119,53],[115,101,116,32,50,32,99,32,114,53,64,49,46,49,32,119,53],[109,111,118,32,53,32,50,32,48]]:=by decide +kernel
theorem Zig  : FnP Tryz.prog 18 [] (.bool true):=by
 refine FnP.mk Tryz.func18 rfl Tryz.ntmps18 rfl ?_
 intro B a w F hB hfr hS
 refine wp_seq ?_
 refine Za hS qB hB [0] [0] rfl rfl fun a w F hS=>Zb (wp_seq ?_)
 refine Zc hS (qf (oB [(1,_)] [.bool false,.int .i64 0,.int .i64 0,.int .i64 0] [(0,1),(1,1),(2,1),(3,1)] (.one rfl qi one_int (by kernel_rfl) .nil)) trivial qz (qf (oB [(0,_),(1,_),(2,_),(3,_)] [.bool false,.int .i64 0,.int .i64 0,.int .i64 0] [(0,1),(1,1),(2,1),(3,1)] (.one rfl .cb Zg6 (by kernel_rfl) (.one rfl qi one_int (by kernel_rfl) (.one rfl qi one_int (by kernel_rfl) (.one rfl qi one_int (by kernel_rfl) .nil))))) trivial qz (qf (oH [.bool false,.int .i64 0,.int .i64 0,.int .i64 0] 101) trivial qz (qf (oH [.bool false,.int .i64 0,.int .i64 0,.int .i64 0] 102) trivial qz (qS 4 101 r2 r1 (qS 4 102 r2 r1 qZ)))))) hB [2,1,0] [102,101,0] (fun _=>rfl) (fun _=>rfl) fun τ a w F hS=>?_
 try dsimp only [RS.sub,SF.sub,CF.sub,csub,Anc.sub,List.map,Zg,xL,xM,Nat.reduceAdd,xD,xE,xT,xU,xC,xN,zCF,Zm,rTx,Zs,ZC,rInt,rOp,rCmd,rS] at hS
 generalize τ 1=v1 at hS
 generalize τ 2=v2 at hS
 refine Zb (wp_seq ?_)
 refine Zc hS (qe 4 101 r1 r1 (qf (Zj (sz:=4) (zs:=[.bool false,.int .i64 0,.int .i64 0,.int .i64 0]) (r:=[(0,.tmp 17)]) (l:=[_,_,_,_]) Tryz.underlying38 (by kernel_rfl) (by kernel_rfl) (by kernel_rfl) (by kernel_rfl) rfl rfl (.agg rfl .t (by kernel_rfl) (by kernel_rfl) .nil) rfl) r1 qz (qf (oB [(0,_),(1,_),(2,.tmp 18)] [.int .i64 0,.bool false,.slice none 0 0] [(0,1),(1,1),(2,1)] (.one rfl qi one_int (by kernel_rfl) (.one rfl .cb Zg6 (by kernel_rfl) (.one rfl .t Zfc (by kernel_rfl) .nil)))) r1 qz (qe 4 102 r1 r1 (qe 4 101 r1 r1 (qf (Zj (sz:=4) (zs:=[.bool false,.int .i64 0,.int .i64 0,.int .i64 0]) (r:=[(0,.tmp 20),(1,.tmp 21)]) (l:=[_,_,_,_,_,_,_,_]) Tryz.underlying38 (by kernel_rfl) (by kernel_rfl) (by kernel_rfl) (by kernel_rfl) rfl rfl (.agg rfl .t (by kernel_rfl) (by kernel_rfl) (.agg rfl .t (by kernel_rfl) (by kernel_rfl) .nil)) rfl) r2 qz (qf (oB [(0,_),(1,_),(2,.tmp 22)] [.int .i64 0,.bool false,.slice none 0 0] [(0,1),(1,1),(2,1)] (.one rfl qi one_int (by kernel_rfl) (.one rfl .cb Zg6 (by kernel_rfl) (.one rfl .t Zfc (by kernel_rfl) .nil)))) r1 qz (qf (Zj (sz:=3) (zs:=[.int .i64 0,.bool false,.slice none 0 0]) (r:=[(0,.tmp 19),(1,.tmp 23)]) (l:=[_,_,_,_,_,_]) Tryz.underlying22 (by kernel_rfl) (by kernel_rfl) (by kernel_rfl) (by kernel_rfl) rfl rfl (.agg rfl .t (by kernel_rfl) (by kernel_rfl) (.agg rfl .t (by kernel_rfl) (by kernel_rfl) .nil)) rfl) r2 qz (qf (Zj (sz:=1) (zs:=[.int .i64 0]) (r:=[(0,_),(1,_)]) (l:=[_,_]) Tryz.underlying41 (by kernel_rfl) (by kernel_rfl) (by kernel_rfl) (by kernel_rfl) rfl rfl (.one rfl qi one_int (by kernel_rfl) (.one rfl qi one_int (by kernel_rfl) .nil)) rfl) trivial qz (qf (oB [(0,_),(1,.tmp 25)] [.int .i64 0,.slice none 0 0] [(0,1),(1,1)] (.one rfl qi one_int (by kernel_rfl) (.one rfl .t Zfc (by kernel_rfl) .nil))) r1 qz (qf (Zj (sz:=2) (zs:=[.int .i64 0,.slice none 0 0]) (r:=[(0,.tmp 26)]) (l:=[_,_]) Tryz.underlying23 (by kernel_rfl) (by kernel_rfl) (by kernel_rfl) (by kernel_rfl) rfl rfl (.agg rfl .t (by kernel_rfl) (by kernel_rfl) .nil) rfl) r1 qz (qf (oB [(0,.tmp 24),(1,.tmp 27)] [.slice none 0 0,.slice none 0 0] [(0,1),(1,1)] (.one rfl .t Zfc (by kernel_rfl) (.one rfl .t Zfc (by kernel_rfl) .nil))) r2 qz (qf (oH [.slice none 0 0,.slice none 0 0] 103) trivial qz (qS 2 103 r2 r1 qZ)))))))))))))) hB [3,0] [103,102,101,0] (fun _=>rfl) (fun _=>rfl) fun τ a w F hS=>?_
 try dsimp only [RS.sub,SF.sub,CF.sub,csub,Anc.sub,List.map,Zg,xL,xM,Nat.reduceAdd,xD,xE,xT,xU,xC,xN,zCF,ldSF,Zm,rTx,Zs,ZC,rInt,rOp,rCmd,rS] at hS
 generalize τ 3=v3 at hS
 replace hS:=hS.turn 103 rfl (r':=.pt (.val v3) 25 [.pv (.sl rTx [(⟨1,true,[⟨false,5,0,0⟩]⟩:TxD),(⟨2,true,[⟨true,5,1,1⟩,⟨false,5,0,0⟩]⟩:TxD)]),.pv (.sl Zs [⟨5,[2,1]⟩])]) (Zqa rfl rfl ⟨PVLe.arrSl (R:=rTx) (l':=[(⟨1,true,[⟨false,5,0,0⟩]⟩:TxD),(⟨2,true,[⟨true,5,1,1⟩,⟨false,5,0,0⟩]⟩:TxD)]) rfl ⟨PVLe.refl,PVLe.refl,PVLe.arrSl (R:=rOp) (l':=[⟨false,5,0,0⟩]) rfl ZdK.refl,PVLe.refl,PVLe.refl,PVLe.arrSl (R:=rOp) (l':=[⟨true,5,1,1⟩,⟨false,5,0,0⟩]) rfl ZdK.refl,trivial⟩,PVLe.arrSl (R:=Zs) (l':=[⟨5,[2,1]⟩]) rfl ⟨PVLe.refl,PVLe.arrSl (R:=rInt) (l':=[2,1]) rfl ZdK.refl,trivial⟩,trivial⟩)
 obtain ⟨F,hS⟩:=hS.nm [3,0] [103,102,101,0] rfl rfl
 refine Zb (wp_seq ?_)
 refine Za hS (qe 2 103 r1 r1 (qf (oP (Zcj (⟨[(⟨1,true,[⟨false,5,0,0⟩]⟩:TxD),(⟨2,true,[⟨true,5,1,1⟩,⟨false,5,0,0⟩]⟩:TxD)],[⟨5,[2,1]⟩]⟩:HistD) (by decide)) Tryz.func17 (Args.one (.pagg .t))) r1 qz (qN rfl rfl qZ))) hB [4,3,0] [103,102,101,0] rfl rfl fun a w F hS=>?_
 rw [lvc] at hS
 refine Zb (wp_seq ?_)
 refine Zc hS (qM rfl rfl (qf (oP (ZiY ([Zdt (⟨1,true,[⟨false,5,0,0⟩]⟩:TxD),Zdt (⟨2,true,[⟨true,5,1,1⟩,⟨false,5,0,0⟩]⟩:TxD),ZeI (⟨2,true,[⟨true,5,1,1⟩,⟨false,5,0,0⟩]⟩:TxD),Zna 5 ⟨2,0⟩]:List CmdD) (by decide)) Tryz.func19 (Args.one .t)) r1 qz (qM rfl rfl (qf (o_extract .t rfl) r1 qz (qf (o_extract .t rfl) r1 qz (qf (o_extract .t rfl) r1 qz (qf (oH [.slice none 0 0,.slice none 0 0] 104) trivial qz (qf (oA 2 104 .same (.conv .t .agg)) r2 r1 (qN rfl rfl (qN rfl rfl qZ)))))))))) hB [7,6,5,4,3,0] [104,103,102,101,0] (fun _=>rfl) (fun _=>rfl) fun τ a w F hS=>?_
 try dsimp only [RS.sub,SF.sub,CF.sub,csub,Anc.sub,List.map,Zg,xL,xM,Nat.reduceAdd,xD,xE,xT,xU,xC,xN,zCF,Zm,rTx,Zs,ZC,rInt,rOp,rCmd,rS] at hS
 generalize τ 5=v5 at hS
 rw [lvp] at hS
 dsimp only at hS
 refine Zb (wp_seq ?_)
 refine Zc hS (qf (oB [(0,_)] [.int .i64 0,.bool false,.slice none 0 0] [(0,1),(1,1),(2,1)] (.one rfl qi one_int (by kernel_rfl) .nil)) trivial qz (qf (oB [(0,_),(1,.tmp 38)] [.int .i64 0,.int .i64 0,.bool false,.slice none 0 0,.int .i64 0,.slice none 0 0,.int .i64 0,.int .i64 0,.int .i64 0,.int .i64 0] [(0,1),(1,3),(4,2),(6,1),(7,1),(8,1),(9,1)] (.one rfl qi one_int (by kernel_rfl) (.agg rfl .t (by kernel_rfl) (by kernel_rfl) .nil))) r1 qz (qf (oB [(0,_)] [.int .i64 0,.bool false,.slice none 0 0] [(0,1),(1,1),(2,1)] (.one rfl qi one_int (by kernel_rfl) .nil)) trivial qz (qf (oB [(0,_),(1,.tmp 40)] [.int .i64 0,.int .i64 0,.bool false,.slice none 0 0,.int .i64 0,.slice none 0 0,.int .i64 0,.int .i64 0,.int .i64 0,.int .i64 0] [(0,1),(1,3),(4,2),(6,1),(7,1),(8,1),(9,1)] (.one rfl qi one_int (by kernel_rfl) (.agg rfl .t (by kernel_rfl) (by kernel_rfl) .nil))) r1 qz (qf (Zj (sz:=10) (zs:=[.int .i64 0,.int .i64 0,.bool false,.slice none 0 0,.int .i64 0,.slice none 0 0,.int .i64 0,.int .i64 0,.int .i64 0,.int .i64 0]) (r:=[(0,.tmp 39),(1,.tmp 41)]) (l:=[_,_,_,_,_,_,_,_,_,_,_,_,_,_,_,_,_,_,_,_]) Tryz.underlying26 (by kernel_rfl) (by kernel_rfl) (by kernel_rfl) (by kernel_rfl) rfl rfl (.agg rfl .t (by kernel_rfl) (by kernel_rfl) (.agg rfl .t (by kernel_rfl) (by kernel_rfl) .nil)) rfl) r2 qz (qf (oP (ZiY [({zeroC 1 with tx:=⟨1,false,[]⟩} : CmdD),({zeroC 1 with tx:=⟨1,false,[]⟩} : CmdD)] (by decide)) Tryz.func19 (Args.one (.conv .t (entArr (l:=[.int .i64 1,.int .i64 1,.bool false,.is (.slice none 0 0),.int .i64 0,.is (.slice none 0 0),.int .i64 0,.int .i64 0,.int .i64 0,.int .i64 0,.int .i64 1,.int .i64 1,.bool false,.is (.slice none 0 0),.int .i64 0,.is (.slice none 0 0),.int .i64 0,.int .i64 0,.int .i64 0,.int .i64 0]) (R:=rCmd) (l':=[({zeroC 1 with tx:=⟨1,false,[]⟩} : CmdD),({zeroC 1 with tx:=⟨1,false,[]⟩} : CmdD)]) rfl ⟨PVLe.refl,PVLe.refl,PVLe.refl,PVLe.nilSl,PVLe.refl,PVLe.nilSl,PVLe.refl,PVLe.refl,PVLe.refl,PVLe.refl,PVLe.refl,PVLe.refl,PVLe.refl,PVLe.nilSl,PVLe.refl,PVLe.nilSl,PVLe.refl,PVLe.refl,PVLe.refl,PVLe.refl,trivial⟩)))) r1 qz (qM rfl rfl (qf (o_extract .t rfl) r1 qz (qf (o_extract .t rfl) r1 qz (qf (o_extract .t rfl) r1 qz (qf (oH [.slice none 0 0,.slice none 0 0] 105) trivial qz (qf (oA 2 105 .same (.conv .t .agg)) r2 r1 (qN rfl rfl (qN rfl rfl qZ)))))))))))))) hB [10,9,7,6,5,4,3,0] [105,104,103,102,101,0] (fun _=>rfl) (fun _=>rfl) fun τ a w F hS=>?_
 try dsimp only [RS.sub,SF.sub,CF.sub,csub,Anc.sub,List.map,Zg,xL,xM,Nat.reduceAdd,xD,xE,xT,xU,xC,xN,zCF,Zm,rTx,Zs,ZC,rInt,rOp,rCmd,rS] at hS
 generalize τ 8=v8 at hS
 rw [lvq] at hS
 dsimp only at hS
 refine Zb (wp_seq ?_)
 refine Zc hS (qe 2 103 r1 r1 (qf (oB [(0,_)] [.int .i64 0,.int .i64 0,.bool false,.slice none 0 0,.int .i64 0,.slice none 0 0,.int .i64 0,.int .i64 0,.int .i64 0,.int .i64 0] [(0,1),(1,3),(4,2),(6,1),(7,1),(8,1),(9,1)] (.one rfl qi one_int (by kernel_rfl) .nil)) trivial qz (qf (oP (Zhm (⟨[(⟨1,true,[⟨false,5,0,0⟩]⟩:TxD),(⟨2,true,[⟨true,5,1,1⟩,⟨false,5,0,0⟩]⟩:TxD)],[⟨5,[2,1]⟩]⟩:HistD) ({zeroC 8 with key:=0,id:=0} : CmdD) (by decide) (by decide)) Tryz.func25 (Args.two (.pagg .t) (.conv (.pagg .t) (Ent.paggLe (zC_le 8 0 0))))) r2 qz (qM rfl rfl (qf (o_extract .t rfl) r1 qz (qf (o_extract .t rfl) r1 qz (qf (oH [.slice none 0 0,.slice none 0 0] 106) trivial qz (qf (oA 2 106 .same (.conv .t .agg)) r2 r1 (qN rfl rfl qZ))))))))) hB [12,10,9,7,6,5,4,3,0] [106,105,104,103,102,101,0] (fun _=>rfl) (fun _=>rfl) fun τ a w F hS=>?_
 try dsimp only [RS.sub,SF.sub,CF.sub,csub,Anc.sub,List.map,Zg,xL,xM,Nat.reduceAdd,xD,xE,xT,xU,xC,xN,zCF,ldSF,Zm,rTx,Zs,ZC,rInt,rOp,rCmd,rS] at hS
 generalize τ 11=v11 at hS
 rw [lve] at hS
 dsimp only at hS
 refine Zb (wp_seq ?_)
 refine Zc hS (qe 2 103 r1 r1 (qf (oB [(0,_),(3,_),(4,_)] [.int .i64 0,.int .i64 0,.bool false,.slice none 0 0,.int .i64 0,.slice none 0 0,.int .i64 0,.int .i64 0,.int .i64 0,.int .i64 0] [(0,1),(1,3),(4,2),(6,1),(7,1),(8,1),(9,1)] (.one rfl qi one_int (by kernel_rfl) (.one rfl qi one_int (by kernel_rfl) (.one rfl qi one_int (by kernel_rfl) .nil)))) trivial qz (qf (oP (Zhm (⟨[(⟨1,true,[⟨false,5,0,0⟩]⟩:TxD),(⟨2,true,[⟨true,5,1,1⟩,⟨false,5,0,0⟩]⟩:TxD)],[⟨5,[2,1]⟩]⟩:HistD) ({zeroC 5 with key:=5,id:=1} : CmdD) (by decide) (by decide)) Tryz.func25 (Args.two (.pagg .t) (.conv (.pagg .t) (Ent.paggLe (zC_le 5 1 5))))) r2 qz (qM rfl rfl (qf (o_extract .t rfl) r1 qz (qf (o_extract .t rfl) r1 qz (qf (oH [.slice none 0 0,.slice none 0 0] 107) trivial qz (qf (oA 2 107 .same (.conv .t .agg)) r2 r1 (qN rfl rfl qZ))))))))) hB [14,13,12,10,9,7,6,5,4,3,0] [107,106,105,104,103,102,101,0] (fun _=>rfl) (fun _=>rfl) fun τ a w F hS=>?_
 try dsimp only [RS.sub,SF.sub,CF.sub,csub,Anc.sub,List.map,Zg,xL,xM,Nat.reduceAdd,xD,xE,xT,xU,xC,xN,zCF,ldSF,Zm,rTx,Zs,ZC,rInt,rOp,rCmd,rS] at hS
 generalize τ 13=v13 at hS
 rw [lvf] at hS
 dsimp only at hS
 refine Zb (wp_seq ?_)
 refine Zbx hS (by kernel_rfl) (nf (oL true 2 103 .is) r1 r1 (nf (oP (Zg2 (⟨[(⟨1,true,[⟨false,5,0,0⟩]⟩:TxD),(⟨2,true,[⟨true,5,1,1⟩,⟨false,5,0,0⟩]⟩:TxD)],[⟨5,[2,1]⟩]⟩:HistD) (by decide)) Tryz.func23 (Args.one (.pagg .t))) r1 trivial (nf (Zj (sz:=1) (zs:=[.string ⟨#[]⟩]) (r:=[(0,_),(1,_),(2,_),(3,_)]) (l:=[_,_,_,_]) Tryz.underlying49 (by kernel_rfl) (by kernel_rfl) (by kernel_rfl) (by kernel_rfl) rfl rfl (.one rfl (.cs (by kernel_rfl)) ZF (by kernel_rfl) (.one rfl (.cs (by kernel_rfl)) ZF (by kernel_rfl) (.one rfl (.cs (by kernel_rfl)) ZF (by kernel_rfl) (.one rfl (.cs (by kernel_rfl)) ZF (by kernel_rfl) .nil)))) rfl) trivial trivial (nf (oP (Zon _ _) Tryz.func22 (Args.two .t (.conv .t (Ent.arrSl (R:=rS) (l:=[[97,100,100,32,49,32,99,32,119,53],[97,100,100,32,50,32,99,32,119,53],[115,101,116,32,50,32,99,32,114,53,64,49,46,49,32,119,53],[109,111,118,32,53,32,50,32,48]]) rfl)))) r2 trivial (nM rfl rfl (nm rfl rfl rfl rfl (nk rfl (fun h=>Zaz Tryz.underlying26 (.w h)) r2 trivial (nk rfl (fun h=>o_eql (.w h) (.ci (by kernel_rfl))) r2 trivial (nf (ZA .t .t) r2 trivial (nM rfl rfl (nm rfl rfl rfl rfl (nk rfl (fun h=>o_eql (.w h) (.ci (by kernel_rfl))) r2 trivial (nf (ZA .t .t) r2 trivial (nM rfl rfl (nm rfl rfl rfl rfl (nk rfl (fun h=>o_eql (.w h) (.ci (by kernel_rfl))) r2 trivial (nf (ZA .t .t) r2 trivial (nM rfl rfl (nk rfl (fun h=>oL true 2 104 .is) r2 r1 (nk rfl (fun h=>oL true 2 103 .is) r2 r1 (nn [78,77,76,14,13,12,10,9,3,0] [107,106,105,104,103,102,101,0] rfl rfl (nk rfl (fun h=>oP (Zef (⟨[(⟨1,true,[⟨false,5,0,0⟩]⟩:TxD),(⟨2,true,[⟨true,5,1,1⟩,⟨false,5,0,0⟩]⟩:TxD)],[⟨5,[2,1]⟩]⟩:HistD) (⟨[(⟨1,true,[⟨false,5,0,0⟩]⟩:TxD),(⟨2,true,[⟨true,5,1,1⟩,⟨false,5,0,0⟩]⟩:TxD)],[⟨5,[2,1]⟩]⟩:HistD)) Tryz.func15 (Args.two (.pagg (.w h)) (.pagg (.w h)))) r3 trivial (nf (ZA .t .t) r2 trivial (nM rfl rfl (nm rfl rfl rfl rfl (nk rfl (fun h=>o_eql (.w h) (.ci (by kernel_rfl))) r2 trivial (nf (ZA .t .t) r2 trivial (nM rfl rfl (nm rfl rfl rfl rfl (nk rfl (fun h=>o_eql (.w h) (.ci (by kernel_rfl))) r2 trivial (nf (ZA .t .t) r2 trivial (nM rfl rfl (nm rfl rfl rfl rfl (nk rfl (fun h=>o_eql (.w h) (.ci (by kernel_rfl))) r2 trivial (nf (ZA .t .t) r2 trivial (nM rfl rfl (nm rfl rfl rfl rfl (nk rfl (fun h=>o_eql (.w h) (.ci (by kernel_rfl))) r2 trivial (nf (ZA .t .t) r2 trivial (nM rfl rfl (nk rfl (fun h=>oL true 2 107 .is) r2 r1 (nn [98,97,3,0] [107,106,105,104,103,102,101,0] rfl rfl (nk rfl (fun h=>oP (ZcT (⟨[(⟨1,true,[⟨false,5,0,0⟩]⟩:TxD),(⟨2,true,[⟨true,5,1,1⟩,⟨false,5,0,0⟩]⟩:TxD)],[⟨5,[1,2]⟩]⟩:HistD) 5) Tryz.func38 (Args.two (.pagg (.w h)) (.ci (by kernel_rfl)))) r2 trivial (nk rfl (fun h=>Zj (sz:=1) (zs:=[.int .i64 0]) (r:=[(0,_),(1,_)]) (l:=[_,_]) Tryz.underlying41 (by kernel_rfl) (by kernel_rfl) (by kernel_rfl) (by kernel_rfl) rfl rfl (.one rfl (.ci (by kernel_rfl)) one_int (by kernel_rfl) (.one rfl (.ci (by kernel_rfl)) one_int (by kernel_rfl) .nil)) rfl) r1 trivial (nk rfl (fun h=>oP (Zgw _ [1,2]) Tryz.func51 (Args.two (.w h) (.conv (.w h) (Ent.arrSl (R:=rInt) (l:=[1,2]) rfl)))) r3 trivial (nf (ZA .t .t) r2 trivial (nM rfl rfl (nk rfl (fun h=>oF 0 103 .is) r2 r1 (nk rfl (fun h=>oL false 1 103 (.w h .adr)) r2 r1 (nk rfl (fun h=>ZhE (r:=[(0,.tmp 105)]) (zs:=[.slice none 0 0,.slice none 0 0]) (pl:=[(0,1),(1,1)]) (by kernel_rfl) (by kernel_rfl) (.one rfl (.w h) one_sl (by kernel_rfl) .nil) (by rfl)) r2 trivial (nk rfl (fun h=>oP (Zg2 (⟨[(⟨1,true,[⟨false,5,0,0⟩]⟩:TxD),(⟨2,true,[⟨true,5,1,1⟩,⟨false,5,0,0⟩]⟩:TxD)],[]⟩:HistD) (by decide)) Tryz.func23 (Args.one (.conv (.pagg (.w h)) (Ent.paggLe (l:=[.sl rTx [(⟨1,true,[⟨false,5,0,0⟩]⟩:TxD),(⟨2,true,[⟨true,5,1,1⟩,⟨false,5,0,0⟩]⟩:TxD)],.is (.slice none 0 0)]) (l':=Zm (⟨[(⟨1,true,[⟨false,5,0,0⟩]⟩:TxD),(⟨2,true,[⟨true,5,1,1⟩,⟨false,5,0,0⟩]⟩:TxD)],[]⟩:HistD)) ⟨PVLe.refl,PVLe.nilSl,trivial⟩)))) r2 trivial (nk rfl (fun h=>Zaz Tryz.underlying49 (.w h)) r2 trivial (nk rfl (fun h=>o_eql (.w h) (.ci (by kernel_rfl))) r2 trivial (nf (ZA .t .t) r2 trivial (nM rfl rfl (nk rfl (fun h=>ZhE (r:=[]) (zs:=[.slice none 0 0,.slice none 0 0]) (pl:=[(0,1),(1,1)]) (by kernel_rfl) (by kernel_rfl) .nil (by rfl)) r1 trivial (nk rfl (fun h=>oP (Zcj zeroH (by decide)) Tryz.func17 (Args.one (.conv (.pagg (.w h)) (Ent.paggLe (l:=[.is (.slice none 0 0),.is (.slice none 0 0)]) (l':=Zm zeroH) ⟨PVLe.nilSl,PVLe.nilSl,trivial⟩)))) r2 trivial (nk rfl (fun h=>Zaz Tryz.underlying26 (.w h)) r2 trivial (nk rfl (fun h=>o_eql (.w h) (.ci (by kernel_rfl))) r2 trivial (nf (ZA .t .t) r2 trivial (nN rfl rfl ZW.nil))))))))))))))))))))))))))))))))))))))))))))))))))))))))))))) (by kernel_rfl) (by rw [hB];kernel_rfl) fun a w F hS=>?_
 obtain ⟨F,hS⟩:=hS.nm [0] [107,106,105,104,103,102,101,0] rfl rfl
 try dsimp only [List.map,Zg,xL,xM,Nat.reduceAdd,xD,xE,xT,xU,xC,xN,zCF,ldSF,Zm,rTx,Zs,ZC,rInt,rOp,rCmd,rS] at hS
 refine Zb (wp_ret ?_)
 refine Zn hfr hS rfl rfl rfl (.bool (by rw [lvc,lvs];decide +kernel))
theorem ZiZ (g:HistD) (l:List CmdD):FnP Tryz.prog 5 [.agg (Zm g),.sl rCmd l] (.bool true):=by
 refine FnP.mk Tryz.func5 rfl Tryz.ntmps5 rfl ?_
 intro B a w F hB hfr hS
 refine wp_seq ?_
 refine Zc hS (qx 101 r1 qB) hB [4,2,1] [101,0] (fun _=>rfl) (fun _=>rfl) fun τ a w F hS=>?_
 try dsimp only [RS.sub,SF.sub,CF.sub,csub,Anc.sub,List.map,zCF,Zm,rTx,Zs,ZC,rInt,rOp,rCmd] at hS
 generalize τ 2=v2 at hS
 refine Zb (wp_seq (wp_seq ?_))
 refine Za hS (qe 2 101 r1 r1 (qf (oP (ZnN g) Tryz.func7 (Args.one (.pagg .t))) r1 qz (qf (o_not .t) r1 qz (qM rfl rfl (qm rfl rfl rfl rfl (qk rfl (fun h=>oP (Znx l) Tryz.func8 (Args.one (.w h))) r2 qz (qk rfl (fun h=>o_not (.w h)) r2 qz (qf (Z4 .t .t) r2 qz qZ)))))))) hB [24,4,2,1] [101,0] rfl rfl fun a w F hS=>Zb ?_
 refine Zd hS rfl (fun hc0=>?_) (fun hc0=>?_)
 ·skip
  refine wp_seq ?_
  refine Za hS (qf (oP (Zig) Tryz.func18 Args.nil) trivial qz (qN rfl rfl qZ)) hB [4,2,1] [101,0] rfl rfl fun a w F hS=>Zb (wp_ret (Zf ?_))
  refine Zn hfr hS rfl rfl rfl .refl
 have hcx:=hc0
 simp at hcx
 have hsm:ZaR g:=ZbR.small hcx.1
 have hl:Zdd l:=hcx.2
 have hll:=hl.1
 refine wp_skip (Zb (wp_seq ?_))
 refine Zc hS (qM rfl rfl (qf (oP (ZiY l hl) Tryz.func19 (Args.one .t)) r1 qz (qM rfl rfl (qf (o_extract .t rfl) r1 qz (qf (o_extract .t rfl) r1 qz (qf (o_extract .t rfl) r1 qz (qf (oH [.slice none 0 0,.slice none 0 0] 102) trivial qz (qf (oA 2 102 .same (.conv .t .agg)) r2 r1 (qN rfl rfl (qN rfl rfl qZ)))))))))) hB [7,6,5,4,2,1] [102,101,0] (fun _=>rfl) (fun _=>rfl) fun τ a w F hS=>?_
 try dsimp only [RS.sub,SF.sub,CF.sub,csub,Anc.sub,List.map,Zg,xL,xM,Nat.reduceAdd,xD,xE,xT,xU,xC,xN,zCF,Zm,rTx,Zs,ZC,rInt,rOp,rCmd] at hS
 generalize τ 5=v5 at hS
 refine Zb (wp_seq ?_)
 refine Zc hS (qM rfl rfl (qf (oP (Zjk l hl) Tryz.func20 (Args.one .t)) r1 qz (qM rfl rfl (qf (o_extract .t rfl) r1 qz (qf (o_extract .t rfl) r1 qz (qf (o_extract .t rfl) r1 qz (qf (oH [.slice none 0 0,.slice none 0 0] 103) trivial qz (qf (oA 2 103 .same (.conv .t .agg)) r2 r1 (qN rfl rfl (qN rfl rfl qZ)))))))))) hB [10,9,8,7,6,5,4,2,1] [103,102,101,0] (fun _=>rfl) (fun _=>rfl) fun τ a w F hS=>?_
 try dsimp only [RS.sub,SF.sub,CF.sub,csub,Anc.sub,List.map,Zg,xL,xM,Nat.reduceAdd,xD,xE,xT,xU,xC,xN,zCF,Zm,rTx,Zs,ZC,rInt,rOp,rCmd] at hS
 generalize τ 8=v8 at hS
 refine Zb (wp_seq (wp_seq ?_))
 refine Zu hS (qM rfl rfl (qM rfl rfl (qf (o_neq .t .t) r2 qz (qM rfl rfl (qm rfl rfl rfl rfl (qm rfl rfl rfl rfl (qk rfl (fun h=>o_neq (.w h) (.w h)) r3 qz (qf (Z4 .t .t) r2 qz (qM rfl rfl (qk rfl (fun h=>oL true 2 102 .is) r2 r1 (qk rfl (fun h=>oL true 2 103 .is) r2 r1 (qk rfl (fun h=>oP (Zef _ _) Tryz.func15 (Args.two (.pagg (.w h)) (.pagg (.w h)))) r3 qz (qk rfl (fun h=>o_not (.w h)) r2 qz (qf (Z4 .t .t) r2 qz (qM rfl rfl (qk rfl (fun h=>oL true 2 101 .is) r2 r1 (qk rfl (fun h=>oP (Zcj g hsm) Tryz.func17 (Args.one (.pagg (.w h)))) r2 qz (qk rfl (fun h=>oL true 2 101 .is) r2 r1 (qk rfl (fun h=>oP (ZdF g hsm) Tryz.func21 (Args.one (.pagg (.w h)))) r2 qz (qk rfl (fun h=>oP (ZnL _ _) Tryz.func14 (Args.two (.w h) (.w h))) r3 qz (qk rfl (fun h=>o_not (.w h)) r2 qz (qf (Z4 .t .t) r2 qz (qM rfl rfl (qk rfl (fun h=>oL true 2 101 .is) r2 r1 (qk rfl (fun h=>oP (Zg2 g hsm) Tryz.func23 (Args.one (.pagg (.w h)))) r2 qz (qk rfl (fun h=>oL true 2 101 .is) r2 r1 (qk rfl (fun h=>oP (Zlt g hsm) Tryz.func24 (Args.one (.pagg (.w h)))) r2 qz (qk rfl (fun h=>oP (Zon _ _) Tryz.func22 (Args.two (.w h) (.w h))) r3 qz (qk rfl (fun h=>o_not (.w h)) r2 qz (qf (Z4 .t .t) r2 qz qZ)))))))))))))))))))))))))))))) hB [67,4,2,1] [103,102,101,0] rfl rfl fun a w F hS=>?_
 try dsimp only [List.map,xD,xE,xT,xU,ldSF,Zm,rTx,Zs,ZC,rInt,rOp,rCmd] at hS
 refine Zb ?_
 refine Zd hS rfl (fun hc1=>?_) (fun hc1=>?_)
 ·skip
  simp at hc1
 refine wp_skip (Zb (wp_seq (wp_seq ?_)))
 refine Za hS (qM rfl rfl (qu Tryz.underlying26 r1 (qJ qZ))) hB [70,69,68,4,2] [103,102,101,0] rfl rfl fun a w F hS=>Zb (wp_block ?_)
 refine Zl (σ:=(Nat)) [2,4,68,69] [0,101,102,103] (fun s=>[(70,.pv (.int .i64 (s:Int)))]) (fun s=>[]) (fun s=>s≤l.length∧(True)) (fun s=>l.length - s) (0) hS ⟨rfl,rfl,rfl,rfl,rfl,trivial⟩ ⟨rfl,rfl,rfl,rfl,trivial⟩ ⟨Nat.zero_le _,trivial⟩ ?_
 clear hS;intro i a w F hC hS
 try dsimp only at hC
 obtain ⟨F,hS⟩:=hS.nm [70,69,68,4,2] [103,102,101,0] rfl rfl
 try dsimp only at hS
 obtain ⟨hi,hq⟩:=hC
 refine wp_seq ?_
 refine Za hS (qL r2) hB [71,70,69,68,4,2] [103,102,101,0] rfl rfl fun a w F hS=>Zb (wp_seq ?_)
 refine Zd hS rfl (fun hc2=>?_) (fun hc2=>?_)
 ·skip
  have hil:i<l.length:=by simp at hc2;omega
  have hio:=hil
  refine wp_skip (Zb (wp_seq (wp_block (wp_seq ?_))))
  refine Zc hS (qy 10 Tryz.underlying26 r2 (qf (oR true 10 .t) r1 qz (qf (oH [.int .i64 0,.int .i64 0,.bool false,.slice none 0 0,.int .i64 0,.slice none 0 0,.int .i64 0,.int .i64 0,.int .i64 0,.int .i64 0] 104) trivial qz (qS 10 104 r2 r1 qZ)))) hB [70,69,68,12,4,2] [104,103,102,101,0] (fun _=>rfl) (fun _=>rfl) fun τ a w F hS=>?_
  try dsimp only [RS.sub,SF.sub,CF.sub,csub,Anc.sub,List.map,Zg,xL,xM,Nat.reduceAdd,xD,xE,xT,xU,xC,xN,zCF,ldSF,Zm,rTx,Zs,ZC,rInt,rOp,rCmd] at hS
  generalize τ 12=v12 at hS
  try simp only [Int.toNat_natCast] at hS
  refine Zb (wp_seq ?_)
  refine Zc hS (qe 2 101 r1 r1 (qe 10 104 r1 r1 (qf (oP (Zhm g (Go.Gm.nth l i) hsm (LightC.at hl hio)) Tryz.func25 (Args.two (.pagg .t) (.pagg .t))) r2 qz (qM rfl rfl (qf (o_extract .t rfl) r1 qz (qf (o_extract .t rfl) r1 qz (qf (oH [.slice none 0 0,.slice none 0 0] 105) trivial qz (qf (oA 2 105 .same (.conv .t .agg)) r2 r1 (qN rfl rfl qZ))))))))) hB [70,69,68,14,13,12,4,2] [105,104,103,102,101,0] (fun _=>rfl) (fun _=>rfl) fun τ a w F hS=>?_
  try dsimp only [RS.sub,SF.sub,CF.sub,csub,Anc.sub,List.map,Zg,xL,xM,Nat.reduceAdd,xD,xE,xT,xU,xC,xN,zCF,ldSF,Zm,rTx,Zs,ZC,rInt,rOp,rCmd] at hS
  generalize τ 13=v13 at hS
  refine Zb (wp_seq ?_)
  refine Zc hS (qe 2 101 r1 r1 (qe 10 104 r1 r1 (qf (oP (ZhJ g (Go.Gm.nth l i) hsm (LightC.at hl hio)) Tryz.func26 (Args.two (.pagg .t) (.pagg .t))) r2 qz (qM rfl rfl (qf (o_extract .t rfl) r1 qz (qf (o_extract .t rfl) r1 qz (qf (oH [.slice none 0 0,.slice none 0 0] 106) trivial qz (qf (oA 2 106 .same (.conv .t .agg)) r2 r1 (qN rfl rfl qZ))))))))) hB [70,69,68,16,15,14,13,4,2] [106,105,104,103,102,101,0] (fun _=>rfl) (fun _=>rfl) fun τ a w F hS=>?_
  try dsimp only [RS.sub,SF.sub,CF.sub,csub,Anc.sub,List.map,Zg,xL,xM,Nat.reduceAdd,xD,xE,xT,xU,xC,xN,zCF,ldSF,Zm,rTx,Zs,ZC,rInt,rOp,rCmd] at hS
  generalize τ 15=v15 at hS
  refine Zb (wp_seq ?_)
  refine Za hS (qM rfl rfl (qM rfl rfl (qf (o_neq .t .t) r2 qz (qM rfl rfl (qk rfl (fun h=>oL true 2 105 .is) r2 r1 (qk rfl (fun h=>oL true 2 106 .is) r2 r1 (qk rfl (fun h=>oP (Zef _ _) Tryz.func15 (Args.two (.pagg (.w h)) (.pagg (.w h)))) r3 qz (qk rfl (fun h=>o_not (.w h)) r2 qz (qf (Z4 .t .t) r2 qz qZ))))))))) hB [94,70,69,68,4,2] [106,105,104,103,102,101,0] rfl rfl fun a w F hS=>Zb ?_
  refine Zd hS rfl (fun hc3=>?_) (fun hc3=>?_)
  ·skip
   simp at hc3
  refine wp_skip (Zh (Zb ?_))
  refine Za hS (qp r1 (qM rfl rfl qZ)) hB [70,69,68,4,2] [106,105,104,103,102,101,0] rfl rfl fun a w F hS=>Zb ?_
  replace hS:=hS.ent (i:=70) (s':=.pv (.int .i64 ((i+1:Nat):Int))) rfl (.int (Ze (by omega)))
  obtain ⟨F,hS⟩:=hS.nm [69,68,4,2,70] [103,102,101,0] rfl rfl
  exact ⟨(i+1),F,⟨by omega,trivial⟩,hS,by omega⟩
 have hil:i=l.length:=by simp at hc2;omega
 refine wp_exit (Zi (Zi (Zo (Zb (wp_seq ?_)))))
 refine Za hS (qf (oP (Zig) Tryz.func18 Args.nil) trivial qz (qN rfl rfl qZ)) hB [4] [103,102,101,0] rfl rfl fun a w F hS=>Zb (wp_ret ?_)
 refine Zn hfr hS rfl rfl rfl .refl
end Go.Proofs.YtjhapicamnijnaaGreat
