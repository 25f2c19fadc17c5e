/- Da1,Da2,Da3,Da4,Da5,Da6,Da7,in one text. -/
import Derived.Test.YtcfgcpcakdknkaaGreatBa0
namespace Go.Proofs.YtcfgcpcakdknkaaGreat
open Go Go.Gm
set_option linter.unusedVariables false
set_option linter.unusedSimpArgs false
set_option maxHeartbeats 4000000
set_option maxRecDepth 8000
structure OpD where
 read:Bool
 key:Int
 tx:Int
 nth:Int
 deriving DecidableEq,Inhabited
structure TxD where
 id:Int
 done:Bool
 ops:List OpD
 deriving DecidableEq,Inhabited
structure OrdD where
 key:Int
 txs:List Int
 deriving DecidableEq,Inhabited
structure HistD where
 txs:List TxD
 orders:List OrdD
 deriving DecidableEq,Inhabited
structure DeltaD where
 was:List TxD
 now:List TxD
 old:List OrdD
 new:List OrdD
 deriving DecidableEq,Inhabited
def rOp (o:OpD):List PV:=[.bool o.read,.int .i64 o.key,.int .i64 o.tx,.int .i64 o.nth]
def rTx (t:TxD):List PV:=[.int .i64 t.id,.bool t.done,.sl rOp t.ops]
def rOrd (o:OrdD):List PV:=[.int .i64 o.key,.sl rInt o.txs]
def rHist (h:HistD):List PV:=[.sl rTx h.txs,.sl rOrd h.orders]
def rDelta (d:DeltaD):List PV:=[.sl rTx d.was,.sl rTx d.now,.sl rOrd d.old,.sl rOrd d.new]
theorem opD_eq {u v:OpD} (h:(!((u.read == v.read) && (decide (u.key=v.key) && (decide (u.tx=v.tx) && (decide (u.nth=v.nth) && true)))))=false):u=v:=by
 cases u;cases v
 simp at h
 simp [h]
theorem sameInts_c (x y:List Int):FnP Tryz.prog 32 [.sl rInt x,.sl rInt y] (.bool (decide (x=y))):=by
 refine FnP.mk Tryz.func32 rfl Tryz.ntmps32 rfl ?_
 intro B a w F hB hfr hS
 have hxl:=Sat.lenSl hS (i:=0) rfl
 refine wp_seq ?_
 refine region_z hS (qf (oN .cb) trivial qz qZ) hB [4,1,0] [0] rfl rfl ?_
 clear hS;intro a w F hS
 refine then_n (wp_seq (wp_seq ?_))
 refine region_z hS (qM rfl rfl (qf (o_len_sl Tryz.underlying35 .t) r1 qz (qM rfl rfl (qf (o_len_sl Tryz.underlying35 .t) r1 qz (qf (o_neq .t .t) r2 qz qZ))))) hB [10,4,1,0] [0] rfl rfl ?_
 clear hS;intro a w F hS
 refine then_n ?_
 refine cond_b hS rfl (fun hc0=>?_) (fun hc0=>?_)
 ·skip
  have hg:false=decide (x=y):=by
    rw [eq_comm,decide_eq_false_iff_not]
    intro h
    subst h
    simp at hc0
  refine wp_seq ?_
  refine region_z hS (qf (oN .cb) trivial qz qZ) hB [4,1,0] [0] rfl rfl ?_
  clear hS;intro a w F hS
  refine then_n (wp_ret (then_r ?_))
  refine ret_P hfr hS rfl (.tmp rfl .nil) (.one (.bool hg))
 have hl:x.length=y.length:=by simp at hc0;omega
 refine wp_skip (then_n (wp_seq (wp_seq ?_)))
 refine region_z hS (qM rfl rfl (qf (o_len_sl Tryz.underlying35 .t) r1 qz (qf (oM qi) trivial qz qZ))) hB [13,12,4,1,0] [0] rfl rfl ?_
 clear hS;intro a w F hS
 refine then_n (wp_block ?_)
 obtain ⟨F,hS⟩:=hS.nm [13,12,1,0] [0] rfl rfl
 refine loop_inv (σ:=Nat) (fun s=>(⟨[(0,.pv (.sl rInt x)),(1,.pv (.sl rInt y)),(12,.pv (.int .i64 x.length)),(13,.pv (.int .i64 s))],[(0,frame B)]⟩:En)) (fun s=>s≤x.length ∧ ∀ j,j<s→Go.Gm.nth x j=Go.Gm.nth y j) (fun s=>x.length - s) 0 hS ⟨Nat.zero_le _,fun j hj=>absurd hj (Nat.not_lt_zero j)⟩ ?_
 clear hS;intro i a w F hC hS
 try dsimp only at hC
 try dsimp only at hS
 obtain ⟨hi,hq⟩:=hC
 refine wp_seq ?_
 refine region_z hS (qf (o_lss .t .t) r2 qz qZ) hB [14,13,12,1,0] [0] rfl rfl ?_
 clear hS;intro a w F hS
 refine then_n (wp_seq ?_)
 refine cond_b hS rfl (fun hc1=>?_) (fun hc1=>?_)
 ·skip
  have hil:i<x.length:=by simp at hc1;omega
  refine wp_skip (then_n (wp_seq (wp_block (wp_seq ?_))))
  refine region_z hS (qM rfl rfl (qN rfl rfl qZ)) hB [15,14,13,12,5,1,0] [0] rfl rfl ?_
  clear hS;intro a w F hS
  refine then_n (wp_seq ?_)
  refine region_any (by kernel_rfl) hS (by kernel_rfl) (qM rfl rfl (qM rfl rfl (qf (o_indexAddr_sl (sz:=1) (.mk Tryz.underlying35 (by kernel_rfl)) (by intro x;rfl) .t .t (by omega) (by omega)) r2 qz (qf (oR false 1 .t) r1 qz (qM rfl rfl (qM rfl rfl (qf (o_indexAddr_sl (sz:=1) (.mk Tryz.underlying35 (by kernel_rfl)) (by intro x;rfl) .t .t (by omega) (by omega)) r2 qz (qf (oR false 1 .t) r1 qz (qf (o_neq .t .t) r2 qz qZ))))))))) (by kernel_rfl) (by rw [hB];kernel_rfl) ?_
  clear hS;intro a w F hS
  obtain ⟨F,hS⟩:=hS.nm [24,23,22,21,20,19,18,17,16,15,14,13,12,5,1,0] [0] rfl rfl
  try dsimp only [List.map,xD,xE,xT,xU,ldSF] at hS
  refine then_n ?_
  refine cond_b hS rfl (fun hc2=>?_) (fun hc2=>?_)
  ·skip
   have hg:false=decide (x=y):=by
     rw [eq_comm,decide_eq_false_iff_not]
     intro h
     subst h
     simp at hc2
   refine wp_seq ?_
   refine region_z hS (qf (oN .cb) trivial qz qZ) hB [24,23,22,21,20,19,18,17,16,15,14,13,12,5,4,1,0] [0] rfl rfl ?_
   clear hS;intro a w F hS
   refine then_n (wp_ret (block_r (then_r (then_r (block_r (then_r ?_))))))
   refine ret_P hfr hS rfl (.tmp rfl .nil) (.one (.bool hg))
  rw [Int.toNat_natCast] at hc2
  have hqi:Go.Gm.nth x i=Go.Gm.nth y i:=by simpa using hc2
  refine wp_skip (block_n (then_n ?_))
  refine region_z hS (qf (o_add .t qi) r1 qz (qM rfl rfl qZ)) hB [25,24,23,22,21,20,19,18,17,16,15,14,13,12,5,1,0] [0] rfl rfl ?_
  clear hS;intro a w F hS
  refine then_n ?_
  replace hS:=hS.ent (i:=13) (s':=.pv (.int .i64 ((i+1:Nat):Int))) rfl (.int (wrap_succ (by omega)))
  obtain ⟨F,hS⟩:=hS.nm [13,12,1,0] [0] rfl rfl
  exact ⟨i+1,F,⟨by omega,fun j hj=>by rcases Nat.lt_or_eq_of_le (Nat.le_of_lt_succ hj) with h | h;exact hq j h;rw [h];exact hqi⟩,hS,by omega⟩
 have hg:true=decide (x=y):=by
   rw [eq_comm,decide_eq_true_eq]
   exact list_same hl fun j hj=>hq j (by simp at hc1;omega)
 refine wp_exit (then_x (then_x (block_x (then_n (wp_seq ?_)))))
 refine region_z hS (qf (oN .cb) trivial qz qZ) hB [4] [0] rfl rfl ?_
 clear hS;intro a w F hS
 refine then_n (wp_ret ?_)
 refine ret_P hfr hS rfl (.tmp rfl .nil) (.one (.bool hg))
theorem sameOps_c (x y:List OpD):FnP Tryz.prog 116 [.sl rOp x,.sl rOp y] (.bool (decide (x=y))):=by
 refine FnP.mk Tryz.func116 rfl Tryz.ntmps116 rfl ?_
 intro B a w F hB hfr hS
 have hxl:=Sat.lenSl hS (i:=0) rfl
 refine wp_seq ?_
 refine region_z hS (qf (oN .cb) trivial qz qZ) hB [4,1,0] [0] rfl rfl ?_
 clear hS;intro a w F hS
 refine then_n (wp_seq (wp_seq ?_))
 refine region_z hS (qM rfl rfl (qf (o_len_sl Tryz.underlying32 .t) r1 qz (qM rfl rfl (qf (o_len_sl Tryz.underlying32 .t) r1 qz (qf (o_neq .t .t) r2 qz qZ))))) hB [10,4,1,0] [0] rfl rfl ?_
 clear hS;intro a w F hS
 refine then_n ?_
 refine cond_b hS rfl (fun hc0=>?_) (fun hc0=>?_)
 ·skip
  have hg:false=decide (x=y):=by
    rw [eq_comm,decide_eq_false_iff_not]
    intro h
    subst h
    simp at hc0
  refine wp_seq ?_
  refine region_z hS (qf (oN .cb) trivial qz qZ) hB [4,1,0] [0] rfl rfl ?_
  clear hS;intro a w F hS
  refine then_n (wp_ret (then_r ?_))
  refine ret_P hfr hS rfl (.tmp rfl .nil) (.one (.bool hg))
 have hl:x.length=y.length:=by simp at hc0;omega
 refine wp_skip (then_n (wp_seq (wp_seq ?_)))
 refine region_z hS (qM rfl rfl (qf (o_len_sl Tryz.underlying32 .t) r1 qz (qf (oM qi) trivial qz qZ))) hB [13,12,4,1,0] [0] rfl rfl ?_
 clear hS;intro a w F hS
 refine then_n (wp_block ?_)
 obtain ⟨F,hS⟩:=hS.nm [13,12,1,0] [0] rfl rfl
 refine loop_inv (σ:=Nat) (fun s=>(⟨[(0,.pv (.sl rOp x)),(1,.pv (.sl rOp y)),(12,.pv (.int .i64 x.length)),(13,.pv (.int .i64 s))],[(0,frame B)]⟩:En)) (fun s=>s≤x.length ∧ ∀ j,j<s→Go.Gm.nth x j=Go.Gm.nth y j) (fun s=>x.length - s) 0 hS ⟨Nat.zero_le _,fun j hj=>absurd hj (Nat.not_lt_zero j)⟩ ?_
 clear hS;intro i a w F hC hS
 try dsimp only at hC
 try dsimp only at hS
 obtain ⟨hi,hq⟩:=hC
 refine wp_seq ?_
 refine region_z hS (qf (o_lss .t .t) r2 qz qZ) hB [14,13,12,1,0] [0] rfl rfl ?_
 clear hS;intro a w F hS
 refine then_n (wp_seq ?_)
 refine cond_b hS rfl (fun hc1=>?_) (fun hc1=>?_)
 ·skip
  have hil:i<x.length:=by simp at hc1;omega
  refine wp_skip (then_n (wp_seq (wp_block (wp_seq ?_))))
  refine region_z hS (qM rfl rfl (qN rfl rfl qZ)) hB [15,14,13,12,5,1,0] [0] rfl rfl ?_
  clear hS;intro a w F hS
  refine then_n (wp_seq ?_)
  refine region_any (by kernel_rfl) hS (by kernel_rfl) (qM rfl rfl (qM rfl rfl (qf (o_indexAddr_sl (sz:=4) (.mk Tryz.underlying32 (by kernel_rfl)) (by intro x;rfl) .t .t (by omega) (by omega)) r2 qz (qf (oR true 4 .t) r1 qz (qM rfl rfl (qM rfl rfl (qf (o_indexAddr_sl (sz:=4) (.mk Tryz.underlying32 (by kernel_rfl)) (by intro x;rfl) .t .t (by omega) (by omega)) r2 qz (qf (oR true 4 .t) r1 qz (qf (o_neqS (ks:=[false,true,true,true]) (by kernel_rfl) .t .t (.bool (.int (.int (.int .nil))))) r2 qz qZ))))))))) (by kernel_rfl) (by rw [hB];kernel_rfl) ?_
  clear hS;intro a w F hS
  obtain ⟨F,hS⟩:=hS.nm [24,23,22,21,20,19,18,17,16,15,14,13,12,5,1,0] [0] rfl rfl
  try dsimp only [List.map,xD,xE,xT,xU,ldSF] at hS
  refine then_n ?_
  refine cond_b hS rfl (fun hc2=>?_) (fun hc2=>?_)
  ·skip
   have hg:false=decide (x=y):=by
     rw [eq_comm,decide_eq_false_iff_not]
     intro h
     subst h
     simp at hc2
   refine wp_seq ?_
   refine region_z hS (qf (oN .cb) trivial qz qZ) hB [24,23,22,21,20,19,18,17,16,15,14,13,12,5,4,1,0] [0] rfl rfl ?_
   clear hS;intro a w F hS
   refine then_n (wp_ret (block_r (then_r (then_r (block_r (then_r ?_))))))
   refine ret_P hfr hS rfl (.tmp rfl .nil) (.one (.bool hg))
  rw [Int.toNat_natCast] at hc2
  have hqi:Go.Gm.nth x i=Go.Gm.nth y i:=opD_eq hc2
  refine wp_skip (block_n (then_n ?_))
  refine region_z hS (qf (o_add .t qi) r1 qz (qM rfl rfl qZ)) hB [25,24,23,22,21,20,19,18,17,16,15,14,13,12,5,1,0] [0] rfl rfl ?_
  clear hS;intro a w F hS
  refine then_n ?_
  replace hS:=hS.ent (i:=13) (s':=.pv (.int .i64 ((i+1:Nat):Int))) rfl (.int (wrap_succ (by omega)))
  obtain ⟨F,hS⟩:=hS.nm [13,12,1,0] [0] rfl rfl
  exact ⟨i+1,F,⟨by omega,fun j hj=>by rcases Nat.lt_or_eq_of_le (Nat.le_of_lt_succ hj) with h | h;exact hq j h;rw [h];exact hqi⟩,hS,by omega⟩
 have hg:true=decide (x=y):=by
   rw [eq_comm,decide_eq_true_eq]
   exact list_same hl fun j hj=>hq j (by simp at hc1;omega)
 refine wp_exit (then_x (then_x (block_x (then_n (wp_seq ?_)))))
 refine region_z hS (qf (oN .cb) trivial qz qZ) hB [4] [0] rfl rfl ?_
 clear hS;intro a w F hS
 refine then_n (wp_ret ?_)
 refine ret_P hfr hS rfl (.tmp rfl .nil) (.one (.bool hg))
end Go.Proofs.YtcfgcpcakdknkaaGreat
namespace Go.Proofs.YtcfgcpcakdknkaaGreat
open Go Go.Gm
set_option linter.unusedVariables false
set_option linter.unusedSimpArgs false
set_option maxHeartbeats 4000000
set_option maxRecDepth 8000
theorem txD_eq (u v:TxD):((decide (u.id=v.id) && (u.done == v.done)) && decide (u.ops=v.ops))=decide (u=v):=by
 cases u;cases v
 rw [Bool.eq_iff_iff]
 simp [and_assoc]
theorem ordD_eq (u v:OrdD):(decide (u.key=v.key) && decide (u.txs=v.txs))=decide (u=v):=by
 cases u;cases v
 rw [Bool.eq_iff_iff]
 simp
theorem histD_eq (u v:HistD):(decide (u.txs=v.txs) && decide (u.orders=v.orders))=decide (u=v):=by
 cases u;cases v
 rw [Bool.eq_iff_iff]
 simp
theorem deltaD_eq (u v:DeltaD):(decide ((⟨u.was,u.old⟩:HistD) = ⟨v.was,v.old⟩) && decide ((⟨u.now,u.new⟩:HistD) = ⟨v.now,v.new⟩))=decide (u=v):=by
 cases u;cases v
 rw [Bool.eq_iff_iff]
 simp
 constructor
 · rintro ⟨⟨h1,h2⟩,h3,h4⟩;exact ⟨h1,h3,h2,h4⟩
 · rintro ⟨h1,h2,h3,h4⟩;exact ⟨⟨h1,h3⟩,h2,h4⟩
theorem sameTx_c (u v:TxD):FnP Tryz.prog 60 [.agg (rTx u),.agg (rTx v)] (.bool (decide (u=v))):=by
 refine FnP.mk Tryz.func60 rfl Tryz.ntmps60 rfl ?_
 intro B a w F hB hfr hS
 refine wp_seq ?_
 refine region_q hS (qf (oX 101 (.conv .t .agg)) r1 qz (qf (oX 102 (.conv .t .agg)) r1 qz (qf (oN .cb) trivial qz qZ))) hB ?_
 clear hS;intro a w F hS
 replace hS:=hS.sub
 obtain ⟨F,hS⟩:=hS.nm [4,3,2] [102,101,0] rfl rfl
 try dsimp only [RS.sub,SF.sub,CF.sub,csub,Anc.sub,List.map,zCF] at hS
 generalize Act.tau a 2=v2 at hS
 generalize Act.tau a 3=v3 at hS
 refine then_n (wp_seq ?_)
 refine region_z hS (qf (oF 0 101 .is) r1 r1 (qf (oL false 1 101 .adr) r1 r1 (qf (oF 0 102 .is) r1 r1 (qf (oL false 1 102 .adr) r1 r1 (qf (o_eql .t .t) r2 qz (qM rfl rfl (qk rfl (fun h=>oF 1 101 .is) r2 r1 (qk rfl (fun h=>oL false 1 101 (.w h .adr)) r2 r1 (qk rfl (fun h=>oF 1 102 .is) r2 r1 (qk rfl (fun h=>oL false 1 102 (.w h .adr)) r2 r1 (qk rfl (fun h=>o_eqlB Tryz.underlying4 (.w h) (.w h)) r3 qz (qf (o_and2 .t .t) r2 qz (qM rfl rfl (qk rfl (fun h=>oF 2 101 .is) r2 r1 (qk rfl (fun h=>oL false 1 101 (.w h .adr)) r2 r1 (qk rfl (fun h=>oF 2 102 .is) r2 r1 (qk rfl (fun h=>oL false 1 102 (.w h .adr)) r2 r1 (qk rfl (fun h=>oP (sameOps_c u.ops v.ops) Tryz.func116 (Args.two (.w h) (.w h))) r3 qz (qf (o_and2 .t .t) r2 qz (qN rfl rfl qZ)))))))))))))))))))) hB [4] [0] rfl rfl ?_
 clear hS;intro a w F hS
 refine then_n (wp_ret ?_)
 refine ret_P hfr hS rfl (.tmp rfl .nil) (.one (.bool (txD_eq u v)))
theorem sameOrder_c (u v:OrdD):FnP Tryz.prog 61 [.agg (rOrd u),.agg (rOrd v)] (.bool (decide (u=v))):=by
 refine FnP.mk Tryz.func61 rfl Tryz.ntmps61 rfl ?_
 intro B a w F hB hfr hS
 refine wp_seq ?_
 refine region_q hS (qf (oX 101 (.conv .t .agg)) r1 qz (qf (oX 102 (.conv .t .agg)) r1 qz (qf (oN .cb) trivial qz qZ))) hB ?_
 clear hS;intro a w F hS
 replace hS:=hS.sub
 obtain ⟨F,hS⟩:=hS.nm [4,3,2] [102,101,0] rfl rfl
 try dsimp only [RS.sub,SF.sub,CF.sub,csub,Anc.sub,List.map,zCF] at hS
 generalize Act.tau a 2=v2 at hS
 generalize Act.tau a 3=v3 at hS
 refine then_n (wp_seq ?_)
 refine region_z hS (qf (oF 0 101 .is) r1 r1 (qf (oL false 1 101 .adr) r1 r1 (qf (oF 0 102 .is) r1 r1 (qf (oL false 1 102 .adr) r1 r1 (qf (o_eql .t .t) r2 qz (qM rfl rfl (qk rfl (fun h=>oF 1 101 .is) r2 r1 (qk rfl (fun h=>oL false 1 101 (.w h .adr)) r2 r1 (qk rfl (fun h=>oF 1 102 .is) r2 r1 (qk rfl (fun h=>oL false 1 102 (.w h .adr)) r2 r1 (qk rfl (fun h=>oP (sameInts_c u.txs v.txs) Tryz.func32 (Args.two (.w h) (.w h))) r3 qz (qf (o_and2 .t .t) r2 qz (qN rfl rfl qZ))))))))))))) hB [4] [0] rfl rfl ?_
 clear hS;intro a w F hS
 refine then_n (wp_ret ?_)
 refine ret_P hfr hS rfl (.tmp rfl .nil) (.one (.bool (ordD_eq u v)))
end Go.Proofs.YtcfgcpcakdknkaaGreat
namespace Go.Proofs.YtcfgcpcakdknkaaGreat
open Go Go.Gm
set_option linter.unusedVariables false
set_option linter.unusedSimpArgs false
set_option maxHeartbeats 4000000
set_option maxRecDepth 8000
theorem PVs.lenAt {α:Type} {R:α→List PV} {l:List α} {v:Value} {w:World} {y:Ys} (h:(PV.sl R l).p v w y):l.length≤9223372036854775807:=by
 obtain ⟨_,cap,_,h1,h2,_⟩:=h
 unfold maxLen at h2
 omega
theorem Sat.lenHist {B:Base} {E:En} {a:Act} {w:World} {F:Fp} (h:Sat B E a w F) {i:Nat} {u:HistD} (hl:Go.Gm.look E.s i=some (SF.pv (PV.agg (rHist u)))):u.txs.length≤9223372036854775807∧u.orders.length≤9223372036854775807:=by
 obtain ⟨vs,_,hp⟩:=h.s i _ hl
 match vs,hp with
 | [x,y],hp=>exact ⟨PVs.lenAt hp.1.2,PVs.lenAt hp.2.1.2⟩
theorem sameHist_c (u v:HistD):FnP Tryz.prog 17 [.agg (rHist u),.agg (rHist v)] (.bool (decide (u=v))):=by
 refine FnP.mk Tryz.func17 rfl Tryz.ntmps17 rfl ?_
 intro B a w F hB hfr hS
 obtain ⟨hxl,hyl⟩:=Sat.lenHist hS (i:=0) rfl
 refine wp_seq ?_
 refine region_q hS (qf (oX 101 (.conv .t .agg)) r1 qz (qf (oX 102 (.conv .t .agg)) r1 qz (qf (oN .cb) trivial qz qZ))) hB ?_
 clear hS;intro a w F hS
 replace hS:=hS.sub
 obtain ⟨F,hS⟩:=hS.nm [4,3,2] [102,101,0] rfl rfl
 try dsimp only [RS.sub,SF.sub,CF.sub,csub,Anc.sub,List.map,zCF] at hS
 generalize Act.tau a 2=v2 at hS
 generalize Act.tau a 3=v3 at hS
 refine then_n (wp_seq (wp_seq ?_))
 refine region_z hS (qf (oF 0 101 .is) r1 r1 (qf (oL false 1 101 .adr) r1 r1 (qf (o_len_sl Tryz.underlying27 .t) r1 qz (qf (oF 0 102 .is) r1 r1 (qf (oL false 1 102 .adr) r1 r1 (qf (o_len_sl Tryz.underlying27 .t) r1 qz (qf (o_neq .t .t) r2 qz (qM rfl rfl (qk rfl (fun h=>oF 1 101 .is) r2 r1 (qk rfl (fun h=>oL false 1 101 (.w h .adr)) r2 r1 (qk rfl (fun h=>o_len_sl Tryz.underlying28 (.w h)) r2 qz (qk rfl (fun h=>oF 1 102 .is) r2 r1 (qk rfl (fun h=>oL false 1 102 (.w h .adr)) r2 r1 (qk rfl (fun h=>o_len_sl Tryz.underlying28 (.w h)) r2 qz (qk rfl (fun h=>o_neq (.w h) (.w h)) r3 qz (qf (o_or2 .t .t) r2 qz qZ)))))))))))))))) hB [22,4,3,2] [102,101,0] rfl rfl ?_
 clear hS;intro a w F hS
 skip
 refine then_n ?_
 refine cond_b hS rfl (fun hc0=>?_) (fun hc0=>?_)
 ·skip
  have hg:false=decide (u=v):=by
    rw [eq_comm,decide_eq_false_iff_not]
    intro h
    subst h
    simp at hc0
  refine wp_seq ?_
  refine region_z hS (qf (oN .cb) trivial qz qZ) hB [4,3,2] [102,101,0] rfl rfl ?_
  clear hS;intro a w F hS
  refine then_n (wp_ret (then_r ?_))
  refine ret_P hfr hS rfl (.tmp rfl .nil) (.one (.bool hg))
 have hTl:u.txs.length=v.txs.length:=by simp at hc0;omega
 have hOl:u.orders.length=v.orders.length:=by simp at hc0;omega
 refine wp_skip (then_n (wp_seq (wp_seq ?_)))
 refine region_z hS (qf (oF 0 101 .is) r1 r1 (qf (oL false 1 101 .adr) r1 r1 (qf (o_len_sl Tryz.underlying27 .t) r1 qz (qf (oM qi) trivial qz qZ)))) hB [26,25,4,3,2] [102,101,0] rfl rfl ?_
 clear hS;intro a w F hS
 refine then_n (wp_block ?_)
 obtain ⟨F,hS⟩:=hS.nm [26,25,3,2] [102,101,0] rfl rfl
 refine loop_inv (σ:=Nat) (fun s=>(⟨[(2,.pv (.is v2)),(3,.pv (.is v3)),(25,.pv (.int .i64 u.txs.length)),(26,.pv (.int .i64 s))],[(0,frame B),(101,.pt (.val v2) 30 [.pv (.sl rTx u.txs),.pv (.sl rOrd u.orders)]),(102,.pt (.val v3) 30 [.pv (.sl rTx v.txs),.pv (.sl rOrd v.orders)])]⟩:En)) (fun s=>s≤u.txs.length ∧ ∀ j,j<s→Go.Gm.nth u.txs j=Go.Gm.nth v.txs j) (fun s=>u.txs.length - s) 0 hS ⟨Nat.zero_le _,fun j hj=>absurd hj (Nat.not_lt_zero j)⟩ ?_
 clear hS;intro i a w F hC hS
 try dsimp only at hC
 try dsimp only at hS
 obtain ⟨hi,hq⟩:=hC
 refine wp_seq ?_
 refine region_z hS (qf (o_lss .t .t) r2 qz qZ) hB [27,26,25,3,2] [102,101,0] rfl rfl ?_
 clear hS;intro a w F hS
 refine then_n (wp_seq ?_)
 refine cond_b hS rfl (fun hc1=>?_) (fun hc1=>?_)
 ·skip
  have hil:i<u.txs.length:=by simp at hc1;omega
  refine wp_skip (then_n (wp_seq (wp_block (wp_seq ?_))))
  refine region_z hS (qM rfl rfl (qN rfl rfl qZ)) hB [28,27,26,25,5,3,2] [102,101,0] rfl rfl ?_
  clear hS;intro a w F hS
  refine then_n (wp_seq ?_)
  refine region_any (by kernel_rfl) hS (by kernel_rfl) (qf (oF 0 101 .is) r1 r1 (qf (oL false 1 101 .adr) r1 r1 (qM rfl rfl (qf (o_indexAddr_sl (sz:=3) (.mk Tryz.underlying27 (by kernel_rfl)) (by intro x;rfl) .t .t (by omega) (by omega)) r2 qz (qf (oR true 3 .t) r1 qz (qf (oF 0 102 .is) r1 r1 (qf (oL false 1 102 .adr) r1 r1 (qM rfl rfl (qf (o_indexAddr_sl (sz:=3) (.mk Tryz.underlying27 (by kernel_rfl)) (by intro x;rfl) .t .t (by omega) (by omega)) r2 qz (qf (oR true 3 .t) r1 qz (qf (oP (sameTx_c (Go.Gm.nth u.txs (i:Int).toNat) (Go.Gm.nth v.txs (i:Int).toNat)) Tryz.func60 (Args.two (.pagg .t) (.pagg .t))) r2 qz (qf (o_not .t) r1 qz qZ)))))))))))) (by kernel_rfl) (by rw [hB];kernel_rfl) ?_
  clear hS;intro a w F hS
  obtain ⟨F,hS⟩:=hS.nm [40,39,38,37,36,35,34,33,32,31,30,29,28,27,26,25,5,3,2] [102,101,0] rfl rfl
  try dsimp only [List.map,xD,xE,xT,xU,ldSF] at hS
  refine then_n ?_
  refine cond_b hS rfl (fun hc2=>?_) (fun hc2=>?_)
  ·skip
   have hg:false=decide (u=v):=by
     rw [eq_comm,decide_eq_false_iff_not]
     intro h
     subst h
     simp at hc2
   refine wp_seq ?_
   refine region_z hS (qf (oN .cb) trivial qz qZ) hB [40,39,38,37,36,35,34,33,32,31,30,29,28,27,26,25,5,4,3,2] [102,101,0] rfl rfl ?_
   clear hS;intro a w F hS
   refine then_n (wp_ret (block_r (then_r (then_r (block_r (then_r ?_))))))
   refine ret_P hfr hS rfl (.tmp rfl .nil) (.one (.bool hg))
  rw [Int.toNat_natCast] at hc2
  have hqi:Go.Gm.nth u.txs i=Go.Gm.nth v.txs i:=by simpa using hc2
  refine wp_skip (block_n (then_n ?_))
  refine region_z hS (qf (o_add .t qi) r1 qz (qM rfl rfl qZ)) hB [41,40,39,38,37,36,35,34,33,32,31,30,29,28,27,26,25,5,3,2] [102,101,0] rfl rfl ?_
  clear hS;intro a w F hS
  refine then_n ?_
  replace hS:=hS.ent (i:=26) (s':=.pv (.int .i64 ((i+1:Nat):Int))) rfl (.int (wrap_succ (by omega)))
  obtain ⟨F,hS⟩:=hS.nm [26,25,3,2] [102,101,0] rfl rfl
  exact ⟨i+1,F,⟨by omega,fun j hj=>by rcases Nat.lt_or_eq_of_le (Nat.le_of_lt_succ hj) with h | h;exact hq j h;rw [h];exact hqi⟩,hS,by omega⟩
 have hT:u.txs=v.txs:=list_same hTl fun j hj=>hq j (by simp at hc1;omega)
 clear hq hi
 refine wp_exit (then_x (then_x (block_x (then_n (wp_seq (wp_seq ?_))))))
 refine region_z hS (qf (oF 1 101 .is) r1 r1 (qf (oL false 1 101 .adr) r1 r1 (qf (o_len_sl Tryz.underlying28 .t) r1 qz (qf (oM qi) trivial qz qZ)))) hB [45,44,3,2] [102,101,0] rfl rfl ?_
 clear hS;intro a w F hS
 refine then_n (wp_block ?_)
 obtain ⟨F,hS⟩:=hS.nm [45,44,3,2] [102,101,0] rfl rfl
 refine loop_inv (σ:=Nat) (fun s=>(⟨[(2,.pv (.is v2)),(3,.pv (.is v3)),(44,.pv (.int .i64 u.orders.length)),(45,.pv (.int .i64 s))],[(0,frame B),(101,.pt (.val v2) 30 [.pv (.sl rTx u.txs),.pv (.sl rOrd u.orders)]),(102,.pt (.val v3) 30 [.pv (.sl rTx v.txs),.pv (.sl rOrd v.orders)])]⟩:En)) (fun s=>s≤u.orders.length ∧ ∀ j,j<s→Go.Gm.nth u.orders j=Go.Gm.nth v.orders j) (fun s=>u.orders.length - s) 0 hS ⟨Nat.zero_le _,fun j hj=>absurd hj (Nat.not_lt_zero j)⟩ ?_
 clear hS;intro i a w F hC hS
 try dsimp only at hC
 try dsimp only at hS
 obtain ⟨hi,hq⟩:=hC
 refine wp_seq ?_
 refine region_z hS (qf (o_lss .t .t) r2 qz qZ) hB [46,45,44,3,2] [102,101,0] rfl rfl ?_
 clear hS;intro a w F hS
 refine then_n (wp_seq ?_)
 refine cond_b hS rfl (fun hc3=>?_) (fun hc3=>?_)
 ·skip
  have hil:i<u.orders.length:=by simp at hc3;omega
  refine wp_skip (then_n (wp_seq (wp_block (wp_seq ?_))))
  refine region_z hS (qM rfl rfl (qN rfl rfl qZ)) hB [47,46,45,44,6,3,2] [102,101,0] rfl rfl ?_
  clear hS;intro a w F hS
  skip
  refine then_n (wp_seq ?_)
  refine region_any (by kernel_rfl) hS (by kernel_rfl) (qf (oF 1 101 .is) r1 r1 (qf (oL false 1 101 .adr) r1 r1 (qM rfl rfl (qf (o_indexAddr_sl (sz:=2) (.mk Tryz.underlying28 (by kernel_rfl)) (by intro x;rfl) .t .t (by omega) (by omega)) r2 qz (qf (oR true 2 .t) r1 qz (qf (oF 1 102 .is) r1 r1 (qf (oL false 1 102 .adr) r1 r1 (qM rfl rfl (qf (o_indexAddr_sl (sz:=2) (.mk Tryz.underlying28 (by kernel_rfl)) (by intro x;rfl) .t .t (by omega) (by omega)) r2 qz (qf (oR true 2 .t) r1 qz (qf (oP (sameOrder_c (Go.Gm.nth u.orders (i:Int).toNat) (Go.Gm.nth v.orders (i:Int).toNat)) Tryz.func61 (Args.two (.pagg .t) (.pagg .t))) r2 qz (qf (o_not .t) r1 qz qZ)))))))))))) (by kernel_rfl) (by rw [hB];kernel_rfl) ?_
  clear hS;intro a w F hS
  obtain ⟨F,hS⟩:=hS.nm [59,58,57,56,55,54,53,52,51,50,49,48,47,46,45,44,6,3,2] [102,101,0] rfl rfl
  try dsimp only [List.map,xD,xE,xT,xU,ldSF] at hS
  refine then_n ?_
  refine cond_b hS rfl (fun hc4=>?_) (fun hc4=>?_)
  ·skip
   have hg:false=decide (u=v):=by
     rw [eq_comm,decide_eq_false_iff_not]
     intro h
     subst h
     simp at hc4
   refine wp_seq ?_
   refine region_z hS (qf (oN .cb) trivial qz qZ) hB [59,58,57,56,55,54,53,52,51,50,49,48,47,46,45,44,6,4,3,2] [102,101,0] rfl rfl ?_
   clear hS;intro a w F hS
   refine then_n (wp_ret (block_r (then_r (then_r (block_r (then_r ?_))))))
   refine ret_P hfr hS rfl (.tmp rfl .nil) (.one (.bool hg))
  rw [Int.toNat_natCast] at hc4
  have hqi:Go.Gm.nth u.orders i=Go.Gm.nth v.orders i:=by simpa using hc4
  refine wp_skip (block_n (then_n ?_))
  refine region_z hS (qf (o_add .t qi) r1 qz (qM rfl rfl qZ)) hB [60,59,58,57,56,55,54,53,52,51,50,49,48,47,46,45,44,6,3,2] [102,101,0] rfl rfl ?_
  clear hS;intro a w F hS
  refine then_n ?_
  replace hS:=hS.ent (i:=45) (s':=.pv (.int .i64 ((i+1:Nat):Int))) rfl (.int (wrap_succ (by omega)))
  obtain ⟨F,hS⟩:=hS.nm [45,44,3,2] [102,101,0] rfl rfl
  exact ⟨i+1,F,⟨by omega,fun j hj=>by rcases Nat.lt_or_eq_of_le (Nat.le_of_lt_succ hj) with h | h;exact hq j h;rw [h];exact hqi⟩,hS,by omega⟩
 have hO:u.orders=v.orders:=list_same hOl fun j hj=>hq j (by simp at hc3;omega)
 have hg:true=decide (u=v):=by
   rw [← histD_eq,hT,hO]
   simp
 refine wp_exit (then_x (then_x (block_x (then_n (wp_seq ?_)))))
 refine region_z hS (qf (oN .cb) trivial qz qZ) hB [4] [0] rfl rfl ?_
 clear hS;intro a w F hS
 refine then_n (wp_ret ?_)
 refine ret_P hfr hS rfl (.tmp rfl .nil) (.one (.bool hg))
theorem sameDelta_c (u v:DeltaD):FnP Tryz.prog 27 [.agg (rDelta u),.agg (rDelta v)] (.bool (decide (u=v))):=by
 refine FnP.mk Tryz.func27 rfl Tryz.ntmps27 rfl ?_
 intro B a w F hB hfr hS
 refine wp_seq ?_
 refine region_q hS (qf (oX 101 (.conv .t .agg)) r1 qz (qf (oX 102 (.conv .t .agg)) r1 qz (qf (oN .cb) trivial qz qZ))) hB ?_
 clear hS;intro a w F hS
 replace hS:=hS.sub
 obtain ⟨F,hS⟩:=hS.nm [4,3,2] [102,101,0] rfl rfl
 try dsimp only [RS.sub,SF.sub,CF.sub,csub,Anc.sub,List.map,zCF] at hS
 generalize Act.tau a 2=v2 at hS
 generalize Act.tau a 3=v3 at hS
 refine then_n (wp_seq ?_)
 refine region_z hS (qf (oF 0 101 .is) r1 r1 (qf (oL false 1 101 .adr) r1 r1 (qf (oF 2 101 .is) r1 r1 (qf (oL false 1 101 .adr) r1 r1 (qf (oB [(0,.tmp 6),(1,.tmp 8)] [.slice none 0 0,.slice none 0 0] [(0,1),(1,1)] (.one rfl .t one_sl (by kernel_rfl) (.one rfl .t one_sl (by kernel_rfl) .nil))) r2 qz (qf (oF 0 102 .is) r1 r1 (qf (oL false 1 102 .adr) r1 r1 (qf (oF 2 102 .is) r1 r1 (qf (oL false 1 102 .adr) r1 r1 (qf (oB [(0,.tmp 11),(1,.tmp 13)] [.slice none 0 0,.slice none 0 0] [(0,1),(1,1)] (.one rfl .t one_sl (by kernel_rfl) (.one rfl .t one_sl (by kernel_rfl) .nil))) r2 qz (qf (oP (sameHist_c ⟨u.was,u.old⟩ ⟨v.was,v.old⟩) Tryz.func17 (Args.two (.pagg .t) (.pagg .t))) r2 qz (qM rfl rfl (qk rfl (fun h=>oF 1 101 .is) r2 r1 (qk rfl (fun h=>oL false 1 101 (.w h .adr)) r2 r1 (qk rfl (fun h=>oF 3 101 .is) r2 r1 (qk rfl (fun h=>oL false 1 101 (.w h .adr)) r2 r1 (qk rfl (fun h=>o_build (r:=[(0,.tmp 18),(1,.tmp 20)]) (zs:=[.slice none 0 0,.slice none 0 0]) (pl:=[(0,1),(1,1)]) (by kernel_rfl) (by kernel_rfl) (.one rfl (.w h) one_sl (by kernel_rfl) (.one rfl (.w h) one_sl (by kernel_rfl) .nil)) (by rfl)) r3 qz (qk rfl (fun h=>oF 1 102 .is) r2 r1 (qk rfl (fun h=>oL false 1 102 (.w h .adr)) r2 r1 (qk rfl (fun h=>oF 3 102 .is) r2 r1 (qk rfl (fun h=>oL false 1 102 (.w h .adr)) r2 r1 (qk rfl (fun h=>o_build (r:=[(0,.tmp 23),(1,.tmp 25)]) (zs:=[.slice none 0 0,.slice none 0 0]) (pl:=[(0,1),(1,1)]) (by kernel_rfl) (by kernel_rfl) (.one rfl (.w h) one_sl (by kernel_rfl) (.one rfl (.w h) one_sl (by kernel_rfl) .nil)) (by rfl)) r3 qz (qk rfl (fun h=>oP (sameHist_c ⟨u.now,u.new⟩ ⟨v.now,v.new⟩) Tryz.func17 (Args.two (.pagg (.w h)) (.pagg (.w h)))) r3 qz (qf (o_and2 .t .t) r2 qz (qN rfl rfl qZ))))))))))))))))))))))))) hB [4] [0] rfl rfl ?_
 clear hS;intro a w F hS
 refine then_n (wp_ret ?_)
 refine ret_P hfr hS rfl (.tmp rfl .nil) (.one (.bool (deltaD_eq u v)))
end Go.Proofs.YtcfgcpcakdknkaaGreat
namespace Go.Proofs.YtcfgcpcakdknkaaGreat
open Go Go.Gm
set_option linter.unusedVariables false
set_option linter.unusedSimpArgs false
set_option maxHeartbeats 4000000
set_option maxRecDepth 8000
theorem cloneOps_c (x:List OpD) (hx:x.length≤1000000):FnP Tryz.prog 114 [.sl rOp x] (.sl rOp x):=by
 refine FnP.mk Tryz.func114 rfl Tryz.ntmps114 rfl ?_
 intro B a w F hB hfr hS
 refine wp_seq ?_
 refine region_z hS (qf (oN (.c rfl)) trivial qz qZ) hB [2,0] [0] rfl rfl ?_
 clear hS;intro a w F hS
 refine then_n (wp_seq (wp_seq ?_))
 refine region_z hS (qM rfl rfl (qf (o_eql_nilsl Tryz.underlying32 .t) r1 qz qZ)) hB [4,2,0] [0] rfl rfl ?_
 clear hS;intro a w F hS
 obtain ⟨β4,hβ4,hS⟩:=hS.pickBool 4 rfl
 obtain ⟨F,hS⟩:=hS.nm [4,2,0] [0] rfl rfl
 refine then_n ?_
 refine cond_b hS rfl (fun hc0=>?_) (fun hc0=>?_)
 ·skip
  refine wp_seq ?_
  refine region_z hS (qf (oN (.c rfl)) trivial qz qZ) hB [2,0] [0] rfl rfl ?_
  clear hS;intro a w F hS
  refine then_n (wp_ret (then_r ?_))
  replace hS:=hS.ent (i:=2) (s':=.pv (.sl rOp x)) rfl (by rw [hβ4 (by simpa using hc0)];exact .nilSl)
  refine ret_P hfr hS rfl (.tmp rfl .nil) (.one .refl)
 refine wp_skip (then_n (wp_seq ?_))
 refine region_q hS (qf (o_buildSlice0 (R:=rOp) (sz:=4) 101 Tryz.underlying32 (by kernel_rfl)) trivial qz (qM rfl rfl (qf (o_append (sz:=4) (bs:=32) 101 (.mk' Tryz.underlying32 (by kernel_rfl) (by kernel_rfl)) (by intro x;rfl) .same (.sl .t) (by simp only [List.length_nil];omega) (by decide)) ⟨rfl,rfl,trivial⟩ ⟨rfl,trivial⟩ (qN rfl rfl qZ)))) hB ?_
 clear hS;intro a w F hS
 replace hS:=hS.sub
 obtain ⟨F,hS⟩:=hS.nm [2] [101,0] rfl rfl
 try dsimp only [RS.sub,SF.sub,CF.sub,csub,Anc.sub,List.map,stCells,xL,xM,Nat.reduceAdd,xD,xE,xT,xU,xC,xN,zCF] at hS
 generalize Act.tau a 7=v7 at hS
 refine then_n (wp_ret ?_)
 obtain ⟨F,hS⟩:=hS.give 101 2 rfl rfl
 refine ret_P hfr hS rfl (.tmp rfl .nil) (.one .refl)
theorem cloneInts_c (x:List Int) (hx:x.length≤1000000):FnP Tryz.prog 115 [.sl rInt x] (.sl rInt x):=by
 refine FnP.mk Tryz.func115 rfl Tryz.ntmps115 rfl ?_
 intro B a w F hB hfr hS
 refine wp_seq ?_
 refine region_z hS (qf (oN (.c rfl)) trivial qz qZ) hB [2,0] [0] rfl rfl ?_
 clear hS;intro a w F hS
 refine then_n (wp_seq (wp_seq ?_))
 refine region_z hS (qM rfl rfl (qf (o_eql_nilsl Tryz.underlying35 .t) r1 qz qZ)) hB [4,2,0] [0] rfl rfl ?_
 clear hS;intro a w F hS
 obtain ⟨β4,hβ4,hS⟩:=hS.pickBool 4 rfl
 obtain ⟨F,hS⟩:=hS.nm [4,2,0] [0] rfl rfl
 refine then_n ?_
 refine cond_b hS rfl (fun hc0=>?_) (fun hc0=>?_)
 ·skip
  refine wp_seq ?_
  refine region_z hS (qf (oN (.c rfl)) trivial qz qZ) hB [2,0] [0] rfl rfl ?_
  clear hS;intro a w F hS
  refine then_n (wp_ret (then_r ?_))
  replace hS:=hS.ent (i:=2) (s':=.pv (.sl rInt x)) rfl (by rw [hβ4 (by simpa using hc0)];exact .nilSl)
  refine ret_P hfr hS rfl (.tmp rfl .nil) (.one .refl)
 refine wp_skip (then_n (wp_seq ?_))
 refine region_q hS (qf (o_buildSlice0 (R:=rInt) (sz:=1) 101 Tryz.underlying35 (by kernel_rfl)) trivial qz (qM rfl rfl (qf (o_append (sz:=1) (bs:=8) 101 (.mk' Tryz.underlying35 (by kernel_rfl) (by kernel_rfl)) (by intro x;rfl) .same (.sl .t) (by simp only [List.length_nil];omega) (by decide)) ⟨rfl,rfl,trivial⟩ ⟨rfl,trivial⟩ (qN rfl rfl qZ)))) hB ?_
 clear hS;intro a w F hS
 replace hS:=hS.sub
 obtain ⟨F,hS⟩:=hS.nm [2] [101,0] rfl rfl
 try dsimp only [RS.sub,SF.sub,CF.sub,csub,Anc.sub,List.map,stCells,xL,xM,Nat.reduceAdd,xD,xE,xT,xU,xC,xN,zCF] at hS
 generalize Act.tau a 7=v7 at hS
 refine then_n (wp_ret ?_)
 obtain ⟨F,hS⟩:=hS.give 101 2 rfl rfl
 refine ret_P hfr hS rfl (.tmp rfl .nil) (.one .refl)
end Go.Proofs.YtcfgcpcakdknkaaGreat
namespace Go.Proofs.YtcfgcpcakdknkaaGreat
open Go Go.Gm
set_option linter.unusedVariables false
set_option linter.unusedSimpArgs false
set_option maxHeartbeats 4000000
set_option maxRecDepth 8000
theorem txs_c (x:List TxD) (hx:x.length≤1000000) (hx2:∀ t ∈ x,t.ops.length≤1000000):FnP Tryz.prog 58 [.sl rTx x] (.sl rTx x):=by
 refine FnP.mk Tryz.func58 rfl Tryz.ntmps58 rfl ?_
 intro B a w F hB hfr hS
 refine wp_seq ?_
 refine region_z hS (qf (oN (.c rfl)) trivial qz qZ) hB [2,0] [0] rfl rfl ?_
 clear hS;intro a w F hS
 refine then_n (wp_seq ?_)
 refine region_z hS (qf (oN (.c rfl)) trivial qz qZ) hB [3,2,0] [0] rfl rfl ?_
 clear hS;intro a w F hS
 refine then_n (wp_seq (wp_seq ?_))
 refine region_z hS (qM rfl rfl (qf (o_len_sl Tryz.underlying27 .t) r1 qz (qf (oM qi) trivial qz qZ))) hB [8,7,6,3,2] [0] rfl rfl ?_
 clear hS;intro a w F hS
 refine then_n (wp_block ?_)
 replace hS:=hS.fresh 50 rfl
 replace hS:=hS.turn 50 rfl (nilRow (T:=34) (sz:=3) (R:=rTx))
 obtain ⟨F,hS⟩:=hS.nm [8,7,6,3] [50,0] rfl rfl
 refine loop_inv (σ:=(Nat×Value)) (fun s=>(⟨[(3,.pv (.is s.2)),(6,.pv (.sl rTx x)),(7,.pv (.int .i64 x.length)),(8,.pv (.int .i64 s.1))],[(0,frame B),(50,RS.ob (.val s.2) (rowH 34 3 rTx (x.take s.1)))]⟩:En)) (fun s=>s.1≤x.length) (fun s=>x.length - s.1) (0,.slice none 0 0) hS (Nat.zero_le _) ?_
 clear hS;intro s a w F hC hS
 obtain ⟨i,v⟩:=s
 try dsimp only at hC
 try dsimp only at hS
 have hi:i≤x.length:=hC
 refine wp_seq ?_
 refine region_z hS (qf (o_lss .t .t) r2 qz qZ) hB [9,8,7,6,3] [50,0] rfl rfl ?_
 clear hS;intro a w F hS
 refine then_n (wp_seq ?_)
 refine cond_b hS rfl (fun hc0=>?_) (fun hc0=>?_)
 ·skip
  have hil:i<x.length:=by simp at hc0;omega
  refine wp_skip (then_n (wp_seq (wp_block (wp_seq ?_))))
  refine region_q hS (qf (o_indexAddr_sl (sz:=3) (.mk Tryz.underlying27 (by kernel_rfl)) (by intro x;rfl) .t .t (by omega) (by omega)) r2 qz (qf (oR true 3 .t) r1 qz (qf (oH [.int .i64 0,.bool false,.slice none 0 0] 101) trivial qz (qf (oA 3 101 .same .t) r2 r1 qZ)))) hB ?_
  clear hS;intro a w F hS
  replace hS:=hS.sub
  obtain ⟨F,hS⟩:=hS.nm [11,10,9,8,7,6,5,3] [101,50,0] rfl rfl
  try dsimp only [RS.sub,SF.sub,CF.sub,csub,Anc.sub,List.map,stCells,xL,xM,Nat.reduceAdd,xD,xE,xT,xU,xC,xN,zCF,ldSF] at hS
  generalize Act.tau a 5=v5 at hS
  rw [Int.toNat_natCast] at hS
  have hcl:=hx2 _ (nth_mem hil)
  refine then_n (wp_seq ?_)
  refine region_z hS (qf (oF 2 101 .is) r1 r1 (qf (oL false 1 101 .adr) r1 r1 (qf (oP (cloneOps_c (Go.Gm.nth x i).ops hcl) Tryz.func114 (Args.one .t)) r1 qz (qf (oF 2 101 .is) r1 r1 (qf (o_store1 101 .adr .t one_sl (by kernel_rfl) (by kernel_rfl)) r2 r1 qZ))))) hB [15,14,13,12,11,10,9,8,7,6,5,3] [101,50,0] rfl rfl ?_
  clear hS;intro a w F hS
  refine then_n ?_
  refine region_q hS (qM rfl rfl (qf (oL true 3 101 .is) r1 r1 (qf (o_buildSliceE (sz:=3) (zs:=[.int .i64 0,.bool false,.slice none 0 0]) (r:=[(0,.tmp 17)]) (l:=[_,_,_]) Tryz.underlying27 (by kernel_rfl) (by kernel_rfl) (by kernel_rfl) (by kernel_rfl) rfl rfl (.agg rfl .t (by kernel_rfl) (by kernel_rfl) .nil) rfl) r1 qz (qf (o_append (sz:=3) (bs:=40) 50 (.mk' Tryz.underlying27 (by kernel_rfl) (by kernel_rfl)) (by intro x;rfl) .is (.arr (l':=[Go.Gm.nth x i]) .t) (by simp only [List.length_cons,List.length_nil,List.length_take];omega) (by decide)) ⟨rfl,rfl,trivial⟩ ⟨rfl,trivial⟩ (qN rfl rfl qZ))))) hB ?_
  clear hS;intro a w F hS
  replace hS:=hS.sub
  obtain ⟨F,hS⟩:=hS.nm [19,18,17,16,15,14,13,12,11,10,9,8,7,6,5,3] [101,50,0] rfl rfl
  try dsimp only [RS.sub,SF.sub,CF.sub,csub,Anc.sub,List.map,stCells,xL,xM,Nat.reduceAdd,xD,xE,xT,xU,xC,xN,zCF,ldSF] at hS
  generalize Act.tau a 19=v19 at hS
  refine block_n (then_n ?_)
  refine region_z hS (qf (o_add .t qi) r1 qz (qM rfl rfl qZ)) hB [20,19,18,17,16,15,14,13,12,11,10,9,8,7,6,5,3] [101,50,0] rfl rfl ?_
  clear hS;intro a w F hS
  refine then_n ?_
  rw [take_next hil] at hS
  replace hS:=hS.ent (i:=8) (s':=.pv (.int .i64 ((i+1:Nat):Int))) rfl (.int (wrap_succ (by omega)))
  obtain ⟨F,hS⟩:=hS.nm [8,7,6,3] [50,0] rfl rfl
  exact ⟨(i+1,v19),F,by dsimp only;omega,hS,by dsimp only;omega⟩
 have hil:i=x.length:=by simp at hc0;omega
 rw [show x.take i=x by rw [hil,List.take_length]] at hS
 refine wp_exit (then_x (then_x (block_x (then_n (wp_seq ?_)))))
 refine region_z hS (qM rfl rfl (qN rfl rfl qZ)) hB [2] [50,0] rfl rfl ?_
 clear hS;intro a w F hS
 refine then_n (wp_ret ?_)
 obtain ⟨F,hS⟩:=hS.give 50 2 rfl rfl
 refine ret_P hfr hS rfl (.tmp rfl .nil) (.one .refl)
theorem orders_c (x:List OrdD) (hx:x.length≤1000000) (hx2:∀ t ∈ x,t.txs.length≤1000000):FnP Tryz.prog 59 [.sl rOrd x] (.sl rOrd x):=by
 refine FnP.mk Tryz.func59 rfl Tryz.ntmps59 rfl ?_
 intro B a w F hB hfr hS
 refine wp_seq ?_
 refine region_z hS (qf (oN (.c rfl)) trivial qz qZ) hB [2,0] [0] rfl rfl ?_
 clear hS;intro a w F hS
 refine then_n (wp_seq ?_)
 refine region_z hS (qf (oN (.c rfl)) trivial qz qZ) hB [3,2,0] [0] rfl rfl ?_
 clear hS;intro a w F hS
 refine then_n (wp_seq (wp_seq ?_))
 refine region_z hS (qM rfl rfl (qf (o_len_sl Tryz.underlying28 .t) r1 qz (qf (oM qi) trivial qz qZ))) hB [8,7,6,3,2] [0] rfl rfl ?_
 clear hS;intro a w F hS
 refine then_n (wp_block ?_)
 replace hS:=hS.fresh 50 rfl
 replace hS:=hS.turn 50 rfl (nilRow (T:=37) (sz:=2) (R:=rOrd))
 obtain ⟨F,hS⟩:=hS.nm [8,7,6,3] [50,0] rfl rfl
 refine loop_inv (σ:=(Nat×Value)) (fun s=>(⟨[(3,.pv (.is s.2)),(6,.pv (.sl rOrd x)),(7,.pv (.int .i64 x.length)),(8,.pv (.int .i64 s.1))],[(0,frame B),(50,RS.ob (.val s.2) (rowH 37 2 rOrd (x.take s.1)))]⟩:En)) (fun s=>s.1≤x.length) (fun s=>x.length - s.1) (0,.slice none 0 0) hS (Nat.zero_le _) ?_
 clear hS;intro s a w F hC hS
 obtain ⟨i,v⟩:=s
 try dsimp only at hC
 try dsimp only at hS
 have hi:i≤x.length:=hC
 refine wp_seq ?_
 refine region_z hS (qf (o_lss .t .t) r2 qz qZ) hB [9,8,7,6,3] [50,0] rfl rfl ?_
 clear hS;intro a w F hS
 refine then_n (wp_seq ?_)
 refine cond_b hS rfl (fun hc0=>?_) (fun hc0=>?_)
 ·skip
  have hil:i<x.length:=by simp at hc0;omega
  refine wp_skip (then_n (wp_seq (wp_block (wp_seq ?_))))
  refine region_q hS (qf (o_indexAddr_sl (sz:=2) (.mk Tryz.underlying28 (by kernel_rfl)) (by intro x;rfl) .t .t (by omega) (by omega)) r2 qz (qf (oR true 2 .t) r1 qz (qf (oH [.int .i64 0,.slice none 0 0] 101) trivial qz (qf (oA 2 101 .same .t) r2 r1 qZ)))) hB ?_
  clear hS;intro a w F hS
  replace hS:=hS.sub
  obtain ⟨F,hS⟩:=hS.nm [11,10,9,8,7,6,5,3] [101,50,0] rfl rfl
  try dsimp only [RS.sub,SF.sub,CF.sub,csub,Anc.sub,List.map,stCells,xL,xM,Nat.reduceAdd,xD,xE,xT,xU,xC,xN,zCF,ldSF] at hS
  generalize Act.tau a 5=v5 at hS
  rw [Int.toNat_natCast] at hS
  have hcl:=hx2 _ (nth_mem hil)
  refine then_n ?_
  refine region_any (by kernel_rfl) hS (by kernel_rfl) (qM rfl rfl (qf (oF 0 101 .is) r1 r1 (qf (oL false 1 101 .adr) r1 r1 (qf (oF 1 101 .is) r1 r1 (qf (oL false 1 101 .adr) r1 r1 (qf (oP (cloneInts_c (Go.Gm.nth x i).txs hcl) Tryz.func115 (Args.one .t)) r1 qz (qf (oB [(0,.tmp 14),(1,.tmp 17)] [.int .i64 0,.slice none 0 0] [(0,1),(1,1)] (.one rfl .t one_int (by kernel_rfl) (.one rfl .t one_sl (by kernel_rfl) .nil))) r2 qz (qf (o_buildSliceE (sz:=2) (zs:=[.int .i64 0,.slice none 0 0]) (r:=[(0,.tmp 18)]) (l:=[_,_]) Tryz.underlying28 (by kernel_rfl) (by kernel_rfl) (by kernel_rfl) (by kernel_rfl) rfl rfl (.agg rfl .t (by kernel_rfl) (by kernel_rfl) .nil) rfl) r1 qz (qf (o_append (sz:=2) (bs:=32) 50 (.mk' Tryz.underlying28 (by kernel_rfl) (by kernel_rfl)) (by intro x;rfl) .is (.arr (l':=[Go.Gm.nth x i]) .t) (by simp only [List.length_cons,List.length_nil,List.length_take];omega) (by decide)) ⟨rfl,rfl,trivial⟩ ⟨rfl,trivial⟩ (qN rfl rfl qZ)))))))))) (by kernel_rfl) (by rw [hB];kernel_rfl) ?_
  clear hS;intro a w F hS
  replace hS:=hS.sub
  obtain ⟨F,hS⟩:=hS.nm [20,19,18,17,16,15,14,13,12,11,10,9,8,7,6,5,3] [101,50,0] rfl rfl
  try dsimp only [RS.sub,SF.sub,CF.sub,csub,Anc.sub,List.map,stCells,xL,xM,Nat.reduceAdd,xD,xE,xT,xU,xC,xN,zCF,ldSF] at hS
  generalize Act.tau a 20=v20 at hS
  refine block_n (then_n ?_)
  refine region_z hS (qf (o_add .t qi) r1 qz (qM rfl rfl qZ)) hB [21,20,19,18,17,16,15,14,13,12,11,10,9,8,7,6,5,3] [101,50,0] rfl rfl ?_
  clear hS;intro a w F hS
  refine then_n ?_
  rw [take_next hil] at hS
  replace hS:=hS.ent (i:=8) (s':=.pv (.int .i64 ((i+1:Nat):Int))) rfl (.int (wrap_succ (by omega)))
  obtain ⟨F,hS⟩:=hS.nm [8,7,6,3] [50,0] rfl rfl
  exact ⟨(i+1,v20),F,by dsimp only;omega,hS,by dsimp only;omega⟩
 have hil:i=x.length:=by simp at hc0;omega
 rw [show x.take i=x by rw [hil,List.take_length]] at hS
 refine wp_exit (then_x (then_x (block_x (then_n (wp_seq ?_)))))
 refine region_z hS (qM rfl rfl (qN rfl rfl qZ)) hB [2] [50,0] rfl rfl ?_
 clear hS;intro a w F hS
 refine then_n (wp_ret ?_)
 obtain ⟨F,hS⟩:=hS.give 50 2 rfl rfl
 refine ret_P hfr hS rfl (.tmp rfl .nil) (.one .refl)
end Go.Proofs.YtcfgcpcakdknkaaGreat
namespace Go.Proofs.YtcfgcpcakdknkaaGreat
open Go Go.Gm
set_option linter.unusedVariables false
set_option linter.unusedSimpArgs false
set_option maxHeartbeats 4000000
set_option maxRecDepth 8000
def TxsOk (l:List TxD):Prop:=l.length≤1000000 ∧ ∀ t ∈ l,t.ops.length≤1000000
def OrdsOk (l:List OrdD):Prop:=l.length≤1000000 ∧ ∀ t ∈ l,t.txs.length≤1000000
structure DOk (d:DeltaD):Prop where
 was:TxsOk d.was
 now:TxsOk d.now
 old:OrdsOk d.old
 new:OrdsOk d.new
def inv (d:DeltaD):DeltaD:=⟨d.now,d.was,d.new,d.old⟩
theorem DOk.inv {d:DeltaD} (h:DOk d):DOk (inv d):=⟨h.now,h.was,h.new,h.old⟩
theorem dcopied_c (d:DeltaD) (h:DOk d):FnP Tryz.prog 62 [.agg (rDelta d)] (.agg (rDelta d)):=by
 refine FnP.mk Tryz.func62 rfl Tryz.ntmps62 rfl ?_
 intro B a w F hB hfr hS
 refine wp_seq ?_
 refine region_q hS (qf (oX 101 (.conv .t .agg)) r1 qz (qf (oH [.slice none 0 0,.slice none 0 0,.slice none 0 0,.slice none 0 0] 102) trivial qz qZ)) hB ?_
 clear hS;intro a w F hS
 replace hS:=hS.sub
 obtain ⟨F,hS⟩:=hS.nm [2,1] [102,101,0] rfl rfl
 try dsimp only [RS.sub,SF.sub,CF.sub,csub,Anc.sub,List.map,zCF] at hS
 generalize Act.tau a 1=v1 at hS
 generalize Act.tau a 2=v2 at hS
 refine then_n (wp_seq ?_)
 refine region_any (by kernel_rfl) hS (by kernel_rfl) (qf (oF 0 101 .is) r1 r1 (qf (oL false 1 101 .adr) r1 r1 (qf (oP (txs_c d.was h.was.1 h.was.2) Tryz.func58 (Args.one .t)) r1 qz (qf (oF 1 101 .is) r1 r1 (qf (oL false 1 101 .adr) r1 r1 (qf (oP (txs_c d.now h.now.1 h.now.2) Tryz.func58 (Args.one .t)) r1 qz (qf (oF 2 101 .is) r1 r1 (qf (oL false 1 101 .adr) r1 r1 (qf (oP (orders_c d.old h.old.1 h.old.2) Tryz.func59 (Args.one .t)) r1 qz (qf (oF 3 101 .is) r1 r1 (qf (oL false 1 101 .adr) r1 r1 (qf (oP (orders_c d.new h.new.1 h.new.2) Tryz.func59 (Args.one .t)) r1 qz (qf (oB [(0,.tmp 5),(1,.tmp 8),(2,.tmp 11),(3,.tmp 14)] [.slice none 0 0,.slice none 0 0,.slice none 0 0,.slice none 0 0] [(0,1),(1,1),(2,1),(3,1)] (.one rfl .t one_sl (by kernel_rfl) (.one rfl .t one_sl (by kernel_rfl) (.one rfl .t one_sl (by kernel_rfl) (.one rfl .t one_sl (by kernel_rfl) .nil))))) r4 qz (qf (oA 4 102 .is .t) r2 r1 qZ)))))))))))))) (by kernel_rfl) (by rw [hB];kernel_rfl) ?_
 clear hS;intro a w F hS
 obtain ⟨F,hS⟩:=hS.nm [2] [102,0] rfl rfl
 try dsimp only [List.map,stCells,xL,xM,Nat.reduceAdd,xD,xE,xT,xU,xC,xN,zCF,ldSF] at hS
 refine then_n (wp_ret ?_)
 refine ret_P hfr hS rfl (.cell (n:=102) (ag:=true) (sz:=4) rfl .is rfl (by kernel_rfl) (by kernel_rfl) (by kernel_rfl) .nil) (.one (.aggU rfl rfl))
theorem invert_c (d:DeltaD) (h:DOk d):FnP Tryz.prog 35 [.agg (rDelta d)] (.agg (rDelta (inv d))):=by
 refine FnP.mk Tryz.func35 rfl Tryz.ntmps35 rfl ?_
 intro B a w F hB hfr hS
 refine wp_seq ?_
 refine region_q hS (qf (oX 101 (.conv .t .agg)) r1 qz (qf (oH [.slice none 0 0,.slice none 0 0,.slice none 0 0,.slice none 0 0] 102) trivial qz qZ)) hB ?_
 clear hS;intro a w F hS
 replace hS:=hS.sub
 obtain ⟨F,hS⟩:=hS.nm [2,1] [102,101,0] rfl rfl
 try dsimp only [RS.sub,SF.sub,CF.sub,csub,Anc.sub,List.map,zCF] at hS
 generalize Act.tau a 1=v1 at hS
 generalize Act.tau a 2=v2 at hS
 refine then_n (wp_seq ?_)
 refine region_z hS (qf (oF 1 101 .is) r1 r1 (qf (oL false 1 101 .adr) r1 r1 (qf (oF 0 101 .is) r1 r1 (qf (oL false 1 101 .adr) r1 r1 (qf (oF 3 101 .is) r1 r1 (qf (oL false 1 101 .adr) r1 r1 (qf (oF 2 101 .is) r1 r1 (qf (oL false 1 101 .adr) r1 r1 (qf (oB [(0,.tmp 4),(1,.tmp 6),(2,.tmp 8),(3,.tmp 10)] [.slice none 0 0,.slice none 0 0,.slice none 0 0,.slice none 0 0] [(0,1),(1,1),(2,1),(3,1)] (.one rfl .t one_sl (by kernel_rfl) (.one rfl .t one_sl (by kernel_rfl) (.one rfl .t one_sl (by kernel_rfl) (.one rfl .t one_sl (by kernel_rfl) .nil))))) r4 qz (qf (oP (dcopied_c (inv d) h.inv) Tryz.func62 (Args.one (.pagg .t))) r1 qz (qf (oA 4 102 .is (.conv .t .agg)) r2 r1 qZ))))))))))) hB [2] [102,0] rfl rfl ?_
 clear hS;intro a w F hS
 refine then_n (wp_ret ?_)
 refine ret_P hfr hS rfl (.cell (n:=102) (ag:=true) (sz:=4) rfl .is rfl (by kernel_rfl) (by kernel_rfl) (by kernel_rfl) .nil) (.one (.aggU rfl rfl))
theorem refInvert_c (d:DeltaD):FnP Tryz.prog 36 [.agg (rDelta d)] (.agg (rDelta (inv d))):=by
 refine FnP.mk Tryz.func36 rfl Tryz.ntmps36 rfl ?_
 intro B a w F hB hfr hS
 refine wp_seq ?_
 refine region_q hS (qf (oX 101 (.conv .t .agg)) r1 qz (qf (oH [.slice none 0 0,.slice none 0 0,.slice none 0 0,.slice none 0 0] 102) trivial qz qZ)) hB ?_
 clear hS;intro a w F hS
 replace hS:=hS.sub
 obtain ⟨F,hS⟩:=hS.nm [2,1] [102,101,0] rfl rfl
 try dsimp only [RS.sub,SF.sub,CF.sub,csub,Anc.sub,List.map,zCF] at hS
 generalize Act.tau a 1=v1 at hS
 generalize Act.tau a 2=v2 at hS
 refine then_n (wp_seq ?_)
 refine region_z hS (qf (oF 1 101 .is) r1 r1 (qf (oL false 1 101 .adr) r1 r1 (qf (oF 0 101 .is) r1 r1 (qf (oL false 1 101 .adr) r1 r1 (qf (oF 3 101 .is) r1 r1 (qf (oL false 1 101 .adr) r1 r1 (qf (oF 2 101 .is) r1 r1 (qf (oL false 1 101 .adr) r1 r1 (qf (oB [(0,.tmp 4),(1,.tmp 6),(2,.tmp 8),(3,.tmp 10)] [.slice none 0 0,.slice none 0 0,.slice none 0 0,.slice none 0 0] [(0,1),(1,1),(2,1),(3,1)] (.one rfl .t one_sl (by kernel_rfl) (.one rfl .t one_sl (by kernel_rfl) (.one rfl .t one_sl (by kernel_rfl) (.one rfl .t one_sl (by kernel_rfl) .nil))))) r4 qz (qf (oA 4 102 .is .t) r2 r1 qZ)))))))))) hB [2] [102,0] rfl rfl ?_
 clear hS;intro a w F hS
 refine then_n (wp_ret ?_)
 refine ret_P hfr hS rfl (.cell (n:=102) (ag:=true) (sz:=4) rfl .is rfl (by kernel_rfl) (by kernel_rfl) (by kernel_rfl) .nil) (.one (.aggU rfl rfl))
end Go.Proofs.YtcfgcpcakdknkaaGreat
namespace Go.Proofs.YtcfgcpcakdknkaaGreat
open Go Go.Gm
set_option linter.unusedVariables false
set_option linter.unusedSimpArgs false
set_option maxHeartbeats 4000000
set_option maxRecDepth 8000
def HLight (h:HistD):Prop:=h.txs.length≤12∧h.orders.length≤24∧(∀ j,j<h.txs.length→(Go.Gm.nth h.txs j).ops.length≤24) ∧ ∀ j,j<h.orders.length→(Go.Gm.nth h.orders j).txs.length≤24
instance (h:HistD):Decidable (HLight h):=by unfold HLight;exact inferInstance
def DLight (d:DeltaD):Prop:=HLight ⟨d.was,d.old⟩∧HLight ⟨d.now,d.new⟩
instance (d:DeltaD):Decidable (DLight d):=by unfold DLight;exact inferInstance
theorem mem_nth {α:Type} [Inhabited α] {q:List α} {x:α} (h:x ∈ q):∃ j,j<q.length∧Go.Gm.nth q j=x:=by
 obtain ⟨j,hj,e⟩:=List.getElem_of_mem h
 exact ⟨j,hj,by rw [nth_eq hj];exact e⟩
theorem dlight_eq (d:DeltaD):(decide (HLight ⟨d.was,d.old⟩) && decide (HLight ⟨d.now,d.new⟩))=decide (DLight d):=by
 rw [Bool.eq_iff_iff,Bool.and_eq_true,decide_eq_true_eq,decide_eq_true_eq,decide_eq_true_eq]
 exact Iff.rfl
theorem DLight.ok {d:DeltaD} (h:DLight d):DOk d:=by
 obtain ⟨⟨h1,h2,h3,h4⟩,h5,h6,h7,h8⟩:=h
 dsimp only at h1 h2 h3 h4 h5 h6 h7 h8
 refine ⟨⟨by omega,fun t ht=>?_⟩,⟨by omega,fun t ht=>?_⟩,⟨by omega,fun t ht=>?_⟩,⟨by omega,fun t ht=>?_⟩⟩ <;> obtain ⟨j,hj,rfl⟩:=mem_nth ht
 · have:=h3 j hj;omega
 · have:=h7 j hj;omega
 · have:=h4 j hj;omega
 · have:=h8 j hj;omega
theorem lightH_c (u:HistD):FnP Tryz.prog 20 [.agg (rHist u)] (.bool (decide (HLight u))):=by
 refine FnP.mk Tryz.func20 rfl Tryz.ntmps20 rfl ?_
 intro B a w F hB hfr hS
 obtain ⟨hxl,hyl⟩:=Sat.lenHist hS (i:=0) rfl
 refine wp_seq ?_
 refine region_q hS (qf (oX 101 (.conv .t .agg)) r1 qz (qf (oN .cb) trivial qz qZ)) hB ?_
 clear hS;intro a w F hS
 replace hS:=hS.sub
 obtain ⟨F,hS⟩:=hS.nm [2,1] [101,0] rfl rfl
 try dsimp only [RS.sub,SF.sub,CF.sub,csub,Anc.sub,List.map,zCF] at hS
 generalize Act.tau a 1=v1 at hS
 refine then_n (wp_seq (wp_seq ?_))
 refine region_z hS (qf (oF 0 101 .is) r1 r1 (qf (oL false 1 101 .adr) r1 r1 (qf (o_len_sl Tryz.underlying27 .t) r1 qz (qf (o_gtr .t qi) r1 qz (qM rfl rfl (qk rfl (fun h=>oF 1 101 .is) r2 r1 (qk rfl (fun h=>oL false 1 101 (.w h .adr)) r2 r1 (qk rfl (fun h=>o_len_sl Tryz.underlying28 (.w h)) r2 qz (qk rfl (fun h=>o_gtr (.w h) qi) r2 qz (qf (o_or2 .t .t) r2 qz qZ)))))))))) hB [16,2,1] [101,0] rfl rfl ?_
 clear hS;intro a w F hS
 refine then_n ?_
 refine cond_b hS rfl (fun hc0=>?_) (fun hc0=>?_)
 ·skip
  have hg:false=decide (HLight u):=by
    rw [eq_comm,decide_eq_false_iff_not]
    rintro ⟨g1,g2,g3,g4⟩
    simp at hc0;omega
  refine wp_seq ?_
  refine region_z hS (qf (oN .cb) trivial qz qZ) hB [2,1] [101,0] rfl rfl ?_
  clear hS;intro a w F hS
  refine then_n (wp_ret (then_r ?_))
  refine ret_P hfr hS rfl (.tmp rfl .nil) (.one (.bool hg))
 have hb:u.txs.length≤12∧u.orders.length≤24:=by simp at hc0;omega
 refine wp_skip (then_n (wp_seq (wp_seq ?_)))
 refine region_z hS (qf (oF 0 101 .is) r1 r1 (qf (oL false 1 101 .adr) r1 r1 (qf (o_len_sl Tryz.underlying27 .t) r1 qz (qf (oM qi) trivial qz qZ)))) hB [20,19,18,2,1] [101,0] rfl rfl ?_
 clear hS;intro a w F hS
 refine then_n (wp_block ?_)
 obtain ⟨F,hS⟩:=hS.nm [20,19,18,1] [101,0] rfl rfl
 refine loop_inv (σ:=Nat) (fun s=>(⟨[(1,.pv (.is v1)),(18,.pv (.sl rTx u.txs)),(19,.pv (.int .i64 u.txs.length)),(20,.pv (.int .i64 s))],[(0,frame B),(101,.pt (.val v1) 30 [.pv (.sl rTx u.txs),.pv (.sl rOrd u.orders)])]⟩:En)) (fun s=>s≤u.txs.length ∧ ∀ j,j<s→(Go.Gm.nth u.txs j).ops.length≤24) (fun s=>u.txs.length - s) 0 hS ⟨Nat.zero_le _,fun j hj=>absurd hj (Nat.not_lt_zero j)⟩ ?_
 clear hS;intro i a w F hC hS
 try dsimp only at hC
 try dsimp only at hS
 obtain ⟨hi,hq⟩:=hC
 refine wp_seq ?_
 refine region_z hS (qf (o_lss .t .t) r2 qz qZ) hB [21,20,19,18,1] [101,0] rfl rfl ?_
 clear hS;intro a w F hS
 refine then_n (wp_seq ?_)
 refine cond_b hS rfl (fun hc1=>?_) (fun hc1=>?_)
 ·skip
  have hil:i<u.txs.length:=by simp at hc1;omega
  refine wp_skip (then_n (wp_seq (wp_block (wp_seq ?_))))
  refine region_q hS (qf (o_indexAddr_sl (sz:=3) (.mk Tryz.underlying27 (by kernel_rfl)) (by intro x;rfl) .t .t (by omega) (by omega)) r2 qz (qf (oR true 3 .t) r1 qz (qf (oH [.int .i64 0,.bool false,.slice none 0 0] 102) trivial qz (qf (oA 3 102 .same .t) r2 r1 qZ)))) hB ?_
  clear hS;intro a w F hS
  replace hS:=hS.sub
  obtain ⟨F,hS⟩:=hS.nm [23,22,21,20,19,18,4,1] [102,101,0] rfl rfl
  try dsimp only [RS.sub,SF.sub,CF.sub,csub,Anc.sub,List.map,stCells,xL,xM,Nat.reduceAdd,xD,xE,xT,xU,xC,xN,zCF,ldSF] at hS
  generalize Act.tau a 4=v4 at hS
  refine then_n (wp_seq ?_)
  refine region_z hS (qf (oF 2 102 .is) r1 r1 (qf (oL false 1 102 .adr) r1 r1 (qf (o_len_sl Tryz.underlying32 .t) r1 qz (qf (o_gtr .t qi) r1 qz qZ)))) hB [27,26,25,24,23,22,21,20,19,18,4,1] [102,101,0] rfl rfl ?_
  clear hS;intro a w F hS
  refine then_n ?_
  refine cond_b hS rfl (fun hc2=>?_) (fun hc2=>?_)
  ·skip
   have hg:false=decide (HLight u):=by
     rw [eq_comm,decide_eq_false_iff_not]
     rintro ⟨g1,g2,g3,g4⟩
     have:=g3 i hil;rw [Int.toNat_natCast] at hc2;simp at hc2;omega
   refine wp_seq ?_
   refine region_z hS (qf (oN .cb) trivial qz qZ) hB [27,26,25,24,23,22,21,20,19,18,4,2,1] [102,101,0] rfl rfl ?_
   clear hS;intro a w F hS
   refine then_n (wp_ret (block_r (then_r (then_r (block_r (then_r ?_))))))
   refine ret_P hfr hS rfl (.tmp rfl .nil) (.one (.bool hg))
  have hqi:(Go.Gm.nth u.txs i).ops.length≤24:=by rw [Int.toNat_natCast] at hc2;simp at hc2;omega
  refine wp_skip (block_n (then_n ?_))
  refine region_z hS (qf (o_add .t qi) r1 qz (qM rfl rfl qZ)) hB [28,27,26,25,24,23,22,21,20,19,18,4,1] [102,101,0] rfl rfl ?_
  clear hS;intro a w F hS
  refine then_n ?_
  replace hS:=hS.ent (i:=20) (s':=.pv (.int .i64 ((i+1:Nat):Int))) rfl (.int (wrap_succ (by omega)))
  obtain ⟨F,hS⟩:=hS.nm [20,19,18,1] [101,0] rfl rfl
  exact ⟨i+1,F,⟨by omega,fun j hj=>by rcases Nat.lt_or_eq_of_le (Nat.le_of_lt_succ hj) with h | h;exact hq j h;rw [h];exact hqi⟩,hS,by omega⟩
 have hT:∀ j,j<u.txs.length→(Go.Gm.nth u.txs j).ops.length≤24:=fun j hj=>hq j (by simp at hc1;omega)
 clear hq hi
 refine wp_exit (then_x (then_x (block_x (then_n (wp_seq (wp_seq ?_))))))
 refine region_z hS (qf (oF 1 101 .is) r1 r1 (qf (oL false 1 101 .adr) r1 r1 (qf (o_len_sl Tryz.underlying28 .t) r1 qz (qf (oM qi) trivial qz qZ)))) hB [32,31,30] [0] rfl rfl ?_
 clear hS;intro a w F hS
 refine then_n (wp_block ?_)
 obtain ⟨F,hS⟩:=hS.nm [32,31,30] [0] rfl rfl
 refine loop_inv (σ:=Nat) (fun s=>(⟨[(30,.pv (.sl rOrd u.orders)),(31,.pv (.int .i64 u.orders.length)),(32,.pv (.int .i64 s))],[(0,frame B)]⟩:En)) (fun s=>s≤u.orders.length ∧ ∀ j,j<s→(Go.Gm.nth u.orders j).txs.length≤24) (fun s=>u.orders.length - s) 0 hS ⟨Nat.zero_le _,fun j hj=>absurd hj (Nat.not_lt_zero j)⟩ ?_
 clear hS;intro i a w F hC hS
 try dsimp only at hC
 try dsimp only at hS
 obtain ⟨hi,hq⟩:=hC
 refine wp_seq ?_
 refine region_z hS (qf (o_lss .t .t) r2 qz qZ) hB [33,32,31,30] [0] rfl rfl ?_
 clear hS;intro a w F hS
 refine then_n (wp_seq ?_)
 refine cond_b hS rfl (fun hc3=>?_) (fun hc3=>?_)
 ·skip
  have hil:i<u.orders.length:=by simp at hc3;omega
  refine wp_skip (then_n (wp_seq (wp_block (wp_seq ?_))))
  refine region_q hS (qf (o_indexAddr_sl (sz:=2) (.mk Tryz.underlying28 (by kernel_rfl)) (by intro x;rfl) .t .t (by omega) (by omega)) r2 qz (qf (oR true 2 .t) r1 qz (qf (oH [.int .i64 0,.slice none 0 0] 103) trivial qz (qf (oA 2 103 .same .t) r2 r1 qZ)))) hB ?_
  clear hS;intro a w F hS
  replace hS:=hS.sub
  obtain ⟨F,hS⟩:=hS.nm [35,34,33,32,31,30,6] [103,0] rfl rfl
  try dsimp only [RS.sub,SF.sub,CF.sub,csub,Anc.sub,List.map,stCells,xL,xM,Nat.reduceAdd,xD,xE,xT,xU,xC,xN,zCF,ldSF] at hS
  generalize Act.tau a 6=v6 at hS
  refine then_n (wp_seq ?_)
  refine region_z hS (qf (oF 1 103 .is) r1 r1 (qf (oL false 1 103 .adr) r1 r1 (qf (o_len_sl Tryz.underlying35 .t) r1 qz (qf (o_gtr .t qi) r1 qz qZ)))) hB [39,38,37,36,35,34,33,32,31,30,6] [103,0] rfl rfl ?_
  clear hS;intro a w F hS
  refine then_n ?_
  refine cond_b hS rfl (fun hc4=>?_) (fun hc4=>?_)
  ·skip
   have hg:false=decide (HLight u):=by
     rw [eq_comm,decide_eq_false_iff_not]
     rintro ⟨g1,g2,g3,g4⟩
     have:=g4 i hil;rw [Int.toNat_natCast] at hc4;simp at hc4;omega
   refine wp_seq ?_
   refine region_z hS (qf (oN .cb) trivial qz qZ) hB [39,38,37,36,35,34,33,32,31,30,6,2] [103,0] rfl rfl ?_
   clear hS;intro a w F hS
   refine then_n (wp_ret (block_r (then_r (then_r (block_r (then_r ?_))))))
   refine ret_P hfr hS rfl (.tmp rfl .nil) (.one (.bool hg))
  have hqi:(Go.Gm.nth u.orders i).txs.length≤24:=by rw [Int.toNat_natCast] at hc4;simp at hc4;omega
  refine wp_skip (block_n (then_n ?_))
  refine region_z hS (qf (o_add .t qi) r1 qz (qM rfl rfl qZ)) hB [40,39,38,37,36,35,34,33,32,31,30,6] [103,0] rfl rfl ?_
  clear hS;intro a w F hS
  refine then_n ?_
  replace hS:=hS.ent (i:=32) (s':=.pv (.int .i64 ((i+1:Nat):Int))) rfl (.int (wrap_succ (by omega)))
  obtain ⟨F,hS⟩:=hS.nm [32,31,30] [0] rfl rfl
  exact ⟨i+1,F,⟨by omega,fun j hj=>by rcases Nat.lt_or_eq_of_le (Nat.le_of_lt_succ hj) with h | h;exact hq j h;rw [h];exact hqi⟩,hS,by omega⟩
 have hO:∀ j,j<u.orders.length→(Go.Gm.nth u.orders j).txs.length≤24:=fun j hj=>hq j (by simp at hc3;omega)
 have hg:true=decide (HLight u):=by rw [eq_comm,decide_eq_true_eq];exact ⟨hb.1,hb.2,hT,hO⟩
 refine wp_exit (then_x (then_x (block_x (then_n (wp_seq ?_)))))
 refine region_z hS (qf (oN .cb) trivial qz qZ) hB [2] [0] rfl rfl ?_
 clear hS;intro a w F hS
 refine then_n (wp_ret ?_)
 refine ret_P hfr hS rfl (.tmp rfl .nil) (.one (.bool hg))
theorem lightD_c (d:DeltaD):FnP Tryz.prog 21 [.agg (rDelta d)] (.bool (decide (DLight d))):=by
 refine FnP.mk Tryz.func21 rfl Tryz.ntmps21 rfl ?_
 intro B a w F hB hfr hS
 refine wp_seq ?_
 refine region_q hS (qf (oX 101 (.conv .t .agg)) r1 qz (qf (oN .cb) trivial qz qZ)) hB ?_
 clear hS;intro a w F hS
 replace hS:=hS.sub
 obtain ⟨F,hS⟩:=hS.nm [2,1] [101,0] rfl rfl
 try dsimp only [RS.sub,SF.sub,CF.sub,csub,Anc.sub,List.map,zCF] at hS
 generalize Act.tau a 1=v1 at hS
 refine then_n (wp_seq ?_)
 refine region_z hS (qf (oF 0 101 .is) r1 r1 (qf (oL false 1 101 .adr) r1 r1 (qf (oF 2 101 .is) r1 r1 (qf (oL false 1 101 .adr) r1 r1 (qf (oB [(0,.tmp 4),(1,.tmp 6)] [.slice none 0 0,.slice none 0 0] [(0,1),(1,1)] (.one rfl .t one_sl (by kernel_rfl) (.one rfl .t one_sl (by kernel_rfl) .nil))) r2 qz (qf (oP (lightH_c ⟨d.was,d.old⟩) Tryz.func20 (Args.one (.pagg .t))) r1 qz (qM rfl rfl (qk rfl (fun h=>oF 1 101 .is) r2 r1 (qk rfl (fun h=>oL false 1 101 (.w h .adr)) r2 r1 (qk rfl (fun h=>oF 3 101 .is) r2 r1 (qk rfl (fun h=>oL false 1 101 (.w h .adr)) r2 r1 (qk rfl (fun h=>o_build (r:=[(0,.tmp 11),(1,.tmp 13)]) (zs:=[.slice none 0 0,.slice none 0 0]) (pl:=[(0,1),(1,1)]) (by kernel_rfl) (by kernel_rfl) (.one rfl (.w h) one_sl (by kernel_rfl) (.one rfl (.w h) one_sl (by kernel_rfl) .nil)) (by rfl)) r3 qz (qk rfl (fun h=>oP (lightH_c ⟨d.now,d.new⟩) Tryz.func20 (Args.one (.pagg (.w h)))) r2 qz (qf (o_and2 .t .t) r2 qz (qN rfl rfl qZ))))))))))))))) hB [2] [0] rfl rfl ?_
 clear hS;intro a w F hS
 refine then_n (wp_ret ?_)
 refine ret_P hfr hS rfl (.tmp rfl .nil) (.one (.bool (dlight_eq d)))
end Go.Proofs.YtcfgcpcakdknkaaGreat
