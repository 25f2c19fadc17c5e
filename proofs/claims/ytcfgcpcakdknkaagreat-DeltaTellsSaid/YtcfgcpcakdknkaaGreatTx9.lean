/- Right transactions. No condition beyond those that each theorem says. -/
import Derived.Test.YtcfgcpcakdknkaaGreatTxO
import Derived.Test.YtcfgcpcakdknkaaGreatTxX
import Derived.Test.YtcfgcpcakdknkaaGreatLibG
namespace Go.Proofs.YtcfgcpcakdknkaaGreat
open Go Go.Gm
set_option linter.unusedVariables false
set_option linter.unusedSimpArgs false
set_option maxHeartbeats 4000000
set_option maxRecDepth 8000
def wcnt (l:List OpD) (k:Int):Nat:=(l.filter fun o=>!o.read && decide (o.key=k)).length
theorem wcnt_step {l:List OpD} {i:Nat} (h:i<l.length) (k:Int):wcnt (l.take (i+1)) k=wcnt (l.take i) k+if (Go.Gm.nth l i).read=false∧(Go.Gm.nth l i).key=k then 1 else 0:=by
 unfold wcnt
 rw [take_nth h,List.filter_append,List.length_append]
 congr 1
 by_cases h1:(Go.Gm.nth l i).read=false∧(Go.Gm.nth l i).key=k
 · rw [if_pos h1];simp [h1.1,h1.2]
 · rw [if_neg h1]
   have:(!(Go.Gm.nth l i).read && decide ((Go.Gm.nth l i).key=k))=false:=by
     cases hr:(Go.Gm.nth l i).read with
     | true=>rfl
     | false=>simp;exact fun e=>h1 ⟨hr,e⟩
   simp [this]
theorem wcnt_le (l:List OpD) (i:Nat) (k:Int):wcnt (l.take i) k≤i:=Nat.le_trans (List.length_filter_le _ _) (by rw [List.length_take];omega)
def rightTL (id:Int):List OpD→List OpD→Int
 | _,[]=>0
 | s,o :: r=>if rightO o=false then 1 else if o.read=true∧o.tx=id∧(wcnt s o.key:Int)<o.nth then 6 else rightTL id (s ++ [o]) r
def rightT (t:TxD):Int:=if ¬ (1≤t.id∧t.id≤1048575) then 1 else if 4095<t.ops.length then 9 else rightTL t.id [] t.ops
theorem rightTL_at {id:Int} {l:List OpD} {i:Nat} (h:i<l.length):rightTL id (l.take i) (l.drop i)=if rightO (Go.Gm.nth l i)=false then 1 else if (Go.Gm.nth l i).read=true∧(Go.Gm.nth l i).tx=id∧(wcnt (l.take i) (Go.Gm.nth l i).key:Int)<(Go.Gm.nth l i).nth then 6 else rightTL id (l.take (i+1)) (l.drop (i+1)):=by
 rw [drop_nth h,rightTL,take_nth h]
theorem rightTL_end {id:Int} {l:List OpD} {i:Nat} (h:i=l.length):rightTL id (l.take i) (l.drop i)=0:=by rw [h,List.drop_length];rfl
def needO (id:Int) (o:OpD):Bool:=(o.read && !decide (o.tx=0)) && !decide (o.tx=id)
def needStep (id:Int) (out:List VerD) (o:OpD):List VerD:=if needO id o=true∧ofO o ∉ out then out ++ [ofO o] else out
def needsL (id:Int) (l:List OpD):List VerD:=l.foldl (needStep id) []
def needsT (t:TxD):List VerD:=needsL t.id t.ops
theorem needsL_step {id:Int} {l:List OpD} {i:Nat} (h:i<l.length):needsL id (l.take (i+1))=needStep id (needsL id (l.take i)) (Go.Gm.nth l i):=by
 unfold needsL
 rw [take_nth h,List.foldl_append]
 rfl
theorem needStep_len (id:Int) (out:List VerD) (o:OpD):(needStep id out o).length≤out.length+1:=by
 unfold needStep
 split <;> simp
theorem needsL_len (id:Int) (l:List OpD) (i:Nat):(needsL id (l.take i)).length≤i:=by
 have key:∀ (l:List OpD) (out:List VerD),(l.foldl (needStep id) out).length≤out.length+l.length:=by
   intro l
   induction l with
   | nil=>intro out;simp
   | cons x l ih=>
     intro out
     have h1:=ih (needStep id out x)
     have h2:=needStep_len id out x
     rw [List.foldl_cons,List.length_cons];omega
 have:=key (l.take i) []
 rw [List.length_take] at this
 unfold needsL
 simp at this ⊢
 omega
structure SpotD where
 key:Int
 nth:Int
 deriving DecidableEq,Inhabited
def encSpot (p:SpotD):List Int:=[p.key,p.nth]
def encVer (v:VerD):List Int:=[v.tx,v.key,v.nth]
def SpotInv (es:List (GE SpotD Int)) (s:List OpD):Prop:=∀ k n,0≤n→(gGet (⟨k,n⟩:SpotD) es).getD 0=if n=0 then (wcnt s k:Int) else if n≤wcnt s k then 1 else 0
theorem spot_zero:SpotInv [] []:=fun k n h=>by
 show (0:Int)=_
 have:wcnt [] k=0:=rfl
 rw [this]
 split
 · rfl
 · rw [if_neg (by simp;omega)]
theorem spot_keep {es:List (GE SpotD Int)} {l:List OpD} {i:Nat} (h:SpotInv es (l.take i)) (hi:i<l.length) (hr:(Go.Gm.nth l i).read=true):SpotInv es (l.take (i+1)):=fun k n hn=>by
 rw [h k n hn,wcnt_step hi,if_neg (c:=(Go.Gm.nth l i).read=false∧(Go.Gm.nth l i).key=k) (by simp [hr]),Nat.add_zero]
theorem spot_step {es es2:List (GE SpotD Int)} {l:List OpD} {i:Nat} {c:Int} (h:SpotInv es (l.take i)) (hi:i<l.length) (hr:(Go.Gm.nth l i).read=false) (hc:c=(wcnt (l.take i) (Go.Gm.nth l i).key:Int)+1)
   (he:∀ p,(gGet p es2).getD 0=if p = ⟨(Go.Gm.nth l i).key,c⟩ then 1 else if p = ⟨(Go.Gm.nth l i).key,0⟩ then c else (gGet p es).getD 0):SpotInv es2 (l.take (i+1)):=fun k n hn=>by
 have hk:=h k n hn
 rw [he,hk,wcnt_step hi]
 by_cases e:(Go.Gm.nth l i).key=k
 · rw [if_pos (c:=(Go.Gm.nth l i).read=false∧_) ⟨hr,e⟩]
   rw [e] at hc
   rw [e]
   by_cases e2:n=c
   · subst e2
     rw [if_pos rfl,if_neg (by omega),if_pos (by omega)]
   · rw [if_neg (by simp [e2])]
     by_cases e3:n=0
     · subst e3
       rw [if_pos rfl,if_pos rfl,hc];simp
     · rw [if_neg (by simp [e3]),if_neg e3,if_neg e3]
       by_cases e4:n≤(wcnt (l.take i) k:Int)
       · rw [if_pos e4,if_pos (by omega)]
       · rw [if_neg e4,if_neg (by omega)]
 · rw [if_neg (c:=(Go.Gm.nth l i).read=false∧_) (by simp [e]),Nat.add_zero,if_neg (by simp;exact fun h=>absurd h.symm e),if_neg (by simp;exact fun h=>absurd h.symm e)]
def VerInv (es:List (GE VerD Int)) (i:Nat) (out:List VerD):Prop:=∀ v,0≤(gGet v es).getD 0∧(gGet v es).getD 0≤i∧(0<(gGet v es).getD 0 ↔ v ∈ out)
theorem ver_zero:VerInv [] 0 []:=fun v=>⟨Int.le_refl _,Int.le_refl _,by show (0:Int)<0 ↔ _;simp⟩
theorem ver_more {es:List (GE VerD Int)} {i:Nat} {out:List VerD} (h:VerInv es i out):VerInv es (i+1) out:=fun v=>⟨(h v).1,by have:=(h v).2.1;omega,(h v).2.2⟩
theorem ver_step {es es2:List (GE VerD Int)} {i:Nat} {out:List VerD} {v:VerD} (h:VerInv es i out) (he:∀ u,(gGet u es2).getD 0=if u=v then (gGet v es).getD 0+1 else (gGet u es).getD 0):VerInv es2 (i+1) (if v ∈ out then out else out ++ [v]):=fun u=>by
 have h1:=h u
 have h2:=h v
 rw [he u]
 by_cases e:u=v
 · subst e
   rw [if_pos rfl]
   refine ⟨by omega,by omega,?_⟩
   constructor
   · intro _;split <;> simp_all
   · intro _;omega
 · rw [if_neg e]
   refine ⟨by omega,by omega,?_⟩
   rw [h1.2.2]
   split
   · rfl
   · simp [e]
theorem gVal_entry {κ:Type} [DecidableEq κ] {k p:κ} {x:Int} (s:List (GE κ Int)×Nat):(gGet p (gSet k x (gEns 0 k s).1)).getD 0=if p=k then x else (gGet p s.1).getD 0:=by
 rw [gGet_entry];split <;> rfl
theorem gVal_put {κ:Type} [DecidableEq κ] {k p:κ} {x:Int} (s:List (GE κ Int)×Nat):(gGet p (gPut k x s).1).getD 0=if p=k then x else (gGet p s.1).getD 0:=by
 rw [gGet_put];split <;> rfl
theorem keySpot:KeyG Tryz.prog 163 (fun k=>∀ x ∈ encSpot k,inR .i64 x) (kvS encSpot):=key_structG (n:=2) (fun _=>rfl) (fun a b h=>by cases a;cases b;simpa [encSpot] using h) (by kernel_rfl)
theorem keyVer:KeyG Tryz.prog 153 (fun k=>∀ x ∈ encVer k,inR .i64 x) (kvS encVer):=key_structG (n:=3) (fun _=>rfl) (fun a b h=>by cases a;cases b;simpa [encVer] using h) (by kernel_rfl)
theorem spot_test {es:List (GE SpotD Int)} {s:List OpD} {o:OpD} {id:Int} (h:SpotInv es s) (hk:rightO o=true) (hr:o.read=true) (hid:1≤id):(o.tx=id∧(gGet (⟨o.key,o.nth⟩:SpotD) es).getD 0=0) ↔ (o.read=true∧o.tx=id∧(wcnt s o.key:Int)<o.nth):=by
 have hb:=right_rng hk
 have h1:=h o.key o.nth (by omega)
 constructor
 · rintro ⟨e1,e2⟩
   refine ⟨hr,e1,?_⟩
   have hn:1≤o.nth:=by
     rw [right_read hr] at hk
     unfold ofO at hk
     rw [if_pos hr] at hk
     unfold rightV at hk
     rw [if_neg (show ¬ o.tx=0 by omega)] at hk
     simp at hk
     omega
   rw [e2,if_neg (by omega)] at h1
   split at h1
   · cases h1
   · omega
 · rintro ⟨_,e1,e2⟩
   refine ⟨e1,?_⟩
   rw [h1,if_neg (by omega),if_neg (by omega)]
theorem txRight_c (t:TxD):FnP Tryz.prog 101 [.agg (rTx t)] (.int .i64 (rightT t)):=by
 refine FnP.mk Tryz.func101 rfl Tryz.ntmps101 rfl ?_
 intro B a w F hB hfr hS
 refine wp_seq ?_
 refine region_q hS (qf (oX 101 (.conv .t .agg)) r1 qz (qf (oN qi) trivial qz qZ)) hB ?_
 clear hS;intro a w F hS
 replace hS:=hS.sub
 obtain ⟨F,hS⟩:=hS.nm [2,1] [101,0] rfl rfl
 try dsimp only [RS.sub,SF.sub,CF.sub,csub,Anc.sub,List.map,zCF,rInt,rOp,rTx] at hS
 generalize Act.tau a 1=v1 at hS
 refine then_n (wp_seq (wp_block (wp_seq ?_)))
 refine region_z hS (qf (oF 0 101 .is) r1 r1 (qf (oL false 1 101 .adr) r1 r1 (qf (o_lss .t qi) r1 qz (qM rfl rfl (qk rfl (fun h=>oF 0 101 .is) r2 r1 (qk rfl (fun h=>oL false 1 101 (.w h .adr)) r2 r1 (qk rfl (fun h=>o_gtr (.w h) qi) r2 qz (qf (o_or2 .t .t) r2 qz (qN rfl rfl qZ))))))))) hB [7,2,1] [101,0] rfl rfl ?_
 clear hS;intro a w F hS
 refine then_n ?_
 refine cond_b hS rfl (fun hc0=>?_) (fun hc0=>?_)
 ·skip
  have hg:1=rightT t:=by unfold rightT;rw [if_pos (by simp at hc0;omega)]
  refine wp_seq ?_
  refine region_z hS (qf (oN qi) trivial qz qZ) hB [2,1] [101,0] rfl rfl ?_
  clear hS;intro a w F hS
  refine then_n (wp_ret (block_r (then_r ?_)))
  refine ret_P hfr hS rfl (.tmp rfl .nil) (.one (.int hg))
 have hid:1≤t.id∧t.id≤1048575:=by simp at hc0;omega
 refine wp_seq ?_
 refine region_z hS (qf (oF 2 101 .is) r1 r1 (qf (oL false 1 101 .adr) r1 r1 (qf (o_len_sl Tryz.underlying32 .t) r1 qz (qf (o_gtr .t qi) r1 qz (qN rfl rfl qZ))))) hB [16,2,1] [101,0] rfl rfl ?_
 clear hS;intro a w F hS
 refine then_n ?_
 refine cond_b hS rfl (fun hc1=>?_) (fun hc1=>?_)
 ·skip
  have hg:9=rightT t:=by unfold rightT;rw [if_neg (by omega),if_pos (by simp at hc1;omega)]
  refine wp_seq ?_
  refine region_z hS (qf (oN qi) trivial qz qZ) hB [2,1] [101,0] rfl rfl ?_
  clear hS;intro a w F hS
  refine then_n (wp_ret (block_r (then_r ?_)))
  refine ret_P hfr hS rfl (.tmp rfl .nil) (.one (.int hg))
 have hlen:t.ops.length≤4095:=by simp at hc1;omega
 have hT:rightT t=rightTL t.id [] t.ops:=by unfold rightT;rw [if_neg (by omega),if_neg (by omega)]
 refine wp_skip (block_n (then_n (wp_seq ?_)))
 refine region_q hS (qf (o_makeMapG (ek:=(fun n:Int=>PV.int .i64 n)) (ok:=(fun k=>∀ x ∈ encSpot k,inR .i64 x)) (kv:=(kvS encSpot)) 102) trivial qz (qN rfl rfl qZ)) hB ?_
 clear hS;intro a w F hS
 replace hS:=hS.sub
 obtain ⟨F,hS⟩:=hS.nm [3,2,1] [102,101,0] rfl rfl
 try dsimp only [RS.sub,SF.sub,CF.sub,csub,Anc.sub,List.map,stCells,xL,xM,Nat.reduceAdd,xD,xE,xT,xU,xC,xN,zCF,rInt,rOp,rTx] at hS
 generalize Act.tau a 21=v21 at hS
 refine then_n (wp_seq (wp_seq ?_))
 refine region_z hS (qf (oF 2 101 .is) r1 r1 (qf (oL false 1 101 .adr) r1 r1 (qf (o_len_sl Tryz.underlying32 .t) r1 qz (qf (oM qi) trivial qz qZ)))) hB [25,24,23,3,2,1] [102,101,0] rfl rfl ?_
 clear hS;intro a w F hS
 refine then_n (wp_block ?_)
 refine loop_keep (σ:=(Nat)×(List (GE SpotD Int))×(Nat)) [1,2,3,23,24] [0,101] (fun s=>[(25,.pv (.int .i64 (s.1:Int)))]) (fun s=>[(102,.ob (.val v21) (mapG (fun n:Int=>PV.int .i64 n) (fun k=>∀ x ∈ encSpot k,inR .i64 x) (kvS encSpot) s.2.1 s.2.2))]) (fun s=>s.1≤t.ops.length∧(rightTL t.id [] t.ops=rightTL t.id (t.ops.take s.1) (t.ops.drop s.1)∧SpotInv s.2.1 (t.ops.take s.1))) (fun s=>t.ops.length - s.1) ((0),([]),(0)) hS ⟨rfl,rfl,rfl,rfl,rfl,rfl,trivial⟩ ⟨rfl,rfl,rfl,trivial⟩ ⟨Nat.zero_le _,⟨rfl,spot_zero⟩⟩ ?_
 clear hS;intro s a w F hC hS
 obtain ⟨i,es,ck⟩:=s
 try dsimp only at hC
 obtain ⟨F,hS⟩:=hS.nm [25,24,23,3,2,1] [102,101,0] rfl rfl
 try dsimp only at hS
 obtain ⟨hi,hq⟩:=hC
 obtain ⟨hrt,hsp⟩:=hq
 have hwl:=fun k=>wcnt_le t.ops i k
 refine wp_seq ?_
 refine region_z hS (qf (o_lss .t .t) r2 qz qZ) hB [26,25,24,23,3,2,1] [102,101,0] rfl rfl ?_
 clear hS;intro a w F hS
 refine then_n (wp_seq ?_)
 refine cond_b hS rfl (fun hc2=>?_) (fun hc2=>?_)
 ·skip
  have hil:i<t.ops.length:=by simp at hc2;omega
  refine wp_skip (then_n (wp_seq (wp_block (wp_seq ?_))))
  refine region_q hS (qf (o_indexAddr_sl (sz:=4) (.mk Tryz.underlying32 (by kernel_rfl)) (by intro x;rfl) .t .t (by omega) (by omega)) r2 qz (qf (oR true 4 .t) r1 qz (qf (oH [.bool false,.int .i64 0,.int .i64 0,.int .i64 0] 103) trivial qz (qf (oA 4 103 .same .t) r2 r1 qZ)))) hB ?_
  clear hS;intro a w F hS
  replace hS:=hS.sub
  obtain ⟨F,hS⟩:=hS.nm [28,27,26,25,24,23,5,3,2,1] [103,102,101,0] rfl rfl
  try dsimp only [RS.sub,SF.sub,CF.sub,csub,Anc.sub,List.map,stCells,xL,xM,Nat.reduceAdd,xD,xE,xT,xU,xC,xN,zCF,ldSF,rInt,rOp,rTx] at hS
  generalize Act.tau a 5=v5 at hS
  try simp only [Int.toNat_natCast] at hS
  refine then_n (wp_seq (wp_seq ?_))
  refine region_z hS (qf (oL true 4 103 .is) r1 r1 (qf (oP (opRight_c (Go.Gm.nth t.ops i)) Tryz.func138 (Args.one (.pagg .t))) r1 qz (qN rfl rfl qZ))) hB [30,29,28,27,26,25,24,23,6,5,3,2,1] [103,102,101,0] rfl rfl ?_
  clear hS;intro a w F hS
  refine then_n (wp_seq ?_)
  refine region_z hS (qM rfl rfl (qf (o_neq .t qi) r1 qz qZ)) hB [32,31,30,29,28,27,26,25,24,23,6,5,3,2,1] [103,102,101,0] rfl rfl ?_
  clear hS;intro a w F hS
  refine then_n ?_
  refine cond_b hS rfl (fun hc3=>?_) (fun hc3=>?_)
  ·skip
   have hk:rightO (Go.Gm.nth t.ops i)=false:=by unfold rightN at hc3;simpa using hc3
   have hg:rightN (Go.Gm.nth t.ops i)=rightT t:=by rw [hT,hrt,rightTL_at hil,if_pos hk];unfold rightN;rw [hk];rfl
   refine wp_seq ?_
   refine region_z hS (qM rfl rfl (qN rfl rfl qZ)) hB [33,32,31,30,29,28,27,26,25,24,23,6,5,3,2,1] [103,102,101,0] rfl rfl ?_
   clear hS;intro a w F hS
   refine then_n (wp_ret (then_r (block_r (then_r (then_r (block_r (then_r ?_)))))))
   refine ret_P hfr hS rfl (.tmp rfl .nil) (.one (.int hg))
  have hk:rightO (Go.Gm.nth t.ops i)=true:=by unfold rightN at hc3;simpa using hc3
  refine wp_skip (then_n (wp_seq (wp_seq ?_)))
  refine region_z hS (qf (oF 0 103 .is) r1 r1 (qf (oL false 1 103 .adr) r1 r1 (qf (o_not .t) r1 qz qZ))) hB [36,35,34,32,31,30,29,28,27,26,25,24,23,6,5,3,2,1] [103,102,101,0] rfl rfl ?_
  clear hS;intro a w F hS
  refine then_n ?_
  refine cond_b hS rfl (fun hc4=>?_) (fun hc4=>?_)
  ·skip
   have hr:(Go.Gm.nth t.ops i).read=false:=by simpa using hc4
   have hm0:=hsp (Go.Gm.nth t.ops i).key 0 (Int.le_refl _)
   rw [if_pos rfl] at hm0
   have hwc:IntKind.wrap .i64 (((gGet (⟨(Go.Gm.nth t.ops i).key,0⟩:SpotD) es).getD 0)+1)=(wcnt (t.ops.take i) (Go.Gm.nth t.ops i).key:Int)+1:=by rw [hm0];exact wrap_i64 (by have:=hwl (Go.Gm.nth t.ops i).key;omega)
   refine wp_seq ?_
   replace hS:=hS.turnZ 102 (0) (⟨(Go.Gm.nth t.ops i).key,0⟩:SpotD) rfl
   refine region_anyS 102 8 (m1:=1) (m2:=2) (by kernel_rfl) hS (by kernel_rfl) (qM rfl rfl (qf (oF 1 103 .is) r1 r1 (qf (oL false 1 103 .adr) r1 r1 (qf (oB [(0,.tmp 39),(1,_)] [.int .i64 0,.int .i64 0] [(0,1),(1,1)] (.one rfl .t one_int (by kernel_rfl) (.one rfl qi one_int (by kernel_rfl) .nil))) r1 qz (qf (o_lookupZ (ek:=(fun n:Int=>PV.int .i64 n)) (z0:=(0)) 102 Tryz.underlying160 keySpot (by kernel_rfl) (fun _ _=>⟨rfl,inR0⟩) .is (IsKeyOf.agg (enc:=encSpot) (k:=(⟨(Go.Gm.nth t.ops i).key,0⟩:SpotD)) (.pagg .t) rfl)) r2 r1 (qf (o_add .t qi) r1 qz (qf (o_mapEntryZ (ek:=(fun n:Int=>PV.int .i64 n)) (z0:=(0)) 102 Tryz.underlying160 keySpot (by kernel_rfl) (fun _ _=>⟨rfl,inR0⟩) .is (IsKeyOf.agg (enc:=encSpot) (k:=(⟨(Go.Gm.nth t.ops i).key,0⟩:SpotD)) (.pagg .t) rfl) (by intros;first | rfl | simp [Anc.v,upd])) r2 r1 (qf (o_extract .t rfl) r1 qz (qf (o_entryStoreG 102 (gEns_born _ _ _) .is .t .t) r3 r1 qZ))))))))) (by kernel_rfl) (by kernel_rfl) (by kernel_rfl) rfl rfl rfl (fun _ _ _ _ h=>.inr h) (by rw [hB];kernel_rfl) ?_
   clear hS;intro a w F hS
   obtain ⟨F,hS⟩:=hS.nm [44,43,42,41,40,39,38,37,36,35,34,32,31,30,29,28,27,26,25,24,23,6,5,3,2,1] [103,102,101,0] rfl rfl
   try dsimp only [List.map,stCells,xL,xM,Nat.reduceAdd,xD,xE,xT,xU,xC,xN,zCF,ldSF,rInt,rOp,rTx] at hS
   obtain ⟨es1,he1⟩:∃ z,z=gSet (⟨(Go.Gm.nth t.ops i).key,0⟩:SpotD) (IntKind.wrap .i64 (((gGet (⟨(Go.Gm.nth t.ops i).key,0⟩:SpotD) es).getD 0)+1)) (gEns 0 (⟨(Go.Gm.nth t.ops i).key,0⟩:SpotD) (es,ck)).1:=⟨_,rfl⟩
   obtain ⟨ck1,hc1⟩:∃ z,z=(gEns 0 (⟨(Go.Gm.nth t.ops i).key,0⟩:SpotD) (es,ck)).2:=⟨_,rfl⟩
   rw [← he1,← hc1] at hS
   refine then_n (wp_seq ?_)
   refine region_any (by kernel_rfl) hS (by kernel_rfl) (qM rfl rfl (qf (oF 1 103 .is) r1 r1 (qf (oL false 1 103 .adr) r1 r1 (qM rfl rfl (qf (oF 1 103 .is) r1 r1 (qf (oL false 1 103 .adr) r1 r1 (qf (oB [(0,.tmp 50),(1,_)] [.int .i64 0,.int .i64 0] [(0,1),(1,1)] (.one rfl .t one_int (by kernel_rfl) (.one rfl qi one_int (by kernel_rfl) .nil))) r1 qz (qf (o_lookupG (ek:=(fun n:Int=>PV.int .i64 n)) (z0:=(0)) 102 Tryz.underlying160 keySpot (by kernel_rfl) (fun _ _=>⟨rfl,inR0⟩) .is (IsKeyOf.agg (enc:=encSpot) (k:=(⟨(Go.Gm.nth t.ops i).key,0⟩:SpotD)) (.pagg .t) rfl)) r2 r1 (qf (oB [(0,.tmp 47),(1,.tmp 52)] [.int .i64 0,.int .i64 0] [(0,1),(1,1)] (.one rfl .t one_int (by kernel_rfl) (.one rfl .t one_int (by kernel_rfl) .nil))) r2 qz (qf (o_mapUpdateG (ek:=(fun n:Int=>PV.int .i64 n)) 102 Tryz.underlying160 keySpot .is (IsKeyOf.agg (enc:=encSpot) (k:=(⟨(Go.Gm.nth t.ops i).key,(gGet (⟨(Go.Gm.nth t.ops i).key,0⟩:SpotD) es1).getD 0⟩:SpotD)) (.pagg .t) rfl) qi) r2 r1 qZ)))))))))) (by kernel_rfl) (by rw [hB];kernel_rfl) ?_
   clear hS;intro a w F hS
   obtain ⟨F,hS⟩:=hS.nm [53,52,51,50,49,48,47,46,45,44,43,42,41,40,39,38,37,36,35,34,32,31,30,29,28,27,26,25,24,23,6,5,3,2,1] [103,102,101,0] rfl rfl
   try dsimp only [List.map,stCells,xL,xM,Nat.reduceAdd,xD,xE,xT,xU,xC,xN,zCF,ldSF,rInt,rOp,rTx] at hS
   have hv1:∀ p,(gGet p es1).getD 0=if p=(⟨(Go.Gm.nth t.ops i).key,0⟩:SpotD) then (wcnt (t.ops.take i) (Go.Gm.nth t.ops i).key:Int)+1 else (gGet p es).getD 0:=fun p=>by rw [he1,gVal_entry,hwc]
   obtain ⟨es2,he2⟩:∃ z,z=(gPut (⟨(Go.Gm.nth t.ops i).key,(gGet (⟨(Go.Gm.nth t.ops i).key,0⟩:SpotD) es1).getD 0⟩:SpotD) 1 (es1,ck1)).1:=⟨_,rfl⟩
   obtain ⟨ck2,hc2⟩:∃ z,z=(gPut (⟨(Go.Gm.nth t.ops i).key,(gGet (⟨(Go.Gm.nth t.ops i).key,0⟩:SpotD) es1).getD 0⟩:SpotD) 1 (es1,ck1)).2:=⟨_,rfl⟩
   rw [← he2,← hc2] at hS
   have hR2:rightTL t.id [] t.ops=rightTL t.id (t.ops.take (i+1)) (t.ops.drop (i+1))∧SpotInv es2 (t.ops.take (i+1)):=⟨by rw [hrt,rightTL_at hil,if_neg (by rw [hk];decide),if_neg (by rw [hr];simp)],spot_step hsp hil hr rfl (fun p=>by rw [he2,gVal_put];dsimp only;rw [hv1,hv1,if_pos rfl])⟩
   refine then_n (wp_exit (then_x (block_x (then_n ?_))))
   refine region_z hS (qf (o_add .t qi) r1 qz (qM rfl rfl qZ)) hB [69,53,52,51,50,49,48,47,46,45,44,43,42,41,40,39,38,37,36,35,34,32,31,30,29,28,27,26,25,24,23,6,5,3,2,1] [103,102,101,0] rfl rfl ?_
   clear hS;intro a w F hS
   refine then_n ?_
   replace hS:=hS.ent (i:=25) (s':=.pv (.int .i64 ((i+1:Nat):Int))) rfl (.int (wrap_succ (by omega)))
   obtain ⟨F,hS⟩:=hS.nm [24,23,3,2,1,25] [101,0,102] rfl rfl
   exact ⟨((i+1),(es2),(ck2)),F,⟨by omega,hR2⟩,hS,by omega⟩
  have hr:(Go.Gm.nth t.ops i).read=true:=by simpa using hc4
  refine wp_skip (then_n (wp_seq ?_))
  refine region_z hS (qf (oF 2 103 .is) r1 r1 (qf (oL false 1 103 .adr) r1 r1 (qf (oF 0 101 .is) r1 r1 (qf (oL false 1 101 .adr) r1 r1 (qf (o_eql .t .t) r2 qz (qM rfl rfl (qm rfl rfl rfl rfl (qk rfl (fun h=>oF 1 103 .is) r2 r1 (qk rfl (fun h=>oL false 1 103 (.w h .adr)) r2 r1 (qk rfl (fun h=>oF 3 103 .is) r2 r1 (qk rfl (fun h=>oL false 1 103 (.w h .adr)) r2 r1 (qk rfl (fun h=>o_build (r:=[(0,.tmp 62),(1,.tmp 64)]) (zs:=[.int .i64 0,.int .i64 0]) (pl:=[(0,1),(1,1)]) (by kernel_rfl) (by kernel_rfl) (.one rfl (.w h) one_int (by kernel_rfl) (.one rfl (.w h) one_int (by kernel_rfl) .nil)) (by rfl)) r3 qz (qk rfl (fun h=>o_lookupG (ek:=(fun n:Int=>PV.int .i64 n)) (z0:=(0)) 102 Tryz.underlying160 keySpot (by kernel_rfl) (fun _ _=>⟨rfl,inR0⟩) (.w h .is) (IsKeyOf.agg (enc:=encSpot) (k:=(⟨(Go.Gm.nth t.ops i).key,(Go.Gm.nth t.ops i).nth⟩:SpotD)) (.pagg (.w h)) rfl)) r3 r1 (qk rfl (fun h=>o_eql (.w h) qi) r2 qz (qf (o_and2 .t .t) r2 qz qZ))))))))))))))) hB [68,67,66,65,64,63,62,61,60,59,58,57,56,55,54,36,35,34,32,31,30,29,28,27,26,25,24,23,6,5,3,2,1] [103,102,101,0] rfl rfl ?_
  clear hS;intro a w F hS
  refine then_n ?_
  refine cond_b hS rfl (fun hc5=>?_) (fun hc5=>?_)
  ·skip
   have hg:6=rightT t:=by rw [hT,hrt,rightTL_at hil,if_neg (by rw [hk];decide),if_pos ((spot_test hsp hk hr hid.1).1 (by simpa using hc5))]
   refine wp_seq ?_
   refine region_z hS (qf (oN qi) trivial qz qZ) hB [68,67,66,65,64,63,62,61,60,59,58,57,56,55,54,36,35,34,32,31,30,29,28,27,26,25,24,23,6,5,3,2,1] [103,102,101,0] rfl rfl ?_
   clear hS;intro a w F hS
   refine then_n (wp_ret (block_r (then_r (then_r (block_r (then_r ?_))))))
   refine ret_P hfr hS rfl (.tmp rfl .nil) (.one (.int hg))
  have hno:=fun h9=>(by simpa using hc5:¬ ((Go.Gm.nth t.ops i).tx=t.id∧(gGet (⟨(Go.Gm.nth t.ops i).key,(Go.Gm.nth t.ops i).nth⟩:SpotD) es).getD 0=0)) ((spot_test hsp hk hr hid.1).2 h9)
  obtain ⟨es2,he2⟩:∃ z,z=es:=⟨_,rfl⟩
  obtain ⟨ck2,hc2⟩:∃ z,z=ck:=⟨_,rfl⟩
  have hR2:rightTL t.id [] t.ops=rightTL t.id (t.ops.take (i+1)) (t.ops.drop (i+1))∧SpotInv es2 (t.ops.take (i+1)):=⟨by rw [hrt,rightTL_at hil,if_neg (by rw [hk];decide),if_neg hno],by rw [he2];exact spot_keep hsp hil hr⟩
  rw [← he2,← hc2] at hS
  refine wp_skip (block_n (then_n ?_))
  refine region_z hS (qf (o_add .t qi) r1 qz (qM rfl rfl qZ)) hB [69,68,67,66,65,64,63,62,61,60,59,58,57,56,55,54,36,35,34,32,31,30,29,28,27,26,25,24,23,6,5,3,2,1] [103,102,101,0] rfl rfl ?_
  clear hS;intro a w F hS
  refine then_n ?_
  replace hS:=hS.ent (i:=25) (s':=.pv (.int .i64 ((i+1:Nat):Int))) rfl (.int (wrap_succ (by omega)))
  obtain ⟨F,hS⟩:=hS.nm [24,23,3,2,1,25] [101,0,102] rfl rfl
  exact ⟨((i+1),(es2),(ck2)),F,⟨by omega,hR2⟩,hS,by omega⟩
 have hil:i=t.ops.length:=by simp at hc2;omega
 have hg:0=rightT t:=by rw [hT,hrt,rightTL_end hil]
 refine wp_exit (then_x (then_x (block_x (then_n (wp_seq ?_)))))
 refine region_z hS (qf (oN qi) trivial qz qZ) hB [2] [102,101,0] rfl rfl ?_
 clear hS;intro a w F hS
 refine then_n (wp_ret ?_)
 refine ret_P hfr hS rfl (.tmp rfl .nil) (.one (.int hg))
theorem refTxRight_c (t:TxD):FnP Tryz.prog 87 [.agg (rTx t)] (.int .i64 (rightT t)):=by
 refine FnP.mk Tryz.func87 rfl Tryz.ntmps87 rfl ?_
 intro B a w F hB hfr hS
 refine wp_seq ?_
 refine region_q hS (qf (oX 101 (.conv .t .agg)) r1 qz (qf (oN qi) trivial qz qZ)) hB ?_
 clear hS;intro a w F hS
 replace hS:=hS.sub
 obtain ⟨F,hS⟩:=hS.nm [2,1] [101,0] rfl rfl
 try dsimp only [RS.sub,SF.sub,CF.sub,csub,Anc.sub,List.map,zCF,rInt,rOp,rTx] at hS
 generalize Act.tau a 1=v1 at hS
 refine then_n (wp_seq (wp_seq ?_))
 refine region_z hS (qf (oF 0 101 .is) r1 r1 (qf (oL false 1 101 .adr) r1 r1 (qf (oP (refId_c t.id) Tryz.func125 (Args.one .t)) r1 qz (qf (o_not .t) r1 qz qZ)))) hB [8,2,1] [101,0] rfl rfl ?_
 clear hS;intro a w F hS
 refine then_n ?_
 refine cond_b hS rfl (fun hc0=>?_) (fun hc0=>?_)
 ·skip
  have hg:1=rightT t:=by unfold rightT;rw [if_pos (by rw [← idB_iff];simpa using hc0)]
  refine wp_seq ?_
  refine region_z hS (qf (oN qi) trivial qz qZ) hB [2,1] [101,0] rfl rfl ?_
  clear hS;intro a w F hS
  refine then_n (wp_ret (then_r ?_))
  refine ret_P hfr hS rfl (.tmp rfl .nil) (.one (.int hg))
 have hid:1≤t.id∧t.id≤1048575:=by rw [← idB_iff];simpa using hc0
 refine wp_skip (then_n (wp_seq (wp_seq ?_)))
 refine region_z hS (qf (oF 2 101 .is) r1 r1 (qf (oL false 1 101 .adr) r1 r1 (qf (o_len_sl Tryz.underlying32 .t) r1 qz (qf (o_gtr .t qi) r1 qz qZ)))) hB [12,2,1] [101,0] rfl rfl ?_
 clear hS;intro a w F hS
 refine then_n ?_
 refine cond_b hS rfl (fun hc1=>?_) (fun hc1=>?_)
 ·skip
  have hg:9=rightT t:=by unfold rightT;rw [if_neg (by omega),if_pos (by simp at hc1;omega)]
  refine wp_seq ?_
  refine region_z hS (qf (oN qi) trivial qz qZ) hB [2,1] [101,0] rfl rfl ?_
  clear hS;intro a w F hS
  refine then_n (wp_ret (then_r ?_))
  refine ret_P hfr hS rfl (.tmp rfl .nil) (.one (.int hg))
 have hlen:t.ops.length≤4095:=by simp at hc1;omega
 have hT:rightT t=rightTL t.id [] t.ops:=by unfold rightT;rw [if_neg (by omega),if_neg (by omega)]
 refine wp_skip (then_n (wp_seq (wp_seq ?_)))
 refine region_z hS (qf (oF 2 101 .is) r1 r1 (qf (oL false 1 101 .adr) r1 r1 (qf (o_len_sl Tryz.underlying32 .t) r1 qz (qf (oM qi) trivial qz qZ)))) hB [16,15,14,2,1] [101,0] rfl rfl ?_
 clear hS;intro a w F hS
 refine then_n (wp_block ?_)
 refine loop_keep (σ:=(Nat)) [1,2,14,15] [0,101] (fun s=>[(16,.pv (.int .i64 (s:Int)))]) (fun s=>[]) (fun s=>s≤t.ops.length∧(rightTL t.id [] t.ops=rightTL t.id (t.ops.take s) (t.ops.drop s))) (fun s=>t.ops.length - s) (0) hS ⟨rfl,rfl,rfl,rfl,rfl,trivial⟩ ⟨rfl,rfl,trivial⟩ ⟨Nat.zero_le _,rfl⟩ ?_
 clear hS;intro i a w F hC hS
 try dsimp only at hC
 obtain ⟨F,hS⟩:=hS.nm [16,15,14,2,1] [101,0] rfl rfl
 try dsimp only at hS
 obtain ⟨hi,hq⟩:=hC
 have hrt:=hq
 refine wp_seq ?_
 refine region_z hS (qf (o_lss .t .t) r2 qz qZ) hB [17,16,15,14,2,1] [101,0] rfl rfl ?_
 clear hS;intro a w F hS
 refine then_n (wp_seq ?_)
 refine cond_b hS rfl (fun hc2=>?_) (fun hc2=>?_)
 ·skip
  have hil:i<t.ops.length:=by simp at hc2;omega
  refine wp_skip (then_n (wp_seq (wp_block (wp_seq ?_))))
  refine region_q hS (qM rfl rfl (qf (o_indexAddr_sl (sz:=4) (.mk Tryz.underlying32 (by kernel_rfl)) (by intro x;rfl) .t .t (by omega) (by omega)) r2 qz (qf (oR true 4 .t) r1 qz (qf (oH [.bool false,.int .i64 0,.int .i64 0,.int .i64 0] 102) trivial qz (qN rfl rfl (qf (oA 4 102 .same .t) r2 r1 qZ)))))) hB ?_
  clear hS;intro a w F hS
  replace hS:=hS.sub
  obtain ⟨F,hS⟩:=hS.nm [20,19,18,17,16,15,14,4,3,2,1] [102,101,0] rfl rfl
  try dsimp only [RS.sub,SF.sub,CF.sub,csub,Anc.sub,List.map,stCells,xL,xM,Nat.reduceAdd,xD,xE,xT,xU,xC,xN,zCF,ldSF,rInt,rOp,rTx] at hS
  generalize Act.tau a 4=v4 at hS
  try simp only [Int.toNat_natCast] at hS
  refine then_n (wp_seq (wp_seq ?_))
  refine region_z hS (qf (oL true 4 102 .is) r1 r1 (qf (oP (refOpRight_c (Go.Gm.nth t.ops i)) Tryz.func126 (Args.one (.pagg .t))) r1 qz (qf (o_not .t) r1 qz qZ))) hB [23,22,21,20,19,18,17,16,15,14,4,3,2,1] [102,101,0] rfl rfl ?_
  clear hS;intro a w F hS
  refine then_n ?_
  refine cond_b hS rfl (fun hc3=>?_) (fun hc3=>?_)
  ·skip
   have hk:rightO (Go.Gm.nth t.ops i)=false:=by simpa using hc3
   have hg:1=rightT t:=by rw [hT,hrt,rightTL_at hil,if_pos hk]
   refine wp_seq ?_
   refine region_z hS (qf (oN qi) trivial qz qZ) hB [23,22,21,20,19,18,17,16,15,14,4,3,2,1] [102,101,0] rfl rfl ?_
   clear hS;intro a w F hS
   refine then_n (wp_ret (then_r (block_r (then_r (then_r (block_r (then_r ?_)))))))
   refine ret_P hfr hS rfl (.tmp rfl .nil) (.one (.int hg))
  have hk:rightO (Go.Gm.nth t.ops i)=true:=by simpa using hc3
  refine wp_skip (then_n (wp_seq ?_))
  refine region_any (by kernel_rfl) hS (by kernel_rfl) (qf (oF 0 102 .is) r1 r1 (qf (oL false 1 102 .adr) r1 r1 (qM rfl rfl (qk rfl (fun h=>oF 2 102 .is) r2 r1 (qk rfl (fun h=>oL false 1 102 (.w h .adr)) r2 r1 (qk rfl (fun h=>oF 0 101 .is) r2 r1 (qk rfl (fun h=>oL false 1 101 (.w h .adr)) r2 r1 (qk rfl (fun h=>o_eql (.w h) (.w h)) r3 qz (qf (o_and2 .t .t) r2 qz (qM rfl rfl (qk rfl (fun h=>oF 3 102 .is) r2 r1 (qk rfl (fun h=>oL false 1 102 (.w h .adr)) r2 r1 (qk rfl (fun h=>oF 2 101 .is) r2 r1 (qk rfl (fun h=>oL false 1 101 (.w h .adr)) r2 r1 (qm rfl rfl rfl rfl (qk rfl (fun h=>o_slice_hi (sz:=4) (.mk Tryz.underlying32 (by kernel_rfl)) (by intro x;rfl) (.w h) (.w h) (by omega) (by omega)) r3 qz (qk rfl (fun h=>oF 1 102 .is) r2 r1 (qk rfl (fun h=>oL false 1 102 (.w h .adr)) r2 r1 (qk rfl (fun h=>oP (rwrites_c (t.ops.take i) (Go.Gm.nth t.ops i).key (by rw [List.length_take];omega)) Tryz.func127 (Args.two (.w h) (.w h))) r3 qz (qk rfl (fun h=>o_gtr (.w h) (.w h)) r3 qz (qf (o_and2 .t .t) r2 qz qZ))))))))))))))))))))) (by kernel_rfl) (by rw [hB];kernel_rfl) ?_
  clear hS;intro a w F hS
  obtain ⟨F,hS⟩:=hS.nm [44,43,42,41,40,39,38,37,36,35,34,33,32,31,30,29,28,27,26,25,24,23,22,21,20,19,18,17,16,15,14,4,3,2,1] [102,101,0] rfl rfl
  try dsimp only [List.map,xD,xE,xT,xU,ldSF,rInt,rOp,rTx] at hS
  refine then_n ?_
  refine cond_b hS rfl (fun hc4=>?_) (fun hc4=>?_)
  ·skip
   have hyes:(Go.Gm.nth t.ops i).read=true∧(Go.Gm.nth t.ops i).tx=t.id∧(wcnt (t.ops.take i) (Go.Gm.nth t.ops i).key:Int)<(Go.Gm.nth t.ops i).nth:=by unfold wcnt;simpa [and_assoc] using hc4
   have hg:6=rightT t:=by rw [hT,hrt,rightTL_at hil,if_neg (by rw [hk];decide),if_pos hyes]
   refine wp_seq ?_
   refine region_z hS (qf (oN qi) trivial qz qZ) hB [44,43,42,41,40,39,38,37,36,35,34,33,32,31,30,29,28,27,26,25,24,23,22,21,20,19,18,17,16,15,14,4,3,2,1] [102,101,0] rfl rfl ?_
   clear hS;intro a w F hS
   refine then_n (wp_ret (block_r (then_r (then_r (block_r (then_r ?_))))))
   refine ret_P hfr hS rfl (.tmp rfl .nil) (.one (.int hg))
  have hno:¬ ((Go.Gm.nth t.ops i).read=true∧(Go.Gm.nth t.ops i).tx=t.id∧(wcnt (t.ops.take i) (Go.Gm.nth t.ops i).key:Int)<(Go.Gm.nth t.ops i).nth):=by unfold wcnt;intro h9;have h8:=hc4;simp [h9.1,h9.2.1] at h8;omega
  refine wp_skip (block_n (then_n ?_))
  refine region_z hS (qf (o_add .t qi) r1 qz (qM rfl rfl qZ)) hB [45,44,43,42,41,40,39,38,37,36,35,34,33,32,31,30,29,28,27,26,25,24,23,22,21,20,19,18,17,16,15,14,4,3,2,1] [102,101,0] rfl rfl ?_
  clear hS;intro a w F hS
  refine then_n ?_
  replace hS:=hS.ent (i:=16) (s':=.pv (.int .i64 ((i+1:Nat):Int))) rfl (.int (wrap_succ (by omega)))
  obtain ⟨F,hS⟩:=hS.nm [15,14,2,1,16] [101,0] rfl rfl
  exact ⟨(i+1),F,⟨by omega,(by rw [hrt,rightTL_at hil,if_neg (by rw [hk];decide),if_neg hno])⟩,hS,by omega⟩
 have hil:i=t.ops.length:=by simp at hc2;omega
 have hg:0=rightT t:=by rw [hT,hrt,rightTL_end hil]
 refine wp_exit (then_x (then_x (block_x (then_n (wp_seq ?_)))))
 refine region_z hS (qf (oN qi) trivial qz qZ) hB [2] [101,0] rfl rfl ?_
 clear hS;intro a w F hS
 refine then_n (wp_ret ?_)
 refine ret_P hfr hS rfl (.tmp rfl .nil) (.one (.int hg))
end Go.Proofs.YtcfgcpcakdknkaaGreat
