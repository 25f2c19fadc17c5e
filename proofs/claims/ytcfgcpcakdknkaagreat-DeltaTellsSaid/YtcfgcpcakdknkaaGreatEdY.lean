/- EdA,EdB,EdC,EdD,in one text. -/
import Derived.Test.YtcfgcpcakdknkaaGreatEdX
import Derived.Test.YtcfgcpcakdknkaaGreatHiX
import Derived.Test.YtcfgcpcakdknkaaGreatOrX
import Derived.Test.YtcfgcpcakdknkaaGreatTxX
import Derived.Test.YtcfgcpcakdknkaaGreatHiL
import Derived.Test.YtcfgcpcakdknkaaGreatOr2
import Derived.Test.YtcfgcpcakdknkaaGreatDaX
namespace Go.Proofs.YtcfgcpcakdknkaaGreat
open Go Go.Gm
set_option linter.unusedVariables false
set_option linter.unusedSimpArgs false
set_option maxHeartbeats 4000000
set_option maxRecDepth 8000
structure EdD where
 kind:Int
 t:TxD
 o:OrdD
 place:Int
 deriving DecidableEq,Inhabited
def doH (g:HistD) (e:EdD):HistD×Int:=if e.kind=0 then insertH g e.t else if e.kind=1 then deleteH g e.t.id else if e.kind=2 then amendH g e.t else if e.kind=3 then reorderH g e.o else if e.kind=4 then moveH g e.o.key e.t.id e.place else (zeroH,5)
def lightE (e:EdD):Prop:=e.t.ops.length≤24∧e.o.txs.length≤24
instance (e:EdD):Decidable (lightE e):=by unfold lightE;exact inferInstance
def lightL (l:List EdD):Prop:=l.length≤24 ∧ ∀ e ∈ l,lightE e
instance (l:List EdD):Decidable (lightL l):=by unfold lightL;exact inferInstance
def playStep (g:HistD) (e:EdD):HistD:=if (doH g e).2=0 then (doH g e).1 else g
end Go.Proofs.YtcfgcpcakdknkaaGreat
namespace Go.Proofs.YtcfgcpcakdknkaaGreat
open Go Go.Gm
set_option linter.unusedVariables false
set_option linter.unusedSimpArgs false
set_option maxHeartbeats 4000000
set_option maxRecDepth 8000
def Fit (n:Nat) (g:HistD):Prop:=(g.txs.length≤n ∧ ∀ t ∈ g.txs,t.ops.length≤24)∧g.orders.length≤24*n ∧ ∀ o ∈ g.orders,o.txs.length≤n
theorem Fit.small {n:Nat} {g:HistD} (h:Fit n g) (hn:n≤30):Small g:=by
 obtain ⟨⟨h1,h2⟩,h3,h4⟩:=h
 exact ⟨⟨by omega,fun t ht=>by have:=h2 t ht;omega⟩,by omega,fun o ho=>by have:=h4 o ho;omega⟩
theorem Fit.zero:Fit 0 zeroH:=⟨⟨by simp [zeroH],fun t ht=>by cases ht⟩,by simp [zeroH],fun o ho=>by cases ho⟩
theorem Fit.up {n:Nat} {g:HistD} (h:Fit n g):Fit (n+1) g:=⟨⟨by have:=h.1.1;omega,h.1.2⟩,by have:=h.2.1;omega,fun o ho=>by have:=h.2.2 o ho;omega⟩
theorem Fit.none {n:Nat} : Fit n zeroH:=by
 induction n with
 | zero=>exact Fit.zero
 | succ n ih=>exact ih.up
theorem insK_mem2 {os:List OrdD} {ks:List Int} {t:TxD} {o:OrdD} (h:o ∈ insS t os ks):o ∈ os∨o.txs = []:=by
 unfold insS at h
 split at h
 · have key:∀ (ks:List Int) (os:List OrdD),o ∈ ks.foldl insK os→o ∈ os∨o.txs = []:=by
     intro ks
     induction ks with
     | nil=>intro os h;exact .inl h
     | cons k ks ih=>
       intro os h
       rcases ih _ h with h | h
       · rcases insK_mem h with h | h
         · exact .inl h
         · exact .inr (by rw [h])
       · exact .inr h
   exact key ks os h
 · exact .inl h
theorem settle_fit {n:Nat} {t:TxD} {os:List OrdD} (ht:t.ops.length≤24) (h1:os.length≤24*n) (h2:∀ o ∈ os,o.txs.length≤n):(settleO t os).length≤24*(n+1) ∧ ∀ o ∈ settleO t os,o.txs.length≤n+1:=by
 have hk:=keysT_len t
 have hl:(insS t os (keysT t)).length≤os.length+(keysT t).length:=by
   unfold insS
   split
   · have key:∀ (ks:List Int) (os:List OrdD),(ks.foldl insK os).length≤os.length+ks.length:=by
       intro ks
       induction ks with
       | nil=>intro os;simp
       | cons k ks ih=>intro os;have h1:=ih (insK os k);have h2:=insK_len os k;rw [List.foldl_cons,List.length_cons];omega
     exact key _ _
   · omega
 unfold settleO
 refine ⟨Nat.le_trans (List.length_filter_le _ _) (by rw [List.length_map];omega),fun o ho=>?_⟩
 obtain ⟨o',ho',e⟩:=List.mem_map.1 (List.mem_filter.1 ho).1
 have hlen:o'.txs.length≤n:=by
   rcases insK_mem2 ho' with h | h
   · exact h2 o' h
   · rw [h];simp
 rw [← e]
 unfold ordF
 show (if _ then _ else _:List Int).length≤_
 split
 · unfold withO;split
   · omega
   · simp;omega
 · unfold withoutO
   exact Nat.le_trans (List.length_filter_le _ _) (by omega)
theorem turned_fit {n:Nat} {g:HistD} {key:Int} {rule:List Int→List Int×Int} (hr:∀ l,(rule l).2=0→(rule l).1.length≤l.length) (h:Fit n g):Fit n (turnedH g key rule).1:=by
 unfold turnedH
 split
 · exact Fit.none
 · split
   · exact Fit.none
   · split
     · exact Fit.none
     · rename_i h1 h2 h3
       refine ⟨h.1,by show (List.set _ _ _).length≤_;rw [List.length_set];exact h.2.1,fun o ho=>?_⟩
       rcases List.mem_or_eq_of_mem_set ho with h4 | h4
       · exact h.2.2 o h4
       · have hk:isK OrdD.key key g.orders=true:=by simpa using h2
         have hlt:=(isK_low (right_rise (Decidable.not_not.1 h1)).2 hk).1
         have:=hr _ (Decidable.not_not.1 h3)
         have:=h.2.2 _ (nth_mem hlt)
         rw [h4];show (rule _).1.length≤n;omega
theorem Fit.doH {n:Nat} {g:HistD} {e:EdD} (h:Fit n g) (he:lightE e):Fit (n+1) (doH g e).1:=by
 have hset:∀ t:TxD,t.ops.length≤24 → ∀ txs:List TxD,txs.length≤n+1→(∀ t ∈ txs,t.ops.length≤24)→Fit (n+1) ⟨txs,settleO t g.orders⟩:=fun t ht txs h1 h2=>by
   obtain ⟨h3,h4⟩:=settle_fit ht h.2.1 h.2.2
   exact ⟨⟨h1,h2⟩,h3,h4⟩
 unfold Go.Proofs.YtcfgcpcakdknkaaGreat.doH
 split
 · unfold insertH
   split
   · exact Fit.none
   · split
     · exact Fit.none
     · refine hset _ he.1 _ ?_ fun t ht=>?_
       · have:=h.1.1;rw [List.length_append,List.length_append,List.length_take,List.length_drop];simp;omega
       · rw [List.mem_append,List.mem_append] at ht
         rcases ht with (ht | ht) | ht
         · exact h.1.2 t (List.mem_of_mem_take ht)
         · rw [List.mem_singleton.1 ht];exact he.1
         · exact h.1.2 t (List.mem_of_mem_drop ht)
 · split
   · unfold deleteH
     split
     · exact Fit.none
     · split
       · exact Fit.none
       · split
         · exact Fit.none
         · refine hset _ (by simp [noneT]) _ ?_ fun t ht=>?_
           · have:=h.1.1;rw [List.length_append,List.length_take,List.length_drop];omega
           · rw [List.mem_append] at ht
             rcases ht with ht | ht
             · exact h.1.2 t (List.mem_of_mem_take ht)
             · exact h.1.2 t (List.mem_of_mem_drop ht)
   · split
     · unfold amendH
       split
       · exact Fit.none
       · split
         · exact Fit.none
         · refine hset _ he.1 _ ?_ fun t ht=>?_
           · have:=h.1.1;rw [List.length_set];omega
           · rcases List.mem_or_eq_of_mem_set ht with ht | ht
             · exact h.1.2 t ht
             · rw [ht];exact he.1
     · split
       · refine (turned_fit (fun l h0=>?_) h).up
         unfold ruleR at h0 ⊢
         split at h0
         · rename_i hp;rw [if_pos hp,hp.length_eq];exact Nat.le_refl _
         · simp at h0
       · split
         · exact (turned_fit (fun l h0=>by show (moveO l _ _).1.length≤_;exact moveO_len _ _ _) h).up
         · exact Fit.none
theorem Fit.step {n:Nat} {g:HistD} {e:EdD} (h:Fit n g) (he:lightE e):Fit (n+1) (playStep g e):=by
 unfold playStep
 split
 · exact h.doH he
 · exact h.up
end Go.Proofs.YtcfgcpcakdknkaaGreat
namespace Go.Proofs.YtcfgcpcakdknkaaGreat
open Go Go.Gm
set_option linter.unusedVariables false
set_option linter.unusedSimpArgs false
set_option maxHeartbeats 4000000
set_option maxRecDepth 8000
theorem eqT_c (x y : List TxD) (f : FuncId) (fn : Func) (cps : List PV) (hf : Tryz.prog.funcs[f]? = some fn) (hb : fn.body.isSome = true) (hnn : (fn.name == "runtime.NumGoroutine") = false) (hw : ∀ u v : TxD, FnP Tryz.prog f (.agg (rTx u) :: .agg (rTx v) :: cps) (.bool (decide (u = v)))) : FnP Tryz.prog 85 [.sl rTx x, .sl rTx y, .clos f cps] (.bool (decide (x = y))) := by
 refine FnP.mk Tryz.func85 rfl Tryz.ntmps85 rfl ?_
 intro B a w F hB hfr hS
 have hxl:=Sat.lenSl hS (i:=0) rfl
 refine wp_seq ?_
 refine region_z hS (qf (oN .cb) trivial qz qZ) hB [6,2,1,0] [0] rfl rfl ?_
 clear hS;intro a w F hS
 refine then_n (wp_seq (wp_seq ?_))
 refine region_z hS (qM rfl rfl (qf (o_len_sl Tryz.underlying27 .t) r1 qz (qM rfl rfl (qf (o_len_sl Tryz.underlying27 .t) r1 qz (qf (o_neq .t .t) r2 qz qZ))))) hB [14,6,2,1,0] [0] rfl rfl ?_
 clear hS;intro a w F hS
 refine then_n ?_
 refine cond_b hS rfl (fun hc0=>?_) (fun hc0=>?_)
 ·skip
  have hg:false=decide (x=y):=(decide_eq_false fun e=>by subst e;simp at hc0).symm
  refine wp_seq ?_
  refine region_z hS (qf (oN .cb) trivial qz qZ) hB [6,2,1,0] [0] rfl rfl ?_
  clear hS;intro a w F hS
  refine then_n (wp_ret (then_r ?_))
  refine ret_P hfr hS rfl (.tmp rfl .nil) (.one (.bool hg))
 have hln:x.length=y.length:=by simp at hc0;omega
 refine wp_skip (then_n (wp_seq (wp_seq ?_)))
 refine region_z hS (qM rfl rfl (qf (o_len_sl Tryz.underlying27 .t) r1 qz (qf (oM qi) trivial qz qZ))) hB [17,16,15,6,2,1] [0] rfl rfl ?_
 clear hS;intro a w F hS
 refine then_n (wp_block ?_)
 refine loop_keep (σ:=(Nat)) [1,2,6,15,16] [0] (fun s=>[(17,.pv (.int .i64 (s:Int)))]) (fun s=>[]) (fun s=>s≤x.length∧(∀ q,q<s→Go.Gm.nth x q=Go.Gm.nth y q)) (fun s=>x.length - s) (0) hS ⟨rfl,rfl,rfl,rfl,rfl,rfl,trivial⟩ ⟨rfl,trivial⟩ ⟨Nat.zero_le _,fun q hq=>absurd hq (Nat.not_lt_zero q)⟩ ?_
 clear hS;intro i a w F hC hS
 try dsimp only at hC
 obtain ⟨F,hS⟩:=hS.nm [17,16,15,6,2,1] [0] rfl rfl
 try dsimp only at hS
 obtain ⟨hi,hq⟩:=hC
 refine wp_seq ?_
 refine region_z hS (qf (o_lss .t .t) r2 qz qZ) hB [18,17,16,15,6,2,1] [0] rfl rfl ?_
 clear hS;intro a w F hS
 refine then_n (wp_seq ?_)
 refine cond_b hS rfl (fun hc1=>?_) (fun hc1=>?_)
 ·skip
  have hil:i<x.length:=by simp at hc1;omega
  refine wp_skip (then_n (wp_seq (wp_block (wp_seq ?_))))
  refine region_q hS (qM rfl rfl (qf (o_indexAddr_sl (sz:=3) (.mk Tryz.underlying27 (by kernel_rfl)) (by intro x;rfl) .t .t (by omega) (by omega)) r2 qz (qf (oR true 3 .t) r1 qz (qf (oH [.int .i64 0,.bool false,.slice none 0 0] 101) trivial qz (qN rfl rfl (qf (oA 3 101 .same .t) r2 r1 qZ)))))) hB ?_
  clear hS;intro a w F hS
  replace hS:=hS.sub
  obtain ⟨F,hS⟩:=hS.nm [21,20,19,18,17,16,15,8,7,6,2,1] [101,0] rfl rfl
  try dsimp only [RS.sub,SF.sub,CF.sub,csub,Anc.sub,List.map,stCells,xL,xM,Nat.reduceAdd,xD,xE,xT,xU,xC,xN,zCF,ldSF,rTx] at hS
  generalize Act.tau a 8=v8 at hS
  try simp only [Int.toNat_natCast] at hS
  refine then_n (wp_seq ?_)
  refine region_q hS (qM rfl rfl (qM rfl rfl (qf (o_indexAddr_sl (sz:=3) (.mk Tryz.underlying27 (by kernel_rfl)) (by intro x;rfl) .t .t (by omega) (by omega)) r2 qz (qf (oR true 3 .t) r1 qz (qf (oH [.int .i64 0,.bool false,.slice none 0 0] 102) trivial qz (qf (oA 3 102 .same .t) r2 r1 qZ)))))) hB ?_
  clear hS;intro a w F hS
  replace hS:=hS.sub
  obtain ⟨F,hS⟩:=hS.nm [25,24,23,22,21,20,19,18,17,16,15,9,8,7,6,2,1] [102,101,0] rfl rfl
  try dsimp only [RS.sub,SF.sub,CF.sub,csub,Anc.sub,List.map,stCells,xL,xM,Nat.reduceAdd,xD,xE,xT,xU,xC,xN,zCF,ldSF,rTx] at hS
  generalize Act.tau a 9=v9 at hS
  try simp only [Int.toNat_natCast] at hS
  refine then_n (wp_seq ?_)
  refine region_z hS (qM rfl rfl (qf (oL true 3 101 .is) r1 r1 (qf (oL true 3 102 .is) r1 r1 (qf (o_callClosP (avs:=[.agg (rTx (Go.Gm.nth x i)),.agg (rTx (Go.Gm.nth y i))]) .t (hw (Go.Gm.nth x i) (Go.Gm.nth y i)) hf hb hnn (Args.two (.pagg .t) (.pagg .t))) r3 qz (qf (o_not .t) r1 qz qZ))))) hB [30,29,28,27,26,25,24,23,22,21,20,19,18,17,16,15,9,8,7,6,2,1] [102,101,0] rfl rfl ?_
  clear hS;intro a w F hS
  refine then_n ?_
  refine cond_b hS rfl (fun hc2=>?_) (fun hc2=>?_)
  ·skip
   have hg:false=decide (x=y):=(decide_eq_false fun e=>by subst e;simp at hc2).symm
   refine wp_seq ?_
   refine region_z hS (qf (oN .cb) trivial qz qZ) hB [30,29,28,27,26,25,24,23,22,21,20,19,18,17,16,15,9,8,7,6,2,1] [102,101,0] rfl rfl ?_
   clear hS;intro a w F hS
   refine then_n (wp_ret (block_r (then_r (then_r (block_r (then_r ?_))))))
   refine ret_P hfr hS rfl (.tmp rfl .nil) (.one (.bool hg))
  have hne:(Go.Gm.nth x i)=(Go.Gm.nth y i):=by simpa using hc2
  refine wp_skip (block_n (then_n ?_))
  refine region_z hS (qf (o_add .t qi) r1 qz (qM rfl rfl qZ)) hB [31,30,29,28,27,26,25,24,23,22,21,20,19,18,17,16,15,9,8,7,6,2,1] [102,101,0] rfl rfl ?_
  clear hS;intro a w F hS
  refine then_n ?_
  replace hS:=hS.ent (i:=17) (s':=.pv (.int .i64 ((i+1:Nat):Int))) rfl (.int (wrap_succ (by omega)))
  obtain ⟨F,hS⟩:=hS.nm [16,15,6,2,1,17] [0] rfl rfl
  exact ⟨(i+1),F,⟨by omega,(fun q h9=>by rcases Nat.lt_or_eq_of_le (Nat.le_of_lt_succ h9) with h8 | h8;exact hq q h8;rw [h8];exact hne)⟩,hS,by omega⟩
 have hil:i=x.length:=by simp at hc1;omega
 have hg:true=decide (x=y):=(decide_eq_true (list_same hln fun j hj=>hq j (by omega))).symm
 refine wp_exit (then_x (then_x (block_x (then_n (wp_seq ?_)))))
 refine region_z hS (qf (oN .cb) trivial qz qZ) hB [6] [0] rfl rfl ?_
 clear hS;intro a w F hS
 refine then_n (wp_ret ?_)
 refine ret_P hfr hS rfl (.tmp rfl .nil) (.one (.bool hg))
theorem eqR_c (x y : List OrdD) (f : FuncId) (fn : Func) (cps : List PV) (hf : Tryz.prog.funcs[f]? = some fn) (hb : fn.body.isSome = true) (hnn : (fn.name == "runtime.NumGoroutine") = false) (hw : ∀ u v : OrdD, FnP Tryz.prog f (.agg (rOrd u) :: .agg (rOrd v) :: cps) (.bool (decide (u = v)))) : FnP Tryz.prog 86 [.sl rOrd x, .sl rOrd y, .clos f cps] (.bool (decide (x = y))) := by
 refine FnP.mk Tryz.func86 rfl Tryz.ntmps86 rfl ?_
 intro B a w F hB hfr hS
 have hxl:=Sat.lenSl hS (i:=0) rfl
 refine wp_seq ?_
 refine region_z hS (qf (oN .cb) trivial qz qZ) hB [6,2,1,0] [0] rfl rfl ?_
 clear hS;intro a w F hS
 refine then_n (wp_seq (wp_seq ?_))
 refine region_z hS (qM rfl rfl (qf (o_len_sl Tryz.underlying28 .t) r1 qz (qM rfl rfl (qf (o_len_sl Tryz.underlying28 .t) r1 qz (qf (o_neq .t .t) r2 qz qZ))))) hB [14,6,2,1,0] [0] rfl rfl ?_
 clear hS;intro a w F hS
 refine then_n ?_
 refine cond_b hS rfl (fun hc0=>?_) (fun hc0=>?_)
 ·skip
  have hg:false=decide (x=y):=(decide_eq_false fun e=>by subst e;simp at hc0).symm
  refine wp_seq ?_
  refine region_z hS (qf (oN .cb) trivial qz qZ) hB [6,2,1,0] [0] rfl rfl ?_
  clear hS;intro a w F hS
  refine then_n (wp_ret (then_r ?_))
  refine ret_P hfr hS rfl (.tmp rfl .nil) (.one (.bool hg))
 have hln:x.length=y.length:=by simp at hc0;omega
 refine wp_skip (then_n (wp_seq (wp_seq ?_)))
 refine region_z hS (qM rfl rfl (qf (o_len_sl Tryz.underlying28 .t) r1 qz (qf (oM qi) trivial qz qZ))) hB [17,16,15,6,2,1] [0] rfl rfl ?_
 clear hS;intro a w F hS
 refine then_n (wp_block ?_)
 refine loop_keep (σ:=(Nat)) [1,2,6,15,16] [0] (fun s=>[(17,.pv (.int .i64 (s:Int)))]) (fun s=>[]) (fun s=>s≤x.length∧(∀ q,q<s→Go.Gm.nth x q=Go.Gm.nth y q)) (fun s=>x.length - s) (0) hS ⟨rfl,rfl,rfl,rfl,rfl,rfl,trivial⟩ ⟨rfl,trivial⟩ ⟨Nat.zero_le _,fun q hq=>absurd hq (Nat.not_lt_zero q)⟩ ?_
 clear hS;intro i a w F hC hS
 try dsimp only at hC
 obtain ⟨F,hS⟩:=hS.nm [17,16,15,6,2,1] [0] rfl rfl
 try dsimp only at hS
 obtain ⟨hi,hq⟩:=hC
 refine wp_seq ?_
 refine region_z hS (qf (o_lss .t .t) r2 qz qZ) hB [18,17,16,15,6,2,1] [0] rfl rfl ?_
 clear hS;intro a w F hS
 refine then_n (wp_seq ?_)
 refine cond_b hS rfl (fun hc1=>?_) (fun hc1=>?_)
 ·skip
  have hil:i<x.length:=by simp at hc1;omega
  refine wp_skip (then_n (wp_seq (wp_block (wp_seq ?_))))
  refine region_q hS (qM rfl rfl (qf (o_indexAddr_sl (sz:=2) (.mk Tryz.underlying28 (by kernel_rfl)) (by intro x;rfl) .t .t (by omega) (by omega)) r2 qz (qf (oR true 2 .t) r1 qz (qf (oH [.int .i64 0,.slice none 0 0] 101) trivial qz (qN rfl rfl (qf (oA 2 101 .same .t) r2 r1 qZ)))))) hB ?_
  clear hS;intro a w F hS
  replace hS:=hS.sub
  obtain ⟨F,hS⟩:=hS.nm [21,20,19,18,17,16,15,8,7,6,2,1] [101,0] rfl rfl
  try dsimp only [RS.sub,SF.sub,CF.sub,csub,Anc.sub,List.map,stCells,xL,xM,Nat.reduceAdd,xD,xE,xT,xU,xC,xN,zCF,ldSF,rOrd] at hS
  generalize Act.tau a 8=v8 at hS
  try simp only [Int.toNat_natCast] at hS
  refine then_n (wp_seq ?_)
  refine region_q hS (qM rfl rfl (qM rfl rfl (qf (o_indexAddr_sl (sz:=2) (.mk Tryz.underlying28 (by kernel_rfl)) (by intro x;rfl) .t .t (by omega) (by omega)) r2 qz (qf (oR true 2 .t) r1 qz (qf (oH [.int .i64 0,.slice none 0 0] 102) trivial qz (qf (oA 2 102 .same .t) r2 r1 qZ)))))) hB ?_
  clear hS;intro a w F hS
  replace hS:=hS.sub
  obtain ⟨F,hS⟩:=hS.nm [25,24,23,22,21,20,19,18,17,16,15,9,8,7,6,2,1] [102,101,0] rfl rfl
  try dsimp only [RS.sub,SF.sub,CF.sub,csub,Anc.sub,List.map,stCells,xL,xM,Nat.reduceAdd,xD,xE,xT,xU,xC,xN,zCF,ldSF,rOrd] at hS
  generalize Act.tau a 9=v9 at hS
  try simp only [Int.toNat_natCast] at hS
  refine then_n (wp_seq ?_)
  refine region_z hS (qM rfl rfl (qf (oL true 2 101 .is) r1 r1 (qf (oL true 2 102 .is) r1 r1 (qf (o_callClosP (avs:=[.agg (rOrd (Go.Gm.nth x i)),.agg (rOrd (Go.Gm.nth y i))]) .t (hw (Go.Gm.nth x i) (Go.Gm.nth y i)) hf hb hnn (Args.two (.pagg .t) (.pagg .t))) r3 qz (qf (o_not .t) r1 qz qZ))))) hB [30,29,28,27,26,25,24,23,22,21,20,19,18,17,16,15,9,8,7,6,2,1] [102,101,0] rfl rfl ?_
  clear hS;intro a w F hS
  refine then_n ?_
  refine cond_b hS rfl (fun hc2=>?_) (fun hc2=>?_)
  ·skip
   have hg:false=decide (x=y):=(decide_eq_false fun e=>by subst e;simp at hc2).symm
   refine wp_seq ?_
   refine region_z hS (qf (oN .cb) trivial qz qZ) hB [30,29,28,27,26,25,24,23,22,21,20,19,18,17,16,15,9,8,7,6,2,1] [102,101,0] rfl rfl ?_
   clear hS;intro a w F hS
   refine then_n (wp_ret (block_r (then_r (then_r (block_r (then_r ?_))))))
   refine ret_P hfr hS rfl (.tmp rfl .nil) (.one (.bool hg))
  have hne:(Go.Gm.nth x i)=(Go.Gm.nth y i):=by simpa using hc2
  refine wp_skip (block_n (then_n ?_))
  refine region_z hS (qf (o_add .t qi) r1 qz (qM rfl rfl qZ)) hB [31,30,29,28,27,26,25,24,23,22,21,20,19,18,17,16,15,9,8,7,6,2,1] [102,101,0] rfl rfl ?_
  clear hS;intro a w F hS
  refine then_n ?_
  replace hS:=hS.ent (i:=17) (s':=.pv (.int .i64 ((i+1:Nat):Int))) rfl (.int (wrap_succ (by omega)))
  obtain ⟨F,hS⟩:=hS.nm [16,15,6,2,1,17] [0] rfl rfl
  exact ⟨(i+1),F,⟨by omega,(fun q h9=>by rcases Nat.lt_or_eq_of_le (Nat.le_of_lt_succ h9) with h8 | h8;exact hq q h8;rw [h8];exact hne)⟩,hS,by omega⟩
 have hil:i=x.length:=by simp at hc1;omega
 have hg:true=decide (x=y):=(decide_eq_true (list_same hln fun j hj=>hq j (by omega))).symm
 refine wp_exit (then_x (then_x (block_x (then_n (wp_seq ?_)))))
 refine region_z hS (qf (oN .cb) trivial qz qZ) hB [6] [0] rfl rfl ?_
 clear hS;intro a w F hS
 refine then_n (wp_ret ?_)
 refine ret_P hfr hS rfl (.tmp rfl .nil) (.one (.bool hg))
end Go.Proofs.YtcfgcpcakdknkaaGreat
namespace Go.Proofs.YtcfgcpcakdknkaaGreat
open Go Go.Gm
set_option linter.unusedVariables false
set_option linter.unusedSimpArgs false
set_option maxHeartbeats 4000000
set_option maxRecDepth 8000
instance (l:List TxD):Decidable (SmallT l):=by unfold SmallT;exact inferInstance
instance (l:List OrdD):Decidable (SmallO l):=by unfold SmallO;exact inferInstance
instance (g:HistD):Decidable (Small g):=by unfold Small;exact inferInstance
end Go.Proofs.YtcfgcpcakdknkaaGreat
