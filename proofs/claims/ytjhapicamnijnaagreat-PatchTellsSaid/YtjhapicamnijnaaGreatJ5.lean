/- Texts put together. No condition beyond those that each theorem says. -/
import Derived.Test.YtjhapicamnijnaaGreatJ4
import Derived.Test.YtjhapicamnijnaaGreatJ2
namespace Go.Proofs.YtjhapicamnijnaaGreat
open Go Go.Gm
set_option linter.unusedVariables false
set_option linter.unusedSimpArgs false
set_option maxHeartbeats 4000000
set_option maxRecDepth 8000
def Zbp (h:Zn):Prop:=h.txs.length≤12∧h.orders.length≤24∧(∀ j,j<h.txs.length→(Go.Gm.nth h.txs j).ops.length≤24) ∧ ∀ j,j<h.orders.length→(Go.Gm.nth h.orders j).txs.length≤24
instance (h:Zn):Decidable (Zbp h):=by unfold Zbp;exact inferInstance
def Zjn (d:Zip):Prop:=Zbp ⟨d.was,d.old⟩∧Zbp ⟨d.now,d.new⟩
instance (d:Zip):Decidable (Zjn d):=by unfold Zjn;exact inferInstance
theorem Zni {α:Type} [Inhabited α] {q:List α} {x:α} (h:x ∈ q):∃ j,j<q.length∧Go.Gm.nth q j=x:=by
 obtain ⟨j,hj,e⟩:=List.getElem_of_mem h
 exact ⟨j,hj,by rw [Zz hj];exact e⟩
theorem Zjn.ok {d:Zip} (h:Zjn d):DOk d:=by
 obtain ⟨⟨h1,h2,h3,h4⟩,h5,h6,h7,h8⟩:=h
 dsimp only at h1 h2 h3 h4 h5 h6 h7 h8
 refine ⟨⟨by omega,fun t ht=>?_⟩,⟨by omega,fun t ht=>?_⟩,⟨by omega,fun t ht=>?_⟩,⟨by omega,fun t ht=>?_⟩⟩ <;> obtain ⟨j,hj,rfl⟩:=Zni ht
 · have:=h3 j hj;omega
 · have:=h7 j hj;omega
 · have:=h4 j hj;omega
 · have:=h8 j hj;omega
theorem Zjh (u:Zn):FnP Tryz.prog 7 [.agg (Zj u)] (.bool (decide (Zbp u))):=by
 refine FnP.mk Tryz.func7 rfl Tryz.ntmps7 rfl ?_
 intro B a w F hB hfr hS
 obtain ⟨hxl,hyl⟩:=Sat.lenHist hS (i:=0) rfl
 refine wp_seq ?_
 refine Zc hS (qx 101 r1 qB) hB [2,1] [101,0] (fun _=>rfl) (fun _=>rfl) fun τ a w F hS=>?_
 try dsimp only [RS.sub,SF.sub,CF.sub,csub,Anc.sub,List.map,zCF] at hS
 generalize τ 1=v1 at hS
 refine Za (wp_seq (wp_seq ?_))
 refine Zb hS (qg 0 101 r1 r1 (qa 101 r1 r1 (qu Tryz.underlying22 r1 (qf (ZaR .t qi) r1 qz (qM rfl rfl (qv 1 101 rfl r2 r1 (qw 101 rfl r2 r1 (qk rfl (fun h=>ZaS Tryz.underlying23 (.w h)) r2 qz (qk rfl (fun h=>ZaR (.w h) qi) r2 qz (qf (ZaI .t .t) r2 qz qZ)))))))))) hB [16,2,1] [101,0] rfl rfl fun a w F hS=>Za ?_
 refine Zd hS rfl (fun hc0=>?_) (fun hc0=>?_)
 ·skip
  have hg:false=decide (Zbp u):=by
    rw [eq_comm,decide_eq_false_iff_not]
    rintro ⟨g1,g2,g3,g4⟩
    simp at hc0;omega
  refine wp_seq ?_
  refine Zb hS qB hB [2,1] [101,0] rfl rfl fun a w F hS=>Za (wp_ret (Zg ?_))
  refine Zr hfr hS rfl rfl rfl (.bool hg)
 have hb:u.txs.length≤12∧u.orders.length≤24:=by simp at hc0;omega
 refine wp_skip (Za (wp_seq (wp_seq ?_)))
 refine Zb hS (qg 0 101 r1 r1 (qa 101 r1 r1 (qu Tryz.underlying22 r1 (qJ qZ)))) hB [20,19,18,2,1] [101,0] rfl rfl fun a w F hS=>Za (wp_block ?_)
 obtain ⟨F,hS⟩:=hS.nm [20,19,18,1] [101,0] rfl rfl
 refine Zbe (σ:=Nat) (fun s=>(⟨[(1,.pv (.is v1)),(18,.pv (.sl rTx u.txs)),(19,.pv (.int .i64 u.txs.length)),(20,.pv (.int .i64 s))],[(0,frame B),(101,.pt (.val v1) 25 [.pv (.sl rTx u.txs),.pv (.sl Zs u.orders)])]⟩:En)) (fun s=>s≤u.txs.length ∧ ∀ j,j<s→(Go.Gm.nth u.txs j).ops.length≤24) (fun s=>u.txs.length - s) 0 hS ⟨Nat.zero_le _,fun j hj=>absurd hj (Nat.not_lt_zero j)⟩ ?_
 clear hS;intro i a w F hC hS
 try dsimp only at hC
 try dsimp only at hS
 obtain ⟨hi,hq⟩:=hC
 refine wp_seq ?_
 refine Zb hS (qL r2) hB [21,20,19,18,1] [101,0] rfl rfl fun a w F hS=>Za (wp_seq ?_)
 refine Zd hS rfl (fun hc1=>?_) (fun hc1=>?_)
 ·skip
  have hil:i<u.txs.length:=by simp at hc1;omega
  refine wp_skip (Za (wp_seq (wp_block (wp_seq ?_))))
  refine Zc hS (qy 3 Tryz.underlying22 r2 (qf (oR true 3 .t) r1 qz (qf (oH [.int .i64 0,.bool false,.slice none 0 0] 102) trivial qz (qS 3 102 r2 r1 qZ)))) hB [20,19,18,4,1] [102,101,0] (fun _=>rfl) (fun _=>rfl) fun τ a w F hS=>?_
  try dsimp only [RS.sub,SF.sub,CF.sub,csub,Anc.sub,List.map,Zf,xL,xM,Nat.reduceAdd,xD,xE,xT,xU,xC,xN,zCF,ldSF] at hS
  generalize τ 4=v4 at hS
  refine Za (wp_seq ?_)
  refine Zb hS (qg 2 102 r1 r1 (qa 102 r1 r1 (qu Tryz.underlying38 r1 (qf (ZaR .t qi) r1 qz qZ)))) hB [27,20,19,18,1] [101,0] rfl rfl fun a w F hS=>Za ?_
  refine Zd hS rfl (fun hc2=>?_) (fun hc2=>?_)
  ·skip
   have hg:false=decide (Zbp u):=by
     rw [eq_comm,decide_eq_false_iff_not]
     rintro ⟨g1,g2,g3,g4⟩
     have:=g3 i hil;rw [Int.toNat_natCast] at hc2;simp at hc2;omega
   refine wp_seq ?_
   refine Zb hS qB hB [20,19,18,2,1] [101,0] rfl rfl fun a w F hS=>Za (wp_ret (Zm (Zg (Zg (Zm (Zg ?_))))))
   refine Zr hfr hS rfl rfl rfl (.bool hg)
  have hqi:(Go.Gm.nth u.txs i).ops.length≤24:=by rw [Int.toNat_natCast] at hc2;simp at hc2;omega
  refine wp_skip (Zi (Za ?_))
  refine Zb hS (qp r1 (qM rfl rfl qZ)) hB [20,19,18,1] [101,0] rfl rfl fun a w F hS=>Za ?_
  replace hS:=hS.ent (i:=20) (s':=.pv (.int .i64 ((i+1:Nat):Int))) rfl (.int (Ze (by omega)))
  obtain ⟨F,hS⟩:=hS.nm [20,19,18,1] [101,0] rfl rfl
  exact ⟨i+1,F,⟨by omega,fun j hj=>by rcases Nat.lt_or_eq_of_le (Nat.le_of_lt_succ hj) with h | h;exact hq j h;rw [h];exact hqi⟩,hS,by omega⟩
 have hT:∀ j,j<u.txs.length→(Go.Gm.nth u.txs j).ops.length≤24:=fun j hj=>hq j (by simp at hc1;omega)
 clear hq hi
 refine wp_exit (Zk (Zk (Zq (Za (wp_seq (wp_seq ?_))))))
 refine Zb hS (qg 1 101 r1 r1 (qa 101 r1 r1 (qu Tryz.underlying23 r1 (qJ qZ)))) hB [32,31,30] [0] rfl rfl fun a w F hS=>Za (wp_block ?_)
 obtain ⟨F,hS⟩:=hS.nm [32,31,30] [0] rfl rfl
 refine Zbe (σ:=Nat) (fun s=>(⟨[(30,.pv (.sl Zs u.orders)),(31,.pv (.int .i64 u.orders.length)),(32,.pv (.int .i64 s))],[(0,frame B)]⟩:En)) (fun s=>s≤u.orders.length ∧ ∀ j,j<s→(Go.Gm.nth u.orders j).txs.length≤24) (fun s=>u.orders.length - s) 0 hS ⟨Nat.zero_le _,fun j hj=>absurd hj (Nat.not_lt_zero j)⟩ ?_
 clear hS;intro i a w F hC hS
 try dsimp only at hC
 try dsimp only at hS
 obtain ⟨hi,hq⟩:=hC
 refine wp_seq ?_
 refine Zb hS (qL r2) hB [33,32,31,30] [0] rfl rfl fun a w F hS=>Za (wp_seq ?_)
 refine Zd hS rfl (fun hc3=>?_) (fun hc3=>?_)
 ·skip
  have hil:i<u.orders.length:=by simp at hc3;omega
  refine wp_skip (Za (wp_seq (wp_block (wp_seq ?_))))
  refine Zc hS (qy 2 Tryz.underlying23 r2 (qf (oR true 2 .t) r1 qz (qf (oH [.int .i64 0,.slice none 0 0] 103) trivial qz (qS 2 103 r2 r1 qZ)))) hB [32,31,30,6] [103,0] (fun _=>rfl) (fun _=>rfl) fun τ a w F hS=>?_
  try dsimp only [RS.sub,SF.sub,CF.sub,csub,Anc.sub,List.map,Zf,xL,xM,Nat.reduceAdd,xD,xE,xT,xU,xC,xN,zCF,ldSF] at hS
  generalize τ 6=v6 at hS
  refine Za (wp_seq ?_)
  refine Zb hS (qg 1 103 r1 r1 (qa 103 r1 r1 (qu Tryz.underlying41 r1 (qf (ZaR .t qi) r1 qz qZ)))) hB [39,32,31,30] [0] rfl rfl fun a w F hS=>Za ?_
  refine Zd hS rfl (fun hc4=>?_) (fun hc4=>?_)
  ·skip
   have hg:false=decide (Zbp u):=by
     rw [eq_comm,decide_eq_false_iff_not]
     rintro ⟨g1,g2,g3,g4⟩
     have:=g4 i hil;rw [Int.toNat_natCast] at hc4;simp at hc4;omega
   refine wp_seq ?_
   refine Zb hS qB hB [32,31,30,2] [0] rfl rfl fun a w F hS=>Za (wp_ret (Zm (Zg (Zg (Zm (Zg ?_))))))
   refine Zr hfr hS rfl rfl rfl (.bool hg)
  have hqi:(Go.Gm.nth u.orders i).txs.length≤24:=by rw [Int.toNat_natCast] at hc4;simp at hc4;omega
  refine wp_skip (Zi (Za ?_))
  refine Zb hS (qp r1 (qM rfl rfl qZ)) hB [32,31,30] [0] rfl rfl fun a w F hS=>Za ?_
  replace hS:=hS.ent (i:=32) (s':=.pv (.int .i64 ((i+1:Nat):Int))) rfl (.int (Ze (by omega)))
  obtain ⟨F,hS⟩:=hS.nm [32,31,30] [0] rfl rfl
  exact ⟨i+1,F,⟨by omega,fun j hj=>by rcases Nat.lt_or_eq_of_le (Nat.le_of_lt_succ hj) with h | h;exact hq j h;rw [h];exact hqi⟩,hS,by omega⟩
 have hO:∀ j,j<u.orders.length→(Go.Gm.nth u.orders j).txs.length≤24:=fun j hj=>hq j (by simp at hc3;omega)
 have hg:true=decide (Zbp u):=by rw [eq_comm,decide_eq_true_eq];exact ⟨hb.1,hb.2,hT,hO⟩
 refine wp_exit (Zk (Zk (Zq (Za (wp_seq ?_)))))
 refine Zb hS qB hB [2] [0] rfl rfl fun a w F hS=>Za (wp_ret ?_)
 refine Zr hfr hS rfl rfl rfl (.bool hg)
instance (h:Zn):Decidable (Zbp h):=by unfold Zbp;exact inferInstance
theorem Zbp.small {h:Zn} (hl:Zbp h):ZaK h:=by
 obtain ⟨h1,h2,h3,h4⟩:=hl
 refine ⟨⟨by omega,fun t ht=>?_⟩,by omega,fun o ho=>?_⟩
 · obtain ⟨j,hj,e⟩:=List.getElem_of_mem ht
   have:=h3 j hj
   rw [Zz hj,e] at this;omega
 · obtain ⟨j,hj,e⟩:=List.getElem_of_mem ho
   have:=h4 j hj
   rw [Zz hj,e] at this;omega
section
set_option linter.unusedSectionVars false
variable {α:Type} {κ:α→Int} {t x:α} {l out r:List α} {d:Bool}
def putGR (κ:α→Int) (t:α):List α→Bool→List α
 | [],d=>if d=true then [] else [t]
 | x :: l,d=>(if d=false∧κ t≤κ x then [t] else [])++(if κ x=κ t then [] else [x])++putGR κ t l (d || decide (κ t≤κ x))
theorem Zbw (hA:d=false∧κ t≤κ x) (hB:¬ κ x=κ t) (h:out++putGR κ t (x :: l) d=r):out ++ [t] ++ [x] ++ putGR κ t l true=r:=by
 rw [← h,putGR,if_pos hA,if_neg hB];simp [hA.2]
theorem Zbu (hA:d=false∧κ t≤κ x) (hB:κ x=κ t) (h:out++putGR κ t (x :: l) d=r):out ++ [t] ++ putGR κ t l true=r:=by
 rw [← h,putGR,if_pos hA,if_pos hB];simp [hA.2]
theorem Zku (hA:¬ (d=false∧κ t≤κ x)):(d || decide (κ t≤κ x))=d:=by
 cases d
 · simp at hA ⊢;omega
 · rfl
theorem Zby (hA:¬ (d=false∧κ t≤κ x)) (hB:¬ κ x=κ t) (h:out++putGR κ t (x :: l) d=r):out ++ [x] ++ putGR κ t l d=r:=by
 rw [← h,putGR,if_neg hA,if_neg hB,Zku hA];simp
theorem Zbt (hA:¬ (d=false∧κ t≤κ x)) (hB:κ x=κ t) (h:out++putGR κ t (x :: l) d=r):out++putGR κ t l d=r:=by
 rw [← h,putGR,if_neg hA,if_pos hB,Zku hA];simp
theorem ZaW:∀ l:List α,putGR κ t l true=l.filter fun x=>!decide (κ x=κ t)
 | []=>rfl
 | x :: l=>by
   rw [putGR,if_neg (by simp),List.nil_append,Bool.true_or,ZaW l]
   split
   · rename_i h;rw [List.filter_cons_of_neg (by simpa using h)];rfl
   · rename_i h;rw [List.filter_cons_of_pos (by simpa using h)];rfl
theorem ZeF (l:List α) (d:Bool):(putGR κ t l d).length≤l.length+1:=by
 have h2:∀ l:List α,(putGR κ t l true).length≤l.length:=fun l=>by rw [ZaW];exact List.length_filter_le _ _
 induction l generalizing d with
 | nil=>cases d <;> simp [putGR]
 | cons x l ih=>
   have h1:=ih (d || decide (κ t≤κ x))
   rw [putGR,List.length_append,List.length_append]
   have h3:=h2 l
   by_cases hA:d=false∧κ t≤κ x
   · rw [show (d || decide (κ t≤κ x))=true by simp [hA.2],if_pos hA]
     split <;> simp <;> omega
   · rw [if_neg hA]
     split <;> simp <;> omega
theorem Zc0 {k:Int} (h:∀ x ∈ l,k<κ x):(l.filter fun x=>!decide (κ x=k))=l:=by
 rw [List.filter_eq_self]
 intro x hx
 have:=h x hx
 simp;omega
theorem ZeN {k:Int} : lowK κ k (x :: l)=if κ x<k then lowK κ k l+1 else 0:=by
 unfold lowK
 split
 · rename_i h1;rw [List.takeWhile_cons_of_pos (by simpa using h1),List.length_cons]
 · rename_i h1;rw [List.takeWhile_cons_of_neg (by simpa using h1)];rfl
theorem ZaX {k:Int} : isK κ k (x :: l)=(decide (κ x=k) || isK κ k l):=by unfold isK;rw [List.any_cons]
theorem Zji {k:Int} (h:∀ x ∈ l,k<κ x):isK κ k l=false:=by
 unfold isK
 rw [List.any_eq_false]
 intro x hx
 have:=h x hx
 simp;omega
theorem ZeS (hs:l.Pairwise fun a b=>κ a<κ b) (hk:isK κ (κ t) l=false):putGR κ t l false=l.take (lowK κ (κ t) l) ++ [t] ++ l.drop (lowK κ (κ t) l):=by
 induction l with
 | nil=>rfl
 | cons x l ih=>
   rw [List.pairwise_cons] at hs
   rw [ZaX,Bool.or_eq_false_iff,decide_eq_false_iff_not] at hk
   rw [putGR,if_neg hk.1,ZeN]
   by_cases h:κ x<κ t
   · rw [if_neg (by omega),if_pos h,show (false || decide (κ t≤κ x))=false by simp;omega,ih hs.2 hk.2];simp
   · rw [if_pos ⟨rfl,by omega⟩,if_neg h,show (false || decide (κ t≤κ x))=true by simp;omega,ZaW,Zc0 fun y hy=>by have:=hs.1 y hy;omega];simp
theorem Zez (hs:l.Pairwise fun a b=>κ a<κ b) (hk:isK κ (κ t) l=true):putGR κ t l false=l.set (lowK κ (κ t) l) t:=by
 induction l with
 | nil=>simp [isK] at hk
 | cons x l ih=>
   rw [List.pairwise_cons] at hs
   rw [putGR,ZeN]
   by_cases h:κ x<κ t
   · rw [ZaX,decide_eq_false (by omega),Bool.false_or] at hk
     rw [if_neg (by omega),if_neg (by omega),if_pos h,show (false || decide (κ t≤κ x))=false by simp;omega,ih hs.2 hk];rfl
   · rw [if_pos ⟨rfl,by omega⟩,if_neg h,show (false || decide (κ t≤κ x))=true by simp;omega,ZaW,Zc0 fun y hy=>by have:=hs.1 y hy;omega]
     have hx:κ x=κ t:=by
       refine Decidable.byContradiction fun h9=>?_
       rw [ZaX,decide_eq_false h9,Bool.false_or,Zji fun y hy=>by have:=hs.1 y hy;omega] at hk
       cases hk
     rw [if_pos hx];rfl
theorem ZfO {k:Int} (hs:l.Pairwise fun a b=>κ a<κ b) (hk:isK κ k l=true):(l.filter fun x=>!decide (κ x=k))=l.take (lowK κ k l)++l.drop (lowK κ k l+1):=by
 induction l with
 | nil=>simp [isK] at hk
 | cons x l ih=>
   rw [List.pairwise_cons] at hs
   rw [ZeN]
   by_cases h:κ x<k
   · rw [ZaX,decide_eq_false (by omega),Bool.false_or] at hk
     rw [List.filter_cons_of_pos (by simp;omega),if_pos h,ih hs.2 hk];rfl
   · have hx:κ x=k:=by
       refine Decidable.byContradiction fun h9=>?_
       rw [ZaX,decide_eq_false h9,Bool.false_or,Zji fun y hy=>by have:=hs.1 y hy;omega] at hk
       cases hk
     rw [List.filter_cons_of_neg (by simpa using hx),if_neg h,Zc0 fun y hy=>by have:=hs.1 y hy;omega];simp
theorem ZdJ {y:α} (h:y ∈ putGR κ t l d):(y=t∧d=false)∨(y ∈ l∧κ y≠κ t):=by
 induction l generalizing d with
 | nil=>cases d <;> simp [putGR] at h;exact .inl ⟨h,rfl⟩
 | cons x l ih=>
   rw [putGR,List.mem_append,List.mem_append] at h
   rcases h with (h | h) | h
   · split at h
     · rename_i h1;exact .inl ⟨by simpa using h,h1.1⟩
     · cases h
   · split at h
     · cases h
     · rename_i h1
       have e:y=x:=by simpa using h
       subst e
       exact .inr ⟨by simp,h1⟩
   · rcases ih h with ⟨h1,h2⟩ | ⟨h1,h2⟩
     · rw [Bool.or_eq_false_iff] at h2;exact .inl ⟨h1,h2.1⟩
     · exact .inr ⟨by simp [h1],h2⟩
theorem ZcB (hs:l.Pairwise fun a b=>κ a<κ b):(putGR κ t l d).Pairwise fun a b=>κ a<κ b:=by
 induction l generalizing d with
 | nil=>cases d <;> simp [putGR]
 | cons x l ih=>
   rw [List.pairwise_cons] at hs
   have hf:=hs.2.filter fun x=>!decide (κ x=κ t)
   rw [putGR]
   by_cases hA:d=false∧κ t≤κ x
   · rw [if_pos hA,show (d || decide (κ t≤κ x))=true by simp [hA.2],ZaW]
     have h1:∀ y ∈ l.filter (fun x=>!decide (κ x=κ t)),κ x<κ y:=fun y hy=>hs.1 y (List.mem_filter.1 hy).1
     split
     · rw [List.append_nil,List.singleton_append,List.pairwise_cons]
       exact ⟨fun y hy=>by have:=h1 y hy;omega,hf⟩
     · rename_i h2
       rw [List.append_assoc,List.singleton_append,List.singleton_append,List.pairwise_cons,List.pairwise_cons]
       refine ⟨fun y hy=>?_,h1,hf⟩
       rcases List.mem_cons.1 hy with rfl | hy
       · omega
       · have:=h1 y hy;omega
   · rw [if_neg hA,List.nil_append]
     have ih2:=ih (d:=d || decide (κ t≤κ x)) hs.2
     split
     · simpa using ih2
     · rename_i h2
       rw [List.singleton_append,List.pairwise_cons]
       refine ⟨fun y hy=>?_,ih2⟩
       rcases ZdJ hy with ⟨rfl,h3⟩ | ⟨h3,_⟩
       · rw [Bool.or_eq_false_iff] at h3
         have:=of_decide_eq_false h3.2
         omega
       · exact hs.1 y h3
end
def getO (os:List OrdD) (k:Int):List Int:=((os.find? fun o=>decide (o.key=k)).map OrdD.txs).getD []
theorem ZX {o:OrdD} {os:List OrdD} {k:Int} : getO (o :: os) k=if o.key=k then o.txs else getO os k:=by
 unfold getO
 rw [List.find?_cons]
 by_cases h:o.key=k <;> simp [h]
theorem Zcf {os:List OrdD} {k:Int} (h:∀ o ∈ os,o.key≠k):getO os k = []:=by
 unfold getO
 rw [List.find?_eq_none.2 fun o ho=>by simpa using h o ho];rfl
theorem ZcH {os:List OrdD} {o:OrdD} (hs:os.Pairwise fun a b=>a.key<b.key) (h:o ∈ os):getO os o.key=o.txs:=by
 induction os with
 | nil=>cases h
 | cons x os ih=>
   rw [List.pairwise_cons] at hs
   rw [ZX]
   rcases List.mem_cons.1 h with rfl | h
   · rw [if_pos rfl]
   · have:=hs.1 o h
     rw [if_neg (by omega),ih hs.2 h]
theorem ZeY {os:List OrdD} {k:Int} (h:getO os k≠[]):(⟨k,getO os k⟩:OrdD) ∈ os:=by
 induction os with
 | nil=>exact absurd rfl h
 | cons x os ih=>
   rw [ZX] at h ⊢
   by_cases e:x.key=k
   · rw [if_pos e];subst e;simp
   · rw [if_neg e] at h ⊢;simp [ih h]
def NE (os:List OrdD):Prop:=∀ o ∈ os,o.txs≠[]
theorem Zke:∀ {a b:List OrdD},(a.Pairwise fun x y=>x.key<y.key)→(b.Pairwise fun x y=>x.key<y.key)→(∀ o,o ∈ a ↔ o ∈ b)→a=b
 | [],[],_,_,_=>rfl
 | [],y :: b,_,_,h=>by have:=(h y).2 (by simp);cases this
 | x :: a,[],_,_,h=>by have:=(h x).1 (by simp);cases this
 | x :: a,y :: b,ha,hb,h=>by
   rw [List.pairwise_cons] at ha hb
   have e:x=y:=by
     rcases List.mem_cons.1 ((h x).1 (by simp)) with e | h1
     · exact e
     · rcases List.mem_cons.1 ((h y).2 (by simp)) with e | h2
       · exact e.symm
       · have:=ha.1 y h2;have:=hb.1 x h1;omega
   subst e
   rw [Zke (a:=a) (b:=b) ha.2 hb.2 fun o=>?_]
   constructor
   · intro ho
     rcases List.mem_cons.1 ((h o).1 (by simp [ho])) with e | h1
     · have:=ha.1 o ho;rw [e] at this;omega
     · exact h1
   · intro ho
     rcases List.mem_cons.1 ((h o).2 (by simp [ho])) with e | h1
     · have:=hb.1 o ho;rw [e] at this;omega
     · exact h1
theorem Zna {a b:List OrdD} (ha:a.Pairwise fun x y=>x.key<y.key) (hb:b.Pairwise fun x y=>x.key<y.key) (na:NE a) (nb:NE b) (h:∀ k,getO a k=getO b k):a=b:=by
 refine Zke ha hb fun o=>⟨fun ho=>?_,fun ho=>?_⟩
 · have h1:=ZcH ha ho
   have h2:getO b o.key≠[]:=by rw [← h,h1];exact na o ho
   have h3:=ZeY h2
   rw [← h,h1] at h3;exact h3
 · have h1:=ZcH hb ho
   have h2:getO a o.key≠[]:=by rw [h,h1];exact nb o ho
   have h3:=ZeY h2
   rw [h,h1] at h3;exact h3
def ZcN (t:TxD) (l:List Int) (k:Int):List Int:=if t.done=true∧0<wcnt t.ops k then withO l t.id else withoutO l t.id
theorem Zim {os:List OrdD} (hs:os.Pairwise fun a b=>a.key<b.key) (k:Int):getO (os.filter fun o=>!decide (o.txs = [])) k=getO os k:=by
 induction os with
 | nil=>rfl
 | cons x os ih=>
   rw [List.pairwise_cons] at hs
   rw [ZX]
   by_cases e:x.txs = []
   · rw [List.filter_cons_of_neg (by simpa using e),ih hs.2]
     split
     · rename_i hk
       rw [e,Zcf fun o ho=>by have:=hs.1 o ho;omega]
     · rfl
   · rw [List.filter_cons_of_pos (by simpa using e),ZX,ih hs.2]
theorem ZlP {t:TxD} {os:List OrdD} {k:Int} : getO (os.map (Zh6 t)) k=if isK OrdD.key k os=true then ZcN t (getO os k) k else []:=by
 induction os with
 | nil=>simp [getO,isK]
 | cons x os ih=>
   rw [List.map_cons,ZX,ZX,ZaX,ih]
   by_cases e:x.key=k
   · subst e
     rw [if_pos (show (Zh6 t x).key=x.key from rfl),if_pos rfl]
     simp [Zh6,ZcN]
   · rw [if_neg (show ¬ (Zh6 t x).key=k from e),if_neg e,decide_eq_false e,Bool.false_or]
theorem Zg8 {k' k:Int} : ∀ {os:List OrdD},(os.Pairwise fun a b=>a.key<b.key)→getO (ZhU k' os) k=getO os k
 | [],_=>by unfold ZhU;rw [ZX];split <;> rfl
 | x :: os,h=>by
   rw [List.pairwise_cons] at h
   unfold ZhU
   split
   · rw [ZX,ZX,Zg8 h.2]
   · split
     · rfl
     · rw [ZX]
       split
       · rename_i h1 h2 h3
         have h3:k' = k:=h3
         subst h3
         refine (Zcf fun o ho=>?_).symm
         rcases List.mem_cons.1 ho with rfl | ho
         · exact h2
         · have:=h.1 o ho;omega
       · rfl
theorem Zi3 {k' k:Int} : ∀ {os:List OrdD},isK OrdD.key k (ZhU k' os)=(isK OrdD.key k os || decide (k' = k))
 | []=>by simp [ZhU,isK]
 | x :: os=>by
   unfold ZhU
   split
   · rw [ZaX,ZaX,Zi3,Bool.or_assoc]
   · split
     · rename_i h2
       rw [ZaX]
       by_cases e:k' = k
       · simp [h2,e]
       · simp [e]
     · rw [ZaX,Bool.or_comm]
theorem Zjc:∀ (ks:List Int) {os:List OrdD} (k:Int),Zcb OrdD.key os→getO (ks.foldl Zeg os) k=getO os k∧isK OrdD.key k (ks.foldl Zeg os)=(isK OrdD.key k os || decide (k ∈ ks))
 | [],os,k,_=>by simp
 | k' :: ks,os,k,h=>by
   obtain ⟨h1,h2⟩:=Zjc ks k (insK_rise k' h)
   rw [List.foldl_cons,h1,h2,Zgk k' h,Zg8 (ZG.1 h),Zi3]
   refine ⟨rfl,?_⟩
   rw [Bool.or_assoc]
   congr 1
   rw [Bool.eq_iff_iff]
   simp only [Bool.or_eq_true,decide_eq_true_eq,List.mem_cons]
   exact ⟨fun h=>h.elim (fun h=>.inl h.symm) .inr,fun h=>h.elim (fun h=>.inl h.symm) .inr⟩
theorem ZkF {os:List OrdD} {k:Int} (h:isK OrdD.key k os=false):getO os k = []:=by
 refine Zcf fun o ho e=>?_
 unfold isK at h
 rw [List.any_eq_false] at h
 exact h o ho (by simpa using e)
theorem ZfP {t:TxD} {os:List OrdD} (h:Zcb OrdD.key os) (k:Int):getO (settleO t os) k=ZcN t (getO os k) k:=by
 unfold settleO
 have hins:getO (ZcY t os (ZJ t)) k=getO os k∧isK OrdD.key k (ZcY t os (ZJ t))=(isK OrdD.key k os || (t.done && decide (k ∈ ZJ t)))∧Zcb OrdD.key (ZcY t os (ZJ t)):=by
   unfold ZcY
   split
   · rename_i hd
     obtain ⟨h1,h2⟩:=Zjc (ZJ t) k h
     refine ⟨h1,by rw [h2,hd,Bool.true_and],?_⟩
     have key:∀ (ks:List Int) (os:List OrdD),Zcb OrdD.key os→Zcb OrdD.key (ks.foldl Zeg os):=by
       intro ks
       induction ks with
       | nil=>intro os h;exact h
       | cons k ks ih=>intro os h;exact ih _ (insK_rise k h)
     exact key _ _ h
   · rename_i hd
     exact ⟨rfl,by simp [hd],h⟩
 obtain ⟨h1,h2,h3⟩:=hins
 have hm:((ZcY t os (ZJ t)).map (Zh6 t)).Pairwise fun a b=>a.key<b.key:=List.pairwise_map.2 ((ZG.1 h3).imp fun h=>h)
 rw [Zim hm,ZlP,h1,h2]
 split
 · rfl
 · rename_i hk
   simp only [Bool.or_eq_true,not_or,Bool.and_eq_true,decide_eq_true_eq] at hk
   have hk1:isK OrdD.key k os=false:=by simpa using hk.1
   rw [ZkF hk1]
   unfold ZcN
   rw [if_neg fun h9=>hk.2 ⟨h9.1,ZbP.2 h9.2⟩];rfl
theorem Zfu {t:TxD} {os:List OrdD} (h:Zcb OrdD.key os) (hs:Za3 os):(settleO t os).Pairwise (fun a b=>a.key<b.key)∧NE (settleO t os):=by
 have h3:=(Zf0 (t:=t) h hs (ZJ t)).1
 have hm:((ZcY t os (ZJ t)).map (Zh6 t)).Pairwise fun a b=>a.key<b.key:=List.pairwise_map.2 ((ZG.1 h3).imp fun h=>h)
 refine ⟨hm.filter _,fun o ho=>?_⟩
 have:=(List.mem_filter.1 ho).2
 simpa using this
def Z8 (t:TxD) (os out:List OrdD) (k:Int):List OrdD:=putGR OrdD.key ⟨k,ZcN t (getO os k) k⟩ out (decide (ZcN t (getO os k) k = []))
def ZL (t:TxD) (os:List OrdD):List Int:=(ZJ t).foldl Zb2 (ZaO (os.map OrdD.key))
def ZbS (t:TxD) (os:List OrdD):List OrdD:=(ZL t os).foldl (Z8 t os) os
theorem Ziv {o:OrdD} {os:List OrdD} {d:Bool} (hs:os.Pairwise fun a b=>a.key<b.key) (k:Int):getO (putGR OrdD.key o os d) k=if k=o.key then (if d=true then [] else o.txs) else getO os k:=by
 have hf:∀ os:List OrdD,getO (os.filter fun x=>!decide (x.key=o.key)) k=if k=o.key then [] else getO os k:=by
   intro os
   induction os with
   | nil=>split <;> rfl
   | cons x os ih=>
     by_cases e:x.key=o.key
     · rw [List.filter_cons_of_neg (by simpa using e),ih,ZX]
       split
       · rfl
       · rename_i h;rw [if_neg (by omega)]
     · rw [List.filter_cons_of_pos (by simpa using e),ZX,ZX,ih]
       split
       · rename_i h;rw [if_neg (by omega)]
       · rfl
 cases d with
 | true=>rw [ZaW,hf];simp
 | false=>
   simp only [Bool.false_eq_true,if_false]
   induction os with
   | nil=>
     show getO [o] k=_
     rw [ZX]
     by_cases e:o.key=k
     · rw [if_pos e,if_pos e.symm]
     · rw [if_neg e,if_neg fun h=>e h.symm]
   | cons x os ih=>
     rw [List.pairwise_cons] at hs
     rw [putGR]
     by_cases hA:o.key≤x.key
     · rw [if_pos ⟨rfl,hA⟩,show (false || decide (o.key≤x.key))=true by simp [hA],ZaW,List.append_assoc,List.singleton_append,ZX]
       by_cases e:o.key=k
       · rw [if_pos e,if_pos e.symm]
       · have e':¬ k=o.key:=fun h=>e h.symm
         rw [if_neg e,if_neg e',ZX]
         by_cases e2:x.key=o.key
         · rw [if_pos e2,List.nil_append,hf,if_neg e',if_neg (show ¬ x.key=k by omega)]
         · rw [if_neg e2,List.singleton_append,ZX,hf,if_neg e']
     · rw [if_neg fun h=>hA h.2,if_neg (by omega),List.nil_append,List.singleton_append,show (false || decide (o.key≤x.key))=false by simp;omega,ZX,ZX,ih hs.2]
       split
       · rename_i h;rw [if_neg (by omega)]
       · rfl
theorem Zja {t:TxD} {os:List OrdD} : ∀ (ks:List Int) {out:List OrdD},(out.Pairwise fun a b=>a.key<b.key)→NE out→ks.Nodup→((ks.foldl (Z8 t os) out).Pairwise fun a b=>a.key<b.key)∧NE (ks.foldl (Z8 t os) out) ∧ ∀ k,getO (ks.foldl (Z8 t os) out) k=if k ∈ ks then ZcN t (getO os k) k else getO out k
 | [],out,h1,h2,_=>⟨h1,h2,fun k=>by simp⟩
 | k' :: ks,out,h1,h2,hn=>by
   rw [List.nodup_cons] at hn
   have hst:NE (Z8 t os out k'):=fun o ho=>by
     rcases ZdJ ho with ⟨rfl,h3⟩ | ⟨h3,_⟩
     · simpa using h3
     · exact h2 o h3
   obtain ⟨g1,g2,g3⟩:=Zja ks (out:=Z8 t os out k') (ZcB h1) hst hn.2
   refine ⟨g1,g2,fun k=>?_⟩
   rw [List.foldl_cons,g3]
   by_cases hk:k ∈ ks
   · rw [if_pos hk,if_pos (by simp [hk])]
   · rw [if_neg hk]
     unfold Z8
     rw [Ziv h1]
     by_cases e:k=k'
     · subst e
       rw [if_pos rfl,if_pos (show k ∈ k :: ks by simp)]
       show (if decide (ZcN t (getO os k) k = [])=true then [] else ZcN t (getO os k) k)=_
       split
       · rename_i h;exact (of_decide_eq_true h).symm
       · rfl
     · rw [if_neg e,if_neg (by simp [e,hk])]
theorem ZgV:∀ (b:List Int) {a:List Int},ZgQ a→ZgQ (b.foldl Zb2 a) ∧ ∀ x,x ∈ b.foldl Zb2 a ↔ x ∈ a∨x ∈ b
 | [],a,h=>⟨h,fun x=>by simp⟩
 | y :: b,a,h=>by
   obtain ⟨h1,h2⟩:=ZgG (n:=y) h
   obtain ⟨g1,g2⟩:=ZgV b h1
   exact ⟨g1,fun x=>by rw [List.foldl_cons,g2,h2];simp [or_assoc]⟩
theorem ZdU {t:TxD} {os:List OrdD} (h:Zcb OrdD.key os) (hs:Za3 os) (hn:NE os):ZbS t os=settleO t os:=by
 obtain ⟨s1,s2⟩:=Zfu (t:=t) h hs
 obtain ⟨k1,k2⟩:=ZgV (ZJ t) (ZaJ (os.map OrdD.key)).1
 obtain ⟨d1,d2,d3⟩:=Zja (t:=t) (os:=os) (ZL t os) (ZG.1 h) hn (k1.imp fun h=>Int.ne_of_lt h)
 refine Zna d1 s1 d2 s2 fun k=>?_
 rw [show getO (ZbS t os) k=_ from d3 k,ZfP h]
 split
 · rfl
 · rename_i hk
   have hk2:=fun h9=>hk ((k2 k).2 h9)
   have e1:getO os k = []:=Zcf fun o ho e=>hk2 (.inl ((ZaJ _).2 k |>.2 (by rw [List.mem_map];exact ⟨o,ho,e⟩)))
   rw [e1]
   unfold ZcN
   rw [if_neg fun h9=>hk2 (.inr (ZbP.2 h9.2))];rfl
theorem Zk7 (l:List TxD) (t:TxD) (hl:l.length≤1000000):FnP Tryz.prog 129 [.sl rTx l,.agg (rTx t)] (.sl rTx (putGR TxD.id t l false)):=by
 refine FnP.mk Tryz.func129 rfl Tryz.ntmps129 rfl ?_
 intro B a w F hB hfr hS
 refine wp_seq ?_
 refine Zc hS (qx 101 r1 (qC qZ)) hB [4,3,0] [101,0] (fun _=>rfl) (fun _=>rfl) fun τ a w F hS=>?_
 try dsimp only [RS.sub,SF.sub,CF.sub,csub,Anc.sub,List.map,zCF,Zj,rTx,Zs,Zv,rInt,rOp] at hS
 generalize τ 3=v3 at hS
 refine Za (wp_seq ?_)
 refine Zb hS (qC qZ) hB [5,4,3,0] [101,0] rfl rfl fun a w F hS=>Za (wp_seq ?_)
 refine Zb hS qB hB [6,5,4,3,0] [101,0] rfl rfl fun a w F hS=>Za (wp_seq (wp_seq ?_))
 refine Zb hS (qM rfl rfl (qu Tryz.underlying22 r1 (qJ qZ))) hB [11,10,9,6,5,4,3] [101,0] rfl rfl fun a w F hS=>Za (wp_block ?_)
 replace hS:=hS.fresh 50 rfl
 replace hS:=hS.turn 50 rfl (Zaf (T:=40) (sz:=3) (R:=rTx))
 refine Zl (σ:=(Nat)×(Bool)×(Value)×(List TxD)) [3,4,9,10] [0,101] (fun s=>[(11,.pv (.int .i64 (s.1:Int))),(6,.pv (.bool s.2.1)),(5,.pv (.is s.2.2.1))]) (fun s=>[(50,.ob (.val s.2.2.1) (Zw 40 3 rTx s.2.2.2))]) (fun s=>s.1≤l.length∧(s.2.2.2++putGR TxD.id t (l.drop s.1) s.2.1=putGR TxD.id t l false)) (fun s=>l.length - s.1) ((0),(false),(.slice none 0 0),([])) hS ⟨rfl,rfl,rfl,rfl,rfl,rfl,rfl,trivial⟩ ⟨rfl,rfl,rfl,trivial⟩ ⟨Nat.zero_le _,rfl⟩ ?_
 clear hS;intro s a w F hC hS
 obtain ⟨i,d,v,out⟩:=s
 try dsimp only at hC
 obtain ⟨F,hS⟩:=hS.nm [11,10,9,6,5,4,3] [101,50,0] rfl rfl
 try dsimp only at hS
 obtain ⟨hi,hq⟩:=hC
 have hol:=congrArg List.length hq
 rw [List.length_append] at hol
 have htl:(putGR TxD.id t l false).length≤l.length+1:=ZeF l _
 refine wp_seq ?_
 refine Zb hS (qL r2) hB [12,11,10,9,6,5,4,3] [101,50,0] rfl rfl fun a w F hS=>Za (wp_seq ?_)
 refine Zd hS rfl (fun hc0=>?_) (fun hc0=>?_)
 ·skip
  have hil:i<l.length:=by simp at hc0;omega
  refine wp_skip (Za (wp_seq (wp_block (wp_seq ?_))))
  refine Zc hS (qy 3 Tryz.underlying22 r2 (qf (oR true 3 .t) r1 qz (qf (oH [.int .i64 0,.bool false,.slice none 0 0] 102) trivial qz (qS 3 102 r2 r1 qZ)))) hB [11,10,9,8,6,5,4,3] [102,101,50,0] (fun _=>rfl) (fun _=>rfl) fun τ a w F hS=>?_
  try dsimp only [RS.sub,SF.sub,CF.sub,csub,Anc.sub,List.map,Zf,xL,xM,Nat.reduceAdd,xD,xE,xT,xU,xC,xN,zCF,ldSF,Zj,rTx,Zs,Zv,rInt,rOp] at hS
  generalize τ 8=v8 at hS
  try simp only [Int.toNat_natCast] at hS
  refine Za (wp_seq (wp_seq ?_))
  refine Zb hS (qM rfl rfl (qf (o_not .t) r1 qz (qM rfl rfl (qv 0 102 rfl r2 r1 (qw 102 rfl r2 r1 (qv 0 101 rfl r2 r1 (qw 101 rfl r2 r1 (qk rfl (fun h=>ZbF (.w h) (.w h)) r3 qz (qf (Zy .t .t) r2 qz qZ))))))))) hB [23,11,10,9,8,6,5,4,3] [102,101,50,0] rfl rfl fun a w F hS=>Za ?_
  refine Zd hS rfl (fun hc1=>?_) (fun hc1=>?_)
  ·skip
   have hA:d=false∧TxD.id t≤TxD.id (Go.Gm.nth l i):=by simpa using hc1
   refine wp_seq ?_
   refine Zc hS (qM rfl rfl (qe 3 101 r1 r1 (qf (Zh (sz:=3) (zs:=[.int .i64 0,.bool false,.slice none 0 0]) (r:=[(0,.tmp 25)]) (l:=[_,_,_]) Tryz.underlying22 (by kernel_rfl) (by kernel_rfl) (by kernel_rfl) (by kernel_rfl) rfl rfl (.agg rfl .t (by kernel_rfl) (by kernel_rfl) .nil) rfl) r1 qz (qf (o_append (sz:=3) (bs:=40) 50 (.mk' Tryz.underlying22 (by kernel_rfl) (by kernel_rfl)) (by intro x;rfl) .is (.arr (l':=[t]) .t) (by simp only [List.length_append,List.length_cons,List.length_nil];omega) (by decide)) ⟨rfl,rfl,trivial⟩ ⟨rfl,trivial⟩ (qN rfl rfl qZ))))) hB [11,10,9,8,6,5,4,3] [102,101,50,0] (fun _=>rfl) (fun _=>rfl) fun τ a w F hS=>?_
   try dsimp only [RS.sub,SF.sub,CF.sub,csub,Anc.sub,List.map,Zf,xL,xM,Nat.reduceAdd,xD,xE,xT,xU,xC,xN,zCF,ldSF,Zj,rTx,Zs,Zv,rInt,rOp] at hS
   generalize τ 27=v27 at hS
   refine Za ?_
   refine Zb hS qB hB [11,10,9,8,6,5,4,3] [102,101,50,0] rfl rfl fun a w F hS=>Za (wp_seq ?_)
   refine Zb hS (qg 0 102 r1 r1 (qa 102 r1 r1 (qg 0 101 r1 r1 (qa 101 r1 r1 (qf (o_neq .t .t) r2 qz qZ))))) hB [32,11,10,9,8,6,5,4,3] [102,101,50,0] rfl rfl fun a w F hS=>Za ?_
   refine Zd hS rfl (fun hc2=>?_) (fun hc2=>?_)
   ·skip
    have hBq:¬ TxD.id (Go.Gm.nth l i)=TxD.id t:=by simpa using hc2
    refine Zc hS (qM rfl rfl (qe 3 102 r1 r1 (qf (Zh (sz:=3) (zs:=[.int .i64 0,.bool false,.slice none 0 0]) (r:=[(0,.tmp 34)]) (l:=[_,_,_]) Tryz.underlying22 (by kernel_rfl) (by kernel_rfl) (by kernel_rfl) (by kernel_rfl) rfl rfl (.agg rfl .t (by kernel_rfl) (by kernel_rfl) .nil) rfl) r1 qz (qf (o_append (sz:=3) (bs:=40) 50 (.mk' Tryz.underlying22 (by kernel_rfl) (by kernel_rfl)) (by intro x;rfl) .is (.arr (l':=[(Go.Gm.nth l i)]) .t) (by simp only [List.length_append,List.length_cons,List.length_nil];omega) (by decide)) ⟨rfl,rfl,trivial⟩ ⟨rfl,trivial⟩ (qN rfl rfl qZ))))) hB [11,10,9,6,5,4,3] [102,101,50,0] (fun _=>rfl) (fun _=>rfl) fun τ a w F hS=>?_
    try dsimp only [RS.sub,SF.sub,CF.sub,csub,Anc.sub,List.map,Zf,xL,xM,Nat.reduceAdd,xD,xE,xT,xU,xC,xN,zCF,ldSF,Zj,rTx,Zs,Zv,rInt,rOp] at hS
    generalize τ 36=v36 at hS
    refine Zi (Za ?_)
    refine Zb hS (qp r1 (qM rfl rfl qZ)) hB [11,10,9,6,5,4,3] [102,101,50,0] rfl rfl fun a w F hS=>Za ?_
    replace hS:=hS.ent (i:=11) (s':=.pv (.int .i64 ((i+1:Nat):Int))) rfl (.int (Ze (by omega)))
    obtain ⟨F,hS⟩:=hS.nm [10,9,4,3,5,6,11] [101,0,50] rfl rfl
    exact ⟨((i+1),_,_,_),F,⟨by omega,(by rw [ZZ hil] at hq;first | exact Zbw hA hBq hq | exact Zbu hA hBq hq | exact Zby hA hBq hq | exact Zbt hA hBq hq)⟩,hS,by omega⟩
   have hBq:TxD.id (Go.Gm.nth l i)=TxD.id t:=by simpa using hc2
   refine wp_skip (Zi (Za ?_))
   refine Zb hS (qp r1 (qM rfl rfl qZ)) hB [11,10,9,6,5,4,3] [102,101,50,0] rfl rfl fun a w F hS=>Za ?_
   replace hS:=hS.ent (i:=11) (s':=.pv (.int .i64 ((i+1:Nat):Int))) rfl (.int (Ze (by omega)))
   obtain ⟨F,hS⟩:=hS.nm [10,9,4,3,5,6,11] [101,0,50] rfl rfl
   exact ⟨((i+1),_,_,_),F,⟨by omega,(by rw [ZZ hil] at hq;first | exact Zbw hA hBq hq | exact Zbu hA hBq hq | exact Zby hA hBq hq | exact Zbt hA hBq hq)⟩,hS,by omega⟩
  have hA:¬ (d=false∧TxD.id t≤TxD.id (Go.Gm.nth l i)):=by rintro ⟨h1,h2⟩;subst h1;have h9:=hc1;simp at h9;omega
  refine wp_skip (Za (wp_seq ?_))
  refine Zb hS (qg 0 102 r1 r1 (qa 102 r1 r1 (qg 0 101 r1 r1 (qa 101 r1 r1 (qf (o_neq .t .t) r2 qz qZ))))) hB [32,11,10,9,8,6,5,4,3] [102,101,50,0] rfl rfl fun a w F hS=>Za ?_
  refine Zd hS rfl (fun hc3=>?_) (fun hc3=>?_)
  ·skip
   have hBq:¬ TxD.id (Go.Gm.nth l i)=TxD.id t:=by simpa using hc3
   refine Zc hS (qM rfl rfl (qe 3 102 r1 r1 (qf (Zh (sz:=3) (zs:=[.int .i64 0,.bool false,.slice none 0 0]) (r:=[(0,.tmp 34)]) (l:=[_,_,_]) Tryz.underlying22 (by kernel_rfl) (by kernel_rfl) (by kernel_rfl) (by kernel_rfl) rfl rfl (.agg rfl .t (by kernel_rfl) (by kernel_rfl) .nil) rfl) r1 qz (qf (o_append (sz:=3) (bs:=40) 50 (.mk' Tryz.underlying22 (by kernel_rfl) (by kernel_rfl)) (by intro x;rfl) .is (.arr (l':=[(Go.Gm.nth l i)]) .t) (by simp only [List.length_append,List.length_cons,List.length_nil];omega) (by decide)) ⟨rfl,rfl,trivial⟩ ⟨rfl,trivial⟩ (qN rfl rfl qZ))))) hB [11,10,9,6,5,4,3] [102,101,50,0] (fun _=>rfl) (fun _=>rfl) fun τ a w F hS=>?_
   try dsimp only [RS.sub,SF.sub,CF.sub,csub,Anc.sub,List.map,Zf,xL,xM,Nat.reduceAdd,xD,xE,xT,xU,xC,xN,zCF,ldSF,Zj,rTx,Zs,Zv,rInt,rOp] at hS
   generalize τ 36=v36 at hS
   refine Zi (Za ?_)
   refine Zb hS (qp r1 (qM rfl rfl qZ)) hB [11,10,9,6,5,4,3] [102,101,50,0] rfl rfl fun a w F hS=>Za ?_
   replace hS:=hS.ent (i:=11) (s':=.pv (.int .i64 ((i+1:Nat):Int))) rfl (.int (Ze (by omega)))
   obtain ⟨F,hS⟩:=hS.nm [10,9,4,3,5,6,11] [101,0,50] rfl rfl
   exact ⟨((i+1),_,_,_),F,⟨by omega,(by rw [ZZ hil] at hq;first | exact Zbw hA hBq hq | exact Zbu hA hBq hq | exact Zby hA hBq hq | exact Zbt hA hBq hq)⟩,hS,by omega⟩
  have hBq:TxD.id (Go.Gm.nth l i)=TxD.id t:=by simpa using hc3
  refine wp_skip (Zi (Za ?_))
  refine Zb hS (qp r1 (qM rfl rfl qZ)) hB [11,10,9,6,5,4,3] [102,101,50,0] rfl rfl fun a w F hS=>Za ?_
  replace hS:=hS.ent (i:=11) (s':=.pv (.int .i64 ((i+1:Nat):Int))) rfl (.int (Ze (by omega)))
  obtain ⟨F,hS⟩:=hS.nm [10,9,4,3,5,6,11] [101,0,50] rfl rfl
  exact ⟨((i+1),_,_,_),F,⟨by omega,(by rw [ZZ hil] at hq;first | exact Zbw hA hBq hq | exact Zbu hA hBq hq | exact Zby hA hBq hq | exact Zbt hA hBq hq)⟩,hS,by omega⟩
 have hil:i=l.length:=by simp at hc0;omega
 refine wp_exit (Zk (Zk (Zq (Za (wp_seq (wp_seq ?_))))))
 refine Zb hS (qM rfl rfl (qf (o_not .t) r1 qz qZ)) hB [39,5,4,3] [101,50,0] rfl rfl fun a w F hS=>Za ?_
 refine Zd hS rfl (fun hc4=>?_) (fun hc4=>?_)
 ·skip
  have hfin:out ++ [t] = putGR TxD.id t l false:=by rw [hil,List.drop_length] at hq;cases d with | true=>simp at hc4 | false=>exact hq
  refine Zc hS (qM rfl rfl (qe 3 101 r1 r1 (qf (Zh (sz:=3) (zs:=[.int .i64 0,.bool false,.slice none 0 0]) (r:=[(0,.tmp 41)]) (l:=[_,_,_]) Tryz.underlying22 (by kernel_rfl) (by kernel_rfl) (by kernel_rfl) (by kernel_rfl) rfl rfl (.agg rfl .t (by kernel_rfl) (by kernel_rfl) .nil) rfl) r1 qz (qf (o_append (sz:=3) (bs:=40) 50 (.mk' Tryz.underlying22 (by kernel_rfl) (by kernel_rfl)) (by intro x;rfl) .is (.arr (l':=[t]) .t) (by simp only [List.length_append,List.length_cons,List.length_nil];omega) (by decide)) ⟨rfl,rfl,trivial⟩ ⟨rfl,trivial⟩ (qN rfl rfl qZ))))) hB [5,4] [101,50,0] (fun _=>rfl) (fun _=>rfl) fun τ a w F hS=>?_
  try dsimp only [RS.sub,SF.sub,CF.sub,csub,Anc.sub,List.map,Zf,xL,xM,Nat.reduceAdd,xD,xE,xT,xU,xC,xN,zCF,ldSF,Zj,rTx,Zs,Zv,rInt,rOp] at hS
  generalize τ 43=v43 at hS
  refine Za (wp_seq ?_)
  refine Zb hS (qM rfl rfl (qN rfl rfl qZ)) hB [4] [101,50,0] rfl rfl fun a w F hS=>Za (wp_ret ?_)
  obtain ⟨F,hS⟩:=hS.give 50 4 rfl rfl
  refine Zr hfr hS rfl rfl rfl (.sl hfin)
 have hfin:out=putGR TxD.id t l false:=by rw [hil,List.drop_length] at hq;cases d with | false=>simp at hc4 | true=>simpa [putGR] using hq
 refine wp_skip (Za (wp_seq ?_))
 refine Zb hS (qM rfl rfl (qN rfl rfl qZ)) hB [4] [101,50,0] rfl rfl fun a w F hS=>Za (wp_ret ?_)
 obtain ⟨F,hS⟩:=hS.give 50 4 rfl rfl
 refine Zr hfr hS rfl rfl rfl (.sl hfin)
theorem ZcG (l:List OrdD) (t:OrdD) (hl:l.length≤1000000):FnP Tryz.prog 132 [.sl Zs l,.agg (Zs t)] (.sl Zs (putGR OrdD.key t l (decide (t.txs = [])))):=by
 refine FnP.mk Tryz.func132 rfl Tryz.ntmps132 rfl ?_
 intro B a w F hB hfr hS
 refine wp_seq ?_
 refine Zc hS (qx 101 r1 (qC qZ)) hB [4,3,0] [101,0] (fun _=>rfl) (fun _=>rfl) fun τ a w F hS=>?_
 try dsimp only [RS.sub,SF.sub,CF.sub,csub,Anc.sub,List.map,zCF,Zj,rTx,Zs,Zv,rInt,rOp] at hS
 generalize τ 3=v3 at hS
 refine Za (wp_seq ?_)
 refine Zb hS (qC qZ) hB [5,4,3,0] [101,0] rfl rfl fun a w F hS=>Za (wp_seq ?_)
 refine Zb hS (qg 1 101 r1 r1 (qa 101 r1 r1 (qu Tryz.underlying41 r1 (qf (o_eql .t qi) r1 qz (qN rfl rfl qZ))))) hB [6,5,4,3,0] [101,0] rfl rfl fun a w F hS=>Za (wp_seq (wp_seq ?_))
 refine Zb hS (qM rfl rfl (qu Tryz.underlying23 r1 (qJ qZ))) hB [15,14,13,6,5,4,3] [101,0] rfl rfl fun a w F hS=>Za (wp_block ?_)
 replace hS:=hS.fresh 50 rfl
 replace hS:=hS.turn 50 rfl (Zaf (T:=43) (sz:=2) (R:=Zs))
 replace hS:=hS.ent (i:=6) (s':=.pv (.bool (decide (t.txs = [])))) rfl ((.bool (by rw [Bool.eq_iff_iff];simp)))
 refine Zl (σ:=(Nat)×(Bool)×(Value)×(List OrdD)) [3,4,13,14] [0,101] (fun s=>[(15,.pv (.int .i64 (s.1:Int))),(6,.pv (.bool s.2.1)),(5,.pv (.is s.2.2.1))]) (fun s=>[(50,.ob (.val s.2.2.1) (Zw 43 2 Zs s.2.2.2))]) (fun s=>s.1≤l.length∧(s.2.2.2++putGR OrdD.key t (l.drop s.1) s.2.1=putGR OrdD.key t l (decide (t.txs = [])))) (fun s=>l.length - s.1) ((0),((decide (t.txs = []))),(.slice none 0 0),([])) hS ⟨rfl,rfl,rfl,rfl,rfl,rfl,rfl,trivial⟩ ⟨rfl,rfl,rfl,trivial⟩ ⟨Nat.zero_le _,rfl⟩ ?_
 clear hS;intro s a w F hC hS
 obtain ⟨i,d,v,out⟩:=s
 try dsimp only at hC
 obtain ⟨F,hS⟩:=hS.nm [15,14,13,6,5,4,3] [101,50,0] rfl rfl
 try dsimp only at hS
 obtain ⟨hi,hq⟩:=hC
 have hol:=congrArg List.length hq
 rw [List.length_append] at hol
 have htl:(putGR OrdD.key t l (decide (t.txs = []))).length≤l.length+1:=ZeF l _
 refine wp_seq ?_
 refine Zb hS (qL r2) hB [16,15,14,13,6,5,4,3] [101,50,0] rfl rfl fun a w F hS=>Za (wp_seq ?_)
 refine Zd hS rfl (fun hc0=>?_) (fun hc0=>?_)
 ·skip
  have hil:i<l.length:=by simp at hc0;omega
  refine wp_skip (Za (wp_seq (wp_block (wp_seq ?_))))
  refine Zc hS (qy 2 Tryz.underlying23 r2 (qf (oR true 2 .t) r1 qz (qf (oH [.int .i64 0,.slice none 0 0] 102) trivial qz (qS 2 102 r2 r1 qZ)))) hB [15,14,13,8,6,5,4,3] [102,101,50,0] (fun _=>rfl) (fun _=>rfl) fun τ a w F hS=>?_
  try dsimp only [RS.sub,SF.sub,CF.sub,csub,Anc.sub,List.map,Zf,xL,xM,Nat.reduceAdd,xD,xE,xT,xU,xC,xN,zCF,ldSF,Zj,rTx,Zs,Zv,rInt,rOp] at hS
  generalize τ 8=v8 at hS
  try simp only [Int.toNat_natCast] at hS
  refine Za (wp_seq (wp_seq ?_))
  refine Zb hS (qM rfl rfl (qf (o_not .t) r1 qz (qM rfl rfl (qv 0 102 rfl r2 r1 (qw 102 rfl r2 r1 (qv 0 101 rfl r2 r1 (qw 101 rfl r2 r1 (qk rfl (fun h=>ZbF (.w h) (.w h)) r3 qz (qf (Zy .t .t) r2 qz qZ))))))))) hB [27,15,14,13,8,6,5,4,3] [102,101,50,0] rfl rfl fun a w F hS=>Za ?_
  refine Zd hS rfl (fun hc1=>?_) (fun hc1=>?_)
  ·skip
   have hA:d=false∧OrdD.key t≤OrdD.key (Go.Gm.nth l i):=by simpa using hc1
   refine wp_seq ?_
   refine Zc hS (qM rfl rfl (qe 2 101 r1 r1 (qf (Zh (sz:=2) (zs:=[.int .i64 0,.slice none 0 0]) (r:=[(0,.tmp 29)]) (l:=[_,_]) Tryz.underlying23 (by kernel_rfl) (by kernel_rfl) (by kernel_rfl) (by kernel_rfl) rfl rfl (.agg rfl .t (by kernel_rfl) (by kernel_rfl) .nil) rfl) r1 qz (qf (o_append (sz:=2) (bs:=32) 50 (.mk' Tryz.underlying23 (by kernel_rfl) (by kernel_rfl)) (by intro x;rfl) .is (.arr (l':=[t]) .t) (by simp only [List.length_append,List.length_cons,List.length_nil];omega) (by decide)) ⟨rfl,rfl,trivial⟩ ⟨rfl,trivial⟩ (qN rfl rfl qZ))))) hB [15,14,13,8,6,5,4,3] [102,101,50,0] (fun _=>rfl) (fun _=>rfl) fun τ a w F hS=>?_
   try dsimp only [RS.sub,SF.sub,CF.sub,csub,Anc.sub,List.map,Zf,xL,xM,Nat.reduceAdd,xD,xE,xT,xU,xC,xN,zCF,ldSF,Zj,rTx,Zs,Zv,rInt,rOp] at hS
   generalize τ 31=v31 at hS
   refine Za ?_
   refine Zb hS qB hB [15,14,13,8,6,5,4,3] [102,101,50,0] rfl rfl fun a w F hS=>Za (wp_seq ?_)
   refine Zb hS (qg 0 102 r1 r1 (qa 102 r1 r1 (qg 0 101 r1 r1 (qa 101 r1 r1 (qf (o_neq .t .t) r2 qz qZ))))) hB [36,15,14,13,8,6,5,4,3] [102,101,50,0] rfl rfl fun a w F hS=>Za ?_
   refine Zd hS rfl (fun hc2=>?_) (fun hc2=>?_)
   ·skip
    have hBq:¬ OrdD.key (Go.Gm.nth l i)=OrdD.key t:=by simpa using hc2
    refine Zc hS (qM rfl rfl (qe 2 102 r1 r1 (qf (Zh (sz:=2) (zs:=[.int .i64 0,.slice none 0 0]) (r:=[(0,.tmp 38)]) (l:=[_,_]) Tryz.underlying23 (by kernel_rfl) (by kernel_rfl) (by kernel_rfl) (by kernel_rfl) rfl rfl (.agg rfl .t (by kernel_rfl) (by kernel_rfl) .nil) rfl) r1 qz (qf (o_append (sz:=2) (bs:=32) 50 (.mk' Tryz.underlying23 (by kernel_rfl) (by kernel_rfl)) (by intro x;rfl) .is (.arr (l':=[(Go.Gm.nth l i)]) .t) (by simp only [List.length_append,List.length_cons,List.length_nil];omega) (by decide)) ⟨rfl,rfl,trivial⟩ ⟨rfl,trivial⟩ (qN rfl rfl qZ))))) hB [15,14,13,6,5,4,3] [102,101,50,0] (fun _=>rfl) (fun _=>rfl) fun τ a w F hS=>?_
    try dsimp only [RS.sub,SF.sub,CF.sub,csub,Anc.sub,List.map,Zf,xL,xM,Nat.reduceAdd,xD,xE,xT,xU,xC,xN,zCF,ldSF,Zj,rTx,Zs,Zv,rInt,rOp] at hS
    generalize τ 40=v40 at hS
    refine Zi (Za ?_)
    refine Zb hS (qp r1 (qM rfl rfl qZ)) hB [15,14,13,6,5,4,3] [102,101,50,0] rfl rfl fun a w F hS=>Za ?_
    replace hS:=hS.ent (i:=15) (s':=.pv (.int .i64 ((i+1:Nat):Int))) rfl (.int (Ze (by omega)))
    obtain ⟨F,hS⟩:=hS.nm [14,13,4,3,5,6,15] [101,0,50] rfl rfl
    exact ⟨((i+1),_,_,_),F,⟨by omega,(by rw [ZZ hil] at hq;first | exact Zbw hA hBq hq | exact Zbu hA hBq hq | exact Zby hA hBq hq | exact Zbt hA hBq hq)⟩,hS,by omega⟩
   have hBq:OrdD.key (Go.Gm.nth l i)=OrdD.key t:=by simpa using hc2
   refine wp_skip (Zi (Za ?_))
   refine Zb hS (qp r1 (qM rfl rfl qZ)) hB [15,14,13,6,5,4,3] [102,101,50,0] rfl rfl fun a w F hS=>Za ?_
   replace hS:=hS.ent (i:=15) (s':=.pv (.int .i64 ((i+1:Nat):Int))) rfl (.int (Ze (by omega)))
   obtain ⟨F,hS⟩:=hS.nm [14,13,4,3,5,6,15] [101,0,50] rfl rfl
   exact ⟨((i+1),_,_,_),F,⟨by omega,(by rw [ZZ hil] at hq;first | exact Zbw hA hBq hq | exact Zbu hA hBq hq | exact Zby hA hBq hq | exact Zbt hA hBq hq)⟩,hS,by omega⟩
  have hA:¬ (d=false∧OrdD.key t≤OrdD.key (Go.Gm.nth l i)):=by rintro ⟨h1,h2⟩;subst h1;have h9:=hc1;simp at h9;omega
  refine wp_skip (Za (wp_seq ?_))
  refine Zb hS (qg 0 102 r1 r1 (qa 102 r1 r1 (qg 0 101 r1 r1 (qa 101 r1 r1 (qf (o_neq .t .t) r2 qz qZ))))) hB [36,15,14,13,8,6,5,4,3] [102,101,50,0] rfl rfl fun a w F hS=>Za ?_
  refine Zd hS rfl (fun hc3=>?_) (fun hc3=>?_)
  ·skip
   have hBq:¬ OrdD.key (Go.Gm.nth l i)=OrdD.key t:=by simpa using hc3
   refine Zc hS (qM rfl rfl (qe 2 102 r1 r1 (qf (Zh (sz:=2) (zs:=[.int .i64 0,.slice none 0 0]) (r:=[(0,.tmp 38)]) (l:=[_,_]) Tryz.underlying23 (by kernel_rfl) (by kernel_rfl) (by kernel_rfl) (by kernel_rfl) rfl rfl (.agg rfl .t (by kernel_rfl) (by kernel_rfl) .nil) rfl) r1 qz (qf (o_append (sz:=2) (bs:=32) 50 (.mk' Tryz.underlying23 (by kernel_rfl) (by kernel_rfl)) (by intro x;rfl) .is (.arr (l':=[(Go.Gm.nth l i)]) .t) (by simp only [List.length_append,List.length_cons,List.length_nil];omega) (by decide)) ⟨rfl,rfl,trivial⟩ ⟨rfl,trivial⟩ (qN rfl rfl qZ))))) hB [15,14,13,6,5,4,3] [102,101,50,0] (fun _=>rfl) (fun _=>rfl) fun τ a w F hS=>?_
   try dsimp only [RS.sub,SF.sub,CF.sub,csub,Anc.sub,List.map,Zf,xL,xM,Nat.reduceAdd,xD,xE,xT,xU,xC,xN,zCF,ldSF,Zj,rTx,Zs,Zv,rInt,rOp] at hS
   generalize τ 40=v40 at hS
   refine Zi (Za ?_)
   refine Zb hS (qp r1 (qM rfl rfl qZ)) hB [15,14,13,6,5,4,3] [102,101,50,0] rfl rfl fun a w F hS=>Za ?_
   replace hS:=hS.ent (i:=15) (s':=.pv (.int .i64 ((i+1:Nat):Int))) rfl (.int (Ze (by omega)))
   obtain ⟨F,hS⟩:=hS.nm [14,13,4,3,5,6,15] [101,0,50] rfl rfl
   exact ⟨((i+1),_,_,_),F,⟨by omega,(by rw [ZZ hil] at hq;first | exact Zbw hA hBq hq | exact Zbu hA hBq hq | exact Zby hA hBq hq | exact Zbt hA hBq hq)⟩,hS,by omega⟩
  have hBq:OrdD.key (Go.Gm.nth l i)=OrdD.key t:=by simpa using hc3
  refine wp_skip (Zi (Za ?_))
  refine Zb hS (qp r1 (qM rfl rfl qZ)) hB [15,14,13,6,5,4,3] [102,101,50,0] rfl rfl fun a w F hS=>Za ?_
  replace hS:=hS.ent (i:=15) (s':=.pv (.int .i64 ((i+1:Nat):Int))) rfl (.int (Ze (by omega)))
  obtain ⟨F,hS⟩:=hS.nm [14,13,4,3,5,6,15] [101,0,50] rfl rfl
  exact ⟨((i+1),_,_,_),F,⟨by omega,(by rw [ZZ hil] at hq;first | exact Zbw hA hBq hq | exact Zbu hA hBq hq | exact Zby hA hBq hq | exact Zbt hA hBq hq)⟩,hS,by omega⟩
 have hil:i=l.length:=by simp at hc0;omega
 refine wp_exit (Zk (Zk (Zq (Za (wp_seq (wp_seq ?_))))))
 refine Zb hS (qM rfl rfl (qf (o_not .t) r1 qz qZ)) hB [43,5,4,3] [101,50,0] rfl rfl fun a w F hS=>Za ?_
 refine Zd hS rfl (fun hc4=>?_) (fun hc4=>?_)
 ·skip
  have hfin:out ++ [t] = putGR OrdD.key t l (decide (t.txs = [])):=by rw [hil,List.drop_length] at hq;cases d with | true=>simp at hc4 | false=>exact hq
  refine Zc hS (qM rfl rfl (qe 2 101 r1 r1 (qf (Zh (sz:=2) (zs:=[.int .i64 0,.slice none 0 0]) (r:=[(0,.tmp 45)]) (l:=[_,_]) Tryz.underlying23 (by kernel_rfl) (by kernel_rfl) (by kernel_rfl) (by kernel_rfl) rfl rfl (.agg rfl .t (by kernel_rfl) (by kernel_rfl) .nil) rfl) r1 qz (qf (o_append (sz:=2) (bs:=32) 50 (.mk' Tryz.underlying23 (by kernel_rfl) (by kernel_rfl)) (by intro x;rfl) .is (.arr (l':=[t]) .t) (by simp only [List.length_append,List.length_cons,List.length_nil];omega) (by decide)) ⟨rfl,rfl,trivial⟩ ⟨rfl,trivial⟩ (qN rfl rfl qZ))))) hB [5,4] [101,50,0] (fun _=>rfl) (fun _=>rfl) fun τ a w F hS=>?_
  try dsimp only [RS.sub,SF.sub,CF.sub,csub,Anc.sub,List.map,Zf,xL,xM,Nat.reduceAdd,xD,xE,xT,xU,xC,xN,zCF,ldSF,Zj,rTx,Zs,Zv,rInt,rOp] at hS
  generalize τ 47=v47 at hS
  refine Za (wp_seq ?_)
  refine Zb hS (qM rfl rfl (qN rfl rfl qZ)) hB [4] [101,50,0] rfl rfl fun a w F hS=>Za (wp_ret ?_)
  obtain ⟨F,hS⟩:=hS.give 50 4 rfl rfl
  refine Zr hfr hS rfl rfl rfl (.sl hfin)
 have hfin:out=putGR OrdD.key t l (decide (t.txs = [])):=by rw [hil,List.drop_length] at hq;cases d with | false=>simp at hc4 | true=>simpa [putGR] using hq
 refine wp_skip (Za (wp_seq ?_))
 refine Zb hS (qM rfl rfl (qN rfl rfl qZ)) hB [4] [101,50,0] rfl rfl fun a w F hS=>Za (wp_ret ?_)
 obtain ⟨F,hS⟩:=hS.give 50 4 rfl rfl
 refine Zr hfr hS rfl rfl rfl (.sl hfin)
theorem ZkL {os:List OrdD} {k:Int} {i:Nat} (hi:i<os.length) (h:(Go.Gm.nth os i).key=k) (hq:∀ q,q<i→(Go.Gm.nth os q).key≠k):getO os k=(Go.Gm.nth os i).txs:=by
 unfold getO
 rw [List.find?_eq_some_iff_getElem.2 ⟨by simpa using h,i,hi,(Zz hi).symm,fun j hj=>by have:=hq j hj;rw [Zz (by omega)] at this;simpa using this⟩];rfl
theorem ZkT {os:List OrdD} {k:Int} (hq:∀ q,q<os.length→(Go.Gm.nth os q).key≠k):getO os k = []:=Zcf fun o ho=>by
 obtain ⟨j,hj,e⟩:=List.getElem_of_mem ho
 have:=hq j hj
 rwa [Zz hj,e] at this
theorem Zdl {os:List OrdD} (h:Za3 os) (k:Int):(getO os k).length≤1000:=by
 by_cases e:getO os k = []
 · rw [e];simp
 · exact h.2 _ (ZeY e)
theorem Zi2 {t:TxD} {os:List OrdD} : ∀ (ks:List Int) (out:List OrdD),(ks.foldl (Z8 t os) out).length≤out.length+ks.length
 | [],out=>by simp
 | k :: ks,out=>by
   have h1:=Zi2 (t:=t) (os:=os) ks (Z8 t os out k)
   have h2:(Z8 t os out k).length≤out.length+1:=ZeF _ _
   rw [List.foldl_cons,List.length_cons];omega
theorem ZcK (g:Zn) (key:Int):FnP Tryz.prog 38 [.agg (Zj g),.int .i64 key] (.sl rInt (getO g.orders key)):=by
 refine FnP.mk Tryz.func38 rfl Tryz.ntmps38 rfl ?_
 intro B a w F hB hfr hS
 obtain ⟨hxl,hyl⟩:=Sat.lenHist hS (i:=0) rfl
 refine wp_seq ?_
 refine Zc hS (qx 101 r1 (qC qZ)) hB [4,2,1] [101,0] (fun _=>rfl) (fun _=>rfl) fun τ a w F hS=>?_
 try dsimp only [RS.sub,SF.sub,CF.sub,csub,Anc.sub,List.map,zCF,Zj,rTx,Zs,Zv,rInt,rOp] at hS
 generalize τ 2=v2 at hS
 refine Za (wp_seq (wp_seq ?_))
 refine Zb hS (qg 1 101 r1 r1 (qa 101 r1 r1 (qu Tryz.underlying23 r1 (qJ qZ)))) hB [10,9,8,4,1] [101,0] rfl rfl fun a w F hS=>Za (wp_block ?_)
 refine Zl (σ:=(Nat)) [1,4,8,9] [0,101] (fun s=>[(10,.pv (.int .i64 (s:Int)))]) (fun s=>[]) (fun s=>s≤g.orders.length∧(∀ q,q<s→(Go.Gm.nth g.orders q).key≠key)) (fun s=>g.orders.length - s) (0) hS ⟨rfl,rfl,rfl,rfl,rfl,trivial⟩ ⟨rfl,rfl,trivial⟩ ⟨Nat.zero_le _,fun q hq=>absurd hq (Nat.not_lt_zero q)⟩ ?_
 clear hS;intro i a w F hC hS
 try dsimp only at hC
 obtain ⟨F,hS⟩:=hS.nm [10,9,8,4,1] [101,0] rfl rfl
 try dsimp only at hS
 obtain ⟨hi,hq⟩:=hC
 refine wp_seq ?_
 refine Zb hS (qL r2) hB [11,10,9,8,4,1] [101,0] rfl rfl fun a w F hS=>Za (wp_seq ?_)
 refine Zd hS rfl (fun hc0=>?_) (fun hc0=>?_)
 ·skip
  have hil:i<g.orders.length:=by simp at hc0;omega
  refine wp_skip (Za (wp_seq (wp_block (wp_seq ?_))))
  refine Zc hS (qy 2 Tryz.underlying23 r2 (qf (oR true 2 .t) r1 qz (qf (oH [.int .i64 0,.slice none 0 0] 102) trivial qz (qS 2 102 r2 r1 qZ)))) hB [10,9,8,6,4,1] [102,101,0] (fun _=>rfl) (fun _=>rfl) fun τ a w F hS=>?_
  try dsimp only [RS.sub,SF.sub,CF.sub,csub,Anc.sub,List.map,Zf,xL,xM,Nat.reduceAdd,xD,xE,xT,xU,xC,xN,zCF,ldSF,Zj,rTx,Zs,Zv,rInt,rOp] at hS
  generalize τ 6=v6 at hS
  try simp only [Int.toNat_natCast] at hS
  refine Za (wp_seq ?_)
  refine Zb hS (qg 0 102 r1 r1 (qa 102 r1 r1 (qM rfl rfl (qf (o_eql .t .t) r2 qz qZ)))) hB [17,10,9,8,6,4,1] [102,101,0] rfl rfl fun a w F hS=>Za ?_
  refine Zd hS rfl (fun hc1=>?_) (fun hc1=>?_)
  ·skip
   have hg:(Go.Gm.nth g.orders i).txs=getO g.orders key:=(ZkL hil (by simpa using hc1) hq).symm
   refine wp_seq ?_
   refine Zb hS (qg 1 102 r1 r1 (qa 102 r1 r1 (qN rfl rfl qZ))) hB [10,9,8,4,1] [102,101,0] rfl rfl fun a w F hS=>Za (wp_ret (Zm (Zg (Zg (Zm (Zg ?_))))))
   refine Zr hfr hS rfl rfl rfl (by first | exact .sl hg | (rw [← hg];exact .nilSl))
  have hne:(Go.Gm.nth g.orders i).key≠key:=by simpa using hc1
  refine wp_skip (Zi (Za ?_))
  refine Zb hS (qp r1 (qM rfl rfl qZ)) hB [10,9,8,4,1] [102,101,0] rfl rfl fun a w F hS=>Za ?_
  replace hS:=hS.ent (i:=10) (s':=.pv (.int .i64 ((i+1:Nat):Int))) rfl (.int (Ze (by omega)))
  obtain ⟨F,hS⟩:=hS.nm [9,8,4,1,10] [101,0] rfl rfl
  exact ⟨(i+1),F,⟨by omega,(fun q h9=>by rcases Nat.lt_or_eq_of_le (Nat.le_of_lt_succ h9) with h8 | h8;exact hq q h8;rw [h8];exact hne)⟩,hS,by omega⟩
 have hil:i=g.orders.length:=by simp at hc0;omega
 have hg:[] = getO g.orders key:=(ZkT (by rw [← hil];exact hq)).symm
 refine wp_exit (Zk (Zk (Zq (Za (wp_seq ?_)))))
 refine Zb hS (qC qZ) hB [4] [101,0] rfl rfl fun a w F hS=>Za (wp_ret ?_)
 refine Zr hfr hS rfl rfl rfl (by first | exact .sl hg | (rw [← hg];exact .nilSl))
theorem Zc1 (os:List OrdD) (t:TxD) (hs:Za3 os) (ht:t.ops.length≤1000):FnP Tryz.prog 130 [.sl Zs os,.agg (rTx t)] (.sl Zs (ZbS t os)):=by
 refine FnP.mk Tryz.func130 rfl Tryz.ntmps130 rfl ?_
 intro B a w F hB hfr hS
 have hso:=hs.1
 have hkt:=Zbl t
 refine wp_seq ?_
 refine Zc hS (qx 101 r1 (qC qZ)) hB [4,3,0] [101,0] (fun _=>rfl) (fun _=>rfl) fun τ a w F hS=>?_
 try dsimp only [RS.sub,SF.sub,CF.sub,csub,Anc.sub,List.map,zCF,Zj,rTx,Zs,Zv,rInt,rOp] at hS
 generalize τ 3=v3 at hS
 refine Za (wp_seq ?_)
 refine Zb hS (qC qZ) hB [5,4,3,0] [101,0] rfl rfl fun a w F hS=>Za (wp_seq (wp_seq ?_))
 refine Zb hS (qM rfl rfl (qu Tryz.underlying23 r1 (qJ qZ))) hB [16,15,14,5,4,3,0] [101,0] rfl rfl fun a w F hS=>Za (wp_block ?_)
 replace hS:=hS.ent (i:=5) (s':=.pv (.sl rInt (((os.map OrdD.key).take 0).foldl Zb2 []))) rfl (.nilSl)
 refine Zl (σ:=(Nat)) [0,3,4,14,15] [0,101] (fun s=>[(16,.pv (.int .i64 (s:Int))),(5,.pv (.sl rInt (((os.map OrdD.key).take s).foldl Zb2 [])))]) (fun s=>[]) (fun s=>s≤os.length∧(True)) (fun s=>os.length - s) (0) hS ⟨rfl,rfl,rfl,rfl,rfl,rfl,rfl,trivial⟩ ⟨rfl,rfl,trivial⟩ ⟨Nat.zero_le _,trivial⟩ ?_
 clear hS;intro i a w F hC hS
 try dsimp only at hC
 obtain ⟨F,hS⟩:=hS.nm [16,15,14,5,4,3,0] [101,0] rfl rfl
 try dsimp only at hS
 obtain ⟨hi,hq⟩:=hC
 have hkl:=Zdq [] ((os.map OrdD.key).take i)
 rw [List.length_take] at hkl
 simp only [List.length_nil,Nat.zero_add] at hkl
 refine wp_seq ?_
 refine Zb hS (qL r2) hB [17,16,15,14,5,4,3,0] [101,0] rfl rfl fun a w F hS=>Za (wp_seq ?_)
 refine Zd hS rfl (fun hc0=>?_) (fun hc0=>?_)
 ·skip
  have hil:i<os.length:=by simp at hc0;omega
  refine wp_skip (Za (wp_seq (wp_block (wp_seq ?_))))
  refine Zc hS (qy 2 Tryz.underlying23 r2 (qf (oR true 2 .t) r1 qz (qf (oH [.int .i64 0,.slice none 0 0] 102) trivial qz (qS 2 102 r2 r1 qZ)))) hB [16,15,14,7,5,4,3,0] [102,101,0] (fun _=>rfl) (fun _=>rfl) fun τ a w F hS=>?_
  try dsimp only [RS.sub,SF.sub,CF.sub,csub,Anc.sub,List.map,Zf,xL,xM,Nat.reduceAdd,xD,xE,xT,xU,xC,xN,zCF,ldSF,Zj,rTx,Zs,Zv,rInt,rOp] at hS
  generalize τ 7=v7 at hS
  try simp only [Int.toNat_natCast] at hS
  refine Za ?_
  refine Zb hS (qM rfl rfl (qg 0 102 r1 r1 (qa 102 r1 r1 (qf (oP (ZgE _ (Go.Gm.nth os i).key (by omega)) Tryz.func53 (Args.two .t .t)) r2 qz (qN rfl rfl qZ))))) hB [16,15,14,5,4,3,0] [102,101,0] rfl rfl fun a w F hS=>Zi (Za ?_)
  refine Zb hS (qp r1 (qM rfl rfl qZ)) hB [16,15,14,5,4,3,0] [102,101,0] rfl rfl fun a w F hS=>Za ?_
  replace hS:=hS.ent (i:=16) (s':=.pv (.int .i64 ((i+1:Nat):Int))) rfl (.int (Ze (by omega)))
  replace hS:=hS.ent (i:=5) (s':=.pv (.sl rInt (((os.map OrdD.key).take (i+1)).foldl Zb2 []))) rfl ((.sl (by rw [Zt (by simpa using hil),List.foldl_append,ZbA hil];rfl)))
  obtain ⟨F,hS⟩:=hS.nm [15,14,4,3,0,5,16] [101,0] rfl rfl
  exact ⟨(i+1),F,⟨by omega,trivial⟩,hS,by omega⟩
 have hil:i=os.length:=by simp at hc0;omega
 have hk0:(((os.map OrdD.key).take i).foldl Zb2 [])=ZaO (os.map OrdD.key):=by rw [hil,List.take_of_length_le (by simp)];rfl
 have hk00:=Zcl (os.map OrdD.key)
 rw [List.length_map] at hk00
 refine wp_exit (Zk (Zk (Zq (Za (wp_seq (wp_seq ?_))))))
 refine Zb hS (qe 3 101 r1 r1 (qf (oP (Zlj t false (by omega)) Tryz.func151 (Args.two (.pagg .t) .cb)) r1 qz (qu Tryz.underlying41 r1 (qJ qZ)))) hB [28,27,26,5,4,3,0] [101,0] rfl rfl fun a w F hS=>?_
 rw [show ZaO ((t.ops.filter fun o=>false || !o.read).map OpD.key)=ZJ t from rfl] at hS
 refine Za (wp_block ?_)
 replace hS:=hS.ent (i:=5) (s':=.pv (.sl rInt (((ZJ t).take 0).foldl Zb2 (ZaO (os.map OrdD.key))))) rfl ((.sl hk0))
 refine Zl (σ:=(Nat)) [0,3,4,26,27] [0,101] (fun s=>[(28,.pv (.int .i64 (s:Int))),(5,.pv (.sl rInt (((ZJ t).take s).foldl Zb2 (ZaO (os.map OrdD.key)))))]) (fun s=>[]) (fun s=>s≤(ZJ t).length∧(True)) (fun s=>(ZJ t).length - s) (0) hS ⟨rfl,rfl,rfl,rfl,rfl,rfl,rfl,trivial⟩ ⟨rfl,rfl,trivial⟩ ⟨Nat.zero_le _,trivial⟩ ?_
 clear hS;intro i a w F hC hS
 try dsimp only at hC
 obtain ⟨F,hS⟩:=hS.nm [28,27,26,5,4,3,0] [101,0] rfl rfl
 try dsimp only at hS
 obtain ⟨hi,hq⟩:=hC
 have hkl:=Zdq (ZaO (os.map OrdD.key)) ((ZJ t).take i)
 rw [List.length_take] at hkl
 refine wp_seq ?_
 refine Zb hS (qL r2) hB [29,28,27,26,5,4,3,0] [101,0] rfl rfl fun a w F hS=>Za (wp_seq ?_)
 refine Zd hS rfl (fun hc1=>?_) (fun hc1=>?_)
 ·skip
  have hil:i<(ZJ t).length:=by simp at hc1;omega
  refine wp_skip (Za (wp_seq (wp_block (wp_seq ?_))))
  refine Zb hS (qy 1 Tryz.underlying41 r2 (qf (oR false 1 .t) r1 qz (qN rfl rfl qZ))) hB [28,27,26,9,5,4,3,0] [101,0] rfl rfl fun a w F hS=>?_
  try simp only [Int.toNat_natCast] at hS
  refine Za ?_
  refine Zb hS (qM rfl rfl (qM rfl rfl (qf (oP (ZgE _ (Go.Gm.nth (ZJ t) i) (by omega)) Tryz.func53 (Args.two .t .t)) r2 qz (qN rfl rfl qZ)))) hB [28,27,26,5,4,3,0] [101,0] rfl rfl fun a w F hS=>Zi (Za ?_)
  refine Zb hS (qp r1 (qM rfl rfl qZ)) hB [28,27,26,5,4,3,0] [101,0] rfl rfl fun a w F hS=>Za ?_
  replace hS:=hS.ent (i:=28) (s':=.pv (.int .i64 ((i+1:Nat):Int))) rfl (.int (Ze (by omega)))
  replace hS:=hS.ent (i:=5) (s':=.pv (.sl rInt (((ZJ t).take (i+1)).foldl Zb2 (ZaO (os.map OrdD.key))))) rfl ((.sl (by rw [Zt hil,List.foldl_append];rfl)))
  obtain ⟨F,hS⟩:=hS.nm [27,26,4,3,0,5,28] [101,0] rfl rfl
  exact ⟨(i+1),F,⟨by omega,trivial⟩,hS,by omega⟩
 have hil:i=(ZJ t).length:=by simp at hc1;omega
 rw [hil,List.take_length] at hS
 rw [show (ZJ t).foldl Zb2 (ZaO (os.map OrdD.key))=ZL t os from rfl] at hS
 have hdk:(ZL t os).length≤5000:=by have:=Zdq (ZaO (os.map OrdD.key)) (ZJ t);unfold ZL;omega
 refine wp_exit (Zk (Zk (Zq (Za (wp_seq ?_)))))
 refine Zb hS (qM rfl rfl (qN rfl rfl qZ)) hB [10,5,4,3,0] [101,0] rfl rfl fun a w F hS=>Za (wp_seq (wp_seq ?_))
 refine Zb hS (qM rfl rfl (qu Tryz.underlying41 r1 (qJ qZ))) hB [39,38,37,10,4,3,0] [101,0] rfl rfl fun a w F hS=>Za (wp_block ?_)
 replace hS:=hS.ent (i:=10) (s':=.pv (.sl Zs (((ZL t os).take 0).foldl (Z8 t os) os))) rfl (.refl)
 refine Zl (σ:=(Nat)) [0,3,4,37,38] [0,101] (fun s=>[(39,.pv (.int .i64 (s:Int))),(10,.pv (.sl Zs (((ZL t os).take s).foldl (Z8 t os) os)))]) (fun s=>[]) (fun s=>s≤(ZL t os).length∧(True)) (fun s=>(ZL t os).length - s) (0) hS ⟨rfl,rfl,rfl,rfl,rfl,rfl,rfl,trivial⟩ ⟨rfl,rfl,trivial⟩ ⟨Nat.zero_le _,trivial⟩ ?_
 clear hS;intro i a w F hC hS
 try dsimp only at hC
 obtain ⟨F,hS⟩:=hS.nm [39,38,37,10,4,3,0] [101,0] rfl rfl
 try dsimp only at hS
 obtain ⟨hi,hq⟩:=hC
 have hdl:=Zi2 (t:=t) (os:=os) ((ZL t os).take i) os
 rw [List.length_take] at hdl
 refine wp_seq ?_
 refine Zb hS (qL r2) hB [40,39,38,37,10,4,3,0] [101,0] rfl rfl fun a w F hS=>Za (wp_seq ?_)
 refine Zd hS rfl (fun hc2=>?_) (fun hc2=>?_)
 ·skip
  have hil:i<(ZL t os).length:=by simp at hc2;omega
  have hio:=hil
  have hgl:=Zdl hs (Go.Gm.nth (ZL t os) i)
  refine wp_skip (Za (wp_seq (wp_block (wp_seq ?_))))
  refine Zb hS (qy 1 Tryz.underlying41 r2 (qf (oR false 1 .t) r1 qz (qN rfl rfl qZ))) hB [39,38,37,12,10,4,3,0] [101,0] rfl rfl fun a w F hS=>?_
  try simp only [Int.toNat_natCast] at hS
  refine Za (wp_seq ?_)
  refine Zb hS (qM rfl rfl (qf (oB [(1,.tmp 43)] [.slice none 0 0,.slice none 0 0] [(0,1),(1,1)] (.one rfl .t one_sl (by kernel_rfl) .nil)) r1 qz (qM rfl rfl (qf (oP (ZcK ⟨[],os⟩ (Go.Gm.nth (ZL t os) i)) Tryz.func38 (Args.two (.conv (.pagg .t) (Ent.paggLe (l:=[.is (.slice none 0 0),.sl Zs os]) (l':=Zj ⟨[],os⟩) ⟨PVLe.nilSl,PVLe.refl,trivial⟩)) .t)) r2 qz (qN rfl rfl qZ))))) hB [39,38,37,13,12,10,4,3,0] [101,0] rfl rfl fun a w F hS=>Za (wp_seq ?_)
  refine Zb hS (qg 1 101 r1 r1 (qa 101 r1 r1 (qM rfl rfl (qv 2 101 rfl r2 r1 (qw 101 rfl r2 r1 (qm rfl rfl rfl rfl (qk rfl (fun h=>oP (Zb9 t.ops (Go.Gm.nth (ZL t os) i) (by omega)) Tryz.func148 (Args.two (.w h) (.w h))) r3 qz (qk rfl (fun h=>ZaR (.w h) qi) r2 qz (qf (Zy .t .t) r2 qz qZ))))))))) hB [55,39,38,37,13,12,10,4,3,0] [101,0] rfl rfl fun a w F hS=>Za ?_
  refine Zd hS rfl (fun hc3=>?_) (fun hc3=>?_)
  ·skip
   have hst9:putGR OrdD.key (⟨(Go.Gm.nth (ZL t os) i),withO (getO os (Go.Gm.nth (ZL t os) i)) t.id⟩:OrdD) (((ZL t os).take i).foldl (Z8 t os) os) (decide (((⟨(Go.Gm.nth (ZL t os) i),withO (getO os (Go.Gm.nth (ZL t os) i)) t.id⟩:OrdD)).txs = []))=(((ZL t os).take (i+1)).foldl (Z8 t os) os):=by rw [Zt hio,List.foldl_append];show _=Z8 t os _ _;unfold Z8 ZcN;rw [if_pos (by have h9:=hc3;unfold wcnt;simpa using h9)]
   refine Zb hS (qM rfl rfl (qM rfl rfl (qM rfl rfl (qg 0 101 r1 r1 (qa 101 r1 r1 (qf (oP (Zl6 (getO os (Go.Gm.nth (ZL t os) i)) t.id (by omega)) Tryz.func184 (Args.two .t .t)) r2 qz (qf (oB [(0,.tmp 57),(1,.tmp 61)] [.int .i64 0,.slice none 0 0] [(0,1),(1,1)] (.one rfl .t one_int (by kernel_rfl) (.one rfl .t one_sl (by kernel_rfl) .nil))) r2 qz (qf (oP (ZcG (((ZL t os).take i).foldl (Z8 t os) os) (⟨(Go.Gm.nth (ZL t os) i),withO (getO os (Go.Gm.nth (ZL t os) i)) t.id⟩:OrdD) (by omega)) Tryz.func132 (Args.two .t (.pagg .t))) r2 qz (qN rfl rfl qZ))))))))) hB [39,38,37,10,4,3,0] [101,0] rfl rfl fun a w F hS=>Zi (Za ?_)
   refine Zb hS (qp r1 (qM rfl rfl qZ)) hB [39,38,37,10,4,3,0] [101,0] rfl rfl fun a w F hS=>Za ?_
   replace hS:=hS.ent (i:=39) (s':=.pv (.int .i64 ((i+1:Nat):Int))) rfl (.int (Ze (by omega)))
   replace hS:=hS.ent (i:=10) (s':=.pv (.sl Zs (((ZL t os).take (i+1)).foldl (Z8 t os) os))) rfl ((.sl hst9))
   obtain ⟨F,hS⟩:=hS.nm [38,37,4,3,0,10,39] [101,0] rfl rfl
   exact ⟨(i+1),F,⟨by omega,trivial⟩,hS,by omega⟩
  have hst9:putGR OrdD.key (⟨(Go.Gm.nth (ZL t os) i),withoutO (getO os (Go.Gm.nth (ZL t os) i)) t.id⟩:OrdD) (((ZL t os).take i).foldl (Z8 t os) os) (decide (((⟨(Go.Gm.nth (ZL t os) i),withoutO (getO os (Go.Gm.nth (ZL t os) i)) t.id⟩:OrdD)).txs = []))=(((ZL t os).take (i+1)).foldl (Z8 t os) os):=by rw [Zt hio,List.foldl_append];show _=Z8 t os _ _;unfold Z8 ZcN;rw [if_neg (by have h9:=hc3;unfold wcnt;intro e;simp [e.1,e.2] at h9)]
  refine Zb hS (qM rfl rfl (qM rfl rfl (qM rfl rfl (qg 0 101 r1 r1 (qa 101 r1 r1 (qf (oP (Zij (getO os (Go.Gm.nth (ZL t os) i)) t.id (by omega)) Tryz.func185 (Args.two .t .t)) r2 qz (qf (oB [(0,.tmp 65),(1,.tmp 69)] [.int .i64 0,.slice none 0 0] [(0,1),(1,1)] (.one rfl .t one_int (by kernel_rfl) (.one rfl .t one_sl (by kernel_rfl) .nil))) r2 qz (qf (oP (ZcG (((ZL t os).take i).foldl (Z8 t os) os) (⟨(Go.Gm.nth (ZL t os) i),withoutO (getO os (Go.Gm.nth (ZL t os) i)) t.id⟩:OrdD) (by omega)) Tryz.func132 (Args.two .t (.pagg .t))) r2 qz (qN rfl rfl qZ))))))))) hB [39,38,37,10,4,3,0] [101,0] rfl rfl fun a w F hS=>Zi (Za ?_)
  refine Zb hS (qp r1 (qM rfl rfl qZ)) hB [39,38,37,10,4,3,0] [101,0] rfl rfl fun a w F hS=>Za ?_
  replace hS:=hS.ent (i:=39) (s':=.pv (.int .i64 ((i+1:Nat):Int))) rfl (.int (Ze (by omega)))
  replace hS:=hS.ent (i:=10) (s':=.pv (.sl Zs (((ZL t os).take (i+1)).foldl (Z8 t os) os))) rfl ((.sl hst9))
  obtain ⟨F,hS⟩:=hS.nm [38,37,4,3,0,10,39] [101,0] rfl rfl
  exact ⟨(i+1),F,⟨by omega,trivial⟩,hS,by omega⟩
 have hil:i=(ZL t os).length:=by simp at hc2;omega
 refine wp_exit (Zk (Zk (Zq (Za (wp_seq ?_)))))
 refine Zb hS (qM rfl rfl (qN rfl rfl qZ)) hB [4] [101,0] rfl rfl fun a w F hS=>Za (wp_ret ?_)
 refine Zr hfr hS rfl rfl rfl (.sl (by rw [hil,List.take_length];rfl))
theorem ZhP (g:Zn) (t:TxD) (hs:Zai g.txs) (ht:t.ops.length≤1000):FnP Tryz.prog 131 [.agg (Zj g),.agg (rTx t)] (.bool (ZdE g t)):=by
 refine FnP.mk Tryz.func131 rfl Tryz.ntmps131 rfl ?_
 intro B a w F hB hfr hS
 have hsl:=hs.1
 have hnl:∀ x:TxD,x.ops.length≤1000→(ZV x).length≤1000:=fun x hx=>by have:=ZbR x.id x.ops x.ops.length;rw [List.take_length] at this;unfold ZV;omega
 refine wp_seq ?_
 refine Zc hS (qx 101 r1 (qx 102 r1 qB)) hB [4,3,2] [102,101,0] (fun _=>rfl) (fun _=>rfl) fun τ a w F hS=>?_
 try dsimp only [RS.sub,SF.sub,CF.sub,csub,Anc.sub,List.map,zCF,Zj,rTx,Zs,Zv,rInt,rOp] at hS
 generalize τ 2=v2 at hS
 generalize τ 3=v3 at hS
 refine Za (wp_seq (wp_seq ?_))
 refine Zb hS (qg 0 101 r1 r1 (qa 101 r1 r1 (qu Tryz.underlying22 r1 (qJ qZ)))) hB [12,11,10,4,3] [102,101,0] rfl rfl fun a w F hS=>Za (wp_block ?_)
 refine Zl (σ:=(Nat)) [3,4,10,11] [0,101,102] (fun s=>[(12,.pv (.int .i64 (s:Int)))]) (fun s=>[]) (fun s=>s≤g.txs.length∧(∀ q,q<s→Zef t (Go.Gm.nth g.txs q)=false)) (fun s=>g.txs.length - s) (0) hS ⟨rfl,rfl,rfl,rfl,rfl,trivial⟩ ⟨rfl,rfl,rfl,trivial⟩ ⟨Nat.zero_le _,fun q hq=>absurd hq (Nat.not_lt_zero q)⟩ ?_
 clear hS;intro i a w F hC hS
 try dsimp only at hC
 obtain ⟨F,hS⟩:=hS.nm [12,11,10,4,3] [102,101,0] rfl rfl
 try dsimp only at hS
 obtain ⟨hi,hq⟩:=hC
 refine wp_seq ?_
 refine Zb hS (qL r2) hB [13,12,11,10,4,3] [102,101,0] rfl rfl fun a w F hS=>Za (wp_seq ?_)
 refine Zd hS rfl (fun hc0=>?_) (fun hc0=>?_)
 ·skip
  have hil:i<g.txs.length:=by simp at hc0;omega
  have hio:=hil
  have hqo:=hq
  have hnl2:=hnl (Go.Gm.nth g.txs i) (by have:=hs.at hio;omega)
  refine wp_skip (Za (wp_seq (wp_block (wp_seq ?_))))
  refine Zc hS (qy 3 Tryz.underlying22 r2 (qf (oR true 3 .t) r1 qz (qf (oH [.int .i64 0,.bool false,.slice none 0 0] 103) trivial qz (qS 3 103 r2 r1 qZ)))) hB [12,11,10,6,4,3] [103,102,101,0] (fun _=>rfl) (fun _=>rfl) fun τ a w F hS=>?_
  try dsimp only [RS.sub,SF.sub,CF.sub,csub,Anc.sub,List.map,Zf,xL,xM,Nat.reduceAdd,xD,xE,xT,xU,xC,xN,zCF,ldSF,Zj,rTx,Zs,Zv,rInt,rOp] at hS
  generalize τ 6=v6 at hS
  try simp only [Int.toNat_natCast] at hS
  refine Za (wp_seq (wp_seq ?_))
  refine Zb hS (qg 0 103 r1 r1 (qa 103 r1 r1 (qg 0 102 r1 r1 (qa 102 r1 r1 (qf (o_eql .t .t) r2 qz qZ))))) hB [20,12,11,10,6,4,3] [103,102,101,0] rfl rfl fun a w F hS=>Za ?_
  refine Zd hS rfl (fun hc1=>?_) (fun hc1=>?_)
  ·skip
   have hno:Zef t (Go.Gm.nth g.txs i)=false:=by unfold Zef;rw [decide_eq_false (by simpa using hc1),Bool.false_and]
   refine wp_exit (Zk (Zq (Za ?_)))
   refine Zb hS (qp r1 (qM rfl rfl qZ)) hB [12,11,10,4,3] [103,102,101,0] rfl rfl fun a w F hS=>Za ?_
   replace hS:=hS.ent (i:=12) (s':=.pv (.int .i64 ((i+1:Nat):Int))) rfl (.int (Ze (by omega)))
   obtain ⟨F,hS⟩:=hS.nm [11,10,4,3,12] [102,101,0] rfl rfl
   exact ⟨(i+1),F,⟨by omega,(fun q h9=>by rcases Nat.lt_or_eq_of_le (Nat.le_of_lt_succ h9) with h8 | h8;exact hqo q h8;rw [h8];exact hno)⟩,hS,by omega⟩
  have hne:(Go.Gm.nth g.txs i).id≠t.id:=by simpa using hc1
  refine wp_skip (Za (wp_seq ?_))
  refine Zb hS (qe 3 103 r1 r1 (qf (oP (ZfI (Go.Gm.nth g.txs i) (by have:=hs.at hio;omega)) Tryz.func149 (Args.one (.pagg .t))) r1 qz (qu Tryz.underlying126 r1 (qJ qZ)))) hB [24,23,22,12,11,10,4,3] [103,102,101,0] rfl rfl fun a w F hS=>Za (wp_block ?_)
  refine Zl (σ:=(Nat)) [3,4,10,11,12,22,23] [0,101,102,103] (fun s=>[(24,.pv (.int .i64 (s:Int)))]) (fun s=>[]) (fun s=>s≤(ZV (Go.Gm.nth g.txs i)).length∧(∀ q,q<s→ZfB t (Go.Gm.nth (ZV (Go.Gm.nth g.txs i)) q)=false)) (fun s=>(ZV (Go.Gm.nth g.txs i)).length - s) (0) hS ⟨rfl,rfl,rfl,rfl,rfl,rfl,rfl,rfl,trivial⟩ ⟨rfl,rfl,rfl,rfl,trivial⟩ ⟨Nat.zero_le _,fun q hq=>absurd hq (Nat.not_lt_zero q)⟩ ?_
  clear hS;intro j a w F hC hS
  try dsimp only at hC
  obtain ⟨F,hS⟩:=hS.nm [24,23,22,12,11,10,4,3] [103,102,101,0] rfl rfl
  try dsimp only at hS
  obtain ⟨hi,hq⟩:=hC
  have hq2:=hq
  refine wp_seq ?_
  refine Zb hS (qL r2) hB [25,24,23,22,12,11,10,4,3] [103,102,101,0] rfl rfl fun a w F hS=>Za (wp_seq ?_)
  refine Zd hS rfl (fun hc2=>?_) (fun hc2=>?_)
  ·skip
   have hil:j<(ZV (Go.Gm.nth g.txs i)).length:=by simp at hc2;omega
   have hjo:=hil
   refine wp_skip (Za (wp_seq (wp_block (wp_seq ?_))))
   refine Zc hS (qy 3 Tryz.underlying126 r2 (qf (oR true 3 .t) r1 qz (qf (oH [.int .i64 0,.int .i64 0,.int .i64 0] 104) trivial qz (qS 3 104 r2 r1 qZ)))) hB [24,23,22,12,11,10,8,4,3] [104,103,102,101,0] (fun _=>rfl) (fun _=>rfl) fun τ a w F hS=>?_
   try dsimp only [RS.sub,SF.sub,CF.sub,csub,Anc.sub,List.map,Zf,xL,xM,Nat.reduceAdd,xD,xE,xT,xU,xC,xN,zCF,ldSF,Zj,rTx,Zs,Zv,rInt,rOp] at hS
   generalize τ 8=v8 at hS
   try simp only [Int.toNat_natCast] at hS
   refine Za (wp_seq ?_)
   refine ZE hS (qg 0 104 r1 r1 (qa 104 r1 r1 (qg 0 102 r1 r1 (qa 102 r1 r1 (qf (o_eql .t .t) r2 qz (qM rfl rfl (qv 2 104 rfl r2 r1 (qw 104 rfl r2 r1 (qv 2 102 rfl r2 r1 (qw 102 rfl r2 r1 (qv 1 104 rfl r2 r1 (qw 104 rfl r2 r1 (qk rfl (fun h=>oP (Zb9 t.ops (Go.Gm.nth (ZV (Go.Gm.nth g.txs i)) j).key (by omega)) Tryz.func148 (Args.two (.w h) (.w h))) r3 qz (qk rfl (fun h=>ZaR (.w h) (.w h)) r3 qz (qf (Zy .t .t) r2 qz qZ))))))))))))))) hB [42,24,23,22,12,11,10,4,3] [104,103,102,101,0] rfl rfl fun a w F hS=>?_
   try dsimp only [List.map,xD,xE,xT,xU,ldSF,Zj,rTx,Zs,Zv,rInt,rOp] at hS
   refine Za ?_
   refine Zd hS rfl (fun hc3=>?_) (fun hc3=>?_)
   ·skip
    have hg:true=ZdE g t:=(Zer hio (by
      have h9:=hc3
      simp at h9
      unfold Zef
      rw [decide_eq_true hne,Bool.true_and]
      refine Zer hjo ?_
      unfold ZfB wcnt
      simp [h9.1]
      first | exact h9.2 | (have:=h9.2;omega))).symm
    refine wp_seq ?_
    refine Zb hS qB hB [24,23,22,12,11,10,4,3] [104,103,102,101,0] rfl rfl fun a w F hS=>Za (wp_ret (Zm (Zg (Zg (Zm (Zm (Zg (Zg (Zm (Zg ?_))))))))))
    refine Zr hfr hS rfl rfl rfl (.bool hg)
   have hnv:ZfB t (Go.Gm.nth (ZV (Go.Gm.nth g.txs i)) j)=false:=by
     have h9:=hc3
     unfold ZfB wcnt
     simp at h9 ⊢
     first | exact h9 | (intro e;have:=h9 e;omega)
   refine wp_skip (Zi (Za ?_))
   refine Zb hS (qp r1 (qM rfl rfl qZ)) hB [24,23,22,12,11,10,4,3] [104,103,102,101,0] rfl rfl fun a w F hS=>Za ?_
   replace hS:=hS.ent (i:=24) (s':=.pv (.int .i64 ((j+1:Nat):Int))) rfl (.int (Ze (by omega)))
   obtain ⟨F,hS⟩:=hS.nm [23,22,12,11,10,4,3,24] [103,102,101,0] rfl rfl
   exact ⟨(j+1),F,⟨by omega,(fun q h9=>by rcases Nat.lt_or_eq_of_le (Nat.le_of_lt_succ h9) with h8 | h8;exact hq2 q h8;rw [h8];exact hnv)⟩,hS,by omega⟩
  have hil:j=(ZV (Go.Gm.nth g.txs i)).length:=by simp at hc2;omega
  have hno:Zef t (Go.Gm.nth g.txs i)=false:=by unfold Zef;rw [Zes (by rw [← hil];exact hq2),Bool.and_false]
  refine wp_exit (Zk (Zk (Zq (Zi (Za ?_)))))
  refine Zb hS (qp r1 (qM rfl rfl qZ)) hB [12,11,10,4,3] [103,102,101,0] rfl rfl fun a w F hS=>Za ?_
  replace hS:=hS.ent (i:=12) (s':=.pv (.int .i64 ((i+1:Nat):Int))) rfl (.int (Ze (by omega)))
  obtain ⟨F,hS⟩:=hS.nm [11,10,4,3,12] [102,101,0] rfl rfl
  exact ⟨(i+1),F,⟨by omega,(fun q h9=>by rcases Nat.lt_or_eq_of_le (Nat.le_of_lt_succ h9) with h8 | h8;exact hqo q h8;rw [h8];exact hno)⟩,hS,by omega⟩
 have hil:i=g.txs.length:=by simp at hc0;omega
 have hg:false=ZdE g t:=(Zes (by rw [← hil];exact hq)).symm
 refine wp_exit (Zk (Zk (Zq (Za (wp_seq ?_)))))
 refine Zb hS qB hB [4] [102,101,0] rfl rfl fun a w F hS=>Za (wp_ret ?_)
 refine Zr hfr hS rfl rfl rfl (.bool hg)
end Go.Proofs.YtjhapicamnijnaaGreat
