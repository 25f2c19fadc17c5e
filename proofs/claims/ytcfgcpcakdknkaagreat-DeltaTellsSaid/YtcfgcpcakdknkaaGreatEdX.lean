/- Ed1,Ed2,Ed3,Ed4,Ed5,Ed6,Ed7,Ed8,Ed9,in one text. -/
import Derived.Test.YtcfgcpcakdknkaaGreatHi0
import Derived.Test.YtcfgcpcakdknkaaGreatOr1
import Derived.Test.YtcfgcpcakdknkaaGreatLibE
import Derived.Test.YtcfgcpcakdknkaaGreatTxX
import Derived.Test.YtcfgcpcakdknkaaGreatHiX
import Derived.Test.YtcfgcpcakdknkaaGreatOrX
import Derived.Test.YtcfgcpcakdknkaaGreatHiL
namespace Go.Proofs.YtcfgcpcakdknkaaGreat
open Go Go.Gm
set_option linter.unusedVariables false
set_option linter.unusedSimpArgs false
set_option maxHeartbeats 4000000
set_option maxRecDepth 8000
end Go.Proofs.YtcfgcpcakdknkaaGreat
namespace Go.Proofs.YtcfgcpcakdknkaaGreat
open Go Go.Gm
set_option linter.unusedVariables false
set_option linter.unusedSimpArgs false
set_option maxHeartbeats 4000000
set_option maxRecDepth 8000
end Go.Proofs.YtcfgcpcakdknkaaGreat
namespace Go.Proofs.YtcfgcpcakdknkaaGreat
open Go Go.Gm
set_option linter.unusedVariables false
set_option linter.unusedSimpArgs false
set_option maxHeartbeats 4000000
set_option maxRecDepth 8000
def cmpZ (x y:Int):Int:=if x<y then -1 else if y<x then 1 else 0
theorem cmpZ_lt {x y:Int} : cmpZ x y<0 ↔ x<y:=by unfold cmpZ;split <;> (try split) <;> omega
theorem wrapU {x:Int} (h:0≤x∧x≤18446744073709551615):IntKind.wrap .u64 x=x:=wrap_id ⟨by simp [IntKind.min,IntKind.signed,IntKind.bits];omega,by simp [IntKind.max,IntKind.signed,IntKind.bits];omega⟩
theorem mid_shr {i j:Nat} (h:i+j≤2000000):IntKind.wrap .i64 ((IntKind.wrap .u64 (IntKind.wrap .i64 ((i:Int)+(j:Int)))).fdiv (2 ^ min (1:Int).toNat (IntKind.bits .u64)))=(((i+j) / 2:Nat):Int):=by
 rw [wrap_i64 (x:=(i:Int)+(j:Int)) (by omega),wrapU (by omega),show (2:Int) ^ min (1:Int).toNat (IntKind.bits .u64)=2 by decide,Int.fdiv_eq_ediv_of_nonneg _ (by decide),wrap_i64 (by omega)]
 omega
def Rise {α:Type} [Inhabited α] (κ:α→Int) (l:List α):Prop:=∀ a b,a<b→b<l.length→κ (Go.Gm.nth l a)<κ (Go.Gm.nth l b)
def lowK {α:Type} (κ:α→Int) (k:Int) (l:List α):Nat:=(l.takeWhile fun x=>decide (κ x<k)).length
def isK {α:Type} (κ:α→Int) (k:Int) (l:List α):Bool:=l.any fun x=>decide (κ x=k)
theorem lowK_eq {α:Type} [Inhabited α] {κ:α→Int} {k:Int} : ∀ {l:List α} {i:Nat},i≤l.length→(∀ q,q<i→κ (Go.Gm.nth l q)<k)→(∀ q,i≤q→q<l.length→k≤κ (Go.Gm.nth l q))→lowK κ k l=i
 | [],i,hi,_,_=>by simp at hi;subst hi;rfl
 | x :: l,0,_,_,h2=>by
   have:=h2 0 (Nat.le_refl _) (by simp)
   rw [nth_eq (by simp)] at this
   unfold lowK
   rw [List.takeWhile_cons_of_neg (by simpa using this)];rfl
 | x :: l,i+1,hi,h1,h2=>by
   have hx:=h1 0 (by omega)
   rw [nth_eq (by simp)] at hx
   have ih:=lowK_eq (κ:=κ) (k:=k) (l:=l) (i:=i) (by simpa using hi) (fun q hq=>by
     have:=h1 (q+1) (by omega)
     rw [nth_eq (by simp at hi ⊢;omega)] at this
     rw [nth_eq (by simp at hi;omega)];simpa using this) (fun q hq hq2=>by
     have:=h2 (q+1) (by omega) (by simp;omega)
     rw [nth_eq (by simp;omega)] at this
     rw [nth_eq hq2];simpa using this)
   unfold lowK at ih ⊢
   rw [List.takeWhile_cons_of_pos (by simpa using hx),List.length_cons,ih]
theorem rise_le {α:Type} [Inhabited α] {κ:α→Int} {l:List α} (hs:Rise κ l) {a b:Nat} (h:a≤b) (hb:b<l.length):κ (Go.Gm.nth l a)≤κ (Go.Gm.nth l b):=by
 rcases Nat.lt_or_eq_of_le h with h | h
 · exact Int.le_of_lt (hs a b h hb)
 · subst h;exact Int.le_refl _
theorem isNaNZ_c (x:Int):FnP Tryz.prog 147 [.int .i64 x] (.bool false):=by
 refine FnP.mk Tryz.func147 rfl Tryz.ntmps147 rfl ?_
 intro B a w F hB hfr hS
 refine wp_seq ?_
 refine region_z hS (qf (oN .cb) trivial qz qZ) hB [2,0] [0] rfl rfl ?_
 clear hS;intro a w F hS
 refine then_n (wp_seq ?_)
 refine region_z hS (qM rfl rfl (qM rfl rfl (qf (o_neq .t .t) r2 qz (qN rfl rfl qZ)))) hB [2] [0] rfl rfl ?_
 clear hS;intro a w F hS
 refine then_n (wp_ret ?_)
 refine ret_P hfr hS rfl (.tmp rfl .nil) (.one (.bool (by simp)))
theorem cmpZ_c (x y:Int):FnP Tryz.prog 111 [.int .i64 x,.int .i64 y] (.int .i64 (cmpZ x y)):=by
 refine FnP.mk Tryz.func111 rfl Tryz.ntmps111 rfl ?_
 intro B a w F hB hfr hS
 refine wp_seq ?_
 refine region_z hS (qf (oN qi) trivial qz qZ) hB [4,1,0] [0] rfl rfl ?_
 clear hS;intro a w F hS
 refine then_n (wp_seq ?_)
 refine region_z hS (qM rfl rfl (qf (oP (isNaNZ_c x) Tryz.func147 (Args.one .t)) r1 qz (qN rfl rfl qZ))) hB [5,4,1,0] [0] rfl rfl ?_
 clear hS;intro a w F hS
 refine then_n (wp_seq ?_)
 refine region_z hS (qM rfl rfl (qf (oP (isNaNZ_c y) Tryz.func147 (Args.one .t)) r1 qz (qN rfl rfl qZ))) hB [6,5,4,1,0] [0] rfl rfl ?_
 clear hS;intro a w F hS
 refine then_n (wp_seq (wp_seq ?_))
 refine region_z hS (qM rfl rfl qZ) hB [11,6,4,1,0] [0] rfl rfl ?_
 clear hS;intro a w F hS
 refine then_n ?_
 refine cond_b hS rfl (fun hc0=>?_) (fun hc0=>?_)
 ·skip
  simp at hc0
 refine wp_skip (then_n (wp_seq (wp_seq ?_)))
 refine region_z hS (qM rfl rfl qZ) hB [13,4,1,0] [0] rfl rfl ?_
 clear hS;intro a w F hS
 refine then_n ?_
 refine cond_b hS rfl (fun hc1=>?_) (fun hc1=>?_)
 ·skip
  simp at hc1
 refine wp_skip (then_n (wp_seq (wp_seq ?_)))
 refine region_z hS (qM rfl rfl (qM rfl rfl (qf (o_lss .t .t) r2 qz qZ))) hB [16,4,1,0] [0] rfl rfl ?_
 clear hS;intro a w F hS
 refine then_n ?_
 refine cond_b hS rfl (fun hc2=>?_) (fun hc2=>?_)
 ·skip
  have hg:(-1:Int)=cmpZ x y:=by unfold cmpZ;rw [if_pos (by simpa using hc2)]
  refine wp_seq ?_
  refine region_z hS (qf (oN qi) trivial qz qZ) hB [4,1,0] [0] rfl rfl ?_
  clear hS;intro a w F hS
  refine then_n (wp_ret (then_r ?_))
  refine ret_P hfr hS rfl (.tmp rfl .nil) (.one (.int hg))
 have h1:¬ x<y:=by simpa using hc2
 refine wp_skip (then_n (wp_seq (wp_seq ?_)))
 refine region_z hS (qM rfl rfl (qM rfl rfl (qf (o_gtr .t .t) r2 qz qZ))) hB [19,4] [0] rfl rfl ?_
 clear hS;intro a w F hS
 refine then_n ?_
 refine cond_b hS rfl (fun hc3=>?_) (fun hc3=>?_)
 ·skip
  have hg:(1:Int)=cmpZ x y:=by unfold cmpZ;rw [if_neg h1,if_pos (by simpa using hc3)]
  refine wp_seq ?_
  refine region_z hS (qf (oN qi) trivial qz qZ) hB [4] [0] rfl rfl ?_
  clear hS;intro a w F hS
  refine then_n (wp_ret (then_r ?_))
  refine ret_P hfr hS rfl (.tmp rfl .nil) (.one (.int hg))
 have hg:(0:Int)=cmpZ x y:=by unfold cmpZ;rw [if_neg h1,if_neg (by simpa using hc3)]
 refine wp_skip (then_n (wp_seq ?_))
 refine region_z hS (qf (oN qi) trivial qz qZ) hB [4] [0] rfl rfl ?_
 clear hS;intro a w F hS
 refine then_n (wp_ret ?_)
 refine ret_P hfr hS rfl (.tmp rfl .nil) (.one (.int hg))
end Go.Proofs.YtcfgcpcakdknkaaGreat
namespace Go.Proofs.YtcfgcpcakdknkaaGreat
open Go Go.Gm
set_option linter.unusedVariables false
set_option linter.unusedSimpArgs false
set_option maxHeartbeats 4000000
set_option maxRecDepth 8000
end Go.Proofs.YtcfgcpcakdknkaaGreat
namespace Go.Proofs.YtcfgcpcakdknkaaGreat
open Go Go.Gm
set_option linter.unusedVariables false
set_option linter.unusedSimpArgs false
set_option maxHeartbeats 4000000
set_option maxRecDepth 8000
def insK (os:List OrdD) (k:Int):List OrdD:=if isK OrdD.key k os=true then os else os.take (lowK OrdD.key k os) ++ [⟨k,[]⟩] ++ os.drop (lowK OrdD.key k os)
theorem rise_iff {α:Type} [Inhabited α] {κ:α→Int} {l:List α} : Rise κ l ↔ l.Pairwise fun a b=>κ a<κ b:=by
 rw [List.pairwise_iff_getElem]
 constructor
 · intro h i j hi hj hij
   have:=h i j hij hj
   rwa [nth_eq hi,nth_eq hj] at this
 · intro h a b hab hb
   rw [nth_eq (by omega),nth_eq hb]
   exact h a b (by omega) hb hab
theorem insK_len (os:List OrdD) (k:Int):(insK os k).length≤os.length+1:=by
 unfold insK
 split
 · omega
 · rw [List.length_append,List.length_append,List.length_take,List.length_drop];simp;omega
theorem insK_mem {os:List OrdD} {k:Int} {o:OrdD} (h:o ∈ insK os k):o ∈ os∨o = ⟨k,[]⟩:=by
 unfold insK at h
 split at h
 · exact .inl h
 · rw [List.mem_append,List.mem_append] at h
   rcases h with (h | h) | h
   · exact .inl (List.mem_of_mem_take h)
   · exact .inr (by simpa using h)
   · exact .inl (List.mem_of_mem_drop h)
def insS (t:TxD) (os:List OrdD) (ks:List Int):List OrdD:=if t.done=true then ks.foldl insK os else os
def ordF (t:TxD) (o:OrdD):OrdD:=⟨o.key,if t.done=true∧0<wcnt t.ops o.key then withO o.txs t.id else withoutO o.txs t.id⟩
def settleO (t:TxD) (os:List OrdD):List OrdD:=((insS t os (keysT t)).map (ordF t)).filter fun o=>!decide (o.txs = [])
abbrev bookH (T TR:TypeId) (p va:Value) (os:List OrdD):HP:=HP.ex fun vb:Value=>HP.star [.pt (.val p) T [.pv (.is va),.pv (.is vb)],.ob (.val vb) (rowH TR 2 rOrd os)]
end Go.Proofs.YtcfgcpcakdknkaaGreat
namespace Go.Proofs.YtcfgcpcakdknkaaGreat
open Go Go.Gm
set_option linter.unusedVariables false
set_option linter.unusedSimpArgs false
set_option maxHeartbeats 4000000
set_option maxRecDepth 8000
def zeroH:HistD:=⟨[],[]⟩
theorem right_rise {g:HistD} (h:RightH g):Rise TxD.id g.txs∧Rise OrdD.key g.orders:=by
 constructor
 · have hi:IncI (g.txs.map TxD.id):=inc_adj fun i hi h0=>by
     have hi':i<g.txs.length:=by simpa using hi
     rw [nth_map (by omega),nth_map hi']
     exact (h.2.1 i hi').1 h0
   rw [rise_iff]
   exact List.pairwise_map.1 hi
 · have h2:=(ord_same g).2 h.2.2
   have hi:IncI (g.orders.map OrdD.key):=inc_adj fun i hi h0=>by
     have hi':i<g.orders.length:=by simpa using hi
     rw [nth_map (by omega),nth_map hi']
     exact (h2.2 i hi').1 h0
   rw [rise_iff]
   exact List.pairwise_map.1 hi
def usedV (t:TxD) (v:VerD):Bool:=decide (v.tx=t.id) && decide ((wcnt t.ops v.key:Int)<v.nth)
def usedX (t x:TxD):Bool:=decide (x.id≠t.id) && (needsT x).any (usedV t)
def usedH (g:HistD) (t:TxD):Bool:=g.txs.any (usedX t)
def mayH (g:HistD) (t:TxD) (there:Int) (wanted:Bool):Int×Int:=if ¬ RightH g then (0,5) else if rightT t≠0 then (0,rightT t) else if isK TxD.id t.id g.txs≠wanted then (0,there) else if needsH g t=false then (0,6) else (lowK TxD.id t.id g.txs,0)
def insertH (g:HistD) (t:TxD):HistD×Int:=if (mayH g t 4 false).2≠0 then (zeroH,(mayH g t 4 false).2) else if g.txs.length=4096 then (zeroH,2) else (⟨g.txs.take (lowK TxD.id t.id g.txs) ++ [t] ++ g.txs.drop (lowK TxD.id t.id g.txs),settleO t g.orders⟩,0)
def noneT (id:Int):TxD:=⟨id,false,[]⟩
def deleteH (g:HistD) (id:Int):HistD×Int:=if ¬ RightH g then (zeroH,5) else if isK TxD.id id g.txs=false then (zeroH,3) else if usedH g (noneT id)=true then (zeroH,7) else (⟨g.txs.take (lowK TxD.id id g.txs)++g.txs.drop (lowK TxD.id id g.txs+1),settleO (noneT id) g.orders⟩,0)
def amendH (g:HistD) (t:TxD):HistD×Int:=if (mayH g t 3 true).2≠0 then (zeroH,(mayH g t 3 true).2) else if usedH g t=true then (zeroH,7) else (⟨g.txs.set (lowK TxD.id t.id g.txs) t,settleO t g.orders⟩,0)
theorem isK_low {α:Type} [Inhabited α] {κ:α→Int} {k:Int} {l:List α} (hs:Rise κ l) (h:isK κ k l=true):lowK κ k l<l.length∧κ (Go.Gm.nth l (lowK κ k l))=k:=by
 obtain ⟨x,hx,hk⟩:=List.any_eq_true.1 h
 obtain ⟨q,hq,e⟩:=List.getElem_of_mem hx
 have hk':κ (Go.Gm.nth l q)=k:=by rw [nth_eq hq,e];simpa using hk
 have hl:=lowK_eq (κ:=κ) (k:=k) (l:=l) (i:=q) (Nat.le_of_lt hq) (fun p hp=>by have:=hs p q hp hq;omega) (fun p hp hp2=>by have:=rise_le hs hp hp2;omega)
 rw [hl]
 exact ⟨hq,hk'⟩
end Go.Proofs.YtcfgcpcakdknkaaGreat
namespace Go.Proofs.YtcfgcpcakdknkaaGreat
open Go Go.Gm
set_option linter.unusedVariables false
set_option linter.unusedSimpArgs false
set_option maxHeartbeats 4000000
set_option maxRecDepth 8000
end Go.Proofs.YtcfgcpcakdknkaaGreat
namespace Go.Proofs.YtcfgcpcakdknkaaGreat
open Go Go.Gm
set_option linter.unusedVariables false
set_option linter.unusedSimpArgs false
set_option maxHeartbeats 4000000
set_option maxRecDepth 8000
def turnedH (g:HistD) (key:Int) (rule:List Int→List Int×Int):HistD×Int:=if ¬ RightH g then (zeroH,5) else if isK OrdD.key key g.orders=false then (zeroH,3) else if (rule (Go.Gm.nth g.orders (lowK OrdD.key key g.orders)).txs).2≠0 then (zeroH,(rule (Go.Gm.nth g.orders (lowK OrdD.key key g.orders)).txs).2) else (⟨g.txs,g.orders.set (lowK OrdD.key key g.orders) ⟨(Go.Gm.nth g.orders (lowK OrdD.key key g.orders)).key,(rule (Go.Gm.nth g.orders (lowK OrdD.key key g.orders)).txs).1⟩⟩,0)
def ruleR (o:OrdD) (l:List Int):List Int×Int:=if l.Perm o.txs then (o.txs,0) else ([],8)
def reorderH (g:HistD) (o:OrdD):HistD×Int:=turnedH g o.key (ruleR o)
def moveH (g:HistD) (key id place:Int):HistD×Int:=turnedH g key fun l=>moveO l id place
end Go.Proofs.YtcfgcpcakdknkaaGreat
namespace Go.Proofs.YtcfgcpcakdknkaaGreat
open Go Go.Gm
set_option linter.unusedVariables false
set_option linter.unusedSimpArgs false
set_option maxHeartbeats 4000000
set_option maxRecDepth 8000
section
set_option linter.unusedSectionVars false
variable {α:Type} {κ:α→Int} {t x:α} {l out r:List α} {d:Bool}
def putGR (κ:α→Int) (t:α):List α→Bool→List α
 | [],d=>if d=true then [] else [t]
 | x :: l,d=>(if d=false∧κ t≤κ x then [t] else [])++(if κ x=κ t then [] else [x])++putGR κ t l (d || decide (κ t≤κ x))
theorem putGR_TT (hA:d=false∧κ t≤κ x) (hB:¬ κ x=κ t) (h:out++putGR κ t (x :: l) d=r):out ++ [t] ++ [x] ++ putGR κ t l true=r:=by
 rw [← h,putGR,if_pos hA,if_neg hB];simp [hA.2]
theorem putGR_TF (hA:d=false∧κ t≤κ x) (hB:κ x=κ t) (h:out++putGR κ t (x :: l) d=r):out ++ [t] ++ putGR κ t l true=r:=by
 rw [← h,putGR,if_pos hA,if_pos hB];simp [hA.2]
theorem putGR_d (hA:¬ (d=false∧κ t≤κ x)):(d || decide (κ t≤κ x))=d:=by
 cases d
 · simp at hA ⊢;omega
 · rfl
theorem putGR_FT (hA:¬ (d=false∧κ t≤κ x)) (hB:¬ κ x=κ t) (h:out++putGR κ t (x :: l) d=r):out ++ [x] ++ putGR κ t l d=r:=by
 rw [← h,putGR,if_neg hA,if_neg hB,putGR_d hA];simp
theorem putGR_FF (hA:¬ (d=false∧κ t≤κ x)) (hB:κ x=κ t) (h:out++putGR κ t (x :: l) d=r):out++putGR κ t l d=r:=by
 rw [← h,putGR,if_neg hA,if_pos hB,putGR_d hA];simp
theorem putGR_true:∀ l:List α,putGR κ t l true=l.filter fun x=>!decide (κ x=κ t)
 | []=>rfl
 | x :: l=>by
   rw [putGR,if_neg (by simp),List.nil_append,Bool.true_or,putGR_true l]
   split
   · rename_i h;rw [List.filter_cons_of_neg (by simpa using h)];rfl
   · rename_i h;rw [List.filter_cons_of_pos (by simpa using h)];rfl
theorem putGR_len (l:List α) (d:Bool):(putGR κ t l d).length≤l.length+1:=by
 have h2:∀ l:List α,(putGR κ t l true).length≤l.length:=fun l=>by rw [putGR_true];exact List.length_filter_le _ _
 induction l generalizing d with
 | nil=>cases d <;> simp [putGR]
 | cons x l ih=>
   have h1:=ih (d || decide (κ t≤κ x))
   rw [putGR,List.length_append,List.length_append]
   have h3:=h2 l
   by_cases hA:d=false∧κ t≤κ x
   · rw [show (d || decide (κ t≤κ x))=true by simp [hA.2],if_pos hA]
     split <;> simp <;> omega
   · rw [if_neg hA]
     split <;> simp <;> omega
theorem filter_over {k:Int} (h:∀ x ∈ l,k<κ x):(l.filter fun x=>!decide (κ x=k))=l:=by
 rw [List.filter_eq_self]
 intro x hx
 have:=h x hx
 simp;omega
theorem lowK_cons {k:Int} : lowK κ k (x :: l)=if κ x<k then lowK κ k l+1 else 0:=by
 unfold lowK
 split
 · rename_i h1;rw [List.takeWhile_cons_of_pos (by simpa using h1),List.length_cons]
 · rename_i h1;rw [List.takeWhile_cons_of_neg (by simpa using h1)];rfl
theorem isK_cons {k:Int} : isK κ k (x :: l)=(decide (κ x=k) || isK κ k l):=by unfold isK;rw [List.any_cons]
theorem putGR_new (hs:l.Pairwise fun a b=>κ a<κ b) (hk:isK κ (κ t) l=false):putGR κ t l false=l.take (lowK κ (κ t) l) ++ [t] ++ l.drop (lowK κ (κ t) l):=by
 induction l with
 | nil=>rfl
 | cons x l ih=>
   rw [List.pairwise_cons] at hs
   rw [isK_cons,Bool.or_eq_false_iff,decide_eq_false_iff_not] at hk
   rw [putGR,if_neg hk.1,lowK_cons]
   by_cases h:κ x<κ t
   · rw [if_neg (by omega),if_pos h,show (false || decide (κ t≤κ x))=false by simp;omega,ih hs.2 hk.2];simp
   · rw [if_pos ⟨rfl,by omega⟩,if_neg h,show (false || decide (κ t≤κ x))=true by simp;omega,putGR_true,filter_over fun y hy=>by have:=hs.1 y hy;omega];simp
theorem putGR_mem {y:α} (h:y ∈ putGR κ t l d):(y=t∧d=false)∨(y ∈ l∧κ y≠κ t):=by
 induction l generalizing d with
 | nil=>cases d <;> simp [putGR] at h;exact .inl ⟨h,rfl⟩
 | cons x l ih=>
   rw [putGR,List.mem_append,List.mem_append] at h
   rcases h with (h | h) | h
   · split at h
     · rename_i h1;exact .inl ⟨by simpa using h,h1.1⟩
     · cases h
   · split at h
     · cases h
     · rename_i h1
       have e:y=x:=by simpa using h
       subst e
       exact .inr ⟨by simp,h1⟩
   · rcases ih h with ⟨h1,h2⟩ | ⟨h1,h2⟩
     · rw [Bool.or_eq_false_iff] at h2;exact .inl ⟨h1,h2.1⟩
     · exact .inr ⟨by simp [h1],h2⟩
theorem putGR_rise (hs:l.Pairwise fun a b=>κ a<κ b):(putGR κ t l d).Pairwise fun a b=>κ a<κ b:=by
 induction l generalizing d with
 | nil=>cases d <;> simp [putGR]
 | cons x l ih=>
   rw [List.pairwise_cons] at hs
   have hf:=hs.2.filter fun x=>!decide (κ x=κ t)
   rw [putGR]
   by_cases hA:d=false∧κ t≤κ x
   · rw [if_pos hA,show (d || decide (κ t≤κ x))=true by simp [hA.2],putGR_true]
     have h1:∀ y ∈ l.filter (fun x=>!decide (κ x=κ t)),κ x<κ y:=fun y hy=>hs.1 y (List.mem_filter.1 hy).1
     split
     · rw [List.append_nil,List.singleton_append,List.pairwise_cons]
       exact ⟨fun y hy=>by have:=h1 y hy;omega,hf⟩
     · rename_i h2
       rw [List.append_assoc,List.singleton_append,List.singleton_append,List.pairwise_cons,List.pairwise_cons]
       refine ⟨fun y hy=>?_,h1,hf⟩
       rcases List.mem_cons.1 hy with rfl | hy
       · omega
       · have:=h1 y hy;omega
   · rw [if_neg hA,List.nil_append]
     have ih2:=ih (d:=d || decide (κ t≤κ x)) hs.2
     split
     · simpa using ih2
     · rename_i h2
       rw [List.singleton_append,List.pairwise_cons]
       refine ⟨fun y hy=>?_,ih2⟩
       rcases putGR_mem hy with ⟨rfl,h3⟩ | ⟨h3,_⟩
       · rw [Bool.or_eq_false_iff] at h3
         have:=of_decide_eq_false h3.2
         omega
       · exact hs.1 y h3
end
end Go.Proofs.YtcfgcpcakdknkaaGreat
