/- Texts put together. No condition beyond those that each theorem says. -/
import Derived.Test.YtdpkkdigojkpaaaGreatJ0
import Derived.Deep.QuietTactic
import Derived.BigQuiet
import Derived.Shelf.SlSortCmp.WholeK
import Derived.Sort.LotA
import Derived.Test.YtdpkkdigojkpaaaGreatJ4
import Derived.Test.YtdpkkdigojkpaaaGreatJ1
import Derived.Test.YtdpkkdigojkpaaaGreatJ2
import Derived.Test.YtdpkkdigojkpaaaGreatLibW
import Derived.Laws.BitsLemmas
import Derived.Test.YtdpkkdigojkpaaaGreatLibL
namespace Go.Proofs.YtdpkkdigojkpaaaGreat
open Go Go.Gm
set_option linter.unusedVariables false
set_option linter.unusedSimpArgs false
set_option maxHeartbeats 4000000
set_option maxRecDepth 8000
theorem Zmn (l:List Zk) (hl:l.length≤1000000):FnG Tryz.prog 264 1 [.sl ZI l] [.star []] (PV.one) (fun v=>[Zu 192 4 ZI l v]):=by
 refine FnG.mk Tryz.func264 rfl Tryz.ntmps264 rfl (by kernel_rfl) ?_
 intro B F0 a w F hB hG hS
 obtain ⟨F,hS⟩:=hS.nm [0] [0] rfl rfl
 refine wp_seq ?_
 refine Zb hS (qC qZ) hB [2,0] [0] rfl rfl fun a w F hS=>Za (wp_seq (wp_seq ?_))
 refine Zb hS (qM rfl rfl (qf (ZbS Tryz.underlying127 .t) r1 qz qZ)) hB [4,2,0] [0] rfl rfl fun a w F hS=>?_
 obtain ⟨β4,hβ4,hS⟩:=hS.pickBool 4 rfl
 obtain ⟨F,hS⟩:=hS.nm [4,2,0] [0] rfl rfl
 refine Za ?_
 refine Zd hS rfl (fun hc0=>?_) (fun hc0=>?_)
 ·skip
  have hg:l = []:=hβ4 hc0
  refine wp_seq ?_
  refine Zb hS (qC qZ) hB [2,0] [0] rfl rfl fun a w F hS=>Za (wp_ret (Zi ?_))
  have hS:=hS.fresh 1 rfl
  have hS:=hS.turn 1 rfl (Zbj (T:=192) (sz:=4) (R:=ZI))
  have hS:=hS.turn 1 rfl (r':=RS.hp (Zu 192 4 ZI l (.slice none 0 0))) (fun _ _ _ _ h=>by rw [hg];exact h)
  refine Z2 (h':=fun v=>Zu 192 4 ZI l v) hG hS rfl (.tmp rfl .nil) (.one .one) rfl
 have hg:l = [] ++ l:=rfl
 refine wp_skip (Za (wp_seq ?_))
 refine Zc hS (qf (Za3 (R:=ZI) (sz:=4) 101 Tryz.underlying127 (by kernel_rfl)) trivial qz (qM rfl rfl (qf (ZV (sz:=4) (bs:=32) 101 (.mk' Tryz.underlying127 (by kernel_rfl) (by kernel_rfl)) (by intro x;rfl) .same (.sl .t) (by simp only [List.length_append,List.length_nil];omega) (by decide)) ⟨rfl,rfl,trivial⟩ ⟨rfl,trivial⟩ (qN rfl rfl qZ)))) hB [2] [101,0] (fun _=>rfl) (fun _=>rfl) fun τ a w F hS=>?_
 try dsimp only [RS.sub,SF.sub,CF.sub,csub,Anc.sub,List.map,Zf,xL,xM,Nat.reduceAdd,xD,xE,xT,xU,xC,xN,zCF,ZI] at hS
 generalize τ 7=v7 at hS
 refine Za (wp_ret ?_)
 obtain ⟨F,hS⟩:=hS.rename 101 1 rfl rfl
 have hS:=hS.turn 1 rfl (r':=RS.hp (Zu 192 4 ZI l v7)) (fun _ _ _ _ h=>by rw [hg];exact h)
 refine Z2 (h':=fun v=>Zu 192 4 ZI l v) hG hS rfl (.tmp rfl .nil) (.one .one) rfl
theorem ZiW (v:Value) (l:List Zk) (hll:l.length≤1000000):FnG Tryz.prog 286 1 [.is v] [Zu 192 4 ZI l v] (PV.one) (fun v=>[Zu 192 4 ZI (Zm l) v]):=by
 refine FnG.mk Tryz.func286 rfl Tryz.ntmps286 rfl (by kernel_rfl) ?_
 intro B F0 a w F hB hG hS
 replace hS:=hS.turn 1 rfl (r':=.ob (.val v) (Zu 192 4 ZI l)) (fun _ _ _ _ h=>h)
 refine wp_seq ?_
 refine Zb hS (qC qZ) hB [2,0] [1,0] rfl rfl fun a w F hS=>Za (wp_seq (wp_seq ?_))
 refine Zb hS (qM rfl rfl (qf (ZQ 1 Tryz.underlying127 .is) r1 r1 (qf (ZbC .t qi) r1 qz qZ))) hB [8,2,0] [1,0] rfl rfl fun a w F hS=>Za ?_
 refine Zd hS rfl (fun hc0=>?_) (fun hc0=>?_)
 ·skip
  have hg:(Zm l)=l:=Zbq (by simp at hc0;omega)
  refine wp_seq ?_
  refine Zb hS (qM rfl rfl (qN rfl rfl qZ)) hB [2,0] [1,0] rfl rfl fun a w F hS=>Za (wp_ret (Zi ?_))
  have hS:=hS.turn 1 rfl (r':=RS.hp (Zu 192 4 ZI (Zm l) v)) (fun _ _ _ _ h=>by rw [hg];exact h)
  refine Z2 (h':=fun v=>Zu 192 4 ZI (Zm l) v) hG hS rfl (.tmp rfl .nil) (.one .one) rfl
 have hl2:2≤l.length:=by simp at hc0;omega
 refine wp_skip (Za (wp_seq (wp_seq ?_)))
 refine Zb hS (qI qZ) hB [3,2,0] [1,0] rfl rfl fun a w F hS=>Za (wp_block ?_)
 refine Zl (σ:=Nat) [0,2] [0,1] (fun s=>[(3,.pv (.int .i64 (s:Int)))]) (fun s=>[]) (fun s=>1≤s∧s≤l.length∧Zm (l.take s)=l.take s) (fun s=>l.length - s) (1) hS ⟨rfl,rfl,rfl,trivial⟩ ⟨rfl,rfl,trivial⟩ ⟨by omega,by omega,Zbq (by rw [List.length_take];omega)⟩ ?_
 clear hS;intro k a w F hC hS
 try dsimp only at hC
 obtain ⟨F,hS⟩:=hS.nm [3,2,0] [1,0] rfl rfl
 try dsimp only at hS
 obtain ⟨hk1,hkl,hkc⟩:=hC
 have hkw:IntKind.wrap .i64 ((k:Int) - 1)=(k:Int) - 1:=ZJ (by omega)
 refine wp_seq (wp_seq ?_)
 refine Zb hS (qM rfl rfl (qM rfl rfl (qf (ZQ 1 Tryz.underlying127 .is) r1 r1 (qL r2)))) hB [13,3,2,0] [1,0] rfl rfl fun a w F hS=>Za ?_
 refine Zd hS rfl (fun hc1=>?_) (fun hc1=>?_)
 ·skip
  have hil:k<l.length:=by simp at hc1;omega
  have hst:=Za5 (l:=l) hk1 hil
  have hy0:(IntKind.wrap .i64 ((k:Int) - 1)).toNat=k - 1:=by rw [hkw];omega
  refine wp_skip (Za (wp_seq (wp_block (wp_seq ?_))))
  refine Zy hS (qM rfl rfl (qM rfl rfl (qf (o_indexAddr_row (sz:=4) 1 (.mk Tryz.underlying127 (by kernel_rfl)) .is .t (by omega) (by omega) (by rfl)) r2 r1 (qf (Zz (ag:=true) (sz':=4) (sz:=4) 1 .t (by intro x;rfl) (by omega) (by kernel_rfl) (by kernel_rfl) (by kernel_rfl)) r1 r1 (qM rfl rfl (qM rfl rfl (qf (o_sub .t qi) r1 qz (qf (o_indexAddr_row (sz:=4) 1 (.mk Tryz.underlying127 (by kernel_rfl)) .is .t (by rw [hkw];omega) (by rw [hkw];omega) (by rfl)) r2 r1 (qf (Zz (ag:=true) (sz':=4) (sz:=4) 1 .t (by intro x;rfl) (by rw [hkw];omega) (by kernel_rfl) (by kernel_rfl) (by kernel_rfl)) r1 r1 (qf (o_eqlS (ks:=[true,true,true,true]) (by kernel_rfl) .t .t (.int (.int (.int (.int .nil))))) r2 qz qZ)))))))))) hB [25,3,2,0] [1,0] rfl rfl fun a w F hS=>?_
  try dsimp only [List.map,xD,xE,xT,xU,ldSF,ZI] at hS
  try simp only [Int.toNat_natCast] at hS
  refine Za ?_
  refine Zd hS rfl (fun hc2=>?_) (fun hc2=>?_)
  ·skip
   have heq:Go.Gm.nth l (k - 1)=Go.Gm.nth l k:=by rw [hy0] at hc2;simp only [ZrX] at hc2;simp at hc2;exact hc2.symm
   rw [if_pos heq,hkc] at hst
   have hst0:=hst.symm
   refine wp_seq ?_
   refine Zb hS (qM rfl rfl (qM rfl rfl (qf (Zag (sz:=4) 1 (.mk Tryz.underlying127 (by kernel_rfl)) .is .t (by omega) (by omega)) r2 r1 (qN rfl rfl qZ)))) hB [4,3,2,0] [1,0] rfl rfl fun a w F hS=>Za (wp_seq (wp_seq ?_))
   refine Zb hS (qI qZ) hB [5,4,3,2,0] [1,0] rfl rfl fun a w F hS=>Za (wp_block ?_)
   have hC0:1≤1∧1≤l.length - k∧k≤k∧k≤k+1 - 1∧l.length=l.length∧l.take k=Zm (l.take (k+1)) ∧ ∀ q,k+1 - 1≤q→q<l.length→Go.Gm.nth l q=Go.Gm.nth l q:=⟨by omega,by omega,by omega,by omega,rfl,hst0,fun q _ _=>rfl⟩
   refine Zl (σ:=Nat×Nat×List Zk) [0,2,4] [0] (fun s=>[(3,.pv (.int .i64 (s.1:Int))),(5,.pv (.int .i64 (s.2.1:Int)))]) (fun s=>[(1,.ob (.val v) (Zu 192 4 ZI s.2.2))]) (fun s=>1≤s.2.1∧s.2.1≤l.length - k∧k≤s.1∧s.1≤k+s.2.1 - 1∧s.2.2.length=l.length∧s.2.2.take s.1=Zm (l.take (k+s.2.1)) ∧ ∀ q,k+s.2.1 - 1≤q→q<l.length→Go.Gm.nth s.2.2 q=Go.Gm.nth l q) (fun s=>l.length - s.2.1) ((k),(1),(l)) hS ⟨rfl,rfl,rfl,rfl,rfl,trivial⟩ ⟨rfl,rfl,trivial⟩ hC0 ?_
   clear hS;intro s a w F hC hS
   obtain ⟨k1,j,l1⟩:=s
   try dsimp only at hC
   obtain ⟨F,hS⟩:=hS.nm [5,4,3,2,0] [1,0] rfl rfl
   try dsimp only at hS
   obtain ⟨hj1,hjk,hkk,hkj,hl1,htk,hrest⟩:=hC
   have hjw:IntKind.wrap .i64 ((j:Int) - 1)=(j:Int) - 1:=ZJ (by omega)
   refine wp_seq (wp_seq ?_)
   refine Zb hS (qM rfl rfl (qM rfl rfl (qf (Zh9 1 Tryz.underlying127 .t (by omega)) r1 r1 (qL r2)))) hB [32,5,4,3,2,0] [1,0] rfl rfl fun a w F hS=>Za ?_
   refine Zd hS rfl (fun hc3=>?_) (fun hc3=>?_)
   ·skip
    have hjl:k+j<l.length:=by simp at hc3;omega
    have hx1:(Go.Gm.nth l1 (((k:Int)).toNat+((j:Int)).toNat))=Go.Gm.nth l (k+j):=by rw [Int.toNat_natCast,Int.toNat_natCast];exact hrest _ (by omega) hjl
    have hx0:Go.Gm.nth l1 (((k:Int)).toNat+(IntKind.wrap .i64 ((j:Int) - 1)).toNat)=Go.Gm.nth l (k+j - 1):=by rw [hjw,show ((k:Int)).toNat+((j:Int) - 1).toNat=k+j - 1 by omega];exact hrest _ (by omega) (by omega)
    have hstp:=Za5 (l:=l) (p:=k+j) (by omega) hjl
    refine wp_skip (Za (wp_seq (wp_block (wp_seq ?_))))
    refine Zy hS (qM rfl rfl (qM rfl rfl (qf (o_indexAddr_sub (sz:=4) 1 (.mk Tryz.underlying127 (by kernel_rfl)) .t .t (by omega) (by omega) (by rfl)) r2 r1 (qf (Zz (ag:=true) (sz':=4) (sz:=4) 1 .t (by intro x;rfl) (by omega) (by kernel_rfl) (by kernel_rfl) (by kernel_rfl)) r1 r1 (qM rfl rfl (qM rfl rfl (qf (o_sub .t qi) r1 qz (qf (o_indexAddr_sub (sz:=4) 1 (.mk Tryz.underlying127 (by kernel_rfl)) .t .t (by rw [hjw];omega) (by rw [hjw];omega) (by rfl)) r2 r1 (qf (Zz (ag:=true) (sz':=4) (sz:=4) 1 .t (by intro x;rfl) (by rw [hjw];omega) (by kernel_rfl) (by kernel_rfl) (by kernel_rfl)) r1 r1 (qf (o_neqS (ks:=[true,true,true,true]) (by kernel_rfl) .t .t (.int (.int (.int (.int .nil))))) r2 qz qZ)))))))))) hB [44,5,4,3,2,0] [1,0] rfl rfl fun a w F hS=>?_
    try dsimp only [List.map,xD,xE,xT,xU,ldSF,ZI] at hS
    try simp only [Int.toNat_natCast] at hS
    refine Za ?_
    refine Zd hS rfl (fun hc4=>?_) (fun hc4=>?_)
    ·skip
     have hne:¬ Go.Gm.nth l (k+j - 1)=Go.Gm.nth l (k+j):=by rw [← hx1,← hx0];simp only [ZrX] at hc4;simp at hc4 ⊢;exact fun e=>hc4 e.symm
     rw [if_neg hne] at hstp
     obtain ⟨i2,hi2e⟩:∃ i2,i2=k1+1:=⟨_,rfl⟩
     have hi2:IntKind.wrap .i64 ((k1:Int)+1)=(i2:Int):=by rw [hi2e];exact Ze (by omega)
     obtain ⟨l2,hl2e⟩:∃ l2,l2=l1.set k1 (Go.Gm.nth l1 (k+j)):=⟨_,rfl⟩
     have hx1b:Go.Gm.nth l1 (k+j)=Go.Gm.nth l (k+j):=hrest _ (by omega) hjl
     have hC2:1≤j+1∧j+1≤l.length - k∧k≤i2∧i2≤k+(j+1) - 1∧l2.length=l.length∧l2.take i2=Zm (l.take (k+(j+1))) ∧ ∀ q,k+(j+1) - 1≤q→q<l.length→Go.Gm.nth l2 q=Go.Gm.nth l q:=⟨by omega,by omega,by omega,by omega,by rw [hl2e,List.length_set];exact hl1,by rw [hl2e,hi2e,Zv (by rw [List.length_set];omega),List.take_set_of_le (Nat.le_refl _),htk,nth_eq (by rw [List.length_set];omega),List.getElem_set_self,hx1b];exact hstp.symm,fun q hq hq2=>by rw [hl2e,nth_eq (by rw [List.length_set];omega),List.getElem_set_ne (by omega),← nth_eq (by omega)];exact hrest q (by omega) hq2⟩
     refine wp_seq ?_
     refine Zb hS (qM rfl rfl (qM rfl rfl (qM rfl rfl (qM rfl rfl (qf (o_indexAddr_sub (sz:=4) 1 (.mk Tryz.underlying127 (by kernel_rfl)) .t .t (by omega) (by omega) (by rfl)) r2 r1 (qf (Zz (ag:=true) (sz':=4) (sz:=4) 1 .t (by intro x;rfl) (by omega) (by kernel_rfl) (by kernel_rfl) (by kernel_rfl)) r1 r1 (qf (o_indexAddr_row (sz:=4) 1 (.mk Tryz.underlying127 (by kernel_rfl)) .is .t (by omega) (by omega) (by rfl)) r2 r1 (qf (ZcX (sz:=4) 1 .t (by intro x;rfl) (by omega) (.conv .t (Ent.aggU (l:=ZI (Go.Gm.nth l1 (((k:Int)).toNat+((j:Int)).toNat))) rfl rfl)) (by kernel_rfl)) r2 r1 qZ)))))))) hB [5,4,3,2,0] [1,0] rfl rfl fun a w F hS=>?_
     try simp only [Int.toNat_natCast] at hS
     rw [← hl2e] at hS
     refine Za ?_
     refine Zb hS (qM rfl rfl (qp r1 (qN rfl rfl qZ))) hB [5,4,3,2,0] [1,0] rfl rfl fun a w F hS=>Zj (Za ?_)
     refine Zb hS (qM rfl rfl (qp r1 (qN rfl rfl qZ))) hB [5,4,3,2,0] [1,0] rfl rfl fun a w F hS=>Za ?_
     have hmu:l.length - (j+1)<l.length - j:=by omega
     replace hS:=hS.ent (i:=3) (s':=.pv (.int .i64 (i2:Int))) rfl (.int hi2)
     replace hS:=hS.ent (i:=5) (s':=.pv (.int .i64 ((j+1:Nat):Int))) rfl (.int (Ze (by omega)))
     obtain ⟨F,hS⟩:=hS.nm [4,2,0,5,3] [0,1] rfl rfl
     exact ⟨((i2),(j+1),(l2)),F,hC2,hS,hmu⟩
    have heq2:Go.Gm.nth l (k+j - 1)=Go.Gm.nth l (k+j):=by rw [← hx1,← hx0];simp only [ZrX] at hc4;simp at hc4 ⊢;exact hc4.symm
    rw [if_pos heq2] at hstp
    obtain ⟨i2,hi2e⟩:∃ i2,i2=k1:=⟨_,rfl⟩
    have hi2:(k1:Int)=(i2:Int):=by rw [hi2e]
    obtain ⟨l2,hl2e⟩:∃ l2,l2=l1:=⟨_,rfl⟩
    rw [← hl2e] at hS
    have hC2:1≤j+1∧j+1≤l.length - k∧k≤i2∧i2≤k+(j+1) - 1∧l2.length=l.length∧l2.take i2=Zm (l.take (k+(j+1))) ∧ ∀ q,k+(j+1) - 1≤q→q<l.length→Go.Gm.nth l2 q=Go.Gm.nth l q:=⟨by omega,by omega,by omega,by omega,by rw [hl2e];exact hl1,by rw [hl2e,hi2e,htk];exact hstp.symm,fun q hq hq2=>by rw [hl2e];exact hrest q (by omega) hq2⟩
    refine wp_skip (Zj (Za ?_))
    refine Zb hS (qM rfl rfl (qp r1 (qN rfl rfl qZ))) hB [5,4,3,2,0] [1,0] rfl rfl fun a w F hS=>Za ?_
    have hmu:l.length - (j+1)<l.length - j:=by omega
    replace hS:=hS.ent (i:=3) (s':=.pv (.int .i64 (i2:Int))) rfl (.int hi2)
    replace hS:=hS.ent (i:=5) (s':=.pv (.int .i64 ((j+1:Nat):Int))) rfl (.int (Ze (by omega)))
    obtain ⟨F,hS⟩:=hS.nm [4,2,0,5,3] [0,1] rfl rfl
    exact ⟨((i2),(j+1),(l2)),F,hC2,hS,hmu⟩
   have hjl:k+j=l.length:=by simp at hc3;omega
   have hg:(Zm l)=(l1.take k1++List.replicate (l1.length - k1) noE).take k1:=by rw [List.take_append_of_le_length (by rw [List.length_take];omega),List.take_take,Nat.min_self,htk,hjl,List.take_length]
   refine wp_exit (Zh (Zh (Zp (Za (wp_seq ?_)))))
   refine Zb hS (qM rfl rfl (qM rfl rfl (qf (Zag (sz:=4) 1 (.mk Tryz.underlying127 (by kernel_rfl)) .is .t (by omega) (by omega)) r2 r1 (qf (ZbN (R:=ZI) (z:=noE) (zs:=[.int .i64 0,.int .i64 0,.int .i64 0,.int .i64 0]) 1 Tryz.underlying127 (by kernel_rfl) rfl rfl ZnI (by intro x;rfl) .t (by simp;omega)) r1 r1 qZ)))) hB [3,2,0] [1,0] rfl rfl fun a w F hS=>Za (wp_seq ?_)
   refine Zc hS (qM rfl rfl (qM rfl rfl (qf (ZbK (sz:=4) 1 (.mk Tryz.underlying127 (by kernel_rfl)) (by intro x;rfl) .is .t (by omega) (by simp;omega)) r2 r1 (qN rfl rfl qZ)))) hB [3,2,0] [1,0] (fun _=>rfl) (fun _=>rfl) fun τ a w F hS=>?_
   try dsimp only [RS.sub,SF.sub,CF.sub,csub,Anc.sub,List.map,ZI] at hS
   generalize τ 59=v59 at hS
   refine Za (wp_ret (Zs (Zi (Zi (Zs (Zi ?_))))))
   have hS:=hS.turn 1 rfl (r':=RS.hp (Zu 192 4 ZI (Zm l) v59)) (fun _ _ _ _ h=>by rw [hg];exact h)
   refine Z2 (h':=fun v=>Zu 192 4 ZI (Zm l) v) hG hS rfl (.tmp rfl .nil) (.one .one) rfl
  have hne:¬ Go.Gm.nth l (k - 1)=Go.Gm.nth l k:=by rw [hy0] at hc2;simp only [ZrX] at hc2;simp at hc2;exact fun e=>hc2 e.symm
  rw [if_neg hne] at hst
  refine wp_skip (Zj (Za ?_))
  refine Zb hS (qM rfl rfl (qp r1 (qN rfl rfl qZ))) hB [3,2,0] [1,0] rfl rfl fun a w F hS=>Za ?_
  replace hS:=hS.ent (i:=3) (s':=.pv (.int .i64 ((k+1:Nat):Int))) rfl (.int (Ze (by omega)))
  obtain ⟨F,hS⟩:=hS.nm [2,0,3] [1,0] rfl rfl
  exact ⟨(k+1),F,⟨by omega,by omega,by rw [hst,hkc,← Zv hil]⟩,hS,by omega⟩
 have hg:(Zm l)=l:=by rw [show k=l.length by simp at hc1;omega,List.take_length] at hkc;exact hkc
 refine wp_exit (Zh (Zh (Zp (Za (wp_seq ?_)))))
 refine Zb hS (qM rfl rfl (qN rfl rfl qZ)) hB [2] [1,0] rfl rfl fun a w F hS=>Za (wp_ret ?_)
 have hS:=hS.turn 1 rfl (r':=RS.hp (Zu 192 4 ZI (Zm l) v)) (fun _ _ _ _ h=>by rw [hg];exact h)
 refine Z2 (h':=fun v=>Zu 192 4 ZI (Zm l) v) hG hS rfl (.tmp rfl .nil) (.one .one) rfl
def Zgr:Go.Shelf.Ren:=⟨fun | 6=>284 | 15=>125 | 14=>308 | 28=>199 | 29=>200 | 20=>321 | 21=>322 | 22=>323 | 23=>324 | 24=>325 | 25=>326 | 26=>327 | 27=>328 | 46=>336 | 47=>254 | 48=>255 | 49=>337 | 50=>338 | 57=>341 | n=>n,fun | 22=>127 | 24=>192 | 25=>338 | 3=>3 | 39=>174 | 0=>0 | 53=>247 | 55=>235 | 4=>4 | 46=>241 | 45=>240 | 50=>109 | 5=>5 | 9=>9 | 66=>296 | 70=>300 | 76=>342 | 77=>146 | n=>n,fun  | n=>n⟩
theorem Zmw:Go.Proofs.SlLaysF0.n6 Tryz.prog Zgr where
 mixed:=by kernel_rfl
 f6:=⟨Tryz.f284.name,by kernel_rfl,Tryz.func284.trans (congrArg some (by kernel_rfl))⟩
 f14:=⟨Tryz.f308.name,by kernel_rfl,Tryz.func308.trans (congrArg some (by kernel_rfl))⟩
 f15:=Tryz.func125.trans (congrArg some (by kernel_rfl))
 f20:=⟨Tryz.f321.name,by kernel_rfl,Tryz.func321.trans (congrArg some (by kernel_rfl))⟩
 f21:=⟨Tryz.f322.name,by kernel_rfl,Tryz.func322.trans (congrArg some (by kernel_rfl))⟩
 f22:=⟨Tryz.f323.name,by kernel_rfl,Tryz.func323.trans (congrArg some (by kernel_rfl))⟩
 f23:=⟨Tryz.f324.name,by kernel_rfl,Tryz.func324.trans (congrArg some (by kernel_rfl))⟩
 f24:=⟨Tryz.f325.name,by kernel_rfl,Tryz.func325.trans (congrArg some (by kernel_rfl))⟩
 f25:=⟨Tryz.f326.name,by kernel_rfl,Tryz.func326.trans (congrArg some (by kernel_rfl))⟩
 f26:=⟨Tryz.f327.name,by kernel_rfl,Tryz.func327.trans (congrArg some (by kernel_rfl))⟩
 f27:=⟨Tryz.f328.name,by kernel_rfl,Tryz.func328.trans (congrArg some (by kernel_rfl))⟩
 f28:=Tryz.func199.trans (congrArg some (by kernel_rfl))
 f29:=Tryz.func200.trans (congrArg some (by kernel_rfl))
 f46:=⟨Tryz.f336.name,by kernel_rfl,Tryz.func336.trans (congrArg some (by kernel_rfl))⟩
 f47:=Tryz.func254.trans (congrArg some (by kernel_rfl))
 f48:=Tryz.func255.trans (congrArg some (by kernel_rfl))
 f49:=⟨Tryz.f337.name,by kernel_rfl,Tryz.func337.trans (congrArg some (by kernel_rfl))⟩
 f50:=⟨Tryz.f338.name,by kernel_rfl,Tryz.func338.trans (congrArg some (by kernel_rfl))⟩
 f57:=⟨Tryz.f341.name,by kernel_rfl,Tryz.func341.trans (congrArg some (by kernel_rfl))⟩
 t0:=Tryz.underlying0
 a0:=Tryz.isAgg0
 z0:=Tryz.sizeOf0
 v0:=Tryz.zeroValue0
 t3:=Tryz.underlying3
 a3:=Tryz.isAgg3
 z3:=Tryz.sizeOf3
 v3:=Tryz.zeroValue3
 t4:=Tryz.underlying4
 a4:=Tryz.isAgg4
 z4:=Tryz.sizeOf4
 v4:=Tryz.zeroValue4
 t5:=Tryz.underlying5
 a5:=Tryz.isAgg5
 z5:=Tryz.sizeOf5
 v5:=Tryz.zeroValue5
 t9:=Tryz.underlying9
 a9:=Tryz.isAgg9
 z9:=Tryz.sizeOf9
 v9:=Tryz.zeroValue9
 t22:=Tryz.underlying127
 a22:=Tryz.isAgg127
 z22:=Tryz.sizeOf127
 v22:=Tryz.zeroValue127
 t25:=Tryz.underlying338
 a25:=Tryz.isAgg338
 z25:=Tryz.sizeOf338
 v25:=Tryz.zeroValue338
 t39:=Tryz.underlying174
 a39:=Tryz.isAgg174
 z39:=Tryz.sizeOf174
 v39:=Tryz.zeroValue174
 t45:=Tryz.underlying240
 a45:=Tryz.isAgg240
 z45:=Tryz.sizeOf240
 v45:=Tryz.zeroValue240
 t46:=Tryz.underlying241
 a46:=Tryz.isAgg241
 z46:=Tryz.sizeOf241
 v46:=Tryz.zeroValue241
 t50:=Tryz.underlying109
 a50:=Tryz.isAgg109
 z50:=Tryz.sizeOf109
 v50:=Tryz.zeroValue109
 t53:=Tryz.underlying247
 a53:=Tryz.isAgg247
 z53:=Tryz.sizeOf247
 v53:=Tryz.zeroValue247
 t55:=Tryz.underlying235
 a55:=Tryz.isAgg235
 z55:=Tryz.sizeOf235
 v55:=Tryz.zeroValue235
 t66:=Tryz.underlying296
 a66:=Tryz.isAgg296
 z66:=Tryz.sizeOf296
 v66:=Tryz.zeroValue296
 t70:=Tryz.underlying300
 a70:=Tryz.isAgg300
 z70:=Tryz.sizeOf300
 v70:=Tryz.zeroValue300
 t76:=Tryz.underlying342
 a76:=Tryz.isAgg342
 z76:=Tryz.sizeOf342
 v76:=Tryz.zeroValue342
 t77:=Tryz.underlying146
 a77:=Tryz.isAgg146
 z77:=Tryz.sizeOf146
 v77:=Tryz.zeroValue146
theorem Zsp (x:Int) (w:World):Calls Tryz.prog 201 #[.int .i64 x] w fun e w'=>e = .returned (.bool false)∧w' = w:=by
 go_enter Tryz.func201,Tryz.ntmps201
 go_wp2
 go_ret
 exact ⟨by simp,rfl⟩
theorem ZrT (x y:Int) (w:World):Calls Tryz.prog 127 #[.int .i64 x,.int .i64 y] w fun e w'=>e = .returned (.int .i64 (Zch x y))∧w' = w:=by
 go_enter Tryz.func127,Tryz.ntmps127
 go_wp2_with (go_at_call 201;refine (Zsp _ _).mono ?_;rintro e w' ⟨rfl,rfl⟩)
 all_goals (go_ret;refine ⟨?_,rfl⟩;unfold Zch; (repeat' split) <;> first | rfl | (exfalso;omega))
theorem Zr0 {a:Int} (h:(a != 0)=true):¬ a=0:=by simpa using h
theorem ZpV {a:Int} (h:(a != 0)=false):a=0:=by simpa using h
theorem ZqM {x y:Zk} (h:(Zch x.src y.src != 0)=true):cmpE x y=Zch x.src y.src:=by unfold cmpE Zen Zfz;rw [if_neg (fun e=>Zr0 h (Zb6.2 e))]
theorem ZpN {x y:Zk} (h0:(Zch x.src y.src != 0)=false) (h:(Zch x.kind y.kind != 0)=true):cmpE x y=Zch x.kind y.kind:=by unfold cmpE Zen Zfz;rw [if_pos (Zb6.1 (ZpV h0))];unfold Zfz;rw [if_neg (fun e=>Zr0 h (Zb6.2 e))]
theorem Zp2 {x y:Zk} (h0:(Zch x.src y.src != 0)=false) (h1:(Zch x.kind y.kind != 0)=false) (h:(Zch x.key y.key != 0)=true):cmpE x y=Zch x.key y.key:=by unfold cmpE Zen Zfz;rw [if_pos (Zb6.1 (ZpV h0))];unfold Zfz;rw [if_pos (Zb6.1 (ZpV h1))];unfold Zfz;rw [if_neg (fun e=>Zr0 h (Zb6.2 e))]
theorem ZlX {x y:Zk} (h0:(Zch x.src y.src != 0)=false) (h1:(Zch x.kind y.kind != 0)=false) (h2:(Zch x.key y.key != 0)=false):cmpE x y=Zch x.dst y.dst:=by
 unfold cmpE Zen Zfz;rw [if_pos (Zb6.1 (ZpV h0))];unfold Zfz;rw [if_pos (Zb6.1 (ZpV h1))];unfold Zfz;rw [if_pos (Zb6.1 (ZpV h2))];unfold Zfz
 by_cases h:x.dst=y.dst
 · rw [if_pos h,Zb6.2 h];rfl
 · rw [if_neg h]
theorem ZqF {x y:Zk} (h0:(Zch x.src y.src != 0)=false) (h1:(Zch x.kind y.kind != 0)=false) (h2:(Zch x.key y.key != 0)=false) (h3:(Zch x.dst y.dst != 0)=false):cmpE x y=0:=by rw [ZlX h0 h1 h2];exact ZpV h3
def objs4 (x y:Zk):Array Obj:=#[Obj.cells #[.int .i64 x.src,.int .i64 x.dst,.int .i64 x.kind,.int .i64 x.key] 192,Obj.cells #[.int .i64 y.src,.int .i64 y.dst,.int .i64 y.kind,.int .i64 y.key] 192,Obj.cells #[.int .i64 x.src,.int .i64 x.kind,.int .i64 x.key,.int .i64 x.dst] 358,Obj.cells #[.int .i64 y.src,.int .i64 y.kind,.int .i64 y.key,.int .i64 y.dst] 358]
theorem ZoH (x y:Zk) (w:World):Calls Tryz.prog 285 #[.agg #[.int .i64 x.src,.int .i64 x.dst,.int .i64 x.kind,.int .i64 x.key],.agg #[.int .i64 y.src,.int .i64 y.dst,.int .i64 y.kind,.int .i64 y.key]] w fun e w'=>e = .returned (.int .i64 (cmpE x y)) ∧ ∃ q,w' = { w.drewN q with heap:=w.heap++objs4 x y } := by
 go_enter Tryz.func285,Tryz.ntmps285
 go_wp2
 have hw1:((((w.alloc (Obj.cells #[.int .i64 x.src,.int .i64 x.dst,.int .i64 x.kind,.int .i64 x.key] 192)).alloc (Obj.cells #[.int .i64 y.src,.int .i64 y.dst,.int .i64 y.kind,.int .i64 y.key] 192)).alloc (Obj.cells #[.int .i64 x.src,.int .i64 x.kind,.int .i64 x.key,.int .i64 x.dst] 358)).alloc (Obj.cells #[.int .i64 y.src,.int .i64 y.kind,.int .i64 y.key,.int .i64 y.dst] 358)) = { w with heap:=w.heap++objs4 x y } := by
   have e:∀ (w:World) (o:Obj),w.alloc o = { w with heap:=w.heap.push o } := fun _ _=>rfl
   simp only [e,objs4]
   congr 1
 rw [hw1]
 clear hw1
 have ka:∀ j v,(#[Value.int .i64 x.src,.int .i64 x.kind,.int .i64 x.key,.int .i64 x.dst])[j]? = some v→({ w with heap:=w.heap++objs4 x y } : World).cell? ⟨w.heap.size+1+1,j,none⟩ = some v:=by
   intro j v hj
   rw [ZM (vs:=#[Value.int .i64 x.src,.int .i64 x.kind,.int .i64 x.key,.int .i64 x.dst]) (T:=358) (fr:=(0,0)) (by show (w.heap++objs4 x y)[w.heap.size+1+1]? = _;rw [Array.getElem?_append_right (by omega),show w.heap.size+1+1 - w.heap.size=2 by omega];rfl)]
   exact hj
 have kb:∀ j v,(#[Value.int .i64 y.src,.int .i64 y.kind,.int .i64 y.key,.int .i64 y.dst])[j]? = some v→({ w with heap:=w.heap++objs4 x y } : World).cell? ⟨w.heap.size+1+1+1,j,none⟩ = some v:=by
   intro j v hj
   rw [ZM (vs:=#[Value.int .i64 y.src,.int .i64 y.kind,.int .i64 y.key,.int .i64 y.dst]) (T:=358) (fr:=(0,0)) (by show (w.heap++objs4 x y)[w.heap.size+1+1+1]? = _;rw [Array.getElem?_append_right (by omega),show w.heap.size+1+1+1 - w.heap.size=3 by omega];rfl)]
   exact hj
 have a0:({ w with heap:=w.heap++objs4 x y } : World).cell? ⟨w.heap.size+1+1,0,none⟩ = some (.int .i64 x.src):=ka 0 _ rfl
 have a1:({ w with heap:=w.heap++objs4 x y } : World).cell? ⟨w.heap.size+1+1,1,none⟩ = some (.int .i64 x.kind):=ka 1 _ rfl
 have a2:({ w with heap:=w.heap++objs4 x y } : World).cell? ⟨w.heap.size+1+1,2,none⟩ = some (.int .i64 x.key):=ka 2 _ rfl
 have a3:({ w with heap:=w.heap++objs4 x y } : World).cell? ⟨w.heap.size+1+1,3,none⟩ = some (.int .i64 x.dst):=ka 3 _ rfl
 have b0:({ w with heap:=w.heap++objs4 x y } : World).cell? ⟨w.heap.size+1+1+1,0,none⟩ = some (.int .i64 y.src):=kb 0 _ rfl
 have b1:({ w with heap:=w.heap++objs4 x y } : World).cell? ⟨w.heap.size+1+1+1,1,none⟩ = some (.int .i64 y.kind):=kb 1 _ rfl
 have b2:({ w with heap:=w.heap++objs4 x y } : World).cell? ⟨w.heap.size+1+1+1,2,none⟩ = some (.int .i64 y.key):=kb 2 _ rfl
 have b3:({ w with heap:=w.heap++objs4 x y } : World).cell? ⟨w.heap.size+1+1+1,3,none⟩ = some (.int .i64 y.dst):=kb 3 _ rfl
 clear ka kb
 have hfin:∀ q (w':World),w' = ({ w with heap:=w.heap++objs4 x y } : World).drewN q → ∃ q,w' = { w.drewN q with heap:=w.heap++objs4 x y } := fun q w' e=>⟨q,e⟩
 generalize ({ w with heap:=w.heap++objs4 x y } : World)=w1 at *
 generalize w.heap.size=n0 at *
 refine wp_loop_rounds 5 ?_
 rw [rounds_succ]
 go_wp2
 go_quiet ((go_at_call 127;refine Calls.quiet_of_same (ZrT _ _ _)))
 go_wp2
 · go_ret
   exact ⟨congrArg (fun z=>Ending.returned (.int .i64 z)) (ZqM (by assumption)).symm,hfin _ _ rfl⟩
 have hfin1:∀ q (w':World),w' = (w1.drewN nq).drewN q → ∃ q,w' = { w.drewN q with heap:=w.heap++objs4 x y } := fun q w' e=>hfin (nq+q) w' (by rw [e,World.drewN_drewN])
 have a1':(w1.drewN nq).cell? ⟨n0+1+1,1,none⟩ = some (.int .i64 x.kind):=a1
 have b1':(w1.drewN nq).cell? ⟨n0+1+1+1,1,none⟩ = some (.int .i64 y.kind):=b1
 have a2':(w1.drewN nq).cell? ⟨n0+1+1,2,none⟩ = some (.int .i64 x.key):=a2
 have b2':(w1.drewN nq).cell? ⟨n0+1+1+1,2,none⟩ = some (.int .i64 y.key):=b2
 have a3':(w1.drewN nq).cell? ⟨n0+1+1,3,none⟩ = some (.int .i64 x.dst):=a3
 have b3':(w1.drewN nq).cell? ⟨n0+1+1+1,3,none⟩ = some (.int .i64 y.dst):=b3
 clear hfin a0 b0 a1 b1 a2 b2 a3 b3
 generalize w1.drewN nq=w2 at *
 rw [rounds_succ]
 go_wp2
 go_quiet ((go_at_call 127;refine Calls.quiet_of_same (ZrT _ _ _)))
 go_wp2
 · go_ret
   exact ⟨congrArg (fun z=>Ending.returned (.int .i64 z)) (ZpN (by assumption) (by assumption)).symm,hfin1 _ _ rfl⟩
 have hfin2:∀ q (w':World),w' = (w2.drewN nq).drewN q → ∃ q,w' = { w.drewN q with heap:=w.heap++objs4 x y } := fun q w' e=>hfin1 (nq+q) w' (by rw [e,World.drewN_drewN])
 have a2'':(w2.drewN nq).cell? ⟨n0+1+1,2,none⟩ = some (.int .i64 x.key):=a2'
 have b2'':(w2.drewN nq).cell? ⟨n0+1+1+1,2,none⟩ = some (.int .i64 y.key):=b2'
 have a3'':(w2.drewN nq).cell? ⟨n0+1+1,3,none⟩ = some (.int .i64 x.dst):=a3'
 have b3'':(w2.drewN nq).cell? ⟨n0+1+1+1,3,none⟩ = some (.int .i64 y.dst):=b3'
 clear hfin1 a1' b1' a2' b2' a3' b3'
 generalize w2.drewN nq=w3 at *
 rw [rounds_succ]
 go_wp2
 go_quiet ((go_at_call 127;refine Calls.quiet_of_same (ZrT _ _ _)))
 go_wp2
 · go_ret
   exact ⟨congrArg (fun z=>Ending.returned (.int .i64 z)) (Zp2 (by assumption) (by assumption) (by assumption)).symm,hfin2 _ _ rfl⟩
 have hfin3:∀ q (w':World),w' = (w3.drewN nq).drewN q → ∃ q,w' = { w.drewN q with heap:=w.heap++objs4 x y } := fun q w' e=>hfin2 (nq+q) w' (by rw [e,World.drewN_drewN])
 have a3''':(w3.drewN nq).cell? ⟨n0+1+1,3,none⟩ = some (.int .i64 x.dst):=a3''
 have b3''':(w3.drewN nq).cell? ⟨n0+1+1+1,3,none⟩ = some (.int .i64 y.dst):=b3''
 clear hfin2 a2'' b2'' a3'' b3''
 generalize w3.drewN nq=w4 at *
 rw [rounds_succ]
 go_wp2
 go_quiet ((go_at_call 127;refine Calls.quiet_of_same (ZrT _ _ _)))
 go_wp2
 · go_ret
   exact ⟨congrArg (fun z=>Ending.returned (.int .i64 z)) (ZlX (by assumption) (by assumption) (by assumption)).symm,hfin3 _ _ rfl⟩
 have hfin4:∀ q (w':World),w' = (w4.drewN nq).drewN q → ∃ q,w' = { w.drewN q with heap:=w.heap++objs4 x y } := fun q w' e=>hfin3 (nq+q) w' (by rw [e,World.drewN_drewN])
 clear hfin3 a3''' b3'''
 generalize w4.drewN nq=w5 at *
 rw [rounds_succ]
 go_wp2
 go_ret
 exact ⟨congrArg (fun z=>Ending.returned (.int .i64 z)) (ZqF (by assumption) (by assumption) (by assumption) (by assumption)).symm,hfin4 0 _ rfl⟩
def Zd7 (e:Zk):List Value:=[.int .i64 e.src,.int .i64 e.dst,.int .i64 e.kind,.int .i64 e.key]
theorem Zgx:∀ (l:List Zk) (j:Nat),(l.flatMap Zd7)[j]? = if j<l.length*4 then some ((Zd7 l[j / 4]!)[j % 4]!) else none
 | [],j=>by simp
 | e :: l,j=>by
   rw [List.flatMap_cons]
   by_cases hj:j<4
   · rw [List.getElem?_append_left (by simpa [Zd7] using hj),if_pos (by simp;omega),show j / 4=0 by omega,show j % 4=j by omega]
     match j,hj with
     | 0,_=>rfl
     | 1,_=>rfl
     | 2,_=>rfl
     | 3,_=>rfl
   · obtain ⟨k,rfl⟩:∃ k,j=k+4:=⟨j - 4,by omega⟩
     rw [List.getElem?_append_right (by simp [Zd7]),show k+4 - (Zd7 e).length=k by simp [Zd7],Zgx l k,show (k+4) / 4=k / 4+1 by omega,show (k+4) % 4=k % 4 by omega]
     by_cases h:k<l.length*4
     · rw [if_pos h,if_pos (by simp;omega)];simp
     · rw [if_neg h,if_neg (by simp;omega)]
theorem Zgd (l:List Zk):(Go.Sort.flatK Zd7 4 l.toArray).toList=l.flatMap Zd7:=by
 apply List.ext_getElem?
 intro j
 rw [Zgx]
 by_cases h:j<l.length*4
 · rw [if_pos h];simp [Go.Sort.flatK,h]
 · rw [if_neg h];simp [Go.Sort.flatK];omega
def inE (e:Zk):Prop:=inR .i64 e.src∧inR .i64 e.dst∧inR .i64 e.kind∧inR .i64 e.key
theorem Zhm {w:World} {y:Ys} : ∀ {l:List Zk} {xs:List Value},PVs (l.flatMap ZI) xs w y→xs=l.flatMap Zd7 ∧ ∀ e ∈ l,inE e
 | [],[],_=>⟨rfl,fun x hx=>by cases hx⟩
 | [],_ :: _,h=>h.elim
 | e :: l,[],h=>h.elim
 | e :: l,[_],h=>h.2.elim
 | e :: l,[_,_],h=>h.2.2.elim
 | e :: l,[_,_,_],h=>h.2.2.2.elim
 | e :: l,a :: b :: c :: d :: xs,h=>by
   have h1:a = .int .i64 e.src∧inR .i64 e.src:=h.1.2
   have h2:b = .int .i64 e.dst∧inR .i64 e.dst:=h.2.1.2
   have h3:c = .int .i64 e.kind∧inR .i64 e.kind:=h.2.2.1.2
   have h4:d = .int .i64 e.key∧inR .i64 e.key:=h.2.2.2.1.2
   obtain ⟨h5,h6⟩:=Zhm (l:=l) (xs:=xs) h.2.2.2.2
   exact ⟨by rw [h1.1,h2.1,h3.1,h4.1,h5];rfl,fun z hz=>by rcases List.mem_cons.1 hz with rfl | hz;exact ⟨h1.2,h2.2,h3.2,h4.2⟩;exact h6 z hz⟩
theorem Zd2 {w:World} {y:Ys} : ∀ {l:List Zk},(∀ e ∈ l,inE e)→PVs (l.flatMap ZI) (l.flatMap Zd7) w y
 | [],_=>trivial
 | e :: l,h=>by
   have h1:=h e (by simp)
   exact ⟨⟨rfl,rfl,h1.1⟩,⟨rfl,rfl,h1.2.1⟩,⟨rfl,rfl,h1.2.2.1⟩,⟨rfl,rfl,h1.2.2.2⟩,Zd2 fun z hz=>h z (by simp [hz])⟩
theorem swoE:Go.Sort.SWO (Go.Proofs.ltOf cmpE) where
 irrefl x:=ZbA.irr x
 trans x y z h1 h2:=ZbA.tr x y z h1 h2
 ntrans x y z h1 h2:=by
   have h1:ltE x y=false:=h1
   have h2:ltE y z=false:=h2
   show ltE x z=false
   rw [ZiV] at *
   omega
theorem Zh3 {w:World} {g n:Nat} {d:List Value} {os:Array Obj} {cur:Array Value} {e:TypeId} (hg:w.heap[g]? = some (.cells cur e (0,0))) (b:Nat) (hb:b<w.heap.size) :
   (Go.Sort.grow (Go.Sort.putRow id (Go.Sort.ahead w n) g 0 d.toArray) os).heap[b]? = if b=g then some (.cells (Go.Sort.putCells id 0 d.toArray cur) e (0,0)) else w.heap[b]?:=by
 unfold Go.Sort.grow Go.Sort.putRow Go.Sort.mapBlock Go.Sort.ahead
 simp only
 rw [Array.getElem?_append_left (by simpa using hb),Array.getElem?_modify]
 by_cases h:g=b
 · subst h
   rw [if_pos rfl,if_pos rfl,hg];rfl
 · rw [if_neg h,if_neg (fun e=>h e.symm)]
theorem Zma {cur:Array Value} {d:List Value} (h:d.length≤cur.size):(Go.Sort.putCells id 0 d.toArray cur).toList.take d.length=d:=by
 apply List.ext_getElem
 · simp [Go.Sort.putCells];omega
 · intro i h1 h2
   have hi:i<d.length:=h2
   simp [Go.Sort.putCells,hi]
theorem sortE_cmp (g n:Nat) (w:World):Go.Proofs.CmpLays Tryz.prog 285 #[] Zd7 4 cmpE g 0 n w:=fun _ _ _ _ x y=>
 (ZoH x y _).mono fun _ _ ⟨he,q,hq⟩=>⟨he,q,objs4 x y,hq⟩
theorem ZqO (v:Value) (l:List Zk) (hlm:l.length≤1000000):FnG Tryz.prog 284 1 [.is v,.is (.func (.func 285) #[] #[])] [Zu 192 4 ZI l v] (.tup []) (fun _=>[Zu 192 4 ZI (Zb7 l) v]):=by
 by_cases hl0:l = []
 · subst hl0
   have h:=ZkS v [] (by simp) (fun j _ h1=>absurd h1 (by simp))
   have e:Zb7 [] = []:=by simp [Zb7]
   rw [e];exact h
 · exact fun w F vs hw hle hvs hpr=>by
     match vs,hvs with
     | [u,fv],hvs=>
       have hu:u=v:=hvs.1.1
       have hfv:fv = .func (.func 285) #[] #[]:=hvs.2.1.1
       subst hu
       subst hfv
       obtain ⟨xs,⟨hxl,hx⟩,hp,hf⟩:=hpr 0 _ rfl
       rcases hx with ⟨rfl,h0⟩ | ⟨g,cap,cur,rfl,_,hg,hn,hcap,hcs,hct⟩
       · exact absurd (List.eq_nil_of_length_eq_zero h0) hl0
       · have hgs:g<w.heap.size:=(Array.getElem?_eq_some_iff.1 hg).1
         obtain ⟨hxe,hin⟩:=Zhm hp
         have hcl:l.length*4≤cur.size:=by rw [hcs];exact Nat.mul_le_mul_right _ hn
         have hbig:l.toArray.size<4611686018427387904:=by simp;omega
         have hcur:∀ j,j<l.length*4→cur[j]? = (l.flatMap Zd7)[j]?:=fun j hj=>by
           have h1:(cur.toList.take (l.length*4))[j]? = (l.flatMap Zd7)[j]?:=by rw [hct,hxe]
           rw [List.getElem?_take_of_lt hj] at h1
           simpa using h1
         have hH:Go.Sort.HoldsK Zd7 4 w g 0 l.toArray:=fun j hj=>by
           have hj':j<l.length*4:=by simpa using hj
           refine ⟨?_,?_⟩
           · rw [Nat.zero_add,ZM hg,hcur j hj',Zgx,if_pos hj',Go.Sort.get_flatK _ _ _ _ (by simpa using hj')]
             simp
           · simp [World.frozen?,hg]
         have eg:∀ args w,(callFunc 285 args).run Tryz.prog w = .ok (.enter 285 args) w:=enters_of Tryz.func285 (by kernel_rfl) rfl
         have hcalls:Calls Tryz.prog 284 #[.slice (some ⟨g,0,none⟩) l.toArray.size cap,.func (.func 285) #[] #[]] w fun e w'=>e = .returned (.tuple #[]) ∧ ∃ d' n os,Go.Sort.PermIn 0 l.toArray.size l.toArray d' ∧ Go.Sort.SortedIn (Go.Proofs.ltOf cmpE) 0 l.toArray.size d' ∧ w' = Go.Proofs.sortWorldK Zd7 4 w g 0 n d' os:=
           Go.Proofs.AnyQ.slices_SortFunc Zmw 4 Tryz.isAgg192 Tryz.sizeOf192 Zd7 (fun _=>rfl) (fun x v hv=>by simp [Zd7] at hv;rcases hv with rfl | rfl | rfl | rfl <;> rfl) cmpE swoE 285 #[] g 0 cap l.toArray w eg (sortE_cmp g _ w) hH hgs hbig
         refine hcalls.mono ?_
         rintro e w' ⟨rfl,d',n,os,hperm,hsrt,rfl⟩
         have hd:d'.toList=Zb7 l:=Go.Sort.sorted_unique_holds swoE (fun x y h1 h2=>ZbA.tot x y h1 h2) l.toArray d' hperm hsrt
         have hd2:d' = (Zb7 l).toArray:=by rw [← hd]
         subst hd2
         have hsl:(Zb7 l).length=l.length:=Zij l
         have hfl:(Go.Sort.flatK Zd7 4 (Zb7 l).toArray)=((Zb7 l).flatMap Zd7).toArray:=by rw [← Zgd]
         have hfn:((Zb7 l).flatMap Zd7).length=l.length*4:=by
           have h2:=congrArg List.length (Zgd (Zb7 l))
           rw [← h2,Array.length_toList,Go.Sort.size_flatK,List.size_toArray,hsl]
         have hW:Go.Proofs.sortWorldK Zd7 4 w g 0 n (Zb7 l).toArray os=Go.Sort.grow (Go.Sort.putRow id (Go.Sort.ahead w n) g 0 ((Zb7 l).flatMap Zd7).toArray) os:=by
           unfold Go.Proofs.sortWorldK Go.Sort.putRowK
           rw [hfl]
         rw [hW]
         have hheap:=fun b hb=>Zh3 (n:=n) (d:=(Zb7 l).flatMap Zd7) (os:=os) hg b hb
         have hsz:(Go.Sort.grow (Go.Sort.putRow id (Go.Sort.ahead w n) g 0 ((Zb7 l).flatMap Zd7).toArray) os).heap.size=w.heap.size+os.size:=by simp [Go.Sort.ahead]
         have hfg:F 1 g:=(hf g).2 rfl
         have hst:Stp (List.range' 1 1) w F (Go.Sort.grow (Go.Sort.putRow id (Go.Sort.ahead w n) g 0 ((Zb7 l).flatMap Zd7).toArray) os) F:=
           ⟨rfl,rfl,rfl,by rw [hsz];omega,fun b hb hn=>by
             rw [hheap b hb,if_neg (fun e=>by subst e;exact hn 1 (by simp) hfg)],fun _ _=>rfl,fun n hn b hb=>.inl ⟨n,hn,hb⟩⟩
         refine ⟨.tuple #[],F,rfl,⟨hw.dis,fun n b hb=>by rw [hsz];have:=hw.bd n b hb;omega⟩,hst,hle,⟨[],rfl,trivial⟩,fun i h hi=>?_⟩
         match i,hi with
         | 0,hi=>
           simp only [List.getElem?_cons_zero,Option.some.injEq] at hi
           subst hi
           refine ⟨(Zb7 l).flatMap Zd7,⟨by rw [hfn,hsl],.inr ⟨g,cap,_,by rw [hsl],Nat.zero_le _,(hheap g hgs).trans (if_pos rfl),by rw [hsl];exact hn,hcap,by simp [Go.Sort.putCells,hcs],?_⟩⟩,Zd2 fun x hx=>hin x ((List.mergeSort_perm l _).mem_iff.1 hx),hf⟩
           rw [hsl,← hfn];exact Zma (by rw [hfn];exact hcl)
theorem Znx (l:List Zk) (hl:l.length≤1000000):FnP Tryz.prog 240 [.sl ZI l] (.sl ZI (Zbf ltE l)):=by
 refine FnP.mk Tryz.func240 rfl Tryz.ntmps240 rfl ?_
 intro B a w F hB hfr hS
 have hll:=Sat.lenSl hS (i:=0) rfl
 refine wp_seq ?_
 refine Zb hS (qC qZ) hB [2,0] [0] rfl rfl fun a w F hS=>Za (wp_seq ?_)
 replace hS:=hS.fresh 101 rfl
 refine Zc hS (qM rfl rfl (qf (Za1 101 (Zmn l (by omega)) Tryz.func264 rfl (by kernel_rfl) (Args.one .t) pvOne1) r1 r1 (qN rfl rfl qZ))) hB [3,2] [101,0] (fun _=>rfl) (fun _=>rfl) fun τ a w F hS=>?_
 try dsimp only [RS.sub,SF.sub,CF.sub,csub,Anc.sub,List.map,ZI] at hS
 generalize τ 5=v5 at hS
 refine Za (wp_seq ?_)
 refine Zb hS (qM rfl rfl (qf (Zbe 101 (ZqO _ l (by omega)) Tryz.func284 rfl (by kernel_rfl) (Args.two .t .f)) r1 r1 qZ)) hB [3,2] [101,0] rfl rfl fun a w F hS=>Za (wp_seq ?_)
 refine Zc hS (qM rfl rfl (qf (o_callRowN 101 (ZiW _ _ (by rw [Zij];omega)) Tryz.func286 rfl (by kernel_rfl) (Args.one .t) pvOne1) r1 r1 (qN rfl rfl qZ))) hB [2] [101,0] (fun _=>rfl) (fun _=>rfl) fun τ a w F hS=>?_
 try dsimp only [RS.sub,SF.sub,CF.sub,csub,Anc.sub,List.map,ZI] at hS
 generalize τ 9=v9 at hS
 refine Za (wp_ret ?_)
 obtain ⟨F,hS⟩:=hS.give 101 2 rfl rfl
 refine Zw hfr hS rfl rfl rfl (.sl (Zko l))
theorem Zf4 {α:Type} {lt:α→α→Bool} (h:STO lt):∀ {l m:List α},ZmO lt l→ZmO lt m→(∀ x,x ∈ l ↔ x ∈ m)→l=m
 | [],[],_,_,_=>rfl
 | [],y :: m,_,_,he=>by have:=(he y).2 (by simp);cases this
 | x :: l,[],_,_,he=>by have:=(he x).1 (by simp);cases this
 | x :: l,y :: m,hl,hm,he=>by
   obtain ⟨h1,h2⟩:=List.pairwise_cons.1 hl
   obtain ⟨h3,h4⟩:=List.pairwise_cons.1 hm
   have hxy:x=y:=by
     rcases List.mem_cons.1 ((he x).1 (by simp)) with e | hx
     · exact e
     · rcases List.mem_cons.1 ((he y).2 (by simp)) with e | hy
       · exact e.symm
       · have a1:=h1 y hy
         have a2:=h3 x hx
         have a3:=h.tr x y x a1 a2
         rw [h.irr x] at a3;cases a3
   subst hxy
   congr 1
   refine Zf4 h h2 h4 fun z=>⟨fun hz=>?_,fun hz=>?_⟩
   · rcases List.mem_cons.1 ((he z).1 (List.mem_cons_of_mem _ hz)) with e | h9
     · subst e
       have:=h1 z hz
       rw [h.irr z] at this;cases this
     · exact h9
   · rcases List.mem_cons.1 ((he z).2 (List.mem_cons_of_mem _ hz)) with e | h9
     · subst e
       have:=h3 z hz
       rw [h.irr z] at this;cases this
     · exact h9
theorem ZiI {l m:List Zk} (he:∀ x,x ∈ l ↔ x ∈ m):Zbf ltE l=Zbf ltE m:=
 Zf4 ZbA (Zbh ZbA l).1 (Zbh ZbA m).1 fun x=>by rw [(Zbh ZbA l).2,(Zbh ZbA m).2,he x]
structure HvD where
 edge:Zk
 cnt:Int
 deriving DecidableEq,Inhabited
def rHv (x:HvD):List PV:=[.int .i64 x.edge.src,.int .i64 x.edge.dst,.int .i64 x.edge.kind,.int .i64 x.edge.key,.int .i64 x.cnt]
def cntA (A:List (Zk×Int)) (R:List Zk) (e:Zk):Int:=Zlb A e+(R.count e:Int)
def Zgz (A:List (Zk×Int)) (R:List Zk):List Zk:=A.map Prod.fst++R
def Zf7 (A:List (Zk×Int)) (R:List Zk):List HvD:=(Zbf ltE (Zgz A R)).map fun e=>⟨e,cntA A R e⟩
theorem ZeR {es:List (GE Zk Int)} {A:List (Zk×Int)} {R ks:List Zk} (hE:ZfW es A R) (hk:ks.Perm (es.map (·.key))):Zbf ltE ks=Zbf ltE (Zgz A R):=ZiI fun x=>by
 unfold Zgz
 rw [hk.mem_iff,List.mem_append,← hE.key x,Zeq]
theorem Zkw {A:List (Zk×Int)} {R:List Zk} : (Zf7 A R).length=(Zbf ltE (Zgz A R)).length:=List.length_map _
theorem Zlh {l:List TxD} {id:Int} : (Z7 l id).isSome=isK TxD.id id l:=by
 unfold Z7 isK
 rw [Bool.eq_iff_iff,List.find?_isSome,List.any_eq_true]
theorem Zoo {g:Zn} (h:ZG g):NE g.orders:=fun o ho=>by
 have h2:=(Zcz g).2 h.2.2
 obtain ⟨j,hj,e⟩:=List.getElem_of_mem ho
 have:=(h2.2 j hj).2.1
 rwa [nth_eq hj,e] at this
theorem Zsc {g:Zn} {id:Int} (h:¬ ZG g):ZO g id=(Zbn,5):=if_pos h
theorem Zsi {g:Zn} {id:Int} (h:ZG g) (h2:isK TxD.id id g.txs=false):ZO g id=(Zbn,3):=by unfold ZO;rw [if_neg (Decidable.not_not.2 h),if_pos h2]
theorem Zsb {g:Zn} {id:Int} (h:ZG g) (h2:isK TxD.id id g.txs=true) (h3:Zeh g (Zbx id)=true):ZO g id=(Zbn,7):=by unfold ZO;rw [if_neg (Decidable.not_not.2 h),if_neg (by simp [h2]),if_pos h3]
structure EdD where
 kind:Int
 t:TxD
 o:OrdD
 place:Int
 deriving DecidableEq,Inhabited
def doH (g:Zn) (e:EdD):Zn×Int:=if e.kind=0 then Zm8 g e.t else if e.kind=1 then ZO g e.t.id else if e.kind=2 then Zan g e.t else if e.kind=3 then ZoI g e.o else if e.kind=4 then Zsh g e.o.key e.t.id e.place else (Zbn,5)
def ZhP (e:EdD):Prop:=e.t.ops.length≤24∧e.o.txs.length≤24
instance (e:EdD):Decidable (ZhP e):=by unfold ZhP;exact inferInstance
def ZpD (l:List EdD):Prop:=l.length≤24 ∧ ∀ e ∈ l,ZhP e
instance (l:List EdD):Decidable (ZpD l):=by unfold ZpD;exact inferInstance
def Zjq (g:Zn) (e:EdD):Zn:=if (doH g e).2=0 then (doH g e).1 else g
def Fit (n:Nat) (g:Zn):Prop:=(g.txs.length≤n ∧ ∀ t ∈ g.txs,t.ops.length≤24)∧g.orders.length≤24*n ∧ ∀ o ∈ g.orders,o.txs.length≤n
theorem Fit.small {n:Nat} {g:Zn} (h:Fit n g) (hn:n≤30):Za0 g:=by
 obtain ⟨⟨h1,h2⟩,h3,h4⟩:=h
 exact ⟨⟨by omega,fun t ht=>by have:=h2 t ht;omega⟩,by omega,fun o ho=>by have:=h4 o ho;omega⟩
theorem Fit.zero:Fit 0 Zbn:=⟨⟨by simp [Zbn],fun t ht=>by cases ht⟩,by simp [Zbn],fun o ho=>by cases ho⟩
theorem Fit.up {n:Nat} {g:Zn} (h:Fit n g):Fit (n+1) g:=⟨⟨by have:=h.1.1;omega,h.1.2⟩,by have:=h.2.1;omega,fun o ho=>by have:=h.2.2 o ho;omega⟩
theorem Fit.none {n:Nat} : Fit n Zbn:=by
 induction n with
 | zero=>exact Fit.zero
 | succ n ih=>exact ih.up
theorem ZlJ {os:List OrdD} {ks:List Int} {t:TxD} {o:OrdD} (h:o ∈ ZcT t os ks):o ∈ os∨o.txs = []:=by
 unfold ZcT at h
 split at h
 · have key:∀ (ks:List Int) (os:List OrdD),o ∈ ks.foldl Zef os→o ∈ os∨o.txs = []:=by
     intro ks
     induction ks with
     | nil=>intro os h;exact .inl h
     | cons k ks ih=>
       intro os h
       rcases ih _ h with h | h
       · rcases Zj7 h with h | h
         · exact .inl h
         · exact .inr (by rw [h])
       · exact .inr h
   exact key ks os h
 · exact .inl h
theorem ZdG {n:Nat} {t:TxD} {os:List OrdD} (ht:t.ops.length≤24) (h1:os.length≤24*n) (h2:∀ o ∈ os,o.txs.length≤n):(settleO t os).length≤24*(n+1) ∧ ∀ o ∈ settleO t os,o.txs.length≤n+1:=by
 have hk:=Zde t
 have hl:(ZcT t os (ZY t)).length≤os.length+(ZY t).length:=by
   unfold ZcT
   split
   · have key:∀ (ks:List Int) (os:List OrdD),(ks.foldl Zef os).length≤os.length+ks.length:=by
       intro ks
       induction ks with
       | nil=>intro os;simp
       | cons k ks ih=>intro os;have h1:=ih (Zef os k);have h2:=Zi2 os k;rw [List.foldl_cons,List.length_cons];omega
     exact key _ _
   · omega
 unfold settleO
 refine ⟨Nat.le_trans (List.length_filter_le _ _) (by rw [List.length_map];omega),fun o ho=>?_⟩
 obtain ⟨o',ho',e⟩:=List.mem_map.1 (List.mem_filter.1 ho).1
 have hlen:o'.txs.length≤n:=by
   rcases ZlJ ho' with h | h
   · exact h2 o' h
   · rw [h];simp
 rw [← e]
 unfold ZiL
 show (if _ then _ else _:List Int).length≤_
 split
 · unfold withO;split
   · omega
   · simp;omega
 · unfold withoutO
   exact Nat.le_trans (List.length_filter_le _ _) (by omega)
theorem Zf0 {n:Nat} {g:Zn} {key:Int} {rule:List Int→List Int×Int} (hr:∀ l,(rule l).2=0→(rule l).1.length≤l.length) (h:Fit n g):Fit n (ZgJ g key rule).1:=by
 unfold ZgJ
 split
 · exact Fit.none
 · split
   · exact Fit.none
   · split
     · exact Fit.none
     · rename_i h1 h2 h3
       refine ⟨h.1,by show (List.set _ _ _).length≤_;rw [List.length_set];exact h.2.1,fun o ho=>?_⟩
       rcases List.mem_or_eq_of_mem_set ho with h4 | h4
       · exact h.2.2 o h4
       · have hk:isK OrdD.key key g.orders=true:=by simpa using h2
         have hlt:=(Zit (ZR (Decidable.not_not.1 h1)).2 hk).1
         have:=hr _ (Decidable.not_not.1 h3)
         have:=h.2.2 _ (nth_mem hlt)
         rw [h4];show (rule _).1.length≤n;omega
theorem Fit.doH {n:Nat} {g:Zn} {e:EdD} (h:Fit n g) (he:ZhP e):Fit (n+1) (doH g e).1:=by
 have hset:∀ t:TxD,t.ops.length≤24 → ∀ txs:List TxD,txs.length≤n+1→(∀ t ∈ txs,t.ops.length≤24)→Fit (n+1) ⟨txs,settleO t g.orders⟩:=fun t ht txs h1 h2=>by
   obtain ⟨h3,h4⟩:=ZdG ht h.2.1 h.2.2
   exact ⟨⟨h1,h2⟩,h3,h4⟩
 unfold Go.Proofs.YtdpkkdigojkpaaaGreat.doH
 split
 · unfold Zm8
   split
   · exact Fit.none
   · split
     · exact Fit.none
     · refine hset _ he.1 _ ?_ fun t ht=>?_
       · have:=h.1.1;rw [List.length_append,List.length_append,List.length_take,List.length_drop];simp;omega
       · rw [List.mem_append,List.mem_append] at ht
         rcases ht with (ht | ht) | ht
         · exact h.1.2 t (List.mem_of_mem_take ht)
         · rw [List.mem_singleton.1 ht];exact he.1
         · exact h.1.2 t (List.mem_of_mem_drop ht)
 · split
   · unfold ZO
     split
     · exact Fit.none
     · split
       · exact Fit.none
       · split
         · exact Fit.none
         · refine hset _ (by simp [Zbx]) _ ?_ fun t ht=>?_
           · have:=h.1.1;rw [List.length_append,List.length_take,List.length_drop];omega
           · rw [List.mem_append] at ht
             rcases ht with ht | ht
             · exact h.1.2 t (List.mem_of_mem_take ht)
             · exact h.1.2 t (List.mem_of_mem_drop ht)
   · split
     · unfold Zan
       split
       · exact Fit.none
       · split
         · exact Fit.none
         · refine hset _ he.1 _ ?_ fun t ht=>?_
           · have:=h.1.1;rw [List.length_set];omega
           · rcases List.mem_or_eq_of_mem_set ht with ht | ht
             · exact h.1.2 t ht
             · rw [ht];exact he.1
     · split
       · refine (Zf0 (fun l h0=>?_) h).up
         unfold ZrQ at h0 ⊢
         split at h0
         · rename_i hp;rw [if_pos hp,hp.length_eq];exact Nat.le_refl _
         · simp at h0
       · split
         · exact (Zf0 (fun l h0=>by show (Zo1 l _ _).1.length≤_;exact ZmI _ _ _) h).up
         · exact Fit.none
theorem Fit.step {n:Nat} {g:Zn} {e:EdD} (h:Fit n g) (he:ZhP e):Fit (n+1) (Zjq g e):=by
 unfold Zjq
 split
 · exact h.doH he
 · exact h.up
instance (l:List TxD):Decidable (ZaH l):=by unfold ZaH;exact inferInstance
instance (l:List OrdD):Decidable (Zdz l):=by unfold Zdz;exact inferInstance
instance (g:Zn):Decidable (Za0 g):=by unfold Za0;exact inferInstance
theorem ZbO {l:List TxD} {k x:Int} : x ∈ ZT l k ↔ ∃ t ∈ l,t.id=x∧t.done=true∧0<wcnt t.ops k:=by
 unfold ZT
 rw [List.mem_map]
 constructor
 · rintro ⟨t,ht,e⟩
   rw [List.mem_filter] at ht
   simp at ht
   exact ⟨t,ht.1,e,ht.2.1,ht.2.2⟩
 · rintro ⟨t,ht,e,h1,h2⟩
   exact ⟨t,by rw [List.mem_filter];simp [ht,h1,h2],e⟩
theorem ZbM {l:List TxD} (h:Zb8 TxD.id l) (k:Int):(ZT l k).Nodup:=by
 unfold ZT
 have h1:(l.map TxD.id).Nodup:=(List.pairwise_map.2 (ZE.1 h)).imp fun h=>Int.ne_of_lt h
 exact (h1.sublist ((List.filter_sublist).map _))
theorem ZcD {l:List TxD} (h:Zb8 TxD.id l) {t:TxD} (ht:t ∈ l):Z7 l t.id=some t:=by
 have h:=ZE.1 h
 induction l with
 | nil=>cases ht
 | cons x l ih=>
   rw [List.pairwise_cons] at h
   unfold Z7
   rw [List.find?_cons]
   rcases List.mem_cons.1 ht with rfl | ht
   · simp
   · have:=h.1 t ht
     rw [show decide (x.id=t.id)=false by simp;omega]
     exact ih (ZE.2 h.2) ht h.2
theorem ZoP {l:List TxD} {id:Int} (h:∀ t ∈ l,t.id≠id):Z7 l id=none:=by
 unfold Z7
 exact List.find?_eq_none.2 fun t ht=>by simpa using h t ht
theorem Zba {g:Zn} : ZG g ↔ g.txs.length≤4096∧Zb8 TxD.id g.txs∧(∀ t ∈ g.txs,Zai t=0∧Zdf g t=true)∧Zb8 OrdD.key g.orders∧NE g.orders ∧ ∀ k,(getO g.orders k).Perm (ZT g.txs k):=by
 constructor
 · intro h
   obtain ⟨r1',r2'⟩:=ZR h
   have hne:=Zoo h
   have h2:=(Zcz g).2 h.2.2
   refine ⟨h.1,r1',fun t ht=>?_,r2',hne,fun k=>?_⟩
   · obtain ⟨j,hj,e⟩:=List.getElem_of_mem ht
     have:=(h.2.1 j hj).2
     rwa [nth_eq hj,e] at this
   · by_cases hk:getO g.orders k = []
     · rw [hk]
       have hw:ZT g.txs k = []:=by
         refine Decidable.byContradiction fun hw=>?_
         obtain ⟨j,hj,e⟩:=List.getElem_of_mem (Zcm.2 hw)
         have hjo:j<g.orders.length:=by rw [h.2.2.1];exact hj
         have h3:=(h.2.2.2 j hjo).1
         rw [nth_eq hj,e] at h3
         have h4:=Zc9 (ZE.1 r2') (nth_mem hjo)
         rw [h3,hk] at h4
         exact hne _ (nth_mem hjo) h4.symm
       rw [hw]
     · have hm:=Zgu hk
       obtain ⟨j,hj,e⟩:=List.getElem_of_mem hm
       have:=(h2.2 j hj).2.2
       rw [nth_eq hj,e] at this
       exact this
 · rintro ⟨h1,h2,h3,h4,h5,h6⟩
   have hk:g.orders.map OrdD.key=ZbT g.txs:=by
     refine ZdX (List.pairwise_map.2 (ZE.1 h4)) (Zar _).1 fun k=>?_
     rw [Zcm,List.mem_map]
     constructor
     · rintro ⟨o,ho,rfl⟩ e
       have:=h6 o.key
       rw [e,Zc9 (ZE.1 h4) ho] at this
       exact h5 o ho this.eq_nil
     · intro e
       have:getO g.orders k≠[]:=fun e2=>by
         have:=h6 k
         rw [e2] at this
         exact e this.symm.eq_nil
       exact ⟨_,Zgu this,rfl⟩
   have hlen:g.orders.length=(ZbT g.txs).length:=by rw [← hk,List.length_map]
   refine ⟨h1,fun i hi=>?_,(Zcz g).1 ⟨hlen,fun i hi=>?_⟩⟩
   · obtain ⟨g1,g2⟩:=h3 _ (nth_mem hi)
     exact ⟨fun h0=>h2 (i - 1) i (by omega) hi,g1,g2⟩
   · refine ⟨fun h0=>h4 (i - 1) i (by omega) hi,h5 _ (nth_mem hi),?_⟩
     have:=h6 (Go.Gm.nth g.orders i).key
     rwa [Zc9 (ZE.1 h4) (nth_mem hi)] at this
theorem Zme {t:TxD} {l:List Int} {k x:Int} : x ∈ Zex t l k ↔ (x ∈ l∧x≠t.id)∨(x=t.id∧t.done=true∧0<wcnt t.ops k):=by
 unfold Zex
 by_cases h:t.done=true∧0<wcnt t.ops k
 · rw [if_pos h]
   unfold withO
   split
   · rename_i hi
     constructor
     · intro hx
       by_cases e:x=t.id
       · exact .inr ⟨e,h⟩
       · exact .inl ⟨hx,e⟩
     · rintro (⟨hx,_⟩ | ⟨rfl,_⟩)
       · exact hx
       · exact hi
   · rename_i hi
     rw [List.mem_append,List.mem_singleton]
     constructor
     · rintro (hx | hx)
       · exact .inl ⟨hx,fun e=>hi (e ▸ hx)⟩
       · exact .inr ⟨hx,h⟩
     · rintro (⟨hx,_⟩ | ⟨e,_⟩)
       · exact .inl hx
       · exact .inr e
 · rw [if_neg h]
   unfold withoutO
   rw [List.mem_filter,decide_eq_true_eq]
   exact ⟨fun h1=>.inl h1,fun h1=>h1.elim id fun h2=>absurd h2.2 h⟩
theorem Zi0 {t:TxD} {l:List Int} (h:l.Nodup) (k:Int):(Zex t l k).Nodup:=by
 unfold Zex
 split
 · unfold withO
   split
   · exact h
   · rename_i hi
     rw [List.nodup_append]
     exact ⟨h,by simp,fun a ha b hb=>by rw [List.mem_singleton] at hb;subst hb;exact fun e=>hi (e ▸ ha)⟩
 · exact h.filter _
theorem Zf8 {g:Zn} {t:TxD} {b:Bool} {l:List TxD} (hR:ZG g) (hs:Zdz g.orders) (hr:Zb8 TxD.id l) (hl:l.length≤4096) (hM:∀ s,s ∈ l ↔ (s ∈ g.txs∧s.id≠t.id)∨(s=t∧b=true))
   (ht:b=true→Zai t=0∧Zdf g t=true) (hb:b=false→t.done=false)
   (hu:∀ x ∈ l,∀ v ∈ ZaE x,v.tx=t.id→Zio g v=true→¬ (v.tx=0∧v.nth=0)→b=true∧v.nth≤(wcnt t.ops v.key:Int)):ZG ⟨l,settleO t g.orders⟩:=by
 obtain ⟨h1,h2,h3,h4,h5,h6⟩:=Zba.1 hR
 obtain ⟨s1,s2⟩:=ZiU (t:=t) h4 hs
 have hhas:∀ x ∈ l,∀ v ∈ ZaE x,Zio g v=true→Zio ⟨l,settleO t g.orders⟩ v=true:=by
   intro x hx v hv hg
   by_cases hz:v.tx=0∧v.nth=0
   · unfold Zio at hg ⊢
     rw [if_pos hz] at hg ⊢
     exact hg
   · have hu2:=hu x hx v hv
     unfold Zio at hg hu2 ⊢
     rw [if_neg hz] at hg hu2 ⊢
     by_cases e:v.tx=t.id
     · obtain ⟨b1,b2⟩:=hu2 e hg hz
       have hm:t ∈ l:=(hM t).2 (.inr ⟨rfl,b1⟩)
       have hf:=ZcD hr hm
       simp only [Bool.and_eq_true,decide_eq_true_eq] at hg ⊢
       show _∧_
       rw [e,hf]
       exact ⟨rfl,hg.2.1,b2⟩
     · have hf:Z7 l v.tx=Z7 g.txs v.tx:=by
         cases hc:Z7 g.txs v.tx with
         | none=>
           refine ZoP fun s hsl es=>?_
           rcases (hM s).1 hsl with ⟨m1,m2⟩ | ⟨rfl,_⟩
           · have:=ZcD h2 m1
             rw [es,hc] at this;cases this
           · exact e es.symm
         | some s=>
           obtain ⟨m1,m2⟩:=findT_mem hc
           have hm:s ∈ l:=(hM s).2 (.inl ⟨m1,by rw [m2];exact e⟩)
           have:=ZcD hr hm
           rwa [m2] at this
       show (((Z7 l v.tx).isSome && _):Bool)=true
       rw [hf];exact hg
 refine Zba.2 ⟨hl,hr,fun x hx=>?_,ZE.2 s1,s2,fun k=>?_⟩
 · have hx2:Zai x=0∧Zdf g x=true:=by
     rcases (hM x).1 hx with ⟨m1,_⟩ | ⟨rfl,b1⟩
     · exact h3 x m1
     · exact ht b1
   refine ⟨hx2.1,?_⟩
   have h7:=hx2.2
   unfold Zdf at h7 ⊢
   rw [List.all_eq_true] at h7 ⊢
   exact fun v hv=>hhas x hx v hv (h7 v hv)
 · rw [ZcB h4 k]
   have hn:(getO g.orders k).Nodup:=(h6 k).symm.nodup (ZbM h2 k)
   refine (List.perm_ext_iff_of_nodup (Zi0 hn k) (ZbM hr k)).2 fun x=>?_
   rw [Zme,ZbO,(h6 k).mem_iff,ZbO]
   constructor
   · rintro (⟨⟨s,m1,m2,m3,m4⟩,m5⟩ | ⟨rfl,m3,m4⟩)
     · exact ⟨s,(hM s).2 (.inl ⟨m1,by rw [m2];exact m5⟩),m2,m3,m4⟩
     · refine ⟨t,(hM t).2 (.inr ⟨rfl,?_⟩),rfl,m3,m4⟩
       cases b with
       | true=>rfl
       | false=>rw [hb rfl] at m3;cases m3
   · rintro ⟨s,m1,m2,m3,m4⟩
     rcases (hM s).1 m1 with ⟨m5,m6⟩ | ⟨rfl,_⟩
     · exact .inl ⟨⟨s,m5,m2,m3,m4⟩,by rw [← m2];exact m6⟩
     · exact .inr ⟨m2.symm,m3,m4⟩
theorem Zkg {l:List TxD} {t:TxD} (h:Zb8 TxD.id l) (hk:isK TxD.id t.id l=true):Zb8 TxD.id (l.set (lowK TxD.id t.id l) t) ∧ ∀ s,s ∈ l.set (lowK TxD.id t.id l) t ↔ (s ∈ l∧s.id≠t.id)∨(s=t∧true=true):=by
 rw [← Zl9 (ZE.1 h) hk]
 refine ⟨ZE.2 (ZfV (ZE.1 h)),fun s=>?_⟩
 constructor
 · intro hs
   rcases ZhX hs with ⟨rfl,_⟩ | h1
   · exact .inr ⟨rfl,rfl⟩
   · exact .inl h1
 · have key:∀ (l:List TxD) (d:Bool),((s ∈ l∧s.id≠t.id)∨(s=t∧d=false))→s ∈ ZcK TxD.id t l d:=by
     intro l
     induction l with
     | nil=>
       rintro d (⟨h1,_⟩ | ⟨rfl,h1⟩)
       · cases h1
       · subst h1;simp [ZcK]
     | cons x l ih=>
       intro d hx
       rw [ZcK,List.mem_append,List.mem_append]
       rcases hx with ⟨h1,h2⟩ | ⟨rfl,h1⟩
       · rcases List.mem_cons.1 h1 with rfl | h1
         · exact .inl (.inr (by rw [if_neg h2];simp))
         · exact .inr (ih _ (.inl ⟨h1,h2⟩))
       · by_cases hA:s.id≤x.id
         · exact .inl (.inl (by rw [if_pos ⟨h1,hA⟩];simp))
         · exact .inr (ih _ (.inr ⟨rfl,by rw [h1];simp;omega⟩))
   rintro (h1 | ⟨h1,_⟩)
   · exact key l false (.inl h1)
   · exact key l false (.inr ⟨h1,rfl⟩)
theorem ZnC {t:TxD} {v:ZbB} (h:v ∈ ZaE t):v.tx≠t.id:=by
 have key:∀ (l:List OpD) (out:List ZbB),(∀ v ∈ out,v.tx≠t.id) → ∀ v ∈ l.foldl (Z9 t.id) out,v.tx≠t.id:=by
   intro l
   induction l with
   | nil=>intro out h;exact h
   | cons o l ih=>
     intro out h
     refine ih _ fun v hv=>?_
     unfold Z9 at hv
     split at hv
     · rename_i hc
       rcases List.mem_append.1 hv with hv | hv
       · exact h v hv
       · have e:v=ofO o:=by simpa using hv
         have hn:=hc.1
         unfold ZbU at hn
         simp at hn
         rw [e]
         unfold ofO
         rw [if_pos hn.1.1]
         exact hn.2
     · exact h v hv
 exact key _ _ (fun v hv=>by cases hv) v h
theorem Zlv {g:Zn} {v:ZbB} (h:Zio g v=true) (hz:¬ (v.tx=0∧v.nth=0)):isK TxD.id v.tx g.txs=true∧1≤v.nth:=by
 unfold Zio at h
 rw [if_neg hz,Bool.and_eq_true,Bool.and_eq_true,Zlh] at h
 exact ⟨h.1,by simpa using h.2.1⟩
theorem Zl5 {g:Zn} {t x:TxD} {v:ZbB} (h:Zeh g t=false) (hx:x ∈ g.txs) (hn:x.id≠t.id) (hv:v ∈ ZaE x) (e:v.tx=t.id):v.nth≤(wcnt t.ops v.key:Int):=by
 have h1:=List.any_eq_false.1 h x hx
 unfold ZiE at h1
 rw [decide_eq_true hn,Bool.true_and] at h1
 have h2:=List.any_eq_false.1 (by simpa using h1) v hv
 unfold Zia at h2
 simp [e] at h2
 omega
theorem ZiJ {g:Zn} {t:TxD} (hs:Za0 g) (h:(Zan g t).2=0):ZG (Zan g t).1:=by
 unfold Zan at h ⊢
 split at h
 · rename_i h1;exact absurd h h1
 · rename_i h1
   split at h
   · simp at h
   · rename_i h2
     obtain ⟨hr,hrt,hik,hnd,_⟩:=ZpA (by decide) (Decidable.not_not.1 h1)
     rw [if_neg h1,if_neg h2]
     obtain ⟨m1,m2⟩:=Zkg (ZR hr).1 hik
     refine Zf8 (b:=true) hr hs.2 m1 (by rw [List.length_set];exact hr.1) m2 (fun _=>⟨hrt,hnd⟩) (fun h=>by cases h) fun x hx v hv e _ _=>⟨rfl,?_⟩
     rcases (m2 x).1 hx with ⟨h3,h4⟩ | ⟨rfl,_⟩
     · exact Zl5 (by simpa using h2) h3 h4 hv e
     · exact absurd e (ZnC hv)
theorem Zd1 {g:Zn} {id:Int} (hs:Za0 g) (h:(ZO g id).2=0):ZG (ZO g id).1:=by
 unfold ZO at h ⊢
 split at h
 · simp at h
 · rename_i h1
   split at h
   · simp at h
   · rename_i h2
     split at h
     · simp at h
     · rename_i h3
       have hr:=Decidable.not_not.1 h1
       have hik:isK TxD.id id g.txs=true:=by simpa using h2
       have hri:=(ZR hr).1
       rw [if_neg h1,if_neg h2,if_neg h3,← ZcH (ZE.1 hri) hik]
       refine Zf8 (b:=false) hr hs.2 (ZE.2 ((ZE.1 hri).filter _)) (Nat.le_trans (List.length_filter_le _ _) hr.1) (fun s=>?_) (fun h=>by cases h) (fun _=>rfl) fun x hx v hv e hg hz=>?_
       · rw [List.mem_filter];simp [Zbx]
       · rw [List.mem_filter] at hx
         have h5:=Zl5 (t:=Zbx id) (by simpa using h3) hx.1 (by simpa [Zbx] using hx.2) hv e
         have h6:=(Zlv hg hz).2
         have h7:wcnt (Zbx id).ops v.key=0:=rfl
         rw [h7] at h5
         omega
structure Zp3 where
 tx:Int
 place:Int
 vof:ZbB
 deriving DecidableEq,Inhabited
def Ziq (b:Zp3):List PV:=[.int .i64 b.tx,.int .i64 b.place,.int .i64 b.vof.tx,.int .i64 b.vof.key,.int .i64 b.vof.nth]
def uOf (g:Zn) (o:OpD):TxD:=(Z7 g.txs o.tx).getD zeroT
def ZfO (t u:TxD) (o:OpD) (phen:Int):Bool:=t.done && (if phen=2 then !u.done else decide (phen=3) && decide (o.nth<(wcnt u.ops o.key:Int)))
def Zi6 (g:Zn) (phen:Int) (t:TxD) (o:OpD):Bool:=ZbU t.id o && ZfO t (uOf g o) o phen
def ZbF (g:Zn) (phen:Int) (p:Int→Bool) (t:TxD) (l:List OpD):List Zp3:=(l.zipIdx.filter fun x=>p x.1.key && Zi6 g phen t x.1).map fun x=>⟨t.id,(x.2:Int),ofO x.1⟩
theorem ZcR {g:Zn} {phen:Int} {p:Int→Bool} {t:TxD} {l:List OpD} {j:Nat} (hj:j<l.length):ZbF g phen p t (l.take (j+1))=ZbF g phen p t (l.take j)++if (p (Go.Gm.nth l j).key && Zi6 g phen t (Go.Gm.nth l j))=true then [⟨t.id,j,ofO (Go.Gm.nth l j)⟩] else []:=by
 unfold ZbF
 rw [Zv hj,List.zipIdx_append,List.filter_append,List.map_append]
 congr 1
 rw [List.length_take,show min j l.length=j by omega]
 by_cases h:(p (Go.Gm.nth l j).key && Zi6 g phen t (Go.Gm.nth l j))=true
 · rw [if_pos h,List.zipIdx_cons,List.filter_cons_of_pos (by simpa using h)];simp
 · rw [if_neg h,List.zipIdx_cons,List.filter_cons_of_neg (by simpa using h)];simp
theorem Zf2 (g:Zn) (phen:Int) (p:Int→Bool) (t:TxD) (l:List OpD):(ZbF g phen p t l).length≤l.length:=by
 unfold ZbF
 rw [List.length_map]
 exact Nat.le_trans (List.length_filter_le _ _) (by simp)
def badsG (g:Zn) (phen:Int) (p:Int→Bool) (l:List TxD):List Zp3:=l.flatMap fun t=>ZbF g phen p t t.ops
theorem Zk4 {g:Zn} {phen:Int} {p:Int→Bool} {l:List TxD} {i:Nat} (hi:i<l.length):badsG g phen p (l.take (i+1))=badsG g phen p (l.take i)++ZbF g phen p (Go.Gm.nth l i) (Go.Gm.nth l i).ops:=by
 unfold badsG
 rw [Zv hi,List.flatMap_append]
 simp
theorem ZjN {g:Zn} {phen:Int} {p:Int→Bool} {l:List TxD} (h:ZaH l) (i:Nat):(badsG g phen p (l.take i)).length≤1000*i:=by
 have key:∀ l:List TxD,(∀ t ∈ l,t.ops.length≤1000)→(badsG g phen p l).length≤1000*l.length:=by
   intro l
   induction l with
   | nil=>intro _;simp [badsG]
   | cons t l ih=>
     intro h
     have h1:=ih fun x hx=>h x (by simp [hx])
     have h2:=h t (by simp)
     have h3:=Zf2 g phen p t t.ops
     unfold badsG at h1 ⊢
     rw [List.flatMap_cons,List.length_append,List.length_cons]
     omega
 have h1:=key (l.take i) fun t ht=>h.2 t (List.mem_of_mem_take ht)
 have h2:(l.take i).length≤i:=by rw [List.length_take];omega
 exact Nat.le_trans h1 (Nat.mul_le_mul_left _ h2)
def Zca (g:Zn) (phen:Int) (p:Int→Bool):List Zp3:=if ZG g then badsG g phen p g.txs else []
theorem Zl0 {g:Zn} (hr:∀ i,i<g.txs.length→Zlc g i):Zg5 (g.txs.map TxD.id):=Ze8 fun i hi h0=>by
 have hi':i<g.txs.length:=by simpa using hi
 rw [ZbR (by omega),ZbR hi']
 exact (hr i hi').1 h0
theorem Zre {g:Zn} (hr:∀ i,i<g.txs.length→Zlc g i) {i k:Nat} (hi:i<g.txs.length) (hk:k<i):(Go.Gm.nth g.txs k).id<(Go.Gm.nth g.txs i).id:=by
 have h:=List.pairwise_iff_getElem.1 (Zl0 hr) k i (by simp;omega) (by simpa using hi) hk
 rw [nth_eq hi,nth_eq (by omega)]
 simpa using h
def ZqT (es:List (GE Int TxD)) (l:List TxD):Prop:=∀ id,gGet id es=Z7 l id
theorem ZpI {g:Zn} (hr:∀ i,i<g.txs.length→Zlc g i) {es:List (GE Int TxD)} {ck i:Nat} (h:ZqT es (g.txs.take i)) (hi:i<g.txs.length):ZqT (gPut (Go.Gm.nth g.txs i).id (Go.Gm.nth g.txs i) (es,ck)).1 (g.txs.take (i+1)):=fun id=>by
 rw [Zcw,h id]
 unfold Z7
 rw [Zv hi,List.find?_append]
 by_cases e:id=(Go.Gm.nth g.txs i).id
 · subst e
   have hn:(g.txs.take i).find? (fun t=>decide (t.id=(Go.Gm.nth g.txs i).id))=none:=by
     rw [List.find?_eq_none]
     intro x hx
     obtain ⟨k,hk,e⟩:=List.getElem_of_mem hx
     rw [List.length_take] at hk
     have:=Zre hr hi (show k<i by omega)
     rw [nth_eq (by omega)] at this
     rw [List.getElem_take] at e
     rw [e] at this
     simp;omega
   simp [hn]
 · rw [if_neg e]
   have hn:[Go.Gm.nth g.txs i].find? (fun t=>decide (t.id=id))=none:=by simp;exact fun h=>e h.symm
   rw [hn];simp
def Zq8 (x:Int):List PV:=[.int .u64 x]
def bitAt (ws:List Int) (j:Nat):Bool:=(Go.Gm.nth ws (j / 64)).toNat.testBit (j % 64)
def Zh0 (ws:List Int) (j:Nat):List Int:=ws.set (j / 64) (((Go.Gm.nth ws (j / 64)).toNat ^^^ 2 ^ (j % 64):Nat):Int)
def hasW (n:Nat) (ws:List Int) (i:Int):Bool:=(decide (0≤i) && decide (i<n)) && bitAt ws i.toNat
def setB (n:Nat) (ws:List Int) (i:Int) (on:Bool):Bool:=(decide (0≤i) && decide (i<n)) && (hasW n ws i != on)
def setW (n:Nat) (ws:List Int) (i:Int) (on:Bool):List Int:=if setB n ws i on then Zh0 ws i.toNat else ws
structure Zcf (n:Nat) (ws:List Int):Prop where
 hi:n≤65536
 len:ws.length=(n+63) / 64
 wd:∀ k,0≤Go.Gm.nth ws k∧Go.Gm.nth ws k<18446744073709551616
def Zpd (v wv:Value) (n:Nat) (ws:List Int):List RS:=[.pt (.val v) 331 [.pv (.int .i64 n),.pv (.is wv)],.ob (.val wv) (Zu 235 1 Zq8 ws)]
def Zg3 (v:Value) (n:Nat) (ws:List Int):HP:=.ex fun wv:Value=>.and (Zcf n ws) (.star (Zpd v wv n ws))
theorem Zmz {v:Value} {n:Nat} {ws:List Int} {w:World} {f y:Ys} (h:(Zg3 v n ws).p w f y):Zcf n ws ∧ ∃ b,v = .pointer (some ⟨b,0,none⟩):=by
 obtain ⟨_,hI,h⟩:=h
 exact ⟨hI,HP.star_pt h⟩
theorem shr6 (i:Int):i.fdiv (2 ^ min (6:Int).toNat (IntKind.bits .i64))=i / 64:=Int.fdiv_eq_ediv_of_nonneg i (by decide)
theorem and63 (i:Int) (h:0≤i∧i≤9223372036854775807):bits .and .i64 i 63=i % 64:=by
 obtain ⟨X,rfl⟩:=Int.eq_ofNat_of_zero_le h.1
 have h1:(BitVec.ofInt 64 (X:Int)).toNat=X:=by rw [BitVec.toNat_ofInt];omega
 have h2:(BitVec.ofInt 64 (63:Int)).toNat=2 ^ 6 - 1:=by decide
 show IntKind.wrap .i64 (((BitVec.ofInt 64 (X:Int) &&& BitVec.ofInt 64 63).toNat:Nat):Int)=_
 rw [BitVec.toNat_and,h1,h2,Nat.and_two_pow_sub_one_eq_mod,ZJ (by omega)]
 omega
theorem and1 (x:Int) (h:0≤x∧x<18446744073709551616):bits .and .u64 x 1=x % 2:=by
 obtain ⟨X,rfl⟩:=Int.eq_ofNat_of_zero_le h.1
 have h1:(BitVec.ofInt 64 (X:Int)).toNat=X:=by rw [BitVec.toNat_ofInt];omega
 have h2:(BitVec.ofInt 64 (1:Int)).toNat=2 ^ 1 - 1:=by decide
 show IntKind.wrap .u64 (((BitVec.ofInt 64 (X:Int) &&& BitVec.ofInt 64 1).toNat:Nat):Int)=_
 rw [BitVec.toNat_and,h1,h2,Nat.and_two_pow_sub_one_eq_mod,ZaQ (by omega)]
 omega
theorem xor64 (x y:Nat) (hx:x<18446744073709551616) (hy:y<18446744073709551616):bits .xor .u64 (x:Int) (y:Int)=((x ^^^ y:Nat):Int):=by
 have h1:(BitVec.ofInt 64 (x:Int)).toNat=x:=by rw [BitVec.toNat_ofInt];omega
 have h2:(BitVec.ofInt 64 (y:Int)).toNat=y:=by rw [BitVec.toNat_ofInt];omega
 show IntKind.wrap .u64 (((BitVec.ofInt 64 (x:Int) ^^^ BitVec.ofInt 64 (y:Int)).toNat:Nat):Int)=_
 rw [BitVec.toNat_xor,h1,h2]
 exact ZaQ (by have:=Nat.xor_lt_two_pow (n:=64) hx hy;omega)
theorem ZqQ {x:Int} (h:0≤x∧x<18446744073709551616) (i:Int) (hi:0≤i∧i≤9223372036854775807):decide (bits .and .u64 (x.fdiv (2 ^ min (IntKind.wrap .u64 (bits .and .i64 i 63)).toNat (IntKind.bits .u64))) 1=1)=x.toNat.testBit (i.toNat % 64):=by
 obtain ⟨X,rfl⟩:=Int.eq_ofNat_of_zero_le h.1
 obtain ⟨I,rfl⟩:=Int.eq_ofNat_of_zero_le hi.1
 rw [and63 _ hi,ZaQ (by omega),Int.toNat_natCast,Int.toNat_natCast]
 have e1:min ((I:Int) % 64).toNat (IntKind.bits .u64)=I % 64:=by simp only [IntKind.bits];omega
 rw [e1,Int.fdiv_eq_ediv_of_nonneg _ (by exact_mod_cast Nat.zero_le _)]
 have e2:(X:Int) / 2 ^ (I % 64)=((X / 2 ^ (I % 64):Nat):Int):=by norm_cast
 have hle:X / 2 ^ (I % 64)≤X:=Nat.div_le_self _ _
 rw [e2,Nat.testBit_eq_decide_div_mod_eq]
 generalize X / 2 ^ (I % 64)=q at hle ⊢
 rw [and1 _ (by omega)]
 exact decide_eq_decide.2 (by omega)
theorem Zcf.at {n:Nat} {ws:List Int} (h:Zcf n ws) (i:Int) (h0:0≤i) (h1:i<n):0≤i / 64∧i / 64<ws.length:=by have:=h.len;omega
theorem u64_nonneg (x:Int):0≤IntKind.wrap .u64 x:=by rw [Zdd];omega
theorem and_iff {a b:Prop} [Decidable a] [Decidable b] (h:(decide a && decide b)=true):a∧b:=by simpa using h
theorem Zra (n:Nat) (p:PV):FnP Tryz.prog 320 [.ref [.int .i64 n,p]] (.int .i64 n):=by
 refine FnP.mk Tryz.func320 rfl Tryz.ntmps320 rfl ?_
 intro B a w F hB hfr hS
 refine wp_seq ?_
 refine Zb hS (qI qZ) hB [2,0] [0] rfl rfl fun a w F hS=>Za (wp_seq (wp_seq ?_))
 refine Zb hS (qM rfl rfl (qf (Zdg Tryz.underlying280 .t) r1 qz qZ)) hB [4,2,0] [0] rfl rfl fun a w F hS=>Za ?_
 refine Zd hS rfl (fun hc0=>?_) (fun hc0=>?_)
 ·skip
  simp at hc0
 refine wp_skip (Za (wp_seq ?_))
 refine Zb hS (qM rfl rfl (qf (ZP .t) r1 qz (qf (oG 0 .t) r1 qz (qf (oR false 1 .t) r1 qz (qN rfl rfl qZ))))) hB [2] [0] rfl rfl fun a w F hS=>Za (wp_ret ?_)
 refine Zw hfr hS rfl rfl rfl .refl
theorem Zlk (n:Nat) (p:PV) (i:Int):FnP Tryz.prog 307 [.ref [.int .i64 n,p],.int .i64 i] (.bool (decide (0≤i) && decide (i<n))):=by
 refine FnP.mk Tryz.func307 rfl Tryz.ntmps307 rfl ?_
 intro B a w F hB hfr hS
 refine wp_seq ?_
 refine Zb hS qB hB [4,1,0] [0] rfl rfl fun a w F hS=>Za (wp_seq ?_)
 refine Zb hS (qM rfl rfl (qf (ZbW .t qi) r1 qz (qM rfl rfl (qm rfl rfl rfl rfl (qm rfl rfl rfl rfl (qk rfl (fun h=>oP (Zra n p) Tryz.func320 (Args.one (.w h))) r2 qz (qk rfl (fun h=>ZbC (.w h) (.w h)) r3 qz (qf (ZN .t .t) r2 qz (qN rfl rfl qZ))))))))) hB [4] [0] rfl rfl fun a w F hS=>Za (wp_ret ?_)
 refine Zw hfr hS rfl rfl rfl .refl
theorem Int.toNat_ediv_64 {i:Int} (h:0≤i):(i / 64).toNat=i.toNat / 64:=by omega
theorem ZbV {a b:Prop} [Decidable a] [Decidable b] (h:¬ (a∧b)):(decide a && decide b)=false:=by rw [← Bool.decide_and];exact decide_eq_false h
theorem Zpr (n:Nat) (ws:List Int) (hI:Zcf n ws) (i:Int):FnP Tryz.prog 283 [.ref [.int .i64 n,.sl Zq8 ws],.int .i64 i] (.bool (hasW n ws i)):=by
 refine FnP.mk Tryz.func283 rfl Tryz.ntmps283 rfl ?_
 intro B a w F hB hfr hS
 refine wp_seq ?_
 refine Zb hS qB hB [4,1,0] [0] rfl rfl fun a w F hS=>Za (wp_seq ?_)
 refine Zb hS (qM rfl rfl (qM rfl rfl (qf (oP (Zlk n _ i) Tryz.func307 (Args.two .t .t)) r2 qz (qM rfl rfl (qm rfl rfl rfl rfl (qk rfl (fun h=>ZP (.w h)) r2 qz (qk rfl (fun h=>oG 1 (.w h)) r2 qz (qk rfl (fun h=>oR false 1 (.w h)) r2 qz (qm rfl rfl rfl rfl (qk rfl (fun h=>ZfC (.w h) qi (by decide)) r2 qz (qk rfl (fun h=>o_indexAddr_sl (sz:=1) (.mk Tryz.underlying329 (by kernel_rfl)) (by intro x;rfl) (.w h) (.w h) (by rw [shr6];exact (hI.at i (and_iff h).1 (and_iff h).2).1) (by rw [shr6];exact (hI.at i (and_iff h).1 (and_iff h).2).2)) r3 qz (qk rfl (fun h=>oR false 1 (.w h)) r2 qz (qm rfl rfl rfl rfl (qk rfl (fun h=>o_and (.w h) qi) r2 qz (qk rfl (fun h=>o_conv Tryz.underlying174 (by kernel_rfl) (.w h)) r2 qz (qk rfl (fun h=>ZfC (.w h) (.w h) (u64_nonneg _)) r3 qz (qk rfl (fun h=>o_and (.w h) qi) r2 qz (qk rfl (fun h=>o_eql (.w h) qi) r2 qz (qf (ZN .t .t) r2 qz (qN rfl rfl qZ)))))))))))))))))))) hB [4] [0] rfl rfl fun a w F hS=>Za (wp_ret ?_)
 refine Zw hfr hS rfl rfl rfl (.bool (by unfold hasW bitAt;by_cases hb:0≤i∧i<n; (rw [shr6,ZqQ (hI.wd _) i (by have:=hI.hi;omega),Int.toNat_ediv_64 hb.1]); (simp only [ZbV hb,Bool.false_and])))
def rowN (m:Int):Nat:=(if m<0 then 0 else if m > 65536 then 65536 else m).toNat
theorem ZgX (m:Int):rowN m≤65536:=by unfold rowN;split; (· omega);split <;> omega
theorem Zq0 (m:Int):(if 65536<(if m<0 then 0 else m) then 65536 else if m<0 then 0 else m)=((rowN m:Nat):Int):=by unfold rowN;split <;> split <;> (try split) <;> omega
def ZfE (m:Int):List Int:=List.replicate ((rowN m+63) / 64) 0
theorem Zmr (k j:Nat):Go.Gm.nth (List.replicate k (0:Int)) j=0:=by
 by_cases h:j<k
 · rw [nth_eq (by simpa using h)];simp
 · unfold Go.Gm.nth;rw [List.getD_eq_getElem?_getD,List.getElem?_eq_none (by simp;omega)];rfl
theorem Zjs (m:Int):Zcf (rowN m) (ZfE m):=⟨ZgX m,by simp [ZfE],fun k=>by unfold ZfE;rw [Zmr];omega⟩
theorem ZnT (m:Int):(IntKind.wrap .i64 (((rowN m:Nat):Int)+63)).fdiv (2 ^ min (6:Int).toNat (IntKind.bits .i64))=(((rowN m+63) / 64:Nat):Int):=by
 have:=ZgX m
 rw [shr6,ZJ (by omega)];omega
theorem ZnG (w:World) (yy:Ys):PVs (Zq8 0) [.int .u64 0] w yy:=⟨⟨rfl,rfl,by simp [inR,IntKind.min,IntKind.max,IntKind.signed,IntKind.bits]⟩,trivial⟩
theorem Zh4 (ws:List Int) (j:Nat):(Zh0 ws j).length=ws.length:=by simp [Zh0]
theorem Zjo {ws:List Int} {i j:Nat} {c:Int} (h:j<ws.length):Go.Gm.nth (ws.set i c) j=if i=j then c else Go.Gm.nth ws j:=by
 rw [nth_eq (by simpa using h),nth_eq h,List.getElem_set]
theorem Ziz {ws:List Int} {j:Nat} (h:ws.length≤j):Go.Gm.nth ws j=0:=by unfold Go.Gm.nth;rw [List.getD_eq_getElem?_getD,List.getElem?_eq_none h];rfl
theorem ZkW {x:Int} (h:0≤x∧x<18446744073709551616) (k:Nat) (hk:k<64):0≤(((x.toNat ^^^ 2 ^ k:Nat)):Int)∧(((x.toNat ^^^ 2 ^ k:Nat)):Int)<18446744073709551616:=by
 have h1:x.toNat<2 ^ 64:=by omega
 have h2:2 ^ k<2 ^ 64:=Nat.pow_lt_pow_right (by decide) hk
 have:=Nat.xor_lt_two_pow h1 h2
 omega
theorem Zcf.flip {n:Nat} {ws:List Int} (h:Zcf n ws) (j:Nat):Zcf n (Zh0 ws j):=by
 refine ⟨h.hi,by rw [Zh4];exact h.len,fun k=>?_⟩
 by_cases hk:k<ws.length
 · unfold Zh0
   rw [Zjo hk]
   split
   · exact ZkW (h.wd _) _ (Nat.mod_lt _ (by decide))
   · exact h.wd k
 · rw [Ziz (by rw [Zh4];omega)];omega
theorem Zcf.setW {n:Nat} {ws:List Int} (h:Zcf n ws) (i:Int) (on:Bool):Zcf n (setW n ws i on):=by
 unfold Go.Proofs.YtdpkkdigojkpaaaGreat.setW
 split
 · exact h.flip _
 · exact h
theorem ZmZ {x:Int} (h:0≤x∧x<18446744073709551616) (i:Int) (hi:0≤i∧i≤9223372036854775807):bits .xor .u64 x (IntKind.wrap .u64 (1*2 ^ min (IntKind.wrap .u64 (bits .and .i64 i 63)).toNat (IntKind.bits .u64)))=((x.toNat ^^^ 2 ^ (i.toNat % 64):Nat):Int):=by
 obtain ⟨X,rfl⟩:=Int.eq_ofNat_of_zero_le h.1
 obtain ⟨I,rfl⟩:=Int.eq_ofNat_of_zero_le hi.1
 rw [and63 _ hi,ZaQ (by omega:0≤((I:Int) % 64)∧(I:Int) % 64≤_),Int.toNat_natCast,Int.toNat_natCast]
 have e1:min ((I:Int) % 64).toNat (IntKind.bits .u64)=I % 64:=by simp only [IntKind.bits];omega
 have h2:2 ^ (I % 64)<2 ^ 64:=Nat.pow_lt_pow_right (by decide) (Nat.mod_lt _ (by decide))
 have e2:(1:Int)*2 ^ (I % 64)=((2 ^ (I % 64):Nat):Int):=by rw [Int.one_mul];norm_cast
 rw [e1,e2]
 generalize 2 ^ (I % 64)=q at h2 ⊢
 rw [ZaQ (by omega),xor64 X q (by omega) (by omega)]
theorem Zrs (m:Int):FnG Tryz.prog 237 1 [.int .i64 m] [.star []] (PV.ptr) (fun v=>[Zg3 v (rowN m) (ZfE m)]):=by
 refine FnG.mk Tryz.func237 rfl Tryz.ntmps237 rfl (by kernel_rfl) ?_
 intro B F0 a w F hB hG hS
 have hr:=Zq0 m
 refine wp_seq ?_
 refine Zb hS (qC qZ) hB [2,0] [1,0] rfl rfl fun a w F hS=>Za (wp_seq ?_)
 refine Zb hS (qM rfl rfl (qf (ZqA .t qi) r1 qz (qf (o_min .t qi) r1 qz (qN rfl rfl qZ)))) hB [2,0] [1,0] rfl rfl fun a w F hS=>?_
 rw [hr] at hS
 refine Za (wp_seq ?_)
 refine Zc hS (qM rfl rfl (qM rfl rfl (qp r1 (qf (ZfC .t qi (by decide)) r1 qz (qf (ZaI (R:=Zq8) (v:=0) (c:=(IntKind.wrap .i64 (((rowN m:Nat):Int)+63)).fdiv (2 ^ min (6:Int).toNat (IntKind.bits .i64))) (sz:=1) (bs:=8) (zs:=[.int .u64 0]) 101 Tryz.underlying329 (by kernel_rfl) (by kernel_rfl) (by kernel_rfl) ZnG .t .t (by rw [ZnT];exact Int.natCast_nonneg _) (by have:=ZgX m;rw [ZnT];omega) (by have:=ZgX m;rw [ZnT];omega)) r2 qz (qf (oB [(0,.tmp 6),(1,.tmp 10)] [.int .i64 0,.slice none 0 0] [(0,1),(1,1)] (.one rfl .t one_int (by kernel_rfl) (.same rfl (by kernel_rfl) .nil))) r2 qz (qf (oX 102 .t) r1 qz (qN rfl rfl qZ)))))))) hB [2] [102,101,1,0] (fun _=>rfl) (fun _=>rfl) fun τ a w F hS=>?_
 try dsimp only [RS.sub,SF.sub,CF.sub,csub,Anc.sub,List.map,Zf,xL,xM,Nat.reduceAdd,xD,xE,xT,xU,xC,xN,zCF] at hS
 generalize τ 12=v12 at hS
 generalize τ 10=v10 at hS
 rw [ZnT,Int.toNat_natCast] at hS
 refine Za (wp_ret ?_)
 obtain ⟨b,rfl⟩:=hS.shape 102 rfl
 obtain ⟨F,hS⟩:=hS.push 1 101 rfl rfl rfl (by kernel_rfl)
 obtain ⟨F,hS⟩:=hS.push 1 102 rfl rfl rfl (by kernel_rfl)
 have hS:=hS.turn 1 rfl (r':=RS.hp (Zg3 (.pointer (some ⟨b,0,none⟩)) (rowN m) (ZfE m))) (fun _ _ _ _ h=>⟨_,Zjs m,h⟩)
 refine Z2 (h':=fun v=>Zg3 v (rowN m) (ZfE m)) hG hS rfl (.tmp rfl .nil) (.one .ptr) rfl
theorem Zr9 (b n:Nat) (ws:List Int) (i:Int) (on:Bool):FnG Tryz.prog 304 1 [.is (.pointer (some ⟨b,0,none⟩)),.int .i64 i,.bool on] [Zg3 (.pointer (some ⟨b,0,none⟩)) n ws] (.bool (setB n ws i on)) (fun _=>[Zg3 (.pointer (some ⟨b,0,none⟩)) n (setW n ws i on)]):=by
 refine FnG.mk Tryz.func304 rfl Tryz.ntmps304 rfl (by kernel_rfl) ?_
 intro B F0 a w F hB hG hS
 obtain ⟨wv,hS⟩:=hS.open_ex 1 rfl
 obtain ⟨hI,hS⟩:=hS.open_and 1 rfl
 obtain ⟨F,hS⟩:=hS.peel 1 2 rfl rfl
 obtain ⟨F,hS⟩:=hS.peel 1 3 rfl rfl
 obtain ⟨F,hS⟩:=hS.nm [2,1,0] [3,2,0] rfl rfl
 refine wp_seq ?_
 refine Zb hS qB hB [6,2,1,0] [3,2,0] rfl rfl fun a w F hS=>Za (wp_seq (wp_seq ?_))
 refine Zb hS (qM rfl rfl (qM rfl rfl (qf (Zp7 (cells:=[.pv _,.pv _]) 2 (Zlk n _ i) (fun _ _ _ _ _ h=>h) rfl Tryz.func307 rfl (by kernel_rfl) (Zay.two .is .t)) r2 r1 (qf (o_not .t) r1 qz (qM rfl rfl (qm rfl rfl rfl rfl (qm rfl rfl rfl rfl (qk rfl (fun h=>ZgO (cells:=[.pv _,.pv (.is wv)]) 2 3 1 (Zpr n ws hI i) (fun _ _ _ _ _ h=>h) rfl Tryz.func283 rfl (by kernel_rfl) rfl rfl (Zay.two (.w h .is) (.w h))) r3 r2 (qm rfl rfl rfl rfl (qk rfl (fun h=>Zrf Tryz.underlying4 (.w h) (.w h)) r3 qz (qf (Zbc .t .t) r2 qz qZ))))))))))) hB [17,6,1,0] [3,2,0] rfl rfl fun a w F hS=>Za ?_
 refine Zd hS rfl (fun hc0=>?_) (fun hc0=>?_)
 ·skip
  have hs:setB n ws i on=false:=by unfold setB;revert hc0;cases (decide (0≤i) && decide (i<n)) <;> cases hasW n ws i <;> cases on <;> simp
  have hg:setW n ws i on=ws:=by unfold setW;rw [hs];rfl
  refine wp_seq ?_
  refine Zb hS qB hB [6,1,0] [3,2,0] rfl rfl fun a w F hS=>Za (wp_ret (Zi ?_))
  have hS:=hS.fresh 1 rfl
  obtain ⟨F,hS⟩:=hS.push 1 3 rfl rfl rfl (by kernel_rfl)
  obtain ⟨F,hS⟩:=hS.push 1 2 rfl rfl rfl (by kernel_rfl)
  have hS:=hS.turn 1 rfl (r':=RS.hp (Zg3 (.pointer (some ⟨b,0,none⟩)) n (setW n ws i on))) (fun _ _ _ _ h=>⟨_,(hI.setW i on),(by rw [hg];exact h)⟩)
  refine Zas hG hS rfl (.tmp rfl .nil) (.one (.bool hs.symm)) rfl
 have hs:setB n ws i on=true:=by unfold setB;revert hc0;cases (decide (0≤i) && decide (i<n)) <;> cases hasW n ws i <;> cases on <;> simp
 have hg:setW n ws i on=Zh0 ws i.toNat:=by unfold setW;rw [hs];rfl
 have hb:0≤i∧i<n:=by
   have hs':=hs
   simp only [setB,Bool.and_eq_true,decide_eq_true_eq] at hs'
   exact hs'.1
 have hhi:=hI.hi
 have hq:=hI.at i hb.1 hb.2
 rw [← shr6] at hq
 have hq2:(i.fdiv (2 ^ min (6:Int).toNat (IntKind.bits .i64))).toNat<ws.length:=by omega
 refine wp_skip (Za (wp_seq ?_))
 refine Zb hS (qM rfl rfl (qf (o_nilCheck 2 .is (by rfl)) r1 r1 (qf (oF 1 2 .adr) r1 r1 (qa 2 r1 r1 (qM rfl rfl (qf (ZfC .t qi (by decide)) r1 qz (qf (o_indexAddr_row (sz:=1) 3 (.mk Tryz.underlying329 (by kernel_rfl)) .is .t hq.1 hq.2 (by rfl)) r2 r1 (qf (Zz (ag:=false) (sz':=1) (sz:=1) 3 .t (by intro x;rfl) hq2 (by kernel_rfl) (by kernel_rfl) (by kernel_rfl)) r1 r1 (qM rfl rfl (qf (o_and .t qi) r1 qz (qf (o_conv Tryz.underlying174 (by kernel_rfl) .t) r1 qz (qf (o_shl qi .t (u64_nonneg _)) r1 qz (qf (o_xor .t .t) r2 qz (qf (o_indexAddr_row (sz:=1) 3 (.mk Tryz.underlying329 (by kernel_rfl)) .is .t hq.1 hq.2 (by rfl)) r2 r1 (qf (ZZ (R:=Zq8) (sz:=1) (v:=_) 3 .t (by intro x;rfl) hq2 .t rfl one_int (by kernel_rfl)) r2 r1 qZ))))))))))))))) hB [6] [3,2,0] rfl rfl fun a w F hS=>?_
 rw [ZmZ (hI.wd _) i (by omega),shr6,Int.toNat_ediv_64 hb.1] at hS
 refine Za (wp_seq ?_)
 refine Zb hS qB hB [6] [3,2,0] rfl rfl fun a w F hS=>Za (wp_ret ?_)
 have hS:=hS.fresh 1 rfl
 obtain ⟨F,hS⟩:=hS.push 1 3 rfl rfl rfl (by kernel_rfl)
 obtain ⟨F,hS⟩:=hS.push 1 2 rfl rfl rfl (by kernel_rfl)
 have hS:=hS.turn 1 rfl (r':=RS.hp (Zg3 (.pointer (some ⟨b,0,none⟩)) n (setW n ws i on))) (fun _ _ _ _ h=>⟨_,(hI.setW i on),(by rw [hg];exact h)⟩)
 refine Zas hG hS rfl (.tmp rfl .nil) (.one (.bool hs.symm)) rfl
def ofW (m:Int) (l:List Int):List Int:=l.foldl (fun ws i=>setW (rowN m) ws i true) (ZfE m)
def places (n:Nat) (ws:List Int):List Int:=((List.range n).filter fun j=>bitAt ws j).map fun j:Nat=>(j:Int)
def ZrF (n:Nat) (ws:List Int):Prop:=∀ j,n≤j→bitAt ws j=false
def Up (n:Nat) (x:List Int):Prop:=x.Pairwise (· < ·) ∧ ∀ i ∈ x,0≤i∧i<n
structure ZaJ (n:Nat) (ws:List Int) (x:List Int):Prop where
 ok:Zcf n ws
 clean:ZrF n ws
 up:Up n x
 mem:∀ j:Nat,bitAt ws j=true ↔ (j:Int) ∈ x
theorem Zpn:∀ {x y:List Int},x.Pairwise (· < ·)→y.Pairwise (· < ·)→(∀ i,i ∈ x ↔ i ∈ y)→x=y
 | [],[],_,_,_=>rfl
 | [],b :: y,_,_,h=>by have:=(h b).2 (by simp);simp at this
 | a :: x,[],_,_,h=>by have:=(h a).1 (by simp);simp at this
 | a :: x,b :: y,hx,hy,h=>by
   rw [List.pairwise_cons] at hx hy
   have e:a=b:=by
     have h1:=(h a).1 (by simp)
     have h2:=(h b).2 (by simp)
     rcases List.mem_cons.1 h1 with h1 | h1
     · exact h1
     · rcases List.mem_cons.1 h2 with h2 | h2
       · exact h2.symm
       · have:=hy.1 a h1
         have:=hx.1 b h2
         omega
   subst e
   rw [Zpn hx.2 hy.2 fun i=>?_]
   constructor
   · intro hi
     have:=(h i).1 (List.mem_cons_of_mem _ hi)
     rcases List.mem_cons.1 this with e | h'
     · subst e;have:=hx.1 _ hi;omega
     · exact h'
   · intro hi
     have:=(h i).2 (List.mem_cons_of_mem _ hi)
     rcases List.mem_cons.1 this with e | h'
     · subst e;have:=hy.1 _ hi;omega
     · exact h'
theorem ZaJ.mk' {n:Nat} {ws x:List Int} (hok:Zcf n ws) (hc:ZrF n ws) (hu:Up n x) (h:∀ j:Nat,j<n→(bitAt ws j=true ↔ (j:Int) ∈ x)):ZaJ n ws x:=by
 refine ⟨hok,hc,hu,fun j=>?_⟩
 by_cases hj:j<n
 · exact h j hj
 · rw [hc j (by omega)]
   constructor
   · intro h;cases h
   · intro hm;have:=hu.2 _ hm;omega
theorem ZaJ.uniq {n:Nat} {ws x y:List Int} (h:ZaJ n ws x) (k:ZaJ n ws y):x=y:=
 Zpn h.up.1 k.up.1 fun i=>by
   constructor
   · intro hi
     have h1:=h.up.2 i hi
     have:=(k.mem i.toNat).1 ((h.mem i.toNat).2 (by rw [Int.toNat_of_nonneg h1.1];exact hi))
     rwa [Int.toNat_of_nonneg h1.1] at this
   · intro hi
     have h1:=k.up.2 i hi
     have:=(h.mem i.toNat).1 ((k.mem i.toNat).2 (by rw [Int.toNat_of_nonneg h1.1];exact hi))
     rwa [Int.toNat_of_nonneg h1.1] at this
theorem ZoA {n:Nat} {ws us:List Int} (h:Zcf n ws) (k:Zcf n us) (hb:∀ j,bitAt ws j=bitAt us j):ws=us:=by
 apply List.ext_getElem (by rw [h.len,k.len])
 intro i h1 h2
 have e1:=h.wd i
 have e2:=k.wd i
 rw [nth_eq h1] at e1
 rw [nth_eq h2] at e2
 have key:ws[i].toNat=us[i].toNat:=by
   apply Nat.eq_of_testBit_eq
   intro t
   by_cases ht:t<64
   · have:=hb (i*64+t)
     unfold bitAt at this
     rw [show (i*64+t) / 64=i by omega,show (i*64+t) % 64=t by omega,nth_eq h1,nth_eq h2] at this
     exact this
   · rw [Nat.testBit_lt_two_pow (Nat.lt_of_lt_of_le (by omega:ws[i].toNat<2 ^ 64) (Nat.pow_le_pow_right (by decide) (by omega))),Nat.testBit_lt_two_pow (Nat.lt_of_lt_of_le (by omega:us[i].toNat<2 ^ 64) (Nat.pow_le_pow_right (by decide) (by omega)))]
 omega
theorem ZaJ.words {n:Nat} {ws us x:List Int} (h:ZaJ n ws x) (k:ZaJ n us x):ws=us:=
 ZoA h.ok k.ok fun j=>by
   have h1:=h.mem j
   have h2:=k.mem j
   rw [← h2] at h1
   cases e1:bitAt ws j <;> cases e2:bitAt us j <;> simp_all
theorem ZaJ.in {n:Nat} {ws x:List Int} (h:ZaJ n ws x) (i:Int):hasW n ws i=decide (i ∈ x):=by
 unfold hasW
 by_cases hb:0≤i∧i<n
 · have:=h.mem i.toNat
   rw [Int.toNat_of_nonneg hb.1] at this
   rw [show (decide (0≤i) && decide (i<(n:Int)))=true by simp [hb],Bool.true_and]
   by_cases hm:i ∈ x
   · rw [decide_eq_true hm,this.2 hm]
   · rw [decide_eq_false hm]
     cases e:bitAt ws i.toNat
     · rfl
     · exact absurd (this.1 e) hm
 · rw [ZbV hb,Bool.false_and,eq_comm,decide_eq_false_iff_not]
   intro hm
   exact hb (h.up.2 i hm)
theorem ZaJ.zero (m:Int):ZaJ (rowN m) (ZfE m) []:=by
 have hz:∀ j,bitAt (ZfE m) j=false:=fun j=>by unfold bitAt ZfE;rw [Zmr];simp
 exact ⟨Zjs m,fun j _=>hz j,⟨List.Pairwise.nil,by simp⟩,fun j=>by simp [hz j]⟩
def Znt (i:Int):List Int→Bool→List Int
 | [],d=>if d then [] else [i]
 | x :: l,d=>(if d=false∧i≤x then [i] else [])++(if x=i then [] else [x])++Znt i l (d || decide (i≤x))
def putL (l:List Int) (n i:Int) (on:Bool):List Int:=Znt i l (!on || decide (i<0) || decide (n≤i))
theorem Zc8 (i j:Int):∀ (l:List Int) (d:Bool),j ∈ Znt i l d ↔ (j≠i∧j ∈ l)∨(j=i∧d=false)
 | [],d=>by cases d <;> simp [Znt]
 | x :: l,d=>by
   rw [Znt,List.mem_append,List.mem_append,Zc8 i j l]
   by_cases h1:i≤x <;> cases d <;> by_cases h2:x=i <;> by_cases h3:j=i <;> simp_all
   all_goals (try omega)
theorem ZiB (i:Int):∀ (l:List Int) (d:Bool),l.Pairwise (· < ·)→(Znt i l d).Pairwise (· < ·)
 | [],d,_=>by cases d <;> simp [Znt]
 | x :: l,d,h=>by
   rw [List.pairwise_cons] at h
   have ih:=ZiB i l (d || decide (i≤x)) h.2
   rw [Znt]
   by_cases h1:i≤x
   · have hm:∀ j,j ∈ Znt i l (d || decide (i≤x))→x<j∧j≠i:=by
       intro j hj
       rw [Zc8] at hj
       rcases hj with hj | hj
       · exact ⟨h.1 j hj.2,hj.1⟩
       · simp [h1] at hj
     generalize (d || decide (i≤x))=d' at hm ih ⊢
     cases d <;> by_cases h2:x=i
     · subst h2
       simp only [Int.le_refl,and_self,if_true,List.nil_append,List.append_nil,List.singleton_append,List.pairwise_cons]
       exact ⟨fun j hj=>(hm j hj).1,ih⟩
     · simp only [h1,and_self,if_true,h2,if_false,List.singleton_append,List.cons_append,List.nil_append,List.pairwise_cons,List.mem_cons]
       refine ⟨?_,fun j hj=>(hm j hj).1,ih⟩
       rintro j (rfl | hj)
       · omega
       · have:=hm j hj;omega
     · simp only [h2,if_true,List.append_nil,Bool.true_eq_false,false_and,if_false,List.nil_append]
       subst h2;exact ih
     · simp only [h2,if_false,Bool.true_eq_false,false_and,List.nil_append,List.singleton_append,List.pairwise_cons]
       exact ⟨fun j hj=>(hm j hj).1,ih⟩
   · have hm:∀ j,j ∈ Znt i l (d || decide (i≤x))→x<j:=by
       intro j hj
       rw [Zc8] at hj
       rcases hj with hj | hj
       · exact h.1 j hj.2
       · omega
     generalize (d || decide (i≤x))=d' at hm ih ⊢
     have h2:¬ x=i:=by omega
     simp only [h1,and_false,if_false,h2,List.nil_append,List.singleton_append,List.pairwise_cons]
     exact ⟨hm,ih⟩
theorem Zi3 {l:List Int} {n i j:Int} {on:Bool} : j ∈ putL l n i on ↔ (j≠i∧j ∈ l)∨(j=i∧on=true∧0≤i∧i<n):=by
 unfold putL
 rw [Zc8]
 cases on <;> simp <;> omega
theorem ZqB {n:Nat} {l:List Int} (h:Up n l) (i:Int) (on:Bool):Up n (putL l n i on):=by
 refine ⟨ZiB _ _ _ h.1,fun j hj=>?_⟩
 rw [Zi3] at hj
 rcases hj with hj | hj
 · exact h.2 j hj.2
 · omega
theorem ZgC {n:Nat} {ws:List Int} (hI:Zcf n ws) (i:Int) (on:Bool) (j:Nat):bitAt (setW n ws i on) j=if 0≤i∧i<n∧i=j then on else bitAt ws j:=by
 unfold setW setB hasW
 by_cases hb:0≤i∧i<n
 · rw [show (decide (0≤i) && decide (i<(n:Int)))=true by simp [hb],Bool.true_and,Bool.true_and]
   have hq:=hI.at i hb.1 hb.2
   have flip:∀ j,bitAt (Zh0 ws i.toNat) j=if i=j then !bitAt ws j else bitAt ws j:=by
     intro j
     unfold bitAt Zh0
     by_cases hj:j / 64<ws.length
     · rw [Zjo hj]
       by_cases he:i.toNat / 64=j / 64
       · rw [if_pos he,Int.toNat_natCast,Nat.testBit_xor,Nat.testBit_two_pow,he]
         by_cases e2:i=j
         · subst e2;simp
         · rw [if_neg e2,show decide (i.toNat % 64=j % 64)=false by simp;omega,Bool.xor_false]
       · rw [if_neg he,if_neg (fun e=>he (by omega))]
     · rw [Ziz (by rw [List.length_set];omega),Ziz (by omega),if_neg (fun e=>hj (by omega))]
   by_cases h1:(bitAt ws i.toNat != on)=true
   · rw [if_pos h1,flip j]
     by_cases e:i=j
     · rw [if_pos e,if_pos ⟨hb.1,hb.2,e⟩]
       subst e
       rw [Int.toNat_natCast] at h1
       cases hx:bitAt ws j <;> rw [hx] at h1 <;> cases on <;> simp_all
     · rw [if_neg e,if_neg (fun h=>e h.2.2)]
   · rw [if_neg h1]
     by_cases e:i=j
     · rw [if_pos ⟨hb.1,hb.2,e⟩]
       subst e
       rw [Int.toNat_natCast] at h1
       cases hx:bitAt ws j <;> rw [hx] at h1 <;> cases on <;> simp_all
     · rw [if_neg (fun h=>e h.2.2)]
 · rw [ZbV hb,Bool.false_and,if_neg (by simp),if_neg (fun h=>hb ⟨h.1,h.2.1⟩)]
theorem ZaJ.set {n:Nat} {ws x:List Int} (h:ZaJ n ws x) (i:Int) (on:Bool):ZaJ n (setW n ws i on) (putL x n i on):=by
 refine ZaJ.mk' (h.ok.setW i on) (fun j hj=>?_) (ZqB h.up i on) (fun j hj=>?_)
 · rw [ZgC h.ok,if_neg (by omega),h.clean j hj]
 · rw [ZgC h.ok,Zi3]
   have:=h.mem j
   by_cases e:0≤i∧i<n∧i=j
   · rw [if_pos e]
     constructor
     · intro ho;exact .inr ⟨e.2.2.symm,ho,e.1,e.2.1⟩
     · rintro (⟨h1,_⟩ | ⟨_,h2,_⟩)
       · exact absurd e.2.2.symm h1
       · exact h2
   · rw [if_neg e,this]
     constructor
     · intro hm
       refine .inl ⟨fun e'=>e ?_,hm⟩
       omega
     · rintro (⟨_,h2⟩ | ⟨h1,_,h3,h4⟩)
       · exact h2
       · exact absurd ⟨h3,h4,h1.symm⟩ e
theorem ZaJ.setB {n:Nat} {ws x:List Int} (h:ZaJ n ws x) (i:Int) (on:Bool):setB n ws i on = !decide (x=putL x n i on):=by
 have k:=h.set i on
 by_cases e:x=putL x n i on
 · rw [decide_eq_true e]
   have k':ZaJ n (setW n ws i on) x:=by rw [e];rw [← e];rw [← e] at k;exact k
   have hw:=h.words k'
   unfold Go.Proofs.YtdpkkdigojkpaaaGreat.setB
   by_cases hb:0≤i∧i<n
   · have hb2:=ZgC h.ok i on i.toNat
     rw [← hw,if_pos ⟨hb.1,hb.2,by omega⟩] at hb2
     unfold hasW
     rw [show (decide (0≤i) && decide (i<(n:Int)))=true by simp [hb],hb2]
     simp
   · rw [ZbV hb];rfl
 · rw [decide_eq_false e]
   cases hs:Go.Proofs.YtdpkkdigojkpaaaGreat.setB n ws i on with
   | true=>rfl
   | false=>
     have:setW n ws i on=ws:=by unfold setW;rw [hs];rfl
     rw [this] at k
     exact absurd (h.uniq k) e
def ofL (m:Int) (l:List Int):List Int:=l.foldl (fun x i=>putL x (rowN m) i true) []
theorem ZaJ.of (m:Int) (l:List Int):ZaJ (rowN m) (ofW m l) (ofL m l):=by
 unfold ofW ofL
 have:∀ (l:List Int) (ws x:List Int),ZaJ (rowN m) ws x→ZaJ (rowN m) (l.foldl (fun ws i=>setW (rowN m) ws i true) ws) (l.foldl (fun x i=>putL x (rowN m) i true) x):=by
   intro l
   induction l with
   | nil=>intro ws x h;exact h
   | cons i l ih=>intro ws x h;exact ih _ _ (h.set i true)
 exact this l _ _ (ZaJ.zero m)
end Go.Proofs.YtdpkkdigojkpaaaGreat
