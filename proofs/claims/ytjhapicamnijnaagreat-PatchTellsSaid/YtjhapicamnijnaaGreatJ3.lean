/- Texts put together. No condition beyond those that each theorem says. -/
import Derived.Test.YtjhapicamnijnaaGreatJ2
import Derived.Test.YtjhapicamnijnaaGreatJ1
import Derived.Test.YtjhapicamnijnaaGreatLibG
namespace Go.Proofs.YtjhapicamnijnaaGreat
open Go Go.Gm
set_option linter.unusedVariables false
set_option linter.unusedSimpArgs false
set_option maxHeartbeats 4000000
set_option maxRecDepth 8000
theorem ZoJ (l:List Int) (v:Int):FnP Tryz.prog 153 [.sl rInt l,.int .i64 v] (.bool (decide (v ∈ l))):=by
 refine FnP.mk Tryz.func153 rfl Tryz.ntmps153 rfl ?_
 intro B a w F hB hfr hS
 have hll:=Sat.lenSl hS (i:=0) rfl
 refine wp_seq ?_
 refine Zb hS qB hB [4,1,0] [0] rfl rfl fun a w F hS=>Za (wp_seq (wp_seq ?_))
 refine Zb hS (qM rfl rfl (qu Tryz.underlying41 r1 (qJ qZ))) hB [9,8,7,4,1] [0] rfl rfl fun a w F hS=>Za (wp_block ?_)
 refine Zl (σ:=(Nat)) [1,4,7,8] [0] (fun s=>[(9,.pv (.int .i64 (s:Int)))]) (fun s=>[]) (fun s=>s≤l.length∧(∀ k,k<s→Go.Gm.nth l k≠v)) (fun s=>l.length - s) (0) hS ⟨rfl,rfl,rfl,rfl,rfl,trivial⟩ ⟨rfl,trivial⟩ ⟨Nat.zero_le _,fun k hk=>absurd hk (Nat.not_lt_zero k)⟩ ?_
 clear hS;intro i a w F hC hS
 try dsimp only at hC
 obtain ⟨F,hS⟩:=hS.nm [9,8,7,4,1] [0] rfl rfl
 try dsimp only at hS
 obtain ⟨hi,hq⟩:=hC
 refine wp_seq ?_
 refine Zb hS (qL r2) hB [10,9,8,7,4,1] [0] rfl rfl fun a w F hS=>Za (wp_seq ?_)
 refine Zd hS rfl (fun hc0=>?_) (fun hc0=>?_)
 ·skip
  have hil:i<l.length:=by simp at hc0;omega
  refine wp_skip (Za (wp_seq (wp_block (wp_seq ?_))))
  refine Zb hS (qy 1 Tryz.underlying41 r2 (qf (oR false 1 .t) r1 qz (qN rfl rfl qZ))) hB [9,8,7,6,4,1] [0] rfl rfl fun a w F hS=>?_
  try simp only [Int.toNat_natCast] at hS
  refine Za (wp_seq ?_)
  refine Zb hS (qM rfl rfl (qM rfl rfl (qf (o_eql .t .t) r2 qz qZ))) hB [15,9,8,7,4,1] [0] rfl rfl fun a w F hS=>Za ?_
  refine Zd hS rfl (fun hc1=>?_) (fun hc1=>?_)
  ·skip
   have hg:true=decide (v ∈ l):=(decide_eq_true (by simp at hc1;rw [← hc1];exact ZM hil)).symm
   refine wp_seq ?_
   refine Zb hS qB hB [9,8,7,4,1] [0] rfl rfl fun a w F hS=>Za (wp_ret (Zm (Zg (Zg (Zm (Zg ?_))))))
   refine Zr hfr hS rfl rfl rfl (.bool hg)
  have hne:Go.Gm.nth l i≠v:=by simp at hc1;omega
  refine wp_skip (Zi (Za ?_))
  refine Zb hS (qp r1 (qM rfl rfl qZ)) hB [9,8,7,4,1] [0] rfl rfl fun a w F hS=>Za ?_
  replace hS:=hS.ent (i:=9) (s':=.pv (.int .i64 ((i+1:Nat):Int))) rfl (.int (Ze (by omega)))
  obtain ⟨F,hS⟩:=hS.nm [8,7,4,1,9] [0] rfl rfl
  exact ⟨(i+1),F,⟨by omega,(fun k hk=>by rcases Nat.lt_or_eq_of_le (Nat.le_of_lt_succ hk) with h | h;exact hq k h;rw [h];exact hne)⟩,hS,by omega⟩
 have hil:i=l.length:=by simp at hc0;omega
 have hg:false=decide (v ∈ l):=by
   rw [eq_comm,decide_eq_false_iff_not]
   intro hv
   obtain ⟨k,hk,e⟩:=List.getElem_of_mem hv
   exact hq k (by simp at hc0;omega) (by rw [Zz hk];exact e)
 refine wp_exit (Zk (Zk (Zq (Za (wp_seq ?_)))))
 refine Zb hS qB hB [4] [0] rfl rfl fun a w F hS=>Za (wp_ret ?_)
 refine Zr hfr hS rfl rfl rfl (.bool hg)
theorem Zoa (x:Int):FnP Tryz.prog 146 [.int .i64 x] (.bool (decide (1≤x∧x≤1048575))):=by
 refine FnP.mk Tryz.func146 rfl Tryz.ntmps146 rfl ?_
 intro B a w F hB hfr hS
 refine wp_seq ?_
 refine Zb hS qB hB [2,0] [0] rfl rfl fun a w F hS=>Za (wp_seq ?_)
 refine Zb hS (qM rfl rfl (qf (ZbF .t qi) r1 qz (qM rfl rfl (qm rfl rfl rfl rfl (qk rfl (fun h=>Zlq (.w h) qi) r2 qz (qf (Zy .t .t) r2 qz (qN rfl rfl qZ))))))) hB [2] [0] rfl rfl fun a w F hS=>Za (wp_ret ?_)
 refine Zr hfr hS rfl rfl rfl (.bool (by simp))
theorem Zm7 (l:List Int) (tx:Int) (hl:l.length≤1000000):FnP Tryz.prog 177 [.sl rInt l,.int .i64 tx] (.sl rInt (withO l tx)):=by
 refine FnP.mk Tryz.func177 rfl Tryz.ntmps177 rfl ?_
 intro B a w F hB hfr hS
 have hll:=Sat.lenSl hS (i:=0) rfl
 refine wp_seq ?_
 refine Zb hS (qC qZ) hB [4,1,0] [0] rfl rfl fun a w F hS=>Za (wp_seq ?_)
 replace hS:=hS.fresh 101 rfl
 refine Zc hS (qM rfl rfl (qf (ZaM 101 (ZcC l hl) Tryz.func82 rfl (by kernel_rfl) (Args.one .t) ZaF) r1 r1 (qN rfl rfl qZ))) hB [5,4,1,0] [101,0] (fun _=>rfl) (fun _=>rfl) fun τ a w F hS=>?_
 try dsimp only [RS.sub,SF.sub,CF.sub,csub,Anc.sub,List.map,rInt] at hS
 generalize τ 7=v7 at hS
 refine Za (wp_seq (wp_seq ?_))
 refine Zb hS (qM rfl rfl (qM rfl rfl (qf (oP (ZjS l tx) Tryz.func209 (Args.two .t .t)) r2 qz qZ))) hB [10,5,4,1] [101,0] rfl rfl fun a w F hS=>Za ?_
 refine Zd hS rfl (fun hc0=>?_) (fun hc0=>?_)
 ·skip
  have hm:tx ∈ l:=by simpa using hc0
  have hg:l=withO l tx:=(if_pos hm).symm
  refine wp_seq ?_
  refine Zb hS (qM rfl rfl (qN rfl rfl qZ)) hB [5,4,1] [101,0] rfl rfl fun a w F hS=>Za (wp_ret (Zg ?_))
  obtain ⟨F,hS⟩:=hS.give 101 4 rfl rfl
  refine Zr hfr hS rfl rfl rfl (.sl hg)
 have hm:¬ tx ∈ l:=by simpa using hc0
 have hg:l ++ [tx] = withO l tx:=(if_neg hm).symm
 refine wp_skip (Za (wp_seq ?_))
 refine Zc hS (qM rfl rfl (qM rfl rfl (qf (Zh (sz:=1) (zs:=[.int .i64 0]) (r:=[(0,.tmp 13)]) (l:=[_]) Tryz.underlying41 (by kernel_rfl) (by kernel_rfl) (by kernel_rfl) (by kernel_rfl) rfl rfl (.one rfl .t one_int (by kernel_rfl) .nil) rfl) r1 qz (qf (o_append (sz:=1) (bs:=8) 101 (.mk' Tryz.underlying41 (by kernel_rfl) (by kernel_rfl)) (by intro x;rfl) .is (.arr (l':=[_]) .t) (by simp only [List.length_append,List.length_cons,List.length_nil,List.length_take,List.length_drop];omega) (by decide)) ⟨rfl,rfl,trivial⟩ ⟨rfl,trivial⟩ (qN rfl rfl qZ))))) hB [4] [101,0] (fun _=>rfl) (fun _=>rfl) fun τ a w F hS=>?_
 try dsimp only [RS.sub,SF.sub,CF.sub,csub,Anc.sub,List.map,Zf,xL,xM,Nat.reduceAdd,xD,xE,xT,xU,xC,xN,zCF,rInt] at hS
 generalize τ 15=v15 at hS
 refine Za (wp_ret ?_)
 obtain ⟨F,hS⟩:=hS.give 101 4 rfl rfl
 refine Zr hfr hS rfl rfl rfl (.sl hg)
theorem Zl6 (l:List Int) (tx:Int) (hl:l.length≤1000000):FnP Tryz.prog 184 [.sl rInt l,.int .i64 tx] (.sl rInt (withO l tx)):=by
 refine FnP.mk Tryz.func184 rfl Tryz.ntmps184 rfl ?_
 intro B a w F hB hfr hS
 have hll:=Sat.lenSl hS (i:=0) rfl
 refine wp_seq ?_
 refine Zb hS (qC qZ) hB [4,1,0] [0] rfl rfl fun a w F hS=>Za (wp_seq ?_)
 refine Zc hS (qf (ZaB (R:=rInt) (sz:=1) 101 Tryz.underlying41 (by kernel_rfl)) trivial qz (qM rfl rfl (qf (o_append (sz:=1) (bs:=8) 101 (.mk' Tryz.underlying41 (by kernel_rfl) (by kernel_rfl)) (by intro x;rfl) .same (.sl .t) (by simp only [List.length_append,List.length_cons,List.length_nil,List.length_take,List.length_drop];omega) (by decide)) ⟨rfl,rfl,trivial⟩ ⟨rfl,trivial⟩ (qN rfl rfl qZ)))) hB [5,4,1,0] [101,0] (fun _=>rfl) (fun _=>rfl) fun τ a w F hS=>?_
 try dsimp only [RS.sub,SF.sub,CF.sub,csub,Anc.sub,List.map,Zf,xL,xM,Nat.reduceAdd,xD,xE,xT,xU,xC,xN,zCF,rInt] at hS
 generalize τ 8=v8 at hS
 refine Za (wp_seq (wp_seq ?_))
 refine Zb hS (qM rfl rfl (qM rfl rfl (qf (oP (ZoJ l tx) Tryz.func153 (Args.two .t .t)) r2 qz (qf (o_not .t) r1 qz qZ)))) hB [12,5,4,1] [101,0] rfl rfl fun a w F hS=>Za ?_
 refine Zd hS rfl (fun hc0=>?_) (fun hc0=>?_)
 ·skip
  have hm:¬ tx ∈ l:=by simpa using hc0
  have hg:[] ++ l ++ [tx] = withO l tx:=(if_neg hm).symm
  refine Zc hS (qM rfl rfl (qM rfl rfl (qf (Zh (sz:=1) (zs:=[.int .i64 0]) (r:=[(0,.tmp 14)]) (l:=[_]) Tryz.underlying41 (by kernel_rfl) (by kernel_rfl) (by kernel_rfl) (by kernel_rfl) rfl rfl (.one rfl .t one_int (by kernel_rfl) .nil) rfl) r1 qz (qf (o_append (sz:=1) (bs:=8) 101 (.mk' Tryz.underlying41 (by kernel_rfl) (by kernel_rfl)) (by intro x;rfl) .is (.arr (l':=[_]) .t) (by simp only [List.length_append,List.length_cons,List.length_nil,List.length_take,List.length_drop];omega) (by decide)) ⟨rfl,rfl,trivial⟩ ⟨rfl,trivial⟩ (qN rfl rfl qZ))))) hB [5,4] [101,0] (fun _=>rfl) (fun _=>rfl) fun τ a w F hS=>?_
  try dsimp only [RS.sub,SF.sub,CF.sub,csub,Anc.sub,List.map,Zf,xL,xM,Nat.reduceAdd,xD,xE,xT,xU,xC,xN,zCF,rInt] at hS
  generalize τ 16=v16 at hS
  refine Za (wp_seq ?_)
  refine Zb hS (qM rfl rfl (qN rfl rfl qZ)) hB [4] [101,0] rfl rfl fun a w F hS=>Za (wp_ret ?_)
  obtain ⟨F,hS⟩:=hS.give 101 4 rfl rfl
  refine Zr hfr hS rfl rfl rfl (.sl hg)
 have hm:tx ∈ l:=by simpa using hc0
 have hg:[] ++ l=withO l tx:=(if_pos hm).symm
 refine wp_skip (Za (wp_seq ?_))
 refine Zb hS (qM rfl rfl (qN rfl rfl qZ)) hB [4] [101,0] rfl rfl fun a w F hS=>Za (wp_ret ?_)
 obtain ⟨F,hS⟩:=hS.give 101 4 rfl rfl
 refine Zr hfr hS rfl rfl rfl (.sl hg)
theorem Zj6 (x tx:Int):FnP Tryz.prog 211 [.int .i64 x,.ref [.int .i64 tx]] (.bool (decide (x=tx))):=by
 refine FnP.mk Tryz.func211 rfl Tryz.ntmps211 rfl ?_
 intro B a w F hB hfr hS
 refine wp_seq ?_
 refine Zb hS qB hB [3,1,0] [0] rfl rfl fun a w F hS=>Za (wp_seq ?_)
 refine Zb hS (qM rfl rfl (qf (oR false 1 .t) r1 qz (qf (o_eql .t .t) r2 qz (qN rfl rfl qZ)))) hB [3] [0] rfl rfl fun a w F hS=>Za (wp_ret ?_)
 refine Zr hfr hS rfl rfl rfl .refl
theorem ZjT (l:List Int) (tx:Int) (hl:l.length≤1000000):FnP Tryz.prog 178 [.sl rInt l,.int .i64 tx] (.sl rInt (withoutO l tx)):=by
 refine FnP.mk Tryz.func178 rfl Tryz.ntmps178 rfl ?_
 intro B a w F hB hfr hS
 have hll:=Sat.lenSl hS (i:=0) rfl
 refine wp_seq ?_
 refine Zc hS (qf (ZiT 101 .t one_int) r1 qz (qC qZ)) hB [4,3,0] [101,0] (fun _=>rfl) (fun _=>rfl) fun τ a w F hS=>?_
 try dsimp only [RS.sub,SF.sub,CF.sub,csub,Anc.sub,List.map,zCF,rInt] at hS
 generalize τ 3=v3 at hS
 obtain ⟨F,hS⟩:=hS.giveRef 101 3 rfl rfl rfl
 obtain ⟨F,hS⟩:=hS.nm [4,3,0] [0] rfl rfl
 try dsimp only [Go.Gm.unCF] at hS
 refine Za (wp_seq ?_)
 replace hS:=hS.fresh 102 rfl
 refine ZcU hS (by kernel_rfl) (nM rfl rfl (nf (ZaM 102 (ZcC l hl) Tryz.func82 rfl (by kernel_rfl) (Args.one .t) ZaF) r1 r1 (nn [6,4,3] [102,0] rfl rfl (nf (ZbK (Args.one .t)) r1 trivial (nf (Zjl 6 102 (fun v=>Zm3 _ l hl (fun x=>decide (x=tx)) 211 Tryz.f211 [.ref [.int .i64 tx]] Tryz.func211 rfl (by kernel_rfl) (fun x=>Zj6 x tx)) Tryz.func210 rfl (by kernel_rfl) (ZgF.two .same (.of .t)) ZaF) r2 r1 (nn [8,4] [102,0] rfl rfl (nN rfl rfl ZW.nil))))))) (by kernel_rfl) (by rw [hB];kernel_rfl) fun a w F hS=>?_
 replace hS:=hS.sub
 obtain ⟨F,hS⟩:=hS.nm [4] [102,0] rfl rfl
 try dsimp only [RS.sub,SF.sub,CF.sub,csub,Anc.sub,List.map,rInt] at hS
 generalize Act.tau a 8=v8 at hS
 refine Za (wp_ret ?_)
 obtain ⟨F,hS⟩:=hS.give 102 4 rfl rfl
 refine Zr hfr hS rfl rfl rfl (.sl (by simp [withoutO]))
theorem Zij (l:List Int) (tx:Int) (hl:l.length≤1000000):FnP Tryz.prog 185 [.sl rInt l,.int .i64 tx] (.sl rInt (withoutO l tx)):=by
 refine FnP.mk Tryz.func185 rfl Tryz.ntmps185 rfl ?_
 intro B a w F hB hfr hS
 have hll:=Sat.lenSl hS (i:=0) rfl
 refine wp_seq ?_
 refine Zb hS (qC qZ) hB [4,1,0] [0] rfl rfl fun a w F hS=>Za (wp_seq ?_)
 refine Zb hS (qC qZ) hB [5,4,1,0] [0] rfl rfl fun a w F hS=>Za (wp_seq (wp_seq ?_))
 refine Zb hS (qM rfl rfl (qu Tryz.underlying41 r1 (qJ qZ))) hB [10,9,8,5,4,1] [0] rfl rfl fun a w F hS=>Za (wp_block ?_)
 replace hS:=hS.fresh 50 rfl
 replace hS:=hS.turn 50 rfl (Zaf (T:=3) (sz:=1) (R:=rInt))
 refine Zl (σ:=(Nat)×(Value)×(List Int)) [1,4,8,9] [0] (fun s=>[(10,.pv (.int .i64 (s.1:Int))),(5,.pv (.is s.2.1))]) (fun s=>[(50,.ob (.val s.2.1) (Zw 3 1 rInt s.2.2))]) (fun s=>s.1≤l.length∧(s.2.2=withoutO (l.take s.1) tx)) (fun s=>l.length - s.1) ((0),(.slice none 0 0),([])) hS ⟨rfl,rfl,rfl,rfl,rfl,rfl,trivial⟩ ⟨rfl,rfl,trivial⟩ ⟨Nat.zero_le _,rfl⟩ ?_
 clear hS;intro s a w F hC hS
 obtain ⟨i,v,out⟩:=s
 try dsimp only at hC
 obtain ⟨F,hS⟩:=hS.nm [10,9,8,5,4,1] [50,0] rfl rfl
 try dsimp only at hS
 obtain ⟨hi,hq⟩:=hC
 have hol:out.length≤i:=by rw [hq];exact Nat.le_trans (List.length_filter_le _ _) (by rw [List.length_take];omega)
 refine wp_seq ?_
 refine Zb hS (qL r2) hB [11,10,9,8,5,4,1] [50,0] rfl rfl fun a w F hS=>Za (wp_seq ?_)
 refine Zd hS rfl (fun hc0=>?_) (fun hc0=>?_)
 ·skip
  have hil:i<l.length:=by simp at hc0;omega
  refine wp_skip (Za (wp_seq (wp_block (wp_seq ?_))))
  refine Zb hS (qy 1 Tryz.underlying41 r2 (qf (oR false 1 .t) r1 qz (qN rfl rfl qZ))) hB [10,9,8,7,5,4,1] [50,0] rfl rfl fun a w F hS=>?_
  try simp only [Int.toNat_natCast] at hS
  refine Za (wp_seq ?_)
  refine Zb hS (qM rfl rfl (qM rfl rfl (qf (o_neq .t .t) r2 qz qZ))) hB [16,10,9,8,7,5,4,1] [50,0] rfl rfl fun a w F hS=>Za ?_
  refine Zd hS rfl (fun hc1=>?_) (fun hc1=>?_)
  ·skip
   have hBq:Go.Gm.nth l i≠tx:=by simpa using hc1
   refine Zc hS (qM rfl rfl (qM rfl rfl (qf (Zh (sz:=1) (zs:=[.int .i64 0]) (r:=[(0,.tmp 18)]) (l:=[_]) Tryz.underlying41 (by kernel_rfl) (by kernel_rfl) (by kernel_rfl) (by kernel_rfl) rfl rfl (.one rfl .t one_int (by kernel_rfl) .nil) rfl) r1 qz (qf (o_append (sz:=1) (bs:=8) 50 (.mk' Tryz.underlying41 (by kernel_rfl) (by kernel_rfl)) (by intro x;rfl) .is (.arr (l':=[_]) .t) (by simp only [List.length_append,List.length_cons,List.length_nil,List.length_take,List.length_drop];omega) (by decide)) ⟨rfl,rfl,trivial⟩ ⟨rfl,trivial⟩ (qN rfl rfl qZ))))) hB [10,9,8,5,4,1] [50,0] (fun _=>rfl) (fun _=>rfl) fun τ a w F hS=>?_
   try dsimp only [RS.sub,SF.sub,CF.sub,csub,Anc.sub,List.map,Zf,xL,xM,Nat.reduceAdd,xD,xE,xT,xU,xC,xN,zCF,rInt] at hS
   generalize τ 20=v20 at hS
   refine Zi (Za ?_)
   refine Zb hS (qp r1 (qM rfl rfl qZ)) hB [10,9,8,5,4,1] [50,0] rfl rfl fun a w F hS=>Za ?_
   replace hS:=hS.ent (i:=10) (s':=.pv (.int .i64 ((i+1:Nat):Int))) rfl (.int (Ze (by omega)))
   obtain ⟨F,hS⟩:=hS.nm [9,8,4,1,5,10] [0,50] rfl rfl
   exact ⟨((i+1),_,_),F,⟨by omega,(by unfold withoutO at hq ⊢;rw [Zt hil,List.filter_append,← hq];simp [hBq])⟩,hS,by omega⟩
  have hBq:Go.Gm.nth l i=tx:=by simpa using hc1
  refine wp_skip (Zi (Za ?_))
  refine Zb hS (qp r1 (qM rfl rfl qZ)) hB [10,9,8,5,4,1] [50,0] rfl rfl fun a w F hS=>Za ?_
  replace hS:=hS.ent (i:=10) (s':=.pv (.int .i64 ((i+1:Nat):Int))) rfl (.int (Ze (by omega)))
  obtain ⟨F,hS⟩:=hS.nm [9,8,4,1,5,10] [0,50] rfl rfl
  exact ⟨((i+1),_,_),F,⟨by omega,(by unfold withoutO at hq ⊢;rw [Zt hil,List.filter_append,← hq];simp [hBq])⟩,hS,by omega⟩
 have hil:i=l.length:=by simp at hc0;omega
 refine wp_exit (Zk (Zk (Zq (Za (wp_seq ?_)))))
 refine Zb hS (qM rfl rfl (qN rfl rfl qZ)) hB [4] [50,0] rfl rfl fun a w F hS=>Za (wp_ret ?_)
 obtain ⟨F,hS⟩:=hS.give 50 4 rfl rfl
 refine Zr hfr hS rfl rfl rfl (.sl (by rw [hq,hil,List.take_length]))
theorem Zhp (l:List Int):FnP Tryz.prog 94 [.sl rInt l] (.bool (decide (Zal l))):=by
 refine FnP.mk Tryz.func94 rfl Tryz.ntmps94 rfl ?_
 intro B a w F hB hfr hS
 have hll:=Sat.lenSl hS (i:=0) rfl
 refine wp_seq ?_
 refine Zb hS qB hB [2,0] [0] rfl rfl fun a w F hS=>Za (wp_seq (wp_seq ?_))
 refine Zb hS (qM rfl rfl (qu Tryz.underlying41 r1 (qJ qZ))) hB [7,6,5,2,0] [0] rfl rfl fun a w F hS=>Za (wp_block ?_)
 refine Zl (σ:=(Nat)) [0,2,5,6] [0] (fun s=>[(7,.pv (.int .i64 (s:Int)))]) (fun s=>[]) (fun s=>s≤l.length∧(Zal (l.take s))) (fun s=>l.length - s) (0) hS ⟨rfl,rfl,rfl,rfl,rfl,trivial⟩ ⟨rfl,trivial⟩ ⟨Nat.zero_le _,⟨by simp,by simp⟩⟩ ?_
 clear hS;intro i a w F hC hS
 try dsimp only at hC
 obtain ⟨F,hS⟩:=hS.nm [7,6,5,2,0] [0] rfl rfl
 try dsimp only at hS
 obtain ⟨hi,hq⟩:=hC
 have htk:∀ hil:i<l.length,l.take (i+1)=l.take i ++ [Go.Gm.nth l i]:=fun hil=>Zt hil
 refine wp_seq ?_
 refine Zb hS (qL r2) hB [8,7,6,5,2,0] [0] rfl rfl fun a w F hS=>Za (wp_seq ?_)
 refine Zd hS rfl (fun hc0=>?_) (fun hc0=>?_)
 ·skip
  have hil:i<l.length:=by simp at hc0;omega
  refine wp_skip (Za (wp_seq (wp_block (wp_seq ?_))))
  refine Zb hS (qM rfl rfl (qy 1 Tryz.underlying41 r2 (qf (oR false 1 .t) r1 qz (qN rfl rfl (qN rfl rfl qZ))))) hB [7,6,5,4,3,2,0] [0] rfl rfl fun a w F hS=>?_
  try simp only [Int.toNat_natCast] at hS
  refine Za (wp_seq ?_)
  refine Zb hS (qM rfl rfl (qf (oP (Zoa (Go.Gm.nth l i)) Tryz.func146 (Args.one .t)) r1 qz (qf (o_not .t) r1 qz (qM rfl rfl (qm rfl rfl rfl rfl (qm rfl rfl rfl rfl (qk rfl (fun h=>ZcL (sz:=1) (.mk Tryz.underlying41 (by kernel_rfl)) (by intro x;rfl) (.w h) (.w h) (by omega) (by omega)) r3 qz (qm rfl rfl rfl rfl (qk rfl (fun h=>oP (ZoJ _ (Go.Gm.nth l i)) Tryz.func153 (Args.two (.w h) (.w h))) r3 qz (qf (ZaI .t .t) r2 qz qZ)))))))))) hB [21,7,6,5,2,0] [0] rfl rfl fun a w F hS=>Za ?_
  refine Zd hS rfl (fun hc1=>?_) (fun hc1=>?_)
  ·skip
   have hg:false=decide (Zal l):=(decide_eq_false fun hr=>by have h2:=hr.take (i+1);rw [htk hil] at h2;have h3:=Zal.snoc.1 h2;have h4:=h3.2.1;have h5:=h3.2.2;simp at hc1 h5;rcases hc1 with h6 | h6;omega;exact h5 h6).symm
   refine wp_seq ?_
   refine Zb hS qB hB [7,6,5,2,0] [0] rfl rfl fun a w F hS=>Za (wp_ret (Zm (Zg (Zg (Zm (Zg ?_))))))
   refine Zr hfr hS rfl rfl rfl (.bool hg)
  have hid:1≤Go.Gm.nth l i∧Go.Gm.nth l i≤1048575:=by simp at hc1;exact hc1.1
  have hni:Go.Gm.nth l i ∉ l.take i:=by simp at hc1;first | exact hc1.2 | (have:=hc1.2;simpa using this)
  refine wp_skip (Zi (Za ?_))
  refine Zb hS (qp r1 (qM rfl rfl qZ)) hB [7,6,5,2,0] [0] rfl rfl fun a w F hS=>Za ?_
  replace hS:=hS.ent (i:=7) (s':=.pv (.int .i64 ((i+1:Nat):Int))) rfl (.int (Ze (by omega)))
  obtain ⟨F,hS⟩:=hS.nm [6,5,2,0,7] [0] rfl rfl
  exact ⟨(i+1),F,⟨by omega,(by rw [htk hil];exact Zal.snoc.2 ⟨hq,hid,hni⟩)⟩,hS,by omega⟩
 have hil:i=l.length:=by simp at hc0;omega
 have hg:true=decide (Zal l):=(decide_eq_true (by rw [hil,List.take_length] at hq;exact hq)).symm
 refine wp_exit (Zk (Zk (Zq (Za (wp_seq ?_)))))
 refine Zb hS qB hB [2] [0] rfl rfl fun a w F hS=>Za (wp_ret ?_)
 refine Zr hfr hS rfl rfl rfl (.bool hg)
theorem Zg9 (l:List Int) (v:Int):FnP Tryz.prog 152 [.sl rInt l,.int .i64 v] (.int .i64 ((l.count v:Nat):Int)):=by
 refine FnP.mk Tryz.func152 rfl Tryz.ntmps152 rfl ?_
 intro B a w F hB hfr hS
 have hll:=Sat.lenSl hS (i:=0) rfl
 refine wp_seq ?_
 refine Zb hS (qI qZ) hB [4,1,0] [0] rfl rfl fun a w F hS=>Za (wp_seq ?_)
 refine Zb hS (qI qZ) hB [5,4,1,0] [0] rfl rfl fun a w F hS=>Za (wp_seq (wp_seq ?_))
 refine Zb hS (qM rfl rfl (qu Tryz.underlying41 r1 (qJ qZ))) hB [10,9,8,5,4,1] [0] rfl rfl fun a w F hS=>Za (wp_block ?_)
 refine Zl (σ:=(Nat)) [1,4,8,9] [0] (fun s=>[(10,.pv (.int .i64 (s:Int))),(5,.pv (.int .i64 (((l.take s).count v:Nat):Int)))]) (fun s=>[]) (fun s=>s≤l.length∧(True)) (fun s=>l.length - s) (0) hS ⟨rfl,rfl,rfl,rfl,rfl,rfl,trivial⟩ ⟨rfl,trivial⟩ ⟨Nat.zero_le _,trivial⟩ ?_
 clear hS;intro i a w F hC hS
 try dsimp only at hC
 obtain ⟨F,hS⟩:=hS.nm [10,9,8,5,4,1] [0] rfl rfl
 try dsimp only at hS
 obtain ⟨hi,hq⟩:=hC
 refine wp_seq ?_
 refine Zb hS (qL r2) hB [11,10,9,8,5,4,1] [0] rfl rfl fun a w F hS=>Za (wp_seq ?_)
 refine Zd hS rfl (fun hc0=>?_) (fun hc0=>?_)
 ·skip
  have hil:i<l.length:=by simp at hc0;omega
  refine wp_skip (Za (wp_seq (wp_block (wp_seq ?_))))
  refine Zb hS (qy 1 Tryz.underlying41 r2 (qf (oR false 1 .t) r1 qz (qN rfl rfl qZ))) hB [10,9,8,7,5,4,1] [0] rfl rfl fun a w F hS=>?_
  try simp only [Int.toNat_natCast] at hS
  refine Za (wp_seq ?_)
  refine Zb hS (qM rfl rfl (qM rfl rfl (qf (o_eql .t .t) r2 qz qZ))) hB [16,10,9,8,5,4,1] [0] rfl rfl fun a w F hS=>Za ?_
  refine Zd hS rfl (fun hc1=>?_) (fun hc1=>?_)
  ·skip
   have hcl:(l.take i).count v≤(l.take i).length:=List.count_le_length
   have hcl2:(l.take i).length≤i:=by rw [List.length_take];omega
   have hcc:IntKind.wrap .i64 ((((l.take i).count v:Nat):Int)+1)=(((l.take (i+1)).count v:Nat):Int):=by
     have e:v=Go.Gm.nth l i:=by simpa using hc1
     rw [ZP (by omega),Zt hil,List.count_append,← e];simp
   refine Zb hS (qM rfl rfl (qp r1 (qN rfl rfl qZ))) hB [10,9,8,5,4,1] [0] rfl rfl fun a w F hS=>Zi (Za ?_)
   refine Zb hS (qp r1 (qM rfl rfl qZ)) hB [10,9,8,5,4,1] [0] rfl rfl fun a w F hS=>Za ?_
   replace hS:=hS.ent (i:=10) (s':=.pv (.int .i64 ((i+1:Nat):Int))) rfl (.int (Ze (by omega)))
   replace hS:=hS.ent (i:=5) (s':=.pv (.int .i64 (((l.take (i+1)).count v:Nat):Int))) rfl (.int hcc)
   obtain ⟨F,hS⟩:=hS.nm [9,8,4,1,5,10] [0] rfl rfl
   exact ⟨(i+1),F,⟨by omega,trivial⟩,hS,by omega⟩
  have hcc:(((l.take i).count v:Nat):Int)=(((l.take (i+1)).count v:Nat):Int):=by
    have e:¬ v=Go.Gm.nth l i:=by simpa using hc1
    have e2:¬ Go.Gm.nth l i=v:=fun h=>e h.symm
    rw [Zt hil,List.count_append,List.count_singleton];simp [e2]
  refine wp_skip (Zi (Za ?_))
  refine Zb hS (qp r1 (qM rfl rfl qZ)) hB [10,9,8,5,4,1] [0] rfl rfl fun a w F hS=>Za ?_
  replace hS:=hS.ent (i:=10) (s':=.pv (.int .i64 ((i+1:Nat):Int))) rfl (.int (Ze (by omega)))
  replace hS:=hS.ent (i:=5) (s':=.pv (.int .i64 (((l.take (i+1)).count v:Nat):Int))) rfl (.int hcc)
  obtain ⟨F,hS⟩:=hS.nm [9,8,4,1,5,10] [0] rfl rfl
  exact ⟨(i+1),F,⟨by omega,trivial⟩,hS,by omega⟩
 have hil:i=l.length:=by simp at hc0;omega
 refine wp_exit (Zk (Zk (Zq (Za (wp_seq ?_)))))
 refine Zb hS (qM rfl rfl (qN rfl rfl qZ)) hB [4] [0] rfl rfl fun a w F hS=>Za (wp_ret ?_)
 refine Zr hfr hS rfl rfl rfl (.int (by rw [hil,List.take_length]))
theorem ZgA (x y:List Int):FnP Tryz.prog 89 [.sl rInt x,.sl rInt y] (.bool (decide (x.Perm y))):=by
 refine FnP.mk Tryz.func89 rfl Tryz.ntmps89 rfl ?_
 intro B a w F hB hfr hS
 have hxl:=Sat.lenSl hS (i:=0) rfl
 have hyl:=Sat.lenSl hS (i:=1) rfl
 refine wp_seq ?_
 refine Zb hS qB hB [4,1,0] [0] rfl rfl fun a w F hS=>Za (wp_seq (wp_seq ?_))
 refine Zb hS (qM rfl rfl (qu Tryz.underlying41 r1 (qM rfl rfl (qu Tryz.underlying41 r1 (qf (o_neq .t .t) r2 qz qZ))))) hB [11,4,1,0] [0] rfl rfl fun a w F hS=>Za ?_
 refine Zd hS rfl (fun hc0=>?_) (fun hc0=>?_)
 ·skip
  have hg:false=decide (x.Perm y):=(decide_eq_false fun hp=>by have:=hp.length_eq;simp at hc0;omega).symm
  refine wp_seq ?_
  refine Zb hS qB hB [4,1,0] [0] rfl rfl fun a w F hS=>Za (wp_ret (Zg ?_))
  refine Zr hfr hS rfl rfl rfl (.bool hg)
 have hxy:x.length=y.length:=by simp at hc0;omega
 refine wp_skip (Za (wp_seq (wp_seq ?_)))
 refine Zb hS (qM rfl rfl (qu Tryz.underlying41 r1 (qJ qZ))) hB [14,13,12,4,1,0] [0] rfl rfl fun a w F hS=>Za (wp_block ?_)
 refine Zl (σ:=(Nat)) [0,1,4,12,13] [0] (fun s=>[(14,.pv (.int .i64 (s:Int)))]) (fun s=>[]) (fun s=>s≤x.length∧(∀ k,k<s→x.count (Go.Gm.nth x k)=y.count (Go.Gm.nth x k))) (fun s=>x.length - s) (0) hS ⟨rfl,rfl,rfl,rfl,rfl,rfl,trivial⟩ ⟨rfl,trivial⟩ ⟨Nat.zero_le _,fun k hk=>absurd hk (Nat.not_lt_zero k)⟩ ?_
 clear hS;intro i a w F hC hS
 try dsimp only at hC
 obtain ⟨F,hS⟩:=hS.nm [14,13,12,4,1,0] [0] rfl rfl
 try dsimp only at hS
 obtain ⟨hi,hq⟩:=hC
 refine wp_seq ?_
 refine Zb hS (qL r2) hB [15,14,13,12,4,1,0] [0] rfl rfl fun a w F hS=>Za (wp_seq ?_)
 refine Zd hS rfl (fun hc1=>?_) (fun hc1=>?_)
 ·skip
  have hil:i<x.length:=by simp at hc1;omega
  refine wp_skip (Za (wp_seq (wp_block (wp_seq ?_))))
  refine Zb hS (qy 1 Tryz.underlying41 r2 (qf (oR false 1 .t) r1 qz (qN rfl rfl qZ))) hB [14,13,12,6,4,1,0] [0] rfl rfl fun a w F hS=>?_
  try simp only [Int.toNat_natCast] at hS
  refine Za (wp_seq ?_)
  refine Zb hS (qM rfl rfl (qM rfl rfl (qf (oP (Zg9 x (Go.Gm.nth x i)) Tryz.func152 (Args.two .t .t)) r2 qz (qM rfl rfl (qM rfl rfl (qf (oP (Zg9 y (Go.Gm.nth x i)) Tryz.func152 (Args.two .t .t)) r2 qz (qf (o_neq .t .t) r2 qz qZ))))))) hB [24,14,13,12,4,1,0] [0] rfl rfl fun a w F hS=>Za ?_
  refine Zd hS rfl (fun hc2=>?_) (fun hc2=>?_)
  ·skip
   have hg:false=decide (x.Perm y):=(decide_eq_false fun hp=>by have:=hp.count_eq (Go.Gm.nth x i);simp at hc2;omega).symm
   refine wp_seq ?_
   refine Zb hS qB hB [14,13,12,4,1,0] [0] rfl rfl fun a w F hS=>Za (wp_ret (Zm (Zg (Zg (Zm (Zg ?_))))))
   refine Zr hfr hS rfl rfl rfl (.bool hg)
  have hne:x.count (Go.Gm.nth x i)=y.count (Go.Gm.nth x i):=by simp at hc2;omega
  refine wp_skip (Zi (Za ?_))
  refine Zb hS (qp r1 (qM rfl rfl qZ)) hB [14,13,12,4,1,0] [0] rfl rfl fun a w F hS=>Za ?_
  replace hS:=hS.ent (i:=14) (s':=.pv (.int .i64 ((i+1:Nat):Int))) rfl (.int (Ze (by omega)))
  obtain ⟨F,hS⟩:=hS.nm [13,12,4,1,0,14] [0] rfl rfl
  exact ⟨(i+1),F,⟨by omega,(fun k hk=>by rcases Nat.lt_or_eq_of_le (Nat.le_of_lt_succ hk) with h | h;exact hq k h;rw [h];exact hne)⟩,hS,by omega⟩
 have hil:i=x.length:=by simp at hc1;omega
 have hg:true=decide (x.Perm y):=(decide_eq_true (Zid.1 ⟨hxy,fun v hv=>by obtain ⟨k,hk,rfl⟩:=List.getElem_of_mem hv;rw [← Zz hk];exact hq k (by simp at hc1;omega)⟩)).symm
 refine wp_exit (Zk (Zk (Zq (Za (wp_seq ?_)))))
 refine Zb hS qB hB [4] [0] rfl rfl fun a w F hS=>Za (wp_ret ?_)
 refine Zr hfr hS rfl rfl rfl (.bool hg)
theorem ZhA {α:Type} [Inhabited α] {p:α→Bool} {l:List α} : decide (0≤Z5 p l)=l.any p:=by
 rcases Zam p l with ⟨h1,h2⟩ | ⟨i,h1,h2,h3,h4⟩
 · rw [h1,eq_comm,show decide ((0:Int) ≤ -1)=false by decide,List.any_eq_false]
   intro x hx
   obtain ⟨k,hk,e⟩:=List.getElem_of_mem hx
   have:=h2 k hk
   rw [Zz hk,e] at this
   simp [this]
 · rw [h1,show decide ((0:Int)≤(i:Int))=true by simp,eq_comm,List.any_eq_true]
   exact ⟨_,ZM h2,h3⟩
theorem ZmZ {α:Type} {p:α→Bool} {l:List α} : (!l.any fun v=>!p v)=l.all p:=by
 induction l with
 | nil=>rfl
 | cons x l ih=>rw [List.any_cons,List.all_cons,← ih];cases p x <;> simp
theorem Znu (l : List Zbz) (p : Zbz → Bool) (f : FuncId) (fn : Func) (cps : List PV) (hf : Tryz.prog.funcs[f]? = some fn) (hb : fn.body.isSome = true) (hnn : (fn.name == "runtime.NumGoroutine") = false) (hw : ∀ x, FnP Tryz.prog f (.agg (Zv x) :: cps) (.bool (p x))) : FnP Tryz.prog 160 [.sl Zv l, .clos f cps] (.int .i64 (Z5 p l)) := by
 refine FnP.mk Tryz.func160 rfl Tryz.ntmps160 rfl ?_
 intro B a w F hB hfr hS
 have hll:=Sat.lenSl hS (i:=0) rfl
 refine wp_seq ?_
 refine Zb hS (qI qZ) hB [4,1,0] [0] rfl rfl fun a w F hS=>Za (wp_seq (wp_seq ?_))
 refine Zb hS (qM rfl rfl (qu Tryz.underlying126 r1 (qJ qZ))) hB [8,7,4,1,0] [0] rfl rfl fun a w F hS=>Za (wp_block ?_)
 refine Zl (σ:=(Nat)) [0,1,4,7] [0] (fun s=>[(8,.pv (.int .i64 (s:Int)))]) (fun s=>[]) (fun s=>s≤l.length∧(∀ k,k<s→p (Go.Gm.nth l k)=false)) (fun s=>l.length - s) (0) hS ⟨rfl,rfl,rfl,rfl,rfl,trivial⟩ ⟨rfl,trivial⟩ ⟨Nat.zero_le _,fun k hk=>absurd hk (Nat.not_lt_zero k)⟩ ?_
 clear hS;intro i a w F hC hS
 try dsimp only at hC
 obtain ⟨F,hS⟩:=hS.nm [8,7,4,1,0] [0] rfl rfl
 try dsimp only at hS
 obtain ⟨hi,hq⟩:=hC
 refine wp_seq ?_
 refine Zb hS (qL r2) hB [9,8,7,4,1,0] [0] rfl rfl fun a w F hS=>Za (wp_seq ?_)
 refine Zd hS rfl (fun hc0=>?_) (fun hc0=>?_)
 ·skip
  have hil:i<l.length:=by simp at hc0;omega
  refine wp_skip (Za (wp_seq (wp_block (wp_seq ?_))))
  refine Zb hS (qM rfl rfl (qN rfl rfl qZ)) hB [8,7,5,4,1,0] [0] rfl rfl fun a w F hS=>Za (wp_seq ?_)
  refine Zb hS (qM rfl rfl (qM rfl rfl (qM rfl rfl (qy 3 Tryz.underlying126 r2 (qf (oR true 3 .t) r1 qz (qf (Z2 (avs:=[.agg (Zv (Go.Gm.nth l i))]) .t (hw (Go.Gm.nth l i)) hf hb hnn (Args.one (.pagg .t))) r2 qz qZ)))))) hB [16,8,7,5,4,1,0] [0] rfl rfl fun a w F hS=>?_
  try simp only [Int.toNat_natCast] at hS
  refine Za ?_
  refine Zd hS rfl (fun hc1=>?_) (fun hc1=>?_)
  ·skip
   have hg:(i:Int)=Z5 p l:=(Zcv hil hc1 hq).symm
   refine wp_seq ?_
   refine Zb hS (qM rfl rfl (qN rfl rfl qZ)) hB [8,7,4,1,0] [0] rfl rfl fun a w F hS=>Za (wp_ret (Zm (Zg (Zg (Zm (Zg ?_))))))
   refine Zr hfr hS rfl rfl rfl (.int hg)
  have hne:p (Go.Gm.nth l i)=false:=hc1
  refine wp_skip (Zi (Za ?_))
  refine Zb hS (qp r1 (qM rfl rfl qZ)) hB [8,7,4,1,0] [0] rfl rfl fun a w F hS=>Za ?_
  replace hS:=hS.ent (i:=8) (s':=.pv (.int .i64 ((i+1:Nat):Int))) rfl (.int (Ze (by omega)))
  obtain ⟨F,hS⟩:=hS.nm [7,4,1,0,8] [0] rfl rfl
  exact ⟨(i+1),F,⟨by omega,(fun k hk=>by rcases Nat.lt_or_eq_of_le (Nat.le_of_lt_succ hk) with h | h;exact hq k h;rw [h];exact hne)⟩,hS,by omega⟩
 have hil:i=l.length:=by simp at hc0;omega
 have hg : -1=Z5 p l:=(Zbv fun k hk=>hq k (by simp at hc0;omega)).symm
 refine wp_exit (Zk (Zk (Zq (Za (wp_seq ?_)))))
 refine Zb hS (qI qZ) hB [4] [0] rfl rfl fun a w F hS=>Za (wp_ret ?_)
 refine Zr hfr hS rfl rfl rfl (.int hg)
theorem Zm9 (l : List Zbz) (p : Zbz → Bool) (f : FuncId) (fn : Func) (cps : List PV) (hf : Tryz.prog.funcs[f]? = some fn) (hb : fn.body.isSome = true) (hnn : (fn.name == "runtime.NumGoroutine") = false) (hw : ∀ x, FnP Tryz.prog f (.agg (Zv x) :: cps) (.bool (p x))) : FnP Tryz.prog 98 [.sl Zv l, .clos f cps] (.bool (l.any p)) := by
 refine FnP.mk Tryz.func98 rfl Tryz.ntmps98 rfl ?_
 intro B a w F hB hfr hS
 refine wp_seq ?_
 refine Zb hS qB hB [4,1,0] [0] rfl rfl fun a w F hS=>Za (wp_seq ?_)
 refine Zb hS (qM rfl rfl (qM rfl rfl (qf (oP (Znu l p f fn cps hf hb hnn hw) Tryz.func160 (Args.two .t .t)) r2 qz (qf (ZbF .t qi) r1 qz (qN rfl rfl qZ))))) hB [4] [0] rfl rfl fun a w F hS=>Za (wp_ret ?_)
 refine Zr hfr hS rfl rfl rfl (.bool (by rw [ZhA]))
theorem ZkG (v:Zbz) (g:Zn) (hs:Zai g.txs):FnP Tryz.prog 100 [.agg (Zv v),.ref (Zj g)] (.bool (!Zex g v)):=by
 refine FnP.mk Tryz.func100 rfl Tryz.ntmps100 rfl ?_
 intro B a w F hB hfr hS
 refine wp_seq ?_
 refine Zc hS (qx 101 r1 qB) hB [3,2,1] [101,0] (fun _=>rfl) (fun _=>rfl) fun τ a w F hS=>?_
 try dsimp only [RS.sub,SF.sub,CF.sub,csub,Anc.sub,List.map,zCF,Zj,rTx,Zs,Zv,rInt,rOp] at hS
 generalize τ 2=v2 at hS
 refine Za (wp_seq ?_)
 refine Zb hS (qf (oR true 2 .t) r1 qz (qe 3 101 r1 r1 (qf (oP (Zow g v hs) Tryz.func101 (Args.two (.pagg .t) (.pagg .t))) r2 qz (qf (o_not .t) r1 qz (qN rfl rfl qZ))))) hB [3] [101,0] rfl rfl fun a w F hS=>Za (wp_ret ?_)
 refine Zr hfr hS rfl rfl rfl .refl
theorem ZiS (g:Zn) (t:TxD) (hs:Zai g.txs) (ht:t.ops.length≤1000):FnP Tryz.prog 44 [.agg (Zj g),.agg (rTx t)] (.bool (Zax g t)):=by
 refine FnP.mk Tryz.func44 rfl Tryz.ntmps44 rfl ?_
 intro B a w F hB hfr hS
 refine wp_seq ?_
 refine Zc hS (qx 101 r1 (qx 102 r1 qB)) hB [4,3,2] [102,101,0] (fun _=>rfl) (fun _=>rfl) fun τ a w F hS=>?_
 try dsimp only [RS.sub,SF.sub,CF.sub,csub,Anc.sub,List.map,zCF,Zj,rTx,Zs,Zv,rInt,rOp] at hS
 generalize τ 2=v2 at hS
 generalize τ 3=v3 at hS
 refine Za (wp_seq ?_)
 refine ZbN 2 hS (by kernel_rfl) (cG rfl (oL true 3 102 .is) r1 r1 (cG rfl (oP (Zhg t (by omega)) Tryz.func99 (Args.one (.pagg .t))) r1 trivial ZW.nil)) (by kernel_rfl) (by rw [hB];kernel_rfl) fun a w F hS=>?_
 obtain ⟨F,hS⟩:=hS.nm [6,4,2] [102,101,0] rfl rfl
 try dsimp only [List.map,xD,xE,xT,xU,ldSF,Zj,rTx,Zs,Zv,rInt,rOp] at hS
 obtain ⟨F,hS⟩:=hS.giveRef 101 2 rfl rfl rfl
 obtain ⟨F,hS⟩:=hS.nm [6,4,2] [102,0] rfl rfl
 try dsimp only [Go.Gm.unCF] at hS
 refine Zb7 hS (by kernel_rfl) (cG rfl (ZbK (Args.one .t)) r1 trivial (cG rfl (oP (Zm9 (ZV t) (fun v=>!Zex g v) 100 Tryz.f100 [.ref (Zj g)] Tryz.func100 rfl (by kernel_rfl) (fun v=>ZkG v g hs)) Tryz.func98 (Args.two .t .t)) r2 trivial (cG rfl (o_not .t) r1 trivial (cG rfl (oN .t) r1 trivial ZW.nil)))) (by kernel_rfl) (by rw [hB];kernel_rfl) fun a w F hS=>?_
 obtain ⟨F,hS⟩:=hS.nm [4] [102,0] rfl rfl
 try dsimp only [Zj,rTx,Zs,Zv,rInt,rOp] at hS
 refine Za (wp_ret ?_)
 refine Zr hfr hS rfl rfl rfl (.bool (by rw [ZmZ];rfl))
theorem ZcZ (g:Zn) (t:TxD) (hs:Zai g.txs) (ht:t.ops.length≤1000):FnP Tryz.prog 87 [.agg (Zj g),.agg (rTx t)] (.bool (Zax g t)):=by
 refine FnP.mk Tryz.func87 rfl Tryz.ntmps87 rfl ?_
 intro B a w F hB hfr hS
 have hnl:(ZV t).length≤1000:=by have:=ZbR t.id t.ops t.ops.length;rw [List.take_length] at this;unfold ZV;omega
 refine wp_seq ?_
 refine Zc hS (qx 101 r1 (qx 102 r1 qB)) hB [4,3,2] [102,101,0] (fun _=>rfl) (fun _=>rfl) fun τ a w F hS=>?_
 try dsimp only [RS.sub,SF.sub,CF.sub,csub,Anc.sub,List.map,zCF,Zj,rTx,Zs,Zv,rInt,rOp] at hS
 generalize τ 2=v2 at hS
 generalize τ 3=v3 at hS
 refine Za (wp_seq (wp_seq ?_))
 refine Zb hS (qe 3 102 r1 r1 (qf (oP (ZfI t (by omega)) Tryz.func149 (Args.one (.pagg .t))) r1 qz (qu Tryz.underlying126 r1 (qJ qZ)))) hB [10,9,8,4,2] [102,101,0] rfl rfl fun a w F hS=>Za (wp_block ?_)
 refine Zl (σ:=(Nat)) [2,4,8,9] [0,101,102] (fun s=>[(10,.pv (.int .i64 (s:Int)))]) (fun s=>[]) (fun s=>s≤(ZV t).length∧(∀ k,k<s→Zex g (Go.Gm.nth (ZV t) k)=true)) (fun s=>(ZV t).length - s) (0) hS ⟨rfl,rfl,rfl,rfl,rfl,trivial⟩ ⟨rfl,rfl,rfl,trivial⟩ ⟨Nat.zero_le _,fun k hk=>absurd hk (Nat.not_lt_zero k)⟩ ?_
 clear hS;intro i a w F hC hS
 try dsimp only at hC
 obtain ⟨F,hS⟩:=hS.nm [10,9,8,4,2] [102,101,0] rfl rfl
 try dsimp only at hS
 obtain ⟨hi,hq⟩:=hC
 refine wp_seq ?_
 refine Zb hS (qL r2) hB [11,10,9,8,4,2] [102,101,0] rfl rfl fun a w F hS=>Za (wp_seq ?_)
 refine Zd hS rfl (fun hc0=>?_) (fun hc0=>?_)
 ·skip
  have hil:i<(ZV t).length:=by simp at hc0;omega
  refine wp_skip (Za (wp_seq (wp_block (wp_seq ?_))))
  refine Zc hS (qy 3 Tryz.underlying126 r2 (qf (oR true 3 .t) r1 qz (qf (oH [.int .i64 0,.int .i64 0,.int .i64 0] 103) trivial qz (qS 3 103 r2 r1 qZ)))) hB [10,9,8,6,4,2] [103,102,101,0] (fun _=>rfl) (fun _=>rfl) fun τ a w F hS=>?_
  try dsimp only [RS.sub,SF.sub,CF.sub,csub,Anc.sub,List.map,Zf,xL,xM,Nat.reduceAdd,xD,xE,xT,xU,xC,xN,zCF,ldSF,Zj,rTx,Zs,Zv,rInt,rOp] at hS
  generalize τ 6=v6 at hS
  try simp only [Int.toNat_natCast] at hS
  refine Za (wp_seq ?_)
  refine Zb hS (qe 2 101 r1 r1 (qe 3 103 r1 r1 (qf (oP (Zml g (Go.Gm.nth (ZV t) i) hs) Tryz.func150 (Args.two (.pagg .t) (.pagg .t))) r2 qz (qf (o_not .t) r1 qz qZ)))) hB [17,10,9,8,4,2] [103,102,101,0] rfl rfl fun a w F hS=>Za ?_
  refine Zd hS rfl (fun hc1=>?_) (fun hc1=>?_)
  ·skip
   have hg:false=Zax g t:=(ZgT hil (by simpa using hc1)).symm
   refine wp_seq ?_
   refine Zb hS qB hB [10,9,8,4,2] [103,102,101,0] rfl rfl fun a w F hS=>Za (wp_ret (Zm (Zg (Zg (Zm (Zg ?_))))))
   refine Zr hfr hS rfl rfl rfl (.bool hg)
  have hne:Zex g (Go.Gm.nth (ZV t) i)=true:=by simpa using hc1
  refine wp_skip (Zi (Za ?_))
  refine Zb hS (qp r1 (qM rfl rfl qZ)) hB [10,9,8,4,2] [103,102,101,0] rfl rfl fun a w F hS=>Za ?_
  replace hS:=hS.ent (i:=10) (s':=.pv (.int .i64 ((i+1:Nat):Int))) rfl (.int (Ze (by omega)))
  obtain ⟨F,hS⟩:=hS.nm [9,8,4,2,10] [102,101,0] rfl rfl
  exact ⟨(i+1),F,⟨by omega,(fun k hk=>by rcases Nat.lt_or_eq_of_le (Nat.le_of_lt_succ hk) with h9 | h9;exact hq k h9;rw [h9];exact hne)⟩,hS,by omega⟩
 have hil:i=(ZV t).length:=by simp at hc0;omega
 have hg:true=Zax g t:=(Zh5 (by rw [← hil];exact hq)).symm
 refine wp_exit (Zk (Zk (Zq (Za (wp_seq ?_)))))
 refine Zb hS qB hB [4] [102,101,0] rfl rfl fun a w F hS=>Za (wp_ret ?_)
 refine Zr hfr hS rfl rfl rfl (.bool hg)
def Zeg (os:List OrdD) (k:Int):List OrdD:=if isK OrdD.key k os=true then os else os.take (lowK OrdD.key k os) ++ [⟨k,[]⟩] ++ os.drop (lowK OrdD.key k os)
def ZhU (k:Int):List OrdD→List OrdD
 | []=>[⟨k,[]⟩]
 | o :: os=>if o.key<k then o :: ZhU k os else if o.key=k then o :: os else ⟨k,[]⟩ :: o :: os
theorem Zh9 {α:Type} {κ:α→Int} {k:Int} (l:List α):lowK κ k l≤l.length:=by
 unfold lowK
 exact (List.takeWhile_sublist _).length_le
theorem ZG {α:Type} [Inhabited α] {κ:α→Int} {l:List α} : Zcb κ l ↔ l.Pairwise fun a b=>κ a<κ b:=by
 rw [List.pairwise_iff_getElem]
 constructor
 · intro h i j hi hj hij
   have:=h i j hij hj
   rwa [Zz hi,Zz hj] at this
 · intro h a b hab hb
   rw [Zz (by omega),Zz hb]
   exact h a b (by omega) hb hab
theorem Zgk (k:Int):∀ {os:List OrdD},Zcb OrdD.key os→Zeg os k=ZhU k os
 | [],_=>rfl
 | o :: os,h=>by
   rw [ZG,List.pairwise_cons] at h
   have ih:=Zgk k (os:=os) (ZG.2 h.2)
   have e1:lowK OrdD.key k (o :: os)=if o.key<k then lowK OrdD.key k os+1 else 0:=by
     unfold lowK
     split
     · rename_i h1
       rw [List.takeWhile_cons_of_pos (by simpa using h1),List.length_cons]
     · rename_i h1
       rw [List.takeWhile_cons_of_neg (by simpa using h1)];rfl
   have e2:isK OrdD.key k (o :: os)=(decide (o.key=k) || isK OrdD.key k os):=by unfold isK;rw [List.any_cons]
   by_cases h1:o.key<k
   · rw [if_pos h1] at e1
     have e3:isK OrdD.key k (o :: os)=isK OrdD.key k os:=by rw [e2,decide_eq_false (by omega),Bool.false_or]
     unfold Zeg at ih ⊢
     unfold ZhU
     rw [if_pos h1,e3,e1]
     split
     · rename_i h2;rw [if_pos h2] at ih;exact congrArg (o :: ·) ih
     · rename_i h2;rw [if_neg h2] at ih;rw [← ih];simp
   · rw [if_neg h1] at e1
     unfold Zeg ZhU
     rw [if_neg h1,e1]
     by_cases h3:o.key=k
     · rw [if_pos h3,if_pos (by rw [e2,decide_eq_true h3,Bool.true_or])]
     · rw [if_neg h3,if_neg]
       · simp
       · rw [e2,decide_eq_false h3,Bool.false_or]
         unfold isK
         rw [List.any_eq_true]
         rintro ⟨x,hx,hk⟩
         have:=h.1 x hx
         simp at hk
         omega
theorem Ziz {k:Int} {o:OrdD} : ∀ {os:List OrdD},o ∈ ZhU k os→o ∈ os∨o = ⟨k,[]⟩
 | [],h=>by simp [ZhU] at h;exact .inr h
 | x :: os,h=>by
   unfold ZhU at h
   split at h
   · rcases List.mem_cons.1 h with h | h
     · exact .inl (by simp [h])
     · rcases Ziz h with h | h
       · exact .inl (by simp [h])
       · exact .inr h
   · split at h
     · exact .inl h
     · rcases List.mem_cons.1 h with h | h
       · exact .inr h
       · exact .inl h
theorem Zhw {k:Int} : ∀ {os:List OrdD},(os.Pairwise fun a b=>a.key<b.key)→(ZhU k os).Pairwise fun a b=>a.key<b.key
 | [],_=>by simp [ZhU]
 | x :: os,h=>by
   rw [List.pairwise_cons] at h
   unfold ZhU
   split
   · rename_i h1
     rw [List.pairwise_cons]
     refine ⟨fun o ho=>?_,Zhw h.2⟩
     rcases Ziz ho with h3 | h3
     · exact h.1 o h3
     · rw [h3];exact h1
   · split
     · rw [List.pairwise_cons];exact h
     · rw [List.pairwise_cons,List.pairwise_cons]
       refine ⟨fun o ho=>?_,h⟩
       rcases List.mem_cons.1 ho with h3 | h3
       · rw [h3];show k<x.key;omega
       · have:=h.1 o h3;show k<o.key;omega
theorem insK_rise {os:List OrdD} (k:Int) (h:Zcb OrdD.key os):Zcb OrdD.key (Zeg os k):=by
 rw [Zgk k h,ZG]
 exact Zhw (ZG.1 h)
theorem Ziy (os:List OrdD) (k:Int):(Zeg os k).length≤os.length+1:=by
 unfold Zeg
 split
 · omega
 · rw [List.length_append,List.length_append,List.length_take,List.length_drop];simp;omega
theorem ZiV {os:List OrdD} {k:Int} {o:OrdD} (h:o ∈ Zeg os k):o ∈ os∨o = ⟨k,[]⟩:=by
 unfold Zeg at h
 split at h
 · exact .inl h
 · rw [List.mem_append,List.mem_append] at h
   rcases h with (h | h) | h
   · exact .inl (List.mem_of_mem_take h)
   · exact .inr (by simpa using h)
   · exact .inl (List.mem_of_mem_drop h)
def ZcY (t:TxD) (os:List OrdD) (ks:List Int):List OrdD:=if t.done=true then ks.foldl Zeg os else os
theorem Zf0 {t:TxD} {os:List OrdD} (h:Zcb OrdD.key os) (hs:Za3 os) (ks:List Int):Zcb OrdD.key (ZcY t os ks)∧(ZcY t os ks).length≤os.length+ks.length ∧ ∀ o ∈ ZcY t os ks,o.txs.length≤1000:=by
 unfold ZcY
 split
 · have key:∀ (ks:List Int) (os:List OrdD),Zcb OrdD.key os→(∀ o ∈ os,o.txs.length≤1000)→Zcb OrdD.key (ks.foldl Zeg os)∧(ks.foldl Zeg os).length≤os.length+ks.length ∧ ∀ o ∈ ks.foldl Zeg os,o.txs.length≤1000:=by
     intro ks
     induction ks with
     | nil=>intro os h1 h2;exact ⟨h1,by simp,h2⟩
     | cons k ks ih=>
       intro os h1 h2
       obtain ⟨g1,g2,g3⟩:=ih (Zeg os k) (insK_rise k h1) (fun o ho=>by
         rcases ZiV ho with h | h
         · exact h2 o h
         · rw [h];simp)
       have:=Ziy os k
       exact ⟨g1,by rw [List.foldl_cons,List.length_cons];omega,g3⟩
   exact key ks os h hs.2
 · exact ⟨h,by omega,hs.2⟩
theorem Zlz {t:TxD} {os:List OrdD} {ks:List Int} {i:Nat} (hi:i<ks.length) (hc:t.done=true∧isK OrdD.key (Go.Gm.nth ks i) (ZcY t os (ks.take i))=false) :
   (ZcY t os (ks.take i)).take (lowK OrdD.key (Go.Gm.nth ks i) (ZcY t os (ks.take i))) ++ [⟨Go.Gm.nth ks i,[]⟩] ++ (ZcY t os (ks.take i)).drop (lowK OrdD.key (Go.Gm.nth ks i) (ZcY t os (ks.take i)))=ZcY t os (ks.take (i+1)):=by
 have e:ZcY t os (ks.take (i+1))=Zeg (ZcY t os (ks.take i)) (Go.Gm.nth ks i):=by
   unfold ZcY
   rw [if_pos hc.1,if_pos hc.1,Zt hi,List.foldl_append];rfl
 rw [e];unfold Zeg;rw [if_neg (by rw [hc.2];simp)]
theorem Zj9 {t:TxD} {os:List OrdD} {ks:List Int} {i:Nat} (hi:i<ks.length) (hc:¬ (t.done=true∧isK OrdD.key (Go.Gm.nth ks i) (ZcY t os (ks.take i))=false)):ZcY t os (ks.take i)=ZcY t os (ks.take (i+1)):=by
 unfold ZcY at hc ⊢
 by_cases hd:t.done=true
 · rw [if_pos hd] at hc
   rw [if_pos hd,if_pos hd,Zt hi,List.foldl_append]
   have hx:∀ X k,isK OrdD.key k X=true→Zeg X k=X:=fun X k h=>by unfold Zeg;rw [if_pos h]
   show _=Zeg _ _
   rw [hx]
   cases h:isK OrdD.key (Go.Gm.nth ks i) ((ks.take i).foldl Zeg os) with
   | true=>rfl
   | false=>exact absurd ⟨hd,h⟩ hc
 · rw [if_neg hd,if_neg hd]
def Zh6 (t:TxD) (o:OrdD):OrdD:=⟨o.key,if t.done=true∧0<wcnt t.ops o.key then withO o.txs t.id else withoutO o.txs t.id⟩
def settleO (t:TxD) (os:List OrdD):List OrdD:=((ZcY t os (ZJ t)).map (Zh6 t)).filter fun o=>!decide (o.txs = [])
theorem Zoc {α:Type} [Inhabited α] {f:α→α} {l l2:List α} {i:Nat} (hi:i<l.length) (h:l2=(l.take i).map f++l.drop i):Go.Gm.nth l2 i=Go.Gm.nth l i∧l2.length=l.length:=by
 have h2:l2.length=l.length:=by rw [h,List.length_append,List.length_map,List.length_take,List.length_drop];omega
 refine ⟨?_,h2⟩
 rw [Zz (by omega),Zz hi]
 subst h
 rw [List.getElem_append_right (by rw [List.length_map,List.length_take];omega)]
 simp only [List.length_map,List.length_take,List.getElem_drop]
 congr 1
 omega
theorem Znf {α:Type} [Inhabited α] {f:α→α} {l l2:List α} {i:Nat} (hi:i<l.length) (h:l2=(l.take i).map f++l.drop i):l2.set i (f (Go.Gm.nth l i))=(l.take (i+1)).map f++l.drop (i+1):=by
 have hd:l.drop i=Go.Gm.nth l i :: l.drop (i+1):=by rw [Zz hi];exact List.drop_eq_getElem_cons hi
 rw [h,Zt hi,List.map_append,List.append_assoc,List.set_append_right _ _ (by rw [List.length_map,List.length_take];omega)]
 congr 1
 have:i - ((l.take i).map f).length=0:=by rw [List.length_map,List.length_take];omega
 rw [this,hd];rfl
abbrev Zj3 (T TR:TypeId) (p va:Value) (os:List OrdD):HP:=HP.ex fun vb:Value=>HP.star [.pt (.val p) T [.pv (.is va),.pv (.is vb)],.ob (.val vb) (Zw TR 2 Zs os)]
theorem Znv {k:IntKind} {a:Int} {b:Bool} (v:Value) (w:World) (y y':Ys) (h:(PV.tup [.int k a,.bool b]).p v w y):(PV.tup [.int k a,.bool b]).p v w y':=by
 obtain ⟨vs,e,h⟩:=h
 match vs,h with
 | [_,_],h=>exact ⟨_,e,h⟩
theorem entArr {α:Type} {R:α→List PV} {l:List PV} {l':List α} (h:Nat.ble l'.length maxLen=true) (e:Zdo l (l'.flatMap R)):Ent (.pv (.arr l'.length l)) (.pv (.sl R l')):=fun _ w y v k=>PVLe.arrSl h e v w y k
theorem Zka (o:OrdD):FnP Tryz.prog 180 [.agg (Zs o)] (.bool (decide (o.txs = []))):=by
 refine FnP.mk Tryz.func180 rfl Tryz.ntmps180 rfl ?_
 intro B a w F hB hfr hS
 refine wp_seq ?_
 refine Zc hS (qx 101 r1 qB) hB [2,1] [101,0] (fun _=>rfl) (fun _=>rfl) fun τ a w F hS=>?_
 try dsimp only [RS.sub,SF.sub,CF.sub,csub,Anc.sub,List.map,zCF,Zs,rInt] at hS
 generalize τ 1=v1 at hS
 refine Za (wp_seq ?_)
 refine Zb hS (qg 1 101 r1 r1 (qa 101 r1 r1 (qu Tryz.underlying41 r1 (qf (o_eql .t qi) r1 qz (qN rfl rfl qZ))))) hB [2] [0] rfl rfl fun a w F hS=>Za (wp_ret ?_)
 refine Zr hfr hS rfl rfl rfl (.bool (by rw [Bool.eq_iff_iff];simp))
theorem Zgv (p va:Value) (os:List OrdD) (t:TxD) (hs:Za3 os) (hr:Zcb OrdD.key os) (ht:t.ops.length≤1000):FnG Tryz.prog 121 1 [.is p,.agg (rTx t)] [Zj3 25 43 p va os] (.tup []) (fun _=>[Zj3 25 43 p va (settleO t os)]):=by
 refine FnG.mk Tryz.func121 rfl Tryz.ntmps121 rfl (by kernel_rfl) ?_
 intro B F0 a w F hB hG hS
 have hso:=hs.1
 have hkl:=Zbl t
 replace hS:=hS.turn 1 rfl (r':=RS.hp (HP.ex fun vb:Value=>HP.star [.pt (.val p) 25 [.pv (.is va),.pv (.is vb)],.ob (.val vb) (Zw 43 2 Zs os)])) (fun _ _ _ _ h=>h)
 obtain ⟨vb0,hS⟩:=hS.open_ex 1 rfl
 obtain ⟨F,hS⟩:=hS.peel 1 61 rfl rfl
 obtain ⟨F,hS⟩:=hS.peel 1 62 rfl rfl
 obtain ⟨F,hS⟩:=hS.nm [1,0] [62,61,1,0] rfl rfl
 refine wp_seq ?_
 refine Zc hS (qx 101 r1 qZ) hB [3,0] [101,62,61,1,0] (fun _=>rfl) (fun _=>rfl) fun τ a w F hS=>?_
 try dsimp only [RS.sub,SF.sub,CF.sub,csub,Anc.sub,List.map,zCF,Zj,rTx,Zs,Zv,rInt,rOp] at hS
 generalize τ 3=v3 at hS
 refine Za (wp_seq (wp_seq ?_))
 refine Zb hS (qe 3 101 r1 r1 (qf (oP (Zlm t (by omega)) Tryz.func102 (Args.one (.pagg .t))) r1 qz (qu Tryz.underlying41 r1 (qJ qZ)))) hB [13,12,11,3,0] [101,62,61,1,0] rfl rfl fun a w F hS=>?_
 rw [show ZaO ((t.ops.filter fun o=>!o.read).map OpD.key)=ZJ t from rfl] at hS
 refine Za (wp_block ?_)
 refine Zl (σ:=(Nat)×(Value)×(List OrdD)) [0,3,11,12] [0,1,101] (fun s=>[(13,.pv (.int .i64 (s.1:Int)))]) (fun s=>[(61,.pt (.val p) 25 [.pv (.is va),.pv (.is s.2.1)]),(62,.ob (.val s.2.1) (Zw 43 2 Zs s.2.2))]) (fun s=>s.1≤(ZJ t).length∧(s.2.2=ZcY t os ((ZJ t).take s.1))) (fun s=>(ZJ t).length - s.1) ((0),(vb0),(os)) hS ⟨rfl,rfl,rfl,rfl,rfl,trivial⟩ ⟨rfl,rfl,rfl,rfl,rfl,trivial⟩ ⟨Nat.zero_le _,(by unfold ZcY;split <;> rfl)⟩ ?_
 clear hS;intro s a w F hC hS
 obtain ⟨i,vb,ol⟩:=s
 try dsimp only at hC
 obtain ⟨F,hS⟩:=hS.nm [13,12,11,3,0] [101,62,61,1,0] rfl rfl
 try dsimp only at hS
 obtain ⟨hi,hq⟩:=hC
 obtain ⟨hf1,hf2,hf3⟩:=Zf0 (t:=t) hr hs ((ZJ t).take i)
 rw [List.length_take,← hq] at hf2
 rw [← hq] at hf1 hf3
 have hst:=fun h=>Zlz (t:=t) (os:=os) (ks:=(ZJ t)) (i:=i) h
 have hsk:=fun h=>Zj9 (t:=t) (os:=os) (ks:=(ZJ t)) (i:=i) h
 rw [← hq] at hst hsk
 have hlk:=Zh9 (κ:=OrdD.key) (k:=(Go.Gm.nth (ZJ t) i)) ol
 refine wp_seq ?_
 refine Zb hS (qL r2) hB [14,13,12,11,3,0] [101,62,61,1,0] rfl rfl fun a w F hS=>Za (wp_seq ?_)
 refine Zd hS rfl (fun hc0=>?_) (fun hc0=>?_)
 ·skip
  have hil:i<(ZJ t).length:=by simp at hc0;omega
  have hio:=hil
  refine wp_skip (Za (wp_seq (wp_block (wp_seq ?_))))
  refine Zb hS (qy 1 Tryz.underlying41 r2 (qf (oR false 1 .t) r1 qz (qN rfl rfl qZ))) hB [13,12,11,5,3,0] [101,62,61,1,0] rfl rfl fun a w F hS=>?_
  try simp only [Int.toNat_natCast] at hS
  refine Za (wp_seq ?_)
  refine Zb hS (qM rfl rfl (qf (ZaV 61 .is (by rfl)) r1 r1 (qf (oF 1 61 .adr) r1 r1 (qa 61 r1 r1 (qM rfl rfl (qf (OpC.lendRow 62 [21] (oP (Zn2 ol (Go.Gm.nth (ZJ t) i) (by omega) hf1 175 Tryz.f175 [] Tryz.func175 rfl (by kernel_rfl) (fun x=>Zkq x (Go.Gm.nth (ZJ t) i))) Tryz.func174 (Args.three .t .t (.conv .f (Ent.fnClos)))) ⟨rfl,trivial,trivial⟩ (.pv Znv) trivial (by rfl)) r2 r1 (qM rfl rfl (qf (o_extract .t rfl) r1 qz (qf (o_extract .t rfl) r1 qz (qN rfl rfl (qN rfl rfl qZ))))))))))) hB [13,12,11,7,6,5,3,0] [101,62,61,1,0] rfl rfl fun a w F hS=>Za (wp_seq ?_)
  refine Zb hS (qg 1 101 r1 r1 (qa 101 r1 r1 (qM rfl rfl (qm rfl rfl rfl rfl (qk rfl (fun h=>o_not (.w h)) r2 qz (qf (Zy .t .t) r2 qz qZ)))))) hB [31,13,12,11,6,5,3,0] [101,62,61,1,0] rfl rfl fun a w F hS=>Za ?_
  refine Zd hS rfl (fun hc1=>?_) (fun hc1=>?_)
  ·skip
   have hq9:=hst hio (by simpa using hc1)
   refine Zc hS (qM rfl rfl (qM rfl rfl (qf (ZaV 61 .is (by rfl)) r1 r1 (qf (oF 1 61 .adr) r1 r1 (qa 61 r1 r1 (qM rfl rfl (qM rfl rfl (qf (oB [(0,.tmp 38)] [.int .i64 0,.slice none 0 0] [(0,1),(1,1)] (.one rfl .t one_int (by kernel_rfl) .nil)) r1 qz (qf (Zh (sz:=2) (zs:=[.int .i64 0,.slice none 0 0]) (r:=[(0,.tmp 39)]) (l:=[_,_]) Tryz.underlying23 (by kernel_rfl) (by kernel_rfl) (by kernel_rfl) (by kernel_rfl) rfl rfl (.agg rfl .t (by kernel_rfl) (by kernel_rfl) .nil) rfl) r1 qz (qf (Zbh 62 (Zn5 vb ol (lowK OrdD.key (Go.Gm.nth (ZJ t) i) ol) ⟨(Go.Gm.nth (ZJ t) i),[]⟩ (by omega) hlk) Tryz.func176 rfl (by kernel_rfl) (Args.three .t .t (.conv .t (entArr (l:=[.int .i64 (Go.Gm.nth (ZJ t) i),.is (.slice none 0 0)]) (R:=Zs) (l':=[⟨(Go.Gm.nth (ZJ t) i),[]⟩]) rfl ⟨PVLe.refl,PVLe.nilSl,trivial⟩))) ZaF) r3 r1 (qf (ZaV 61 .is (by rfl)) r1 r1 (qf (oF 1 61 .adr) r1 r1 (qf (Zau 61 .adr (by kernel_rfl) (by kernel_rfl)) r2 r1 qZ))))))))))))) hB [13,12,11,3,0] [101,62,61,1,0] (fun _=>rfl) (fun _=>rfl) fun τ a w F hS=>?_
   try dsimp only [RS.sub,SF.sub,CF.sub,csub,Anc.sub,List.map,Zf,xL,xM,Nat.reduceAdd,xD,xE,xT,xU,xC,xN,zCF,ldSF,Zj,rTx,Zs,Zv,rInt,rOp] at hS
   generalize τ 41=v41 at hS
   refine Zi (Za ?_)
   refine Zb hS (qp r1 (qM rfl rfl qZ)) hB [13,12,11,3,0] [101,62,61,1,0] rfl rfl fun a w F hS=>Za ?_
   replace hS:=hS.ent (i:=13) (s':=.pv (.int .i64 ((i+1:Nat):Int))) rfl (.int (Ze (by omega)))
   obtain ⟨F,hS⟩:=hS.nm [12,11,3,0,13] [101,1,0,62,61] rfl rfl
   exact ⟨((i+1),_,_),F,⟨by omega,hq9⟩,hS,by omega⟩
  have hq9:=hsk hio (by intro e;simp [e.1,e.2] at hc1)
  refine wp_skip (Zi (Za ?_))
  refine Zb hS (qp r1 (qM rfl rfl qZ)) hB [13,12,11,3,0] [101,62,61,1,0] rfl rfl fun a w F hS=>Za ?_
  replace hS:=hS.ent (i:=13) (s':=.pv (.int .i64 ((i+1:Nat):Int))) rfl (.int (Ze (by omega)))
  obtain ⟨F,hS⟩:=hS.nm [12,11,3,0,13] [101,1,0,62,61] rfl rfl
  exact ⟨((i+1),_,_),F,⟨by omega,hq9⟩,hS,by omega⟩
 have hil:i=(ZJ t).length:=by simp at hc0;omega
 have hq0:ol=ZcY t os (ZJ t):=by rw [hq,hil,List.take_length]
 refine wp_exit (Zk (Zk (Zq (Za (wp_seq (wp_seq ?_))))))
 refine Zb hS (qM rfl rfl (qf (ZaV 61 .is (by rfl)) r1 r1 (qf (oF 1 61 .adr) r1 r1 (qa 61 r1 r1 (qf (Z4 62 Tryz.underlying23 .is) r1 r1 (qJ qZ)))))) hB [50,49,3,0] [101,62,61,1,0] rfl rfl fun a w F hS=>Za (wp_block ?_)
 refine Zl (σ:=(Nat)×(List OrdD)) [0,3,49] [0,1,61,101] (fun s=>[(50,.pv (.int .i64 (s.1:Int)))]) (fun s=>[(62,.ob (.val vb) (Zw 43 2 Zs s.2))]) (fun s=>s.1≤ol.length∧(s.2=(ol.take s.1).map (Zh6 t)++ol.drop s.1)) (fun s=>ol.length - s.1) ((0),(ol)) hS ⟨rfl,rfl,rfl,rfl,trivial⟩ ⟨rfl,rfl,rfl,rfl,rfl,trivial⟩ ⟨Nat.zero_le _,(by simp)⟩ ?_
 clear hS;intro s a w F hC hS
 obtain ⟨i,o2⟩:=s
 try dsimp only at hC
 obtain ⟨F,hS⟩:=hS.nm [50,49,3,0] [101,62,61,1,0] rfl rfl
 try dsimp only at hS
 obtain ⟨hi,hq⟩:=hC
 have hm:=fun h=>Zoc (f:=Zh6 t) (l:=ol) (i:=i) h hq
 have hms:=fun h=>Znf (f:=Zh6 t) (l:=ol) (i:=i) h hq
 refine wp_seq ?_
 refine Zb hS (qL r2) hB [51,50,49,3,0] [101,62,61,1,0] rfl rfl fun a w F hS=>Za (wp_seq ?_)
 refine Zd hS rfl (fun hc2=>?_) (fun hc2=>?_)
 ·skip
  have hil:i<ol.length:=by simp at hc2;omega
  have hio:=hil
  have hol:=hf3 _ (ZM hio)
  have hmn:=(hm hio).1
  have hms2:=hms hio
  have hol2:(Go.Gm.nth o2 i).txs.length≤1000:=by rw [hmn];exact hol
  refine wp_skip (Za (wp_seq (wp_block (wp_seq ?_))))
  refine Zb hS (qM rfl rfl (qN rfl rfl qZ)) hB [50,49,8,3,0] [101,62,61,1,0] rfl rfl fun a w F hS=>Za (wp_seq ?_)
  refine Zb hS (qM rfl rfl (qf (ZaV 61 .is (by rfl)) r1 r1 (qf (oF 1 61 .adr) r1 r1 (qa 61 r1 r1 (qM rfl rfl (qf (o_indexAddr_row (sz:=2) 62 (.mk Tryz.underlying23 (by kernel_rfl)) .is .t (by omega) (by omega) (by rfl)) r2 r1 (qN rfl rfl qZ))))))) hB [50,49,9,3,0] [101,62,61,1,0] rfl rfl fun a w F hS=>?_
  try simp only [Int.toNat_natCast] at hS
  refine Za (wp_seq ?_)
  refine ZE hS (qg 1 101 r1 r1 (qa 101 r1 r1 (qM rfl rfl (qk rfl (fun h=>oL true 3 101 .is) r2 r1 (qm rfl rfl rfl rfl (qk rfl (fun h=>Zav (sz:=2) 62 (.w h) (by intro x;rfl) (by have:=(hm hil).2;omega)) r2 r1 (qk rfl (fun h=>Zak (off:=0) (sz:=2) 62 (.w h) (by have:=(hm hil).2;omega) (by kernel_rfl) (by rfl)) r2 r1 (qk rfl (fun h=>Zcz (ag:=false) (sz':=1) (sz:=2) 62 (.w h) (by intro x;rfl) (by have:=(hm hil).2;omega) (by kernel_rfl) (by kernel_rfl) (by kernel_rfl)) r2 r1 (qk rfl (fun h=>oP (Zfi t (Go.Gm.nth o2 i).key (by omega)) Tryz.func161 (Args.two (.pagg (.w h)) (.w h))) r3 qz (qk rfl (fun h=>ZaR (.w h) qi) r2 qz (qf (Zy .t .t) r2 qz qZ))))))))))) hB [69,50,49,9,3,0] [101,62,61,1,0] rfl rfl fun a w F hS=>?_
  try dsimp only [List.map,xD,xE,xT,xU,ldSF,Zj,rTx,Zs,Zv,rInt,rOp] at hS
  refine Za ?_
  refine Zd hS rfl (fun hc3=>?_) (fun hc3=>?_)
  ·skip
   have hq9:o2.set i ⟨(Go.Gm.nth o2 i).key,withO (Go.Gm.nth o2 i).txs t.id⟩ = (ol.take (i+1)).map (Zh6 t)++ol.drop (i+1):=by rw [← hms2,hmn];unfold Zh6;rw [if_pos (by have h9:=hc3;unfold wcnt;simpa [hmn] using h9)]
   refine ZE hS (qM rfl rfl (qM rfl rfl (qf (Zav (sz:=2) 62 .t (by intro x;rfl) (by have:=(hm hil).2;omega)) r1 r1 (qf (Zak (off:=1) (sz:=2) 62 .t (by have:=(hm hil).2;omega) (by kernel_rfl) (by rfl)) r1 r1 (qf (Zcz (ag:=false) (sz':=1) (sz:=2) 62 .t (by intro x;rfl) (by have:=(hm hil).2;omega) (by kernel_rfl) (by kernel_rfl) (by kernel_rfl)) r1 r1 (qg 0 101 r1 r1 (qa 101 r1 r1 (qf (oP (Zm7 (Go.Gm.nth o2 i).txs t.id (by omega)) Tryz.func177 (Args.two .t .t)) r2 qz (qf (Zav (sz:=2) 62 .t (by intro x;rfl) (by have:=(hm hil).2;omega)) r1 r1 (qf (Zak (off:=1) (sz:=2) 62 .t (by have:=(hm hil).2;omega) (by kernel_rfl) (by rfl)) r1 r1 (qf (Zce (R:=Zs) (sz:=2) (off:=1) (v':=(⟨(Go.Gm.nth o2 i).key,withO (Go.Gm.nth o2 i).txs t.id⟩:OrdD)) 62 .t (by intro x;rfl) (by have:=(hm hil).2;omega) (by decide) .t one_sl rfl (by kernel_rfl)) r2 r1 qZ))))))))))) hB [50,49,3,0] [101,62,61,1,0] rfl rfl fun a w F hS=>?_
   try dsimp only [List.map,Zf,xL,xM,Nat.reduceAdd,xD,xE,xT,xU,xC,xN,zCF,ldSF,Zj,rTx,Zs,Zv,rInt,rOp] at hS
   refine Zi (Za ?_)
   refine Zb hS (qp r1 (qM rfl rfl qZ)) hB [50,49,3,0] [101,62,61,1,0] rfl rfl fun a w F hS=>Za ?_
   replace hS:=hS.ent (i:=50) (s':=.pv (.int .i64 ((i+1:Nat):Int))) rfl (.int (Ze (by omega)))
   obtain ⟨F,hS⟩:=hS.nm [49,3,0,50] [101,61,1,0,62] rfl rfl
   exact ⟨((i+1),_),F,⟨by omega,hq9⟩,hS,by omega⟩
  have hq9:o2.set i ⟨(Go.Gm.nth o2 i).key,withoutO (Go.Gm.nth o2 i).txs t.id⟩ = (ol.take (i+1)).map (Zh6 t)++ol.drop (i+1):=by rw [← hms2,hmn];unfold Zh6;rw [if_neg (by have h9:=hc3;unfold wcnt;intro e;rw [← hmn] at e;simp [e.1,e.2] at h9)]
  refine ZE hS (qM rfl rfl (qM rfl rfl (qf (Zav (sz:=2) 62 .t (by intro x;rfl) (by have:=(hm hil).2;omega)) r1 r1 (qf (Zak (off:=1) (sz:=2) 62 .t (by have:=(hm hil).2;omega) (by kernel_rfl) (by rfl)) r1 r1 (qf (Zcz (ag:=false) (sz':=1) (sz:=2) 62 .t (by intro x;rfl) (by have:=(hm hil).2;omega) (by kernel_rfl) (by kernel_rfl) (by kernel_rfl)) r1 r1 (qg 0 101 r1 r1 (qa 101 r1 r1 (qf (oP (ZjT (Go.Gm.nth o2 i).txs t.id (by omega)) Tryz.func178 (Args.two .t .t)) r2 qz (qf (Zav (sz:=2) 62 .t (by intro x;rfl) (by have:=(hm hil).2;omega)) r1 r1 (qf (Zak (off:=1) (sz:=2) 62 .t (by have:=(hm hil).2;omega) (by kernel_rfl) (by rfl)) r1 r1 (qf (Zce (R:=Zs) (sz:=2) (off:=1) (v':=(⟨(Go.Gm.nth o2 i).key,withoutO (Go.Gm.nth o2 i).txs t.id⟩:OrdD)) 62 .t (by intro x;rfl) (by have:=(hm hil).2;omega) (by decide) .t one_sl rfl (by kernel_rfl)) r2 r1 qZ))))))))))) hB [50,49,3,0] [101,62,61,1,0] rfl rfl fun a w F hS=>?_
  try dsimp only [List.map,Zf,xL,xM,Nat.reduceAdd,xD,xE,xT,xU,xC,xN,zCF,ldSF,Zj,rTx,Zs,Zv,rInt,rOp] at hS
  refine Zi (Za ?_)
  refine Zb hS (qp r1 (qM rfl rfl qZ)) hB [50,49,3,0] [101,62,61,1,0] rfl rfl fun a w F hS=>Za ?_
  replace hS:=hS.ent (i:=50) (s':=.pv (.int .i64 ((i+1:Nat):Int))) rfl (.int (Ze (by omega)))
  obtain ⟨F,hS⟩:=hS.nm [49,3,0,50] [101,61,1,0,62] rfl rfl
  exact ⟨((i+1),_),F,⟨by omega,hq9⟩,hS,by omega⟩
 have hil:i=ol.length:=by simp at hc2;omega
 have hfin:(o2.filter fun o=>!decide (o.txs = []))=settleO t os:=by rw [hq,hil,List.take_length,List.drop_length,List.append_nil,hq0];rfl
 have ho2:o2.length=ol.length:=by rw [hq,hil];simp
 refine wp_exit (Zk (Zk (Zq (Za ?_))))
 refine Zc hS (qM rfl rfl (qM rfl rfl (qf (ZaV 61 .is (by rfl)) r1 r1 (qf (oF 1 61 .adr) r1 r1 (qa 61 r1 r1 (qf (Zbh 62 (Znc vb o2 (by omega) (fun o=>decide (o.txs = [])) 180 Tryz.f180 [] Tryz.func180 rfl (by kernel_rfl) (fun o=>Zka o)) Tryz.func179 rfl (by kernel_rfl) (Args.two .t (.conv .f (Ent.fnClos))) ZaF) r1 r1 (qf (ZaV 61 .is (by rfl)) r1 r1 (qf (oF 1 61 .adr) r1 r1 (qf (Zau 61 .adr (by kernel_rfl) (by kernel_rfl)) r2 r1 qZ))))))))) hB [] [101,62,61,1,0] (fun _=>rfl) (fun _=>rfl) fun τ a w F hS=>?_
 try dsimp only [RS.sub,SF.sub,CF.sub,csub,Anc.sub,List.map,Zf,xL,xM,Nat.reduceAdd,xD,xE,xT,xU,xC,xN,zCF,ldSF,Zj,rTx,Zs,Zv,rInt,rOp] at hS
 generalize τ 96=v96 at hS
 obtain ⟨F,hS⟩:=hS.push 1 62 rfl rfl rfl rfl
 obtain ⟨F,hS⟩:=hS.push 1 61 rfl rfl rfl rfl
 have hS:=hS.turn 1 rfl (r':=RS.hp (Zj3 25 43 p va (settleO t os))) (fun _ _ _ _ h=>⟨v96,by rw [hfin] at h;exact h⟩)
 refine ZhN hG hS rfl .nil .none rfl
theorem ZgZ (g:Zn) (k:Int) (hs:Zai g.txs):FnP Tryz.prog 90 [.agg (Zj g),.int .i64 k] (.sl rInt (ZU g.txs k)):=by
 refine FnP.mk Tryz.func90 rfl Tryz.ntmps90 rfl ?_
 intro B a w F hB hfr hS
 have hsl:=hs.1
 refine wp_seq ?_
 refine Zc hS (qx 101 r1 (qC qZ)) hB [4,2,1] [101,0] (fun _=>rfl) (fun _=>rfl) fun τ a w F hS=>?_
 try dsimp only [RS.sub,SF.sub,CF.sub,csub,Anc.sub,List.map,zCF,Zj,rTx,Zs,Zv,rInt,rOp] at hS
 generalize τ 2=v2 at hS
 refine Za (wp_seq ?_)
 refine Zb hS (qC qZ) hB [5,4,2,1] [101,0] rfl rfl fun a w F hS=>Za (wp_seq (wp_seq ?_))
 refine Zb hS (qg 0 101 r1 r1 (qa 101 r1 r1 (qu Tryz.underlying22 r1 (qJ qZ)))) hB [11,10,9,5,4,1] [101,0] rfl rfl fun a w F hS=>Za (wp_block ?_)
 replace hS:=hS.fresh 50 rfl
 replace hS:=hS.turn 50 rfl (Zaf (T:=3) (sz:=1) (R:=rInt))
 refine Zl (σ:=(Nat)×(Value)×(List Int)) [1,4,9,10] [0,101] (fun s=>[(11,.pv (.int .i64 (s.1:Int))),(5,.pv (.is s.2.1))]) (fun s=>[(50,.ob (.val s.2.1) (Zw 3 1 rInt s.2.2))]) (fun s=>s.1≤g.txs.length∧(s.2.2=ZU (g.txs.take s.1) k)) (fun s=>g.txs.length - s.1) ((0),(.slice none 0 0),([])) hS ⟨rfl,rfl,rfl,rfl,rfl,rfl,trivial⟩ ⟨rfl,rfl,rfl,trivial⟩ ⟨Nat.zero_le _,rfl⟩ ?_
 clear hS;intro s a w F hC hS
 obtain ⟨i,v,out⟩:=s
 try dsimp only at hC
 obtain ⟨F,hS⟩:=hS.nm [11,10,9,5,4,1] [101,50,0] rfl rfl
 try dsimp only at hS
 obtain ⟨hi,hq⟩:=hC
 have hol:out.length≤i:=by rw [hq];exact Nat.le_trans (Za6 _ _) (by rw [List.length_take];omega)
 have hxl:=fun hil:i<g.txs.length=>hs.at hil
 refine wp_seq ?_
 refine Zb hS (qL r2) hB [12,11,10,9,5,4,1] [101,50,0] rfl rfl fun a w F hS=>Za (wp_seq ?_)
 refine Zd hS rfl (fun hc0=>?_) (fun hc0=>?_)
 ·skip
  have hil:i<g.txs.length:=by simp at hc0;omega
  refine wp_skip (Za (wp_seq (wp_block (wp_seq ?_))))
  refine Zc hS (qy 3 Tryz.underlying22 r2 (qf (oR true 3 .t) r1 qz (qf (oH [.int .i64 0,.bool false,.slice none 0 0] 102) trivial qz (qS 3 102 r2 r1 qZ)))) hB [11,10,9,7,5,4,1] [102,101,50,0] (fun _=>rfl) (fun _=>rfl) fun τ a w F hS=>?_
  try dsimp only [RS.sub,SF.sub,CF.sub,csub,Anc.sub,List.map,Zf,xL,xM,Nat.reduceAdd,xD,xE,xT,xU,xC,xN,zCF,ldSF,Zj,rTx,Zs,Zv,rInt,rOp] at hS
  generalize τ 7=v7 at hS
  try simp only [Int.toNat_natCast] at hS
  refine Za (wp_seq ?_)
  refine Zb hS (qg 1 102 r1 r1 (qa 102 r1 r1 (qM rfl rfl (qv 2 102 rfl r2 r1 (qw 102 rfl r2 r1 (qm rfl rfl rfl rfl (qk rfl (fun h=>oP (Zb9 (Go.Gm.nth g.txs i).ops k (by have:=hxl hil;omega)) Tryz.func148 (Args.two (.w h) (.w h))) r3 qz (qk rfl (fun h=>ZaR (.w h) qi) r2 qz (qf (Zy .t .t) r2 qz qZ))))))))) hB [23,11,10,9,7,5,4,1] [102,101,50,0] rfl rfl fun a w F hS=>Za ?_
  refine Zd hS rfl (fun hc1=>?_) (fun hc1=>?_)
  ·skip
   have hBq:((Go.Gm.nth g.txs i).done=true∧0<wcnt (Go.Gm.nth g.txs i).ops k):=by
     have h8:=hc1
     rw [Bool.and_eq_true,decide_eq_true_eq] at h8
     exact ⟨h8.1,by unfold wcnt;exact_mod_cast h8.2⟩
   refine Zc hS (qM rfl rfl (qg 0 102 r1 r1 (qa 102 r1 r1 (qf (Zh (sz:=1) (zs:=[.int .i64 0]) (r:=[(0,.tmp 26)]) (l:=[_]) Tryz.underlying41 (by kernel_rfl) (by kernel_rfl) (by kernel_rfl) (by kernel_rfl) rfl rfl (.one rfl .t one_int (by kernel_rfl) .nil) rfl) r1 qz (qf (o_append (sz:=1) (bs:=8) 50 (.mk' Tryz.underlying41 (by kernel_rfl) (by kernel_rfl)) (by intro x;rfl) .is (.arr (l':=[_]) .t) (by simp only [List.length_append,List.length_cons,List.length_nil,List.length_take,List.length_drop];omega) (by decide)) ⟨rfl,rfl,trivial⟩ ⟨rfl,trivial⟩ (qN rfl rfl qZ)))))) hB [11,10,9,5,4,1] [102,101,50,0] (fun _=>rfl) (fun _=>rfl) fun τ a w F hS=>?_
   try dsimp only [RS.sub,SF.sub,CF.sub,csub,Anc.sub,List.map,Zf,xL,xM,Nat.reduceAdd,xD,xE,xT,xU,xC,xN,zCF,ldSF,Zj,rTx,Zs,Zv,rInt,rOp] at hS
   generalize τ 28=v28 at hS
   refine Zi (Za ?_)
   refine Zb hS (qp r1 (qM rfl rfl qZ)) hB [11,10,9,5,4,1] [102,101,50,0] rfl rfl fun a w F hS=>Za ?_
   replace hS:=hS.ent (i:=11) (s':=.pv (.int .i64 ((i+1:Nat):Int))) rfl (.int (Ze (by omega)))
   obtain ⟨F,hS⟩:=hS.nm [10,9,4,1,5,11] [101,0,50] rfl rfl
   exact ⟨((i+1),_,_),F,⟨by omega,(by rw [Zbc hil,← hq];first | (rw [if_pos hBq];done) | (rw [if_neg hBq,List.append_nil]))⟩,hS,by omega⟩
  have hBq:¬ ((Go.Gm.nth g.txs i).done=true∧0<wcnt (Go.Gm.nth g.txs i).ops k):=by
    rintro ⟨g1,g2⟩
    have h8:=hc1
    rw [g1,Bool.true_and,decide_eq_false_iff_not] at h8
    exact h8 (by unfold wcnt at g2;exact_mod_cast g2)
  refine wp_skip (Zi (Za ?_))
  refine Zb hS (qp r1 (qM rfl rfl qZ)) hB [11,10,9,5,4,1] [102,101,50,0] rfl rfl fun a w F hS=>Za ?_
  replace hS:=hS.ent (i:=11) (s':=.pv (.int .i64 ((i+1:Nat):Int))) rfl (.int (Ze (by omega)))
  obtain ⟨F,hS⟩:=hS.nm [10,9,4,1,5,11] [101,0,50] rfl rfl
  exact ⟨((i+1),_,_),F,⟨by omega,(by rw [Zbc hil,← hq];first | (rw [if_pos hBq];done) | (rw [if_neg hBq,List.append_nil]))⟩,hS,by omega⟩
 have hil:i=g.txs.length:=by simp at hc0;omega
 refine wp_exit (Zk (Zk (Zq (Za (wp_seq ?_)))))
 refine Zb hS (qM rfl rfl (qN rfl rfl qZ)) hB [4] [101,50,0] rfl rfl fun a w F hS=>Za (wp_ret ?_)
 obtain ⟨F,hS⟩:=hS.give 50 4 rfl rfl
 refine Zr hfr hS rfl rfl rfl (.sl (by rw [hq,hil,List.take_length]))
theorem ZgE (l:List Int) (n:Int) (hl:l.length≤1000000):FnP Tryz.prog 53 [.sl rInt l,.int .i64 n] (.sl rInt (Zb2 l n)):=by
 refine FnP.mk Tryz.func53 rfl Tryz.ntmps53 rfl ?_
 intro B a w F hB hfr hS
 refine wp_seq ?_
 refine Zb hS (qC qZ) hB [4,1,0] [0] rfl rfl fun a w F hS=>Za (wp_seq ?_)
 refine Zb hS (qM rfl rfl (qM rfl rfl (qf (oP (Zkc l n hl) Tryz.func111 (Args.two .t .t)) r2 qz (qN rfl rfl qZ)))) hB [4] [0] rfl rfl fun a w F hS=>Za (wp_ret ?_)
 refine Zr hfr hS rfl rfl rfl .refl
theorem ZjI (g:Zn) (hs:Zai g.txs):FnP Tryz.prog 88 [.agg (Zj g)] (.sl rInt (Zaq g.txs)):=by
 refine FnP.mk Tryz.func88 rfl Tryz.ntmps88 rfl ?_
 intro B a w F hB hfr hS
 have hsl:=hs.1
 refine wp_seq ?_
 refine Zc hS (qx 101 r1 (qC qZ)) hB [2,1] [101,0] (fun _=>rfl) (fun _=>rfl) fun τ a w F hS=>?_
 try dsimp only [RS.sub,SF.sub,CF.sub,csub,Anc.sub,List.map,zCF,Zj,rTx,Zs,Zv,rInt,rOp] at hS
 generalize τ 1=v1 at hS
 refine Za (wp_seq ?_)
 refine Zb hS (qC qZ) hB [3,2,1] [101,0] rfl rfl fun a w F hS=>Za (wp_seq (wp_seq ?_))
 refine Zb hS (qg 0 101 r1 r1 (qa 101 r1 r1 (qu Tryz.underlying22 r1 (qJ qZ)))) hB [11,10,9,3,2] [101,0] rfl rfl fun a w F hS=>Za (wp_block ?_)
 replace hS:=hS.ent (i:=3) (s':=.pv (.sl rInt (Zaq (g.txs.take 0)))) rfl (.nilSl)
 refine Zl (σ:=(Nat)) [2,9,10] [0,101] (fun s=>[(11,.pv (.int .i64 (s:Int))),(3,.pv (.sl rInt (Zaq (g.txs.take s))))]) (fun s=>[]) (fun s=>s≤g.txs.length∧(True)) (fun s=>g.txs.length - s) (0) hS ⟨rfl,rfl,rfl,rfl,rfl,trivial⟩ ⟨rfl,rfl,trivial⟩ ⟨Nat.zero_le _,trivial⟩ ?_
 clear hS;intro i a w F hC hS
 try dsimp only at hC
 obtain ⟨F,hS⟩:=hS.nm [11,10,9,3,2] [101,0] rfl rfl
 try dsimp only at hS
 obtain ⟨hi,hq⟩:=hC
 have hxl:=fun hil:i<g.txs.length=>hs.at hil
 have hkl:(Zaq (g.txs.take i)).length≤1000*i:=ZiR hs i
 refine wp_seq ?_
 refine Zb hS (qL r2) hB [12,11,10,9,3,2] [101,0] rfl rfl fun a w F hS=>Za (wp_seq ?_)
 refine Zd hS rfl (fun hc0=>?_) (fun hc0=>?_)
 ·skip
  have hil:i<g.txs.length:=by simp at hc0;omega
  have hio:=hil
  have htl:=hxl hil
  have hkt:=Zbl (Go.Gm.nth g.txs i)
  have hsl:=hs.1
  refine wp_skip (Za (wp_seq (wp_block (wp_seq ?_))))
  refine Zc hS (qy 3 Tryz.underlying22 r2 (qf (oR true 3 .t) r1 qz (qf (oH [.int .i64 0,.bool false,.slice none 0 0] 102) trivial qz (qS 3 102 r2 r1 qZ)))) hB [11,10,9,5,3,2] [102,101,0] (fun _=>rfl) (fun _=>rfl) fun τ a w F hS=>?_
  try dsimp only [RS.sub,SF.sub,CF.sub,csub,Anc.sub,List.map,Zf,xL,xM,Nat.reduceAdd,xD,xE,xT,xU,xC,xN,zCF,ldSF,Zj,rTx,Zs,Zv,rInt,rOp] at hS
  generalize τ 5=v5 at hS
  try simp only [Int.toNat_natCast] at hS
  refine Za (wp_seq ?_)
  refine Zb hS (qg 1 102 r1 r1 (qa 102 r1 r1 qZ)) hB [16,11,10,9,5,3,2] [102,101,0] rfl rfl fun a w F hS=>Za ?_
  refine Zd hS rfl (fun hc1=>?_) (fun hc1=>?_)
  ·skip
   have hdn:(Go.Gm.nth g.txs i).done=true:=hc1
   refine wp_seq ?_
   refine Zb hS (qe 3 102 r1 r1 (qf (oP (Zlj (Go.Gm.nth g.txs i) false (by have:=hxl hil;omega)) Tryz.func151 (Args.two (.pagg .t) .cb)) r1 qz (qu Tryz.underlying41 r1 (qJ qZ)))) hB [20,19,18,11,10,9,3,2] [102,101,0] rfl rfl fun a w F hS=>?_
   rw [show ZaO (((Go.Gm.nth g.txs i).ops.filter fun o=>false || !o.read).map OpD.key)=ZJ (Go.Gm.nth g.txs i) from rfl] at hS
   refine Za (wp_block ?_)
   replace hS:=hS.ent (i:=3) (s':=.pv (.sl rInt (((ZJ (Go.Gm.nth g.txs i)).take 0).foldl Zb2 (Zaq (g.txs.take i))))) rfl (.refl)
   refine Zl (σ:=(Nat)) [2,9,10,11,18,19] [0,101,102] (fun s=>[(20,.pv (.int .i64 (s:Int))),(3,.pv (.sl rInt (((ZJ (Go.Gm.nth g.txs i)).take s).foldl Zb2 (Zaq (g.txs.take i)))))]) (fun s=>[]) (fun s=>s≤(ZJ (Go.Gm.nth g.txs i)).length∧(True)) (fun s=>(ZJ (Go.Gm.nth g.txs i)).length - s) (0) hS ⟨rfl,rfl,rfl,rfl,rfl,rfl,rfl,rfl,trivial⟩ ⟨rfl,rfl,rfl,trivial⟩ ⟨Nat.zero_le _,trivial⟩ ?_
   clear hS;intro j a w F hC hS
   try dsimp only at hC
   obtain ⟨F,hS⟩:=hS.nm [20,19,18,11,10,9,3,2] [102,101,0] rfl rfl
   try dsimp only at hS
   obtain ⟨hi,hq⟩:=hC
   have hjb:=Zdq (Zaq (g.txs.take i)) ((ZJ (Go.Gm.nth g.txs i)).take j)
   rw [List.length_take] at hjb
   refine wp_seq ?_
   refine Zb hS (qL r2) hB [21,20,19,18,11,10,9,3,2] [102,101,0] rfl rfl fun a w F hS=>Za (wp_seq ?_)
   refine Zd hS rfl (fun hc2=>?_) (fun hc2=>?_)
   ·skip
    have hil:j<(ZJ (Go.Gm.nth g.txs i)).length:=by simp at hc2;omega
    refine wp_skip (Za (wp_seq (wp_block (wp_seq ?_))))
    refine Zb hS (qy 1 Tryz.underlying41 r2 (qf (oR false 1 .t) r1 qz (qN rfl rfl qZ))) hB [20,19,18,11,10,9,7,3,2] [102,101,0] rfl rfl fun a w F hS=>?_
    try simp only [Int.toNat_natCast] at hS
    refine Za ?_
    refine Zb hS (qM rfl rfl (qM rfl rfl (qf (oP (ZgE (((ZJ (Go.Gm.nth g.txs i)).take j).foldl Zb2 (Zaq (g.txs.take i))) _ (by omega)) Tryz.func53 (Args.two .t .t)) r2 qz (qN rfl rfl qZ)))) hB [20,19,18,11,10,9,3,2] [102,101,0] rfl rfl fun a w F hS=>Zi (Za ?_)
    refine Zb hS (qp r1 (qM rfl rfl qZ)) hB [20,19,18,11,10,9,3,2] [102,101,0] rfl rfl fun a w F hS=>Za ?_
    replace hS:=hS.ent (i:=20) (s':=.pv (.int .i64 ((j+1:Nat):Int))) rfl (.int (Ze (by omega)))
    replace hS:=hS.ent (i:=3) (s':=.pv (.sl rInt (((ZJ (Go.Gm.nth g.txs i)).take (j+1)).foldl Zb2 (Zaq (g.txs.take i))))) rfl ((.sl (by rw [Zt hil,List.foldl_append];rfl)))
    obtain ⟨F,hS⟩:=hS.nm [19,18,11,10,9,2,3,20] [102,101,0] rfl rfl
    exact ⟨(j+1),F,⟨by omega,trivial⟩,hS,by omega⟩
   have hil:j=(ZJ (Go.Gm.nth g.txs i)).length:=by simp at hc2;omega
   replace hS:=hS.ent (i:=3) (s':=.pv (.sl rInt (Zaq (g.txs.take (i+1))))) rfl (.sl (by rw [ZfK hio,if_pos hdn,hil,List.take_length]))
   refine wp_exit (Zk (Zk (Zq (Zi (Za ?_)))))
   refine Zb hS (qp r1 (qM rfl rfl qZ)) hB [11,10,9,3,2] [102,101,0] rfl rfl fun a w F hS=>Za ?_
   replace hS:=hS.ent (i:=11) (s':=.pv (.int .i64 ((i+1:Nat):Int))) rfl (.int (Ze (by omega)))
   obtain ⟨F,hS⟩:=hS.nm [10,9,2,3,11] [101,0] rfl rfl
   exact ⟨(i+1),F,⟨by omega,trivial⟩,hS,by omega⟩
  have hdn:¬ (Go.Gm.nth g.txs i).done=true:=by rw [hc1];simp
  replace hS:=hS.ent (i:=3) (s':=.pv (.sl rInt (Zaq (g.txs.take (i+1))))) rfl (.sl (by rw [ZfK hio,if_neg hdn]))
  refine wp_skip (Zi (Za ?_))
  refine Zb hS (qp r1 (qM rfl rfl qZ)) hB [11,10,9,3,2] [102,101,0] rfl rfl fun a w F hS=>Za ?_
  replace hS:=hS.ent (i:=11) (s':=.pv (.int .i64 ((i+1:Nat):Int))) rfl (.int (Ze (by omega)))
  obtain ⟨F,hS⟩:=hS.nm [10,9,2,3,11] [101,0] rfl rfl
  exact ⟨(i+1),F,⟨by omega,trivial⟩,hS,by omega⟩
 have hil:i=g.txs.length:=by simp at hc0;omega
 refine wp_exit (Zk (Zk (Zq (Za (wp_seq ?_)))))
 refine Zb hS (qM rfl rfl (qN rfl rfl qZ)) hB [2] [101,0] rfl rfl fun a w F hS=>Za (wp_ret ?_)
 refine Zr hfr hS rfl rfl rfl (.sl (by rw [hil,List.take_length]))
theorem Zlp (g:Zn) (hs:Zai g.txs):FnG Tryz.prog 45 1 [.agg (Zj g)] [.star []] (PV.one) (fun v=>[HP.ex fun s:List (GE Int (List Int))×Nat=>HP.and (WrL s.1 g.txs) (ZdC (fun l:List Int=>PV.sl rInt l) (fun _=>True) (fun n:Int=>Value.int .i64 n) s.1 s.2 v)]):=by
 refine FnG.mk Tryz.func45 rfl Tryz.ntmps45 rfl (by kernel_rfl) ?_
 intro B F0 a w F hB hG hS
 have hsl:=hs.1
 obtain ⟨F,hS⟩:=hS.nm [0] [0] rfl rfl
 refine wp_seq ?_
 refine Zc hS (qx 101 r1 (qC qZ)) hB [2,1] [101,0] (fun _=>rfl) (fun _=>rfl) fun τ a w F hS=>?_
 try dsimp only [RS.sub,SF.sub,CF.sub,csub,Anc.sub,List.map,zCF,Zj,rTx,Zs,Zv,rInt,rOp] at hS
 generalize τ 1=v1 at hS
 refine Za (wp_seq ?_)
 refine Zc hS (qf (ZdK (ek:=(fun p:Value×List Int=>PV.is p.1)) (ok:=(fun _=>True)) (kv:=(fun n:Int=>Value.int .i64 n)) 102) trivial qz (qN rfl rfl qZ)) hB [3,2,1] [102,101,0] (fun _=>rfl) (fun _=>rfl) fun τ a w F hS=>?_
 try dsimp only [RS.sub,SF.sub,CF.sub,csub,Anc.sub,List.map,Zf,xL,xM,Nat.reduceAdd,xD,xE,xT,xU,xC,xN,zCF,Zj,rTx,Zs,Zv,rInt,rOp] at hS
 generalize τ 8=v8 at hS
 replace hS:=hS.fresh 60 rfl
 replace hS:=hS.turn 60 rfl (r':=ZlN 3 1 rInt ([]:List (GE Int (Value×List Int)))) (fun _ _ _ _ h=>h)
 obtain ⟨F,hS⟩:=hS.nm [3,2,1] [102,101,60,0] rfl rfl
 refine Za (wp_seq (wp_seq ?_))
 refine Zb hS (qg 0 101 r1 r1 (qa 101 r1 r1 (qu Tryz.underlying22 r1 (qJ qZ)))) hB [12,11,10,3,2] [102,101,60,0] rfl rfl fun a w F hS=>Za (wp_block ?_)
 refine Zl (σ:=(Nat)×(List (GE Int (Value×List Int)))×(Nat)) [2,3,10,11] [0,101] (fun s=>[(12,.pv (.int .i64 (s.1:Int)))]) (fun s=>[(102,.ob (.val v8) (ZdC (fun p:Value×List Int=>PV.is p.1) (fun _=>True) (fun n:Int=>Value.int .i64 n) s.2.1 s.2.2)),(60,ZlN 3 1 rInt s.2.1)]) (fun s=>s.1≤g.txs.length∧(WrV s.2.1 (g.txs.take s.1) 0 [])) (fun s=>g.txs.length - s.1) ((0),([]),(0)) hS ⟨rfl,rfl,rfl,rfl,rfl,trivial⟩ ⟨rfl,rfl,rfl,rfl,trivial⟩ ⟨Nat.zero_le _,ZmT⟩ ?_
 clear hS;intro s a w F hC hS
 obtain ⟨i,es,ck⟩:=s
 try dsimp only at hC
 obtain ⟨F,hS⟩:=hS.nm [12,11,10,3,2] [102,101,60,0] rfl rfl
 try dsimp only at hS
 obtain ⟨hi,hq⟩:=hC
 have hxl:=fun hil:i<g.txs.length=>hs.at hil
 refine wp_seq ?_
 refine Zb hS (qL r2) hB [13,12,11,10,3,2] [102,101,60,0] rfl rfl fun a w F hS=>Za (wp_seq ?_)
 refine Zd hS rfl (fun hc0=>?_) (fun hc0=>?_)
 ·skip
  have hil:i<g.txs.length:=by simp at hc0;omega
  have hio:=hil
  have hw0:=hq
  have htl:=hxl hil
  have hkt:=Zbl (Go.Gm.nth g.txs i)
  have hsl:=hs.1
  refine wp_skip (Za (wp_seq (wp_block (wp_seq ?_))))
  refine Zc hS (qy 3 Tryz.underlying22 r2 (qf (oR true 3 .t) r1 qz (qf (oH [.int .i64 0,.bool false,.slice none 0 0] 103) trivial qz (qS 3 103 r2 r1 qZ)))) hB [12,11,10,5,3,2] [103,102,101,60,0] (fun _=>rfl) (fun _=>rfl) fun τ a w F hS=>?_
  try dsimp only [RS.sub,SF.sub,CF.sub,csub,Anc.sub,List.map,Zf,xL,xM,Nat.reduceAdd,xD,xE,xT,xU,xC,xN,zCF,ldSF,Zj,rTx,Zs,Zv,rInt,rOp] at hS
  generalize τ 5=v5 at hS
  try simp only [Int.toNat_natCast] at hS
  refine Za (wp_seq (wp_seq ?_))
  refine Zb hS (qg 1 103 r1 r1 (qa 103 r1 r1 (qf (o_not .t) r1 qz qZ))) hB [18,12,11,10,5,3,2] [103,102,101,60,0] rfl rfl fun a w F hS=>Za ?_
  refine Zd hS rfl (fun hc1=>?_) (fun hc1=>?_)
  ·skip
   have hdn:(Go.Gm.nth g.txs i).done=false:=by simpa using hc1
   obtain ⟨es2,he2⟩:∃ z,z=es:=⟨_,rfl⟩
   obtain ⟨ck2,hc2⟩:∃ z,z=ck:=⟨_,rfl⟩
   have hR2:WrV es2 (g.txs.take (i+1)) 0 []:=by rw [he2];exact ZnF hw0 hio hdn
   rw [← he2,← hc2] at hS
   refine wp_exit (Zk (Zq (Za ?_)))
   refine Zb hS (qp r1 (qM rfl rfl qZ)) hB [12,11,10,3,2] [103,102,101,60,0] rfl rfl fun a w F hS=>Za ?_
   replace hS:=hS.ent (i:=12) (s':=.pv (.int .i64 ((i+1:Nat):Int))) rfl (.int (Ze (by omega)))
   obtain ⟨F,hS⟩:=hS.nm [11,10,3,2,12] [101,0,60,102] rfl rfl
   exact ⟨((i+1),(es2),(ck2)),F,⟨by omega,hR2⟩,hS,by omega⟩
  have hdn:(Go.Gm.nth g.txs i).done=true:=by simpa using hc1
  refine wp_skip (Za (wp_seq ?_))
  refine Zb hS (qe 3 103 r1 r1 (qf (oP (Zlm (Go.Gm.nth g.txs i) (by have:=hxl hio;omega)) Tryz.func102 (Args.one (.pagg .t))) r1 qz (qu Tryz.underlying41 r1 (qJ qZ)))) hB [22,21,20,12,11,10,5,3,2] [103,102,101,60,0] rfl rfl fun a w F hS=>?_
  rw [show ZaO (((Go.Gm.nth g.txs i).ops.filter fun o=>!o.read).map OpD.key)=ZJ (Go.Gm.nth g.txs i) from rfl] at hS
  refine Za (wp_block ?_)
  refine Zl (σ:=(Nat)×(List (GE Int (Value×List Int)))×(Nat)) [2,3,5,10,11,12,20,21] [0,101,103] (fun s=>[(22,.pv (.int .i64 (s.1:Int)))]) (fun s=>[(102,.ob (.val v8) (ZdC (fun p:Value×List Int=>PV.is p.1) (fun _=>True) (fun n:Int=>Value.int .i64 n) s.2.1 s.2.2)),(60,ZlN 3 1 rInt s.2.1)]) (fun s=>s.1≤(ZJ (Go.Gm.nth g.txs i)).length∧(WrV s.2.1 (g.txs.take i) (Go.Gm.nth g.txs i).id ((ZJ (Go.Gm.nth g.txs i)).take s.1))) (fun s=>(ZJ (Go.Gm.nth g.txs i)).length - s.1) ((0),(es),(ck)) hS ⟨rfl,rfl,rfl,rfl,rfl,rfl,rfl,rfl,rfl,trivial⟩ ⟨rfl,rfl,rfl,rfl,rfl,trivial⟩ ⟨Nat.zero_le _,(by simpa using Zl5 hw0)⟩ ?_
  clear hS;intro s a w F hC hS
  obtain ⟨j,es,ck⟩:=s
  try dsimp only at hC
  obtain ⟨F,hS⟩:=hS.nm [22,21,20,12,11,10,5,3,2] [103,102,101,60,0] rfl rfl
  try dsimp only at hS
  obtain ⟨hi,hq⟩:=hC
  refine wp_seq ?_
  refine Zb hS (qL r2) hB [23,22,21,20,12,11,10,5,3,2] [103,102,101,60,0] rfl rfl fun a w F hS=>Za (wp_seq ?_)
  refine Zd hS rfl (fun hc2=>?_) (fun hc2=>?_)
  ·skip
   have hil:j<(ZJ (Go.Gm.nth g.txs i)).length:=by simp at hc2;omega
   have hwo:=ZmM hq (Zfk _) hil
   have hwn:=Za6 (g.txs.take i) (Go.Gm.nth (ZJ (Go.Gm.nth g.txs i)) j)
   rw [List.length_take] at hwn
   rw [← hwo] at hwn
   refine wp_skip (Za (wp_seq (wp_block (wp_seq ?_))))
   refine Zb hS (qy 1 Tryz.underlying41 r2 (qf (oR false 1 .t) r1 qz (qN rfl rfl qZ))) hB [22,21,20,12,11,10,7,5,3,2] [103,102,101,60,0] rfl rfl fun a w F hS=>?_
   try simp only [Int.toNat_natCast] at hS
   refine Za ?_
   refine ZbN 5 hS (by kernel_rfl) (cG rfl (oM .t) r1 trivial (cG rfl (oM .t) r1 trivial (cG rfl (oM .t) r1 trivial (cG rfl (oM .t) r1 trivial (cG rfl (Zbn (ek:=(fun p:Value×List Int=>PV.is p.1)) (z0:=Zgy) 102 Tryz.underlying78 (Zgq Tryz.underlying3) (by kernel_rfl) (fun _ _=>⟨rfl,rfl⟩) .is (Z7.int .t rfl)) r2 r1 ZW.nil))))) (by kernel_rfl) (by rw [hB];kernel_rfl) fun a w F hS=>?_
   obtain ⟨F,hS⟩:=hS.nm [30,27,26,22,21,20,12,11,10,5,3,2] [103,102,101,60,0] rfl rfl
   try dsimp only [Zj,rTx,Zs,Zv,rInt,rOp] at hS
   obtain ⟨F,hS⟩:=hS.takeKey (T:=3) (sz:=1) (R:=rInt) 60 61 (Go.Gm.nth (ZJ (Go.Gm.nth g.txs i)) j) rfl rfl
   obtain ⟨F,hS⟩:=hS.nm [30,27,26,22,21,20,12,11,10,5,3,2] [103,102,101,61,60,0] rfl rfl
   refine Zg6 4 hS (by kernel_rfl) (cG rfl (oF 0 103 .is) r1 r1 (cG rfl (oL false 1 103 .adr) r1 r1 (cG rfl (Zh (sz:=1) (zs:=[.int .i64 0]) (r:=[(0,.tmp 32)]) (l:=[_]) Tryz.underlying41 (by kernel_rfl) (by kernel_rfl) (by kernel_rfl) (by kernel_rfl) rfl rfl (.one rfl .t one_int (by kernel_rfl) .nil) rfl) r1 trivial (cG rfl (o_append (sz:=1) (bs:=8) 61 (.mk' Tryz.underlying41 (by kernel_rfl) (by kernel_rfl)) (by intro x;rfl) .is (.arr (l':=[_]) .t) (by simp only [List.length_append,List.length_cons,List.length_nil];omega) (by decide)) ⟨rfl,rfl,trivial⟩ ⟨rfl,trivial⟩ ZW.nil)))) (by kernel_rfl) (by rw [hB];kernel_rfl) fun a w F hS=>?_
   replace hS:=hS.sub
   obtain ⟨F,hS⟩:=hS.nm [34,27,26,22,21,20,12,11,10,5,3,2] [103,102,101,61,60,0] rfl rfl
   try dsimp only [RS.sub,SF.sub,CF.sub,csub,Anc.sub,List.map,Zf,xL,xM,Nat.reduceAdd,xD,xE,xT,xU,xC,xN,zCF,ldSF,Zj,rTx,Zs,Zv,rInt,rOp] at hS
   generalize Act.tau a 34=v34 at hS
   refine Zb7 hS (by kernel_rfl) (cG rfl (Zd3 (ek:=(fun p:Value×List Int=>PV.is p.1)) (v:=((v34,((gGet (Go.Gm.nth (ZJ (Go.Gm.nth g.txs i)) j) es).getD Zgy).2 ++ [(Go.Gm.nth g.txs i).id]):Value×List Int)) 102 Tryz.underlying78 (Zgq Tryz.underlying3) .is (Z7.int .t rfl) .t) r3 r1 ZW.nil) (by kernel_rfl) (by rw [hB];kernel_rfl) fun a w F hS=>?_
   obtain ⟨F,hS⟩:=hS.nm [22,21,20,12,11,10,5,3,2] [103,102,101,61,60,0] rfl rfl
   try dsimp only [Zj,rTx,Zs,Zv,rInt,rOp] at hS
   refine Zi (Za ?_)
   refine Zb hS (qp r1 (qM rfl rfl qZ)) hB [22,21,20,12,11,10,5,3,2] [103,102,101,61,60,0] rfl rfl fun a w F hS=>Za ?_
   obtain ⟨F,hS⟩:=hS.putKey (T:=3) (sz:=1) (R:=rInt) 60 61 (Go.Gm.nth (ZJ (Go.Gm.nth g.txs i)) j) ck rfl rfl rfl
   replace hS:=hS.ent (i:=22) (s':=.pv (.int .i64 ((j+1:Nat):Int))) rfl (.int (Ze (by omega)))
   obtain ⟨F,hS⟩:=hS.nm [21,20,12,11,10,5,3,2,22] [103,101,0,60,102] rfl rfl
   exact ⟨((j+1),((gPut (Go.Gm.nth (ZJ (Go.Gm.nth g.txs i)) j) (v34,((gGet (Go.Gm.nth (ZJ (Go.Gm.nth g.txs i)) j) es).getD Zgy).2 ++ [(Go.Gm.nth g.txs i).id]) (es,ck)).1),((gPut (Go.Gm.nth (ZJ (Go.Gm.nth g.txs i)) j) (v34,((gGet (Go.Gm.nth (ZJ (Go.Gm.nth g.txs i)) j) es).getD Zgy).2 ++ [(Go.Gm.nth g.txs i).id]) (es,ck)).2)),F,⟨by omega,ZmU hq (Zfk _) hil⟩,hS,by omega⟩
  have hil:j=(ZJ (Go.Gm.nth g.txs i)).length:=by simp at hc2;omega
  obtain ⟨es2,he2⟩:∃ z,z=es:=⟨_,rfl⟩
  obtain ⟨ck2,hc2⟩:∃ z,z=ck:=⟨_,rfl⟩
  rw [hil,List.take_length] at hq
  have hR2:WrV es2 (g.txs.take (i+1)) 0 []:=by rw [he2];exact ZmS hq hio hdn
  rw [← he2,← hc2] at hS
  refine wp_exit (Zk (Zk (Zq (Zi (Za ?_)))))
  refine Zb hS (qp r1 (qM rfl rfl qZ)) hB [12,11,10,3,2] [103,102,101,60,0] rfl rfl fun a w F hS=>Za ?_
  replace hS:=hS.ent (i:=12) (s':=.pv (.int .i64 ((i+1:Nat):Int))) rfl (.int (Ze (by omega)))
  obtain ⟨F,hS⟩:=hS.nm [11,10,3,2,12] [101,0,60,102] rfl rfl
  exact ⟨((i+1),(es2),(ck2)),F,⟨by omega,hR2⟩,hS,by omega⟩
 have hil:i=g.txs.length:=by simp at hc0;omega
 have hwl:=Zmv hq
 rw [hil,List.take_length] at hwl
 refine wp_exit (Zk (Zk (Zq (Za (wp_seq ?_)))))
 refine Zb hS (qM rfl rfl (qN rfl rfl qZ)) hB [2] [102,101,60,0] rfl rfl fun a w F hS=>Za (wp_ret ?_)
 obtain ⟨F,hS⟩:=hS.giveMap 102 60 rfl rfl rfl
 obtain ⟨F,hS⟩:=hS.rename 102 1 rfl rfl
 have hS:=hS.turn 1 rfl (r':=RS.hp (HP.ex fun s:List (GE Int (List Int))×Nat=>HP.and (WrL s.1 g.txs) (ZdC (fun l:List Int=>PV.sl rInt l) (fun _=>True) (fun n:Int=>Value.int .i64 n) s.1 s.2 v8))) (fun _ _ _ _ h=>⟨(Zd9 es,ck),hwl,h⟩)
 refine Zat (h':=fun v=>HP.ex fun s:List (GE Int (List Int))×Nat=>HP.and (WrL s.1 g.txs) (ZdC (fun l:List Int=>PV.sl rInt l) (fun _=>True) (fun n:Int=>Value.int .i64 n) s.1 s.2 v)) hG hS rfl (.tmp rfl .nil) (.one .one) rfl
theorem ZaN (g:Zn) (hs:ZaK g):FnP Tryz.prog 35 [.agg (Zj g)] (.bool (decide (Zx g))):=by
 refine FnP.mk Tryz.func35 rfl Tryz.ntmps35 rfl ?_
 intro B a w F hB hfr hS
 have hsl:=hs.1.1
 have hso:=hs.2.1
 refine wp_seq ?_
 refine Zc hS (qx 101 r1 qB) hB [2,1] [101,0] (fun _=>rfl) (fun _=>rfl) fun τ a w F hS=>?_
 try dsimp only [RS.sub,SF.sub,CF.sub,csub,Anc.sub,List.map,zCF,Zj,rTx,Zs,Zv,rInt,rOp] at hS
 generalize τ 1=v1 at hS
 refine Za (wp_seq (wp_seq ?_))
 refine Zb hS (qg 0 101 r1 r1 (qa 101 r1 r1 (qu Tryz.underlying22 r1 (qf (ZaR .t qi) r1 qz qZ)))) hB [11,2,1] [101,0] rfl rfl fun a w F hS=>Za ?_
 refine Zd hS rfl (fun hc0=>?_) (fun hc0=>?_)
 ·skip
  have hg:=ZcQ (h:=g) (by simp at hc0;omega)
  refine wp_seq ?_
  refine Zb hS qB hB [2,1] [101,0] rfl rfl fun a w F hS=>Za (wp_ret (Zg ?_))
  refine Zr hfr hS rfl rfl rfl (.bool hg)
 have hlong:g.txs.length≤4096:=by simp at hc0;omega
 refine wp_skip (Za (wp_seq (wp_seq ?_)))
 refine Zb hS (qg 0 101 r1 r1 (qa 101 r1 r1 (qu Tryz.underlying22 r1 (qJ qZ)))) hB [15,14,13,2,1] [101,0] rfl rfl fun a w F hS=>Za (wp_block ?_)
 refine Zl (σ:=(Nat)) [1,2,13,14] [0,101] (fun s=>[(15,.pv (.int .i64 (s:Int)))]) (fun s=>[]) (fun s=>s≤g.txs.length∧(∀ k,k<s→Zjk g k)) (fun s=>g.txs.length - s) (0) hS ⟨rfl,rfl,rfl,rfl,rfl,trivial⟩ ⟨rfl,rfl,trivial⟩ ⟨Nat.zero_le _,fun k hk=>absurd hk (Nat.not_lt_zero k)⟩ ?_
 clear hS;intro i a w F hC hS
 try dsimp only at hC
 obtain ⟨F,hS⟩:=hS.nm [15,14,13,2,1] [101,0] rfl rfl
 try dsimp only at hS
 obtain ⟨hi,hq⟩:=hC
 have hxl:=fun hil:i<g.txs.length=>hs.1.at hil
 have hiw:0<i→IntKind.wrap .i64 ((i:Int) - 1)=((i - 1:Nat):Int):=fun h0=>by rw [ZP (by omega)];omega
 refine wp_seq ?_
 refine Zb hS (qL r2) hB [16,15,14,13,2,1] [101,0] rfl rfl fun a w F hS=>Za (wp_seq ?_)
 refine Zd hS rfl (fun hc1=>?_) (fun hc1=>?_)
 ·skip
  have hil:i<g.txs.length:=by simp at hc1;omega
  refine wp_skip (Za (wp_seq (wp_block (wp_seq ?_))))
  refine Zc hS (qM rfl rfl (qy 3 Tryz.underlying22 r2 (qf (oR true 3 .t) r1 qz (qf (oH [.int .i64 0,.bool false,.slice none 0 0] 102) trivial qz (qN rfl rfl (qS 3 102 r2 r1 qZ)))))) hB [15,14,13,4,3,2,1] [102,101,0] (fun _=>rfl) (fun _=>rfl) fun τ a w F hS=>?_
  try dsimp only [RS.sub,SF.sub,CF.sub,csub,Anc.sub,List.map,Zf,xL,xM,Nat.reduceAdd,xD,xE,xT,xU,xC,xN,zCF,ldSF,Zj,rTx,Zs,Zv,rInt,rOp] at hS
  generalize τ 4=v4 at hS
  try simp only [Int.toNat_natCast] at hS
  refine Za (wp_seq ?_)
  refine ZE hS (qM rfl rfl (qf (ZaR .t qi) r1 qz (qM rfl rfl (qv 0 101 rfl r2 r1 (qw 101 rfl r2 r1 (qm rfl rfl rfl rfl (qk rfl (fun h=>o_sub (.w h) qi) r2 qz (qk rfl (fun h=>Z3 (sz:=3) (.mk Tryz.underlying22 (by kernel_rfl)) (by intro x;rfl) (.w h) (.w h) (by rw [hiw (by simpa using h)];omega) (by rw [hiw (by simpa using h)];omega)) r3 qz (qk rfl (fun h=>oG 0 (.w h)) r2 qz (qk rfl (fun h=>oR false 1 (.w h)) r2 qz (qv 0 102 rfl r2 r1 (qw 102 rfl r2 r1 (qk rfl (fun h=>ZbF (.w h) (.w h)) r3 qz (qf (Zy .t .t) r2 qz (qM rfl rfl (qk rfl (fun h=>oL true 3 102 .is) r2 r1 (qk rfl (fun h=>oP (Zcj (Go.Gm.nth g.txs i)) Tryz.func86 (Args.one (.pagg (.w h)))) r2 qz (qk rfl (fun h=>o_neq (.w h) qi) r2 qz (qf (ZaI .t .t) r2 qz (qM rfl rfl (qk rfl (fun h=>oL true 2 101 .is) r2 r1 (qk rfl (fun h=>oL true 3 102 .is) r2 r1 (qk rfl (fun h=>oP (ZcZ g (Go.Gm.nth g.txs i) hs.1 (by have:=hxl hil;omega)) Tryz.func87 (Args.two (.pagg (.w h)) (.pagg (.w h)))) r3 qz (qk rfl (fun h=>o_not (.w h)) r2 qz (qf (ZaI .t .t) r2 qz qZ))))))))))))))))))))))))) hB [44,15,14,13,2,1] [102,101,0] rfl rfl fun a w F hS=>?_
  try dsimp only [List.map,xD,xE,xT,xU,ldSF,Zj,rTx,Zs,Zv,rInt,rOp] at hS
  try simp only [Int.toNat_natCast] at hS
  refine Za ?_
  refine Zd hS rfl (fun hc2=>?_) (fun hc2=>?_)
  ·skip
   have hbad:¬ Zjk g i:=by
     rintro ⟨g1,g2,g3⟩
     have h9:=hc2
     by_cases hi0:0<i
     · rw [hiw hi0,Int.toNat_natCast] at h9
       have:=g1 hi0
       simp [g2,g3] at h9
       omega
     · have hi1:i=0:=by omega
       subst hi1
       simp [g2,g3] at h9
   have hg:=Zea hil hbad
   refine wp_seq ?_
   refine Zb hS qB hB [15,14,13,2,1] [102,101,0] rfl rfl fun a w F hS=>Za (wp_ret (Zm (Zg (Zg (Zm (Zg ?_))))))
   refine Zr hfr hS rfl rfl rfl (.bool hg)
  have hgood:Zjk g i:=by
    have h9:=hc2
    by_cases hi0:0<i
    · rw [hiw hi0,Int.toNat_natCast] at h9
      simp at h9
      exact ⟨fun _=>by omega,by omega,h9.2⟩
    · have hi1:i=0:=by omega
      subst hi1
      simp at h9
      exact ⟨fun h0=>absurd h0 (Nat.lt_irrefl 0),h9.1,h9.2⟩
  refine wp_skip (Zi (Za ?_))
  refine Zb hS (qp r1 (qM rfl rfl qZ)) hB [15,14,13,2,1] [102,101,0] rfl rfl fun a w F hS=>Za ?_
  replace hS:=hS.ent (i:=15) (s':=.pv (.int .i64 ((i+1:Nat):Int))) rfl (.int (Ze (by omega)))
  obtain ⟨F,hS⟩:=hS.nm [14,13,2,1,15] [101,0] rfl rfl
  exact ⟨(i+1),F,⟨by omega,(fun k hk=>by rcases Nat.lt_or_eq_of_le (Nat.le_of_lt_succ hk) with h9 | h9;exact hq k h9;rw [h9];exact hgood)⟩,hS,by omega⟩
 have hil:i=g.txs.length:=by simp at hc1;omega
 have hall:∀ k,k<g.txs.length→Zjk g k:=by rw [← hil];exact hq
 have hkn:=Zg2 hs.1
 refine wp_exit (Zk (Zk (Zq (Za (wp_seq ?_)))))
 refine Zb hS (qe 2 101 r1 r1 (qf (oP (ZjI g hs.1) Tryz.func88 (Args.one (.pagg .t))) r1 qz (qN rfl rfl qZ))) hB [5,2,1] [101,0] rfl rfl fun a w F hS=>Za (wp_seq (wp_seq ?_))
 refine Zb hS (qg 1 101 r1 r1 (qa 101 r1 r1 (qu Tryz.underlying23 r1 (qM rfl rfl (qu Tryz.underlying41 r1 (qf (o_neq .t .t) r2 qz qZ)))))) hB [53,5,2,1] [101,0] rfl rfl fun a w F hS=>Za ?_
 refine Zd hS rfl (fun hc3=>?_) (fun hc3=>?_)
 ·skip
  have hg:=Zdg (h:=g) (by simp at hc3;omega)
  refine wp_seq ?_
  refine Zb hS qB hB [5,2,1] [101,0] rfl rfl fun a w F hS=>Za (wp_ret (Zg ?_))
  refine Zr hfr hS rfl rfl rfl (.bool hg)
 have hle:g.orders.length=(Zaq g.txs).length:=by simp at hc3;omega
 refine wp_skip (Za (wp_seq (wp_seq ?_)))
 refine Zb hS (qg 1 101 r1 r1 (qa 101 r1 r1 (qu Tryz.underlying23 r1 (qJ qZ)))) hB [57,56,55,5,2,1] [101,0] rfl rfl fun a w F hS=>Za (wp_block ?_)
 refine Zl (σ:=(Nat)) [1,2,5,55,56] [0,101] (fun s=>[(57,.pv (.int .i64 (s:Int)))]) (fun s=>[]) (fun s=>s≤g.orders.length∧(∀ k,k<s→Zgc g k)) (fun s=>g.orders.length - s) (0) hS ⟨rfl,rfl,rfl,rfl,rfl,rfl,trivial⟩ ⟨rfl,rfl,trivial⟩ ⟨Nat.zero_le _,fun k hk=>absurd hk (Nat.not_lt_zero k)⟩ ?_
 clear hS;intro i a w F hC hS
 try dsimp only at hC
 obtain ⟨F,hS⟩:=hS.nm [57,56,55,5,2,1] [101,0] rfl rfl
 try dsimp only at hS
 obtain ⟨hi,hq⟩:=hC
 have hol:=fun hil:i<g.orders.length=>hs.2.at hil
 have hwl:=fun k=>Za6 g.txs k
 refine wp_seq ?_
 refine Zb hS (qL r2) hB [58,57,56,55,5,2,1] [101,0] rfl rfl fun a w F hS=>Za (wp_seq ?_)
 refine Zd hS rfl (fun hc4=>?_) (fun hc4=>?_)
 ·skip
  have hil:i<g.orders.length:=by simp at hc4;omega
  refine wp_skip (Za (wp_seq (wp_block (wp_seq ?_))))
  refine Zc hS (qM rfl rfl (qy 2 Tryz.underlying23 r2 (qf (oR true 2 .t) r1 qz (qf (oH [.int .i64 0,.slice none 0 0] 103) trivial qz (qN rfl rfl (qS 2 103 r2 r1 qZ)))))) hB [57,56,55,7,6,5,2,1] [103,101,0] (fun _=>rfl) (fun _=>rfl) fun τ a w F hS=>?_
  try dsimp only [RS.sub,SF.sub,CF.sub,csub,Anc.sub,List.map,Zf,xL,xM,Nat.reduceAdd,xD,xE,xT,xU,xC,xN,zCF,ldSF,Zj,rTx,Zs,Zv,rInt,rOp] at hS
  generalize τ 7=v7 at hS
  try simp only [Int.toNat_natCast] at hS
  refine Za (wp_seq ?_)
  refine ZE hS (qg 0 103 r1 r1 (qa 103 r1 r1 (qM rfl rfl (qM rfl rfl (qy 1 Tryz.underlying41 r2 (qf (oR false 1 .t) r1 qz (qf (o_neq .t .t) r2 qz (qM rfl rfl (qv 1 103 rfl r2 r1 (qw 103 rfl r2 r1 (qk rfl (fun h=>oL true 2 101 .is) r2 r1 (qv 0 103 rfl r2 r1 (qw 103 rfl r2 r1 (qk rfl (fun h=>oP (ZgZ g (Go.Gm.nth g.orders i).key hs.1) Tryz.func90 (Args.two (.pagg (.w h)) (.w h))) r3 qz (qk rfl (fun h=>oP (ZgA (Go.Gm.nth g.orders i).txs _) Tryz.func89 (Args.two (.w h) (.w h))) r3 qz (qk rfl (fun h=>o_not (.w h)) r2 qz (qf (ZaI .t .t) r2 qz qZ))))))))))))))))) hB [78,57,56,55,5,2,1] [103,101,0] rfl rfl fun a w F hS=>?_
  try dsimp only [List.map,xD,xE,xT,xU,ldSF,Zj,rTx,Zs,Zv,rInt,rOp] at hS
  try simp only [Int.toNat_natCast] at hS
  refine Za ?_
  refine Zd hS rfl (fun hc5=>?_) (fun hc5=>?_)
  ·skip
   have hbad:¬ Zgc g i:=by rintro ⟨g1,g2⟩;have h9:=hc5;simp [g1] at h9;rw [← g1] at h9;exact h9 g2
   have hg:=ZgC hil hbad
   refine wp_seq ?_
   refine Zb hS qB hB [57,56,55,5,2,1] [103,101,0] rfl rfl fun a w F hS=>Za (wp_ret (Zm (Zg (Zg (Zm (Zg ?_))))))
   refine Zr hfr hS rfl rfl rfl (.bool hg)
  have hgood:Zgc g i:=by have h9:=hc5;simp at h9;exact ⟨h9.1,h9.2⟩
  refine wp_skip (Zi (Za ?_))
  refine Zb hS (qp r1 (qM rfl rfl qZ)) hB [57,56,55,5,2,1] [103,101,0] rfl rfl fun a w F hS=>Za ?_
  replace hS:=hS.ent (i:=57) (s':=.pv (.int .i64 ((i+1:Nat):Int))) rfl (.int (Ze (by omega)))
  obtain ⟨F,hS⟩:=hS.nm [56,55,5,2,1,57] [101,0] rfl rfl
  exact ⟨(i+1),F,⟨by omega,(fun k hk=>by rcases Nat.lt_or_eq_of_le (Nat.le_of_lt_succ hk) with h9 | h9;exact hq k h9;rw [h9];exact hgood)⟩,hS,by omega⟩
 have hil:i=g.orders.length:=by simp at hc4;omega
 have hg:=Zjz hlong hall (by omega) (by rw [← hil];exact hq)
 refine wp_exit (Zk (Zk (Zq (Za (wp_seq ?_)))))
 refine Zb hS qB hB [2] [101,0] rfl rfl fun a w F hS=>Za (wp_ret ?_)
 refine Zr hfr hS rfl rfl rfl (.bool hg)
end Go.Proofs.YtjhapicamnijnaaGreat
