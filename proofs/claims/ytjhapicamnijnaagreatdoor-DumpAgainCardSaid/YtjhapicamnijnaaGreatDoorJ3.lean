/- Texts put together. No condition beyond those that each theorem says. -/
import Derived.Test.YtjhapicamnijnaaGreatDoorJ0
import Derived.Test.YtjhapicamnijnaaGreatDoorJ1
import Derived.Test.YtjhapicamnijnaaGreatDoorJ2
import Derived.Test.YtjhapicamnijnaaGreatDoorLibX
import Derived.Test.YtjhapicamnijnaaGreatDoorLibG
import Derived.Test.YtjhapicamnijnaaGreatDoorLibE
namespace Go.Proofs.YtjhapicamnijnaaGreatDoor
open Go Go.Gm
set_option linter.unusedVariables false
set_option linter.unusedSimpArgs false
set_option maxHeartbeats 4000000
set_option maxRecDepth 8000
theorem Zla (l:List Int) (v:Int):FnP Tryz.prog 122 [.sl rInt l,.int .i64 v] (.int .i64 (Zbl v l)):=by
 refine FnP.mk Tryz.func122 rfl Tryz.ntmps122 rfl ?_
 intro B a w F hB hfr hS
 have hll:=Sat.lenSl hS (i:=0) rfl
 refine wp_seq ?_
 refine Za hS (qI qZ) hB [4,1,0] [0] rfl rfl fun a w F hS=>Zb (wp_seq (wp_seq ?_))
 refine Za hS (qM rfl rfl (qu Tryz.underlying39 r1 (qJ qZ))) hB [8,7,4,1,0] [0] rfl rfl fun a w F hS=>Zb (wp_block ?_)
 refine Zp (σ:=(Nat)) [0,1,4,7] [0] (fun s=>[(8,.pv (.int .i64 (s:Int)))]) (fun s=>[]) (fun s=>s≤l.length∧(∀ k,k<s→Go.Gm.nth l k≠v)) (fun s=>l.length - s) (0) hS ⟨rfl,rfl,rfl,rfl,rfl,trivial⟩ ⟨rfl,trivial⟩ ⟨Nat.zero_le _,fun k hk=>absurd hk (Nat.not_lt_zero k)⟩ ?_
 clear hS;intro i a w F hC hS
 try dsimp only at hC
 obtain ⟨F,hS⟩:=hS.nm [8,7,4,1,0] [0] rfl rfl
 try dsimp only at hS
 obtain ⟨hi,hq⟩:=hC
 refine wp_seq ?_
 refine Za hS (qL r2) hB [9,8,7,4,1,0] [0] rfl rfl fun a w F hS=>Zb (wp_seq ?_)
 refine Zd hS rfl (fun hc0=>?_) (fun hc0=>?_)
 ·skip
  have hil:i<l.length:=by simp at hc0;omega
  refine wp_skip (Zb (wp_seq (wp_block (wp_seq ?_))))
  refine Za hS (qM rfl rfl (qN rfl rfl qZ)) hB [8,7,5,4,1,0] [0] rfl rfl fun a w F hS=>Zb (wp_seq ?_)
  refine Za hS (qM rfl rfl (qM rfl rfl (qM rfl rfl (qy 1 Tryz.underlying39 r2 (qf (oR false 1 .t) r1 qz (qf (o_eql .t .t) r2 qz qZ)))))) hB [16,8,7,5,4,1,0] [0] rfl rfl fun a w F hS=>?_
  try simp only [Int.toNat_natCast] at hS
  refine Zb ?_
  refine Zd hS rfl (fun hc1=>?_) (fun hc1=>?_)
  ·skip
   have hg:(i:Int)=Zbl v l:=(Znv hil (by simp at hc1;omega) hq).symm
   refine wp_seq ?_
   refine Za hS (qM rfl rfl (qN rfl rfl qZ)) hB [8,7,4,1,0] [0] rfl rfl fun a w F hS=>Zb (wp_ret (Zf (Ze (Ze (Zf (Ze ?_))))))
   refine Zm hfr hS rfl rfl rfl (.int hg)
  have hne:Go.Gm.nth l i≠v:=by simp at hc1;omega
  refine wp_skip (Zh (Zb ?_))
  refine Za hS (qp r1 (qM rfl rfl qZ)) hB [8,7,4,1,0] [0] rfl rfl fun a w F hS=>Zb ?_
  replace hS:=hS.ent (i:=8) (s':=.pv (.int .i64 ((i+1:Nat):Int))) rfl (.int (wrap_succ (by omega)))
  obtain ⟨F,hS⟩:=hS.nm [7,4,1,0,8] [0] rfl rfl
  exact ⟨(i+1),F,⟨by omega,(fun k hk=>by rcases Nat.lt_or_eq_of_le (Nat.le_of_lt_succ hk) with h | h;exact hq k h;rw [h];exact hne)⟩,hS,by omega⟩
 have hil:i=l.length:=by simp at hc0;omega
 have hg : -1=Zbl v l:=(Zfr fun k hk=>hq k (by simp at hc0;omega)).symm
 refine wp_exit (Zi (Zi (Zl (Zb (wp_seq ?_)))))
 refine Za hS (qI qZ) hB [4] [0] rfl rfl fun a w F hS=>Zb (wp_ret ?_)
 refine Zm hfr hS rfl rfl rfl (.int hg)
theorem Zj0 (l:List Int) (v:Int):FnP Tryz.prog 160 [.sl rInt l,.int .i64 v] (.bool (decide (v ∈ l))):=by
 refine FnP.mk Tryz.func160 rfl Tryz.ntmps160 rfl ?_
 intro B a w F hB hfr hS
 refine wp_seq ?_
 refine Za hS qB hB [4,1,0] [0] rfl rfl fun a w F hS=>Zb (wp_seq ?_)
 refine Za hS (qM rfl rfl (qM rfl rfl (qf (oP (Zla l v) Tryz.func122 (Args.two .t .t)) r2 qz (qf (ZdO .t qi) r1 qz (qN rfl rfl qZ))))) hB [4] [0] rfl rfl fun a w F hS=>Zb (wp_ret ?_)
 refine Zm hfr hS rfl rfl rfl (.bool (by rw [decide_eq_decide];exact ZlK))
theorem ZoB (x y:List Int):FnP Tryz.prog 66 [.sl rInt x,.sl rInt y] (.bool (decide (x=y))):=by
 refine FnP.mk Tryz.func66 rfl Tryz.ntmps66 rfl ?_
 intro B a w F hB hfr hS
 have hxl:=Sat.lenSl hS (i:=0) rfl
 refine wp_seq ?_
 refine Za hS qB hB [4,1,0] [0] rfl rfl fun a w F hS=>Zb (wp_seq (wp_seq ?_))
 refine Za hS (qM rfl rfl (qu Tryz.underlying39 r1 (qM rfl rfl (qu Tryz.underlying39 r1 (qf (o_neq .t .t) r2 qz qZ))))) hB [10,4,1,0] [0] rfl rfl fun a w F hS=>Zb ?_
 refine Zd hS rfl (fun hc0=>?_) (fun hc0=>?_)
 ·skip
  have hg:false=decide (x=y):=by
    rw [eq_comm,decide_eq_false_iff_not]
    intro h
    subst h
    simp at hc0
  refine wp_seq ?_
  refine Za hS qB hB [4,1,0] [0] rfl rfl fun a w F hS=>Zb (wp_ret (Ze ?_))
  refine Zm hfr hS rfl rfl rfl (.bool hg)
 have hl:x.length=y.length:=by simp at hc0;omega
 refine wp_skip (Zb (wp_seq (wp_seq ?_)))
 refine Za hS (qM rfl rfl (qu Tryz.underlying39 r1 (qJ qZ))) hB [13,12,4,1,0] [0] rfl rfl fun a w F hS=>Zb (wp_block ?_)
 obtain ⟨F,hS⟩:=hS.nm [13,12,1,0] [0] rfl rfl
 refine ZC (σ:=Nat) (fun s=>(⟨[(0,.pv (.sl rInt x)),(1,.pv (.sl rInt y)),(12,.pv (.int .i64 x.length)),(13,.pv (.int .i64 s))],[(0,frame B)]⟩:En)) (fun s=>s≤x.length ∧ ∀ j,j<s→Go.Gm.nth x j=Go.Gm.nth y j) (fun s=>x.length - s) 0 hS ⟨Nat.zero_le _,fun j hj=>absurd hj (Nat.not_lt_zero j)⟩ ?_
 clear hS;intro i a w F hC hS
 try dsimp only at hC
 try dsimp only at hS
 obtain ⟨hi,hq⟩:=hC
 refine wp_seq ?_
 refine Za hS (qL r2) hB [14,13,12,1,0] [0] rfl rfl fun a w F hS=>Zb (wp_seq ?_)
 refine Zd hS rfl (fun hc1=>?_) (fun hc1=>?_)
 ·skip
  have hil:i<x.length:=by simp at hc1;omega
  refine wp_skip (Zb (wp_seq (wp_block (wp_seq ?_))))
  refine Za hS (qM rfl rfl (qN rfl rfl qZ)) hB [13,12,5,1,0] [0] rfl rfl fun a w F hS=>Zb (wp_seq ?_)
  refine Zw hS (qM rfl rfl (qM rfl rfl (qy 1 Tryz.underlying39 r2 (qf (oR false 1 .t) r1 qz (qM rfl rfl (qM rfl rfl (qy 1 Tryz.underlying39 r2 (qf (oR false 1 .t) r1 qz (qf (o_neq .t .t) r2 qz qZ))))))))) hB [24,13,12,1,0] [0] rfl rfl fun a w F hS=>?_
  try dsimp only [List.map,xD,xE,xT,xU,ldSF] at hS
  refine Zb ?_
  refine Zd hS rfl (fun hc2=>?_) (fun hc2=>?_)
  ·skip
   have hg:false=decide (x=y):=by
     rw [eq_comm,decide_eq_false_iff_not]
     intro h
     subst h
     simp at hc2
   refine wp_seq ?_
   refine Za hS qB hB [13,12,4,1,0] [0] rfl rfl fun a w F hS=>Zb (wp_ret (Zf (Ze (Ze (Zf (Ze ?_))))))
   refine Zm hfr hS rfl rfl rfl (.bool hg)
  rw [Int.toNat_natCast] at hc2
  have hqi:Go.Gm.nth x i=Go.Gm.nth y i:=by simpa using hc2
  refine wp_skip (Zh (Zb ?_))
  refine Za hS (qp r1 (qM rfl rfl qZ)) hB [13,12,1,0] [0] rfl rfl fun a w F hS=>Zb ?_
  replace hS:=hS.ent (i:=13) (s':=.pv (.int .i64 ((i+1:Nat):Int))) rfl (.int (wrap_succ (by omega)))
  obtain ⟨F,hS⟩:=hS.nm [13,12,1,0] [0] rfl rfl
  exact ⟨i+1,F,⟨by omega,fun j hj=>by rcases Nat.lt_or_eq_of_le (Nat.le_of_lt_succ hj) with h | h;exact hq j h;rw [h];exact hqi⟩,hS,by omega⟩
 have hg:true=decide (x=y):=by
   rw [eq_comm,decide_eq_true_eq]
   exact ZaU hl fun j hj=>hq j (by simp at hc1;omega)
 refine wp_exit (Zi (Zi (Zl (Zb (wp_seq ?_)))))
 refine Za hS qB hB [4] [0] rfl rfl fun a w F hS=>Zb (wp_ret ?_)
 refine Zm hfr hS rfl rfl rfl (.bool hg)
theorem ZqJ (x y:List Int):FnP Tryz.prog 35 [.sl rInt x,.sl rInt y] (.bool (decide (x=y))):=by
 refine FnP.mk Tryz.func35 rfl Tryz.ntmps35 rfl ?_
 intro B a w F hB hfr hS
 refine wp_seq ?_
 refine Za hS qB hB [4,1,0] [0] rfl rfl fun a w F hS=>Zb (wp_seq ?_)
 refine Za hS (qM rfl rfl (qM rfl rfl (qf (oP (ZoB x y) Tryz.func66 (Args.two .t .t)) r2 qz (qN rfl rfl qZ)))) hB [4] [0] rfl rfl fun a w F hS=>Zb (wp_ret ?_)
 refine Zm hfr hS rfl rfl rfl .refl
theorem Zns (x y:List Int) (hx:x.length≤1000000) (hy:y.length≤1000000):FnP Tryz.prog 26 [.sl rInt x,.sl rInt y] (.bool (decide (x.Perm y))):=by
 refine FnP.mk Tryz.func26 rfl Tryz.ntmps26 rfl ?_
 intro B a w F hB hfr hS
 refine wp_seq ?_
 refine Za hS qB hB [4,1,0] [0] rfl rfl fun a w F hS=>Zb (wp_seq ?_)
 replace hS:=hS.fresh 101 rfl
 replace hS:=hS.fresh 102 rfl
 refine Zc hS (qM rfl rfl (qf (Zbz 101 (Zc2 x hx) Tryz.func64 rfl (by kernel_rfl) (Args.one .t) Za3) r1 r1 (qM rfl rfl (qf (Zbz 102 (Zc2 y hy) Tryz.func64 rfl (by kernel_rfl) (Args.one .t) Za3) r1 r1 (qN rfl rfl (qN rfl rfl qZ)))))) hB [6,5,4] [102,101,0] (fun _=>rfl) (fun _=>rfl) fun τ a w F hS=>?_
 try dsimp only [RS.sub,SF.sub,CF.sub,csub,Anc.sub,List.map,rInt] at hS
 generalize τ 8=v8 at hS
 generalize τ 10=v10 at hS
 refine Zb (wp_seq ?_)
 refine Za hS (qM rfl rfl (qf (Zd1 101 (Zk1 _ x hx) Tryz.func65 rfl (by kernel_rfl) (Args.one .t)) r1 r1 qZ)) hB [6,5,4] [102,101,0] rfl rfl fun a w F hS=>Zb (wp_seq ?_)
 refine Za hS (qM rfl rfl (qf (Zd1 102 (Zk1 _ y hy) Tryz.func65 rfl (by kernel_rfl) (Args.one .t)) r1 r1 qZ)) hB [6,5,4] [102,101,0] rfl rfl fun a w F hS=>Zb (wp_seq ?_)
 refine Za hS (qM rfl rfl (qM rfl rfl (qf (OpC.lendRow 102 [16] (OpC.lendRow 101 [15] (oP (ZoB _ _) Tryz.func66 (Args.two .t .t)) ⟨rfl,trivial,trivial⟩ (.pv (fun _ _ _ _ h=>h)) trivial (by rfl)) ⟨trivial,rfl,trivial⟩ (.pv (fun _ _ _ _ h=>h)) trivial (by rfl)) r2 r2 (qN rfl rfl qZ)))) hB [4] [102,101,0] rfl rfl fun a w F hS=>Zb (wp_ret ?_)
 refine Zm hfr hS rfl rfl rfl (.bool (by rw [decide_eq_decide];exact ZoH))
theorem ZqC (x y:List OpD):FnP Tryz.prog 116 [.sl rOp x,.sl rOp y] (.bool (decide (x=y))):=by
 refine FnP.mk Tryz.func116 rfl Tryz.ntmps116 rfl ?_
 intro B a w F hB hfr hS
 have hxl:=Sat.lenSl hS (i:=0) rfl
 refine wp_seq ?_
 refine Za hS qB hB [4,1,0] [0] rfl rfl fun a w F hS=>Zb (wp_seq (wp_seq ?_))
 refine Za hS (qM rfl rfl (qu Tryz.underlying36 r1 (qM rfl rfl (qu Tryz.underlying36 r1 (qf (o_neq .t .t) r2 qz qZ))))) hB [10,4,1,0] [0] rfl rfl fun a w F hS=>Zb ?_
 refine Zd hS rfl (fun hc0=>?_) (fun hc0=>?_)
 ·skip
  have hg:false=decide (x=y):=by
    rw [eq_comm,decide_eq_false_iff_not]
    intro h
    subst h
    simp at hc0
  refine wp_seq ?_
  refine Za hS qB hB [4,1,0] [0] rfl rfl fun a w F hS=>Zb (wp_ret (Ze ?_))
  refine Zm hfr hS rfl rfl rfl (.bool hg)
 have hl:x.length=y.length:=by simp at hc0;omega
 refine wp_skip (Zb (wp_seq (wp_seq ?_)))
 refine Za hS (qM rfl rfl (qu Tryz.underlying36 r1 (qJ qZ))) hB [13,12,4,1,0] [0] rfl rfl fun a w F hS=>Zb (wp_block ?_)
 obtain ⟨F,hS⟩:=hS.nm [13,12,1,0] [0] rfl rfl
 refine ZC (σ:=Nat) (fun s=>(⟨[(0,.pv (.sl rOp x)),(1,.pv (.sl rOp y)),(12,.pv (.int .i64 x.length)),(13,.pv (.int .i64 s))],[(0,frame B)]⟩:En)) (fun s=>s≤x.length ∧ ∀ j,j<s→Go.Gm.nth x j=Go.Gm.nth y j) (fun s=>x.length - s) 0 hS ⟨Nat.zero_le _,fun j hj=>absurd hj (Nat.not_lt_zero j)⟩ ?_
 clear hS;intro i a w F hC hS
 try dsimp only at hC
 try dsimp only at hS
 obtain ⟨hi,hq⟩:=hC
 refine wp_seq ?_
 refine Za hS (qL r2) hB [14,13,12,1,0] [0] rfl rfl fun a w F hS=>Zb (wp_seq ?_)
 refine Zd hS rfl (fun hc1=>?_) (fun hc1=>?_)
 ·skip
  have hil:i<x.length:=by simp at hc1;omega
  refine wp_skip (Zb (wp_seq (wp_block (wp_seq ?_))))
  refine Za hS (qM rfl rfl (qN rfl rfl qZ)) hB [13,12,5,1,0] [0] rfl rfl fun a w F hS=>Zb (wp_seq ?_)
  refine Zw hS (qM rfl rfl (qM rfl rfl (qy 4 Tryz.underlying36 r2 (qf (oR true 4 .t) r1 qz (qM rfl rfl (qM rfl rfl (qy 4 Tryz.underlying36 r2 (qf (oR true 4 .t) r1 qz (qf (Zn9 (ks:=[false,true,true,true]) (by kernel_rfl) .t .t (.bool (.int (.int (.int .nil))))) r2 qz qZ))))))))) hB [24,13,12,1,0] [0] rfl rfl fun a w F hS=>?_
  try dsimp only [List.map,xD,xE,xT,xU,ldSF] at hS
  refine Zb ?_
  refine Zd hS rfl (fun hc2=>?_) (fun hc2=>?_)
  ·skip
   have hg:false=decide (x=y):=by
     rw [eq_comm,decide_eq_false_iff_not]
     intro h
     subst h
     simp at hc2
   refine wp_seq ?_
   refine Za hS qB hB [13,12,4,1,0] [0] rfl rfl fun a w F hS=>Zb (wp_ret (Zf (Ze (Ze (Zf (Ze ?_))))))
   refine Zm hfr hS rfl rfl rfl (.bool hg)
  rw [Int.toNat_natCast] at hc2
  have hqi:Go.Gm.nth x i=Go.Gm.nth y i:=Zp8 hc2
  refine wp_skip (Zh (Zb ?_))
  refine Za hS (qp r1 (qM rfl rfl qZ)) hB [13,12,1,0] [0] rfl rfl fun a w F hS=>Zb ?_
  replace hS:=hS.ent (i:=13) (s':=.pv (.int .i64 ((i+1:Nat):Int))) rfl (.int (wrap_succ (by omega)))
  obtain ⟨F,hS⟩:=hS.nm [13,12,1,0] [0] rfl rfl
  exact ⟨i+1,F,⟨by omega,fun j hj=>by rcases Nat.lt_or_eq_of_le (Nat.le_of_lt_succ hj) with h | h;exact hq j h;rw [h];exact hqi⟩,hS,by omega⟩
 have hg:true=decide (x=y):=by
   rw [eq_comm,decide_eq_true_eq]
   exact ZaU hl fun j hj=>hq j (by simp at hc1;omega)
 refine wp_exit (Zi (Zi (Zl (Zb (wp_seq ?_)))))
 refine Za hS qB hB [4] [0] rfl rfl fun a w F hS=>Zb (wp_ret ?_)
 refine Zm hfr hS rfl rfl rfl (.bool hg)
theorem Zo1 (x y:List OpD):FnP Tryz.prog 73 [.sl rOp x,.sl rOp y] (.bool (decide (x=y))):=by
 refine FnP.mk Tryz.func73 rfl Tryz.ntmps73 rfl ?_
 intro B a w F hB hfr hS
 refine wp_seq ?_
 refine Za hS qB hB [4,1,0] [0] rfl rfl fun a w F hS=>Zb (wp_seq ?_)
 refine Za hS (qM rfl rfl (qM rfl rfl (qf (oP (ZqC x y) Tryz.func116 (Args.two .t .t)) r2 qz (qN rfl rfl qZ)))) hB [4] [0] rfl rfl fun a w F hS=>Zb (wp_ret ?_)
 refine Zm hfr hS rfl rfl rfl .refl
theorem ZiU (c:UInt8):∀ s,sumL (ZG c s)≤s.length
 | []=>by simp [ZG,sumL]
 | b :: r=>by
   have ih:=ZiU c r
   rw [Zcx]
   split
   · simp only [sumL,List.map_cons,List.sum_cons,List.length_nil,List.length_cons] at ih ⊢
     omega
   · match hs:ZG c r with
     | []=>exact absurd hs (Zd6 c r)
     | x :: t=>
       rw [hs] at ih
       simp only [sumL,List.map_cons,List.sum_cons,List.length_cons] at ih ⊢
       omega
theorem Zke (s:List UInt8):(wordsR s=([],0)∧s = [])∨wordsR s=([],14)∨wordsR s=(ZG 32 s,0):=by
 unfold wordsR
 split
 · rename_i h;exact .inl ⟨rfl,h⟩
 · split
   · exact .inr (.inl rfl)
   · split
     · exact .inr (.inl rfl)
     · exact .inr (.inr rfl)
theorem ZjU (s:List UInt8):(wordsR s).1.length≤s.length+1∧sumL (wordsR s).1≤s.length:=by
 have h1:=ZdD 32 s
 have h2:=List.count_le_length (a:=32) (l:=s)
 rcases Zke s with ⟨h,_⟩ | h | h <;> rw [h]
 · simp [sumL]
 · simp [sumL]
 · exact ⟨by dsimp only;omega,ZiU 32 s⟩
def Zhf (w:List UInt8):Prop:=w≠[] ∧ ∀ k,k<w.length→32<(nth w k).toNat∧(nth w k).toNat<127
theorem Zlx:∀ l:List (List UInt8),(∀ x ∈ l,x.all okB=true)→(Z3 l).all okB=true
 | [],_=>rfl
 | [x],h=>h x (by simp)
 | x :: y :: r,h=>by
   have h1:=h x (by simp)
   have h2:=Zlx (y :: r) fun z hz=>h z (by simp only [List.mem_cons] at hz ⊢;exact .inr hz)
   rw [Z3,List.all_append,h1,List.all_cons,h2]
   rfl
theorem ZmA {ws:List (List UInt8)} (h:∀ j,j<ws.length→Zhf (nth ws j)):wordsR (Z3 ws)=(ws,0):=by
 have hm:∀ x ∈ ws,Zhf x:=fun x hx=>by
   obtain ⟨j,hj,rfl⟩:=List.getElem_of_mem hx
   rw [← Zn hj]
   exact h j hj
 have hc:∀ x ∈ ws,∀ c ∈ x,32<c.toNat∧c.toNat<127:=fun x hx c hc=>by
   obtain ⟨k,hk,rfl⟩:=List.getElem_of_mem hc
   rw [← Zn hk]
   exact (hm x hx).2 k hk
 by_cases h0:ws = []
 · subst h0;rfl
 · have hs:=Zgx ws h0 fun x hx hb=>by have:=(hc x hx 32 hb).1;simp at this
   have hne:Z3 ws≠[]:=by
     match ws,h0,hm with
     | [x],_,hm=>exact (hm x (by simp)).1
     | x :: y :: r,_,_=>simp [Z3]
   refine ZjY hne (Zlx ws fun x hx=>?_) hs.symm fun x hx=>(hm x hx).1
   rw [List.all_eq_true]
   intro c hcx
   have:=hc x hx c hcx
   unfold okB
   simp
   omega
structure CmdD where
 kind:Int
 tx:TxD
 order:OrdD
 key:Int
 id:Int
 place:Int
 phen:Int
 deriving DecidableEq,Inhabited
structure Zr3 where
 s:List UInt8
 least:Int
 most:Int
def rCmd (c:CmdD):List PV:=[.int .i64 c.kind,.int .i64 c.tx.id,.bool c.tx.done,.sl rOp c.tx.ops,.int .i64 c.order.key,.sl rInt c.order.txs,.int .i64 c.key,.int .i64 c.id,.int .i64 c.place,.int .i64 c.phen]
def rWd (d:Zr3):List PV:=[.bs d.s,.int .i64 d.least,.int .i64 d.most]
def zeroT:TxD:=⟨0,false,[]⟩
def zeroC (k:Int):CmdD:=⟨k,zeroT,⟨0,[]⟩,0,0,0,0⟩
def Ztc:List UInt8:=[97,100,100]
def Ztf:List UInt8:=[115,101,116]
def Zth:List UInt8:=[100,101,108]
def Ztj:List UInt8:=[111,114,100]
def Zs8:List UInt8:=[109,111,118]
def ZsU:List UInt8:=[117,110,100,111]
def ZsE:List UInt8:=[114,101,100,111]
def Zti:List UInt8:=[97,115,107]
def Ztk:List UInt8:=[119,104,121]
def ZsR:List UInt8:=[116,101,108,108]
def Zs5:List UInt8:=[115,105,122,101]
def ZsI:List UInt8:=[100,117,109,112]
def ZL (k:Int):Zr3:=
 if k=1 then ⟨Ztc,3,1073741824⟩ else if k=2 then ⟨Ztf,3,1073741824⟩ else if k=3 then ⟨Zth,2,2⟩ else if k=4 then ⟨Ztj,2,1073741824⟩
 else if k=5 then ⟨Zs8,4,4⟩ else if k=6 then ⟨ZsU,1,1⟩ else if k=7 then ⟨ZsE,1,1⟩ else if k=8 then ⟨Zti,1,1⟩
 else if k=9 then ⟨Ztk,2,2⟩ else if k=10 then ⟨ZsR,2,2⟩ else if k=11 then ⟨Zs5,1,1⟩ else if k=12 then ⟨ZsI,1,1⟩ else ⟨[],0,0⟩
def Zb4 (w:List UInt8):Nat→Nat→Int
 | _,0=>0
 | i,n+1=>if (ZL (i:Int)).s=w then (i:Int) else Zb4 w (i+1) n
def ZbO (w:List UInt8):Int:=Zb4 w 1 12
def Zbe (p:Int):List UInt8:=if p=1 then [103,48] else if p=2 then [103,49,97] else if p=3 then [103,49,98] else if p=4 then [103,49,99] else if p=5 then [103,50] else []
def Zkk (p:Int):List UInt8:=if p=1 then [71,48] else if p=2 then [71,49,97] else if p=3 then [71,49,98] else if p=4 then [71,49,99] else if p=5 then [71,50,45,105,116,101,109] else []
def Zcf (w:List UInt8):Nat→Nat→Int
 | _,0=>0
 | i,n+1=>if Zbe (i:Int)=w then (i:Int) else Zcf w (i+1) n
def phenR (w:List UInt8):Int:=Zcf w 1 5
def numsR (l:List (List UInt8)):List Int×Int:=if Zib l≠0 then ([],Zib l) else (Zbk l,0)
def Zp5:List (List UInt8)→Int
 | []=>0
 | x :: r=>if (opR x).2≠0 then (opR x).2 else Zp5 r
def ZnL (l:List (List UInt8)):List OpD:=l.map fun x=>(opR x).1
def txR (l:List (List UInt8)):TxD×Int:=
 if 4097<l.length then (zeroT,9) else if (readR (nth l 0)).2≠0 then (zeroT,(readR (nth l 0)).2) else if nth l 1≠[99]∧nth l 1≠[97] then (zeroT,11)
 else if Zp5 (l.drop 2)≠0 then (zeroT,Zp5 (l.drop 2)) else (⟨(readR (nth l 0)).1,decide (nth l 1 = [99]),ZnL (l.drop 2)⟩,0)
def fillR (k:Int) (l:List (List UInt8)):CmdD×Int:=
 if k=1∨k=2 then ({zeroC k with tx:=(txR l).1},(txR l).2) else if k=9 then ({zeroC k with phen:=phenR (nth l 0)},if phenR (nth l 0)=0 then 11 else 0)
 else if (numsR l).2≠0 then (zeroC k,(numsR l).2) else if k=3∨k=10 then ({zeroC k with id:=nth (numsR l).1 0},0)
 else if k=4 then ({zeroC k with order:=⟨nth (numsR l).1 0,(numsR l).1.drop 1⟩},0)
 else if k=5 then ({zeroC k with key:=nth (numsR l).1 0,id:=nth (numsR l).1 1,place:=nth (numsR l).1 2},0) else (zeroC k,0)
def Zdc (l:List (List UInt8)):CmdD×Int:=
 if l = [] then (zeroC 0,12) else if ZbO (nth l 0)=0 then (zeroC 0,11) else if (l.length:Int)<(ZL (ZbO (nth l 0))).least then (zeroC 0,12)
 else if (ZL (ZbO (nth l 0))).most<(l.length:Int) then (zeroC 0,13) else if (fillR (ZbO (nth l 0)) (l.drop 1)).2≠0 then (zeroC 0,(fillR (ZbO (nth l 0)) (l.drop 1)).2)
 else ((fillR (ZbO (nth l 0)) (l.drop 1)).1,0)
def Zbx (s:List UInt8):CmdD×Int:=if (wordsR s).2≠0 then (zeroC 0,(wordsR s).2) else Zdc (wordsR s).1
def usedR (c:CmdD):CmdD:=
 if c.kind=1∨c.kind=2 then {zeroC c.kind with tx:=c.tx} else if c.kind=3∨c.kind=10 then {zeroC c.kind with id:=c.id} else if c.kind=4 then {zeroC c.kind with order:=c.order}
 else if c.kind=5 then {zeroC c.kind with key:=c.key,id:=c.id,place:=c.place} else if c.kind=9 then {zeroC c.kind with phen:=c.phen} else zeroC c.kind
def Zqw (n:Int):Bool:=decide (0≤n) && decide (n≤2147483647)
def ZaH (c:CmdD):List Int:=[c.tx.id,c.id,c.order.key,c.key,c.place] ++ c.order.txs
def Zmr (c:CmdD):Prop:=(ZL c.kind).s≠[]∧c=usedR c∧c.tx.ops.length≤4095∧¬ (c.kind=9∧Zbe c.phen = [])
instance (c:CmdD):Decidable (Zmr c):=by unfold Zmr;exact inferInstance
def Zac (c:CmdD):Bool:=decide (Zmr c) && ((ZaH c).all Zqw && c.tx.ops.all ZR)
def ZeQ (l:List OpD):List UInt8:=l.flatMap fun o=>32 :: Zah o
def Zb5 (t:TxD):List UInt8:=textL t.id++(if t.done=true then [32,99] else [32,97])
def ZeP (t:TxD):List UInt8:=Zb5 t++ZeQ t.ops
def Zay (c:CmdD):List (List UInt8):=
 if c.kind=1∨c.kind=2 then [ZeP c.tx] else if c.kind=3∨c.kind=10 then [textL c.id] else if c.kind=4 then [ZcE (c.order.key :: c.order.txs)]
 else if c.kind=5 then [ZcE [c.key,c.id,c.place]] else if c.kind=9 then [Zbe c.phen] else []
def ZaL (c:CmdD):List UInt8:=if Zac c=false then [] else Z3 ((ZL c.kind).s :: Zay c)
theorem Zrd (u v:CmdD):(((((((decide (u.kind=v.kind) && decide (u.tx=v.tx)) && decide (u.order.key=v.order.key)) && decide (u.order.txs=v.order.txs)) && decide (u.key=v.key)) && decide (u.id=v.id)) && decide (u.place=v.place)) && decide (u.phen=v.phen))=decide (u=v):=by
 obtain ⟨a1,a2,⟨a3,a4⟩,a5,a6,a7,a8⟩:=u
 obtain ⟨b1,b2,⟨b3,b4⟩,b5,b6,b7,b8⟩:=v
 rw [Bool.eq_iff_iff]
 simp [and_assoc]
theorem kinds {k:Int} (h:1≤k∧k≤12):k=1∨k=2∨k=3∨k=4∨k=5∨k=6∨k=7∨k=8∨k=9∨k=10∨k=11∨k=12:=by omega
theorem Zl2 {k:Int} (h:1≤k∧k≤12):ZbO (ZL k).s=k:=by
 rcases kinds h with rfl | rfl | rfl | rfl | rfl | rfl | rfl | rfl | rfl | rfl | rfl | rfl <;> decide +kernel
theorem Zd9 {k:Int} (h:(ZL k).s≠[]):1≤k∧k≤12:=by
 rcases Classical.em (1≤k∧k≤12) with hk | hk
 · exact hk
 · exfalso
   apply h
   unfold ZL
   rw [if_neg (by omega),if_neg (by omega),if_neg (by omega),if_neg (by omega),if_neg (by omega),if_neg (by omega),if_neg (by omega),if_neg (by omega),if_neg (by omega),if_neg (by omega),if_neg (by omega),if_neg (by omega)]
theorem Zfn {p:Int} (h:Zbe p≠[]):(1≤p∧p≤5)∧phenR (Zbe p)=p:=by
 have hp:1≤p∧p≤5:=by
   rcases Classical.em (1≤p∧p≤5) with hk | hk
   · exact hk
   · exfalso
     apply h
     unfold Zbe
     rw [if_neg (by omega),if_neg (by omega),if_neg (by omega),if_neg (by omega),if_neg (by omega)]
 refine ⟨hp,?_⟩
 have:p=1∨p=2∨p=3∨p=4∨p=5:=by omega
 rcases this with rfl | rfl | rfl | rfl | rfl <;> decide +kernel
theorem ZnX:∀ {l:List (List UInt8)} {i:Nat},i<l.length→(∀ j,j<i→(opR (nth l j)).2=0)→(opR (nth l i)).2≠0→Zp5 l=(opR (nth l i)).2
 | [],i,h,_,_=>by simp at h
 | x :: r,0,_,_,h=>by rw [Zp5,show nth (x :: r) 0=x from rfl,if_pos (show (opR x).2≠0 from h)]
 | x :: r,i+1,h,k,hb=>by
   have h0:=k 0 (by omega)
   rw [Zp5,if_neg (by rw [show nth (x :: r) 0=x from rfl] at h0;simp [h0])]
   exact ZnX (l:=r) (i:=i) (by simpa using h) (fun j hj=>k (j+1) (by omega)) hb
theorem Zf6:∀ {l:List (List UInt8)},(∀ j,j<l.length→(opR (nth l j)).2=0)→Zp5 l=0
 | [],_=>rfl
 | x :: r,k=>by
   have h0:=k 0 (by simp)
   rw [Zp5,if_neg (by rw [show nth (x :: r) 0=x from rfl] at h0;simp [h0])]
   exact Zf6 (l:=r) fun j hj=>k (j+1) (by simpa using hj)
theorem Zhk (l:List (List UInt8)):(Zbk l).length=l.length:=by unfold Zbk;rw [List.length_map]
theorem Zpz {l:List (List UInt8)} (h:(numsR l).2=0):(numsR l).1=Zbk l∧Zib l=0:=by
 unfold numsR at h ⊢
 by_cases hb:Zib l≠0
 · rw [if_pos hb] at h;exact absurd h hb
 · rw [if_neg hb];exact ⟨rfl,by simpa using hb⟩
theorem ZeV:∀ l:List OpD,(ZeQ l).length≤101*l.length
 | []=>by simp [ZeQ]
 | o :: l=>by
   have h1:=ZeV l
   have h2:(Zah o).length≤100:=by
     by_cases hk:ZR o=true
     · exact Zjk hk
     · unfold Zah;rw [if_pos (by simpa using hk)];simp
   unfold ZeQ at h1 ⊢
   rw [List.flatMap_cons,List.length_append,List.length_cons,List.length_cons,Nat.mul_add]
   omega
theorem Ziq {l:List OpD} {i:Nat} (h:i<l.length):ZeQ (l.take (i+1))=ZeQ (l.take i)++32 :: Zah (nth l i):=by
 unfold ZeQ
 rw [List.take_succ_eq_append_getElem h,List.flatMap_append,Zn h]
 simp
theorem ZhB {n:Int} : Zqw n=true ↔ 0≤n∧n≤2147483647:=by unfold Zqw;rw [Bool.and_eq_true,decide_eq_true_eq,decide_eq_true_eq]
theorem ZrG {u v:OrdD} : (decide (u.key=v.key) && decide (u.txs=v.txs))=decide (u=v):=by
 cases u;cases v
 rw [Bool.eq_iff_iff]
 simp
def ZbG (l:List TxD):Prop:=l.length≤1000 ∧ ∀ t ∈ l,t.ops.length≤1000
def Zda (l:List OrdD):Prop:=l.length≤4000 ∧ ∀ o ∈ l,o.txs.length≤1000
def Za0 (h:HistD):Prop:=ZbG h.txs∧Zda h.orders
theorem ZbG.at {l:List TxD} (h:ZbG l) {i:Nat} (hi:i<l.length):(Go.Gm.nth l i).ops.length≤1000:=h.2 _ (ZB hi)
theorem Zda.at {l:List OrdD} (h:Zda l) {i:Nat} (hi:i<l.length):(Go.Gm.nth l i).txs.length≤1000:=h.2 _ (ZB hi)
def ZK (l:List TxD) (id:Int):Option TxD:=l.find? fun t=>decide (t.id=id)
theorem Zpn {l:List TxD} {id:Int} {i:Nat} (hi:i<l.length) (h:(Go.Gm.nth l i).id=id) (hq:∀ k,k<i→(Go.Gm.nth l k).id≠id):ZK l id=some (Go.Gm.nth l i):=by
 unfold ZK
 rw [List.find?_eq_some_iff_getElem]
 refine ⟨by simpa using h,i,hi,(Zn hi).symm,fun j hj=>?_⟩
 have:=hq j hj
 rw [Zn (by omega)] at this
 simpa using this
theorem Zmj {l:List TxD} {id:Int} (hq:∀ k,k<l.length→(Go.Gm.nth l k).id≠id):ZK l id=none:=by
 unfold ZK
 rw [List.find?_eq_none]
 intro x hx
 obtain ⟨k,hk,e⟩:=List.getElem_of_mem hx
 have:=hq k hk
 rw [Zn hk,e] at this
 simpa using this
theorem findT_mem {l:List TxD} {id:Int} {t:TxD} (h:ZK l id=some t):t ∈ l∧t.id=id:=⟨List.mem_of_find?_eq_some h,by have:=List.find?_some h;simpa using this⟩
def Zgv (h:HistD) (v:ZbQ):Bool:=if v.tx=0∧v.nth=0 then decide (1≤v.key∧v.key≤1048575) else (ZK h.txs v.tx).isSome && (decide (1≤v.nth) && decide (v.nth≤(wcnt ((ZK h.txs v.tx).getD zeroT).ops v.key:Int)))
def Zbi (h:HistD) (t:TxD):Bool:=(Zas t).all (Zgv h)
def ZY (t:TxD):List Int:=Zdh ((t.ops.filter fun o=>!o.read).map OpD.key)
theorem ZcJ {t:TxD} {k:Int} : k ∈ ZY t ↔ 0<wcnt t.ops k:=by
 unfold ZY
 rw [(Zal _).2,List.mem_map]
 unfold wcnt
 rw [List.length_pos_iff_exists_mem]
 constructor
 · rintro ⟨o,ho,e⟩
   rw [List.mem_filter] at ho
   exact ⟨o,by rw [List.mem_filter];exact ⟨ho.1,by simp [e];simpa using ho.2⟩⟩
 · rintro ⟨o,ho⟩
   rw [List.mem_filter] at ho
   simp at ho
   exact ⟨o,by rw [List.mem_filter];simp [ho.1,ho.2.1],ho.2.2⟩
theorem Zcz (t:TxD):(ZY t).length≤t.ops.length:=Nat.le_trans (Zfs _) (by rw [List.length_map];exact List.length_filter_le _ _)
def ZN (l:List TxD) (k:Int):List Int:=(l.filter fun t=>t.done && decide (0<wcnt t.ops k)).map TxD.id
theorem ZbJ (l:List TxD) (k:Int):(ZN l k).length≤l.length:=by unfold ZN;rw [List.length_map];exact List.length_filter_le _ _
theorem ZdZ {l:List TxD} {i:Nat} (hi:i<l.length) (k:Int):ZN (l.take (i+1)) k=ZN (l.take i) k++if (Go.Gm.nth l i).done=true∧0<wcnt (Go.Gm.nth l i).ops k then [(Go.Gm.nth l i).id] else []:=by
 unfold ZN
 rw [ZF hi,List.filter_append,List.map_append]
 congr 1
 by_cases h:(Go.Gm.nth l i).done=true∧0<wcnt (Go.Gm.nth l i).ops k
 · rw [if_pos h,List.filter_cons_of_pos (by simp [h.1,h.2])];rfl
 · rw [if_neg h,List.filter_cons_of_neg (by simp;intro e;exact Nat.eq_zero_of_not_pos fun e2=>h ⟨e,e2⟩)];rfl
def ZbK (l:List TxD):List Int:=Zdh ((l.filter fun t=>t.done).flatMap ZY)
theorem Zpq {l:List TxD} (h:ZbG l) (i:Nat):(ZbK (l.take i)).length≤1000*i:=by
 unfold ZbK
 refine Nat.le_trans (Zfs _) ?_
 have key:∀ l:List TxD,(∀ t ∈ l,t.ops.length≤1000)→((l.filter fun t=>t.done).flatMap ZY).length≤1000*l.length:=by
   intro l
   induction l with
   | nil=>intro _;simp
   | cons t l ih=>
     intro h
     have h1:=ih fun x hx=>h x (by simp [hx])
     have h2:=h t (by simp)
     have h3:=Zcz t
     by_cases hd:t.done=true
     · rw [List.filter_cons_of_pos (by simpa using hd),List.flatMap_cons,List.length_append,List.length_cons]
       omega
     · rw [List.filter_cons_of_neg (by simpa using hd),List.length_cons]
       omega
 have h1:=key (l.take i) fun t ht=>h.2 t (List.mem_of_mem_take ht)
 have h2:(l.take i).length≤i:=by rw [List.length_take];omega
 exact Nat.le_trans h1 (Nat.mul_le_mul_left _ h2)
theorem Zn0 {l:List TxD} (h:ZbG l):(ZbK l).length≤1000000:=by
 have h1:=Zpq h l.length
 rw [List.take_length] at h1
 have:=h.1
 omega
theorem Zcp {l:List TxD} {k:Int} : k ∈ ZbK l ↔ ZN l k≠[]:=by
 unfold ZbK
 rw [(Zal _).2,List.mem_flatMap]
 unfold ZN
 rw [ne_eq,List.map_eq_nil_iff,List.filter_eq_nil_iff]
 constructor
 · rintro ⟨t,ht,hk⟩ hn
   rw [List.mem_filter] at ht
   have:=hn t ht.1
   simp [ht.2] at this
   have:=ZcJ.1 hk
   simp_all
 · intro hn
   simp only [Classical.not_forall] at hn
   obtain ⟨t,ht,h2⟩:=hn
   simp at h2
   exact ⟨t,by rw [List.mem_filter];exact ⟨ht,by simpa using h2.1⟩,ZcJ.2 (Nat.pos_of_ne_zero h2.2)⟩
def ZpD (h:HistD) (i:Nat):Prop:=(0<i→(Go.Gm.nth h.txs (i - 1)).id<(Go.Gm.nth h.txs i).id)∧ZU (Go.Gm.nth h.txs i)=0∧Zbi h (Go.Gm.nth h.txs i)=true
instance (h:HistD) (i:Nat):Decidable (ZpD h i):=by unfold ZpD;exact inferInstance
def ZpC (h:HistD) (i:Nat):Prop:=(Go.Gm.nth h.orders i).key=Go.Gm.nth (ZbK h.txs) i∧(Go.Gm.nth h.orders i).txs.Perm (ZN h.txs (Go.Gm.nth h.orders i).key)
instance (h:HistD) (i:Nat):Decidable (ZpC h i):=by unfold ZpC;exact inferInstance
def Zx (h:HistD):Prop:=h.txs.length≤4096∧(∀ i,i<h.txs.length→ZpD h i)∧h.orders.length=(ZbK h.txs).length ∧ ∀ i,i<h.orders.length→ZpC h i
instance (h:HistD):Decidable (Zx h):=by unfold Zx;exact inferInstance
def ZfB (h:HistD) (i:Nat):Prop:=(0<i→(Go.Gm.nth h.orders (i - 1)).key<(Go.Gm.nth h.orders i).key)∧(Go.Gm.nth h.orders i).txs≠[]∧(Go.Gm.nth h.orders i).txs.Perm (ZN h.txs (Go.Gm.nth h.orders i).key)
theorem ZhW:∀ {l:List Int},(∀ i,i<l.length→0<i→Go.Gm.nth l (i - 1)<Go.Gm.nth l i)→ZdR l
 | [],_=>List.Pairwise.nil
 | [x],_=>by simp
 | x :: y :: l,h=>by
   have ih:=ZhW (l:=y :: l) fun i hi h0=>by
     have:=h (i+1) (by simpa using hi) (by omega)
     obtain ⟨j,rfl⟩:∃ j,i=j+1:=⟨i - 1,by omega⟩
     have hj:j<l.length:=by simpa using hi
     rw [Zn (l:=x :: y :: l) (by simp;omega),Zn (l:=x :: y :: l) (by simp;omega)] at this
     rw [Zn (l:=y :: l) (by simp;omega),Zn (l:=y :: l) (by simp;omega)]
     exact this
   have h1:=h 1 (by simp) (by omega)
   rw [Zn (by simp),Zn (by simp)] at h1
   simp at h1
   have ih2:=List.pairwise_cons.1 ih
   refine List.pairwise_cons.2 ⟨fun z hz=>?_,ih⟩
   rcases List.mem_cons.1 hz with rfl | hz
   · exact h1
   · have:=ih2.1 z hz;omega
theorem ZrM {l:List Int} (h:ZdR l) {i:Nat} (hi:i<l.length) (h0:0<i):Go.Gm.nth l (i - 1)<Go.Gm.nth l i:=by
 rw [Zn hi,Zn (by omega)]
 exact List.pairwise_iff_getElem.1 h (i - 1) i (by omega) hi (by omega)
theorem ZfK:∀ {b a:List Int},ZdR a→ZdR b→(∀ x ∈ a,x ∈ b)→a.length≤b.length∧(a.length=b.length→a=b)
 | [],a,_,_,h=>by
   have:a = []:=List.eq_nil_iff_forall_not_mem.2 fun x hx=>by cases h x hx
   subst this;simp
 | y :: b,[],_,_,_=>⟨by simp,fun h=>by simp at h⟩
 | y :: b,x :: a,ha,hb,h=>by
   have ha':=List.pairwise_cons.1 ha
   have hb':=List.pairwise_cons.1 hb
   by_cases e:x=y
   · subst e
     have ih:=ZfK (b:=b) (a:=a) ha'.2 hb'.2 fun z hz=>by
       rcases List.mem_cons.1 (h z (by simp [hz])) with e | e
       · have:=ha'.1 z hz;omega
       · exact e
     exact ⟨by simp;exact ih.1,fun hl=>by rw [ih.2 (by simpa using hl)]⟩
   · have hx:y<x:=by
       rcases List.mem_cons.1 (h x (by simp)) with e2 | e2
       · exact absurd e2 e
       · exact hb'.1 x e2
     have ih:=ZfK (b:=b) (a:=x :: a) ha hb'.2 fun z hz=>by
       rcases List.mem_cons.1 (h z hz) with e2 | e2
       · rcases List.mem_cons.1 hz with e3 | e3
         · omega
         · have:=ha'.1 z e3;omega
       · exact e2
     exact ⟨by have:=ih.1;simp at this ⊢;omega,fun hl=>by have:=ih.1;simp at this hl;omega⟩
theorem ZbH {α β:Type} [Inhabited α] [Inhabited β] {f:α→β} {l:List α} {i:Nat} (h:i<l.length):Go.Gm.nth (l.map f) i=f (Go.Gm.nth l i):=by
 rw [Zn (by simpa using h),Zn h];simp
theorem ZcQ (h:HistD):(h.orders.length=(ZbK h.txs).length ∧ ∀ i,i<h.orders.length→ZfB h i) ↔ (h.orders.length=(ZbK h.txs).length ∧ ∀ i,i<h.orders.length→ZpC h i):=by
 have hK:ZdR (ZbK h.txs):=(Zal _).1
 constructor
 · rintro ⟨hl,hq⟩
   refine ⟨hl,?_⟩
   have hO:ZdR (h.orders.map OrdD.key):=ZhW fun i hi h0=>by
     have hi':i<h.orders.length:=by simpa using hi
     rw [ZbH (by omega),ZbH hi']
     exact (hq i hi').1 h0
   have hsub:∀ x ∈ h.orders.map OrdD.key,x ∈ ZbK h.txs:=fun x hx=>by
     obtain ⟨o,ho,rfl⟩:=List.mem_map.1 hx
     obtain ⟨k,hk,e⟩:=List.getElem_of_mem ho
     have:=hq k hk
     unfold ZfB at this
     rw [Zn hk,e] at this
     rw [Zcp]
     intro e2
     rw [e2] at this
     exact this.2.1 (List.Perm.eq_nil this.2.2)
   have he:=(ZfK hO hK hsub).2 (by simpa using hl)
   intro i hi
   refine ⟨?_,(hq i hi).2.2⟩
   rw [← he,ZbH hi]
 · rintro ⟨hl,hq⟩
   refine ⟨hl,fun i hi=>?_⟩
   have hin:(Go.Gm.nth h.orders i).key ∈ ZbK h.txs:=by rw [(hq i hi).1];exact ZB (by omega)
   refine ⟨fun h0=>?_,fun e=>?_,(hq i hi).2⟩
   · rw [(hq i hi).1,(hq (i - 1) (by omega)).1]
     exact ZrM hK (by omega) h0
   · have:=(hq i hi).2
     rw [e] at this
     exact Zcp.1 hin this.symm.eq_nil
theorem Zgm {h:HistD} (hb:4096<h.txs.length):false=decide (Zx h):=(decide_eq_false fun hr=>by have:=hr.1;omega).symm
theorem Zio {h:HistD} {i:Nat} (hi:i<h.txs.length) (hb:¬ ZpD h i):false=decide (Zx h):=(decide_eq_false fun hr=>hb (hr.2.1 i hi)).symm
theorem ZhR {h:HistD} (hb:h.orders.length≠(ZbK h.txs).length):false=decide (Zx h):=(decide_eq_false fun hr=>hb hr.2.2.1).symm
theorem Zgp {h:HistD} {i:Nat} (hi:i<h.orders.length) (hb:¬ ZfB h i):false=decide (Zx h):=(decide_eq_false fun hr=>hb (((ZcQ h).2 hr.2.2).2 i hi)).symm
theorem ZjB {h:HistD} (h1:h.txs.length≤4096) (h2:∀ i,i<h.txs.length→ZpD h i) (h3:h.orders.length=(ZbK h.txs).length) (h4:∀ i,i<h.orders.length→ZfB h i):true=decide (Zx h):=(decide_eq_true ⟨h1,h2,(ZcQ h).1 ⟨h3,h4⟩⟩).symm
def ZqV (l:List Int):Option (List Int):=if l = [] then none else some l
theorem ZkO (l:List Int):(ZqV l).getD [] = l:=by
 unfold ZqV
 split
 · rename_i h;rw [h];rfl
 · rfl
def WrL (es:List (GE Int (List Int))) (l:List TxD):Prop:=GNd es ∧ ∀ k,gGet k es=ZqV (ZN l k)
def WrV (es:List (GE Int (Value×List Int))) (l:List TxD) (id:Int) (ks:List Int):Prop:=GNd es ∧ ∀ k,(gGet k es).map (·.2)=ZqV (ZN l k++if k ∈ ks then [id] else [])
theorem Zrl {id:Int} : WrV [] [] id []:=⟨by simp [GNd],fun k=>by simp [gGet,ZN,ZqV]⟩
theorem Zo4 {es:List (GE Int (Value×List Int))} {l:List TxD} {id:Int} (h:WrV es l id []):WrL (ZeI es) l:=⟨by unfold GNd;rw [Zkh];exact h.1,fun k=>by rw [ZgW,h.2];simp⟩
theorem ZpK {es:List (GE Int (Value×List Int))} {l:List TxD} {id id':Int} (h:WrV es l id []):WrV es l id' []:=⟨h.1,fun k=>by rw [h.2];simp⟩
theorem Zro {es:List (GE Int (Value×List Int))} {l:List TxD} {i:Nat} {id:Int} (h:WrV es (l.take i) id []) (hi:i<l.length) (hd:(Go.Gm.nth l i).done=false):WrV es (l.take (i+1)) id []:=⟨h.1,fun k=>by rw [h.2,ZdZ hi];simp [hd]⟩
theorem Zrc {es:List (GE Int (Value×List Int))} {l:List TxD} {i:Nat} {id:Int} (h:WrV es (l.take i) (Go.Gm.nth l i).id (ZY (Go.Gm.nth l i))) (hi:i<l.length) (hd:(Go.Gm.nth l i).done=true):WrV es (l.take (i+1)) id []:=⟨h.1,fun k=>by
 rw [h.2,ZdZ hi]
 congr 1
 simp only [List.not_mem_nil,if_false,List.append_nil]
 congr 1
 by_cases hk:k ∈ ZY (Go.Gm.nth l i)
 · rw [if_pos hk,if_pos ⟨hd,ZcJ.1 hk⟩]
 · rw [if_neg hk,if_neg fun h9=>hk (ZcJ.2 h9.2)]⟩
theorem Zqd {es:List (GE Int (Value×List Int))} {l:List TxD} {id:Int} {ks:List Int} {j:Nat} (h:WrV es l id (ks.take j)) (hn:ks.Nodup) (hj:j<ks.length):((gGet (Go.Gm.nth ks j) es).getD ZhK).2=ZN l (Go.Gm.nth ks j):=by
 have h1:=h.2 (Go.Gm.nth ks j)
 have hni:Go.Gm.nth ks j ∉ ks.take j:=fun hm=>by
   rw [Zn hj] at hm
   obtain ⟨k,hk,e⟩:=List.getElem_of_mem hm
   rw [List.length_take] at hk
   rw [List.getElem_take] at e
   have h3:=List.pairwise_iff_getElem.1 hn k j (by omega) hj (by omega)
   exact h3 e
 rw [if_neg hni,List.append_nil] at h1
 have h2:=ZkO (ZN l (Go.Gm.nth ks j))
 rw [← h1] at h2
 rw [← h2]
 cases gGet (Go.Gm.nth ks j) es <;> rfl
theorem Zrp {es:List (GE Int (Value×List Int))} {l:List TxD} {id:Int} {ks:List Int} {j ck:Nat} {v:Value} (h:WrV es l id (ks.take j)) (hn:ks.Nodup) (hj:j<ks.length):WrV (gPut (Go.Gm.nth ks j) (v,((gGet (Go.Gm.nth ks j) es).getD ZhK).2 ++ [id]) (es,ck)).1 l id (ks.take (j+1)):=⟨GNd.put h.1,fun k=>by
 rw [Zlg,Zqd h hn hj,ZF hj]
 by_cases e:k=Go.Gm.nth ks j
 · subst e
   rw [if_pos rfl,if_pos (by simp)]
   simp [ZqV]
 · rw [if_neg e,h.2]
   simp [e]⟩
theorem ZsA {es:List (GE Int (List Int))} {l:List TxD} (h:WrL es l) (k:Int):(gGet k es).getD [] = ZN l k:=by rw [h.2,ZkO]
theorem Zsc {es:List (GE Int (List Int))} {l:List TxD} (h:WrL es l):es.length=(ZbK l).length:=by
 have h1:(es.map (·.key)).Perm (ZbK l):=by
   refine (List.perm_ext_iff_of_nodup h.1 ((Zal _).1.imp fun h=>Int.ne_of_lt h)).2 fun k=>?_
   rw [← Zhw,h.2,show (k ∈ Zdh ((l.filter fun t=>t.done).flatMap ZY)) ↔ ZN l k≠[] from Zcp]
   unfold ZqV
   split <;> simp_all
 simpa using h1.length_eq
theorem Zfm (t:TxD):(ZY t).Nodup:=(Zal _).1.imp fun h=>Int.ne_of_lt h
theorem Zjh {α:Type} {R:α→List PV} {w:World} {y:Ys} : (PV.sl R ([]:List α)).p (.slice none 0 0) w y:=⟨none,0,rfl,Nat.le_refl _,by unfold maxLen;omega,.inl rfl⟩
theorem ZrB (l : List OrdD) (p : OrdD → Bool) (f : FuncId) (fn : Func) (cps : List PV) (hf : Tryz.prog.funcs[f]? = some fn) (hb : fn.body.isSome = true) (hnn : (fn.name == "runtime.NumGoroutine") = false) (hw : ∀ x, FnP Tryz.prog f (.agg (Zz x) :: cps) (.bool (p x))) : FnP Tryz.prog 82 [.sl Zz l, .clos f cps] (.int .i64 (Z9 p l)) := by
 refine FnP.mk Tryz.func82 rfl Tryz.ntmps82 rfl ?_
 intro B a w F hB hfr hS
 have hll:=Sat.lenSl hS (i:=0) rfl
 refine wp_seq ?_
 refine Za hS (qI qZ) hB [4,1,0] [0] rfl rfl fun a w F hS=>Zb (wp_seq (wp_seq ?_))
 refine Za hS (qM rfl rfl (qu Tryz.underlying23 r1 (qJ qZ))) hB [8,7,4,1,0] [0] rfl rfl fun a w F hS=>Zb (wp_block ?_)
 refine Zp (σ:=(Nat)) [0,1,4,7] [0] (fun s=>[(8,.pv (.int .i64 (s:Int)))]) (fun s=>[]) (fun s=>s≤l.length∧(∀ k,k<s→p (Go.Gm.nth l k)=false)) (fun s=>l.length - s) (0) hS ⟨rfl,rfl,rfl,rfl,rfl,trivial⟩ ⟨rfl,trivial⟩ ⟨Nat.zero_le _,fun k hk=>absurd hk (Nat.not_lt_zero k)⟩ ?_
 clear hS;intro i a w F hC hS
 try dsimp only at hC
 obtain ⟨F,hS⟩:=hS.nm [8,7,4,1,0] [0] rfl rfl
 try dsimp only at hS
 obtain ⟨hi,hq⟩:=hC
 refine wp_seq ?_
 refine Za hS (qL r2) hB [9,8,7,4,1,0] [0] rfl rfl fun a w F hS=>Zb (wp_seq ?_)
 refine Zd hS rfl (fun hc0=>?_) (fun hc0=>?_)
 ·skip
  have hil:i<l.length:=by simp at hc0;omega
  refine wp_skip (Zb (wp_seq (wp_block (wp_seq ?_))))
  refine Za hS (qM rfl rfl (qN rfl rfl qZ)) hB [8,7,5,4,1,0] [0] rfl rfl fun a w F hS=>Zb (wp_seq ?_)
  refine Za hS (qM rfl rfl (qM rfl rfl (qM rfl rfl (qy 2 Tryz.underlying23 r2 (qf (oR true 2 .t) r1 qz (qf (ZM (avs:=[.agg (Zz (Go.Gm.nth l i))]) .t (hw (Go.Gm.nth l i)) hf hb hnn (Args.one (.pagg .t))) r2 qz qZ)))))) hB [16,8,7,5,4,1,0] [0] rfl rfl fun a w F hS=>?_
  try simp only [Int.toNat_natCast] at hS
  refine Zb ?_
  refine Zd hS rfl (fun hc1=>?_) (fun hc1=>?_)
  ·skip
   have hg:(i:Int)=Z9 p l:=(ZcT hil hc1 hq).symm
   refine wp_seq ?_
   refine Za hS (qM rfl rfl (qN rfl rfl qZ)) hB [8,7,4,1,0] [0] rfl rfl fun a w F hS=>Zb (wp_ret (Zf (Ze (Ze (Zf (Ze ?_))))))
   refine Zm hfr hS rfl rfl rfl (.int hg)
  have hne:p (Go.Gm.nth l i)=false:=hc1
  refine wp_skip (Zh (Zb ?_))
  refine Za hS (qp r1 (qM rfl rfl qZ)) hB [8,7,4,1,0] [0] rfl rfl fun a w F hS=>Zb ?_
  replace hS:=hS.ent (i:=8) (s':=.pv (.int .i64 ((i+1:Nat):Int))) rfl (.int (wrap_succ (by omega)))
  obtain ⟨F,hS⟩:=hS.nm [7,4,1,0,8] [0] rfl rfl
  exact ⟨(i+1),F,⟨by omega,(fun k hk=>by rcases Nat.lt_or_eq_of_le (Nat.le_of_lt_succ hk) with h | h;exact hq k h;rw [h];exact hne)⟩,hS,by omega⟩
 have hil:i=l.length:=by simp at hc0;omega
 have hg : -1=Z9 p l:=(ZbD fun k hk=>hq k (by simp at hc0;omega)).symm
 refine wp_exit (Zi (Zi (Zl (Zb (wp_seq ?_)))))
 refine Za hS (qI qZ) hB [4] [0] rfl rfl fun a w F hS=>Zb (wp_ret ?_)
 refine Zm hfr hS rfl rfl rfl (.int hg)
theorem ZrF (v : Value) (l : List OrdD) (hll : l.length ≤ 1000000) (p : OrdD → Bool) (f : FuncId) (fn : Func) (cps : List PV) (hf : Tryz.prog.funcs[f]? = some fn) (hb : fn.body.isSome = true) (hnn : (fn.name == "runtime.NumGoroutine") = false) (hw : ∀ x, FnP Tryz.prog f (.agg (Zz x) :: cps) (.bool (p x))) : FnG Tryz.prog 132 1 [.is v, .clos f cps] [Zu 41 2 Zz l v] (PV.one) (fun v => [Zu 41 2 Zz (l.filter fun x => !p x) v]) := by
 refine FnG.mk Tryz.func132 rfl Tryz.ntmps132 rfl (by kernel_rfl) ?_
 intro B F0 a w F hB hG hS
 replace hS:=hS.turn 1 rfl (r':=.ob (.val v) (Zu 41 2 Zz l)) (fun _ _ _ _ h=>h)
 refine wp_seq ?_
 refine Za hS (qC qZ) hB [4,1,0] [1,0] rfl rfl fun a w F hS=>Zb (wp_seq ?_)
 refine Za hS (qM rfl rfl (qM rfl rfl (qf (OpC.lendRow 1 [8] (oP (ZrB l p f fn cps hf hb hnn hw) Tryz.func82 (Args.two .t .t)) ⟨rfl,trivial,trivial⟩ (.pv (fun _ _ _ _ h=>h)) trivial (by rfl)) r2 r1 (qN rfl rfl qZ)))) hB [5,4,1,0] [1,0] rfl rfl fun a w F hS=>Zb (wp_seq (wp_seq ?_))
 refine Za hS (qM rfl rfl (qf (o_eql .t qi) r1 qz qZ)) hB [12,5,4,1,0] [1,0] rfl rfl fun a w F hS=>Zb ?_
 refine Zd hS rfl (fun hc0=>?_) (fun hc0=>?_)
 ·skip
  have hno:=(Zar p l).resolve_right (by rintro ⟨i,h1,_⟩;simp at hc0;omega)
  have hg:(l.filter fun x=>!p x)=l:=Zc1 hno.2
  refine wp_seq ?_
  refine Za hS (qM rfl rfl (qN rfl rfl qZ)) hB [5,4,1,0] [1,0] rfl rfl fun a w F hS=>Zb (wp_ret (Ze ?_))
  have hS:=hS.turn 1 rfl (r':=RS.hp (Zu 41 2 Zz (l.filter fun x=>!p x) v)) (fun _ _ _ _ h=>by rw [hg];exact h)
  refine ZaG (h':=fun v=>Zu 41 2 Zz (l.filter fun x=>!p x) v) hG hS rfl (.tmp rfl .nil) (.one .one) rfl
 obtain ⟨i0,hi0,hi1,hip,hib⟩:=(Zar p l).resolve_left (by rintro ⟨h1,_⟩;simp [h1] at hc0)
 have hst0:=Zeq hi1 hip hib
 refine wp_skip (Zb (wp_seq (wp_seq ?_)))
 refine Za hS (qM rfl rfl (qp r1 (qN rfl rfl qZ))) hB [6,5,4,1,0] [1,0] rfl rfl fun a w F hS=>Zb (wp_block ?_)
 have hC0:i0<i0+1∧i0+1≤l.length∧l.length=l.length∧l.take i0=(l.take (i0+1)).filter (fun x=>!p x) ∧ ∀ k,i0+1≤k→k<l.length→Go.Gm.nth l k=Go.Gm.nth l k:=⟨by omega,by omega,rfl,hst0,fun k _ _=>rfl⟩
 replace hS:=hS.ent (i:=5) (s':=.pv (.int .i64 (i0:Int))) rfl (.int hi0)
 replace hS:=hS.ent (i:=6) (s':=.pv (.int .i64 ((i0+1:Nat):Int))) rfl (.int (by rw [hi0,ZA (by omega)];omega))
 refine Zp (σ:=Nat×Nat×List OrdD) [0,1,4] [0] (fun s=>[(5,.pv (.int .i64 (s.1:Int))),(6,.pv (.int .i64 (s.2.1:Int)))]) (fun s=>[(1,.ob (.val v) (Zu 41 2 Zz s.2.2))]) (fun s=>s.1<s.2.1∧s.2.1≤l.length∧s.2.2.length=l.length∧s.2.2.take s.1=(l.take s.2.1).filter (fun x=>!p x) ∧ ∀ k,s.2.1≤k→k<l.length→Go.Gm.nth s.2.2 k=Go.Gm.nth l k) (fun s=>l.length - s.2.1) ((i0),(i0+1),(l)) hS ⟨rfl,rfl,rfl,rfl,rfl,trivial⟩ ⟨rfl,rfl,trivial⟩ hC0 ?_
 clear hS;intro s a w F hC hS
 obtain ⟨i,j,l1⟩:=s
 try dsimp only at hC
 obtain ⟨F,hS⟩:=hS.nm [6,5,4,1,0] [1,0] rfl rfl
 try dsimp only at hS
 obtain ⟨hij,hj,hll1,htk,hrest⟩:=hC
 refine wp_seq (wp_seq ?_)
 refine Za hS (qM rfl rfl (qM rfl rfl (qf (ZZ 1 Tryz.underlying23 .is) r1 r1 (qL r2)))) hB [19,6,5,4,1,0] [1,0] rfl rfl fun a w F hS=>Zb ?_
 refine Zd hS rfl (fun hc1=>?_) (fun hc1=>?_)
 ·skip
  have hjl:j<l.length:=by simp at hc1;omega
  have hnj:Go.Gm.nth l1 j=(Go.Gm.nth l j):=hrest j (Nat.le_refl _) hjl
  have hfs:=Zcc (p:=fun x=>!p x) hjl
  refine wp_skip (Zb (wp_seq (wp_block (wp_seq ?_))))
  refine Zc hS (qM rfl rfl (qM rfl rfl (qf (o_indexAddr_row (sz:=2) 1 (.mk Tryz.underlying23 (by kernel_rfl)) .is .t (by omega) (by omega) (by rfl)) r2 r1 (qf (Zax (ag:=true) (sz':=2) (sz:=2) 1 .t (by intro x;rfl) (by omega) (by kernel_rfl) (by kernel_rfl) (by kernel_rfl)) r1 r1 (qf (oH [.int .i64 0,.slice none 0 0] 101) trivial qz (qS 2 101 r2 r1 qZ)))))) hB [7,6,5,4,1,0] [101,1,0] (fun _=>rfl) (fun _=>rfl) fun τ a w F hS=>?_
  try dsimp only [RS.sub,SF.sub,CF.sub,csub,Anc.sub,List.map,Zg,xL,xM,Nat.reduceAdd,xD,xE,xT,xU,xC,xN,zCF,ldSF,Zz] at hS
  generalize τ 7=v7 at hS
  try simp only [Int.toNat_natCast] at hS
  rw [hnj] at hS
  refine Zb (wp_seq ?_)
  refine Za hS (qM rfl rfl (qe 2 101 r1 r1 (qf (ZM (avs:=[.agg (Zz (Go.Gm.nth l j))]) .t (hw (Go.Gm.nth l j)) hf hb hnn (Args.one (.pagg .t))) r2 qz (qf (o_not .t) r1 qz qZ)))) hB [29,7,6,5,4,1,0] [101,1,0] rfl rfl fun a w F hS=>Zb ?_
  refine Zd hS rfl (fun hc2=>?_) (fun hc2=>?_)
  ·skip
   have hp:p (Go.Gm.nth l j)=false:=by simpa using hc2
   obtain ⟨i2,hi2e⟩:∃ i2,i2=i+1:=⟨_,rfl⟩
   have hi2:IntKind.wrap .i64 ((i:Int)+1)=(i2:Int):=by rw [hi2e];exact wrap_succ (by omega)
   obtain ⟨l2,hl2⟩:∃ l2,l2=l1.set i (Go.Gm.nth l j):=⟨_,rfl⟩
   have hC2:i2<j+1∧j+1≤l.length∧l2.length=l.length∧l2.take i2=(l.take (j+1)).filter (fun x=>!p x) ∧ ∀ k,j+1≤k→k<l.length→Go.Gm.nth l2 k=Go.Gm.nth l k:=⟨by omega,by omega,by rw [hl2,List.length_set];exact hll1,by rw [hl2,hi2e,hfs,hp,← htk,ZF (by rw [List.length_set];omega),List.take_set_of_le (Nat.le_refl _),Zn (by rw [List.length_set];omega),List.getElem_set_self];rfl,fun k hk hk2=>by rw [hl2,Zn (by rw [List.length_set];omega),List.getElem_set_ne (by omega),← Zn (by omega)];exact hrest k (by omega) hk2⟩
   refine wp_seq ?_
   refine Za hS (qM rfl rfl (qM rfl rfl (qe 2 101 r1 r1 (qf (o_indexAddr_row (sz:=2) 1 (.mk Tryz.underlying23 (by kernel_rfl)) .is .t (by omega) (by omega) (by rfl)) r2 r1 (qf (Zdl (sz:=2) 1 .t (by intro x;rfl) (by omega) (.conv .t (Ent.aggU (l:=Zz (Go.Gm.nth l j)) rfl rfl)) (by kernel_rfl)) r2 r1 qZ))))) hB [6,5,4,1,0] [1,0] rfl rfl fun a w F hS=>?_
   try simp only [Int.toNat_natCast] at hS
   rw [← hl2] at hS
   refine Zb ?_
   refine Za hS (qM rfl rfl (qp r1 (qN rfl rfl qZ))) hB [6,5,4,1,0] [1,0] rfl rfl fun a w F hS=>Zh (Zb ?_)
   refine Za hS (qM rfl rfl (qp r1 (qN rfl rfl qZ))) hB [6,5,4,1,0] [1,0] rfl rfl fun a w F hS=>Zb ?_
   have hmu:l.length - (j+1)<l.length - j:=by omega
   replace hS:=hS.ent (i:=5) (s':=.pv (.int .i64 (i2:Int))) rfl (.int hi2)
   replace hS:=hS.ent (i:=6) (s':=.pv (.int .i64 ((j+1:Nat):Int))) rfl (.int (wrap_succ (by omega)))
   obtain ⟨F,hS⟩:=hS.nm [4,1,0,6,5] [0,1] rfl rfl
   exact ⟨((i2),(j+1),(l2)),F,hC2,hS,hmu⟩
  have hp:p (Go.Gm.nth l j)=true:=by simpa using hc2
  obtain ⟨i2,hi2e⟩:∃ i2,i2=i:=⟨_,rfl⟩
  have hi2:(i:Int)=(i2:Int):=by rw [hi2e]
  obtain ⟨l2,hl2⟩:∃ l2,l2=l1:=⟨_,rfl⟩
  rw [← hl2] at hS
  have hC2:i2<j+1∧j+1≤l.length∧l2.length=l.length∧l2.take i2=(l.take (j+1)).filter (fun x=>!p x) ∧ ∀ k,j+1≤k→k<l.length→Go.Gm.nth l2 k=Go.Gm.nth l k:=⟨by omega,by omega,by rw [hl2];exact hll1,by rw [hl2,hi2e,hfs,hp,htk];simp,fun k hk hk2=>by rw [hl2];exact hrest k (by omega) hk2⟩
  refine wp_skip (Zh (Zb ?_))
  refine Za hS (qM rfl rfl (qp r1 (qN rfl rfl qZ))) hB [6,5,4,1,0] [1,0] rfl rfl fun a w F hS=>Zb ?_
  have hmu:l.length - (j+1)<l.length - j:=by omega
  replace hS:=hS.ent (i:=5) (s':=.pv (.int .i64 (i2:Int))) rfl (.int hi2)
  replace hS:=hS.ent (i:=6) (s':=.pv (.int .i64 ((j+1:Nat):Int))) rfl (.int (wrap_succ (by omega)))
  obtain ⟨F,hS⟩:=hS.nm [4,1,0,6,5] [0,1] rfl rfl
  exact ⟨((i2),(j+1),(l2)),F,hC2,hS,hmu⟩
 have hjl:j=l.length:=by simp at hc1;omega
 have hil2:i<l.length:=by omega
 have hg:(l.filter fun x=>!p x)=(l1.take i++List.replicate (l1.length - i) (⟨0,[]⟩:OrdD)).take i:=by rw [List.take_append_of_le_length (by rw [List.length_take];omega),List.take_take,Nat.min_self,htk,hjl,List.take_length]
 refine wp_exit (Zi (Zi (Zl (Zb (wp_seq ?_)))))
 refine Za hS (qM rfl rfl (qM rfl rfl (qf (Zat (sz:=2) 1 (.mk Tryz.underlying23 (by kernel_rfl)) .is .t (by omega) (by omega)) r2 r1 (qf (Zb9 (R:=Zz) (z:=(⟨0,[]⟩:OrdD)) (zs:=[.int .i64 0,.slice none 0 0]) 1 Tryz.underlying23 (by kernel_rfl) rfl rfl (fun _ _=>⟨⟨rfl,rfl,Zjt⟩,⟨rfl,Zjh⟩,trivial⟩) (by intro x;rfl) .t (by simp;omega)) r1 r1 qZ)))) hB [5,4,0] [1,0] rfl rfl fun a w F hS=>Zb (wp_seq ?_)
 refine Zc hS (qM rfl rfl (qM rfl rfl (qf (ZbY (sz:=2) 1 (.mk Tryz.underlying23 (by kernel_rfl)) (by intro x;rfl) .is .t (by omega) (by simp;omega)) r2 r1 (qN rfl rfl qZ)))) hB [4] [1,0] (fun _=>rfl) (fun _=>rfl) fun τ a w F hS=>?_
 try dsimp only [RS.sub,SF.sub,CF.sub,csub,Anc.sub,List.map,Zz] at hS
 generalize τ 41=v41 at hS
 refine Zb (wp_ret ?_)
 have hS:=hS.turn 1 rfl (r':=RS.hp (Zu 41 2 Zz (l.filter fun x=>!p x) v41)) (fun _ _ _ _ h=>by rw [hg];exact h)
 refine ZaG (h':=fun v=>Zu 41 2 Zz (l.filter fun x=>!p x) v) hG hS rfl (.tmp rfl .nil) (.one .one) rfl
theorem Zmu {α:Type} {R:α→List PV} {zs:List Value} {sz:Nat} {v:α} (hz:zs.length=sz) (h0:0<sz) (hp:∀ w yy,PVs (R v) zs w yy) (n:Nat):∀ u ∈ (madeCells zs.toArray (n*sz)).toList,u.oneCell' = true:=
 (ZdG (R:=R) (v:=v) hz h0 (hp (default:World) (fun _=>False)) n).one
theorem ZmX {α:Type} {l:List α} {i:Nat} {x:α} (h:i=l.length):l.take i ++ [x] ++ l.drop i=l ++ [x]:=by rw [h];simp
theorem Zkt {α:Type} {l l2 l3:List α} {i:Nat} {x z:α} (hi:i<l.length) (h2:l2=l.take i++List.replicate (l.length+1 - i) z) (h3:l3=l2.take i ++ [x] ++ l2.drop (i + [x].length)) :
   l.take i ++ [x] ++ l.drop i=l3.take (i+1)++l.drop i++l3.drop (i+1+(l.drop i).length):=by
 have e1:l2.take i=l.take i:=by
   rw [h2,List.take_append_of_le_length (by rw [List.length_take];omega),List.take_take,Nat.min_self]
 have e0:l2.length=l.length+1:=by rw [h2,List.length_append,List.length_take,List.length_replicate];omega
 have e2:l3.take (i+1)=l.take i ++ [x]:=by
   rw [h3,e1,List.take_append_of_le_length (by rw [List.length_append,List.length_take];simp;omega),List.take_of_length_le (by rw [List.length_append,List.length_take];simp;omega)]
 have e3:l3.length=l.length+1:=by
   rw [h3,e1,List.length_append,List.length_append,List.length_take,List.length_drop,e0];simp;omega
 have e4:l3.drop (i+1+(l.drop i).length) = []:=List.drop_eq_nil_of_le (by rw [e3,List.length_drop];omega)
 rw [e2,e4,List.append_nil]
theorem ZiL {α:Type} {l l4:List α} {i:Nat} {x:α} (hi:i<l.length) (h4:l4=l.take (i+1)++l.drop i):l.take i ++ [x] ++ l.drop i=l4.take i ++ [x] ++ l4.drop (i + [x].length):=by
 have e1:l4.take i=l.take i:=by
   rw [h4,List.take_append_of_le_length (by rw [List.length_take];omega),List.take_take,Nat.min_eq_left (by omega)]
 have e2:l4.drop (i + [x].length)=l.drop i:=by
   rw [h4,show i + [x].length=i+1 from rfl,List.drop_append_of_le_length (by rw [List.length_take];omega),List.drop_eq_nil_of_le (by rw [List.length_take];omega),List.nil_append]
 rw [e1,e2]
theorem Zse (v:Value) (l:List TxD) (i:Nat) (x:TxD) (hll:l.length≤1000000) (hi:i≤l.length):FnG Tryz.prog 94 1 [.is v,.int .i64 i,.sl rTx [x]] [Zu 38 3 rTx l v] (PV.one) (fun v=>[Zu 38 3 rTx (l.take i ++ [x] ++ l.drop i) v]):=by
 refine FnG.mk Tryz.func94 rfl Tryz.ntmps94 rfl (by kernel_rfl) ?_
 intro B F0 a w F hB hG hS
 replace hS:=hS.turn 1 rfl (r':=.ob (.val v) (Zu 38 3 rTx l)) (fun _ _ _ _ h=>h)
 refine wp_seq ?_
 refine Za hS (qC qZ) hB [6,2,1,0] [1,0] rfl rfl fun a w F hS=>Zb (wp_seq ?_)
 refine Za hS (qM rfl rfl (qM rfl rfl (qf (Zjg (sz:=3) 1 (.mk Tryz.underlying22 (by kernel_rfl)) .is .t (by omega) (by omega)) r2 r1 qZ))) hB [6,2,1,0] [1,0] rfl rfl fun a w F hS=>Zb (wp_seq ?_)
 refine Za hS (qM rfl rfl (qu Tryz.underlying22 r1 (qN rfl rfl qZ))) hB [7,6,2,1,0] [1,0] rfl rfl fun a w F hS=>?_
 replace hS:=hS.ent (i:=7) (s':=.pv (.int .i64 1)) rfl (.int rfl)
 obtain ⟨F,hS⟩:=hS.nm [7,6,2,1,0] [1,0] rfl rfl
 refine Zb (wp_seq (wp_seq ?_))
 refine Za hS (qM rfl rfl (qf (o_eql .t qi) r1 qz qZ)) hB [16,7,6,2,1,0] [1,0] rfl rfl fun a w F hS=>Zb ?_
 refine Zd hS rfl (fun hc0=>?_) (fun hc0=>?_)
 ·skip
  simp at hc0
 refine wp_skip (Zb (wp_seq ?_))
 refine Za hS (qM rfl rfl (qf (ZZ 1 Tryz.underlying22 .is) r1 r1 (qN rfl rfl qZ))) hB [8,7,6,2,1,0] [1,0] rfl rfl fun a w F hS=>Zb (wp_seq (wp_seq ?_))
 refine Za hS (qM rfl rfl (qM rfl rfl (qf (o_eql .t .t) r2 qz qZ))) hB [22,8,7,6,2,1,0] [1,0] rfl rfl fun a w F hS=>Zb ?_
 refine Zd hS rfl (fun hc1=>?_) (fun hc1=>?_)
 ·skip
  have hg:=ZmX (x:=x) (by have h9:=hc1;simp at h9;omega:i=l.length)
  refine wp_seq ?_
  refine Zc hS (qM rfl rfl (qM rfl rfl (qf (o_append (sz:=3) (bs:=40) 1 (.mk' Tryz.underlying22 (by kernel_rfl) (by kernel_rfl)) (by intro x;rfl) .is (.sl .t) (by simp only [List.length_cons,List.length_nil];omega) (by decide)) ⟨rfl,rfl,trivial⟩ ⟨rfl,trivial⟩ (qN rfl rfl qZ)))) hB [8,7,6,2,1,0] [1,0] (fun _=>rfl) (fun _=>rfl) fun τ a w F hS=>?_
  try dsimp only [RS.sub,SF.sub,CF.sub,csub,Anc.sub,List.map,xC,xN,rTx] at hS
  generalize τ 25=v25 at hS
  refine Zb (wp_ret (Ze ?_))
  have hS:=hS.turn 1 rfl (r':=RS.hp (Zu 38 3 rTx (l.take i ++ [x] ++ l.drop i) v25)) (fun _ _ _ _ h=>by rw [hg];exact h)
  refine ZaG (h':=fun v=>Zu 38 3 rTx (l.take i ++ [x] ++ l.drop i) v) hG hS rfl (.tmp rfl .nil) (.one .one) rfl
 have hil:i<l.length:=by simp at hc1;omega
 have hw1:IntKind.wrap .i64 ((i:Int)+1)=((i+1:Nat):Int):=wrap_succ (by omega)
 have hwn:IntKind.wrap .i64 ((l.length:Int)+1)=((l.length+1:Nat):Int):=wrap_succ (by omega)
 refine wp_skip (Zb (wp_seq (wp_seq ?_)))
 refine Za hS (qM rfl rfl (qM rfl rfl (qf (Zbu .t .t) r2 qz (qM rfl rfl (qf (Zjj 1 Tryz.underlying22 .is) r1 r1 (qf (ZaJ .t .t) r2 qz qZ)))))) hB [31,8,7,6,2,1,0] [1,0] rfl rfl fun a w F hS=>Zb ?_
 refine Zd hS rfl (fun hc2=>?_) (fun hc2=>?_)
 ·skip
  have hcap:capV v<l.length+1:=by rw [hwn] at hc2;simp at hc2;omega
  have hw:IntKind.wrap .i64 (IntKind.wrap .i64 ((l.length:Int)+1) - (i:Int))=((l.length+1 - i:Nat):Int):=by rw [hwn,ZA (by omega)];omega
  refine wp_seq ?_
  refine Zc hS (qM rfl rfl (qM rfl rfl (qf (Zej (sz:=3) 1 (.mk Tryz.underlying22 (by kernel_rfl)) .is .t (by omega) (by omega)) r2 r1 (qM rfl rfl (qM rfl rfl (qf (Zbu .t .t) r2 qz (qM rfl rfl (qf (o_sub .t .t) r2 qz (qf (Zdb (R:=rTx) (z:=(⟨0,false,[]⟩:TxD)) (bs:=40) (sz:=3) (zs:=[.int .i64 0,.bool false,.slice none 0 0]) 1 101 Tryz.underlying22 Tryz.underlying3 (by kernel_rfl) (by kernel_rfl) (by kernel_rfl) (by intro x;rfl) (fun _ _=>⟨⟨rfl,rfl,Zjt⟩,⟨rfl,rfl⟩,⟨rfl,Zjh⟩,trivial⟩) .t .t (by omega) (by rw [hw];omega) (by rw [hw];omega) (by rw [hw];omega) (by rw [hw];omega)) ⟨rfl,rfl,trivial⟩ ⟨rfl,trivial⟩ (qN rfl rfl qZ)))))))))) hB [9,8,7,6,2,1,0] [101,1,0] (fun _=>rfl) (fun _=>rfl) fun τ a w F hS=>?_
  try dsimp only [RS.sub,SF.sub,CF.sub,csub,Anc.sub,List.map,xC,xN,rTx] at hS
  generalize τ 40=v40 at hS
  rw [hw] at hS
  simp only [Int.toNat_natCast] at hS
  obtain ⟨l2,hl2⟩:∃ y,y=l.take i++List.replicate (l.length+1 - i) (⟨0,false,[]⟩:TxD):=⟨_,rfl⟩
  rw [← hl2] at hS
  have hl2n:l2.length=l.length+1:=by rw [hl2,List.length_append,List.length_take,List.length_replicate];omega
  obtain ⟨F,hS⟩:=hS.give 1 0 rfl rfl
  obtain ⟨F,hS⟩:=hS.nm [9,8,7,6,2,1,0] [101,0] rfl rfl
  refine Zb (wp_seq ?_)
  refine Za hS (qM rfl rfl (qM rfl rfl (qf (Zat (sz:=3) 101 (.mk Tryz.underlying22 (by kernel_rfl)) .is .t (by omega) (by omega)) r2 r1 (qM rfl rfl (qf (o_copy_sub 101 Tryz.underlying22 (by kernel_rfl) (by intro x;rfl) .t .t (by simp) (by simp;omega)) r2 r1 qZ))))) hB [9,8,7,6,2,1,0] [101,0] rfl rfl fun a w F hS=>?_
  simp only [Int.toNat_natCast] at hS
  obtain ⟨l3,hl3⟩:∃ y,y=l2.take i ++ [x] ++ l2.drop (i + [x].length):=⟨_,rfl⟩
  rw [← hl3] at hS
  have hl3n:l3.length=l.length+1:=by rw [hl3,List.length_append,List.length_append,List.length_take,List.length_drop,hl2n];simp;omega
  refine Zb (wp_seq ?_)
  refine Zw hS (qM rfl rfl (qM rfl rfl (qM rfl rfl (qf (Zbu .t .t) r2 qz (qf (Zat (sz:=3) 101 (.mk Tryz.underlying22 (by kernel_rfl)) .is .t (by rw [hw1];omega) (by rw [hw1];omega)) r2 r1 (qM rfl rfl (qM rfl rfl (qf (o_slice_lo (sz:=3) (.mk Tryz.underlying22 (by kernel_rfl)) (by intro x;rfl) .t .t (by omega) (by omega)) r2 qz (qf (o_copy_sub 101 Tryz.underlying22 (by kernel_rfl) (by intro x;rfl) .t .t (by intro h9;have:=congrArg List.length h9;simp at this;omega) (by rw [hw1,List.length_drop];omega)) r2 r1 qZ))))))))) hB [9,8,7,6,2,1,0] [101,0] rfl rfl fun a w F hS=>?_
  try dsimp only [rTx] at hS
  rw [hw1] at hS
  simp only [Int.toNat_natCast] at hS
  have hg:=Zkt (x:=x) hil hl2 hl3
  refine Zb (wp_seq ?_)
  refine Za hS (qM rfl rfl (qN rfl rfl qZ)) hB [8,7,6,2,1,0] [101,0] rfl rfl fun a w F hS=>Zb (wp_ret (Ze ?_))
  obtain ⟨F,hS⟩:=hS.rename 101 1 rfl rfl
  have hS:=hS.turn 1 rfl (r':=RS.hp (Zu 38 3 rTx (l.take i ++ [x] ++ l.drop i) v40)) (fun _ _ _ _ h=>by rw [hg];exact h)
  refine ZaG (h':=fun v=>Zu 38 3 rTx (l.take i ++ [x] ++ l.drop i) v) hG hS rfl (.tmp rfl .nil) (.one .one) rfl
 have hcap:l.length+1≤capV v:=by rw [hwn] at hc2;simp at hc2;omega
 refine wp_skip (Zb (wp_seq ?_))
 refine Zc hS (qM rfl rfl (qM rfl rfl (qM rfl rfl (qf (Zbu .t .t) r2 qz (qf (ZgO (sz:=3) 1 (.mk Tryz.underlying22 (by kernel_rfl)) .is .t (by rw [hwn];omega) (by omega)) r2 r1 (qN rfl rfl qZ)))))) hB [8,7,6,2,1,0] [1,0] (fun _=>rfl) (fun _=>rfl) fun τ a w F hS=>?_
 try dsimp only [RS.sub,SF.sub,CF.sub,csub,Anc.sub,List.map,rTx] at hS
 generalize τ 60=v60 at hS
 refine Zb (wp_seq (wp_seq ?_))
 refine Za hS (qM rfl rfl (qM rfl rfl (qM rfl rfl (qM rfl rfl (qf (Zbu .t .t) r2 qz (qf (Zbp (sz:=3) 1 (.mk Tryz.underlying22 (by kernel_rfl)) .is .t (by rw [hw1];omega) (by rw [hw1];omega)) r2 r1 (qf (Zgz 1 Tryz.func125 (by kernel_rfl) (by kernel_rfl) (by kernel_rfl) rfl Tryz.underlying22 (by kernel_rfl) (by intro x;rfl) .t .t (by rw [hw1];omega)) r2 r1 (qf (o_not .t) r1 qz qZ)))))))) hB [68,8,7,6,2,1,0] [1,0] rfl rfl fun a w F hS=>Zb ?_
 refine Zd hS rfl (fun hc3=>?_) (fun hc3=>?_)
 ·skip
  refine wp_seq ?_
  refine Zw hS (qM rfl rfl (qM rfl rfl (qM rfl rfl (qf (Zbu .t .t) r2 qz (qf (Zbp (sz:=3) 1 (.mk Tryz.underlying22 (by kernel_rfl)) .is .t (by rw [hw1];omega) (by rw [hw1];omega)) r2 r1 (qM rfl rfl (qM rfl rfl (qf (Zbp (sz:=3) 1 (.mk Tryz.underlying22 (by kernel_rfl)) .is .t (by omega) (by omega)) r2 r1 (qf (Zev (k:=i) 1 Tryz.underlying22 (by kernel_rfl) (by intro x;rfl) .t .t (by rw [hw1];rfl) rfl (by omega)) r2 r1 qZ))))))))) hB [8,7,6,2,1,0] [1,0] rfl rfl fun a w F hS=>?_
  try dsimp only [rTx] at hS
  obtain ⟨l4,hl4⟩:∃ y,y=l.take (i+1)++l.drop i:=⟨_,rfl⟩
  rw [← hl4] at hS
  have hl4n:l4.length=l.length+1:=by rw [hl4,List.length_append,List.length_take,List.length_drop];omega
  refine Zb (wp_seq ?_)
  refine Za hS (qM rfl rfl (qM rfl rfl (qf (Zat (sz:=3) 1 (.mk Tryz.underlying22 (by kernel_rfl)) .is .t (by omega) (by omega)) r2 r1 (qM rfl rfl (qf (o_copy_sub 1 Tryz.underlying22 (by kernel_rfl) (by intro x;rfl) .t .t (by simp) (by simp;omega)) r2 r1 qZ))))) hB [8,7,6,2,1,0] [1,0] rfl rfl fun a w F hS=>?_
  simp only [Int.toNat_natCast] at hS
  have hg:=ZiL (x:=x) hil hl4
  refine Zb (wp_seq ?_)
  refine Za hS (qM rfl rfl (qN rfl rfl qZ)) hB [8,7,6,2,1,0] [1,0] rfl rfl fun a w F hS=>Zb (wp_ret (Ze ?_))
  have hS:=hS.turn 1 rfl (r':=RS.hp (Zu 38 3 rTx (l.take i ++ [x] ++ l.drop i) v60)) (fun _ _ _ _ h=>by rw [hg];exact h)
  refine ZaG (h':=fun v=>Zu 38 3 rTx (l.take i ++ [x] ++ l.drop i) v) hG hS rfl (.tmp rfl .nil) (.one .one) rfl
 simp at hc3
theorem Zsv (v:Value) (l:List OrdD) (i:Nat) (x:OrdD) (hll:l.length≤1000000) (hi:i≤l.length):FnG Tryz.prog 129 1 [.is v,.int .i64 i,.sl Zz [x]] [Zu 41 2 Zz l v] (PV.one) (fun v=>[Zu 41 2 Zz (l.take i ++ [x] ++ l.drop i) v]):=by
 refine FnG.mk Tryz.func129 rfl Tryz.ntmps129 rfl (by kernel_rfl) ?_
 intro B F0 a w F hB hG hS
 replace hS:=hS.turn 1 rfl (r':=.ob (.val v) (Zu 41 2 Zz l)) (fun _ _ _ _ h=>h)
 refine wp_seq ?_
 refine Za hS (qC qZ) hB [6,2,1,0] [1,0] rfl rfl fun a w F hS=>Zb (wp_seq ?_)
 refine Za hS (qM rfl rfl (qM rfl rfl (qf (Zjg (sz:=2) 1 (.mk Tryz.underlying23 (by kernel_rfl)) .is .t (by omega) (by omega)) r2 r1 qZ))) hB [6,2,1,0] [1,0] rfl rfl fun a w F hS=>Zb (wp_seq ?_)
 refine Za hS (qM rfl rfl (qu Tryz.underlying23 r1 (qN rfl rfl qZ))) hB [7,6,2,1,0] [1,0] rfl rfl fun a w F hS=>?_
 replace hS:=hS.ent (i:=7) (s':=.pv (.int .i64 1)) rfl (.int rfl)
 obtain ⟨F,hS⟩:=hS.nm [7,6,2,1,0] [1,0] rfl rfl
 refine Zb (wp_seq (wp_seq ?_))
 refine Za hS (qM rfl rfl (qf (o_eql .t qi) r1 qz qZ)) hB [16,7,6,2,1,0] [1,0] rfl rfl fun a w F hS=>Zb ?_
 refine Zd hS rfl (fun hc0=>?_) (fun hc0=>?_)
 ·skip
  simp at hc0
 refine wp_skip (Zb (wp_seq ?_))
 refine Za hS (qM rfl rfl (qf (ZZ 1 Tryz.underlying23 .is) r1 r1 (qN rfl rfl qZ))) hB [8,7,6,2,1,0] [1,0] rfl rfl fun a w F hS=>Zb (wp_seq (wp_seq ?_))
 refine Za hS (qM rfl rfl (qM rfl rfl (qf (o_eql .t .t) r2 qz qZ))) hB [22,8,7,6,2,1,0] [1,0] rfl rfl fun a w F hS=>Zb ?_
 refine Zd hS rfl (fun hc1=>?_) (fun hc1=>?_)
 ·skip
  have hg:=ZmX (x:=x) (by have h9:=hc1;simp at h9;omega:i=l.length)
  refine wp_seq ?_
  refine Zc hS (qM rfl rfl (qM rfl rfl (qf (o_append (sz:=2) (bs:=32) 1 (.mk' Tryz.underlying23 (by kernel_rfl) (by kernel_rfl)) (by intro x;rfl) .is (.sl .t) (by simp only [List.length_cons,List.length_nil];omega) (by decide)) ⟨rfl,rfl,trivial⟩ ⟨rfl,trivial⟩ (qN rfl rfl qZ)))) hB [8,7,6,2,1,0] [1,0] (fun _=>rfl) (fun _=>rfl) fun τ a w F hS=>?_
  try dsimp only [RS.sub,SF.sub,CF.sub,csub,Anc.sub,List.map,xC,xN,Zz] at hS
  generalize τ 25=v25 at hS
  refine Zb (wp_ret (Ze ?_))
  have hS:=hS.turn 1 rfl (r':=RS.hp (Zu 41 2 Zz (l.take i ++ [x] ++ l.drop i) v25)) (fun _ _ _ _ h=>by rw [hg];exact h)
  refine ZaG (h':=fun v=>Zu 41 2 Zz (l.take i ++ [x] ++ l.drop i) v) hG hS rfl (.tmp rfl .nil) (.one .one) rfl
 have hil:i<l.length:=by simp at hc1;omega
 have hw1:IntKind.wrap .i64 ((i:Int)+1)=((i+1:Nat):Int):=wrap_succ (by omega)
 have hwn:IntKind.wrap .i64 ((l.length:Int)+1)=((l.length+1:Nat):Int):=wrap_succ (by omega)
 refine wp_skip (Zb (wp_seq (wp_seq ?_)))
 refine Za hS (qM rfl rfl (qM rfl rfl (qf (Zbu .t .t) r2 qz (qM rfl rfl (qf (Zjj 1 Tryz.underlying23 .is) r1 r1 (qf (ZaJ .t .t) r2 qz qZ)))))) hB [31,8,7,6,2,1,0] [1,0] rfl rfl fun a w F hS=>Zb ?_
 refine Zd hS rfl (fun hc2=>?_) (fun hc2=>?_)
 ·skip
  have hcap:capV v<l.length+1:=by rw [hwn] at hc2;simp at hc2;omega
  have hw:IntKind.wrap .i64 (IntKind.wrap .i64 ((l.length:Int)+1) - (i:Int))=((l.length+1 - i:Nat):Int):=by rw [hwn,ZA (by omega)];omega
  refine wp_seq ?_
  refine Zc hS (qM rfl rfl (qM rfl rfl (qf (Zej (sz:=2) 1 (.mk Tryz.underlying23 (by kernel_rfl)) .is .t (by omega) (by omega)) r2 r1 (qM rfl rfl (qM rfl rfl (qf (Zbu .t .t) r2 qz (qM rfl rfl (qf (o_sub .t .t) r2 qz (qf (Zdb (R:=Zz) (z:=(⟨0,[]⟩:OrdD)) (bs:=32) (sz:=2) (zs:=[.int .i64 0,.slice none 0 0]) 1 101 Tryz.underlying23 Tryz.underlying3 (by kernel_rfl) (by kernel_rfl) (by kernel_rfl) (by intro x;rfl) (fun _ _=>⟨⟨rfl,rfl,Zjt⟩,⟨rfl,Zjh⟩,trivial⟩) .t .t (by omega) (by rw [hw];omega) (by rw [hw];omega) (by rw [hw];omega) (by rw [hw];omega)) ⟨rfl,rfl,trivial⟩ ⟨rfl,trivial⟩ (qN rfl rfl qZ)))))))))) hB [9,8,7,6,2,1,0] [101,1,0] (fun _=>rfl) (fun _=>rfl) fun τ a w F hS=>?_
  try dsimp only [RS.sub,SF.sub,CF.sub,csub,Anc.sub,List.map,xC,xN,Zz] at hS
  generalize τ 40=v40 at hS
  rw [hw] at hS
  simp only [Int.toNat_natCast] at hS
  obtain ⟨l2,hl2⟩:∃ y,y=l.take i++List.replicate (l.length+1 - i) (⟨0,[]⟩:OrdD):=⟨_,rfl⟩
  rw [← hl2] at hS
  have hl2n:l2.length=l.length+1:=by rw [hl2,List.length_append,List.length_take,List.length_replicate];omega
  obtain ⟨F,hS⟩:=hS.give 1 0 rfl rfl
  obtain ⟨F,hS⟩:=hS.nm [9,8,7,6,2,1,0] [101,0] rfl rfl
  refine Zb (wp_seq ?_)
  refine Za hS (qM rfl rfl (qM rfl rfl (qf (Zat (sz:=2) 101 (.mk Tryz.underlying23 (by kernel_rfl)) .is .t (by omega) (by omega)) r2 r1 (qM rfl rfl (qf (o_copy_sub 101 Tryz.underlying23 (by kernel_rfl) (by intro x;rfl) .t .t (by simp) (by simp;omega)) r2 r1 qZ))))) hB [9,8,7,6,2,1,0] [101,0] rfl rfl fun a w F hS=>?_
  simp only [Int.toNat_natCast] at hS
  obtain ⟨l3,hl3⟩:∃ y,y=l2.take i ++ [x] ++ l2.drop (i + [x].length):=⟨_,rfl⟩
  rw [← hl3] at hS
  have hl3n:l3.length=l.length+1:=by rw [hl3,List.length_append,List.length_append,List.length_take,List.length_drop,hl2n];simp;omega
  refine Zb (wp_seq ?_)
  refine Zw hS (qM rfl rfl (qM rfl rfl (qM rfl rfl (qf (Zbu .t .t) r2 qz (qf (Zat (sz:=2) 101 (.mk Tryz.underlying23 (by kernel_rfl)) .is .t (by rw [hw1];omega) (by rw [hw1];omega)) r2 r1 (qM rfl rfl (qM rfl rfl (qf (o_slice_lo (sz:=2) (.mk Tryz.underlying23 (by kernel_rfl)) (by intro x;rfl) .t .t (by omega) (by omega)) r2 qz (qf (o_copy_sub 101 Tryz.underlying23 (by kernel_rfl) (by intro x;rfl) .t .t (by intro h9;have:=congrArg List.length h9;simp at this;omega) (by rw [hw1,List.length_drop];omega)) r2 r1 qZ))))))))) hB [9,8,7,6,2,1,0] [101,0] rfl rfl fun a w F hS=>?_
  try dsimp only [Zz] at hS
  rw [hw1] at hS
  simp only [Int.toNat_natCast] at hS
  have hg:=Zkt (x:=x) hil hl2 hl3
  refine Zb (wp_seq ?_)
  refine Za hS (qM rfl rfl (qN rfl rfl qZ)) hB [8,7,6,2,1,0] [101,0] rfl rfl fun a w F hS=>Zb (wp_ret (Ze ?_))
  obtain ⟨F,hS⟩:=hS.rename 101 1 rfl rfl
  have hS:=hS.turn 1 rfl (r':=RS.hp (Zu 41 2 Zz (l.take i ++ [x] ++ l.drop i) v40)) (fun _ _ _ _ h=>by rw [hg];exact h)
  refine ZaG (h':=fun v=>Zu 41 2 Zz (l.take i ++ [x] ++ l.drop i) v) hG hS rfl (.tmp rfl .nil) (.one .one) rfl
 have hcap:l.length+1≤capV v:=by rw [hwn] at hc2;simp at hc2;omega
 refine wp_skip (Zb (wp_seq ?_))
 refine Zc hS (qM rfl rfl (qM rfl rfl (qM rfl rfl (qf (Zbu .t .t) r2 qz (qf (ZgO (sz:=2) 1 (.mk Tryz.underlying23 (by kernel_rfl)) .is .t (by rw [hwn];omega) (by omega)) r2 r1 (qN rfl rfl qZ)))))) hB [8,7,6,2,1,0] [1,0] (fun _=>rfl) (fun _=>rfl) fun τ a w F hS=>?_
 try dsimp only [RS.sub,SF.sub,CF.sub,csub,Anc.sub,List.map,Zz] at hS
 generalize τ 60=v60 at hS
 refine Zb (wp_seq (wp_seq ?_))
 refine Za hS (qM rfl rfl (qM rfl rfl (qM rfl rfl (qM rfl rfl (qf (Zbu .t .t) r2 qz (qf (Zbp (sz:=2) 1 (.mk Tryz.underlying23 (by kernel_rfl)) .is .t (by rw [hw1];omega) (by rw [hw1];omega)) r2 r1 (qf (Zgz 1 Tryz.func158 (by kernel_rfl) (by kernel_rfl) (by kernel_rfl) rfl Tryz.underlying23 (by kernel_rfl) (by intro x;rfl) .t .t (by rw [hw1];omega)) r2 r1 (qf (o_not .t) r1 qz qZ)))))))) hB [68,8,7,6,2,1,0] [1,0] rfl rfl fun a w F hS=>Zb ?_
 refine Zd hS rfl (fun hc3=>?_) (fun hc3=>?_)
 ·skip
  refine wp_seq ?_
  refine Zw hS (qM rfl rfl (qM rfl rfl (qM rfl rfl (qf (Zbu .t .t) r2 qz (qf (Zbp (sz:=2) 1 (.mk Tryz.underlying23 (by kernel_rfl)) .is .t (by rw [hw1];omega) (by rw [hw1];omega)) r2 r1 (qM rfl rfl (qM rfl rfl (qf (Zbp (sz:=2) 1 (.mk Tryz.underlying23 (by kernel_rfl)) .is .t (by omega) (by omega)) r2 r1 (qf (Zev (k:=i) 1 Tryz.underlying23 (by kernel_rfl) (by intro x;rfl) .t .t (by rw [hw1];rfl) rfl (by omega)) r2 r1 qZ))))))))) hB [8,7,6,2,1,0] [1,0] rfl rfl fun a w F hS=>?_
  try dsimp only [Zz] at hS
  obtain ⟨l4,hl4⟩:∃ y,y=l.take (i+1)++l.drop i:=⟨_,rfl⟩
  rw [← hl4] at hS
  have hl4n:l4.length=l.length+1:=by rw [hl4,List.length_append,List.length_take,List.length_drop];omega
  refine Zb (wp_seq ?_)
  refine Za hS (qM rfl rfl (qM rfl rfl (qf (Zat (sz:=2) 1 (.mk Tryz.underlying23 (by kernel_rfl)) .is .t (by omega) (by omega)) r2 r1 (qM rfl rfl (qf (o_copy_sub 1 Tryz.underlying23 (by kernel_rfl) (by intro x;rfl) .t .t (by simp) (by simp;omega)) r2 r1 qZ))))) hB [8,7,6,2,1,0] [1,0] rfl rfl fun a w F hS=>?_
  simp only [Int.toNat_natCast] at hS
  have hg:=ZiL (x:=x) hil hl4
  refine Zb (wp_seq ?_)
  refine Za hS (qM rfl rfl (qN rfl rfl qZ)) hB [8,7,6,2,1,0] [1,0] rfl rfl fun a w F hS=>Zb (wp_ret (Ze ?_))
  have hS:=hS.turn 1 rfl (r':=RS.hp (Zu 41 2 Zz (l.take i ++ [x] ++ l.drop i) v60)) (fun _ _ _ _ h=>by rw [hg];exact h)
  refine ZaG (h':=fun v=>Zu 41 2 Zz (l.take i ++ [x] ++ l.drop i) v) hG hS rfl (.tmp rfl .nil) (.one .one) rfl
 simp at hc3
theorem Zss (v:Value) (l:List TxD) (i:Nat) (hll:l.length≤1000000) (hi:i<l.length):FnG Tryz.prog 99 1 [.is v,.int .i64 i,.int .i64 ((i+1:Nat):Int)] [Zu 38 3 rTx l v] (PV.one) (fun v=>[Zu 38 3 rTx (l.take i++l.drop (i+1)) v]):=by
 refine FnG.mk Tryz.func99 rfl Tryz.ntmps99 rfl (by kernel_rfl) ?_
 intro B F0 a w F hB hG hS
 replace hS:=hS.turn 1 rfl (r':=.ob (.val v) (Zu 38 3 rTx l)) (fun _ _ _ _ h=>h)
 have hrc:=(hS.rowCap (n:=1) rfl).1
 refine wp_seq ?_
 refine Za hS (qC qZ) hB [6,2,1,0] [1,0] rfl rfl fun a w F hS=>Zb (wp_seq ?_)
 refine Za hS (qM rfl rfl (qM rfl rfl (qM rfl rfl (qM rfl rfl (qf (ZZ 1 Tryz.underlying22 .is) r1 r1 (qf (ZpI (sz:=3) 1 (.mk Tryz.underlying22 (by kernel_rfl)) .is .t .t .t (by omega) (by omega) (by omega) (by omega)) r4 r1 qZ)))))) hB [6,2,1,0] [1,0] rfl rfl fun a w F hS=>Zb (wp_seq (wp_seq ?_))
 refine Za hS (qM rfl rfl (qM rfl rfl (qf (o_eql .t .t) r2 qz qZ))) hB [16,6,2,1,0] [1,0] rfl rfl fun a w F hS=>Zb ?_
 refine Zd hS rfl (fun hc0=>?_) (fun hc0=>?_)
 ·skip
  simp at hc0;omega
 refine wp_skip (Zb (wp_seq ?_))
 refine Za hS (qM rfl rfl (qf (ZZ 1 Tryz.underlying22 .is) r1 r1 (qN rfl rfl qZ))) hB [7,6,2,1,0] [1,0] rfl rfl fun a w F hS=>Zb (wp_seq ?_)
 refine Zw hS (qM rfl rfl (qM rfl rfl (qf (Zej (sz:=3) 1 (.mk Tryz.underlying22 (by kernel_rfl)) .is .t (by omega) (by omega)) r2 r1 (qM rfl rfl (qM rfl rfl (qf (Zik (sz:=3) 1 (.mk Tryz.underlying22 (by kernel_rfl)) .is .t (by omega) (by omega) (by omega)) r2 r1 (qf (ZhP 1 Tryz.underlying22 (by kernel_rfl) (by intro x;rfl) .t .t (by omega) (by omega) (by omega)) ⟨rfl,rfl,trivial⟩ ⟨rfl,trivial⟩ (qN rfl rfl qZ)))))))) hB [7,6,0] [1,0] rfl rfl fun a w F hS=>?_
 try dsimp only [xC,xN,rTx] at hS
 simp only [Int.toNat_natCast] at hS
 obtain ⟨v2,hv2⟩:∃ y,y=ZhT (i+(l.length - (i+1))) v:=⟨_,rfl⟩
 rw [← hv2] at hS
 have hcv:capV v2=capV v:=by rw [hv2];exact ZmL _ _
 obtain ⟨l4,hl4⟩:∃ y,y=l.take i++l.drop (i+1):=⟨_,rfl⟩
 rw [← hl4] at hS
 have hl4n:l4.length+1=l.length:=by rw [hl4,List.length_append,List.length_take,List.length_drop];omega
 have hg:=hl4.symm
 refine Zb (wp_seq ?_)
 refine Za hS (qM rfl rfl (qM rfl rfl (qf (ZZ 1 Tryz.underlying22 .is) r1 r1 (qM rfl rfl (qf (ZrE (sz:=3) 1 (.mk Tryz.underlying22 (by kernel_rfl)) .is .t .t (by omega) (by omega) (by rw [hcv];omega)) r3 r1 (qf (Zhj (zs:=[.int .i64 0,.bool false,.slice none 0 0]) 1 Tryz.underlying22 rfl rfl (Zmu (zs:=[.int .i64 0,.bool false,.slice none 0 0]) (R:=rTx) (v:=(⟨0,false,[]⟩:TxD)) rfl (by decide) (fun _ _=>⟨⟨rfl,rfl,Zjt⟩,⟨rfl,rfl⟩,⟨rfl,Zjh⟩,trivial⟩) _) .t (by omega) (by rw [hcv];omega)) r1 r1 qZ)))))) hB [6,0] [1,0] rfl rfl fun a w F hS=>Zb (wp_seq ?_)
 refine Za hS (qM rfl rfl (qN rfl rfl qZ)) hB [6] [1,0] rfl rfl fun a w F hS=>Zb (wp_ret ?_)
 have hS:=hS.turn 1 rfl (r':=RS.hp (Zu 38 3 rTx (l.take i++l.drop (i+1)) v2)) (fun _ _ _ _ h=>by rw [hg];exact h)
 refine ZaG (h':=fun v=>Zu 38 3 rTx (l.take i++l.drop (i+1)) v) hG hS rfl (.tmp rfl .nil) (.one .one) rfl
def Zhi (x y:Int):Int:=if x<y then -1 else if y<x then 1 else 0
theorem ZhO {x y:Int} : Zhi x y<0 ↔ x<y:=by unfold Zhi;split <;> (try split) <;> omega
theorem Zok {x y:Int} : Zhi x y=0 ↔ x=y:=by unfold Zhi;split <;> (try split) <;> omega
theorem ZsZ {x:Int} (h:0≤x∧x≤18446744073709551615):IntKind.wrap .u64 x=x:=Zhz ⟨by simp [IntKind.min,IntKind.signed,IntKind.bits];omega,by simp [IntKind.max,IntKind.signed,IntKind.bits];omega⟩
theorem Zm7 {i j:Nat} (h:i+j≤2000000):IntKind.wrap .i64 ((IntKind.wrap .u64 (IntKind.wrap .i64 ((i:Int)+(j:Int)))).fdiv (2 ^ min (1:Int).toNat (IntKind.bits .u64)))=(((i+j) / 2:Nat):Int):=by
 rw [ZA (x:=(i:Int)+(j:Int)) (by omega),ZsZ (by omega),show (2:Int) ^ min (1:Int).toNat (IntKind.bits .u64)=2 by decide,Int.fdiv_eq_ediv_of_nonneg _ (by decide),ZA (by omega)]
 omega
def ZbP {α:Type} [Inhabited α] (κ:α→Int) (l:List α):Prop:=∀ a b,a<b→b<l.length→κ (Go.Gm.nth l a)<κ (Go.Gm.nth l b)
def lowK {α:Type} (κ:α→Int) (k:Int) (l:List α):Nat:=(l.takeWhile fun x=>decide (κ x<k)).length
def isK {α:Type} (κ:α→Int) (k:Int) (l:List α):Bool:=l.any fun x=>decide (κ x=k)
theorem ZhF {α:Type} [Inhabited α] {κ:α→Int} {k:Int} : ∀ {l:List α} {i:Nat},i≤l.length→(∀ q,q<i→κ (Go.Gm.nth l q)<k)→(∀ q,i≤q→q<l.length→k≤κ (Go.Gm.nth l q))→lowK κ k l=i
 | [],i,hi,_,_=>by simp at hi;subst hi;rfl
 | x :: l,0,_,_,h2=>by
   have:=h2 0 (Nat.le_refl _) (by simp)
   rw [Zn (by simp)] at this
   unfold lowK
   rw [List.takeWhile_cons_of_neg (by simpa using this)];rfl
 | x :: l,i+1,hi,h1,h2=>by
   have hx:=h1 0 (by omega)
   rw [Zn (by simp)] at hx
   have ih:=ZhF (κ:=κ) (k:=k) (l:=l) (i:=i) (by simpa using hi) (fun q hq=>by
     have:=h1 (q+1) (by omega)
     rw [Zn (by simp at hi ⊢;omega)] at this
     rw [Zn (by simp at hi;omega)];simpa using this) (fun q hq hq2=>by
     have:=h2 (q+1) (by omega) (by simp;omega)
     rw [Zn (by simp;omega)] at this
     rw [Zn hq2];simpa using this)
   unfold lowK at ih ⊢
   rw [List.takeWhile_cons_of_pos (by simpa using hx),List.length_cons,ih]
theorem Zqu {α:Type} [Inhabited α] {κ:α→Int} {k:Int} {l:List α} {i:Nat} (hi:i≤l.length) (hs:ZbP κ l) (h1:∀ q,q<i→κ (Go.Gm.nth l q)<k) (h2:∀ q,i≤q→q<l.length→k≤κ (Go.Gm.nth l q)):isK κ k l=true ↔ i<l.length∧κ (Go.Gm.nth l i)=k:=by
 unfold isK
 rw [List.any_eq_true]
 constructor
 · rintro ⟨x,hx,hk⟩
   obtain ⟨q,hq,e⟩:=List.getElem_of_mem hx
   have hk':κ (Go.Gm.nth l q)=k:=by rw [Zn hq,e];simpa using hk
   have hiq:i≤q:=Nat.le_of_not_lt fun h=>by have:=h1 q h;omega
   rcases Nat.lt_or_eq_of_le hiq with h | h
   · have a1:=hs i q h hq
     have a2:=h2 i (Nat.le_refl _) (by omega)
     omega
   · subst h;exact ⟨hq,hk'⟩
 · rintro ⟨h3,h4⟩
   exact ⟨_,ZB h3,by simpa using h4⟩
theorem ZfL {α:Type} [Inhabited α] {κ:α→Int} {l:List α} (hs:ZbP κ l) {a b:Nat} (h:a≤b) (hb:b<l.length):κ (Go.Gm.nth l a)≤κ (Go.Gm.nth l b):=by
 rcases Nat.lt_or_eq_of_le h with h | h
 · exact Int.le_of_lt (hs a b h hb)
 · subst h;exact Int.le_refl _
theorem ZkM (x:Int):FnP Tryz.prog 163 [.int .i64 x] (.bool false):=by
 refine FnP.mk Tryz.func163 rfl Tryz.ntmps163 rfl ?_
 intro B a w F hB hfr hS
 refine wp_seq ?_
 refine Za hS qB hB [2,0] [0] rfl rfl fun a w F hS=>Zb (wp_seq ?_)
 refine Za hS (qM rfl rfl (qM rfl rfl (qf (o_neq .t .t) r2 qz (qN rfl rfl qZ)))) hB [2] [0] rfl rfl fun a w F hS=>Zb (wp_ret ?_)
 refine Zm hfr hS rfl rfl rfl (.bool (by simp))
theorem Zqb (x y:Int):FnP Tryz.prog 136 [.int .i64 x,.int .i64 y] (.int .i64 (Zhi x y)):=by
 refine FnP.mk Tryz.func136 rfl Tryz.ntmps136 rfl ?_
 intro B a w F hB hfr hS
 refine wp_seq ?_
 refine Za hS (qI qZ) hB [4,1,0] [0] rfl rfl fun a w F hS=>Zb (wp_seq ?_)
 refine Za hS (qM rfl rfl (qf (oP (ZkM x) Tryz.func163 (Args.one .t)) r1 qz (qN rfl rfl qZ))) hB [5,4,1,0] [0] rfl rfl fun a w F hS=>Zb (wp_seq ?_)
 refine Za hS (qM rfl rfl (qf (oP (ZkM y) Tryz.func163 (Args.one .t)) r1 qz (qN rfl rfl qZ))) hB [6,5,4,1,0] [0] rfl rfl fun a w F hS=>Zb (wp_seq (wp_seq ?_))
 refine Za hS (qM rfl rfl qZ) hB [11,6,4,1,0] [0] rfl rfl fun a w F hS=>Zb ?_
 refine Zd hS rfl (fun hc0=>?_) (fun hc0=>?_)
 ·skip
  simp at hc0
 refine wp_skip (Zb (wp_seq (wp_seq ?_)))
 refine Za hS (qM rfl rfl qZ) hB [13,4,1,0] [0] rfl rfl fun a w F hS=>Zb ?_
 refine Zd hS rfl (fun hc1=>?_) (fun hc1=>?_)
 ·skip
  simp at hc1
 refine wp_skip (Zb (wp_seq (wp_seq ?_)))
 refine Za hS (qM rfl rfl (qM rfl rfl (qL r2))) hB [16,4,1,0] [0] rfl rfl fun a w F hS=>Zb ?_
 refine Zd hS rfl (fun hc2=>?_) (fun hc2=>?_)
 ·skip
  have hg:(-1:Int)=Zhi x y:=by unfold Zhi;rw [if_pos (by simpa using hc2)]
  refine wp_seq ?_
  refine Za hS (qI qZ) hB [4,1,0] [0] rfl rfl fun a w F hS=>Zb (wp_ret (Ze ?_))
  refine Zm hfr hS rfl rfl rfl (.int hg)
 have h1:¬ x<y:=by simpa using hc2
 refine wp_skip (Zb (wp_seq (wp_seq ?_)))
 refine Za hS (qM rfl rfl (qM rfl rfl (qf (ZaJ .t .t) r2 qz qZ))) hB [19,4] [0] rfl rfl fun a w F hS=>Zb ?_
 refine Zd hS rfl (fun hc3=>?_) (fun hc3=>?_)
 ·skip
  have hg:(1:Int)=Zhi x y:=by unfold Zhi;rw [if_neg h1,if_pos (by simpa using hc3)]
  refine wp_seq ?_
  refine Za hS (qI qZ) hB [4] [0] rfl rfl fun a w F hS=>Zb (wp_ret (Ze ?_))
  refine Zm hfr hS rfl rfl rfl (.int hg)
 have hg:(0:Int)=Zhi x y:=by unfold Zhi;rw [if_neg h1,if_neg (by simpa using hc3)]
 refine wp_skip (Zb (wp_seq ?_))
 refine Za hS (qI qZ) hB [4] [0] rfl rfl fun a w F hS=>Zb (wp_ret ?_)
 refine Zm hfr hS rfl rfl rfl (.int hg)
theorem ZoT (x:TxD) (k:Int):FnP Tryz.prog 135 [.agg (rTx x),.int .i64 k] (.int .i64 (Zhi x.id k)):=by
 refine FnP.mk Tryz.func135 rfl Tryz.ntmps135 rfl ?_
 intro B a w F hB hfr hS
 refine wp_seq ?_
 refine Zc hS (qx 101 r1 (qI qZ)) hB [4,2,1] [101,0] (fun _=>rfl) (fun _=>rfl) fun τ a w F hS=>?_
 try dsimp only [RS.sub,SF.sub,CF.sub,csub,Anc.sub,List.map,zCF,rTx] at hS
 generalize τ 2=v2 at hS
 refine Zb (wp_seq ?_)
 refine Za hS (qg 0 101 r1 r1 (qa 101 r1 r1 (qM rfl rfl (qf (oP (Zqb x.id k) Tryz.func136 (Args.two .t .t)) r2 qz (qN rfl rfl qZ))))) hB [4] [0] rfl rfl fun a w F hS=>Zb (wp_ret ?_)
 refine Zm hfr hS rfl rfl rfl (.int rfl)
theorem Zm1 (x:OrdD) (k:Int):FnP Tryz.prog 128 [.agg (Zz x),.int .i64 k] (.int .i64 (Zhi x.key k)):=by
 refine FnP.mk Tryz.func128 rfl Tryz.ntmps128 rfl ?_
 intro B a w F hB hfr hS
 refine wp_seq ?_
 refine Zc hS (qx 101 r1 (qI qZ)) hB [4,2,1] [101,0] (fun _=>rfl) (fun _=>rfl) fun τ a w F hS=>?_
 try dsimp only [RS.sub,SF.sub,CF.sub,csub,Anc.sub,List.map,zCF,Zz] at hS
 generalize τ 2=v2 at hS
 refine Zb (wp_seq ?_)
 refine Za hS (qg 0 101 r1 r1 (qa 101 r1 r1 (qM rfl rfl (qf (oP (Zqb x.key k) Tryz.func136 (Args.two .t .t)) r2 qz (qN rfl rfl qZ))))) hB [4] [0] rfl rfl fun a w F hS=>Zb (wp_ret ?_)
 refine Zm hfr hS rfl rfl rfl (.int rfl)
theorem Zs3 (l : List TxD) (k : Int) (hll : l.length ≤ 1000000) (hs : ZbP TxD.id l) (f : FuncId) (fn : Func) (cps : List PV) (hf : Tryz.prog.funcs[f]? = some fn) (hb : fn.body.isSome = true) (hnn : (fn.name == "runtime.NumGoroutine") = false) (hw : ∀ x : TxD, FnP Tryz.prog f (.agg (rTx x) :: .int .i64 k :: cps) (.int .i64 (Zhi (TxD.id x) k))) : FnP Tryz.prog 134 [.sl rTx l, .int .i64 k, .clos f cps] (.tup [.int .i64 (lowK TxD.id k l), .bool (isK TxD.id k l)]) := by
 refine FnP.mk Tryz.func134 rfl Tryz.ntmps134 rfl ?_
 intro B a w F hB hfr hS
 refine wp_seq ?_
 refine Za hS (qI qB) hB [7,6,2,1,0] [0] rfl rfl fun a w F hS=>Zb (wp_seq ?_)
 refine Za hS (qM rfl rfl (qu Tryz.underlying22 r1 (qN rfl rfl qZ))) hB [8,7,6,2,1,0] [0] rfl rfl fun a w F hS=>Zb (wp_seq ?_)
 refine Za hS (qM rfl rfl (qI (qN rfl rfl qZ))) hB [10,9,8,7,6,2,1,0] [0] rfl rfl fun a w F hS=>Zb (wp_seq (wp_block ?_))
 refine Zp (σ:=Nat×Nat) [0,1,2,6,7,8] [0] (fun s=>[(9,.pv (.int .i64 (s.1:Int))),(10,.pv (.int .i64 (s.2:Int)))]) (fun s=>[]) (fun s=>s.1≤s.2∧s.2≤l.length∧(∀ q,q<s.1→TxD.id (Go.Gm.nth l q)<k) ∧ ∀ q,s.2≤q→q<l.length→k≤TxD.id (Go.Gm.nth l q)) (fun s=>s.2 - s.1) ((0),(l.length)) hS ⟨rfl,rfl,rfl,rfl,rfl,rfl,rfl,rfl,trivial⟩ ⟨rfl,trivial⟩ ⟨Nat.zero_le _,Nat.le_refl _,fun q hq=>absurd hq (Nat.not_lt_zero q),fun q h1 h2=>by omega⟩ ?_
 clear hS;intro s a w F hC hS
 obtain ⟨i,j⟩:=s
 try dsimp only at hC
 obtain ⟨F,hS⟩:=hS.nm [10,9,8,7,6,2,1,0] [0] rfl rfl
 try dsimp only at hS
 obtain ⟨hij,hjl,hlo,hhi⟩:=hC
 have hgs:=Zqu (i:=i) (by omega) hs hlo
 have hgl:=ZhF (i:=i) (by omega) hlo
 refine wp_seq (wp_seq ?_)
 refine Za hS (qM rfl rfl (qM rfl rfl (qL r2))) hB [17,10,9,8,7,6,2,1,0] [0] rfl rfl fun a w F hS=>Zb ?_
 refine Zd hS rfl (fun hc0=>?_) (fun hc0=>?_)
 ·skip
  have hlt:i<j:=by simp at hc0;omega
  refine wp_skip (Zb (wp_block (wp_seq ?_)))
  refine Za hS (qM rfl rfl (qM rfl rfl (qf (Zbu .t .t) r2 qz (qf (Zcl Tryz.underlying178 (by kernel_rfl) .t) r1 qz (qf (Zr4 .t qi (by decide)) r1 qz (qf (Zcl Tryz.underlying3 (by kernel_rfl) .t) r1 qz (qN rfl rfl qZ))))))) hB [11,10,9,8,7,6,2,1,0] [0] rfl rfl fun a w F hS=>?_
  obtain ⟨m,hm⟩:∃ m:Nat,m=(i+j) / 2:=⟨_,rfl⟩
  replace hS:=hS.ent (i:=11) (s':=.pv (.int .i64 (m:Int))) rfl (.int (by rw [hm];exact Zm7 (by omega)))
  obtain ⟨F,hS⟩:=hS.nm [11,10,9,8,7,6,2,1,0] [0] rfl rfl
  refine Zb (wp_seq ?_)
  refine Za hS (qM rfl rfl (qM rfl rfl (qM rfl rfl (qy 3 Tryz.underlying22 r2 (qf (oR true 3 .t) r1 qz (qM rfl rfl (qf (ZM (avs:=[.agg (rTx (Go.Gm.nth l m)),.int .i64 k]) .t (hw (Go.Gm.nth l m)) hf hb hnn (Args.two (.pagg .t) .t)) r3 qz (qf (ZbC .t qi) r1 qz qZ)))))))) hB [31,11,10,9,8,7,6,2,1,0] [0] rfl rfl fun a w F hS=>?_
  try simp only [Int.toNat_natCast] at hS
  refine Zb ?_
  refine Zd hS rfl (fun hc1=>?_) (fun hc1=>?_)
  ·skip
   have hmk:TxD.id (Go.Gm.nth l m)<k:=ZhO.1 (by simpa using hc1)
   obtain ⟨i2,hi2e⟩:∃ z,z=m+1:=⟨_,rfl⟩
   obtain ⟨j2,hj2e⟩:∃ z,z=j:=⟨_,rfl⟩
   have hi2:IntKind.wrap .i64 ((m:Int)+1)=(i2:Int):=by rw [hi2e];exact wrap_succ (by omega)
   have hj2:(j:Int)=(j2:Int):=by rw [hj2e]
   have hmu:j2 - i2<j - i:=by omega
   have hC2:i2≤j2∧j2≤l.length∧(∀ q,q<i2→TxD.id (Go.Gm.nth l q)<k) ∧ ∀ q,j2≤q→q<l.length→k≤TxD.id (Go.Gm.nth l q):=⟨by omega,by omega,fun q hq=>Int.lt_of_le_of_lt (ZfL hs (by omega) (by omega)) hmk,by rw [hj2e];exact hhi⟩
   refine Za hS (qM rfl rfl (qp r1 (qN rfl rfl qZ))) hB [10,9,8,7,6,2,1,0] [0] rfl rfl fun a w F hS=>Zh (Zb ?_)
   replace hS:=hS.ent (i:=9) (s':=.pv (.int .i64 (i2:Int))) rfl (.int hi2)
   replace hS:=hS.ent (i:=10) (s':=.pv (.int .i64 (j2:Int))) rfl (.int hj2)
   obtain ⟨F,hS⟩:=hS.nm [8,7,6,2,1,0,10,9] [0] rfl rfl
   exact ⟨((i2),(j2)),F,hC2,hS,hmu⟩
  have hmk:k≤TxD.id (Go.Gm.nth l m):=Int.not_lt.1 fun e=>(show ¬ Zhi (TxD.id (Go.Gm.nth l m)) k<0 by simpa using hc1) (ZhO.2 e)
  obtain ⟨i2,hi2e⟩:∃ z,z=i:=⟨_,rfl⟩
  obtain ⟨j2,hj2e⟩:∃ z,z=m:=⟨_,rfl⟩
  have hi2:(i:Int)=(i2:Int):=by rw [hi2e]
  have hj2:(m:Int)=(j2:Int):=by rw [hj2e]
  have hmu:j2 - i2<j - i:=by omega
  have hC2:i2≤j2∧j2≤l.length∧(∀ q,q<i2→TxD.id (Go.Gm.nth l q)<k) ∧ ∀ q,j2≤q→q<l.length→k≤TxD.id (Go.Gm.nth l q):=⟨by omega,by omega,by rw [hi2e];exact hlo,fun q h1 h2=>Int.le_trans hmk (ZfL hs (by omega) h2)⟩
  refine Za hS (qM rfl rfl (qN rfl rfl qZ)) hB [10,9,8,7,6,2,1,0] [0] rfl rfl fun a w F hS=>Zh (Zb ?_)
  replace hS:=hS.ent (i:=9) (s':=.pv (.int .i64 (i2:Int))) rfl (.int hi2)
  replace hS:=hS.ent (i:=10) (s':=.pv (.int .i64 (j2:Int))) rfl (.int hj2)
  obtain ⟨F,hS⟩:=hS.nm [8,7,6,2,1,0,10,9] [0] rfl rfl
  exact ⟨((i2),(j2)),F,hC2,hS,hmu⟩
 have hjj:i=j:=by simp at hc0;omega
 subst hjj
 have hgl2:=hgl hhi
 have hgs2:=hgs hhi
 have hb2:(decide ((i:Int)<(l.length:Int)) && decide (Zhi (TxD.id (Go.Gm.nth l i)) k=0))=isK TxD.id k l:=by
   rw [Bool.eq_iff_iff,hgs2]
   simp [Zok]
 refine wp_exit (Zi (Zi (Zl (Zb (wp_seq ?_)))))
 refine Za hS (qM rfl rfl (qM rfl rfl (qM rfl rfl (qf (ZbC .t .t) r2 qz (qM rfl rfl (qm rfl rfl rfl rfl (qm rfl rfl rfl rfl (qm rfl rfl rfl rfl (qk rfl (fun h=>o_indexAddr_sl (sz:=3) (.mk Tryz.underlying22 (by kernel_rfl)) (by intro x;rfl) (.w h) (.w h) (by omega) (by have:=of_decide_eq_true h;omega)) r3 qz (qk rfl (fun h=>oR true 3 (.w h)) r2 qz (qm rfl rfl rfl rfl (qk rfl (fun h=>ZM (avs:=[.agg (rTx (Go.Gm.nth l i)),.int .i64 k]) (.w h) (hw (Go.Gm.nth l i)) hf hb hnn (Args.two (.pagg (.w h)) (.w h))) r4 qz (qk rfl (fun h=>o_eql (.w h) qi) r2 qz (qf (ZI .t .t) r2 qz (qN rfl rfl (qN rfl rfl qZ)))))))))))))))) hB [7,6] [0] rfl rfl fun a w F hS=>?_
 try simp only [Int.toNat_natCast] at hS
 refine Zb (wp_ret ?_)
 refine Zr hfr hS rfl (.tmp rfl (.tmp rfl .nil)) (.two (.int (by rw [hgl2])) (.bool hb2))
theorem Zsu (l : List OrdD) (k : Int) (hll : l.length ≤ 1000000) (hs : ZbP OrdD.key l) (f : FuncId) (fn : Func) (cps : List PV) (hf : Tryz.prog.funcs[f]? = some fn) (hb : fn.body.isSome = true) (hnn : (fn.name == "runtime.NumGoroutine") = false) (hw : ∀ x : OrdD, FnP Tryz.prog f (.agg (Zz x) :: .int .i64 k :: cps) (.int .i64 (Zhi (OrdD.key x) k))) : FnP Tryz.prog 127 [.sl Zz l, .int .i64 k, .clos f cps] (.tup [.int .i64 (lowK OrdD.key k l), .bool (isK OrdD.key k l)]) := by
 refine FnP.mk Tryz.func127 rfl Tryz.ntmps127 rfl ?_
 intro B a w F hB hfr hS
 refine wp_seq ?_
 refine Za hS (qI qB) hB [7,6,2,1,0] [0] rfl rfl fun a w F hS=>Zb (wp_seq ?_)
 refine Za hS (qM rfl rfl (qu Tryz.underlying23 r1 (qN rfl rfl qZ))) hB [8,7,6,2,1,0] [0] rfl rfl fun a w F hS=>Zb (wp_seq ?_)
 refine Za hS (qM rfl rfl (qI (qN rfl rfl qZ))) hB [10,9,8,7,6,2,1,0] [0] rfl rfl fun a w F hS=>Zb (wp_seq (wp_block ?_))
 refine Zp (σ:=Nat×Nat) [0,1,2,6,7,8] [0] (fun s=>[(9,.pv (.int .i64 (s.1:Int))),(10,.pv (.int .i64 (s.2:Int)))]) (fun s=>[]) (fun s=>s.1≤s.2∧s.2≤l.length∧(∀ q,q<s.1→OrdD.key (Go.Gm.nth l q)<k) ∧ ∀ q,s.2≤q→q<l.length→k≤OrdD.key (Go.Gm.nth l q)) (fun s=>s.2 - s.1) ((0),(l.length)) hS ⟨rfl,rfl,rfl,rfl,rfl,rfl,rfl,rfl,trivial⟩ ⟨rfl,trivial⟩ ⟨Nat.zero_le _,Nat.le_refl _,fun q hq=>absurd hq (Nat.not_lt_zero q),fun q h1 h2=>by omega⟩ ?_
 clear hS;intro s a w F hC hS
 obtain ⟨i,j⟩:=s
 try dsimp only at hC
 obtain ⟨F,hS⟩:=hS.nm [10,9,8,7,6,2,1,0] [0] rfl rfl
 try dsimp only at hS
 obtain ⟨hij,hjl,hlo,hhi⟩:=hC
 have hgs:=Zqu (i:=i) (by omega) hs hlo
 have hgl:=ZhF (i:=i) (by omega) hlo
 refine wp_seq (wp_seq ?_)
 refine Za hS (qM rfl rfl (qM rfl rfl (qL r2))) hB [17,10,9,8,7,6,2,1,0] [0] rfl rfl fun a w F hS=>Zb ?_
 refine Zd hS rfl (fun hc0=>?_) (fun hc0=>?_)
 ·skip
  have hlt:i<j:=by simp at hc0;omega
  refine wp_skip (Zb (wp_block (wp_seq ?_)))
  refine Za hS (qM rfl rfl (qM rfl rfl (qf (Zbu .t .t) r2 qz (qf (Zcl Tryz.underlying178 (by kernel_rfl) .t) r1 qz (qf (Zr4 .t qi (by decide)) r1 qz (qf (Zcl Tryz.underlying3 (by kernel_rfl) .t) r1 qz (qN rfl rfl qZ))))))) hB [11,10,9,8,7,6,2,1,0] [0] rfl rfl fun a w F hS=>?_
  obtain ⟨m,hm⟩:∃ m:Nat,m=(i+j) / 2:=⟨_,rfl⟩
  replace hS:=hS.ent (i:=11) (s':=.pv (.int .i64 (m:Int))) rfl (.int (by rw [hm];exact Zm7 (by omega)))
  obtain ⟨F,hS⟩:=hS.nm [11,10,9,8,7,6,2,1,0] [0] rfl rfl
  refine Zb (wp_seq ?_)
  refine Za hS (qM rfl rfl (qM rfl rfl (qM rfl rfl (qy 2 Tryz.underlying23 r2 (qf (oR true 2 .t) r1 qz (qM rfl rfl (qf (ZM (avs:=[.agg (Zz (Go.Gm.nth l m)),.int .i64 k]) .t (hw (Go.Gm.nth l m)) hf hb hnn (Args.two (.pagg .t) .t)) r3 qz (qf (ZbC .t qi) r1 qz qZ)))))))) hB [31,11,10,9,8,7,6,2,1,0] [0] rfl rfl fun a w F hS=>?_
  try simp only [Int.toNat_natCast] at hS
  refine Zb ?_
  refine Zd hS rfl (fun hc1=>?_) (fun hc1=>?_)
  ·skip
   have hmk:OrdD.key (Go.Gm.nth l m)<k:=ZhO.1 (by simpa using hc1)
   obtain ⟨i2,hi2e⟩:∃ z,z=m+1:=⟨_,rfl⟩
   obtain ⟨j2,hj2e⟩:∃ z,z=j:=⟨_,rfl⟩
   have hi2:IntKind.wrap .i64 ((m:Int)+1)=(i2:Int):=by rw [hi2e];exact wrap_succ (by omega)
   have hj2:(j:Int)=(j2:Int):=by rw [hj2e]
   have hmu:j2 - i2<j - i:=by omega
   have hC2:i2≤j2∧j2≤l.length∧(∀ q,q<i2→OrdD.key (Go.Gm.nth l q)<k) ∧ ∀ q,j2≤q→q<l.length→k≤OrdD.key (Go.Gm.nth l q):=⟨by omega,by omega,fun q hq=>Int.lt_of_le_of_lt (ZfL hs (by omega) (by omega)) hmk,by rw [hj2e];exact hhi⟩
   refine Za hS (qM rfl rfl (qp r1 (qN rfl rfl qZ))) hB [10,9,8,7,6,2,1,0] [0] rfl rfl fun a w F hS=>Zh (Zb ?_)
   replace hS:=hS.ent (i:=9) (s':=.pv (.int .i64 (i2:Int))) rfl (.int hi2)
   replace hS:=hS.ent (i:=10) (s':=.pv (.int .i64 (j2:Int))) rfl (.int hj2)
   obtain ⟨F,hS⟩:=hS.nm [8,7,6,2,1,0,10,9] [0] rfl rfl
   exact ⟨((i2),(j2)),F,hC2,hS,hmu⟩
  have hmk:k≤OrdD.key (Go.Gm.nth l m):=Int.not_lt.1 fun e=>(show ¬ Zhi (OrdD.key (Go.Gm.nth l m)) k<0 by simpa using hc1) (ZhO.2 e)
  obtain ⟨i2,hi2e⟩:∃ z,z=i:=⟨_,rfl⟩
  obtain ⟨j2,hj2e⟩:∃ z,z=m:=⟨_,rfl⟩
  have hi2:(i:Int)=(i2:Int):=by rw [hi2e]
  have hj2:(m:Int)=(j2:Int):=by rw [hj2e]
  have hmu:j2 - i2<j - i:=by omega
  have hC2:i2≤j2∧j2≤l.length∧(∀ q,q<i2→OrdD.key (Go.Gm.nth l q)<k) ∧ ∀ q,j2≤q→q<l.length→k≤OrdD.key (Go.Gm.nth l q):=⟨by omega,by omega,by rw [hi2e];exact hlo,fun q h1 h2=>Int.le_trans hmk (ZfL hs (by omega) h2)⟩
  refine Za hS (qM rfl rfl (qN rfl rfl qZ)) hB [10,9,8,7,6,2,1,0] [0] rfl rfl fun a w F hS=>Zh (Zb ?_)
  replace hS:=hS.ent (i:=9) (s':=.pv (.int .i64 (i2:Int))) rfl (.int hi2)
  replace hS:=hS.ent (i:=10) (s':=.pv (.int .i64 (j2:Int))) rfl (.int hj2)
  obtain ⟨F,hS⟩:=hS.nm [8,7,6,2,1,0,10,9] [0] rfl rfl
  exact ⟨((i2),(j2)),F,hC2,hS,hmu⟩
 have hjj:i=j:=by simp at hc0;omega
 subst hjj
 have hgl2:=hgl hhi
 have hgs2:=hgs hhi
 have hb2:(decide ((i:Int)<(l.length:Int)) && decide (Zhi (OrdD.key (Go.Gm.nth l i)) k=0))=isK OrdD.key k l:=by
   rw [Bool.eq_iff_iff,hgs2]
   simp [Zok]
 refine wp_exit (Zi (Zi (Zl (Zb (wp_seq ?_)))))
 refine Za hS (qM rfl rfl (qM rfl rfl (qM rfl rfl (qf (ZbC .t .t) r2 qz (qM rfl rfl (qm rfl rfl rfl rfl (qm rfl rfl rfl rfl (qm rfl rfl rfl rfl (qk rfl (fun h=>o_indexAddr_sl (sz:=2) (.mk Tryz.underlying23 (by kernel_rfl)) (by intro x;rfl) (.w h) (.w h) (by omega) (by have:=of_decide_eq_true h;omega)) r3 qz (qk rfl (fun h=>oR true 2 (.w h)) r2 qz (qm rfl rfl rfl rfl (qk rfl (fun h=>ZM (avs:=[.agg (Zz (Go.Gm.nth l i)),.int .i64 k]) (.w h) (hw (Go.Gm.nth l i)) hf hb hnn (Args.two (.pagg (.w h)) (.w h))) r4 qz (qk rfl (fun h=>o_eql (.w h) qi) r2 qz (qf (ZI .t .t) r2 qz (qN rfl rfl (qN rfl rfl qZ)))))))))))))))) hB [7,6] [0] rfl rfl fun a w F hS=>?_
 try simp only [Int.toNat_natCast] at hS
 refine Zb (wp_ret ?_)
 refine Zr hfr hS rfl (.tmp rfl (.tmp rfl .nil)) (.two (.int (by rw [hgl2])) (.bool hb2))
theorem Zon (g:HistD) (id:Int) (hs:ZbG g.txs) (hr:ZbP TxD.id g.txs):FnP Tryz.prog 98 [.agg (Zo g),.int .i64 id] (.tup [.int .i64 (lowK TxD.id id g.txs),.bool (isK TxD.id id g.txs)]):=by
 refine FnP.mk Tryz.func98 rfl Tryz.ntmps98 rfl ?_
 intro B a w F hB hfr hS
 have hsl:=hs.1
 refine wp_seq ?_
 refine Zc hS (qx 101 r1 (qI qB)) hB [5,4,2,1] [101,0] (fun _=>rfl) (fun _=>rfl) fun τ a w F hS=>?_
 try dsimp only [RS.sub,SF.sub,CF.sub,csub,Anc.sub,List.map,zCF,Zo,rTx,Zz,ZQ,rInt,rOp] at hS
 generalize τ 2=v2 at hS
 refine Zb (wp_seq ?_)
 refine Za hS (qg 0 101 r1 r1 (qa 101 r1 r1 (qM rfl rfl (qf (oP (Zs3 g.txs id (by omega) hr 135 Tryz.f135 [] Tryz.func135 rfl (by kernel_rfl) (fun x=>ZoT x id)) Tryz.func134 (Args.three .t .t (.conv .f (Ent.fnClos)))) r2 qz (qf (o_extract .t rfl) r1 qz (qf (o_extract .t rfl) r1 qz (qN rfl rfl (qN rfl rfl qZ)))))))) hB [5,4] [101,0] rfl rfl fun a w F hS=>Zb (wp_ret ?_)
 refine Zr hfr hS rfl (.tmp rfl (.tmp rfl .nil)) (.two .refl .refl)
end Go.Proofs.YtjhapicamnijnaaGreatDoor
