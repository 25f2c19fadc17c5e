/- Texts put together. No condition beyond those that each theorem says. -/
import Derived.Test.YtjhapicamnijnaaGreatDoorJ3
import Derived.Test.YtjhapicamnijnaaGreatDoorJ2
import Derived.Test.YtjhapicamnijnaaGreatDoorLibG
import Derived.Test.YtjhapicamnijnaaGreatDoorLibP
namespace Go.Proofs.YtjhapicamnijnaaGreatDoor
open Go Go.Gm
set_option linter.unusedVariables false
set_option linter.unusedSimpArgs false
set_option maxHeartbeats 4000000
set_option maxRecDepth 8000
theorem Zrx (l:List Int) (tx:Int) (hl:l.length≤1000000):FnP Tryz.prog 130 [.sl rInt l,.int .i64 tx] (.sl rInt (withO l tx)):=by
 refine FnP.mk Tryz.func130 rfl Tryz.ntmps130 rfl ?_
 intro B a w F hB hfr hS
 have hll:=Sat.lenSl hS (i:=0) rfl
 refine wp_seq ?_
 refine Za hS (qC qZ) hB [4,1,0] [0] rfl rfl fun a w F hS=>Zb (wp_seq ?_)
 replace hS:=hS.fresh 101 rfl
 refine Zc hS (qM rfl rfl (qf (Za2 101 (Zdb l hl) Tryz.func64 rfl (by kernel_rfl) (Args.one .t) ZaO) r1 r1 (qN rfl rfl qZ))) hB [5,4,1,0] [101,0] (fun _=>rfl) (fun _=>rfl) fun τ a w F hS=>?_
 try dsimp only [RS.sub,SF.sub,CF.sub,csub,Anc.sub,List.map,rInt] at hS
 generalize τ 7=v7 at hS
 refine Zb (wp_seq (wp_seq ?_))
 refine Za hS (qM rfl rfl (qM rfl rfl (qf (oP (Zkv l tx) Tryz.func160 (Args.two .t .t)) r2 qz qZ))) hB [10,5,4,1] [101,0] rfl rfl fun a w F hS=>Zb ?_
 refine Zd hS rfl (fun hc0=>?_) (fun hc0=>?_)
 ·skip
  have hm:tx ∈ l:=by simpa using hc0
  have hg:l=withO l tx:=(if_pos hm).symm
  refine wp_seq ?_
  refine Za hS (qM rfl rfl (qN rfl rfl qZ)) hB [5,4,1] [101,0] rfl rfl fun a w F hS=>Zb (wp_ret (Ze ?_))
  obtain ⟨F,hS⟩:=hS.give 101 4 rfl rfl
  refine Zq hfr hS rfl rfl rfl (.sl hg)
 have hm:¬ tx ∈ l:=by simpa using hc0
 have hg:l ++ [tx] = withO l tx:=(if_neg hm).symm
 refine wp_skip (Zb (wp_seq ?_))
 refine Zc hS (qM rfl rfl (qM rfl rfl (qf (Zk (sz:=1) (zs:=[.int .i64 0]) (r:=[(0,.tmp 13)]) (l:=[_]) Tryz.underlying39 (by kernel_rfl) (by kernel_rfl) (by kernel_rfl) (by kernel_rfl) rfl rfl (.one rfl .t one_int (by kernel_rfl) .nil) rfl) r1 qz (qf (o_append (sz:=1) (bs:=8) 101 (.mk' Tryz.underlying39 (by kernel_rfl) (by kernel_rfl)) (by intro x;rfl) .is (.arr (l':=[_]) .t) (by simp only [List.length_append,List.length_cons,List.length_nil,List.length_take,List.length_drop];omega) (by decide)) ⟨rfl,rfl,trivial⟩ ⟨rfl,trivial⟩ (qN rfl rfl qZ))))) hB [4] [101,0] (fun _=>rfl) (fun _=>rfl) fun τ a w F hS=>?_
 try dsimp only [RS.sub,SF.sub,CF.sub,csub,Anc.sub,List.map,Zf,xL,xM,Nat.reduceAdd,xD,xE,xT,xU,xC,xN,zCF,rInt] at hS
 generalize τ 15=v15 at hS
 refine Zb (wp_ret ?_)
 obtain ⟨F,hS⟩:=hS.give 101 4 rfl rfl
 refine Zq hfr hS rfl rfl rfl (.sl hg)
theorem ZlX (x tx:Int):FnP Tryz.prog 162 [.int .i64 x,.ref [.int .i64 tx]] (.bool (decide (x=tx))):=by
 refine FnP.mk Tryz.func162 rfl Tryz.ntmps162 rfl ?_
 intro B a w F hB hfr hS
 refine wp_seq ?_
 refine Za hS qB hB [3,1,0] [0] rfl rfl fun a w F hS=>Zb (wp_seq ?_)
 refine Za hS (qM rfl rfl (qf (oR false 1 .t) r1 qz (qf (o_eql .t .t) r2 qz (qN rfl rfl qZ)))) hB [3] [0] rfl rfl fun a w F hS=>Zb (wp_ret ?_)
 refine Zq hfr hS rfl rfl rfl .refl
theorem ZmK (l:List Int) (tx:Int) (hl:l.length≤1000000):FnP Tryz.prog 131 [.sl rInt l,.int .i64 tx] (.sl rInt (withoutO l tx)):=by
 refine FnP.mk Tryz.func131 rfl Tryz.ntmps131 rfl ?_
 intro B a w F hB hfr hS
 have hll:=Sat.lenSl hS (i:=0) rfl
 refine wp_seq ?_
 refine Zc hS (qf (ZlN 101 .t one_int) r1 qz (qC qZ)) hB [4,3,0] [101,0] (fun _=>rfl) (fun _=>rfl) fun τ a w F hS=>?_
 try dsimp only [RS.sub,SF.sub,CF.sub,csub,Anc.sub,List.map,zCF,rInt] at hS
 generalize τ 3=v3 at hS
 obtain ⟨F,hS⟩:=hS.giveRef 101 3 rfl rfl rfl
 obtain ⟨F,hS⟩:=hS.nm [4,3,0] [0] rfl rfl
 try dsimp only [Go.Gm.unCF] at hS
 refine Zb (wp_seq ?_)
 replace hS:=hS.fresh 102 rfl
 refine ZdJ hS (by kernel_rfl) (nM rfl rfl (nf (Za2 102 (Zdb l hl) Tryz.func64 rfl (by kernel_rfl) (Args.one .t) ZaO) r1 r1 (nn [6,4,3] [102,0] rfl rfl (nf (Zb7 (Args.one .t)) r1 trivial (nf (ZkB 6 102 (fun v=>ZrB _ l hl (fun x=>decide (x=tx)) 162 Tryz.f162 [.ref [.int .i64 tx]] Tryz.func162 rfl (by kernel_rfl) (fun x=>ZlX x tx)) Tryz.func161 rfl (by kernel_rfl) (Zik.two .same (.of .t)) ZaO) r2 r1 (nn [8,4] [102,0] rfl rfl (nN rfl rfl ZV.nil))))))) (by kernel_rfl) (by rw [hB];kernel_rfl) fun a w F hS=>?_
 replace hS:=hS.sub
 obtain ⟨F,hS⟩:=hS.nm [4] [102,0] rfl rfl
 try dsimp only [RS.sub,SF.sub,CF.sub,csub,Anc.sub,List.map,rInt] at hS
 generalize Act.tau a 8=v8 at hS
 refine Zb (wp_ret ?_)
 obtain ⟨F,hS⟩:=hS.give 102 4 rfl rfl
 refine Zq hfr hS rfl rfl rfl (.sl (by simp [withoutO]))
theorem ZiZ {α:Type} [Inhabited α] {p:α→Bool} {l:List α} : decide (0≤Z3 p l)=l.any p:=by
 rcases Zaq p l with ⟨h1,h2⟩ | ⟨i,h1,h2,h3,h4⟩
 · rw [h1,eq_comm,show decide ((0:Int) ≤ -1)=false by decide,List.any_eq_false]
   intro x hx
   obtain ⟨k,hk,e⟩:=List.getElem_of_mem hx
   have:=h2 k hk
   rw [Zp hk,e] at this
   simp [this]
 · rw [h1,show decide ((0:Int)≤(i:Int))=true by simp,eq_comm,List.any_eq_true]
   exact ⟨_,ZB h2,h3⟩
theorem ZrL {α:Type} {p:α→Bool} {l:List α} : (!l.any fun v=>!p v)=l.all p:=by
 induction l with
 | nil=>rfl
 | cons x l ih=>rw [List.any_cons,List.all_cons,← ih];cases p x <;> simp
theorem ZrQ (l : List Zb1) (p : Zb1 → Bool) (f : FuncId) (fn : Func) (cps : List PV) (hf : Tryz.prog.funcs[f]? = some fn) (hb : fn.body.isSome = true) (hnn : (fn.name == "runtime.NumGoroutine") = false) (hw : ∀ x, FnP Tryz.prog f (.agg (ZO x) :: cps) (.bool (p x))) : FnP Tryz.prog 106 [.sl ZO l, .clos f cps] (.int .i64 (Z3 p l)) := by
 refine FnP.mk Tryz.func106 rfl Tryz.ntmps106 rfl ?_
 intro B a w F hB hfr hS
 have hll:=Sat.lenSl hS (i:=0) rfl
 refine wp_seq ?_
 refine Za hS (qI qZ) hB [4,1,0] [0] rfl rfl fun a w F hS=>Zb (wp_seq (wp_seq ?_))
 refine Za hS (qM rfl rfl (qu Tryz.underlying103 r1 (qJ qZ))) hB [8,7,4,1,0] [0] rfl rfl fun a w F hS=>Zb (wp_block ?_)
 refine Zr (σ:=(Nat)) [0,1,4,7] [0] (fun s=>[(8,.pv (.int .i64 (s:Int)))]) (fun s=>[]) (fun s=>s≤l.length∧(∀ k,k<s→p (Go.Gm.nth l k)=false)) (fun s=>l.length - s) (0) hS ⟨rfl,rfl,rfl,rfl,rfl,trivial⟩ ⟨rfl,trivial⟩ ⟨Nat.zero_le _,fun k hk=>absurd hk (Nat.not_lt_zero k)⟩ ?_
 clear hS;intro i a w F hC hS
 try dsimp only at hC
 obtain ⟨F,hS⟩:=hS.nm [8,7,4,1,0] [0] rfl rfl
 try dsimp only at hS
 obtain ⟨hi,hq⟩:=hC
 refine wp_seq ?_
 refine Za hS (qL r2) hB [9,8,7,4,1,0] [0] rfl rfl fun a w F hS=>Zb (wp_seq ?_)
 refine Zd hS rfl (fun hc0=>?_) (fun hc0=>?_)
 ·skip
  have hil:i<l.length:=by simp at hc0;omega
  refine wp_skip (Zb (wp_seq (wp_block (wp_seq ?_))))
  refine Za hS (qM rfl rfl (qN rfl rfl qZ)) hB [8,7,5,4,1,0] [0] rfl rfl fun a w F hS=>Zb (wp_seq ?_)
  refine Za hS (qM rfl rfl (qM rfl rfl (qM rfl rfl (qy 3 Tryz.underlying103 r2 (qf (oR true 3 .t) r1 qz (qf (ZS (avs:=[.agg (ZO (Go.Gm.nth l i))]) .t (hw (Go.Gm.nth l i)) hf hb hnn (Args.one (.pagg .t))) r2 qz qZ)))))) hB [16,8,7,5,4,1,0] [0] rfl rfl fun a w F hS=>?_
  try simp only [Int.toNat_natCast] at hS
  refine Zb ?_
  refine Zd hS rfl (fun hc1=>?_) (fun hc1=>?_)
  ·skip
   have hg:(i:Int)=Z3 p l:=(Zc9 hil hc1 hq).symm
   refine wp_seq ?_
   refine Za hS (qM rfl rfl (qN rfl rfl qZ)) hB [8,7,4,1,0] [0] rfl rfl fun a w F hS=>Zb (wp_ret (Zg (Ze (Ze (Zg (Ze ?_))))))
   refine Zq hfr hS rfl rfl rfl (.int hg)
  have hne:p (Go.Gm.nth l i)=false:=hc1
  refine wp_skip (Zh (Zb ?_))
  refine Za hS (qp r1 (qM rfl rfl qZ)) hB [8,7,4,1,0] [0] rfl rfl fun a w F hS=>Zb ?_
  replace hS:=hS.ent (i:=8) (s':=.pv (.int .i64 ((i+1:Nat):Int))) rfl (.int (wrap_succ (by omega)))
  obtain ⟨F,hS⟩:=hS.nm [7,4,1,0,8] [0] rfl rfl
  exact ⟨(i+1),F,⟨by omega,(fun k hk=>by rcases Nat.lt_or_eq_of_le (Nat.le_of_lt_succ hk) with h | h;exact hq k h;rw [h];exact hne)⟩,hS,by omega⟩
 have hil:i=l.length:=by simp at hc0;omega
 have hg : -1=Z3 p l:=(ZbP fun k hk=>hq k (by simp at hc0;omega)).symm
 refine wp_exit (Zi (Zi (Zo (Zb (wp_seq ?_)))))
 refine Za hS (qI qZ) hB [4] [0] rfl rfl fun a w F hS=>Zb (wp_ret ?_)
 refine Zq hfr hS rfl rfl rfl (.int hg)
theorem ZrN (l : List Zb1) (p : Zb1 → Bool) (f : FuncId) (fn : Func) (cps : List PV) (hf : Tryz.prog.funcs[f]? = some fn) (hb : fn.body.isSome = true) (hnn : (fn.name == "runtime.NumGoroutine") = false) (hw : ∀ x, FnP Tryz.prog f (.agg (ZO x) :: cps) (.bool (p x))) : FnP Tryz.prog 59 [.sl ZO l, .clos f cps] (.bool (l.any p)) := by
 refine FnP.mk Tryz.func59 rfl Tryz.ntmps59 rfl ?_
 intro B a w F hB hfr hS
 refine wp_seq ?_
 refine Za hS qB hB [4,1,0] [0] rfl rfl fun a w F hS=>Zb (wp_seq ?_)
 refine Za hS (qM rfl rfl (qM rfl rfl (qf (oP (ZrQ l p f fn cps hf hb hnn hw) Tryz.func106 (Args.two .t .t)) r2 qz (qf (Zen .t qi) r1 qz (qN rfl rfl qZ))))) hB [4] [0] rfl rfl fun a w F hS=>Zb (wp_ret ?_)
 refine Zq hfr hS rfl rfl rfl (.bool (by rw [ZiZ]))
theorem ZoW (v:Zb1) (g:Zj) (hs:Zba g.txs):FnP Tryz.prog 61 [.agg (ZO v),.ref (Zn g)] (.bool (!ZgR g v)):=by
 refine FnP.mk Tryz.func61 rfl Tryz.ntmps61 rfl ?_
 intro B a w F hB hfr hS
 refine wp_seq ?_
 refine Zc hS (qx 101 r1 qB) hB [3,2,1] [101,0] (fun _=>rfl) (fun _=>rfl) fun τ a w F hS=>?_
 try dsimp only [RS.sub,SF.sub,CF.sub,csub,Anc.sub,List.map,zCF,Zn,rTx,Zx,ZO,rInt,rOp] at hS
 generalize τ 2=v2 at hS
 refine Zb (wp_seq ?_)
 refine Za hS (qf (oR true 2 .t) r1 qz (qe 3 101 r1 r1 (qf (oP (Zs7 g v hs) Tryz.func62 (Args.two (.pagg .t) (.pagg .t))) r2 qz (qf (o_not .t) r1 qz (qN rfl rfl qZ))))) hB [3] [101,0] rfl rfl fun a w F hS=>Zb (wp_ret ?_)
 refine Zq hfr hS rfl rfl rfl .refl
theorem ZlV (g:Zj) (t:TxD) (hs:Zba g.txs) (ht:t.ops.length≤1000):FnP Tryz.prog 24 [.agg (Zn g),.agg (rTx t)] (.bool (Zbt g t)):=by
 refine FnP.mk Tryz.func24 rfl Tryz.ntmps24 rfl ?_
 intro B a w F hB hfr hS
 refine wp_seq ?_
 refine Zc hS (qx 101 r1 (qx 102 r1 qB)) hB [4,3,2] [102,101,0] (fun _=>rfl) (fun _=>rfl) fun τ a w F hS=>?_
 try dsimp only [RS.sub,SF.sub,CF.sub,csub,Anc.sub,List.map,zCF,Zn,rTx,Zx,ZO,rInt,rOp] at hS
 generalize τ 2=v2 at hS
 generalize τ 3=v3 at hS
 refine Zb (wp_seq ?_)
 refine Zb6 2 hS (by kernel_rfl) (cG rfl (oL true 3 102 .is) r1 r1 (cG rfl (oP (ZiN t (by omega)) Tryz.func60 (Args.one (.pagg .t))) r1 trivial ZV.nil)) (by kernel_rfl) (by rw [hB];kernel_rfl) fun a w F hS=>?_
 obtain ⟨F,hS⟩:=hS.nm [6,4,2] [102,101,0] rfl rfl
 try dsimp only [List.map,xD,xE,xT,xU,ldSF,Zn,rTx,Zx,ZO,rInt,rOp] at hS
 obtain ⟨F,hS⟩:=hS.giveRef 101 2 rfl rfl rfl
 obtain ⟨F,hS⟩:=hS.nm [6,4,2] [102,0] rfl rfl
 try dsimp only [Go.Gm.unCF] at hS
 refine ZcC hS (by kernel_rfl) (cG rfl (Zb7 (Args.one .t)) r1 trivial (cG rfl (oP (ZrN (ZaE t) (fun v=>!ZgR g v) 61 Tryz.f61 [.ref (Zn g)] Tryz.func61 rfl (by kernel_rfl) (fun v=>ZoW v g hs)) Tryz.func59 (Args.two .t .t)) r2 trivial (cG rfl (o_not .t) r1 trivial (cG rfl (oN .t) r1 trivial ZV.nil)))) (by kernel_rfl) (by rw [hB];kernel_rfl) fun a w F hS=>?_
 obtain ⟨F,hS⟩:=hS.nm [4] [102,0] rfl rfl
 try dsimp only [Zn,rTx,Zx,ZO,rInt,rOp] at hS
 refine Zb (wp_ret ?_)
 refine Zq hfr hS rfl rfl rfl (.bool (by rw [ZrL];rfl))
def Zfb (os:List OrdD) (k:Int):List OrdD:=if isK OrdD.key k os=true then os else os.take (lowK OrdD.key k os) ++ [⟨k,[]⟩] ++ os.drop (lowK OrdD.key k os)
def ZjE (k:Int):List OrdD→List OrdD
 | []=>[⟨k,[]⟩]
 | o :: os=>if o.key<k then o :: ZjE k os else if o.key=k then o :: os else ⟨k,[]⟩ :: o :: os
theorem Zj0 {α:Type} {κ:α→Int} {k:Int} (l:List α):lowK κ k l≤l.length:=by
 unfold lowK
 exact (List.takeWhile_sublist _).length_le
theorem Zv {α:Type} [Inhabited α] {κ:α→Int} {l:List α} : Zb0 κ l ↔ l.Pairwise fun a b=>κ a<κ b:=by
 rw [List.pairwise_iff_getElem]
 constructor
 · intro h i j hi hj hij
   have:=h i j hij hj
   rwa [Zp hi,Zp hj] at this
 · intro h a b hab hb
   rw [Zp (by omega),Zp hb]
   exact h a b (by omega) hb hab
theorem ZhM (k:Int):∀ {os:List OrdD},Zb0 OrdD.key os→Zfb os k=ZjE k os
 | [],_=>rfl
 | o :: os,h=>by
   rw [Zv,List.pairwise_cons] at h
   have ih:=ZhM k (os:=os) (Zv.2 h.2)
   have e1:lowK OrdD.key k (o :: os)=if o.key<k then lowK OrdD.key k os+1 else 0:=by
     unfold lowK
     split
     · rename_i h1
       rw [List.takeWhile_cons_of_pos (by simpa using h1),List.length_cons]
     · rename_i h1
       rw [List.takeWhile_cons_of_neg (by simpa using h1)];rfl
   have e2:isK OrdD.key k (o :: os)=(decide (o.key=k) || isK OrdD.key k os):=by unfold isK;rw [List.any_cons]
   by_cases h1:o.key<k
   · rw [if_pos h1] at e1
     have e3:isK OrdD.key k (o :: os)=isK OrdD.key k os:=by rw [e2,decide_eq_false (by omega),Bool.false_or]
     unfold Zfb at ih ⊢
     unfold ZjE
     rw [if_pos h1,e3,e1]
     split
     · rename_i h2;rw [if_pos h2] at ih;exact congrArg (o :: ·) ih
     · rename_i h2;rw [if_neg h2] at ih;rw [← ih];simp
   · rw [if_neg h1] at e1
     unfold Zfb ZjE
     rw [if_neg h1,e1]
     by_cases h3:o.key=k
     · rw [if_pos h3,if_pos (by rw [e2,decide_eq_true h3,Bool.true_or])]
     · rw [if_neg h3,if_neg]
       · simp
       · rw [e2,decide_eq_false h3,Bool.false_or]
         unfold isK
         rw [List.any_eq_true]
         rintro ⟨x,hx,hk⟩
         have:=h.1 x hx
         simp at hk
         omega
theorem ZkZ {k:Int} {o:OrdD} : ∀ {os:List OrdD},o ∈ ZjE k os→o ∈ os∨o = ⟨k,[]⟩
 | [],h=>by simp [ZjE] at h;exact .inr h
 | x :: os,h=>by
   unfold ZjE at h
   split at h
   · rcases List.mem_cons.1 h with h | h
     · exact .inl (by simp [h])
     · rcases ZkZ h with h | h
       · exact .inl (by simp [h])
       · exact .inr h
   · split at h
     · exact .inl h
     · rcases List.mem_cons.1 h with h | h
       · exact .inr h
       · exact .inl h
theorem Zjh {k:Int} : ∀ {os:List OrdD},(os.Pairwise fun a b=>a.key<b.key)→(ZjE k os).Pairwise fun a b=>a.key<b.key
 | [],_=>by simp [ZjE]
 | x :: os,h=>by
   rw [List.pairwise_cons] at h
   unfold ZjE
   split
   · rename_i h1
     rw [List.pairwise_cons]
     refine ⟨fun o ho=>?_,Zjh h.2⟩
     rcases ZkZ ho with h3 | h3
     · exact h.1 o h3
     · rw [h3];exact h1
   · split
     · rw [List.pairwise_cons];exact h
     · rw [List.pairwise_cons,List.pairwise_cons]
       refine ⟨fun o ho=>?_,h⟩
       rcases List.mem_cons.1 ho with h3 | h3
       · rw [h3];show k<x.key;omega
       · have:=h.1 o h3;show k<o.key;omega
theorem insK_rise {os:List OrdD} (k:Int) (h:Zb0 OrdD.key os):Zb0 OrdD.key (Zfb os k):=by
 rw [ZhM k h,Zv]
 exact Zjh (Zv.1 h)
theorem ZlI (os:List OrdD) (k:Int):(Zfb os k).length≤os.length+1:=by
 unfold Zfb
 split
 · omega
 · rw [List.length_append,List.length_append,List.length_take,List.length_drop];simp;omega
theorem Zlt {os:List OrdD} {k:Int} {o:OrdD} (h:o ∈ Zfb os k):o ∈ os∨o = ⟨k,[]⟩:=by
 unfold Zfb at h
 split at h
 · exact .inl h
 · rw [List.mem_append,List.mem_append] at h
   rcases h with (h | h) | h
   · exact .inl (List.mem_of_mem_take h)
   · exact .inr (by simpa using h)
   · exact .inl (List.mem_of_mem_drop h)
def ZdE (t:TxD) (os:List OrdD) (ks:List Int):List OrdD:=if t.done=true then ks.foldl Zfb os else os
theorem Zg2 {t:TxD} {os:List OrdD} (h:Zb0 OrdD.key os) (hs:Zcx os) (ks:List Int):Zb0 OrdD.key (ZdE t os ks)∧(ZdE t os ks).length≤os.length+ks.length ∧ ∀ o ∈ ZdE t os ks,o.txs.length≤1000:=by
 unfold ZdE
 split
 · have key:∀ (ks:List Int) (os:List OrdD),Zb0 OrdD.key os→(∀ o ∈ os,o.txs.length≤1000)→Zb0 OrdD.key (ks.foldl Zfb os)∧(ks.foldl Zfb os).length≤os.length+ks.length ∧ ∀ o ∈ ks.foldl Zfb os,o.txs.length≤1000:=by
     intro ks
     induction ks with
     | nil=>intro os h1 h2;exact ⟨h1,by simp,h2⟩
     | cons k ks ih=>
       intro os h1 h2
       obtain ⟨g1,g2,g3⟩:=ih (Zfb os k) (insK_rise k h1) (fun o ho=>by
         rcases Zlt ho with h | h
         · exact h2 o h
         · rw [h];simp)
       have:=ZlI os k
       exact ⟨g1,by rw [List.foldl_cons,List.length_cons];omega,g3⟩
   exact key ks os h hs.2
 · exact ⟨h,by omega,hs.2⟩
theorem ZoM {t:TxD} {os:List OrdD} {ks:List Int} {i:Nat} (hi:i<ks.length) (hc:t.done=true∧isK OrdD.key (Go.Gm.nth ks i) (ZdE t os (ks.take i))=false) :
   (ZdE t os (ks.take i)).take (lowK OrdD.key (Go.Gm.nth ks i) (ZdE t os (ks.take i))) ++ [⟨Go.Gm.nth ks i,[]⟩] ++ (ZdE t os (ks.take i)).drop (lowK OrdD.key (Go.Gm.nth ks i) (ZdE t os (ks.take i)))=ZdE t os (ks.take (i+1)):=by
 have e:ZdE t os (ks.take (i+1))=Zfb (ZdE t os (ks.take i)) (Go.Gm.nth ks i):=by
   unfold ZdE
   rw [if_pos hc.1,if_pos hc.1,ZE hi,List.foldl_append];rfl
 rw [e];unfold Zfb;rw [if_neg (by rw [hc.2];simp)]
theorem Zng {t:TxD} {os:List OrdD} {ks:List Int} {i:Nat} (hi:i<ks.length) (hc:¬ (t.done=true∧isK OrdD.key (Go.Gm.nth ks i) (ZdE t os (ks.take i))=false)):ZdE t os (ks.take i)=ZdE t os (ks.take (i+1)):=by
 unfold ZdE at hc ⊢
 by_cases hd:t.done=true
 · rw [if_pos hd] at hc
   rw [if_pos hd,if_pos hd,ZE hi,List.foldl_append]
   have hx:∀ X k,isK OrdD.key k X=true→Zfb X k=X:=fun X k h=>by unfold Zfb;rw [if_pos h]
   show _=Zfb _ _
   rw [hx]
   cases h:isK OrdD.key (Go.Gm.nth ks i) ((ks.take i).foldl Zfb os) with
   | true=>rfl
   | false=>exact absurd ⟨hd,h⟩ hc
 · rw [if_neg hd,if_neg hd]
def ZjN (t:TxD) (o:OrdD):OrdD:=⟨o.key,if t.done=true∧0<wcnt t.ops o.key then withO o.txs t.id else withoutO o.txs t.id⟩
def settleO (t:TxD) (os:List OrdD):List OrdD:=((ZdE t os (Z7 t)).map (ZjN t)).filter fun o=>!decide (o.txs = [])
theorem Zst {α:Type} [Inhabited α] {f:α→α} {l l2:List α} {i:Nat} (hi:i<l.length) (h:l2=(l.take i).map f++l.drop i):Go.Gm.nth l2 i=Go.Gm.nth l i∧l2.length=l.length:=by
 have h2:l2.length=l.length:=by rw [h,List.length_append,List.length_map,List.length_take,List.length_drop];omega
 refine ⟨?_,h2⟩
 rw [Zp (by omega),Zp hi]
 subst h
 rw [List.getElem_append_right (by rw [List.length_map,List.length_take];omega)]
 simp only [List.length_map,List.length_take,List.getElem_drop]
 congr 1
 omega
theorem ZrG {α:Type} [Inhabited α] {f:α→α} {l l2:List α} {i:Nat} (hi:i<l.length) (h:l2=(l.take i).map f++l.drop i):l2.set i (f (Go.Gm.nth l i))=(l.take (i+1)).map f++l.drop (i+1):=by
 have hd:l.drop i=Go.Gm.nth l i :: l.drop (i+1):=by rw [Zp hi];exact List.drop_eq_getElem_cons hi
 rw [h,ZE hi,List.map_append,List.append_assoc,List.set_append_right _ _ (by rw [List.length_map,List.length_take];omega)]
 congr 1
 have:i - ((l.take i).map f).length=0:=by rw [List.length_map,List.length_take];omega
 rw [this,hd];rfl
abbrev Zmv (T TR:TypeId) (p va:Value) (os:List OrdD):HP:=HP.ex fun vb:Value=>HP.star [.pt (.val p) T [.pv (.is va),.pv (.is vb)],.ob (.val vb) (Zu TR 2 Zx os)]
theorem ZqL {k:IntKind} {a:Int} {b:Bool} (v:Value) (w:World) (y y':Ys) (h:(PV.tup [.int k a,.bool b]).p v w y):(PV.tup [.int k a,.bool b]).p v w y':=by
 obtain ⟨vs,e,h⟩:=h
 match vs,h with
 | [_,_],h=>exact ⟨_,e,h⟩
theorem entArr {α:Type} {R:α→List PV} {l:List PV} {l':List α} (h:Nat.ble l'.length maxLen=true) (e:Zd0 l (l'.flatMap R)):Ent (.pv (.arr l'.length l)) (.pv (.sl R l')):=fun _ w y v k=>PVLe.arrSl h e v w y k
theorem Znb (o:OrdD):FnP Tryz.prog 133 [.agg (Zx o)] (.bool (decide (o.txs = []))):=by
 refine FnP.mk Tryz.func133 rfl Tryz.ntmps133 rfl ?_
 intro B a w F hB hfr hS
 refine wp_seq ?_
 refine Zc hS (qx 101 r1 qB) hB [2,1] [101,0] (fun _=>rfl) (fun _=>rfl) fun τ a w F hS=>?_
 try dsimp only [RS.sub,SF.sub,CF.sub,csub,Anc.sub,List.map,zCF,Zx,rInt] at hS
 generalize τ 1=v1 at hS
 refine Zb (wp_seq ?_)
 refine Za hS (qg 1 101 r1 r1 (qa 101 r1 r1 (qu Tryz.underlying39 r1 (qf (o_eql .t qi) r1 qz (qN rfl rfl qZ))))) hB [2] [0] rfl rfl fun a w F hS=>Zb (wp_ret ?_)
 refine Zq hfr hS rfl rfl rfl (.bool (by rw [Bool.eq_iff_iff];simp))
theorem Zin (p va:Value) (os:List OrdD) (t:TxD) (hs:Zcx os) (hr:Zb0 OrdD.key os) (ht:t.ops.length≤1000):FnG Tryz.prog 96 1 [.is p,.agg (rTx t)] [Zmv 25 41 p va os] (.tup []) (fun _=>[Zmv 25 41 p va (settleO t os)]):=by
 refine FnG.mk Tryz.func96 rfl Tryz.ntmps96 rfl (by kernel_rfl) ?_
 intro B F0 a w F hB hG hS
 have hso:=hs.1
 have hkl:=ZcF t
 replace hS:=hS.turn 1 rfl (r':=RS.hp (HP.ex fun vb:Value=>HP.star [.pt (.val p) 25 [.pv (.is va),.pv (.is vb)],.ob (.val vb) (Zu 41 2 Zx os)])) (fun _ _ _ _ h=>h)
 obtain ⟨vb0,hS⟩:=hS.open_ex 1 rfl
 obtain ⟨F,hS⟩:=hS.peel 1 61 rfl rfl
 obtain ⟨F,hS⟩:=hS.peel 1 62 rfl rfl
 obtain ⟨F,hS⟩:=hS.nm [1,0] [62,61,1,0] rfl rfl
 refine wp_seq ?_
 refine Zc hS (qx 101 r1 qZ) hB [3,0] [101,62,61,1,0] (fun _=>rfl) (fun _=>rfl) fun τ a w F hS=>?_
 try dsimp only [RS.sub,SF.sub,CF.sub,csub,Anc.sub,List.map,zCF,Zn,rTx,Zx,ZO,rInt,rOp] at hS
 generalize τ 3=v3 at hS
 refine Zb (wp_seq (wp_seq ?_))
 refine Za hS (qe 3 101 r1 r1 (qf (oP (Zns t (by omega)) Tryz.func63 (Args.one (.pagg .t))) r1 qz (qu Tryz.underlying39 r1 (qJ qZ)))) hB [13,12,11,3,0] [101,62,61,1,0] rfl rfl fun a w F hS=>?_
 rw [show ZeG ((t.ops.filter fun o=>!o.read).map OpD.key)=Z7 t from rfl] at hS
 refine Zb (wp_block ?_)
 refine Zr (σ:=(Nat)×(Value)×(List OrdD)) [0,3,11,12] [0,1,101] (fun s=>[(13,.pv (.int .i64 (s.1:Int)))]) (fun s=>[(61,.pt (.val p) 25 [.pv (.is va),.pv (.is s.2.1)]),(62,.ob (.val s.2.1) (Zu 41 2 Zx s.2.2))]) (fun s=>s.1≤(Z7 t).length∧(s.2.2=ZdE t os ((Z7 t).take s.1))) (fun s=>(Z7 t).length - s.1) ((0),(vb0),(os)) hS ⟨rfl,rfl,rfl,rfl,rfl,trivial⟩ ⟨rfl,rfl,rfl,rfl,rfl,trivial⟩ ⟨Nat.zero_le _,(by unfold ZdE;split <;> rfl)⟩ ?_
 clear hS;intro s a w F hC hS
 obtain ⟨i,vb,ol⟩:=s
 try dsimp only at hC
 obtain ⟨F,hS⟩:=hS.nm [13,12,11,3,0] [101,62,61,1,0] rfl rfl
 try dsimp only at hS
 obtain ⟨hi,hq⟩:=hC
 obtain ⟨hf1,hf2,hf3⟩:=Zg2 (t:=t) hr hs ((Z7 t).take i)
 rw [List.length_take,← hq] at hf2
 rw [← hq] at hf1 hf3
 have hst:=fun h=>ZoM (t:=t) (os:=os) (ks:=(Z7 t)) (i:=i) h
 have hsk:=fun h=>Zng (t:=t) (os:=os) (ks:=(Z7 t)) (i:=i) h
 rw [← hq] at hst hsk
 have hlk:=Zj0 (κ:=OrdD.key) (k:=(Go.Gm.nth (Z7 t) i)) ol
 refine wp_seq ?_
 refine Za hS (qL r2) hB [14,13,12,11,3,0] [101,62,61,1,0] rfl rfl fun a w F hS=>Zb (wp_seq ?_)
 refine Zd hS rfl (fun hc0=>?_) (fun hc0=>?_)
 ·skip
  have hil:i<(Z7 t).length:=by simp at hc0;omega
  have hio:=hil
  refine wp_skip (Zb (wp_seq (wp_block (wp_seq ?_))))
  refine Za hS (qy 1 Tryz.underlying39 r2 (qf (oR false 1 .t) r1 qz (qN rfl rfl qZ))) hB [13,12,11,5,3,0] [101,62,61,1,0] rfl rfl fun a w F hS=>?_
  try simp only [Int.toNat_natCast] at hS
  refine Zb (wp_seq ?_)
  refine Za hS (qM rfl rfl (qf (o_nilCheck 61 .is (by rfl)) r1 r1 (qf (oF 1 61 .adr) r1 r1 (qa 61 r1 r1 (qM rfl rfl (qf (OpC.lendRow 62 [21] (oP (Zsp ol (Go.Gm.nth (Z7 t) i) (by omega) hf1 128 Tryz.f128 [] Tryz.func128 rfl (by kernel_rfl) (fun x=>Zox x (Go.Gm.nth (Z7 t) i))) Tryz.func127 (Args.three .t .t (.conv .f (Ent.fnClos)))) ⟨rfl,trivial,trivial⟩ (.pv ZqL) trivial (by rfl)) r2 r1 (qM rfl rfl (qf (o_extract .t rfl) r1 qz (qf (o_extract .t rfl) r1 qz (qN rfl rfl (qN rfl rfl qZ))))))))))) hB [13,12,11,7,6,5,3,0] [101,62,61,1,0] rfl rfl fun a w F hS=>Zb (wp_seq ?_)
  refine Za hS (qg 1 101 r1 r1 (qa 101 r1 r1 (qM rfl rfl (qm rfl rfl rfl rfl (qk rfl (fun h=>o_not (.w h)) r2 qz (qf (ZK .t .t) r2 qz qZ)))))) hB [31,13,12,11,6,5,3,0] [101,62,61,1,0] rfl rfl fun a w F hS=>Zb ?_
  refine Zd hS rfl (fun hc1=>?_) (fun hc1=>?_)
  ·skip
   have hq9:=hst hio (by simpa using hc1)
   refine Zc hS (qM rfl rfl (qM rfl rfl (qf (o_nilCheck 61 .is (by rfl)) r1 r1 (qf (oF 1 61 .adr) r1 r1 (qa 61 r1 r1 (qM rfl rfl (qM rfl rfl (qf (oB [(0,.tmp 38)] [.int .i64 0,.slice none 0 0] [(0,1),(1,1)] (.one rfl .t one_int (by kernel_rfl) .nil)) r1 qz (qf (Zk (sz:=2) (zs:=[.int .i64 0,.slice none 0 0]) (r:=[(0,.tmp 39)]) (l:=[_,_]) Tryz.underlying23 (by kernel_rfl) (by kernel_rfl) (by kernel_rfl) (by kernel_rfl) rfl rfl (.agg rfl .t (by kernel_rfl) (by kernel_rfl) .nil) rfl) r1 qz (qf (ZbA 62 (ZsF vb ol (lowK OrdD.key (Go.Gm.nth (Z7 t) i) ol) ⟨(Go.Gm.nth (Z7 t) i),[]⟩ (by omega) hlk) Tryz.func129 rfl (by kernel_rfl) (Args.three .t .t (.conv .t (entArr (l:=[.int .i64 (Go.Gm.nth (Z7 t) i),.is (.slice none 0 0)]) (R:=Zx) (l':=[⟨(Go.Gm.nth (Z7 t) i),[]⟩]) rfl ⟨PVLe.refl,PVLe.nilSl,trivial⟩))) ZaO) r3 r1 (qf (o_nilCheck 61 .is (by rfl)) r1 r1 (qf (oF 1 61 .adr) r1 r1 (qf (Zad 61 .adr (by kernel_rfl) (by kernel_rfl)) r2 r1 qZ))))))))))))) hB [13,12,11,3,0] [101,62,61,1,0] (fun _=>rfl) (fun _=>rfl) fun τ a w F hS=>?_
   try dsimp only [RS.sub,SF.sub,CF.sub,csub,Anc.sub,List.map,Zf,xL,xM,Nat.reduceAdd,xD,xE,xT,xU,xC,xN,zCF,ldSF,Zn,rTx,Zx,ZO,rInt,rOp] at hS
   generalize τ 41=v41 at hS
   refine Zh (Zb ?_)
   refine Za hS (qp r1 (qM rfl rfl qZ)) hB [13,12,11,3,0] [101,62,61,1,0] rfl rfl fun a w F hS=>Zb ?_
   replace hS:=hS.ent (i:=13) (s':=.pv (.int .i64 ((i+1:Nat):Int))) rfl (.int (wrap_succ (by omega)))
   obtain ⟨F,hS⟩:=hS.nm [12,11,3,0,13] [101,1,0,62,61] rfl rfl
   exact ⟨((i+1),_,_),F,⟨by omega,hq9⟩,hS,by omega⟩
  have hq9:=hsk hio (by intro e;simp [e.1,e.2] at hc1)
  refine wp_skip (Zh (Zb ?_))
  refine Za hS (qp r1 (qM rfl rfl qZ)) hB [13,12,11,3,0] [101,62,61,1,0] rfl rfl fun a w F hS=>Zb ?_
  replace hS:=hS.ent (i:=13) (s':=.pv (.int .i64 ((i+1:Nat):Int))) rfl (.int (wrap_succ (by omega)))
  obtain ⟨F,hS⟩:=hS.nm [12,11,3,0,13] [101,1,0,62,61] rfl rfl
  exact ⟨((i+1),_,_),F,⟨by omega,hq9⟩,hS,by omega⟩
 have hil:i=(Z7 t).length:=by simp at hc0;omega
 have hq0:ol=ZdE t os (Z7 t):=by rw [hq,hil,List.take_length]
 refine wp_exit (Zi (Zi (Zo (Zb (wp_seq (wp_seq ?_))))))
 refine Za hS (qM rfl rfl (qf (o_nilCheck 61 .is (by rfl)) r1 r1 (qf (oF 1 61 .adr) r1 r1 (qa 61 r1 r1 (qf (ZT 62 Tryz.underlying23 .is) r1 r1 (qJ qZ)))))) hB [50,49,3,0] [101,62,61,1,0] rfl rfl fun a w F hS=>Zb (wp_block ?_)
 refine Zr (σ:=(Nat)×(List OrdD)) [0,3,49] [0,1,61,101] (fun s=>[(50,.pv (.int .i64 (s.1:Int)))]) (fun s=>[(62,.ob (.val vb) (Zu 41 2 Zx s.2))]) (fun s=>s.1≤ol.length∧(s.2=(ol.take s.1).map (ZjN t)++ol.drop s.1)) (fun s=>ol.length - s.1) ((0),(ol)) hS ⟨rfl,rfl,rfl,rfl,trivial⟩ ⟨rfl,rfl,rfl,rfl,rfl,trivial⟩ ⟨Nat.zero_le _,(by simp)⟩ ?_
 clear hS;intro s a w F hC hS
 obtain ⟨i,o2⟩:=s
 try dsimp only at hC
 obtain ⟨F,hS⟩:=hS.nm [50,49,3,0] [101,62,61,1,0] rfl rfl
 try dsimp only at hS
 obtain ⟨hi,hq⟩:=hC
 have hm:=fun h=>Zst (f:=ZjN t) (l:=ol) (i:=i) h hq
 have hms:=fun h=>ZrG (f:=ZjN t) (l:=ol) (i:=i) h hq
 refine wp_seq ?_
 refine Za hS (qL r2) hB [51,50,49,3,0] [101,62,61,1,0] rfl rfl fun a w F hS=>Zb (wp_seq ?_)
 refine Zd hS rfl (fun hc2=>?_) (fun hc2=>?_)
 ·skip
  have hil:i<ol.length:=by simp at hc2;omega
  have hio:=hil
  have hol:=hf3 _ (ZB hio)
  have hmn:=(hm hio).1
  have hms2:=hms hio
  have hol2:(Go.Gm.nth o2 i).txs.length≤1000:=by rw [hmn];exact hol
  refine wp_skip (Zb (wp_seq (wp_block (wp_seq ?_))))
  refine Za hS (qM rfl rfl (qN rfl rfl qZ)) hB [50,49,8,3,0] [101,62,61,1,0] rfl rfl fun a w F hS=>Zb (wp_seq ?_)
  refine Za hS (qM rfl rfl (qf (o_nilCheck 61 .is (by rfl)) r1 r1 (qf (oF 1 61 .adr) r1 r1 (qa 61 r1 r1 (qM rfl rfl (qf (o_indexAddr_row (sz:=2) 62 (.mk Tryz.underlying23 (by kernel_rfl)) .is .t (by omega) (by omega) (by rfl)) r2 r1 (qN rfl rfl qZ))))))) hB [50,49,9,3,0] [101,62,61,1,0] rfl rfl fun a w F hS=>?_
  try simp only [Int.toNat_natCast] at hS
  refine Zb (wp_seq ?_)
  refine Zz hS (qg 1 101 r1 r1 (qa 101 r1 r1 (qM rfl rfl (qk rfl (fun h=>oL true 3 101 .is) r2 r1 (qm rfl rfl rfl rfl (qk rfl (fun h=>ZaI (sz:=2) 62 (.w h) (by intro x;rfl) (by have:=(hm hil).2;omega)) r2 r1 (qk rfl (fun h=>Zan (off:=0) (sz:=2) 62 (.w h) (by have:=(hm hil).2;omega) (by kernel_rfl) (by rfl)) r2 r1 (qk rfl (fun h=>Zdh (ag:=false) (sz':=1) (sz:=2) 62 (.w h) (by intro x;rfl) (by have:=(hm hil).2;omega) (by kernel_rfl) (by kernel_rfl) (by kernel_rfl)) r2 r1 (qk rfl (fun h=>oP (ZfU t (Go.Gm.nth o2 i).key (by omega)) Tryz.func108 (Args.two (.pagg (.w h)) (.w h))) r3 qz (qk rfl (fun h=>ZaR (.w h) qi) r2 qz (qf (ZK .t .t) r2 qz qZ))))))))))) hB [69,50,49,9,3,0] [101,62,61,1,0] rfl rfl fun a w F hS=>?_
  try dsimp only [List.map,xD,xE,xT,xU,ldSF,Zn,rTx,Zx,ZO,rInt,rOp] at hS
  refine Zb ?_
  refine Zd hS rfl (fun hc3=>?_) (fun hc3=>?_)
  ·skip
   have hq9:o2.set i ⟨(Go.Gm.nth o2 i).key,withO (Go.Gm.nth o2 i).txs t.id⟩ = (ol.take (i+1)).map (ZjN t)++ol.drop (i+1):=by rw [← hms2,hmn];unfold ZjN;rw [if_pos (by have h9:=hc3;unfold wcnt;simpa [hmn] using h9)]
   refine Zz hS (qM rfl rfl (qM rfl rfl (qf (ZaI (sz:=2) 62 .t (by intro x;rfl) (by have:=(hm hil).2;omega)) r1 r1 (qf (Zan (off:=1) (sz:=2) 62 .t (by have:=(hm hil).2;omega) (by kernel_rfl) (by rfl)) r1 r1 (qf (Zdh (ag:=false) (sz':=1) (sz:=2) 62 .t (by intro x;rfl) (by have:=(hm hil).2;omega) (by kernel_rfl) (by kernel_rfl) (by kernel_rfl)) r1 r1 (qg 0 101 r1 r1 (qa 101 r1 r1 (qf (oP (Zrx (Go.Gm.nth o2 i).txs t.id (by omega)) Tryz.func130 (Args.two .t .t)) r2 qz (qf (ZaI (sz:=2) 62 .t (by intro x;rfl) (by have:=(hm hil).2;omega)) r1 r1 (qf (Zan (off:=1) (sz:=2) 62 .t (by have:=(hm hil).2;omega) (by kernel_rfl) (by rfl)) r1 r1 (qf (ZcL (R:=Zx) (sz:=2) (off:=1) (v':=(⟨(Go.Gm.nth o2 i).key,withO (Go.Gm.nth o2 i).txs t.id⟩:OrdD)) 62 .t (by intro x;rfl) (by have:=(hm hil).2;omega) (by decide) .t one_sl rfl (by kernel_rfl)) r2 r1 qZ))))))))))) hB [50,49,3,0] [101,62,61,1,0] rfl rfl fun a w F hS=>?_
   try dsimp only [List.map,Zf,xL,xM,Nat.reduceAdd,xD,xE,xT,xU,xC,xN,zCF,ldSF,Zn,rTx,Zx,ZO,rInt,rOp] at hS
   refine Zh (Zb ?_)
   refine Za hS (qp r1 (qM rfl rfl qZ)) hB [50,49,3,0] [101,62,61,1,0] rfl rfl fun a w F hS=>Zb ?_
   replace hS:=hS.ent (i:=50) (s':=.pv (.int .i64 ((i+1:Nat):Int))) rfl (.int (wrap_succ (by omega)))
   obtain ⟨F,hS⟩:=hS.nm [49,3,0,50] [101,61,1,0,62] rfl rfl
   exact ⟨((i+1),_),F,⟨by omega,hq9⟩,hS,by omega⟩
  have hq9:o2.set i ⟨(Go.Gm.nth o2 i).key,withoutO (Go.Gm.nth o2 i).txs t.id⟩ = (ol.take (i+1)).map (ZjN t)++ol.drop (i+1):=by rw [← hms2,hmn];unfold ZjN;rw [if_neg (by have h9:=hc3;unfold wcnt;intro e;rw [← hmn] at e;simp [e.1,e.2] at h9)]
  refine Zz hS (qM rfl rfl (qM rfl rfl (qf (ZaI (sz:=2) 62 .t (by intro x;rfl) (by have:=(hm hil).2;omega)) r1 r1 (qf (Zan (off:=1) (sz:=2) 62 .t (by have:=(hm hil).2;omega) (by kernel_rfl) (by rfl)) r1 r1 (qf (Zdh (ag:=false) (sz':=1) (sz:=2) 62 .t (by intro x;rfl) (by have:=(hm hil).2;omega) (by kernel_rfl) (by kernel_rfl) (by kernel_rfl)) r1 r1 (qg 0 101 r1 r1 (qa 101 r1 r1 (qf (oP (ZmK (Go.Gm.nth o2 i).txs t.id (by omega)) Tryz.func131 (Args.two .t .t)) r2 qz (qf (ZaI (sz:=2) 62 .t (by intro x;rfl) (by have:=(hm hil).2;omega)) r1 r1 (qf (Zan (off:=1) (sz:=2) 62 .t (by have:=(hm hil).2;omega) (by kernel_rfl) (by rfl)) r1 r1 (qf (ZcL (R:=Zx) (sz:=2) (off:=1) (v':=(⟨(Go.Gm.nth o2 i).key,withoutO (Go.Gm.nth o2 i).txs t.id⟩:OrdD)) 62 .t (by intro x;rfl) (by have:=(hm hil).2;omega) (by decide) .t one_sl rfl (by kernel_rfl)) r2 r1 qZ))))))))))) hB [50,49,3,0] [101,62,61,1,0] rfl rfl fun a w F hS=>?_
  try dsimp only [List.map,Zf,xL,xM,Nat.reduceAdd,xD,xE,xT,xU,xC,xN,zCF,ldSF,Zn,rTx,Zx,ZO,rInt,rOp] at hS
  refine Zh (Zb ?_)
  refine Za hS (qp r1 (qM rfl rfl qZ)) hB [50,49,3,0] [101,62,61,1,0] rfl rfl fun a w F hS=>Zb ?_
  replace hS:=hS.ent (i:=50) (s':=.pv (.int .i64 ((i+1:Nat):Int))) rfl (.int (wrap_succ (by omega)))
  obtain ⟨F,hS⟩:=hS.nm [49,3,0,50] [101,61,1,0,62] rfl rfl
  exact ⟨((i+1),_),F,⟨by omega,hq9⟩,hS,by omega⟩
 have hil:i=ol.length:=by simp at hc2;omega
 have hfin:(o2.filter fun o=>!decide (o.txs = []))=settleO t os:=by rw [hq,hil,List.take_length,List.drop_length,List.append_nil,hq0];rfl
 have ho2:o2.length=ol.length:=by rw [hq,hil];simp
 refine wp_exit (Zi (Zi (Zo (Zb ?_))))
 refine Zc hS (qM rfl rfl (qM rfl rfl (qf (o_nilCheck 61 .is (by rfl)) r1 r1 (qf (oF 1 61 .adr) r1 r1 (qa 61 r1 r1 (qf (ZbA 62 (ZqU vb o2 (by omega) (fun o=>decide (o.txs = [])) 133 Tryz.f133 [] Tryz.func133 rfl (by kernel_rfl) (fun o=>Znb o)) Tryz.func132 rfl (by kernel_rfl) (Args.two .t (.conv .f (Ent.fnClos))) ZaO) r1 r1 (qf (o_nilCheck 61 .is (by rfl)) r1 r1 (qf (oF 1 61 .adr) r1 r1 (qf (Zad 61 .adr (by kernel_rfl) (by kernel_rfl)) r2 r1 qZ))))))))) hB [] [101,62,61,1,0] (fun _=>rfl) (fun _=>rfl) fun τ a w F hS=>?_
 try dsimp only [RS.sub,SF.sub,CF.sub,csub,Anc.sub,List.map,Zf,xL,xM,Nat.reduceAdd,xD,xE,xT,xU,xC,xN,zCF,ldSF,Zn,rTx,Zx,ZO,rInt,rOp] at hS
 generalize τ 96=v96 at hS
 obtain ⟨F,hS⟩:=hS.push 1 62 rfl rfl rfl rfl
 obtain ⟨F,hS⟩:=hS.push 1 61 rfl rfl rfl rfl
 have hS:=hS.turn 1 rfl (r':=RS.hp (Zmv 25 41 p va (settleO t os))) (fun _ _ _ _ h=>⟨v96,by rw [hfin] at h;exact h⟩)
 refine Zay hG hS rfl .nil .none rfl
theorem ZnW (g:Zj) (hs:Zba g.txs):FnG Tryz.prog 25 1 [.agg (Zn g)] [.star []] (PV.one) (fun v=>[HP.ex fun s:List (GE Int (List Int))×Nat=>HP.and (WrL s.1 g.txs) (Zeg (fun l:List Int=>PV.sl rInt l) (fun _=>True) (fun n:Int=>Value.int .i64 n) s.1 s.2 v)]):=by
 refine FnG.mk Tryz.func25 rfl Tryz.ntmps25 rfl (by kernel_rfl) ?_
 intro B F0 a w F hB hG hS
 have hsl:=hs.1
 obtain ⟨F,hS⟩:=hS.nm [0] [0] rfl rfl
 refine wp_seq ?_
 refine Zc hS (qx 101 r1 (qC qZ)) hB [2,1] [101,0] (fun _=>rfl) (fun _=>rfl) fun τ a w F hS=>?_
 try dsimp only [RS.sub,SF.sub,CF.sub,csub,Anc.sub,List.map,zCF,Zn,rTx,Zx,ZO,rInt,rOp] at hS
 generalize τ 1=v1 at hS
 refine Zb (wp_seq ?_)
 refine Zc hS (qf (Zez (ek:=(fun p:Value×List Int=>PV.is p.1)) (ok:=(fun _=>True)) (kv:=(fun n:Int=>Value.int .i64 n)) 102) trivial qz (qN rfl rfl qZ)) hB [3,2,1] [102,101,0] (fun _=>rfl) (fun _=>rfl) fun τ a w F hS=>?_
 try dsimp only [RS.sub,SF.sub,CF.sub,csub,Anc.sub,List.map,Zf,xL,xM,Nat.reduceAdd,xD,xE,xT,xU,xC,xN,zCF,Zn,rTx,Zx,ZO,rInt,rOp] at hS
 generalize τ 8=v8 at hS
 replace hS:=hS.fresh 60 rfl
 replace hS:=hS.turn 60 rfl (r':=ZpV 3 1 rInt ([]:List (GE Int (Value×List Int)))) (fun _ _ _ _ h=>h)
 obtain ⟨F,hS⟩:=hS.nm [3,2,1] [102,101,60,0] rfl rfl
 refine Zb (wp_seq (wp_seq ?_))
 refine Za hS (qg 0 101 r1 r1 (qa 101 r1 r1 (qu Tryz.underlying22 r1 (qJ qZ)))) hB [12,11,10,3,2] [102,101,60,0] rfl rfl fun a w F hS=>Zb (wp_block ?_)
 refine Zr (σ:=(Nat)×(List (GE Int (Value×List Int)))×(Nat)) [2,3,10,11] [0,101] (fun s=>[(12,.pv (.int .i64 (s.1:Int)))]) (fun s=>[(102,.ob (.val v8) (Zeg (fun p:Value×List Int=>PV.is p.1) (fun _=>True) (fun n:Int=>Value.int .i64 n) s.2.1 s.2.2)),(60,ZpV 3 1 rInt s.2.1)]) (fun s=>s.1≤g.txs.length∧(WrV s.2.1 (g.txs.take s.1) 0 [])) (fun s=>g.txs.length - s.1) ((0),([]),(0)) hS ⟨rfl,rfl,rfl,rfl,rfl,trivial⟩ ⟨rfl,rfl,rfl,rfl,trivial⟩ ⟨Nat.zero_le _,ZqQ⟩ ?_
 clear hS;intro s a w F hC hS
 obtain ⟨i,es,ck⟩:=s
 try dsimp only at hC
 obtain ⟨F,hS⟩:=hS.nm [12,11,10,3,2] [102,101,60,0] rfl rfl
 try dsimp only at hS
 obtain ⟨hi,hq⟩:=hC
 have hxl:=fun hil:i<g.txs.length=>hs.at hil
 refine wp_seq ?_
 refine Za hS (qL r2) hB [13,12,11,10,3,2] [102,101,60,0] rfl rfl fun a w F hS=>Zb (wp_seq ?_)
 refine Zd hS rfl (fun hc0=>?_) (fun hc0=>?_)
 ·skip
  have hil:i<g.txs.length:=by simp at hc0;omega
  have hio:=hil
  have hw0:=hq
  have htl:=hxl hil
  have hkt:=ZcF (Go.Gm.nth g.txs i)
  have hsl:=hs.1
  refine wp_skip (Zb (wp_seq (wp_block (wp_seq ?_))))
  refine Zc hS (qy 3 Tryz.underlying22 r2 (qf (oR true 3 .t) r1 qz (qf (oH [.int .i64 0,.bool false,.slice none 0 0] 103) trivial qz (qS 3 103 r2 r1 qZ)))) hB [12,11,10,5,3,2] [103,102,101,60,0] (fun _=>rfl) (fun _=>rfl) fun τ a w F hS=>?_
  try dsimp only [RS.sub,SF.sub,CF.sub,csub,Anc.sub,List.map,Zf,xL,xM,Nat.reduceAdd,xD,xE,xT,xU,xC,xN,zCF,ldSF,Zn,rTx,Zx,ZO,rInt,rOp] at hS
  generalize τ 5=v5 at hS
  try simp only [Int.toNat_natCast] at hS
  refine Zb (wp_seq (wp_seq ?_))
  refine Za hS (qg 1 103 r1 r1 (qa 103 r1 r1 (qf (o_not .t) r1 qz qZ))) hB [18,12,11,10,5,3,2] [103,102,101,60,0] rfl rfl fun a w F hS=>Zb ?_
  refine Zd hS rfl (fun hc1=>?_) (fun hc1=>?_)
  ·skip
   have hdn:(Go.Gm.nth g.txs i).done=false:=by simpa using hc1
   obtain ⟨es2,he2⟩:∃ z,z=es:=⟨_,rfl⟩
   obtain ⟨ck2,hc2⟩:∃ z,z=ck:=⟨_,rfl⟩
   have hR2:WrV es2 (g.txs.take (i+1)) 0 []:=by rw [he2];exact ZqN hw0 hio hdn
   rw [← he2,← hc2] at hS
   refine wp_exit (Zi (Zo (Zb ?_)))
   refine Za hS (qp r1 (qM rfl rfl qZ)) hB [12,11,10,3,2] [103,102,101,60,0] rfl rfl fun a w F hS=>Zb ?_
   replace hS:=hS.ent (i:=12) (s':=.pv (.int .i64 ((i+1:Nat):Int))) rfl (.int (wrap_succ (by omega)))
   obtain ⟨F,hS⟩:=hS.nm [11,10,3,2,12] [101,0,60,102] rfl rfl
   exact ⟨((i+1),(es2),(ck2)),F,⟨by omega,hR2⟩,hS,by omega⟩
  have hdn:(Go.Gm.nth g.txs i).done=true:=by simpa using hc1
  refine wp_skip (Zb (wp_seq ?_))
  refine Za hS (qe 3 103 r1 r1 (qf (oP (Zns (Go.Gm.nth g.txs i) (by have:=hxl hio;omega)) Tryz.func63 (Args.one (.pagg .t))) r1 qz (qu Tryz.underlying39 r1 (qJ qZ)))) hB [22,21,20,12,11,10,5,3,2] [103,102,101,60,0] rfl rfl fun a w F hS=>?_
  rw [show ZeG (((Go.Gm.nth g.txs i).ops.filter fun o=>!o.read).map OpD.key)=Z7 (Go.Gm.nth g.txs i) from rfl] at hS
  refine Zb (wp_block ?_)
  refine Zr (σ:=(Nat)×(List (GE Int (Value×List Int)))×(Nat)) [2,3,5,10,11,12,20,21] [0,101,103] (fun s=>[(22,.pv (.int .i64 (s.1:Int)))]) (fun s=>[(102,.ob (.val v8) (Zeg (fun p:Value×List Int=>PV.is p.1) (fun _=>True) (fun n:Int=>Value.int .i64 n) s.2.1 s.2.2)),(60,ZpV 3 1 rInt s.2.1)]) (fun s=>s.1≤(Z7 (Go.Gm.nth g.txs i)).length∧(WrV s.2.1 (g.txs.take i) (Go.Gm.nth g.txs i).id ((Z7 (Go.Gm.nth g.txs i)).take s.1))) (fun s=>(Z7 (Go.Gm.nth g.txs i)).length - s.1) ((0),(es),(ck)) hS ⟨rfl,rfl,rfl,rfl,rfl,rfl,rfl,rfl,rfl,trivial⟩ ⟨rfl,rfl,rfl,rfl,rfl,trivial⟩ ⟨Nat.zero_le _,(by simpa using Zpx hw0)⟩ ?_
  clear hS;intro s a w F hC hS
  obtain ⟨j,es,ck⟩:=s
  try dsimp only at hC
  obtain ⟨F,hS⟩:=hS.nm [22,21,20,12,11,10,5,3,2] [103,102,101,60,0] rfl rfl
  try dsimp only at hS
  obtain ⟨hi,hq⟩:=hC
  refine wp_seq ?_
  refine Za hS (qL r2) hB [23,22,21,20,12,11,10,5,3,2] [103,102,101,60,0] rfl rfl fun a w F hS=>Zb (wp_seq ?_)
  refine Zd hS rfl (fun hc2=>?_) (fun hc2=>?_)
  ·skip
   have hil:j<(Z7 (Go.Gm.nth g.txs i)).length:=by simp at hc2;omega
   have hwo:=ZqE hq (ZgG _) hil
   have hwn:=ZbT (g.txs.take i) (Go.Gm.nth (Z7 (Go.Gm.nth g.txs i)) j)
   rw [List.length_take] at hwn
   rw [← hwo] at hwn
   refine wp_skip (Zb (wp_seq (wp_block (wp_seq ?_))))
   refine Za hS (qy 1 Tryz.underlying39 r2 (qf (oR false 1 .t) r1 qz (qN rfl rfl qZ))) hB [22,21,20,12,11,10,7,5,3,2] [103,102,101,60,0] rfl rfl fun a w F hS=>?_
   try simp only [Int.toNat_natCast] at hS
   refine Zb ?_
   refine Zb6 5 hS (by kernel_rfl) (cG rfl (oM .t) r1 trivial (cG rfl (oM .t) r1 trivial (cG rfl (oM .t) r1 trivial (cG rfl (oM .t) r1 trivial (cG rfl (ZbM (ek:=(fun p:Value×List Int=>PV.is p.1)) (z0:=Zio) 102 Tryz.underlying60 (Zij Tryz.underlying3) (by kernel_rfl) (fun _ _=>⟨rfl,rfl⟩) .is (Z6.int .t rfl)) r2 r1 ZV.nil))))) (by kernel_rfl) (by rw [hB];kernel_rfl) fun a w F hS=>?_
   obtain ⟨F,hS⟩:=hS.nm [30,27,26,22,21,20,12,11,10,5,3,2] [103,102,101,60,0] rfl rfl
   try dsimp only [Zn,rTx,Zx,ZO,rInt,rOp] at hS
   obtain ⟨F,hS⟩:=hS.takeKey (T:=3) (sz:=1) (R:=rInt) 60 61 (Go.Gm.nth (Z7 (Go.Gm.nth g.txs i)) j) rfl rfl
   obtain ⟨F,hS⟩:=hS.nm [30,27,26,22,21,20,12,11,10,5,3,2] [103,102,101,61,60,0] rfl rfl
   refine ZiG 4 hS (by kernel_rfl) (cG rfl (oF 0 103 .is) r1 r1 (cG rfl (oL false 1 103 .adr) r1 r1 (cG rfl (Zk (sz:=1) (zs:=[.int .i64 0]) (r:=[(0,.tmp 32)]) (l:=[_]) Tryz.underlying39 (by kernel_rfl) (by kernel_rfl) (by kernel_rfl) (by kernel_rfl) rfl rfl (.one rfl .t one_int (by kernel_rfl) .nil) rfl) r1 trivial (cG rfl (o_append (sz:=1) (bs:=8) 61 (.mk' Tryz.underlying39 (by kernel_rfl) (by kernel_rfl)) (by intro x;rfl) .is (.arr (l':=[_]) .t) (by simp only [List.length_append,List.length_cons,List.length_nil];omega) (by decide)) ⟨rfl,rfl,trivial⟩ ⟨rfl,trivial⟩ ZV.nil)))) (by kernel_rfl) (by rw [hB];kernel_rfl) fun a w F hS=>?_
   replace hS:=hS.sub
   obtain ⟨F,hS⟩:=hS.nm [34,27,26,22,21,20,12,11,10,5,3,2] [103,102,101,61,60,0] rfl rfl
   try dsimp only [RS.sub,SF.sub,CF.sub,csub,Anc.sub,List.map,Zf,xL,xM,Nat.reduceAdd,xD,xE,xT,xU,xC,xN,zCF,ldSF,Zn,rTx,Zx,ZO,rInt,rOp] at hS
   generalize Act.tau a 34=v34 at hS
   refine ZcC hS (by kernel_rfl) (cG rfl (ZeR (ek:=(fun p:Value×List Int=>PV.is p.1)) (v:=((v34,((gGet (Go.Gm.nth (Z7 (Go.Gm.nth g.txs i)) j) es).getD Zio).2 ++ [(Go.Gm.nth g.txs i).id]):Value×List Int)) 102 Tryz.underlying60 (Zij Tryz.underlying3) .is (Z6.int .t rfl) .t) r3 r1 ZV.nil) (by kernel_rfl) (by rw [hB];kernel_rfl) fun a w F hS=>?_
   obtain ⟨F,hS⟩:=hS.nm [22,21,20,12,11,10,5,3,2] [103,102,101,61,60,0] rfl rfl
   try dsimp only [Zn,rTx,Zx,ZO,rInt,rOp] at hS
   refine Zh (Zb ?_)
   refine Za hS (qp r1 (qM rfl rfl qZ)) hB [22,21,20,12,11,10,5,3,2] [103,102,101,61,60,0] rfl rfl fun a w F hS=>Zb ?_
   obtain ⟨F,hS⟩:=hS.putKey (T:=3) (sz:=1) (R:=rInt) 60 61 (Go.Gm.nth (Z7 (Go.Gm.nth g.txs i)) j) ck rfl rfl rfl
   replace hS:=hS.ent (i:=22) (s':=.pv (.int .i64 ((j+1:Nat):Int))) rfl (.int (wrap_succ (by omega)))
   obtain ⟨F,hS⟩:=hS.nm [21,20,12,11,10,5,3,2,22] [103,101,0,60,102] rfl rfl
   exact ⟨((j+1),((gPut (Go.Gm.nth (Z7 (Go.Gm.nth g.txs i)) j) (v34,((gGet (Go.Gm.nth (Z7 (Go.Gm.nth g.txs i)) j) es).getD Zio).2 ++ [(Go.Gm.nth g.txs i).id]) (es,ck)).1),((gPut (Go.Gm.nth (Z7 (Go.Gm.nth g.txs i)) j) (v34,((gGet (Go.Gm.nth (Z7 (Go.Gm.nth g.txs i)) j) es).getD Zio).2 ++ [(Go.Gm.nth g.txs i).id]) (es,ck)).2)),F,⟨by omega,ZrR hq (ZgG _) hil⟩,hS,by omega⟩
  have hil:j=(Z7 (Go.Gm.nth g.txs i)).length:=by simp at hc2;omega
  obtain ⟨es2,he2⟩:∃ z,z=es:=⟨_,rfl⟩
  obtain ⟨ck2,hc2⟩:∃ z,z=ck:=⟨_,rfl⟩
  rw [hil,List.take_length] at hq
  have hR2:WrV es2 (g.txs.take (i+1)) 0 []:=by rw [he2];exact ZrJ hq hio hdn
  rw [← he2,← hc2] at hS
  refine wp_exit (Zi (Zi (Zo (Zh (Zb ?_)))))
  refine Za hS (qp r1 (qM rfl rfl qZ)) hB [12,11,10,3,2] [103,102,101,60,0] rfl rfl fun a w F hS=>Zb ?_
  replace hS:=hS.ent (i:=12) (s':=.pv (.int .i64 ((i+1:Nat):Int))) rfl (.int (wrap_succ (by omega)))
  obtain ⟨F,hS⟩:=hS.nm [11,10,3,2,12] [101,0,60,102] rfl rfl
  exact ⟨((i+1),(es2),(ck2)),F,⟨by omega,hR2⟩,hS,by omega⟩
 have hil:i=g.txs.length:=by simp at hc0;omega
 have hwl:=Zpd hq
 rw [hil,List.take_length] at hwl
 refine wp_exit (Zi (Zi (Zo (Zb (wp_seq ?_)))))
 refine Za hS (qM rfl rfl (qN rfl rfl qZ)) hB [2] [102,101,60,0] rfl rfl fun a w F hS=>Zb (wp_ret ?_)
 obtain ⟨F,hS⟩:=hS.giveMap 102 60 rfl rfl rfl
 obtain ⟨F,hS⟩:=hS.rename 102 1 rfl rfl
 have hS:=hS.turn 1 rfl (r':=RS.hp (HP.ex fun s:List (GE Int (List Int))×Nat=>HP.and (WrL s.1 g.txs) (Zeg (fun l:List Int=>PV.sl rInt l) (fun _=>True) (fun n:Int=>Value.int .i64 n) s.1 s.2 v8))) (fun _ _ _ _ h=>⟨(ZeT es,ck),hwl,h⟩)
 refine ZaG (h':=fun v=>HP.ex fun s:List (GE Int (List Int))×Nat=>HP.and (WrL s.1 g.txs) (Zeg (fun l:List Int=>PV.sl rInt l) (fun _=>True) (fun n:Int=>Value.int .i64 n) s.1 s.2 v)) hG hS rfl (.tmp rfl .nil) (.one .one) rfl
theorem Zcj (g:Zj) (hs:Zbo g):FnP Tryz.prog 7 [.agg (Zn g)] (.bool (decide (Zy g))):=by
 refine FnP.mk Tryz.func7 rfl Tryz.ntmps7 rfl ?_
 intro B a w F hB hfr hS
 have hsl:=hs.1.1
 have hso:=hs.2.1
 refine wp_seq ?_
 refine Zc hS (qx 101 r1 qB) hB [2,1] [101,0] (fun _=>rfl) (fun _=>rfl) fun τ a w F hS=>?_
 try dsimp only [RS.sub,SF.sub,CF.sub,csub,Anc.sub,List.map,zCF,Zn,rTx,Zx,ZO,rInt,rOp] at hS
 generalize τ 1=v1 at hS
 refine Zb (wp_seq (wp_seq ?_))
 refine Za hS (qg 0 101 r1 r1 (qa 101 r1 r1 (qu Tryz.underlying22 r1 (qf (ZaR .t qi) r1 qz qZ)))) hB [11,2,1] [101,0] rfl rfl fun a w F hS=>Zb ?_
 refine Zd hS rfl (fun hc0=>?_) (fun hc0=>?_)
 ·skip
  have hg:=ZgK (h:=g) (by simp at hc0;omega)
  refine wp_seq ?_
  refine Za hS qB hB [2,1] [101,0] rfl rfl fun a w F hS=>Zb (wp_ret (Ze ?_))
  refine Zq hfr hS rfl rfl rfl (.bool hg)
 have hlong:g.txs.length≤4096:=by simp at hc0;omega
 refine wp_skip (Zb (wp_seq (wp_seq ?_)))
 refine Za hS (qg 0 101 r1 r1 (qa 101 r1 r1 (qu Tryz.underlying22 r1 (qJ qZ)))) hB [15,14,13,2,1] [101,0] rfl rfl fun a w F hS=>Zb (wp_block ?_)
 refine Zr (σ:=(Nat)) [1,2,13,14] [0,101] (fun s=>[(15,.pv (.int .i64 (s:Int)))]) (fun s=>[]) (fun s=>s≤g.txs.length∧(∀ k,k<s→ZpI g k)) (fun s=>g.txs.length - s) (0) hS ⟨rfl,rfl,rfl,rfl,rfl,trivial⟩ ⟨rfl,rfl,trivial⟩ ⟨Nat.zero_le _,fun k hk=>absurd hk (Nat.not_lt_zero k)⟩ ?_
 clear hS;intro i a w F hC hS
 try dsimp only at hC
 obtain ⟨F,hS⟩:=hS.nm [15,14,13,2,1] [101,0] rfl rfl
 try dsimp only at hS
 obtain ⟨hi,hq⟩:=hC
 have hxl:=fun hil:i<g.txs.length=>hs.1.at hil
 have hiw:0<i→IntKind.wrap .i64 ((i:Int) - 1)=((i - 1:Nat):Int):=fun h0=>by rw [ZC (by omega)];omega
 refine wp_seq ?_
 refine Za hS (qL r2) hB [16,15,14,13,2,1] [101,0] rfl rfl fun a w F hS=>Zb (wp_seq ?_)
 refine Zd hS rfl (fun hc1=>?_) (fun hc1=>?_)
 ·skip
  have hil:i<g.txs.length:=by simp at hc1;omega
  refine wp_skip (Zb (wp_seq (wp_block (wp_seq ?_))))
  refine Zc hS (qM rfl rfl (qy 3 Tryz.underlying22 r2 (qf (oR true 3 .t) r1 qz (qf (oH [.int .i64 0,.bool false,.slice none 0 0] 102) trivial qz (qN rfl rfl (qS 3 102 r2 r1 qZ)))))) hB [15,14,13,4,3,2,1] [102,101,0] (fun _=>rfl) (fun _=>rfl) fun τ a w F hS=>?_
  try dsimp only [RS.sub,SF.sub,CF.sub,csub,Anc.sub,List.map,Zf,xL,xM,Nat.reduceAdd,xD,xE,xT,xU,xC,xN,zCF,ldSF,Zn,rTx,Zx,ZO,rInt,rOp] at hS
  generalize τ 4=v4 at hS
  try simp only [Int.toNat_natCast] at hS
  refine Zb (wp_seq ?_)
  refine Zz hS (qM rfl rfl (qf (ZaR .t qi) r1 qz (qM rfl rfl (qv 0 101 rfl r2 r1 (qw 101 rfl r2 r1 (qm rfl rfl rfl rfl (qk rfl (fun h=>o_sub (.w h) qi) r2 qz (qk rfl (fun h=>o_indexAddr_sl (sz:=3) (.mk Tryz.underlying22 (by kernel_rfl)) (by intro x;rfl) (.w h) (.w h) (by rw [hiw (by simpa using h)];omega) (by rw [hiw (by simpa using h)];omega)) r3 qz (qk rfl (fun h=>oG 0 (.w h)) r2 qz (qk rfl (fun h=>oR false 1 (.w h)) r2 qz (qv 0 102 rfl r2 r1 (qw 102 rfl r2 r1 (qk rfl (fun h=>Zen (.w h) (.w h)) r3 qz (qf (ZK .t .t) r2 qz (qM rfl rfl (qk rfl (fun h=>oL true 3 102 .is) r2 r1 (qk rfl (fun h=>oP (ZiK (Go.Gm.nth g.txs i)) Tryz.func23 (Args.one (.pagg (.w h)))) r2 qz (qk rfl (fun h=>o_neq (.w h) qi) r2 qz (qf (Zao .t .t) r2 qz (qM rfl rfl (qk rfl (fun h=>oL true 2 101 .is) r2 r1 (qk rfl (fun h=>oL true 3 102 .is) r2 r1 (qk rfl (fun h=>oP (ZlV g (Go.Gm.nth g.txs i) hs.1 (by have:=hxl hil;omega)) Tryz.func24 (Args.two (.pagg (.w h)) (.pagg (.w h)))) r3 qz (qk rfl (fun h=>o_not (.w h)) r2 qz (qf (Zao .t .t) r2 qz qZ))))))))))))))))))))))))) hB [44,15,14,13,2,1] [102,101,0] rfl rfl fun a w F hS=>?_
  try dsimp only [List.map,xD,xE,xT,xU,ldSF,Zn,rTx,Zx,ZO,rInt,rOp] at hS
  try simp only [Int.toNat_natCast] at hS
  refine Zb ?_
  refine Zd hS rfl (fun hc2=>?_) (fun hc2=>?_)
  ·skip
   have hbad:¬ ZpI g i:=by
     rintro ⟨g1,g2,g3⟩
     have h9:=hc2
     by_cases hi0:0<i
     · rw [hiw hi0,Int.toNat_natCast] at h9
       have:=g1 hi0
       simp [g2,g3] at h9
       omega
     · have hi1:i=0:=by omega
       subst hi1
       simp [g2,g3] at h9
   have hg:=Zi5 hil hbad
   refine wp_seq ?_
   refine Za hS qB hB [15,14,13,2,1] [102,101,0] rfl rfl fun a w F hS=>Zb (wp_ret (Zg (Ze (Ze (Zg (Ze ?_))))))
   refine Zq hfr hS rfl rfl rfl (.bool hg)
  have hgood:ZpI g i:=by
    have h9:=hc2
    by_cases hi0:0<i
    · rw [hiw hi0,Int.toNat_natCast] at h9
      simp at h9
      exact ⟨fun _=>by omega,by omega,h9.2⟩
    · have hi1:i=0:=by omega
      subst hi1
      simp at h9
      exact ⟨fun h0=>absurd h0 (Nat.lt_irrefl 0),h9.1,h9.2⟩
  refine wp_skip (Zh (Zb ?_))
  refine Za hS (qp r1 (qM rfl rfl qZ)) hB [15,14,13,2,1] [102,101,0] rfl rfl fun a w F hS=>Zb ?_
  replace hS:=hS.ent (i:=15) (s':=.pv (.int .i64 ((i+1:Nat):Int))) rfl (.int (wrap_succ (by omega)))
  obtain ⟨F,hS⟩:=hS.nm [14,13,2,1,15] [101,0] rfl rfl
  exact ⟨(i+1),F,⟨by omega,(fun k hk=>by rcases Nat.lt_or_eq_of_le (Nat.le_of_lt_succ hk) with h9 | h9;exact hq k h9;rw [h9];exact hgood)⟩,hS,by omega⟩
 have hil:i=g.txs.length:=by simp at hc1;omega
 have hall:∀ k,k<g.txs.length→ZpI g k:=by rw [← hil];exact hq
 have hkn:=Zm3 hs.1
 refine wp_exit (Zi (Zi (Zo (Zb (wp_seq ?_)))))
 replace hS:=hS.fresh 103 rfl
 refine Zc hS (qe 2 101 r1 r1 (qf (Za2 103 (ZnW g hs.1) Tryz.func25 rfl (by kernel_rfl) (Args.one (.pagg .t)) ZaO) r1 r1 (qN rfl rfl qZ))) hB [5,2,1] [103,101,0] (fun _=>rfl) (fun _=>rfl) fun τ a w F hS=>?_
 try dsimp only [RS.sub,SF.sub,CF.sub,csub,Anc.sub,List.map,xD,xE,xT,xU,ldSF,Zn,rTx,Zx,ZO,rInt,rOp] at hS
 generalize τ 47=v47 at hS
 replace hS:=hS.turn 103 rfl (r':=RS.hp (HP.ex fun s:List (GE Int (List Int))×Nat=>HP.and (WrL s.1 g.txs) (Zeg (fun l:List Int=>PV.sl rInt l) (fun _=>True) (fun n:Int=>Value.int .i64 n) s.1 s.2 v47))) (fun _ _ _ _ h=>h)
 obtain ⟨sm,hS⟩:=hS.open_ex 103 rfl
 obtain ⟨hwm,hS⟩:=hS.open_and 103 rfl
 obtain ⟨es,ck⟩:=sm
 try dsimp only at hwm hS
 replace hS:=hS.turn 103 rfl (r':=.ob (.val v47) (Zeg (fun l:List Int=>PV.sl rInt l) (fun _=>True) (fun n:Int=>Value.int .i64 n) es ck)) (fun _ _ _ _ h=>h)
 have hgw:=Zr9 hwm
 have hml:=Zsr hwm
 obtain ⟨F,hS⟩:=hS.nm [5,2,1] [103,101,0] rfl rfl
 refine Zb (wp_seq (wp_seq ?_))
 refine Za hS (qM rfl rfl (qf (Zl5 103 Tryz.underlying60 .is (by omega)) r1 r1 (qg 1 101 r1 r1 (qa 101 r1 r1 (qu Tryz.underlying23 r1 (qf (o_neq .t .t) r2 qz qZ)))))) hB [53,5,2,1] [103,101,0] rfl rfl fun a w F hS=>Zb ?_
 refine Zd hS rfl (fun hc3=>?_) (fun hc3=>?_)
 ·skip
  have hg:=ZhF (h:=g) (by simp at hc3;omega)
  refine wp_seq ?_
  refine Za hS qB hB [5,2,1] [103,101,0] rfl rfl fun a w F hS=>Zb (wp_ret (Ze ?_))
  refine Zq hfr hS rfl rfl rfl (.bool hg)
 have hle:g.orders.length=(ZbU g.txs).length:=by simp at hc3;omega
 refine wp_skip (Zb (wp_seq (wp_seq ?_)))
 refine Za hS (qg 1 101 r1 r1 (qa 101 r1 r1 (qu Tryz.underlying23 r1 (qJ qZ)))) hB [57,56,55,5,2,1] [103,101,0] rfl rfl fun a w F hS=>Zb (wp_block ?_)
 refine Zr (σ:=(Nat)) [1,2,5,55,56] [0,101,103] (fun s=>[(57,.pv (.int .i64 (s:Int)))]) (fun s=>[]) (fun s=>s≤g.orders.length∧(∀ k,k<s→Zgi g k)) (fun s=>g.orders.length - s) (0) hS ⟨rfl,rfl,rfl,rfl,rfl,rfl,trivial⟩ ⟨rfl,rfl,rfl,trivial⟩ ⟨Nat.zero_le _,fun k hk=>absurd hk (Nat.not_lt_zero k)⟩ ?_
 clear hS;intro i a w F hC hS
 try dsimp only at hC
 obtain ⟨F,hS⟩:=hS.nm [57,56,55,5,2,1] [103,101,0] rfl rfl
 try dsimp only at hS
 obtain ⟨hi,hq⟩:=hC
 have hol:=fun hil:i<g.orders.length=>hs.2.at hil
 have hwl:=fun k=>ZbT g.txs k
 have hiw:0<i→IntKind.wrap .i64 ((i:Int) - 1)=((i - 1:Nat):Int):=fun h0=>by rw [ZC (by omega)];omega
 refine wp_seq ?_
 refine Za hS (qL r2) hB [58,57,56,55,5,2,1] [103,101,0] rfl rfl fun a w F hS=>Zb (wp_seq ?_)
 refine Zd hS rfl (fun hc4=>?_) (fun hc4=>?_)
 ·skip
  have hil:i<g.orders.length:=by simp at hc4;omega
  refine wp_skip (Zb (wp_seq (wp_block (wp_seq ?_))))
  refine Zc hS (qM rfl rfl (qy 2 Tryz.underlying23 r2 (qf (oR true 2 .t) r1 qz (qf (oH [.int .i64 0,.slice none 0 0] 104) trivial qz (qN rfl rfl (qS 2 104 r2 r1 qZ)))))) hB [57,56,55,7,6,5,2,1] [104,103,101,0] (fun _=>rfl) (fun _=>rfl) fun τ a w F hS=>?_
  try dsimp only [RS.sub,SF.sub,CF.sub,csub,Anc.sub,List.map,Zf,xL,xM,Nat.reduceAdd,xD,xE,xT,xU,xC,xN,zCF,ldSF,Zn,rTx,Zx,ZO,rInt,rOp] at hS
  generalize τ 7=v7 at hS
  try simp only [Int.toNat_natCast] at hS
  refine Zb (wp_seq ?_)
  refine Zz hS (qM rfl rfl (qf (ZaR .t qi) r1 qz (qM rfl rfl (qv 1 101 rfl r2 r1 (qw 101 rfl r2 r1 (qm rfl rfl rfl rfl (qk rfl (fun h=>o_sub (.w h) qi) r2 qz (qk rfl (fun h=>o_indexAddr_sl (sz:=2) (.mk Tryz.underlying23 (by kernel_rfl)) (by intro x;rfl) (.w h) (.w h) (by rw [hiw (by simpa using h)];omega) (by rw [hiw (by simpa using h)];omega)) r3 qz (qk rfl (fun h=>oG 0 (.w h)) r2 qz (qk rfl (fun h=>oR false 1 (.w h)) r2 qz (qv 0 104 rfl r2 r1 (qw 104 rfl r2 r1 (qk rfl (fun h=>Zen (.w h) (.w h)) r3 qz (qf (ZK .t .t) r2 qz (qM rfl rfl (qv 1 104 rfl r2 r1 (qw 104 rfl r2 r1 (qk rfl (fun h=>ZaM Tryz.underlying39 (.w h)) r2 qz (qk rfl (fun h=>o_eql (.w h) qi) r2 qz (qf (Zao .t .t) r2 qz (qM rfl rfl (qv 1 104 rfl r2 r1 (qw 104 rfl r2 r1 (qm rfl rfl rfl rfl (qv 0 104 rfl r2 r1 (qw 104 rfl r2 r1 (qk rfl (fun h=>ZbM (ek:=(fun l:List Int=>PV.sl rInt l)) (z0:=([]:List Int)) 103 Tryz.underlying60 (Zij Tryz.underlying3) (by kernel_rfl) (fun _ _=>ZiD) (.w h .is) (Z6.int (.w h) rfl)) r3 r1 (qk rfl (fun h=>oP (ZoD (Go.Gm.nth g.orders i).txs _ (by have:=hol hil;omega) (by rw [hgw];have:=hwl (Go.Gm.nth g.orders i).key;omega)) Tryz.func26 (Args.two (.w h) (.w h))) r3 qz (qk rfl (fun h=>o_not (.w h)) r2 qz (qf (Zao .t .t) r2 qz qZ)))))))))))))))))))))))))))))) hB [91,57,56,55,5,2,1] [104,103,101,0] rfl rfl fun a w F hS=>?_
  try dsimp only [List.map,xD,xE,xT,xU,ldSF,Zn,rTx,Zx,ZO,rInt,rOp] at hS
  try simp only [Int.toNat_natCast] at hS
  refine Zb ?_
  refine Zd hS rfl (fun hc5=>?_) (fun hc5=>?_)
  ·skip
   have hbad:¬ Zgi g i:=by
     rintro ⟨g1,g2,g3⟩
     have h9:=hc5
     rw [hgw] at h9
     have g4:(Go.Gm.nth g.orders i).txs.length≠0:=fun e=>g2 (List.eq_nil_of_length_eq_zero e)
     by_cases hi0:0<i
     · rw [hiw hi0,Int.toNat_natCast] at h9
       have:=g1 hi0
       simp [g2,g3] at h9
       omega
     · have hi1:i=0:=by omega
       subst hi1
       simp [g2,g3] at h9
   have hg:=ZgM hil hbad
   refine wp_seq ?_
   refine Za hS qB hB [57,56,55,5,2,1] [104,103,101,0] rfl rfl fun a w F hS=>Zb (wp_ret (Zg (Ze (Ze (Zg (Ze ?_))))))
   refine Zq hfr hS rfl rfl rfl (.bool hg)
  have hgood:Zgi g i:=by
    have h9:=hc5
    rw [hgw] at h9
    by_cases hi0:0<i
    · rw [hiw hi0,Int.toNat_natCast] at h9
      simp at h9
      exact ⟨fun _=>by omega,h9.1.2,h9.2⟩
    · have hi1:i=0:=by omega
      subst hi1
      simp at h9
      exact ⟨fun h0=>absurd h0 (Nat.lt_irrefl 0),h9.1,h9.2⟩
  refine wp_skip (Zh (Zb ?_))
  refine Za hS (qp r1 (qM rfl rfl qZ)) hB [57,56,55,5,2,1] [104,103,101,0] rfl rfl fun a w F hS=>Zb ?_
  replace hS:=hS.ent (i:=57) (s':=.pv (.int .i64 ((i+1:Nat):Int))) rfl (.int (wrap_succ (by omega)))
  obtain ⟨F,hS⟩:=hS.nm [56,55,5,2,1,57] [103,101,0] rfl rfl
  exact ⟨(i+1),F,⟨by omega,(fun k hk=>by rcases Nat.lt_or_eq_of_le (Nat.le_of_lt_succ hk) with h9 | h9;exact hq k h9;rw [h9];exact hgood)⟩,hS,by omega⟩
 have hil:i=g.orders.length:=by simp at hc4;omega
 have hg:=ZjM hlong hall (by omega) (by rw [← hil];exact hq)
 refine wp_exit (Zi (Zi (Zo (Zb (wp_seq ?_)))))
 refine Za hS qB hB [2] [103,101,0] rfl rfl fun a w F hS=>Zb (wp_ret ?_)
 refine Zq hfr hS rfl rfl rfl (.bool hg)
def zeroH:Zj:=⟨[],[]⟩
theorem Zs {g:Zj} (h:Zy g):Zb0 TxD.id g.txs∧Zb0 OrdD.key g.orders:=by
 constructor
 · have hi:Ze0 (g.txs.map TxD.id):=Zh2 fun i hi h0=>by
     have hi':i<g.txs.length:=by simpa using hi
     rw [Zcm (by omega),Zcm hi']
     exact (h.2.1 i hi').1 h0
   rw [Zv]
   exact List.pairwise_map.1 hi
 · have h2:=(Zdk g).2 h.2.2
   have hi:Ze0 (g.orders.map OrdD.key):=Zh2 fun i hi h0=>by
     have hi':i<g.orders.length:=by simpa using hi
     rw [Zcm (by omega),Zcm hi']
     exact (h2.2 i hi').1 h0
   rw [Zv]
   exact List.pairwise_map.1 hi
def ZjQ (t:TxD) (v:Zb1):Bool:=decide (v.tx=t.id) && decide ((wcnt t.ops v.key:Int)<v.nth)
def ZjW (t x:TxD):Bool:=decide (x.id≠t.id) && (ZaE x).any (ZjQ t)
def ZeH (g:Zj) (t:TxD):Bool:=g.txs.any (ZjW t)
theorem ZlR {α:Type} [Inhabited α] {p:α→Bool} {l:List α} (h:∀ q,q<l.length→p (Go.Gm.nth l q)=false):l.any p=false:=by
 rw [List.any_eq_false]
 intro x hx
 obtain ⟨k,hk,e⟩:=List.getElem_of_mem hx
 have:=h k hk
 rw [Zp hk,e] at this
 simp [this]
theorem ZlG {α:Type} [Inhabited α] {p:α→Bool} {l:List α} {i:Nat} (hi:i<l.length) (h:p (Go.Gm.nth l i)=true):l.any p=true:=by
 rw [List.any_eq_true]
 exact ⟨_,ZB hi,h⟩
def mayH (g:Zj) (t:TxD) (there:Int) (wanted:Bool):Int×Int:=if ¬ Zy g then (0,5) else if Z1 t≠0 then (0,Z1 t) else if isK TxD.id t.id g.txs≠wanted then (0,there) else if Zbt g t=false then (0,6) else (lowK TxD.id t.id g.txs,0)
def Zaz (g:Zj) (t:TxD):Zj×Int:=if (mayH g t 4 false).2≠0 then (zeroH,(mayH g t 4 false).2) else if g.txs.length=4096 then (zeroH,2) else (⟨g.txs.take (lowK TxD.id t.id g.txs) ++ [t] ++ g.txs.drop (lowK TxD.id t.id g.txs),settleO t g.orders⟩,0)
def Zdq (id:Int):TxD:=⟨id,false,[]⟩
def Zam (g:Zj) (id:Int):Zj×Int:=if ¬ Zy g then (zeroH,5) else if isK TxD.id id g.txs=false then (zeroH,3) else if ZeH g (Zdq id)=true then (zeroH,7) else (⟨g.txs.take (lowK TxD.id id g.txs)++g.txs.drop (lowK TxD.id id g.txs+1),settleO (Zdq id) g.orders⟩,0)
def Za9 (g:Zj) (t:TxD):Zj×Int:=if (mayH g t 3 true).2≠0 then (zeroH,(mayH g t 3 true).2) else if ZeH g t=true then (zeroH,7) else (⟨g.txs.set (lowK TxD.id t.id g.txs) t,settleO t g.orders⟩,0)
theorem ZkG {g:Zj} {t:TxD} {there:Int} {wanted:Bool} (ht:there≠0) (h:(mayH g t there wanted).2=0):Zy g∧Z1 t=0∧isK TxD.id t.id g.txs=wanted∧Zbt g t=true∧(mayH g t there wanted).1=lowK TxD.id t.id g.txs:=by
 unfold mayH at h ⊢
 split at h
 · simp at h
 · rename_i h1
   split at h
   · rename_i h2;exact absurd h h2
   · rename_i h2
     split at h
     · exact absurd h ht
     · rename_i h3
       split at h
       · simp at h
       · rename_i h4
         rw [if_neg h1,if_neg h2,if_neg h3,if_neg h4]
         exact ⟨Decidable.not_not.1 h1,Decidable.not_not.1 h2,Decidable.not_not.1 h3,by simpa using h4,rfl⟩
theorem ZdS {α:Type} [Inhabited α] {κ:α→Int} {k:Int} {l:List α} (hs:Zb0 κ l) (h:isK κ k l=true):lowK κ k l<l.length∧κ (Go.Gm.nth l (lowK κ k l))=k:=by
 obtain ⟨x,hx,hk⟩:=List.any_eq_true.1 h
 obtain ⟨q,hq,e⟩:=List.getElem_of_mem hx
 have hk':κ (Go.Gm.nth l q)=k:=by rw [Zp hq,e];simpa using hk
 have hl:=Zim (κ:=κ) (k:=k) (l:=l) (i:=q) (Nat.le_of_lt hq) (fun p hp=>by have:=hs p q hp hq;omega) (fun p hp hp2=>by have:=ZfW hs hp hp2;omega)
 rw [hl]
 exact ⟨hq,hk'⟩
theorem Znu (g:Zj) (t:TxD) (hs:Zba g.txs) (ht:t.ops.length≤1000):FnP Tryz.prog 97 [.agg (Zn g),.agg (rTx t)] (.bool (ZeH g t)):=by
 refine FnP.mk Tryz.func97 rfl Tryz.ntmps97 rfl ?_
 intro B a w F hB hfr hS
 have hsl:=hs.1
 have hnl:∀ x:TxD,x.ops.length≤1000→(ZaE x).length≤1000:=fun x hx=>by have:=Zhx x.id x.ops x.ops.length;rw [List.take_length] at this;unfold ZaE;omega
 refine wp_seq ?_
 refine Zc hS (qx 101 r1 (qx 102 r1 qB)) hB [4,3,2] [102,101,0] (fun _=>rfl) (fun _=>rfl) fun τ a w F hS=>?_
 try dsimp only [RS.sub,SF.sub,CF.sub,csub,Anc.sub,List.map,zCF,Zn,rTx,Zx,ZO,rInt,rOp] at hS
 generalize τ 2=v2 at hS
 generalize τ 3=v3 at hS
 refine Zb (wp_seq (wp_seq ?_))
 refine Za hS (qg 0 101 r1 r1 (qa 101 r1 r1 (qu Tryz.underlying22 r1 (qJ qZ)))) hB [12,11,10,4,3] [102,101,0] rfl rfl fun a w F hS=>Zb (wp_block ?_)
 refine Zr (σ:=(Nat)) [3,4,10,11] [0,101,102] (fun s=>[(12,.pv (.int .i64 (s:Int)))]) (fun s=>[]) (fun s=>s≤g.txs.length∧(∀ q,q<s→ZjW t (Go.Gm.nth g.txs q)=false)) (fun s=>g.txs.length - s) (0) hS ⟨rfl,rfl,rfl,rfl,rfl,trivial⟩ ⟨rfl,rfl,rfl,trivial⟩ ⟨Nat.zero_le _,fun q hq=>absurd hq (Nat.not_lt_zero q)⟩ ?_
 clear hS;intro i a w F hC hS
 try dsimp only at hC
 obtain ⟨F,hS⟩:=hS.nm [12,11,10,4,3] [102,101,0] rfl rfl
 try dsimp only at hS
 obtain ⟨hi,hq⟩:=hC
 refine wp_seq ?_
 refine Za hS (qL r2) hB [13,12,11,10,4,3] [102,101,0] rfl rfl fun a w F hS=>Zb (wp_seq ?_)
 refine Zd hS rfl (fun hc0=>?_) (fun hc0=>?_)
 ·skip
  have hil:i<g.txs.length:=by simp at hc0;omega
  have hio:=hil
  have hqo:=hq
  have hnl2:=hnl (Go.Gm.nth g.txs i) (by have:=hs.at hio;omega)
  refine wp_skip (Zb (wp_seq (wp_block (wp_seq ?_))))
  refine Zc hS (qy 3 Tryz.underlying22 r2 (qf (oR true 3 .t) r1 qz (qf (oH [.int .i64 0,.bool false,.slice none 0 0] 103) trivial qz (qS 3 103 r2 r1 qZ)))) hB [12,11,10,6,4,3] [103,102,101,0] (fun _=>rfl) (fun _=>rfl) fun τ a w F hS=>?_
  try dsimp only [RS.sub,SF.sub,CF.sub,csub,Anc.sub,List.map,Zf,xL,xM,Nat.reduceAdd,xD,xE,xT,xU,xC,xN,zCF,ldSF,Zn,rTx,Zx,ZO,rInt,rOp] at hS
  generalize τ 6=v6 at hS
  try simp only [Int.toNat_natCast] at hS
  refine Zb (wp_seq ?_)
  refine Za hS (qe 3 103 r1 r1 (qf (oP (ZiN (Go.Gm.nth g.txs i) (by have:=hs.at hio;omega)) Tryz.func60 (Args.one (.pagg .t))) r1 qz (qu Tryz.underlying103 r1 (qJ qZ)))) hB [19,18,17,12,11,10,6,4,3] [103,102,101,0] rfl rfl fun a w F hS=>Zb (wp_block ?_)
  refine Zr (σ:=(Nat)) [3,4,6,10,11,12,17,18] [0,101,102,103] (fun s=>[(19,.pv (.int .i64 (s:Int)))]) (fun s=>[]) (fun s=>s≤(ZaE (Go.Gm.nth g.txs i)).length∧((Go.Gm.nth g.txs i).id≠t.id → ∀ q,q<s→ZjQ t (Go.Gm.nth (ZaE (Go.Gm.nth g.txs i)) q)=false)) (fun s=>(ZaE (Go.Gm.nth g.txs i)).length - s) (0) hS ⟨rfl,rfl,rfl,rfl,rfl,rfl,rfl,rfl,rfl,trivial⟩ ⟨rfl,rfl,rfl,rfl,trivial⟩ ⟨Nat.zero_le _,fun _ q hq=>absurd hq (Nat.not_lt_zero q)⟩ ?_
  clear hS;intro j a w F hC hS
  try dsimp only at hC
  obtain ⟨F,hS⟩:=hS.nm [19,18,17,12,11,10,6,4,3] [103,102,101,0] rfl rfl
  try dsimp only at hS
  obtain ⟨hi,hq⟩:=hC
  have hq2:=hq
  refine wp_seq ?_
  refine Za hS (qL r2) hB [20,19,18,17,12,11,10,6,4,3] [103,102,101,0] rfl rfl fun a w F hS=>Zb (wp_seq ?_)
  refine Zd hS rfl (fun hc1=>?_) (fun hc1=>?_)
  ·skip
   have hil:j<(ZaE (Go.Gm.nth g.txs i)).length:=by simp at hc1;omega
   have hjo:=hil
   refine wp_skip (Zb (wp_seq (wp_block (wp_seq ?_))))
   refine Zc hS (qy 3 Tryz.underlying103 r2 (qf (oR true 3 .t) r1 qz (qf (oH [.int .i64 0,.int .i64 0,.int .i64 0] 104) trivial qz (qS 3 104 r2 r1 qZ)))) hB [19,18,17,12,11,10,8,6,4,3] [104,103,102,101,0] (fun _=>rfl) (fun _=>rfl) fun τ a w F hS=>?_
   try dsimp only [RS.sub,SF.sub,CF.sub,csub,Anc.sub,List.map,Zf,xL,xM,Nat.reduceAdd,xD,xE,xT,xU,xC,xN,zCF,ldSF,Zn,rTx,Zx,ZO,rInt,rOp] at hS
   generalize τ 8=v8 at hS
   try simp only [Int.toNat_natCast] at hS
   refine Zb (wp_seq ?_)
   refine Zz hS (qg 0 103 r1 r1 (qa 103 r1 r1 (qg 0 102 r1 r1 (qa 102 r1 r1 (qf (o_neq .t .t) r2 qz (qM rfl rfl (qv 0 104 rfl r2 r1 (qw 104 rfl r2 r1 (qv 0 102 rfl r2 r1 (qw 102 rfl r2 r1 (qk rfl (fun h=>o_eql (.w h) (.w h)) r3 qz (qf (ZK .t .t) r2 qz (qM rfl rfl (qv 2 104 rfl r2 r1 (qw 104 rfl r2 r1 (qk rfl (fun h=>oL true 3 102 .is) r2 r1 (qv 1 104 rfl r2 r1 (qw 104 rfl r2 r1 (qk rfl (fun h=>oP (ZfU t (Go.Gm.nth (ZaE (Go.Gm.nth g.txs i)) j).key (by omega)) Tryz.func108 (Args.two (.pagg (.w h)) (.w h))) r3 qz (qk rfl (fun h=>ZaR (.w h) (.w h)) r3 qz (qf (ZK .t .t) r2 qz qZ))))))))))))))))))))) hB [43,19,18,17,12,11,10,6,4,3] [104,103,102,101,0] rfl rfl fun a w F hS=>?_
   try dsimp only [List.map,xD,xE,xT,xU,ldSF,Zn,rTx,Zx,ZO,rInt,rOp] at hS
   refine Zb ?_
   refine Zd hS rfl (fun hc2=>?_) (fun hc2=>?_)
   ·skip
    have hg:true=ZeH g t:=(ZlG hio (by
      have h9:=hc2
      simp at h9
      unfold ZjW
      rw [decide_eq_true h9.1.1,Bool.true_and]
      refine ZlG hjo ?_
      unfold ZjQ wcnt
      simp [h9.1.2]
      first | exact h9.2 | (have:=h9.2;omega))).symm
    refine wp_seq ?_
    refine Za hS qB hB [19,18,17,12,11,10,6,4,3] [104,103,102,101,0] rfl rfl fun a w F hS=>Zb (wp_ret (Zg (Ze (Ze (Zg (Zg (Ze (Ze (Zg (Ze ?_))))))))))
    refine Zq hfr hS rfl rfl rfl (.bool hg)
   have hnv:(Go.Gm.nth g.txs i).id≠t.id→ZjQ t (Go.Gm.nth (ZaE (Go.Gm.nth g.txs i)) j)=false:=by
     intro hne
     have h9:=hc2
     unfold ZjQ wcnt
     simp [hne] at h9 ⊢
     first | exact h9 | (intro e;have:=h9 e;omega)
   refine wp_skip (Zh (Zb ?_))
   refine Za hS (qp r1 (qM rfl rfl qZ)) hB [19,18,17,12,11,10,6,4,3] [104,103,102,101,0] rfl rfl fun a w F hS=>Zb ?_
   replace hS:=hS.ent (i:=19) (s':=.pv (.int .i64 ((j+1:Nat):Int))) rfl (.int (wrap_succ (by omega)))
   obtain ⟨F,hS⟩:=hS.nm [18,17,12,11,10,6,4,3,19] [103,102,101,0] rfl rfl
   exact ⟨(j+1),F,⟨by omega,(fun hne q h9=>by rcases Nat.lt_or_eq_of_le (Nat.le_of_lt_succ h9) with h8 | h8;exact hq2 hne q h8;rw [h8];exact hnv hne)⟩,hS,by omega⟩
  have hil:j=(ZaE (Go.Gm.nth g.txs i)).length:=by simp at hc1;omega
  have hno:ZjW t (Go.Gm.nth g.txs i)=false:=by
    unfold ZjW
    by_cases hne:(Go.Gm.nth g.txs i).id≠t.id
    · rw [ZlR (by rw [← hil];exact hq2 hne),Bool.and_false]
    · rw [decide_eq_false hne,Bool.false_and]
  refine wp_exit (Zi (Zi (Zo (Zh (Zb ?_)))))
  refine Za hS (qp r1 (qM rfl rfl qZ)) hB [12,11,10,4,3] [103,102,101,0] rfl rfl fun a w F hS=>Zb ?_
  replace hS:=hS.ent (i:=12) (s':=.pv (.int .i64 ((i+1:Nat):Int))) rfl (.int (wrap_succ (by omega)))
  obtain ⟨F,hS⟩:=hS.nm [11,10,4,3,12] [102,101,0] rfl rfl
  exact ⟨(i+1),F,⟨by omega,(fun q h9=>by rcases Nat.lt_or_eq_of_le (Nat.le_of_lt_succ h9) with h8 | h8;exact hqo q h8;rw [h8];exact hno)⟩,hS,by omega⟩
 have hil:i=g.txs.length:=by simp at hc0;omega
 have hg:false=ZeH g t:=(ZlR (by rw [← hil];exact hq)).symm
 refine wp_exit (Zi (Zi (Zo (Zb (wp_seq ?_)))))
 refine Za hS qB hB [4] [102,101,0] rfl rfl fun a w F hS=>Zb (wp_ret ?_)
 refine Zq hfr hS rfl rfl rfl (.bool hg)
theorem Zr1 (g:Zj) (t:TxD) (there:Int) (wanted:Bool) (hs:Zbo g) (ht:t.ops.length≤1000):FnP Tryz.prog 92 [.agg (Zn g),.agg (rTx t),.int .i64 there,.bool wanted] (.tup [.int .i64 (mayH g t there wanted).1,.int .i64 (mayH g t there wanted).2]):=by
 refine FnP.mk Tryz.func92 rfl Tryz.ntmps92 rfl ?_
 intro B a w F hB hfr hS
 have hsl:=hs.1.1
 refine wp_seq ?_
 refine Zc hS (qx 101 r1 (qx 102 r1 (qI (qI qZ)))) hB [9,8,5,4,3,2] [102,101,0] (fun _=>rfl) (fun _=>rfl) fun τ a w F hS=>?_
 try dsimp only [RS.sub,SF.sub,CF.sub,csub,Anc.sub,List.map,zCF,Zn,rTx,Zx,ZO,rInt,rOp] at hS
 generalize τ 4=v4 at hS
 generalize τ 5=v5 at hS
 refine Zb (wp_seq (wp_seq ?_))
 refine Za hS (qe 2 101 r1 r1 (qf (oP (Zcj g hs) Tryz.func7 (Args.one (.pagg .t))) r1 qz (qf (o_not .t) r1 qz qZ))) hB [15,9,8,5,4,3,2] [102,101,0] rfl rfl fun a w F hS=>Zb ?_
 refine Zd hS rfl (fun hc0=>?_) (fun hc0=>?_)
 ·skip
  have hr:¬ Zy g:=by simpa using hc0
  have hg:mayH g t there wanted=(0,5):=by unfold mayH;rw [if_pos hr]
  refine wp_seq ?_
  refine Za hS (qI (qI qZ)) hB [9,8,5,4,3,2] [102,101,0] rfl rfl fun a w F hS=>Zb (wp_ret (Ze ?_))
  refine Zt hfr hS rfl (.tmp rfl (.tmp rfl .nil)) (.two (.int (by rw [hg])) (.int (by rw [hg])))
 have hr:Zy g:=by simpa using hc0
 have hrr:=Zs hr
 refine wp_skip (Zb (wp_seq (wp_seq ?_)))
 refine Za hS (qe 3 102 r1 r1 (qf (oP (ZiK t) Tryz.func23 (Args.one (.pagg .t))) r1 qz (qN rfl rfl qZ))) hB [10,9,8,5,4,3,2] [102,101,0] rfl rfl fun a w F hS=>Zb (wp_seq ?_)
 refine Za hS (qM rfl rfl (qf (o_neq .t qi) r1 qz qZ)) hB [19,10,9,8,5,4,3,2] [102,101,0] rfl rfl fun a w F hS=>Zb ?_
 refine Zd hS rfl (fun hc1=>?_) (fun hc1=>?_)
 ·skip
  have hrt:Z1 t≠0:=by simpa using hc1
  have hg:mayH g t there wanted=(0,Z1 t):=by unfold mayH;rw [if_neg (Decidable.not_not.2 hr),if_pos hrt]
  refine wp_seq ?_
  refine Za hS (qM rfl rfl (qI (qN rfl rfl qZ))) hB [9,8,5,4,3,2] [102,101,0] rfl rfl fun a w F hS=>Zb (wp_ret (Ze ?_))
  refine Zt hfr hS rfl (.tmp rfl (.tmp rfl .nil)) (.two (.int (by rw [hg])) (.int (by rw [hg])))
 have hrt:¬ Z1 t≠0:=by simpa using hc1
 refine wp_skip (Zb (wp_seq ?_))
 refine Za hS (qe 2 101 r1 r1 (qg 0 102 r1 r1 (qa 102 r1 r1 (qf (oP (Zn4 g t.id hs.1 hrr.1) Tryz.func98 (Args.two (.pagg .t) .t)) r2 qz (qM rfl rfl (qf (o_extract .t rfl) r1 qz (qf (o_extract .t rfl) r1 qz (qN rfl rfl (qN rfl rfl qZ))))))))) hB [12,11,9,8,5,4,3,2] [102,101,0] rfl rfl fun a w F hS=>Zb (wp_seq (wp_block (wp_seq ?_)))
 refine Za hS (qM rfl rfl (qM rfl rfl (qf (Zn8 Tryz.underlying4 .t .t) r2 qz (qN rfl rfl qZ)))) hB [28,11,9,8,5,4,2] [102,101,0] rfl rfl fun a w F hS=>Zb ?_
 refine Zd hS rfl (fun hc2=>?_) (fun hc2=>?_)
 ·skip
  have hwt:isK TxD.id t.id g.txs≠wanted:=by simpa using hc2
  have hg:mayH g t there wanted=(0,there):=by unfold mayH;rw [if_neg (Decidable.not_not.2 hr),if_neg hrt,if_pos hwt]
  refine wp_seq ?_
  refine Za hS (qM rfl rfl (qI (qN rfl rfl qZ))) hB [11,9,8] [102,101,0] rfl rfl fun a w F hS=>Zb (wp_ret (Zg (Ze ?_)))
  refine Zt hfr hS rfl (.tmp rfl (.tmp rfl .nil)) (.two (.int (by rw [hg])) (.int (by rw [hg])))
 have hwt:¬ isK TxD.id t.id g.txs≠wanted:=by simpa using hc2
 refine wp_seq ?_
 refine Za hS (qe 2 101 r1 r1 (qe 3 102 r1 r1 (qf (oP (ZlV g t hs.1 ht) Tryz.func24 (Args.two (.pagg .t) (.pagg .t))) r2 qz (qf (o_not .t) r1 qz (qN rfl rfl qZ))))) hB [33,11,9,8] [102,101,0] rfl rfl fun a w F hS=>Zb ?_
 refine Zd hS rfl (fun hc3=>?_) (fun hc3=>?_)
 ·skip
  have hg:mayH g t there wanted=(0,6):=by unfold mayH;rw [if_neg (Decidable.not_not.2 hr),if_neg hrt,if_neg hwt,if_pos (by simpa using hc3)]
  refine wp_seq ?_
  refine Za hS (qI (qI qZ)) hB [11,9,8] [102,101,0] rfl rfl fun a w F hS=>Zb (wp_ret (Zg (Ze ?_)))
  refine Zt hfr hS rfl (.tmp rfl (.tmp rfl .nil)) (.two (.int (by rw [hg])) (.int (by rw [hg])))
 have hg:mayH g t there wanted=(((lowK TxD.id t.id g.txs:Nat):Int),0):=by unfold mayH;rw [if_neg (Decidable.not_not.2 hr),if_neg hrt,if_neg hwt,if_neg (by simpa using hc3)]
 refine wp_skip (Zh (Zb (wp_seq ?_)))
 refine Za hS (qM rfl rfl (qN rfl rfl (qI qZ))) hB [9,8] [102,101,0] rfl rfl fun a w F hS=>Zb (wp_ret ?_)
 refine Zt hfr hS rfl (.tmp rfl (.tmp rfl .nil)) (.two (.int (by rw [hg])) (.int (by rw [hg])))
theorem ZnC (g:Zj) (t:TxD) (hs:Zbo g) (ht:t.ops.length≤1000):FnP Tryz.prog 51 [.agg (Zn g),.agg (rTx t)] (.tup [.agg (Zn (Zaz g t).1),.int .i64 (Zaz g t).2]):=by
 refine FnP.mk Tryz.func51 rfl Tryz.ntmps51 rfl ?_
 intro B a w F hB hfr hS
 have hsl:=hs.1.1
 refine wp_seq ?_
 refine Zc hS (qx 101 r1 (qx 102 r1 (qf (oH [.slice none 0 0,.slice none 0 0] 103) trivial qz (qI qZ)))) hB [5,4,3,2] [103,102,101,0] (fun _=>rfl) (fun _=>rfl) fun τ a w F hS=>?_
 try dsimp only [RS.sub,SF.sub,CF.sub,csub,Anc.sub,List.map,zCF,Zn,rTx,Zx,ZO,rInt,rOp] at hS
 generalize τ 2=v2 at hS
 generalize τ 3=v3 at hS
 generalize τ 4=v4 at hS
 refine Zb (wp_seq ?_)
 refine Za hS (qe 2 101 r1 r1 (qe 3 102 r1 r1 (qf (oP (Zr1 g t 4 false hs ht) Tryz.func92 (Args.four (.pagg .t) (.pagg .t) qi .cb)) r2 qz (qM rfl rfl (qf (o_extract .t rfl) r1 qz (qf (o_extract .t rfl) r1 qz (qN rfl rfl (qN rfl rfl qZ)))))))) hB [7,6,5,4,3,2] [103,102,101,0] rfl rfl fun a w F hS=>Zb (wp_seq (wp_block (wp_seq ?_)))
 refine Za hS (qM rfl rfl (qf (o_neq .t qi) r1 qz (qN rfl rfl qZ))) hB [15,7,6,5,4,3,2] [103,102,101,0] rfl rfl fun a w F hS=>Zb ?_
 refine Zd hS rfl (fun hc0=>?_) (fun hc0=>?_)
 ·skip
  have hm:(mayH g t 4 false).2≠0:=by simpa using hc0
  have hg:Zaz g t=(zeroH,(mayH g t 4 false).2):=by unfold Zaz;rw [if_pos hm]
  refine wp_seq ?_
  refine Za hS (qf (oB [] [.slice none 0 0,.slice none 0 0] [(0,1),(1,1)] .nil) trivial qz (qM rfl rfl (qs 2 103 r2 r1 (qN rfl rfl qZ)))) hB [6,5,4,3,2] [103,102,101,0] rfl rfl fun a w F hS=>Zb (wp_ret (Zg (Ze ?_)))
  refine Zt hfr hS rfl (.cl 103 true 2 rfl rfl (.tmp rfl .nil)) (.two (by rw [hg];first | exact .aggU rfl rfl | exact .aggLe rfl ⟨PVLe.nilSl,PVLe.nilSl,trivial⟩) (.int (by rw [hg])))
 have hm:¬ (mayH g t 4 false).2≠0:=by simpa using hc0
 obtain ⟨hr,hrt,hik,hnd,hlo⟩:=ZkG (by decide) (Decidable.not_not.1 hm)
 have hrr:=Zs hr
 have hlk:=Zj0 (κ:=TxD.id) (k:=t.id) g.txs
 refine wp_seq ?_
 refine Za hS (qg 0 101 r1 r1 (qa 101 r1 r1 (qu Tryz.underlying22 r1 (qf (o_eql .t qi) r1 qz (qN rfl rfl qZ))))) hB [20,6,5,4,3,2] [103,102,101,0] rfl rfl fun a w F hS=>Zb ?_
 refine Zd hS rfl (fun hc1=>?_) (fun hc1=>?_)
 ·skip
  have hg:Zaz g t=(zeroH,2):=by unfold Zaz;rw [if_neg hm,if_pos (by simp at hc1;omega)]
  refine wp_seq ?_
  refine Za hS (qf (oB [] [.slice none 0 0,.slice none 0 0] [(0,1),(1,1)] .nil) trivial qz (qs 2 103 r2 r1 (qI qZ))) hB [6,5,4,3,2] [103,102,101,0] rfl rfl fun a w F hS=>Zb (wp_ret (Zg (Ze ?_)))
  refine Zt hfr hS rfl (.cl 103 true 2 rfl rfl (.tmp rfl .nil)) (.two (by rw [hg];first | exact .aggU rfl rfl | exact .aggLe rfl ⟨PVLe.nilSl,PVLe.nilSl,trivial⟩) (.int (by rw [hg])))
 have hg:Zaz g t=(⟨g.txs.take (lowK TxD.id t.id g.txs) ++ [t] ++ g.txs.drop (lowK TxD.id t.id g.txs),settleO t g.orders⟩,0):=by unfold Zaz;rw [if_neg hm,if_neg (by simp at hc1;omega)]
 refine wp_skip (Zh (Zb (wp_seq ?_)))
 replace hS:=hS.fresh 104 rfl
 refine Zc hS (qe 2 101 r1 r1 (qf (Zfs 104 (ZhY g hs) Tryz.func93 rfl (by kernel_rfl) (Args.one (.pagg .t))) r1 r1 (qf (oH [.slice none 0 0,.slice none 0 0] 105) trivial qz (qf (oA 2 105 .same (.conv .t (Ent.fnAgg (.fn (.fn .nil))))) r2 r1 qZ)))) hB [8,6,5,4,3] [105,104,103,102,101,0] (fun _=>rfl) (fun _=>rfl) fun τ a w F hS=>?_
 try dsimp only [RS.sub,SF.sub,CF.sub,csub,Anc.sub,List.map,Zf,xL,xM,Nat.reduceAdd,xD,xE,xT,xU,xC,xN,zCF,ldSF,Zn,rTx,Zx,ZO,rInt,rOp] at hS
 generalize τ 8=v8 at hS
 generalize τ 27=v27 at hS
 replace hS:=hS.turn 104 rfl (r':=RS.hp (HP.star [.ob (.val (cellN 0 v27)) (Zu 38 3 rTx g.txs),.ob (.val (cellN 1 v27)) (Zu 41 2 Zx g.orders)])) (fun _ _ _ _ h=>h)
 obtain ⟨F,hS⟩:=hS.peel 104 70 rfl rfl
 obtain ⟨F,hS⟩:=hS.peel 104 71 rfl rfl
 obtain ⟨F,hS⟩:=hS.nm [8,6,5,4,3] [105,103,102,101,71,70,0] rfl rfl
 generalize cellN 0 v27=va at hS
 generalize cellN 1 v27=vb at hS
 refine Zb (wp_seq ?_)
 refine Zcp hS (qg 0 105 r1 r1 (qa 105 r1 r1 (qM rfl rfl (qe 3 102 r1 r1 (qf (oP (Zfv t (by omega)) Tryz.func95 (Args.one (.pagg .t))) r1 qz (qf (Zk (sz:=3) (zs:=[.int .i64 0,.bool false,.slice none 0 0]) (r:=[(0,.tmp 32)]) (l:=[_,_,_]) Tryz.underlying22 (by kernel_rfl) (by kernel_rfl) (by kernel_rfl) (by kernel_rfl) rfl rfl (.agg rfl (.conv .t .agg) (by kernel_rfl) (by kernel_rfl) .nil) rfl) r1 qz (qf (ZbA 70 (Zsz va g.txs (lowK TxD.id t.id g.txs) t (by omega) hlk) Tryz.func94 rfl (by kernel_rfl) (Args.three .t (.conv .t (.int hlo)) (.conv .t (Ent.arrSl (R:=rTx) (l:=[t]) rfl))) ZaO) r3 r1 (qg 0 105 r1 r1 (qf (Zad 105 .adr (by kernel_rfl) (by kernel_rfl)) r2 r1 qZ))))))))) hB [8,5,4,3] [105,103,102,101,71,70,0] (fun _=>rfl) (fun _=>rfl) fun τ a w F hS=>?_
 try dsimp only [RS.sub,SF.sub,CF.sub,csub,Anc.sub,List.map,Zf,xL,xM,Nat.reduceAdd,xD,xE,xT,xU,xC,xN,zCF,ldSF,Zn,rTx,Zx,ZO,rInt,rOp] at hS
 generalize τ 34=v34 at hS
 refine Zb (wp_seq ?_)
 replace hS:=hS.fresh 72 rfl
 obtain ⟨F,hS⟩:=hS.push 72 71 rfl rfl rfl rfl
 obtain ⟨F,hS⟩:=hS.push 72 105 rfl rfl rfl rfl
 replace hS:=hS.turn 72 rfl (r':=RS.hp (Zmv 25 41 v8 v34 g.orders)) (fun _ _ _ _ h=>⟨vb,h⟩)
 obtain ⟨F,hS⟩:=hS.nm [8,5,4,3] [103,102,101,72,70,0] rfl rfl
 refine Za hS (qe 3 102 r1 r1 (qf (o_callG1 72 (Zin v8 v34 g.orders t hs.2 hrr.2 ht) Tryz.func96 rfl (by kernel_rfl) (Args.two .t (.pagg .t))) r2 r1 qZ)) hB [8,5,4] [103,102,101,72,70,0] rfl rfl fun a w F hS=>?_
 replace hS:=hS.turn 72 rfl (r':=RS.hp (HP.ex fun vb:Value=>HP.star [.pt (.val v8) 25 [.pv (.is v34),.pv (.is vb)],.ob (.val vb) (Zu 41 2 Zx (settleO t g.orders))])) (fun _ _ _ _ h=>h)
 obtain ⟨vb2,hS⟩:=hS.open_ex 72 rfl
 obtain ⟨F,hS⟩:=hS.peel 72 73 rfl rfl
 obtain ⟨F,hS⟩:=hS.peel 72 74 rfl rfl
 obtain ⟨F,hS⟩:=hS.nm [8,5,4] [103,102,101,74,73,70,0] rfl rfl
 obtain ⟨F,hS⟩:=hS.giveCell 70 73 0 rfl rfl rfl rfl rfl
 try dsimp only [List.set] at hS
 obtain ⟨F,hS⟩:=hS.nm [8,5,4] [103,102,101,74,73,0] rfl rfl
 obtain ⟨F,hS⟩:=hS.giveCell 74 73 1 rfl rfl rfl rfl rfl
 try dsimp only [List.set] at hS
 obtain ⟨F,hS⟩:=hS.nm [8,5,4] [103,102,101,73,0] rfl rfl
 refine Zb (wp_seq ?_)
 refine Za hS (qe 2 73 r1 r1 (qs 2 103 r2 r1 (qI qZ))) hB [5,4] [103,102,101,73,0] rfl rfl fun a w F hS=>Zb (wp_ret ?_)
 refine Zt hfr hS rfl (.cl 103 true 2 rfl rfl (.tmp rfl .nil)) (.two (by rw [hg];first | exact .aggU rfl rfl | exact .aggLe rfl ⟨PVLe.nilSl,PVLe.nilSl,trivial⟩) (.int (by rw [hg])))
theorem ZoI (g:Zj) (id:Int) (hs:Zbo g):FnP Tryz.prog 53 [.agg (Zn g),.int .i64 id] (.tup [.agg (Zn (Zam g id).1),.int .i64 (Zam g id).2]):=by
 refine FnP.mk Tryz.func53 rfl Tryz.ntmps53 rfl ?_
 intro B a w F hB hfr hS
 have hsl:=hs.1.1
 refine wp_seq ?_
 refine Zc hS (qx 101 r1 (qf (oH [.slice none 0 0,.slice none 0 0] 102) trivial qz (qI qZ))) hB [5,4,2,1] [102,101,0] (fun _=>rfl) (fun _=>rfl) fun τ a w F hS=>?_
 try dsimp only [RS.sub,SF.sub,CF.sub,csub,Anc.sub,List.map,zCF,Zn,rTx,Zx,ZO,rInt,rOp] at hS
 generalize τ 2=v2 at hS
 generalize τ 4=v4 at hS
 refine Zb (wp_seq (wp_seq ?_))
 refine Za hS (qe 2 101 r1 r1 (qf (oP (Zcj g hs) Tryz.func7 (Args.one (.pagg .t))) r1 qz (qf (o_not .t) r1 qz qZ))) hB [11,5,4,2,1] [102,101,0] rfl rfl fun a w F hS=>Zb ?_
 refine Zd hS rfl (fun hc0=>?_) (fun hc0=>?_)
 ·skip
  have hr:¬ Zy g:=by simpa using hc0
  have hg:Zam g id=(zeroH,5):=by unfold Zam;rw [if_pos hr]
  refine wp_seq ?_
  refine Za hS (qf (oB [] [.slice none 0 0,.slice none 0 0] [(0,1),(1,1)] .nil) trivial qz (qs 2 102 r2 r1 (qI qZ))) hB [5,4,2,1] [102,101,0] rfl rfl fun a w F hS=>Zb (wp_ret (Ze ?_))
  refine Zt hfr hS rfl (.cl 102 true 2 rfl rfl (.tmp rfl .nil)) (.two (by rw [hg];first | exact .aggU rfl rfl | exact .aggLe rfl ⟨PVLe.nilSl,PVLe.nilSl,trivial⟩) (.int (by rw [hg])))
 have hr:Zy g:=by simpa using hc0
 have hrr:=Zs hr
 refine wp_skip (Zb (wp_seq ?_))
 refine Za hS (qe 2 101 r1 r1 (qM rfl rfl (qf (oP (Zn4 g id hs.1 hrr.1) Tryz.func98 (Args.two (.pagg .t) .t)) r2 qz (qM rfl rfl (qf (o_extract .t rfl) r1 qz (qf (o_extract .t rfl) r1 qz (qN rfl rfl (qN rfl rfl qZ)))))))) hB [7,6,5,4,2,1] [102,101,0] rfl rfl fun a w F hS=>Zb (wp_seq (wp_block (wp_seq ?_)))
 refine Za hS (qM rfl rfl (qf (o_not .t) r1 qz (qN rfl rfl qZ))) hB [19,6,5,4,2,1] [102,101,0] rfl rfl fun a w F hS=>Zb ?_
 refine Zd hS rfl (fun hc1=>?_) (fun hc1=>?_)
 ·skip
  have hik:isK TxD.id id g.txs=false:=by simpa using hc1
  have hg:Zam g id=(zeroH,3):=by unfold Zam;rw [if_neg (Decidable.not_not.2 hr),if_pos hik]
  refine wp_seq ?_
  refine Za hS (qf (oB [] [.slice none 0 0,.slice none 0 0] [(0,1),(1,1)] .nil) trivial qz (qs 2 102 r2 r1 (qI qZ))) hB [6,5,4,2,1] [102,101,0] rfl rfl fun a w F hS=>Zb (wp_ret (Zg (Ze ?_)))
  refine Zt hfr hS rfl (.cl 102 true 2 rfl rfl (.tmp rfl .nil)) (.two (by rw [hg];first | exact .aggU rfl rfl | exact .aggLe rfl ⟨PVLe.nilSl,PVLe.nilSl,trivial⟩) (.int (by rw [hg])))
 have hik:isK TxD.id id g.txs=true:=by simpa using hc1
 have hlk:=(ZdS hrr.1 hik).1
 refine wp_seq ?_
 refine Za hS (qe 2 101 r1 r1 (qM rfl rfl (qf (oB [(0,.tmp 25)] [.int .i64 0,.bool false,.slice none 0 0] [(0,1),(1,1),(2,1)] (.one rfl .t one_int (by kernel_rfl) .nil)) r1 qz (qf (oP (Znu g (Zdq id) hs.1 (by simp [Zdq])) Tryz.func97 (Args.two (.pagg .t) (.conv (.pagg .t) (Ent.paggLe (l:=[.int .i64 id,.bool false,.is (.slice none 0 0)]) (l':=[.int .i64 id,.bool false,.sl rOp []]) ⟨PVLe.refl,PVLe.refl,PVLe.nilSl,trivial⟩)))) r2 qz (qN rfl rfl qZ))))) hB [23,6,5,4,2,1] [102,101,0] rfl rfl fun a w F hS=>Zb ?_
 refine Zd hS rfl (fun hc2=>?_) (fun hc2=>?_)
 ·skip
  have hg:Zam g id=(zeroH,7):=by unfold Zam;rw [if_neg (Decidable.not_not.2 hr),if_neg (by rw [hik];simp),if_pos (by simpa using hc2)]
  refine wp_seq ?_
  refine Za hS (qf (oB [] [.slice none 0 0,.slice none 0 0] [(0,1),(1,1)] .nil) trivial qz (qs 2 102 r2 r1 (qI qZ))) hB [6,5,4,2,1] [102,101,0] rfl rfl fun a w F hS=>Zb (wp_ret (Zg (Ze ?_)))
  refine Zt hfr hS rfl (.cl 102 true 2 rfl rfl (.tmp rfl .nil)) (.two (by rw [hg];first | exact .aggU rfl rfl | exact .aggLe rfl ⟨PVLe.nilSl,PVLe.nilSl,trivial⟩) (.int (by rw [hg])))
 have hg:Zam g id=(⟨g.txs.take (lowK TxD.id id g.txs)++g.txs.drop (lowK TxD.id id g.txs+1),settleO (Zdq id) g.orders⟩,0):=by unfold Zam;rw [if_neg (Decidable.not_not.2 hr),if_neg (by rw [hik];simp),if_neg (by simpa using hc2)]
 refine wp_skip (Zh (Zb (wp_seq ?_)))
 replace hS:=hS.fresh 103 rfl
 refine Zc hS (qe 2 101 r1 r1 (qf (Zfs 103 (ZhY g hs) Tryz.func93 rfl (by kernel_rfl) (Args.one (.pagg .t))) r1 r1 (qf (oH [.slice none 0 0,.slice none 0 0] 104) trivial qz (qf (oA 2 104 .same (.conv .t (Ent.fnAgg (.fn (.fn .nil))))) r2 r1 qZ)))) hB [8,6,5,4,1] [104,103,102,101,0] (fun _=>rfl) (fun _=>rfl) fun τ a w F hS=>?_
 try dsimp only [RS.sub,SF.sub,CF.sub,csub,Anc.sub,List.map,Zf,xL,xM,Nat.reduceAdd,xD,xE,xT,xU,xC,xN,zCF,ldSF,Zn,rTx,Zx,ZO,rInt,rOp] at hS
 generalize τ 8=v8 at hS
 generalize τ 30=v30 at hS
 replace hS:=hS.turn 103 rfl (r':=RS.hp (HP.star [.ob (.val (cellN 0 v30)) (Zu 38 3 rTx g.txs),.ob (.val (cellN 1 v30)) (Zu 41 2 Zx g.orders)])) (fun _ _ _ _ h=>h)
 obtain ⟨F,hS⟩:=hS.peel 103 70 rfl rfl
 obtain ⟨F,hS⟩:=hS.peel 103 71 rfl rfl
 obtain ⟨F,hS⟩:=hS.nm [8,6,5,4,1] [104,102,101,71,70,0] rfl rfl
 generalize cellN 0 v30=va at hS
 generalize cellN 1 v30=vb at hS
 refine Zb (wp_seq ?_)
 refine Zc hS (qg 0 104 r1 r1 (qa 104 r1 r1 (qM rfl rfl (qM rfl rfl (qp r1 (qf (ZbA 70 (Zr5 va g.txs (lowK TxD.id id g.txs) (by omega) hlk) Tryz.func99 rfl (by kernel_rfl) (Args.three .t .t (.conv .t (.int (wrap_succ (by omega))))) ZaO) r3 r1 (qg 0 104 r1 r1 (qf (Zad 104 .adr (by kernel_rfl) (by kernel_rfl)) r2 r1 qZ)))))))) hB [8,5,4,1] [104,102,101,71,70,0] (fun _=>rfl) (fun _=>rfl) fun τ a w F hS=>?_
 try dsimp only [RS.sub,SF.sub,CF.sub,csub,Anc.sub,List.map,Zf,xL,xM,Nat.reduceAdd,xD,xE,xT,xU,xC,xN,zCF,ldSF,Zn,rTx,Zx,ZO,rInt,rOp] at hS
 generalize τ 36=v36 at hS
 refine Zb (wp_seq ?_)
 replace hS:=hS.fresh 72 rfl
 obtain ⟨F,hS⟩:=hS.push 72 71 rfl rfl rfl rfl
 obtain ⟨F,hS⟩:=hS.push 72 104 rfl rfl rfl rfl
 replace hS:=hS.turn 72 rfl (r':=RS.hp (Zmv 25 41 v8 v36 g.orders)) (fun _ _ _ _ h=>⟨vb,h⟩)
 obtain ⟨F,hS⟩:=hS.nm [8,5,4,1] [102,101,72,70,0] rfl rfl
 refine Za hS (qM rfl rfl (qf (oB [(0,.tmp 38)] [.int .i64 0,.bool false,.slice none 0 0] [(0,1),(1,1),(2,1)] (.one rfl .t one_int (by kernel_rfl) .nil)) r1 qz (qf (o_callG1 72 (Zin v8 v36 g.orders (Zdq id) hs.2 hrr.2 (by simp [Zdq])) Tryz.func96 rfl (by kernel_rfl) (Args.two .t (.conv (.pagg .t) (Ent.paggLe (l:=[.int .i64 id,.bool false,.is (.slice none 0 0)]) (l':=[.int .i64 id,.bool false,.sl rOp []]) ⟨PVLe.refl,PVLe.refl,PVLe.nilSl,trivial⟩)))) r2 r1 qZ))) hB [8,5,4] [102,101,72,70,0] rfl rfl fun a w F hS=>?_
 replace hS:=hS.turn 72 rfl (r':=RS.hp (HP.ex fun vb:Value=>HP.star [.pt (.val v8) 25 [.pv (.is v36),.pv (.is vb)],.ob (.val vb) (Zu 41 2 Zx (settleO (Zdq id) g.orders))])) (fun _ _ _ _ h=>h)
 obtain ⟨vb2,hS⟩:=hS.open_ex 72 rfl
 obtain ⟨F,hS⟩:=hS.peel 72 73 rfl rfl
 obtain ⟨F,hS⟩:=hS.peel 72 74 rfl rfl
 obtain ⟨F,hS⟩:=hS.nm [8,5,4] [102,101,74,73,70,0] rfl rfl
 obtain ⟨F,hS⟩:=hS.giveCell 70 73 0 rfl rfl rfl rfl rfl
 try dsimp only [List.set] at hS
 obtain ⟨F,hS⟩:=hS.nm [8,5,4] [102,101,74,73,0] rfl rfl
 obtain ⟨F,hS⟩:=hS.giveCell 74 73 1 rfl rfl rfl rfl rfl
 try dsimp only [List.set] at hS
 obtain ⟨F,hS⟩:=hS.nm [8,5,4] [102,101,73,0] rfl rfl
 refine Zb (wp_seq ?_)
 refine Za hS (qe 2 73 r1 r1 (qs 2 102 r2 r1 (qI qZ))) hB [5,4] [102,101,73,0] rfl rfl fun a w F hS=>Zb (wp_ret ?_)
 refine Zt hfr hS rfl (.cl 102 true 2 rfl rfl (.tmp rfl .nil)) (.two (by rw [hg];first | exact .aggU rfl rfl | exact .aggLe rfl ⟨PVLe.nilSl,PVLe.nilSl,trivial⟩) (.int (by rw [hg])))
theorem Zp5 (g:Zj) (t:TxD) (hs:Zbo g) (ht:t.ops.length≤1000):FnP Tryz.prog 52 [.agg (Zn g),.agg (rTx t)] (.tup [.agg (Zn (Za9 g t).1),.int .i64 (Za9 g t).2]):=by
 refine FnP.mk Tryz.func52 rfl Tryz.ntmps52 rfl ?_
 intro B a w F hB hfr hS
 have hsl:=hs.1.1
 refine wp_seq ?_
 refine Zc hS (qx 101 r1 (qx 102 r1 (qf (oH [.slice none 0 0,.slice none 0 0] 103) trivial qz (qI qZ)))) hB [5,4,3,2] [103,102,101,0] (fun _=>rfl) (fun _=>rfl) fun τ a w F hS=>?_
 try dsimp only [RS.sub,SF.sub,CF.sub,csub,Anc.sub,List.map,zCF,Zn,rTx,Zx,ZO,rInt,rOp] at hS
 generalize τ 2=v2 at hS
 generalize τ 3=v3 at hS
 generalize τ 4=v4 at hS
 refine Zb (wp_seq ?_)
 refine Za hS (qe 2 101 r1 r1 (qe 3 102 r1 r1 (qf (oP (Zr1 g t 3 true hs ht) Tryz.func92 (Args.four (.pagg .t) (.pagg .t) qi .cb)) r2 qz (qM rfl rfl (qf (o_extract .t rfl) r1 qz (qf (o_extract .t rfl) r1 qz (qN rfl rfl (qN rfl rfl qZ)))))))) hB [7,6,5,4,3,2] [103,102,101,0] rfl rfl fun a w F hS=>Zb (wp_seq (wp_block (wp_seq ?_)))
 refine Za hS (qM rfl rfl (qf (o_neq .t qi) r1 qz (qN rfl rfl qZ))) hB [15,7,6,5,4,3,2] [103,102,101,0] rfl rfl fun a w F hS=>Zb ?_
 refine Zd hS rfl (fun hc0=>?_) (fun hc0=>?_)
 ·skip
  have hm:(mayH g t 3 true).2≠0:=by simpa using hc0
  have hg:Za9 g t=(zeroH,(mayH g t 3 true).2):=by unfold Za9;rw [if_pos hm]
  refine wp_seq ?_
  refine Za hS (qf (oB [] [.slice none 0 0,.slice none 0 0] [(0,1),(1,1)] .nil) trivial qz (qM rfl rfl (qs 2 103 r2 r1 (qN rfl rfl qZ)))) hB [6,5,4,3,2] [103,102,101,0] rfl rfl fun a w F hS=>Zb (wp_ret (Zg (Ze ?_)))
  refine Zt hfr hS rfl (.cl 103 true 2 rfl rfl (.tmp rfl .nil)) (.two (by rw [hg];first | exact .aggU rfl rfl | exact .aggLe rfl ⟨PVLe.nilSl,PVLe.nilSl,trivial⟩) (.int (by rw [hg])))
 have hm:¬ (mayH g t 3 true).2≠0:=by simpa using hc0
 obtain ⟨hr,hrt,hik,hnd,hlo⟩:=ZkG (by decide) (Decidable.not_not.1 hm)
 have hrr:=Zs hr
 have hlk:=Zj0 (κ:=TxD.id) (k:=t.id) g.txs
 refine wp_seq ?_
 refine Za hS (qe 2 101 r1 r1 (qe 3 102 r1 r1 (qf (oP (Znu g t hs.1 ht) Tryz.func97 (Args.two (.pagg .t) (.pagg .t))) r2 qz (qN rfl rfl qZ)))) hB [20,6,5,4,3,2] [103,102,101,0] rfl rfl fun a w F hS=>Zb ?_
 refine Zd hS rfl (fun hc1=>?_) (fun hc1=>?_)
 ·skip
  have hg:Za9 g t=(zeroH,7):=by unfold Za9;rw [if_neg hm,if_pos (by simpa using hc1)]
  refine wp_seq ?_
  refine Za hS (qf (oB [] [.slice none 0 0,.slice none 0 0] [(0,1),(1,1)] .nil) trivial qz (qs 2 103 r2 r1 (qI qZ))) hB [6,5,4,3,2] [103,102,101,0] rfl rfl fun a w F hS=>Zb (wp_ret (Zg (Ze ?_)))
  refine Zt hfr hS rfl (.cl 103 true 2 rfl rfl (.tmp rfl .nil)) (.two (by rw [hg];first | exact .aggU rfl rfl | exact .aggLe rfl ⟨PVLe.nilSl,PVLe.nilSl,trivial⟩) (.int (by rw [hg])))
 have hlt:=(ZdS hrr.1 hik).1
 have hg:Za9 g t=(⟨g.txs.set (((mayH g t 3 true).1).toNat) t,settleO t g.orders⟩,0):=by unfold Za9;rw [if_neg hm,if_neg (by simpa using hc1),hlo,Int.toNat_natCast]
 refine wp_skip (Zh (Zb (wp_seq ?_)))
 replace hS:=hS.fresh 104 rfl
 refine Zc hS (qe 2 101 r1 r1 (qf (Zfs 104 (ZhY g hs) Tryz.func93 rfl (by kernel_rfl) (Args.one (.pagg .t))) r1 r1 (qf (oH [.slice none 0 0,.slice none 0 0] 105) trivial qz (qf (oA 2 105 .same (.conv .t (Ent.fnAgg (.fn (.fn .nil))))) r2 r1 qZ)))) hB [8,6,5,4,3] [105,104,103,102,101,0] (fun _=>rfl) (fun _=>rfl) fun τ a w F hS=>?_
 try dsimp only [RS.sub,SF.sub,CF.sub,csub,Anc.sub,List.map,Zf,xL,xM,Nat.reduceAdd,xD,xE,xT,xU,xC,xN,zCF,ldSF,Zn,rTx,Zx,ZO,rInt,rOp] at hS
 generalize τ 8=v8 at hS
 generalize τ 26=v26 at hS
 replace hS:=hS.turn 104 rfl (r':=RS.hp (HP.star [.ob (.val (cellN 0 v26)) (Zu 38 3 rTx g.txs),.ob (.val (cellN 1 v26)) (Zu 41 2 Zx g.orders)])) (fun _ _ _ _ h=>h)
 obtain ⟨F,hS⟩:=hS.peel 104 70 rfl rfl
 obtain ⟨F,hS⟩:=hS.peel 104 71 rfl rfl
 obtain ⟨F,hS⟩:=hS.nm [8,6,5,4,3] [105,103,102,101,71,70,0] rfl rfl
 generalize cellN 0 v26=va at hS
 generalize cellN 1 v26=vb at hS
 refine Zb (wp_seq ?_)
 refine Zz hS (qg 0 105 r1 r1 (qa 105 r1 r1 (qM rfl rfl (qe 3 102 r1 r1 (qf (oP (Zfv t (by omega)) Tryz.func95 (Args.one (.pagg .t))) r1 qz (qf (o_indexAddr_row (sz:=3) 70 (.mk Tryz.underlying22 (by kernel_rfl)) .is .t (by rw [hlo];omega) (by rw [hlo];omega) (by rfl)) r2 r1 (qf (ZdM (sz:=3) 70 .t (by intro x;rfl) (by rw [hlo];omega) .t (by kernel_rfl)) r2 r1 qZ))))))) hB [8,5,4,3] [105,103,102,101,71,70,0] rfl rfl fun a w F hS=>?_
 try dsimp only [List.map,Zf,xL,xM,Nat.reduceAdd,xD,xE,xT,xU,xC,xN,zCF,ldSF,Zn,rTx,Zx,ZO,rInt,rOp] at hS
 try simp only [Int.toNat_natCast] at hS
 refine Zb (wp_seq ?_)
 replace hS:=hS.fresh 72 rfl
 obtain ⟨F,hS⟩:=hS.push 72 71 rfl rfl rfl rfl
 obtain ⟨F,hS⟩:=hS.push 72 105 rfl rfl rfl rfl
 replace hS:=hS.turn 72 rfl (r':=RS.hp (Zmv 25 41 v8 va g.orders)) (fun _ _ _ _ h=>⟨vb,h⟩)
 obtain ⟨F,hS⟩:=hS.nm [8,5,4,3] [103,102,101,72,70,0] rfl rfl
 refine Za hS (qe 3 102 r1 r1 (qf (o_callG1 72 (Zin v8 va g.orders t hs.2 hrr.2 ht) Tryz.func96 rfl (by kernel_rfl) (Args.two .t (.pagg .t))) r2 r1 qZ)) hB [8,5,4] [103,102,101,72,70,0] rfl rfl fun a w F hS=>?_
 replace hS:=hS.turn 72 rfl (r':=RS.hp (HP.ex fun vb:Value=>HP.star [.pt (.val v8) 25 [.pv (.is va),.pv (.is vb)],.ob (.val vb) (Zu 41 2 Zx (settleO t g.orders))])) (fun _ _ _ _ h=>h)
 obtain ⟨vb2,hS⟩:=hS.open_ex 72 rfl
 obtain ⟨F,hS⟩:=hS.peel 72 73 rfl rfl
 obtain ⟨F,hS⟩:=hS.peel 72 74 rfl rfl
 obtain ⟨F,hS⟩:=hS.nm [8,5,4] [103,102,101,74,73,70,0] rfl rfl
 obtain ⟨F,hS⟩:=hS.giveCell 70 73 0 rfl rfl rfl rfl rfl
 try dsimp only [List.set] at hS
 obtain ⟨F,hS⟩:=hS.nm [8,5,4] [103,102,101,74,73,0] rfl rfl
 obtain ⟨F,hS⟩:=hS.giveCell 74 73 1 rfl rfl rfl rfl rfl
 try dsimp only [List.set] at hS
 obtain ⟨F,hS⟩:=hS.nm [8,5,4] [103,102,101,73,0] rfl rfl
 refine Zb (wp_seq ?_)
 refine Za hS (qe 2 73 r1 r1 (qs 2 103 r2 r1 (qI qZ))) hB [5,4] [103,102,101,73,0] rfl rfl fun a w F hS=>Zb (wp_ret ?_)
 refine Zt hfr hS rfl (.cl 103 true 2 rfl rfl (.tmp rfl .nil)) (.two (by rw [hg];first | exact .aggU rfl rfl | exact .aggLe rfl ⟨PVLe.nilSl,PVLe.nilSl,trivial⟩) (.int (by rw [hg])))
theorem Zln (l:List Int):FnP Tryz.prog 80 [.sl rInt l] (.bool (decide (ZaX l))):=by
 refine FnP.mk Tryz.func80 rfl Tryz.ntmps80 rfl ?_
 intro B a w F hB hfr hS
 have hll:=Sat.lenSl hS (i:=0) rfl
 refine wp_seq ?_
 refine Za hS qB hB [2,0] [0] rfl rfl fun a w F hS=>Zb (wp_seq ?_)
 refine Zc hS (qf (Zow (vk:=.i64) (ok:=(fun _=>True)) (kv:=(fun n:Int=>Value.int .i64 n)) 101) trivial qz (qN rfl rfl qZ)) hB [3,2,0] [101,0] (fun _=>rfl) (fun _=>rfl) fun τ a w F hS=>?_
 try dsimp only [RS.sub,SF.sub,CF.sub,csub,Anc.sub,List.map,Zf,xL,xM,Nat.reduceAdd,xD,xE,xT,xU,xC,xN,zCF,rInt] at hS
 generalize τ 6=v6 at hS
 refine Zb (wp_seq (wp_seq ?_))
 refine Za hS (qM rfl rfl (qu Tryz.underlying39 r1 (qJ qZ))) hB [9,8,7,3,2] [101,0] rfl rfl fun a w F hS=>Zb (wp_block ?_)
 refine Zr (σ:=(Nat)×(List (Zce Int))×(Nat)) [2,3,7,8] [0] (fun s=>[(9,.pv (.int .i64 (s.1:Int)))]) (fun s=>[(101,.ob (.val v6) (Zro .i64 (fun _=>True) (fun n:Int=>Value.int .i64 n) s.2.1 s.2.2))]) (fun s=>s.1≤l.length∧(ZaX (l.take s.1) ∧ ∀ x,mVal x s.2.1=if x ∈ l.take s.1 then 1 else 0)) (fun s=>l.length - s.1) ((0),([]),(0)) hS ⟨rfl,rfl,rfl,rfl,rfl,trivial⟩ ⟨rfl,rfl,trivial⟩ ⟨Nat.zero_le _,⟨⟨by simp,by simp⟩,fun x=>by simp [mVal]⟩⟩ ?_
 clear hS;intro s a w F hC hS
 obtain ⟨i,es,ck⟩:=s
 try dsimp only at hC
 obtain ⟨F,hS⟩:=hS.nm [9,8,7,3,2] [101,0] rfl rfl
 try dsimp only at hS
 obtain ⟨hi,hq⟩:=hC
 obtain ⟨hro,hmv⟩:=hq
 have htk:∀ hil:i<l.length,l.take (i+1)=l.take i ++ [Go.Gm.nth l i]:=fun hil=>ZE hil
 have hv1:∀ x,0≤mVal x es∧mVal x es≤1:=fun x=>by rw [hmv];split <;> omega
 have hv2:mVal (Go.Gm.nth l i) es=if Go.Gm.nth l i ∈ l.take i then 1 else 0:=hmv _
 refine wp_seq ?_
 refine Za hS (qL r2) hB [10,9,8,7,3,2] [101,0] rfl rfl fun a w F hS=>Zb (wp_seq ?_)
 refine Zd hS rfl (fun hc0=>?_) (fun hc0=>?_)
 ·skip
  have hil:i<l.length:=by simp at hc0;omega
  refine wp_skip (Zb (wp_seq (wp_block (wp_seq ?_))))
  refine Za hS (qy 1 Tryz.underlying39 r2 (qf (oR false 1 .t) r1 qz (qN rfl rfl qZ))) hB [9,8,7,5,3,2] [101,0] rfl rfl fun a w F hS=>?_
  try simp only [Int.toNat_natCast] at hS
  refine Zb (wp_seq ?_)
  refine Za hS (qM rfl rfl (qM rfl rfl (qf (ZkP 101 Tryz.underlying187 (Zkf Tryz.underlying3) (by kernel_rfl) .is (Z6.int .t rfl)) r2 r1 (qp r1 (qf (Zks 101 Tryz.underlying187 (Zkf Tryz.underlying3) .is (Z6.int .t rfl) .t) r3 r1 qZ))))) hB [9,8,7,5,3,2] [101,0] rfl rfl fun a w F hS=>Zb (wp_seq ?_)
  refine Za hS (qM rfl rfl (qf (Zbq .t qi) r1 qz (qM rfl rfl (qm rfl rfl rfl rfl (qk rfl (fun h=>ZaR (.w h) qi) r2 qz (qf (Zao .t .t) r2 qz (qM rfl rfl (qm rfl rfl rfl rfl (qm rfl rfl rfl rfl (qk rfl (fun h=>ZkP 101 Tryz.underlying187 (Zkf Tryz.underlying3) (by kernel_rfl) (.w h .is) (Z6.int (.w h) rfl)) r3 r1 (qk rfl (fun h=>ZaR (.w h) qi) r2 qz (qf (Zao .t .t) r2 qz qZ)))))))))))) hB [28,9,8,7,3,2] [101,0] rfl rfl fun a w F hS=>Zb ?_
  refine Zd hS rfl (fun hc1=>?_) (fun hc1=>?_)
  ·skip
   have hg:false=decide (ZaX l):=(decide_eq_false fun hr=>by have h2:=hr.take (i+1);rw [htk hil] at h2;have h3:=ZaX.snoc.1 h2;have h4:=h3.2.1;have h5:=h3.2.2;rw [if_neg h5] at hv2;simp [Zhz,hv2] at hc1;first | omega | (rw [show IntKind.wrap .i64 1=1 by decide] at hc1;omega)).symm
   refine wp_seq ?_
   refine Za hS qB hB [9,8,7,3,2] [101,0] rfl rfl fun a w F hS=>Zb (wp_ret (Zg (Ze (Ze (Zg (Ze ?_))))))
   refine Zq hfr hS rfl rfl rfl (.bool hg)
  have hw1:IntKind.wrap .i64 (mVal (Go.Gm.nth l i) es+1)=mVal (Go.Gm.nth l i) es+1:=ZC (by have:=hv1 (Go.Gm.nth l i);omega)
  have hR2:ZaX (l.take (i+1)) ∧ ∀ x,mVal x (mPut (Go.Gm.nth l i) (IntKind.wrap .i64 (mVal (Go.Gm.nth l i) es+1)) (es,ck)).1=if x ∈ l.take (i+1) then 1 else 0:=by
    have hh:=hc1
    simp [Zhz,hw1] at hh
    have hni:Go.Gm.nth l i ∉ l.take i:=fun hm=>by rw [if_pos hm] at hv2;omega
    rw [if_neg hni] at hv2
    refine ⟨by rw [htk hil];exact ZaX.snoc.2 ⟨hro,by omega,hni⟩,fun x=>?_⟩
    rw [Zhz,hw1,hv2,hmv,htk hil]
    by_cases hx:x=Go.Gm.nth l i
    · subst hx;simp
    · simp [hx]
  generalize (mPut (Go.Gm.nth l i) (IntKind.wrap .i64 (mVal (Go.Gm.nth l i) es+1)) (es,ck))=ms at hS hR2
  obtain ⟨es2,ck2⟩:=ms
  dsimp only at hS hR2
  refine wp_skip (Zh (Zb ?_))
  refine Za hS (qp r1 (qM rfl rfl qZ)) hB [9,8,7,3,2] [101,0] rfl rfl fun a w F hS=>Zb ?_
  replace hS:=hS.ent (i:=9) (s':=.pv (.int .i64 ((i+1:Nat):Int))) rfl (.int (wrap_succ (by omega)))
  obtain ⟨F,hS⟩:=hS.nm [8,7,3,2,9] [0,101] rfl rfl
  exact ⟨((i+1),(es2),(ck2)),F,⟨by omega,hR2⟩,hS,by omega⟩
 have hil:i=l.length:=by simp at hc0;omega
 have hg:true=decide (ZaX l):=(decide_eq_true (by rw [hil,List.take_length] at hro;exact hro)).symm
 refine wp_exit (Zi (Zi (Zo (Zb (wp_seq ?_)))))
 refine Za hS qB hB [2] [101,0] rfl rfl fun a w F hS=>Zb (wp_ret ?_)
 refine Zq hfr hS rfl rfl rfl (.bool hg)
end Go.Proofs.YtjhapicamnijnaaGreatDoor
