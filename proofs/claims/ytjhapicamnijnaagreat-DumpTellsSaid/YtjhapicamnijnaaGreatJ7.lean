/- Texts put together. No condition beyond those that each theorem says. -/
import Derived.Test.YtjhapicamnijnaaGreatJ6
import Derived.Test.YtjhapicamnijnaaGreatJ4
import Derived.Test.YtjhapicamnijnaaGreatJ5
import Derived.Test.YtjhapicamnijnaaGreatJ0
import Derived.Test.YtjhapicamnijnaaGreatJ2
import Derived.Test.YtjhapicamnijnaaGreatJ1
namespace Go.Proofs.YtjhapicamnijnaaGreat
open Go Go.Gm
set_option linter.unusedVariables false
set_option linter.unusedSimpArgs false
set_option maxHeartbeats 4000000
set_option maxRecDepth 8000
theorem Zdl {l:List TxD} {id:Int} : (ZaW l id).isSome=isK TxD.id id l:=by
 unfold ZaW isK
 rw [Bool.eq_iff_iff,List.find?_isSome,List.any_eq_true]
theorem Zc2 {g:HistD} (h:ZB g):NE g.orders:=fun o ho=>by
 have h2:=(ZcR g).2 h.2.2
 obtain ⟨j,hj,e⟩:=List.getElem_of_mem ho
 have:=(h2.2 j hj).2.1
 rwa [Zq hj,e] at this
theorem ZpK {g:HistD} {t:TxD} {there:Int} {wanted:Bool} (h:¬ ZB g):mayH g t there wanted=(0,5):=if_pos h
theorem ZpL {g:HistD} {t:TxD} {there:Int} {wanted:Bool} (h:ZB g) (h2:ZT t≠0):mayH g t there wanted=(0,ZT t):=by unfold mayH;rw [if_neg (Decidable.not_not.2 h),if_pos h2]
theorem ZpU {g:HistD} {t:TxD} {there:Int} {wanted:Bool} (h:ZB g) (h2:ZT t=0) (h3:isK TxD.id t.id g.txs≠wanted):mayH g t there wanted=(0,there):=by unfold mayH;rw [if_neg (Decidable.not_not.2 h),if_neg (Decidable.not_not.2 h2),if_pos h3]
theorem Zp4 {g:HistD} {t:TxD} {there:Int} {wanted:Bool} (h:ZB g) (h2:ZT t=0) (h3:isK TxD.id t.id g.txs=wanted) (h4:ZaH g t=false):mayH g t there wanted=(0,6):=by unfold mayH;rw [if_neg (Decidable.not_not.2 h),if_neg (Decidable.not_not.2 h2),if_neg (Decidable.not_not.2 h3),if_pos h4]
theorem Znq {g:HistD} {t:TxD} {there:Int} {wanted:Bool} (h:ZB g) (h2:ZT t=0) (h3:isK TxD.id t.id g.txs=wanted) (h4:ZaH g t=true):mayH g t there wanted=(((lowK TxD.id t.id g.txs:Nat):Int),0):=by unfold mayH;rw [if_neg (Decidable.not_not.2 h),if_neg (Decidable.not_not.2 h2),if_neg (Decidable.not_not.2 h3),if_neg (by simp [h4])]
theorem Zhw {g:HistD} {t:TxD} {e:Int} (h:mayH g t 4 false=(0,e)) (he:e≠0):Z9 g t=(zeroH,e):=by unfold Z9;rw [h];exact if_pos he
theorem ZjG {g:HistD} {t:TxD} {e:Int} (h:mayH g t 3 true=(0,e)) (he:e≠0):ZaA g t=(zeroH,e):=by unfold ZaA;rw [h];exact if_pos he
theorem ZnO {g:HistD} {t:TxD} (h:ZB g) (h2:ZT t=0) (h3:isK TxD.id t.id g.txs=false) (h4:ZaH g t=true) (h5:4096≤g.txs.length):Z9 g t=(zeroH,2):=by
 have:=h.1
 unfold Z9
 rw [Znq h h2 h3 h4,if_neg (by simp),if_pos (by omega)]
theorem Znf {g:HistD} {t:TxD} (hs:Zbq g.orders) (h:ZB g) (h2:ZT t=0) (h3:isK TxD.id t.id g.txs=false) (h4:ZaH g t=true) (h5:¬ 4096≤g.txs.length):Z9 g t=(⟨putGR TxD.id t g.txs false,Zb1 t g.orders⟩,0):=by
 have hr:=ZR h
 unfold Z9
 rw [Znq h h2 h3 h4,if_neg (by simp),if_neg (by omega),Zed hr.2 hs (Zc2 h),ZfT (ZE.1 hr.1) h3]
theorem ZoP {g:HistD} {t:TxD} (h:ZB g) (h2:ZT t=0) (h3:isK TxD.id t.id g.txs=true) (h4:ZaH g t=true) (h5:ZdE g t=true):ZaA g t=(zeroH,7):=by
 unfold ZaA
 rw [Znq h h2 h3 h4,if_neg (by simp),if_pos h5]
theorem Zo3 {g:HistD} {t:TxD} (hs:Zbq g.orders) (h:ZB g) (h2:ZT t=0) (h3:isK TxD.id t.id g.txs=true) (h4:ZaH g t=true) (h5:ZdE g t=false):ZaA g t=(⟨putGR TxD.id t g.txs false,Zb1 t g.orders⟩,0):=by
 have hr:=ZR h
 unfold ZaA
 rw [Znq h h2 h3 h4,if_neg (by simp),if_neg (by simp [h5]),Zed hr.2 hs (Zc2 h),ZfD (ZE.1 hr.1) h3]
theorem Zqm {g:HistD} {id:Int} (h:¬ ZB g):Z1 g id=(zeroH,5):=if_pos h
theorem Zqr {g:HistD} {id:Int} (h:ZB g) (h2:isK TxD.id id g.txs=false):Z1 g id=(zeroH,3):=by unfold Z1;rw [if_neg (Decidable.not_not.2 h),if_pos h2]
theorem Zqs {g:HistD} {id:Int} (h:ZB g) (h2:isK TxD.id id g.txs=true) (h3:ZdE g (ZbU id)=true):Z1 g id=(zeroH,7):=by unfold Z1;rw [if_neg (Decidable.not_not.2 h),if_neg (by simp [h2]),if_pos h3]
theorem Zqd {g:HistD} {id:Int} (hs:Zbq g.orders) (h:ZB g) (h2:isK TxD.id id g.txs=true) (h3:ZdE g (ZbU id)=false):Z1 g id=(⟨g.txs.filter fun x=>!decide (x.id=id),Zb1 (ZbU id) g.orders⟩,0):=by
 have hr:=ZR h
 unfold Z1
 rw [if_neg (Decidable.not_not.2 h),if_neg (by simp [h2]),if_neg (by simp [h3]),Zed hr.2 hs (Zc2 h),Zgt (ZE.1 hr.1) h2]
theorem Zmm {os:List OrdD} {k:Int} (hr:ZcK OrdD.key os) (h:isK OrdD.key k os=true):getO os k=(Go.Gm.nth os (lowK OrdD.key k os)).txs:=by
 obtain ⟨h1,h2⟩:=Zdo hr h
 have:=ZcQ (ZE.1 hr) (ZP h1)
 rwa [h2] at this
theorem ZlL {os:List OrdD} {k:Int} (hr:ZcK OrdD.key os) (hn:NE os):getO os k = [] ↔ isK OrdD.key k os=false:=by
 constructor
 · intro h
   cases hk:isK OrdD.key k os with
   | false=>rfl
   | true=>
     rw [Zmm hr hk] at h
     exact absurd h (hn _ (ZP (Zdo hr hk).1))
 · exact ZlQ
theorem Zmu {g:HistD} {key:Int} {rule:List Int→List Int×Int} (h:¬ ZB g):Zac g key rule=(zeroH,5):=if_pos h
theorem ZmE {g:HistD} {key:Int} {rule:List Int→List Int×Int} (h:ZB g) (h2:getO g.orders key = []):Zac g key rule=(zeroH,3):=by
 unfold Zac
 rw [if_neg (Decidable.not_not.2 h),if_pos ((ZlL (ZR h).2 (Zc2 h)).1 h2)]
theorem Zl3 {g:HistD} {key:Int} (h:ZB g) (h2:getO g.orders key≠[]):isK OrdD.key key g.orders=true:=by
 cases hk:isK OrdD.key key g.orders with
 | true=>rfl
 | false=>exact absurd ((ZlL (ZR h).2 (Zc2 h)).2 hk) h2
theorem Zmn {g:HistD} {key:Int} {rule:List Int→List Int×Int} (h:ZB g) (h2:getO g.orders key≠[]) (h3:(rule (getO g.orders key)).2≠0):Zac g key rule=(zeroH,(rule (getO g.orders key)).2):=by
 have hk:=Zl3 h h2
 have hg:=Zmm (ZR h).2 hk
 unfold Zac
 rw [if_neg (Decidable.not_not.2 h),if_neg (by simp [hk]),← hg,if_pos h3]
theorem ZlS {g:HistD} {key:Int} {rule:List Int→List Int×Int} (h:ZB g) (h2:getO g.orders key≠[]) (h3:(rule (getO g.orders key)).2=0) (h4:(rule (getO g.orders key)).1≠[]):Zac g key rule=(⟨g.txs,putGR OrdD.key ⟨key,(rule (getO g.orders key)).1⟩ g.orders (decide ((rule (getO g.orders key)).1 = []))⟩,0):=by
 have hk:=Zl3 h h2
 have hr:=(ZR h).2
 have hg:=Zmm hr hk
 unfold Zac
 rw [if_neg (Decidable.not_not.2 h),if_neg (by simp [hk]),← hg,if_neg (by simp [h3]),decide_eq_false h4,ZfD (κ:=OrdD.key) (t:=⟨key,(rule (getO g.orders key)).1⟩) (ZE.1 hr) hk,(Zdo hr hk).2]
theorem ZhK {l:List Int} {id place:Int} (h:(Zaa l id place).2=0):(Zaa l id place).1.Perm l:=by
 have h9:=h
 unfold Zaa at h9
 split at h9
 · simp at h9
 · rename_i h1
   split at h9
   · simp at h9
   · rename_i h2
     refine Zb3 ?_ (Decidable.not_not.1 h2)
     refine Decidable.byContradiction fun hm=>h1 ?_
     rw [ZhB hm];decide
structure EdD where
 kind:Int
 t:TxD
 o:OrdD
 place:Int
 deriving DecidableEq,Inhabited
def doH (g:HistD) (e:EdD):HistD×Int:=if e.kind=0 then Z9 g e.t else if e.kind=1 then Z1 g e.t.id else if e.kind=2 then ZaA g e.t else if e.kind=3 then ZaV g e.o else if e.kind=4 then ZeA g e.o.key e.t.id e.place else (zeroH,5)
def ZfE (e:EdD):Prop:=e.t.ops.length≤24∧e.o.txs.length≤24
instance (e:EdD):Decidable (ZfE e):=by unfold ZfE;exact inferInstance
def Zof (l:List EdD):Prop:=l.length≤24 ∧ ∀ e ∈ l,ZfE e
instance (l:List EdD):Decidable (Zof l):=by unfold Zof;exact inferInstance
def ZjO (g:HistD) (e:EdD):HistD:=if (doH g e).2=0 then (doH g e).1 else g
theorem Zi2 (g:HistD) (t:TxD) (hs:ZaR g) (ht:t.ops.length≤1000):FnP Tryz.prog 60 [.agg (Zm g),.agg (rTx t)] (.tup [.agg (Zm (Z9 g t).1),.int .i64 (Z9 g t).2]):=by
 refine FnP.mk Tryz.func60 rfl Tryz.ntmps60 rfl ?_
 intro B a w F hB hfr hS
 have hsl:=hs.1.1
 refine wp_seq ?_
 refine Zc hS (qx 101 r1 (qx 102 r1 (qf (oH [.slice none 0 0,.slice none 0 0] 103) trivial qz (qI qZ)))) hB [5,4,3,2] [103,102,101,0] (fun _=>rfl) (fun _=>rfl) fun τ a w F hS=>?_
 try dsimp only [RS.sub,SF.sub,CF.sub,csub,Anc.sub,List.map,zCF,Zm,rTx,Zs,ZC,rInt,rOp] at hS
 generalize τ 2=v2 at hS
 generalize τ 3=v3 at hS
 generalize τ 4=v4 at hS
 refine Zb (wp_seq (wp_seq ?_))
 refine Za hS (qe 2 101 r1 r1 (qf (oP (Zbb g hs) Tryz.func35 (Args.one (.pagg .t))) r1 qz (qf (o_not .t) r1 qz qZ))) hB [11,5,4,3,2] [103,102,101,0] rfl rfl fun a w F hS=>Zb ?_
 refine Zd hS rfl (fun hc0=>?_) (fun hc0=>?_)
 ·skip
  have hr:¬ ZB g:=by simpa using hc0
  have hg:=Zhw (t:=t) (ZpK hr) (by decide)
  refine wp_seq ?_
  refine Za hS (qf (oB [] [.slice none 0 0,.slice none 0 0] [(0,1),(1,1)] .nil) trivial qz (qs 2 103 r2 r1 (qI qZ))) hB [5,4,3,2] [103,102,101,0] rfl rfl fun a w F hS=>Zb (wp_ret (Zf ?_))
  refine Zr hfr hS rfl (.cl 103 true 2 rfl rfl (.tmp rfl .nil)) (.two (by rw [hg];first | exact .aggU rfl rfl | exact .aggLe rfl ⟨PVLe.nilSl,PVLe.nilSl,trivial⟩) (.int (by rw [hg])))
 have hr:ZB g:=by simpa using hc0
 refine wp_skip (Zb (wp_seq (wp_seq ?_)))
 refine Za hS (qe 3 102 r1 r1 (qf (oP (Zcz t) Tryz.func86 (Args.one (.pagg .t))) r1 qz (qN rfl rfl qZ))) hB [6,5,4,3,2] [103,102,101,0] rfl rfl fun a w F hS=>Zb (wp_seq ?_)
 refine Za hS (qM rfl rfl (qf (o_neq .t qi) r1 qz qZ)) hB [16,6,5,4,3,2] [103,102,101,0] rfl rfl fun a w F hS=>Zb ?_
 refine Zd hS rfl (fun hc1=>?_) (fun hc1=>?_)
 ·skip
  have hrt:ZT t≠0:=by simpa using hc1
  have hg:=Zhw (ZpL hr hrt) hrt
  refine wp_seq ?_
  refine Za hS (qf (oB [] [.slice none 0 0,.slice none 0 0] [(0,1),(1,1)] .nil) trivial qz (qM rfl rfl (qs 2 103 r2 r1 (qN rfl rfl qZ)))) hB [5,4,3,2] [103,102,101,0] rfl rfl fun a w F hS=>Zb (wp_ret (Zf ?_))
  refine Zr hfr hS rfl (.cl 103 true 2 rfl rfl (.tmp rfl .nil)) (.two (by rw [hg];first | exact .aggU rfl rfl | exact .aggLe rfl ⟨PVLe.nilSl,PVLe.nilSl,trivial⟩) (.int (by rw [hg])))
 have hrt:ZT t=0:=by simpa using hc1
 refine wp_skip (Zb (wp_seq (wp_seq ?_)))
 refine Zc hS (qe 2 101 r1 r1 (qg 0 102 r1 r1 (qa 102 r1 r1 (qf (oP (ZdZ g t.id hs.1) Tryz.func128 (Args.two (.pagg .t) .t)) r2 qz (qM rfl rfl (qf (o_extract .t rfl) r1 qz (qf (o_extract .t rfl) r1 qz (qf (oH [.int .i64 0,.bool false,.slice none 0 0] 104) trivial qz (qf (oA 3 104 .same (.conv .t .agg)) r2 r1 (qN rfl rfl qZ)))))))))) hB [8,5,4,3,2] [104,103,102,101,0] (fun _=>rfl) (fun _=>rfl) fun τ a w F hS=>?_
 try dsimp only [RS.sub,SF.sub,CF.sub,csub,Anc.sub,List.map,Zg,xL,xM,Nat.reduceAdd,xD,xE,xT,xU,xC,xN,zCF,ldSF,Zm,rTx,Zs,ZC,rInt,rOp] at hS
 generalize τ 7=v7 at hS
 refine Zb (wp_seq ?_)
 refine Za hS (qM rfl rfl qZ) hB [26,5,4,3,2] [104,103,102,101,0] rfl rfl fun a w F hS=>Zb ?_
 refine Zd hS rfl (fun hc2=>?_) (fun hc2=>?_)
 ·skip
  have hik:isK TxD.id t.id g.txs=true:=by rw [← Zdl];simpa using hc2
  have hg:=Zhw (ZpU hr hrt (by rw [hik];decide)) (by decide)
  refine wp_seq ?_
  refine Za hS (qf (oB [] [.slice none 0 0,.slice none 0 0] [(0,1),(1,1)] .nil) trivial qz (qs 2 103 r2 r1 (qI qZ))) hB [5,4,3,2] [104,103,102,101,0] rfl rfl fun a w F hS=>Zb (wp_ret (Zf ?_))
  refine Zr hfr hS rfl (.cl 103 true 2 rfl rfl (.tmp rfl .nil)) (.two (by rw [hg];first | exact .aggU rfl rfl | exact .aggLe rfl ⟨PVLe.nilSl,PVLe.nilSl,trivial⟩) (.int (by rw [hg])))
 have hik:isK TxD.id t.id g.txs=false:=by rw [← Zdl];simpa using hc2
 refine wp_skip (Zb (wp_seq (wp_seq ?_)))
 refine Za hS (qe 2 101 r1 r1 (qe 3 102 r1 r1 (qf (oP (Zds g t hs.1 ht) Tryz.func87 (Args.two (.pagg .t) (.pagg .t))) r2 qz (qf (o_not .t) r1 qz qZ)))) hB [31,5,4,3,2] [104,103,102,101,0] rfl rfl fun a w F hS=>Zb ?_
 refine Zd hS rfl (fun hc3=>?_) (fun hc3=>?_)
 ·skip
  have hg:=Zhw (Zp4 hr hrt hik (by simpa using hc3)) (by decide)
  refine wp_seq ?_
  refine Za hS (qf (oB [] [.slice none 0 0,.slice none 0 0] [(0,1),(1,1)] .nil) trivial qz (qs 2 103 r2 r1 (qI qZ))) hB [5,4,3,2] [104,103,102,101,0] rfl rfl fun a w F hS=>Zb (wp_ret (Zf ?_))
  refine Zr hfr hS rfl (.cl 103 true 2 rfl rfl (.tmp rfl .nil)) (.two (by rw [hg];first | exact .aggU rfl rfl | exact .aggLe rfl ⟨PVLe.nilSl,PVLe.nilSl,trivial⟩) (.int (by rw [hg])))
 have hnd:ZaH g t=true:=by simpa using hc3
 refine wp_skip (Zb (wp_seq (wp_seq ?_)))
 refine Za hS (qg 0 101 r1 r1 (qa 101 r1 r1 (qu Tryz.underlying22 r1 (qf (ZbF .t qi) r1 qz qZ)))) hB [36,5,4,3,2] [104,103,102,101,0] rfl rfl fun a w F hS=>Zb ?_
 refine Zd hS rfl (fun hc4=>?_) (fun hc4=>?_)
 ·skip
  have hg:=ZnO hr hrt hik hnd (by simp at hc4;omega)
  refine wp_seq ?_
  refine Za hS (qf (oB [] [.slice none 0 0,.slice none 0 0] [(0,1),(1,1)] .nil) trivial qz (qs 2 103 r2 r1 (qI qZ))) hB [5,4,3,2] [104,103,102,101,0] rfl rfl fun a w F hS=>Zb (wp_ret (Zf ?_))
  refine Zr hfr hS rfl (.cl 103 true 2 rfl rfl (.tmp rfl .nil)) (.two (by rw [hg];first | exact .aggU rfl rfl | exact .aggLe rfl ⟨PVLe.nilSl,PVLe.nilSl,trivial⟩) (.int (by rw [hg])))
 have hg:=Znf hs.2 hr hrt hik hnd (by simp at hc4;omega)
 refine wp_skip (Zb (wp_seq ?_))
 refine Zu hS (qg 0 101 r1 r1 (qa 101 r1 r1 (qe 3 102 r1 r1 (qf (oP (ZmZ g.txs t (by omega)) Tryz.func129 (Args.two .t (.pagg .t))) r2 qz (qg 1 101 r1 r1 (qa 101 r1 r1 (qe 3 102 r1 r1 (qf (oP (Zdi g.orders t hs.2 ht) Tryz.func130 (Args.two .t (.pagg .t))) r2 qz (qf (oB [(0,.tmp 41),(1,.tmp 45)] [.slice none 0 0,.slice none 0 0] [(0,1),(1,1)] (.one rfl .t one_sl (by kernel_rfl) (.one rfl .t one_sl (by kernel_rfl) .nil))) r2 qz (qs 2 103 r2 r1 (qI qZ))))))))))) hB [5,4] [104,103,102,101,0] rfl rfl fun a w F hS=>?_
 try dsimp only [List.map,Zg,xL,xM,Nat.reduceAdd,xD,xE,xT,xU,xC,xN,zCF,ldSF,Zm,rTx,Zs,ZC,rInt,rOp] at hS
 refine Zb (wp_ret ?_)
 refine Zr hfr hS rfl (.cl 103 true 2 rfl rfl (.tmp rfl .nil)) (.two (by rw [hg];first | exact .aggU rfl rfl | exact .aggLe rfl ⟨PVLe.nilSl,PVLe.nilSl,trivial⟩) (.int (by rw [hg])))
theorem Zls (g:HistD) (t:TxD) (hs:ZaR g) (ht:t.ops.length≤1000):FnP Tryz.prog 61 [.agg (Zm g),.agg (rTx t)] (.tup [.agg (Zm (ZaA g t).1),.int .i64 (ZaA g t).2]):=by
 refine FnP.mk Tryz.func61 rfl Tryz.ntmps61 rfl ?_
 intro B a w F hB hfr hS
 have hsl:=hs.1.1
 refine wp_seq ?_
 refine Zc hS (qx 101 r1 (qx 102 r1 (qf (oH [.slice none 0 0,.slice none 0 0] 103) trivial qz (qI qZ)))) hB [5,4,3,2] [103,102,101,0] (fun _=>rfl) (fun _=>rfl) fun τ a w F hS=>?_
 try dsimp only [RS.sub,SF.sub,CF.sub,csub,Anc.sub,List.map,zCF,Zm,rTx,Zs,ZC,rInt,rOp] at hS
 generalize τ 2=v2 at hS
 generalize τ 3=v3 at hS
 generalize τ 4=v4 at hS
 refine Zb (wp_seq (wp_seq ?_))
 refine Za hS (qe 2 101 r1 r1 (qf (oP (Zbb g hs) Tryz.func35 (Args.one (.pagg .t))) r1 qz (qf (o_not .t) r1 qz qZ))) hB [11,5,4,3,2] [103,102,101,0] rfl rfl fun a w F hS=>Zb ?_
 refine Zd hS rfl (fun hc0=>?_) (fun hc0=>?_)
 ·skip
  have hr:¬ ZB g:=by simpa using hc0
  have hg:=ZjG (t:=t) (ZpK hr) (by decide)
  refine wp_seq ?_
  refine Za hS (qf (oB [] [.slice none 0 0,.slice none 0 0] [(0,1),(1,1)] .nil) trivial qz (qs 2 103 r2 r1 (qI qZ))) hB [5,4,3,2] [103,102,101,0] rfl rfl fun a w F hS=>Zb (wp_ret (Zf ?_))
  refine Zr hfr hS rfl (.cl 103 true 2 rfl rfl (.tmp rfl .nil)) (.two (by rw [hg];first | exact .aggU rfl rfl | exact .aggLe rfl ⟨PVLe.nilSl,PVLe.nilSl,trivial⟩) (.int (by rw [hg])))
 have hr:ZB g:=by simpa using hc0
 refine wp_skip (Zb (wp_seq (wp_seq ?_)))
 refine Za hS (qe 3 102 r1 r1 (qf (oP (Zcz t) Tryz.func86 (Args.one (.pagg .t))) r1 qz (qN rfl rfl qZ))) hB [6,5,4,3,2] [103,102,101,0] rfl rfl fun a w F hS=>Zb (wp_seq ?_)
 refine Za hS (qM rfl rfl (qf (o_neq .t qi) r1 qz qZ)) hB [16,6,5,4,3,2] [103,102,101,0] rfl rfl fun a w F hS=>Zb ?_
 refine Zd hS rfl (fun hc1=>?_) (fun hc1=>?_)
 ·skip
  have hrt:ZT t≠0:=by simpa using hc1
  have hg:=ZjG (ZpL hr hrt) hrt
  refine wp_seq ?_
  refine Za hS (qf (oB [] [.slice none 0 0,.slice none 0 0] [(0,1),(1,1)] .nil) trivial qz (qM rfl rfl (qs 2 103 r2 r1 (qN rfl rfl qZ)))) hB [5,4,3,2] [103,102,101,0] rfl rfl fun a w F hS=>Zb (wp_ret (Zf ?_))
  refine Zr hfr hS rfl (.cl 103 true 2 rfl rfl (.tmp rfl .nil)) (.two (by rw [hg];first | exact .aggU rfl rfl | exact .aggLe rfl ⟨PVLe.nilSl,PVLe.nilSl,trivial⟩) (.int (by rw [hg])))
 have hrt:ZT t=0:=by simpa using hc1
 refine wp_skip (Zb (wp_seq (wp_seq ?_)))
 refine Zc hS (qe 2 101 r1 r1 (qg 0 102 r1 r1 (qa 102 r1 r1 (qf (oP (ZdZ g t.id hs.1) Tryz.func128 (Args.two (.pagg .t) .t)) r2 qz (qM rfl rfl (qf (o_extract .t rfl) r1 qz (qf (o_extract .t rfl) r1 qz (qf (oH [.int .i64 0,.bool false,.slice none 0 0] 104) trivial qz (qf (oA 3 104 .same (.conv .t .agg)) r2 r1 (qN rfl rfl qZ)))))))))) hB [8,5,4,3,2] [104,103,102,101,0] (fun _=>rfl) (fun _=>rfl) fun τ a w F hS=>?_
 try dsimp only [RS.sub,SF.sub,CF.sub,csub,Anc.sub,List.map,Zg,xL,xM,Nat.reduceAdd,xD,xE,xT,xU,xC,xN,zCF,ldSF,Zm,rTx,Zs,ZC,rInt,rOp] at hS
 generalize τ 7=v7 at hS
 refine Zb (wp_seq ?_)
 refine Za hS (qM rfl rfl (qf (o_not .t) r1 qz qZ)) hB [27,5,4,3,2] [104,103,102,101,0] rfl rfl fun a w F hS=>Zb ?_
 refine Zd hS rfl (fun hc2=>?_) (fun hc2=>?_)
 ·skip
  have hik:isK TxD.id t.id g.txs=false:=by rw [← Zdl];simpa using hc2
  have hg:=ZjG (ZpU hr hrt (by rw [hik];decide)) (by decide)
  refine wp_seq ?_
  refine Za hS (qf (oB [] [.slice none 0 0,.slice none 0 0] [(0,1),(1,1)] .nil) trivial qz (qs 2 103 r2 r1 (qI qZ))) hB [5,4,3,2] [104,103,102,101,0] rfl rfl fun a w F hS=>Zb (wp_ret (Zf ?_))
  refine Zr hfr hS rfl (.cl 103 true 2 rfl rfl (.tmp rfl .nil)) (.two (by rw [hg];first | exact .aggU rfl rfl | exact .aggLe rfl ⟨PVLe.nilSl,PVLe.nilSl,trivial⟩) (.int (by rw [hg])))
 have hik:isK TxD.id t.id g.txs=true:=by rw [← Zdl];simpa using hc2
 refine wp_skip (Zb (wp_seq (wp_seq ?_)))
 refine Za hS (qe 2 101 r1 r1 (qe 3 102 r1 r1 (qf (oP (Zds g t hs.1 ht) Tryz.func87 (Args.two (.pagg .t) (.pagg .t))) r2 qz (qf (o_not .t) r1 qz qZ)))) hB [32,5,4,3,2] [104,103,102,101,0] rfl rfl fun a w F hS=>Zb ?_
 refine Zd hS rfl (fun hc3=>?_) (fun hc3=>?_)
 ·skip
  have hg:=ZjG (Zp4 hr hrt hik (by simpa using hc3)) (by decide)
  refine wp_seq ?_
  refine Za hS (qf (oB [] [.slice none 0 0,.slice none 0 0] [(0,1),(1,1)] .nil) trivial qz (qs 2 103 r2 r1 (qI qZ))) hB [5,4,3,2] [104,103,102,101,0] rfl rfl fun a w F hS=>Zb (wp_ret (Zf ?_))
  refine Zr hfr hS rfl (.cl 103 true 2 rfl rfl (.tmp rfl .nil)) (.two (by rw [hg];first | exact .aggU rfl rfl | exact .aggLe rfl ⟨PVLe.nilSl,PVLe.nilSl,trivial⟩) (.int (by rw [hg])))
 have hnd:ZaH g t=true:=by simpa using hc3
 refine wp_skip (Zb (wp_seq (wp_seq ?_)))
 refine Za hS (qe 2 101 r1 r1 (qe 3 102 r1 r1 (qf (oP (Zh7 g t hs.1 ht) Tryz.func131 (Args.two (.pagg .t) (.pagg .t))) r2 qz qZ))) hB [36,5,4,3,2] [104,103,102,101,0] rfl rfl fun a w F hS=>Zb ?_
 refine Zd hS rfl (fun hc4=>?_) (fun hc4=>?_)
 ·skip
  have hg:=ZoP hr hrt hik hnd (by simpa using hc4)
  refine wp_seq ?_
  refine Za hS (qf (oB [] [.slice none 0 0,.slice none 0 0] [(0,1),(1,1)] .nil) trivial qz (qs 2 103 r2 r1 (qI qZ))) hB [5,4,3,2] [104,103,102,101,0] rfl rfl fun a w F hS=>Zb (wp_ret (Zf ?_))
  refine Zr hfr hS rfl (.cl 103 true 2 rfl rfl (.tmp rfl .nil)) (.two (by rw [hg];first | exact .aggU rfl rfl | exact .aggLe rfl ⟨PVLe.nilSl,PVLe.nilSl,trivial⟩) (.int (by rw [hg])))
 have hg:=Zo3 hs.2 hr hrt hik hnd (by simpa using hc4)
 refine wp_skip (Zb (wp_seq ?_))
 refine Zu hS (qg 0 101 r1 r1 (qa 101 r1 r1 (qe 3 102 r1 r1 (qf (oP (ZmZ g.txs t (by omega)) Tryz.func129 (Args.two .t (.pagg .t))) r2 qz (qg 1 101 r1 r1 (qa 101 r1 r1 (qe 3 102 r1 r1 (qf (oP (Zdi g.orders t hs.2 ht) Tryz.func130 (Args.two .t (.pagg .t))) r2 qz (qf (oB [(0,.tmp 41),(1,.tmp 45)] [.slice none 0 0,.slice none 0 0] [(0,1),(1,1)] (.one rfl .t one_sl (by kernel_rfl) (.one rfl .t one_sl (by kernel_rfl) .nil))) r2 qz (qs 2 103 r2 r1 (qI qZ))))))))))) hB [5,4] [104,103,102,101,0] rfl rfl fun a w F hS=>?_
 try dsimp only [List.map,Zg,xL,xM,Nat.reduceAdd,xD,xE,xT,xU,xC,xN,zCF,ldSF,Zm,rTx,Zs,ZC,rInt,rOp] at hS
 refine Zb (wp_ret ?_)
 refine Zr hfr hS rfl (.cl 103 true 2 rfl rfl (.tmp rfl .nil)) (.two (by rw [hg];first | exact .aggU rfl rfl | exact .aggLe rfl ⟨PVLe.nilSl,PVLe.nilSl,trivial⟩) (.int (by rw [hg])))
theorem Zi9 (g:HistD) (id:Int) (hs:ZaR g):FnP Tryz.prog 62 [.agg (Zm g),.int .i64 id] (.tup [.agg (Zm (Z1 g id).1),.int .i64 (Z1 g id).2]):=by
 refine FnP.mk Tryz.func62 rfl Tryz.ntmps62 rfl ?_
 intro B a w F hB hfr hS
 have hsl:=hs.1.1
 refine wp_seq ?_
 refine Zc hS (qx 101 r1 (qf (oH [.slice none 0 0,.slice none 0 0] 102) trivial qz (qI qZ))) hB [5,4,2,1] [102,101,0] (fun _=>rfl) (fun _=>rfl) fun τ a w F hS=>?_
 try dsimp only [RS.sub,SF.sub,CF.sub,csub,Anc.sub,List.map,zCF,Zm,rTx,Zs,ZC,rInt,rOp] at hS
 generalize τ 2=v2 at hS
 generalize τ 4=v4 at hS
 refine Zb (wp_seq (wp_seq ?_))
 refine Za hS (qe 2 101 r1 r1 (qf (oP (Zbb g hs) Tryz.func35 (Args.one (.pagg .t))) r1 qz (qf (o_not .t) r1 qz qZ))) hB [13,5,4,2,1] [102,101,0] rfl rfl fun a w F hS=>Zb ?_
 refine Zd hS rfl (fun hc0=>?_) (fun hc0=>?_)
 ·skip
  have hr:¬ ZB g:=by simpa using hc0
  have hg:=Zqm (id:=id) hr
  refine wp_seq ?_
  refine Za hS (qf (oB [] [.slice none 0 0,.slice none 0 0] [(0,1),(1,1)] .nil) trivial qz (qs 2 102 r2 r1 (qI qZ))) hB [5,4,2,1] [102,101,0] rfl rfl fun a w F hS=>Zb (wp_ret (Zf ?_))
  refine Zr hfr hS rfl (.cl 102 true 2 rfl rfl (.tmp rfl .nil)) (.two (by rw [hg];first | exact .aggU rfl rfl | exact .aggLe rfl ⟨PVLe.nilSl,PVLe.nilSl,trivial⟩) (.int (by rw [hg])))
 have hr:ZB g:=by simpa using hc0
 refine wp_skip (Zb (wp_seq (wp_seq ?_)))
 refine Zc hS (qe 2 101 r1 r1 (qM rfl rfl (qf (oP (ZdZ g id hs.1) Tryz.func128 (Args.two (.pagg .t) .t)) r2 qz (qM rfl rfl (qf (o_extract .t rfl) r1 qz (qf (o_extract .t rfl) r1 qz (qf (oH [.int .i64 0,.bool false,.slice none 0 0] 103) trivial qz (qf (oA 3 103 .same (.conv .t .agg)) r2 r1 (qN rfl rfl qZ))))))))) hB [7,5,4,2,1] [103,102,101,0] (fun _=>rfl) (fun _=>rfl) fun τ a w F hS=>?_
 try dsimp only [RS.sub,SF.sub,CF.sub,csub,Anc.sub,List.map,Zg,xL,xM,Nat.reduceAdd,xD,xE,xT,xU,xC,xN,zCF,ldSF,Zm,rTx,Zs,ZC,rInt,rOp] at hS
 generalize τ 6=v6 at hS
 refine Zb (wp_seq ?_)
 refine Za hS (qM rfl rfl (qf (o_not .t) r1 qz qZ)) hB [22,5,4,2,1] [103,102,101,0] rfl rfl fun a w F hS=>Zb ?_
 refine Zd hS rfl (fun hc1=>?_) (fun hc1=>?_)
 ·skip
  have hg:=Zqr (id:=id) hr (by rw [← Zdl];simpa using hc1)
  refine wp_seq ?_
  refine Za hS (qf (oB [] [.slice none 0 0,.slice none 0 0] [(0,1),(1,1)] .nil) trivial qz (qs 2 102 r2 r1 (qI qZ))) hB [5,4,2,1] [103,102,101,0] rfl rfl fun a w F hS=>Zb (wp_ret (Zf ?_))
  refine Zr hfr hS rfl (.cl 102 true 2 rfl rfl (.tmp rfl .nil)) (.two (by rw [hg];first | exact .aggU rfl rfl | exact .aggLe rfl ⟨PVLe.nilSl,PVLe.nilSl,trivial⟩) (.int (by rw [hg])))
 have hik:isK TxD.id id g.txs=true:=by rw [← Zdl];simpa using hc1
 refine wp_skip (Zb (wp_seq (wp_seq ?_)))
 refine Za hS (qe 2 101 r1 r1 (qM rfl rfl (qf (oB [(0,.tmp 25)] [.int .i64 0,.bool false,.slice none 0 0] [(0,1),(1,1),(2,1)] (.one rfl .t one_int (by kernel_rfl) .nil)) r1 qz (qf (oP (Zh7 g (ZbU id) hs.1 (by simp [ZbU])) Tryz.func131 (Args.two (.pagg .t) (.conv (.pagg .t) (Ent.paggLe (l:=[.int .i64 id,.bool false,.is (.slice none 0 0)]) (l':=[.int .i64 id,.bool false,.sl rOp []]) ⟨PVLe.refl,PVLe.refl,PVLe.nilSl,trivial⟩)))) r2 qz qZ)))) hB [27,5,4,2,1] [103,102,101,0] rfl rfl fun a w F hS=>Zb ?_
 refine Zd hS rfl (fun hc2=>?_) (fun hc2=>?_)
 ·skip
  have hg:=Zqs (id:=id) hr hik (by simpa using hc2)
  refine wp_seq ?_
  refine Za hS (qf (oB [] [.slice none 0 0,.slice none 0 0] [(0,1),(1,1)] .nil) trivial qz (qs 2 102 r2 r1 (qI qZ))) hB [5,4,2,1] [103,102,101,0] rfl rfl fun a w F hS=>Zb (wp_ret (Zf ?_))
  refine Zr hfr hS rfl (.cl 102 true 2 rfl rfl (.tmp rfl .nil)) (.two (by rw [hg];first | exact .aggU rfl rfl | exact .aggLe rfl ⟨PVLe.nilSl,PVLe.nilSl,trivial⟩) (.int (by rw [hg])))
 have hud:ZdE g (ZbU id)=false:=by simpa using hc2
 refine wp_skip (Zb (wp_seq ?_))
 refine Za hS (qC qZ) hB [8,5,4,2,1] [103,102,101,0] rfl rfl fun a w F hS=>Zb (wp_seq (wp_seq ?_))
 refine Za hS (qg 0 101 r1 r1 (qa 101 r1 r1 (qu Tryz.underlying22 r1 (qJ qZ)))) hB [32,31,30,8,5,4,2,1] [103,102,101,0] rfl rfl fun a w F hS=>Zb (wp_block ?_)
 replace hS:=hS.fresh 50 rfl
 replace hS:=hS.turn 50 rfl (Zav (T:=40) (sz:=3) (R:=rTx))
 refine Zl (σ:=(Nat)×(Value)×(List TxD)) [1,2,4,5,30,31] [0,101,102,103] (fun s=>[(32,.pv (.int .i64 (s.1:Int))),(8,.pv (.is s.2.1))]) (fun s=>[(50,.ob (.val s.2.1) (Zy 40 3 rTx s.2.2))]) (fun s=>s.1≤g.txs.length∧(s.2.2=((g.txs.take s.1).filter fun x=>!decide (x.id=id)))) (fun s=>g.txs.length - s.1) ((0),(.slice none 0 0),([])) hS ⟨rfl,rfl,rfl,rfl,rfl,rfl,rfl,rfl,trivial⟩ ⟨rfl,rfl,rfl,rfl,rfl,trivial⟩ ⟨Nat.zero_le _,rfl⟩ ?_
 clear hS;intro s a w F hC hS
 obtain ⟨i,v,out⟩:=s
 try dsimp only at hC
 obtain ⟨F,hS⟩:=hS.nm [32,31,30,8,5,4,2,1] [103,102,101,50,0] rfl rfl
 try dsimp only at hS
 obtain ⟨hi,hq⟩:=hC
 have hol:out.length≤i:=by rw [hq];exact Nat.le_trans (List.length_filter_le _ _) (by rw [List.length_take];omega)
 refine wp_seq ?_
 refine Za hS (qL r2) hB [33,32,31,30,8,5,4,2,1] [103,102,101,50,0] rfl rfl fun a w F hS=>Zb (wp_seq ?_)
 refine Zd hS rfl (fun hc3=>?_) (fun hc3=>?_)
 ·skip
  have hil:i<g.txs.length:=by simp at hc3;omega
  refine wp_skip (Zb (wp_seq (wp_block (wp_seq ?_))))
  refine Zc hS (qy 3 Tryz.underlying22 r2 (qf (oR true 3 .t) r1 qz (qf (oH [.int .i64 0,.bool false,.slice none 0 0] 104) trivial qz (qS 3 104 r2 r1 qZ)))) hB [32,31,30,10,8,5,4,2,1] [104,103,102,101,50,0] (fun _=>rfl) (fun _=>rfl) fun τ a w F hS=>?_
  try dsimp only [RS.sub,SF.sub,CF.sub,csub,Anc.sub,List.map,Zg,xL,xM,Nat.reduceAdd,xD,xE,xT,xU,xC,xN,zCF,ldSF,Zm,rTx,Zs,ZC,rInt,rOp] at hS
  generalize τ 10=v10 at hS
  try simp only [Int.toNat_natCast] at hS
  refine Zb (wp_seq ?_)
  refine Za hS (qg 0 104 r1 r1 (qa 104 r1 r1 (qM rfl rfl (qf (o_neq .t .t) r2 qz qZ)))) hB [39,32,31,30,10,8,5,4,2,1] [104,103,102,101,50,0] rfl rfl fun a w F hS=>Zb ?_
  refine Zd hS rfl (fun hc4=>?_) (fun hc4=>?_)
  ·skip
   have hst9:out ++ [(Go.Gm.nth g.txs i)] = ((g.txs.take (i+1)).filter fun x=>!decide (x.id=id)):=by rw [Zt hil,List.filter_append,← hq,List.filter_cons_of_pos (by simpa using hc4)];rfl
   refine Zc hS (qM rfl rfl (qe 3 104 r1 r1 (qf (Zj (sz:=3) (zs:=[.int .i64 0,.bool false,.slice none 0 0]) (r:=[(0,.tmp 41)]) (l:=[_,_,_]) Tryz.underlying22 (by kernel_rfl) (by kernel_rfl) (by kernel_rfl) (by kernel_rfl) rfl rfl (.agg rfl .t (by kernel_rfl) (by kernel_rfl) .nil) rfl) r1 qz (qf (o_append (sz:=3) (bs:=40) 50 (.mk' Tryz.underlying22 (by kernel_rfl) (by kernel_rfl)) (by intro x;rfl) .is (.arr (l':=[(Go.Gm.nth g.txs i)]) .t) (by simp only [List.length_append,List.length_cons,List.length_nil];omega) (by decide)) ⟨rfl,rfl,trivial⟩ ⟨rfl,trivial⟩ (qN rfl rfl qZ))))) hB [32,31,30,8,5,4,2,1] [104,103,102,101,50,0] (fun _=>rfl) (fun _=>rfl) fun τ a w F hS=>?_
   try dsimp only [RS.sub,SF.sub,CF.sub,csub,Anc.sub,List.map,Zg,xL,xM,Nat.reduceAdd,xD,xE,xT,xU,xC,xN,zCF,ldSF,Zm,rTx,Zs,ZC,rInt,rOp] at hS
   generalize τ 43=v43 at hS
   refine Zh (Zb ?_)
   refine Za hS (qp r1 (qM rfl rfl qZ)) hB [32,31,30,8,5,4,2,1] [104,103,102,101,50,0] rfl rfl fun a w F hS=>Zb ?_
   replace hS:=hS.ent (i:=32) (s':=.pv (.int .i64 ((i+1:Nat):Int))) rfl (.int (Ze (by omega)))
   obtain ⟨F,hS⟩:=hS.nm [31,30,5,4,2,1,8,32] [103,102,101,0,50] rfl rfl
   exact ⟨((i+1),_,_),F,⟨by omega,hst9⟩,hS,by omega⟩
  have hst9:out=((g.txs.take (i+1)).filter fun x=>!decide (x.id=id)):=by rw [Zt hil,List.filter_append,← hq,List.filter_cons_of_neg (by simpa using hc4),List.filter_nil,List.append_nil]
  refine wp_skip (Zh (Zb ?_))
  refine Za hS (qp r1 (qM rfl rfl qZ)) hB [32,31,30,8,5,4,2,1] [104,103,102,101,50,0] rfl rfl fun a w F hS=>Zb ?_
  replace hS:=hS.ent (i:=32) (s':=.pv (.int .i64 ((i+1:Nat):Int))) rfl (.int (Ze (by omega)))
  obtain ⟨F,hS⟩:=hS.nm [31,30,5,4,2,1,8,32] [103,102,101,0,50] rfl rfl
  exact ⟨((i+1),_,_),F,⟨by omega,hst9⟩,hS,by omega⟩
 have hil:i=g.txs.length:=by simp at hc3;omega
 have hout:out=g.txs.filter fun x=>!decide (x.id=id):=by rw [hq,hil,List.take_length]
 subst hout
 have hg:=Zqd (id:=id) hs.2 hr hik hud
 refine wp_exit (Zi (Zi (Zo (Zb (wp_seq ?_)))))
 obtain ⟨F,hS⟩:=hS.give 50 8 rfl rfl
 obtain ⟨F,hS⟩:=hS.nm [33,32,31,30,8,5,4,2,1] [103,102,101,0] rfl rfl
 refine Za hS (qM rfl rfl (qg 1 101 r1 r1 (qa 101 r1 r1 (qM rfl rfl (qf (oB [(0,.tmp 48)] [.int .i64 0,.bool false,.slice none 0 0] [(0,1),(1,1),(2,1)] (.one rfl .t one_int (by kernel_rfl) .nil)) r1 qz (qf (oP (Zdi g.orders (ZbU id) hs.2 (by simp [ZbU])) Tryz.func130 (Args.two .t (.conv (.pagg .t) (Ent.paggLe (l:=[.int .i64 id,.bool false,.is (.slice none 0 0)]) (l':=[.int .i64 id,.bool false,.sl rOp []]) ⟨PVLe.refl,PVLe.refl,PVLe.nilSl,trivial⟩)))) r2 qz (qf (oB [(0,.tmp 45),(1,.tmp 50)] [.slice none 0 0,.slice none 0 0] [(0,1),(1,1)] (.one rfl .t one_sl (by kernel_rfl) (.one rfl .t one_sl (by kernel_rfl) .nil))) r2 qz (qs 2 102 r2 r1 (qI qZ))))))))) hB [5,4] [103,102,101,0] rfl rfl fun a w F hS=>Zb (wp_ret ?_)
 refine Zr hfr hS rfl (.cl 102 true 2 rfl rfl (.tmp rfl .nil)) (.two (by rw [hg];first | exact .aggU rfl rfl | exact .aggLe rfl ⟨PVLe.nilSl,PVLe.nilSl,trivial⟩) (.int (by rw [hg])))
theorem ZiE (g:HistD) (o:OrdD) (hs:ZaR g) (ho:o.txs.length≤1000):FnP Tryz.prog 63 [.agg (Zm g),.agg (Zs o)] (.tup [.agg (Zm (ZaV g o).1),.int .i64 (ZaV g o).2]):=by
 refine FnP.mk Tryz.func63 rfl Tryz.ntmps63 rfl ?_
 intro B a w F hB hfr hS
 have hso:=hs.2.1
 refine wp_seq ?_
 refine Zc hS (qx 101 r1 (qx 102 r1 (qf (oH [.slice none 0 0,.slice none 0 0] 103) trivial qz (qI qZ)))) hB [5,4,3,2] [103,102,101,0] (fun _=>rfl) (fun _=>rfl) fun τ a w F hS=>?_
 try dsimp only [RS.sub,SF.sub,CF.sub,csub,Anc.sub,List.map,zCF,Zm,rTx,Zs,ZC,rInt,rOp] at hS
 generalize τ 2=v2 at hS
 generalize τ 3=v3 at hS
 generalize τ 4=v4 at hS
 refine Zb (wp_seq (wp_seq ?_))
 refine Za hS (qe 2 101 r1 r1 (qf (oP (Zbb g hs) Tryz.func35 (Args.one (.pagg .t))) r1 qz (qf (o_not .t) r1 qz qZ))) hB [9,5,4,3,2] [103,102,101,0] rfl rfl fun a w F hS=>Zb ?_
 refine Zd hS rfl (fun hc0=>?_) (fun hc0=>?_)
 ·skip
  have hr:¬ ZB g:=by simpa using hc0
  have hg:ZaV g o=(zeroH,5):=Zmu hr
  refine wp_seq ?_
  refine Za hS (qf (oB [] [.slice none 0 0,.slice none 0 0] [(0,1),(1,1)] .nil) trivial qz (qs 2 103 r2 r1 (qI qZ))) hB [5,4,3,2] [103,102,101,0] rfl rfl fun a w F hS=>Zb (wp_ret (Zf ?_))
  refine Zr hfr hS rfl (.cl 103 true 2 rfl rfl (.tmp rfl .nil)) (.two (by rw [hg];first | exact .aggU rfl rfl | exact .aggLe rfl ⟨PVLe.nilSl,PVLe.nilSl,trivial⟩) (.int (by rw [hg])))
 have hr:ZB g:=by simpa using hc0
 refine wp_skip (Zb (wp_seq ?_))
 refine Za hS (qe 2 101 r1 r1 (qg 0 102 r1 r1 (qa 102 r1 r1 (qf (oP (ZcT g o.key) Tryz.func38 (Args.two (.pagg .t) .t)) r2 qz (qN rfl rfl qZ))))) hB [6,5,4,3,2] [103,102,101,0] rfl rfl fun a w F hS=>Zb (wp_seq (wp_seq ?_))
 refine Za hS (qM rfl rfl (qu Tryz.underlying41 r1 (qf (o_eql .t qi) r1 qz qZ))) hB [17,6,5,4,3,2] [103,102,101,0] rfl rfl fun a w F hS=>Zb ?_
 refine Zd hS rfl (fun hc1=>?_) (fun hc1=>?_)
 ·skip
  have hg:ZaV g o=(zeroH,3):=ZmE hr (by simpa using hc1)
  refine wp_seq ?_
  refine Za hS (qf (oB [] [.slice none 0 0,.slice none 0 0] [(0,1),(1,1)] .nil) trivial qz (qs 2 103 r2 r1 (qI qZ))) hB [6,5,4,3,2] [103,102,101,0] rfl rfl fun a w F hS=>Zb (wp_ret (Zf ?_))
  refine Zr hfr hS rfl (.cl 103 true 2 rfl rfl (.tmp rfl .nil)) (.two (by rw [hg];first | exact .aggU rfl rfl | exact .aggLe rfl ⟨PVLe.nilSl,PVLe.nilSl,trivial⟩) (.int (by rw [hg])))
 have hgn:(getO g.orders o.key)≠[]:=by simpa using hc1
 have hwl:=ZgM hs.2 o.key
 refine wp_skip (Zb (wp_seq (wp_seq ?_)))
 refine Za hS (qM rfl rfl (qg 1 102 r1 r1 (qa 102 r1 r1 (qf (oP (ZgO (getO g.orders o.key) o.txs) Tryz.func89 (Args.two .t .t)) r2 qz (qf (o_not .t) r1 qz qZ))))) hB [23,5,4,3,2] [103,102,101,0] rfl rfl fun a w F hS=>Zb ?_
 refine Zd hS rfl (fun hc2=>?_) (fun hc2=>?_)
 ·skip
  have hp:¬ (getO g.orders o.key).Perm o.txs:=by simpa using hc2
  have hru:Zc6 o (getO g.orders o.key)=([],8):=if_neg hp
  have hg:ZaV g o=(zeroH,8):=by have:=Zmn (rule:=Zc6 o) hr hgn (by rw [hru];decide);rw [hru] at this;exact this
  refine wp_seq ?_
  refine Za hS (qf (oB [] [.slice none 0 0,.slice none 0 0] [(0,1),(1,1)] .nil) trivial qz (qs 2 103 r2 r1 (qI qZ))) hB [5,4,3,2] [103,102,101,0] rfl rfl fun a w F hS=>Zb (wp_ret (Zf ?_))
  refine Zr hfr hS rfl (.cl 103 true 2 rfl rfl (.tmp rfl .nil)) (.two (by rw [hg];first | exact .aggU rfl rfl | exact .aggLe rfl ⟨PVLe.nilSl,PVLe.nilSl,trivial⟩) (.int (by rw [hg])))
 have hp:(getO g.orders o.key).Perm o.txs:=by simpa using hc2
 have hru:Zc6 o (getO g.orders o.key)=(o.txs,0):=if_pos hp
 have hg:ZaV g o=(⟨g.txs,putGR OrdD.key o g.orders (decide (o.txs = []))⟩,0):=by have:=ZlS (rule:=Zc6 o) hr hgn (by rw [hru]) (by rw [hru];intro e;have e:o.txs = []:=e;rw [e] at hp;exact hgn hp.eq_nil);rw [hru] at this;exact this
 refine wp_skip (Zb (wp_seq ?_))
 refine Zu hS (qg 0 101 r1 r1 (qa 101 r1 r1 (qg 1 101 r1 r1 (qa 101 r1 r1 (qe 2 102 r1 r1 (qf (oP (ZcU g.orders o (by omega)) Tryz.func132 (Args.two .t (.pagg .t))) r2 qz (qf (oB [(0,.tmp 26),(1,.tmp 30)] [.slice none 0 0,.slice none 0 0] [(0,1),(1,1)] (.one rfl .t one_sl (by kernel_rfl) (.one rfl .t one_sl (by kernel_rfl) .nil))) r2 qz (qs 2 103 r2 r1 (qI qZ))))))))) hB [5,4] [103,102,101,0] rfl rfl fun a w F hS=>?_
 try dsimp only [List.map,Zg,xL,xM,Nat.reduceAdd,xD,xE,xT,xU,xC,xN,zCF,ldSF,Zm,rTx,Zs,ZC,rInt,rOp] at hS
 refine Zb (wp_ret ?_)
 refine Zr hfr hS rfl (.cl 103 true 2 rfl rfl (.tmp rfl .nil)) (.two (by rw [hg];first | exact .aggU rfl rfl | exact .aggLe rfl ⟨PVLe.nilSl,PVLe.nilSl,trivial⟩) (.int (by rw [hg])))
theorem ZlC (g:HistD) (key id place:Int) (hs:ZaR g):FnP Tryz.prog 64 [.agg (Zm g),.int .i64 key,.int .i64 id,.int .i64 place] (.tup [.agg (Zm (ZeA g key id place).1),.int .i64 (ZeA g key id place).2]):=by
 refine FnP.mk Tryz.func64 rfl Tryz.ntmps64 rfl ?_
 intro B a w F hB hfr hS
 have hso:=hs.2.1
 refine wp_seq ?_
 refine Zc hS (qx 101 r1 (qf (oH [.slice none 0 0,.slice none 0 0] 102) trivial qz (qI qZ))) hB [9,8,4,3,2,1] [102,101,0] (fun _=>rfl) (fun _=>rfl) fun τ a w F hS=>?_
 try dsimp only [RS.sub,SF.sub,CF.sub,csub,Anc.sub,List.map,zCF,Zm,rTx,Zs,ZC,rInt,rOp] at hS
 generalize τ 4=v4 at hS
 generalize τ 8=v8 at hS
 refine Zb (wp_seq (wp_seq ?_))
 refine Za hS (qe 2 101 r1 r1 (qf (oP (Zbb g hs) Tryz.func35 (Args.one (.pagg .t))) r1 qz (qf (o_not .t) r1 qz qZ))) hB [15,9,8,4,3,2,1] [102,101,0] rfl rfl fun a w F hS=>Zb ?_
 refine Zd hS rfl (fun hc0=>?_) (fun hc0=>?_)
 ·skip
  have hr:¬ ZB g:=by simpa using hc0
  have hg:ZeA g key id place=(zeroH,5):=Zmu hr
  refine wp_seq ?_
  refine Za hS (qf (oB [] [.slice none 0 0,.slice none 0 0] [(0,1),(1,1)] .nil) trivial qz (qs 2 102 r2 r1 (qI qZ))) hB [9,8,4,3,2,1] [102,101,0] rfl rfl fun a w F hS=>Zb (wp_ret (Zf ?_))
  refine Zr hfr hS rfl (.cl 102 true 2 rfl rfl (.tmp rfl .nil)) (.two (by rw [hg];first | exact .aggU rfl rfl | exact .aggLe rfl ⟨PVLe.nilSl,PVLe.nilSl,trivial⟩) (.int (by rw [hg])))
 have hr:ZB g:=by simpa using hc0
 have hwl:=ZgM hs.2 key
 refine wp_skip (Zb (wp_seq ?_))
 refine Za hS (qe 2 101 r1 r1 (qM rfl rfl (qf (oP (ZcT g key) Tryz.func38 (Args.two (.pagg .t) .t)) r2 qz (qN rfl rfl qZ)))) hB [10,9,8,4,3,2,1] [102,101,0] rfl rfl fun a w F hS=>Zb (wp_seq (wp_seq ?_))
 refine Za hS (qM rfl rfl (qu Tryz.underlying41 r1 (qf (o_eql .t qi) r1 qz qZ))) hB [22,10,9,8,4,3,2,1] [102,101,0] rfl rfl fun a w F hS=>Zb ?_
 refine Zd hS rfl (fun hc1=>?_) (fun hc1=>?_)
 ·skip
  have hg:ZeA g key id place=(zeroH,3):=ZmE hr (by simpa using hc1)
  refine wp_seq ?_
  refine Za hS (qf (oB [] [.slice none 0 0,.slice none 0 0] [(0,1),(1,1)] .nil) trivial qz (qs 2 102 r2 r1 (qI qZ))) hB [10,9,8,4,3,2,1] [102,101,0] rfl rfl fun a w F hS=>Zb (wp_ret (Zf ?_))
  refine Zr hfr hS rfl (.cl 102 true 2 rfl rfl (.tmp rfl .nil)) (.two (by rw [hg];first | exact .aggU rfl rfl | exact .aggLe rfl ⟨PVLe.nilSl,PVLe.nilSl,trivial⟩) (.int (by rw [hg])))
 have hgn:(getO g.orders key)≠[]:=by simpa using hc1
 refine wp_skip (Zb (wp_seq ?_))
 refine Za hS (qM rfl rfl (qM rfl rfl (qM rfl rfl (qf (oP (ZjE (getO g.orders key) id place (by omega)) Tryz.func95 (Args.three .t .t .t)) r3 qz (qM rfl rfl (qf (o_extract .t rfl) r1 qz (qf (o_extract .t rfl) r1 qz (qN rfl rfl (qN rfl rfl qZ))))))))) hB [12,11,9,8,4,1] [102,101,0] rfl rfl fun a w F hS=>Zb (wp_seq (wp_seq ?_))
 refine Za hS (qM rfl rfl (qf (o_neq .t qi) r1 qz qZ)) hB [32,12,11,9,8,4,1] [102,101,0] rfl rfl fun a w F hS=>Zb ?_
 refine Zd hS rfl (fun hc2=>?_) (fun hc2=>?_)
 ·skip
  have hg:ZeA g key id place=(zeroH,(Zaa (getO g.orders key) id place).2):=Zmn (rule:=fun l=>Zaa l id place) hr hgn (by simpa using hc2)
  refine wp_seq ?_
  refine Za hS (qf (oB [] [.slice none 0 0,.slice none 0 0] [(0,1),(1,1)] .nil) trivial qz (qM rfl rfl (qs 2 102 r2 r1 (qN rfl rfl qZ)))) hB [11,9,8,4,1] [102,101,0] rfl rfl fun a w F hS=>Zb (wp_ret (Zf ?_))
  refine Zr hfr hS rfl (.cl 102 true 2 rfl rfl (.tmp rfl .nil)) (.two (by rw [hg];first | exact .aggU rfl rfl | exact .aggLe rfl ⟨PVLe.nilSl,PVLe.nilSl,trivial⟩) (.int (by rw [hg])))
 have hm0:(Zaa (getO g.orders key) id place).2=0:=by simpa using hc2
 have hg:ZeA g key id place=(⟨g.txs,putGR OrdD.key ⟨key,(Zaa (getO g.orders key) id place).1⟩ g.orders (decide ((Zaa (getO g.orders key) id place).1 = []))⟩,0):=ZlS (rule:=fun l=>Zaa l id place) hr hgn hm0 (fun e=>hgn (by have hp:=ZhK hm0;rw [e] at hp;exact hp.symm.eq_nil))
 refine wp_skip (Zb (wp_seq ?_))
 refine Zu hS (qg 0 101 r1 r1 (qa 101 r1 r1 (qg 1 101 r1 r1 (qa 101 r1 r1 (qM rfl rfl (qM rfl rfl (qf (oB [(0,.tmp 39),(1,.tmp 40)] [.int .i64 0,.slice none 0 0] [(0,1),(1,1)] (.one rfl .t one_int (by kernel_rfl) (.one rfl .t one_sl (by kernel_rfl) .nil))) r2 qz (qf (oP (ZcU g.orders ⟨key,(Zaa (getO g.orders key) id place).1⟩ (by omega)) Tryz.func132 (Args.two .t (.pagg .t))) r2 qz (qf (oB [(0,.tmp 36),(1,.tmp 42)] [.slice none 0 0,.slice none 0 0] [(0,1),(1,1)] (.one rfl .t one_sl (by kernel_rfl) (.one rfl .t one_sl (by kernel_rfl) .nil))) r2 qz (qs 2 102 r2 r1 (qI qZ))))))))))) hB [9,8] [102,101,0] rfl rfl fun a w F hS=>?_
 try dsimp only [List.map,Zg,xL,xM,Nat.reduceAdd,xD,xE,xT,xU,xC,xN,zCF,ldSF,Zm,rTx,Zs,ZC,rInt,rOp] at hS
 refine Zb (wp_ret ?_)
 refine Zr hfr hS rfl (.cl 102 true 2 rfl rfl (.tmp rfl .nil)) (.two (by rw [hg];first | exact .aggU rfl rfl | exact .aggLe rfl ⟨PVLe.nilSl,PVLe.nilSl,trivial⟩) (.int (by rw [hg])))
def Fit (n:Nat) (g:HistD):Prop:=(g.txs.length≤n ∧ ∀ t ∈ g.txs,t.ops.length≤24)∧g.orders.length≤24*n ∧ ∀ o ∈ g.orders,o.txs.length≤n
theorem Fit.small {n:Nat} {g:HistD} (h:Fit n g) (hn:n≤30):ZaR g:=by
 obtain ⟨⟨h1,h2⟩,h3,h4⟩:=h
 exact ⟨⟨by omega,fun t ht=>by have:=h2 t ht;omega⟩,by omega,fun o ho=>by have:=h4 o ho;omega⟩
theorem Fit.zero:Fit 0 zeroH:=⟨⟨by simp [zeroH],fun t ht=>by cases ht⟩,by simp [zeroH],fun o ho=>by cases ho⟩
theorem Fit.up {n:Nat} {g:HistD} (h:Fit n g):Fit (n+1) g:=⟨⟨by have:=h.1.1;omega,h.1.2⟩,by have:=h.2.1;omega,fun o ho=>by have:=h.2.2 o ho;omega⟩
theorem Fit.none {n:Nat} : Fit n zeroH:=by
 induction n with
 | zero=>exact Fit.zero
 | succ n ih=>exact ih.up
theorem ZmT {os:List OrdD} {ks:List Int} {t:TxD} {o:OrdD} (h:o ∈ Zdm t os ks):o ∈ os∨o.txs = []:=by
 unfold Zdm at h
 split at h
 · have key:∀ (ks:List Int) (os:List OrdD),o ∈ ks.foldl ZeB os→o ∈ os∨o.txs = []:=by
     intro ks
     induction ks with
     | nil=>intro os h;exact .inl h
     | cons k ks ih=>
       intro os h
       rcases ih _ h with h | h
       · rcases ZkF h with h | h
         · exact .inl h
         · exact .inr (by rw [h])
       · exact .inr h
   exact key ks os h
 · exact .inl h
theorem Zk6 {n:Nat} {t:TxD} {os:List OrdD} (ht:t.ops.length≤24) (h1:os.length≤24*n) (h2:∀ o ∈ os,o.txs.length≤n):(settleO t os).length≤24*(n+1) ∧ ∀ o ∈ settleO t os,o.txs.length≤n+1:=by
 have hk:=ZbG t
 have hl:(Zdm t os (ZJ t)).length≤os.length+(ZJ t).length:=by
   unfold Zdm
   split
   · have key:∀ (ks:List Int) (os:List OrdD),(ks.foldl ZeB os).length≤os.length+ks.length:=by
       intro ks
       induction ks with
       | nil=>intro os;simp
       | cons k ks ih=>intro os;have h1:=ih (ZeB os k);have h2:=ZkM os k;rw [List.foldl_cons,List.length_cons];omega
     exact key _ _
   · omega
 unfold settleO
 refine ⟨Nat.le_trans (List.length_filter_le _ _) (by rw [List.length_map];omega),fun o ho=>?_⟩
 obtain ⟨o',ho',e⟩:=List.mem_map.1 (List.mem_filter.1 ho).1
 have hlen:o'.txs.length≤n:=by
   rcases ZmT ho' with h | h
   · exact h2 o' h
   · rw [h];simp
 rw [← e]
 unfold Zi7
 show (if _ then _ else _:List Int).length≤_
 split
 · unfold withO;split
   · omega
   · simp;omega
 · unfold withoutO
   exact Nat.le_trans (List.length_filter_le _ _) (by omega)
theorem ZgJ {n:Nat} {g:HistD} {key:Int} {rule:List Int→List Int×Int} (hr:∀ l,(rule l).2=0→(rule l).1.length≤l.length) (h:Fit n g):Fit n (Zac g key rule).1:=by
 unfold Zac
 split
 · exact Fit.none
 · split
   · exact Fit.none
   · split
     · exact Fit.none
     · rename_i h1 h2 h3
       refine ⟨h.1,by show (List.set _ _ _).length≤_;rw [List.length_set];exact h.2.1,fun o ho=>?_⟩
       rcases List.mem_or_eq_of_mem_set ho with h4 | h4
       · exact h.2.2 o h4
       · have hk:isK OrdD.key key g.orders=true:=by simpa using h2
         have hlt:=(Zdo (ZR (Decidable.not_not.1 h1)).2 hk).1
         have:=hr _ (Decidable.not_not.1 h3)
         have:=h.2.2 _ (ZP hlt)
         rw [h4];show (rule _).1.length≤n;omega
theorem Fit.doH {n:Nat} {g:HistD} {e:EdD} (h:Fit n g) (he:ZfE e):Fit (n+1) (doH g e).1:=by
 have hset:∀ t:TxD,t.ops.length≤24 → ∀ txs:List TxD,txs.length≤n+1→(∀ t ∈ txs,t.ops.length≤24)→Fit (n+1) ⟨txs,settleO t g.orders⟩:=fun t ht txs h1 h2=>by
   obtain ⟨h3,h4⟩:=Zk6 ht h.2.1 h.2.2
   exact ⟨⟨h1,h2⟩,h3,h4⟩
 unfold Go.Proofs.YtjhapicamnijnaaGreat.doH
 split
 · unfold Z9
   split
   · exact Fit.none
   · split
     · exact Fit.none
     · refine hset _ he.1 _ ?_ fun t ht=>?_
       · have:=h.1.1;rw [List.length_append,List.length_append,List.length_take,List.length_drop];simp;omega
       · rw [List.mem_append,List.mem_append] at ht
         rcases ht with (ht | ht) | ht
         · exact h.1.2 t (List.mem_of_mem_take ht)
         · rw [List.mem_singleton.1 ht];exact he.1
         · exact h.1.2 t (List.mem_of_mem_drop ht)
 · split
   · unfold Z1
     split
     · exact Fit.none
     · split
       · exact Fit.none
       · split
         · exact Fit.none
         · refine hset _ (by simp [ZbU]) _ ?_ fun t ht=>?_
           · have:=h.1.1;rw [List.length_append,List.length_take,List.length_drop];omega
           · rw [List.mem_append] at ht
             rcases ht with ht | ht
             · exact h.1.2 t (List.mem_of_mem_take ht)
             · exact h.1.2 t (List.mem_of_mem_drop ht)
   · split
     · unfold ZaA
       split
       · exact Fit.none
       · split
         · exact Fit.none
         · refine hset _ he.1 _ ?_ fun t ht=>?_
           · have:=h.1.1;rw [List.length_set];omega
           · rcases List.mem_or_eq_of_mem_set ht with ht | ht
             · exact h.1.2 t ht
             · rw [ht];exact he.1
     · split
       · refine (ZgJ (fun l h0=>?_) h).up
         unfold Zc6 at h0 ⊢
         split at h0
         · rename_i hp;rw [if_pos hp,hp.length_eq];exact Nat.le_refl _
         · simp at h0
       · split
         · exact (ZgJ (fun l h0=>by show (Zaa l _ _).1.length≤_;exact Zmw _ _ _) h).up
         · exact Fit.none
theorem Fit.step {n:Nat} {g:HistD} {e:EdD} (h:Fit n g) (he:ZfE e):Fit (n+1) (ZjO g e):=by
 unfold ZjO
 split
 · exact h.doH he
 · exact h.up
theorem Sat.aggInt {B:Zbr} {E:En} {a:Act} {w:World} {F:Fp} (h:Sat B E a w F) {i:Nat} {l:List PV} {k:Nat} {x:Int} (hl:Go.Gm.look E.s i=some (SF.pv (PV.agg l))) (hk:l[k]? = some (.int .i64 x)):inR .i64 x:=by
 obtain ⟨vs,_,hv⟩:=h.s i _ hl
 obtain ⟨v,_,h2⟩:=PVs.at hv hk
 exact h2.2
theorem Zop (k:Int):FnP Tryz.prog 67 [.int .i64 k] (.agg (rWd (ZO k))):=by
 refine FnP.mk Tryz.func67 rfl Tryz.ntmps67 rfl ?_
 intro B a w F hB hfr hS
 refine wp_seq ?_
 refine Zc hS (qf (oH [.string ⟨#[]⟩,.int .i64 0,.int .i64 0] 101) trivial qz qZ) hB [2,0] [101,0] (fun _=>rfl) (fun _=>rfl) fun τ a w F hS=>?_
 try dsimp only [RS.sub,SF.sub,CF.sub,csub,Anc.sub,List.map,zCF] at hS
 generalize τ 2=v2 at hS
 refine Zb (wp_seq (wp_seq ?_))
 refine Za hS (qM rfl rfl qZ) hB [3,2] [101,0] rfl rfl fun a w F hS=>Zb (wp_block (wp_seq ?_))
 refine Za hS (qf (o_eql .t qi) r1 qz (qN rfl rfl qZ)) hB [4,3,2] [101,0] rfl rfl fun a w F hS=>Zb ?_
 refine Zd hS rfl (fun hc0=>?_) (fun hc0=>?_)
 ·skip
  have hk:=of_decide_eq_true hc0
  subst hk
  refine wp_seq ?_
  refine Za hS (qf (oB [(0,_),(1,_),(2,_)] [.string ⟨#[]⟩,.int .i64 0,.int .i64 0] [(0,1),(1,1),(2,1)] (.one rfl (.cs (by kernel_rfl)) ZF (by kernel_rfl) (.one rfl qi one_int (by kernel_rfl) (.one rfl qi one_int (by kernel_rfl) .nil)))) trivial qz (qs 3 101 r2 r1 qZ)) hB [2] [101,0] rfl rfl fun a w F hS=>Zb (wp_ret (Zk (Zf ?_)))
  refine Zr hfr hS rfl (.cl 101 true 3 rfl rfl .nil) (.one (.aggU rfl (by first | rfl | (unfold ZO;rw [if_neg n1,if_neg n2,if_neg n3,if_neg n4,if_neg n5,if_neg n6,if_neg n7,if_neg n8,if_neg n9,if_neg n10,if_neg n11,if_neg n12];rfl))))
 have n1:=of_decide_eq_false hc0
 refine wp_seq ?_
 refine Za hS (qf (o_eql .t qi) r1 qz (qN rfl rfl qZ)) hB [7,3,2] [101,0] rfl rfl fun a w F hS=>Zb ?_
 refine Zd hS rfl (fun hc1=>?_) (fun hc1=>?_)
 ·skip
  have hk:=of_decide_eq_true hc1
  subst hk
  refine wp_seq ?_
  refine Za hS (qf (oB [(0,_),(1,_),(2,_)] [.string ⟨#[]⟩,.int .i64 0,.int .i64 0] [(0,1),(1,1),(2,1)] (.one rfl (.cs (by kernel_rfl)) ZF (by kernel_rfl) (.one rfl qi one_int (by kernel_rfl) (.one rfl qi one_int (by kernel_rfl) .nil)))) trivial qz (qs 3 101 r2 r1 qZ)) hB [2] [101,0] rfl rfl fun a w F hS=>Zb (wp_ret (Zk (Zf ?_)))
  refine Zr hfr hS rfl (.cl 101 true 3 rfl rfl .nil) (.one (.aggU rfl (by first | rfl | (unfold ZO;rw [if_neg n1,if_neg n2,if_neg n3,if_neg n4,if_neg n5,if_neg n6,if_neg n7,if_neg n8,if_neg n9,if_neg n10,if_neg n11,if_neg n12];rfl))))
 have n2:=of_decide_eq_false hc1
 refine wp_seq ?_
 refine Za hS (qf (o_eql .t qi) r1 qz (qN rfl rfl qZ)) hB [10,3,2] [101,0] rfl rfl fun a w F hS=>Zb ?_
 refine Zd hS rfl (fun hc2=>?_) (fun hc2=>?_)
 ·skip
  have hk:=of_decide_eq_true hc2
  subst hk
  refine wp_seq ?_
  refine Za hS (qf (oB [(0,_),(1,_),(2,_)] [.string ⟨#[]⟩,.int .i64 0,.int .i64 0] [(0,1),(1,1),(2,1)] (.one rfl (.cs (by kernel_rfl)) ZF (by kernel_rfl) (.one rfl qi one_int (by kernel_rfl) (.one rfl qi one_int (by kernel_rfl) .nil)))) trivial qz (qs 3 101 r2 r1 qZ)) hB [2] [101,0] rfl rfl fun a w F hS=>Zb (wp_ret (Zk (Zf ?_)))
  refine Zr hfr hS rfl (.cl 101 true 3 rfl rfl .nil) (.one (.aggU rfl (by first | rfl | (unfold ZO;rw [if_neg n1,if_neg n2,if_neg n3,if_neg n4,if_neg n5,if_neg n6,if_neg n7,if_neg n8,if_neg n9,if_neg n10,if_neg n11,if_neg n12];rfl))))
 have n3:=of_decide_eq_false hc2
 refine wp_seq ?_
 refine Za hS (qf (o_eql .t qi) r1 qz (qN rfl rfl qZ)) hB [13,3,2] [101,0] rfl rfl fun a w F hS=>Zb ?_
 refine Zd hS rfl (fun hc3=>?_) (fun hc3=>?_)
 ·skip
  have hk:=of_decide_eq_true hc3
  subst hk
  refine wp_seq ?_
  refine Za hS (qf (oB [(0,_),(1,_),(2,_)] [.string ⟨#[]⟩,.int .i64 0,.int .i64 0] [(0,1),(1,1),(2,1)] (.one rfl (.cs (by kernel_rfl)) ZF (by kernel_rfl) (.one rfl qi one_int (by kernel_rfl) (.one rfl qi one_int (by kernel_rfl) .nil)))) trivial qz (qs 3 101 r2 r1 qZ)) hB [2] [101,0] rfl rfl fun a w F hS=>Zb (wp_ret (Zk (Zf ?_)))
  refine Zr hfr hS rfl (.cl 101 true 3 rfl rfl .nil) (.one (.aggU rfl (by first | rfl | (unfold ZO;rw [if_neg n1,if_neg n2,if_neg n3,if_neg n4,if_neg n5,if_neg n6,if_neg n7,if_neg n8,if_neg n9,if_neg n10,if_neg n11,if_neg n12];rfl))))
 have n4:=of_decide_eq_false hc3
 refine wp_seq ?_
 refine Za hS (qf (o_eql .t qi) r1 qz (qN rfl rfl qZ)) hB [16,3,2] [101,0] rfl rfl fun a w F hS=>Zb ?_
 refine Zd hS rfl (fun hc4=>?_) (fun hc4=>?_)
 ·skip
  have hk:=of_decide_eq_true hc4
  subst hk
  refine wp_seq ?_
  refine Za hS (qf (oB [(0,_),(1,_),(2,_)] [.string ⟨#[]⟩,.int .i64 0,.int .i64 0] [(0,1),(1,1),(2,1)] (.one rfl (.cs (by kernel_rfl)) ZF (by kernel_rfl) (.one rfl qi one_int (by kernel_rfl) (.one rfl qi one_int (by kernel_rfl) .nil)))) trivial qz (qs 3 101 r2 r1 qZ)) hB [2] [101,0] rfl rfl fun a w F hS=>Zb (wp_ret (Zk (Zf ?_)))
  refine Zr hfr hS rfl (.cl 101 true 3 rfl rfl .nil) (.one (.aggU rfl (by first | rfl | (unfold ZO;rw [if_neg n1,if_neg n2,if_neg n3,if_neg n4,if_neg n5,if_neg n6,if_neg n7,if_neg n8,if_neg n9,if_neg n10,if_neg n11,if_neg n12];rfl))))
 have n5:=of_decide_eq_false hc4
 refine wp_seq ?_
 refine Za hS (qf (o_eql .t qi) r1 qz (qN rfl rfl qZ)) hB [19,3,2] [101,0] rfl rfl fun a w F hS=>Zb ?_
 refine Zd hS rfl (fun hc5=>?_) (fun hc5=>?_)
 ·skip
  have hk:=of_decide_eq_true hc5
  subst hk
  refine wp_seq ?_
  refine Za hS (qf (oB [(0,_),(1,_),(2,_)] [.string ⟨#[]⟩,.int .i64 0,.int .i64 0] [(0,1),(1,1),(2,1)] (.one rfl (.cs (by kernel_rfl)) ZF (by kernel_rfl) (.one rfl qi one_int (by kernel_rfl) (.one rfl qi one_int (by kernel_rfl) .nil)))) trivial qz (qs 3 101 r2 r1 qZ)) hB [2] [101,0] rfl rfl fun a w F hS=>Zb (wp_ret (Zk (Zf ?_)))
  refine Zr hfr hS rfl (.cl 101 true 3 rfl rfl .nil) (.one (.aggU rfl (by first | rfl | (unfold ZO;rw [if_neg n1,if_neg n2,if_neg n3,if_neg n4,if_neg n5,if_neg n6,if_neg n7,if_neg n8,if_neg n9,if_neg n10,if_neg n11,if_neg n12];rfl))))
 have n6:=of_decide_eq_false hc5
 refine wp_seq ?_
 refine Za hS (qf (o_eql .t qi) r1 qz (qN rfl rfl qZ)) hB [22,3,2] [101,0] rfl rfl fun a w F hS=>Zb ?_
 refine Zd hS rfl (fun hc6=>?_) (fun hc6=>?_)
 ·skip
  have hk:=of_decide_eq_true hc6
  subst hk
  refine wp_seq ?_
  refine Za hS (qf (oB [(0,_),(1,_),(2,_)] [.string ⟨#[]⟩,.int .i64 0,.int .i64 0] [(0,1),(1,1),(2,1)] (.one rfl (.cs (by kernel_rfl)) ZF (by kernel_rfl) (.one rfl qi one_int (by kernel_rfl) (.one rfl qi one_int (by kernel_rfl) .nil)))) trivial qz (qs 3 101 r2 r1 qZ)) hB [2] [101,0] rfl rfl fun a w F hS=>Zb (wp_ret (Zk (Zf ?_)))
  refine Zr hfr hS rfl (.cl 101 true 3 rfl rfl .nil) (.one (.aggU rfl (by first | rfl | (unfold ZO;rw [if_neg n1,if_neg n2,if_neg n3,if_neg n4,if_neg n5,if_neg n6,if_neg n7,if_neg n8,if_neg n9,if_neg n10,if_neg n11,if_neg n12];rfl))))
 have n7:=of_decide_eq_false hc6
 refine wp_seq ?_
 refine Za hS (qf (o_eql .t qi) r1 qz (qN rfl rfl qZ)) hB [25,3,2] [101,0] rfl rfl fun a w F hS=>Zb ?_
 refine Zd hS rfl (fun hc7=>?_) (fun hc7=>?_)
 ·skip
  have hk:=of_decide_eq_true hc7
  subst hk
  refine wp_seq ?_
  refine Za hS (qf (oB [(0,_),(1,_),(2,_)] [.string ⟨#[]⟩,.int .i64 0,.int .i64 0] [(0,1),(1,1),(2,1)] (.one rfl (.cs (by kernel_rfl)) ZF (by kernel_rfl) (.one rfl qi one_int (by kernel_rfl) (.one rfl qi one_int (by kernel_rfl) .nil)))) trivial qz (qs 3 101 r2 r1 qZ)) hB [2] [101,0] rfl rfl fun a w F hS=>Zb (wp_ret (Zk (Zf ?_)))
  refine Zr hfr hS rfl (.cl 101 true 3 rfl rfl .nil) (.one (.aggU rfl (by first | rfl | (unfold ZO;rw [if_neg n1,if_neg n2,if_neg n3,if_neg n4,if_neg n5,if_neg n6,if_neg n7,if_neg n8,if_neg n9,if_neg n10,if_neg n11,if_neg n12];rfl))))
 have n8:=of_decide_eq_false hc7
 refine wp_seq ?_
 refine Za hS (qf (o_eql .t qi) r1 qz (qN rfl rfl qZ)) hB [28,3,2] [101,0] rfl rfl fun a w F hS=>Zb ?_
 refine Zd hS rfl (fun hc8=>?_) (fun hc8=>?_)
 ·skip
  have hk:=of_decide_eq_true hc8
  subst hk
  refine wp_seq ?_
  refine Za hS (qf (oB [(0,_),(1,_),(2,_)] [.string ⟨#[]⟩,.int .i64 0,.int .i64 0] [(0,1),(1,1),(2,1)] (.one rfl (.cs (by kernel_rfl)) ZF (by kernel_rfl) (.one rfl qi one_int (by kernel_rfl) (.one rfl qi one_int (by kernel_rfl) .nil)))) trivial qz (qs 3 101 r2 r1 qZ)) hB [2] [101,0] rfl rfl fun a w F hS=>Zb (wp_ret (Zk (Zf ?_)))
  refine Zr hfr hS rfl (.cl 101 true 3 rfl rfl .nil) (.one (.aggU rfl (by first | rfl | (unfold ZO;rw [if_neg n1,if_neg n2,if_neg n3,if_neg n4,if_neg n5,if_neg n6,if_neg n7,if_neg n8,if_neg n9,if_neg n10,if_neg n11,if_neg n12];rfl))))
 have n9:=of_decide_eq_false hc8
 refine wp_seq ?_
 refine Za hS (qf (o_eql .t qi) r1 qz (qN rfl rfl qZ)) hB [31,3,2] [101,0] rfl rfl fun a w F hS=>Zb ?_
 refine Zd hS rfl (fun hc9=>?_) (fun hc9=>?_)
 ·skip
  have hk:=of_decide_eq_true hc9
  subst hk
  refine wp_seq ?_
  refine Za hS (qf (oB [(0,_),(1,_),(2,_)] [.string ⟨#[]⟩,.int .i64 0,.int .i64 0] [(0,1),(1,1),(2,1)] (.one rfl (.cs (by kernel_rfl)) ZF (by kernel_rfl) (.one rfl qi one_int (by kernel_rfl) (.one rfl qi one_int (by kernel_rfl) .nil)))) trivial qz (qs 3 101 r2 r1 qZ)) hB [2] [101,0] rfl rfl fun a w F hS=>Zb (wp_ret (Zk (Zf ?_)))
  refine Zr hfr hS rfl (.cl 101 true 3 rfl rfl .nil) (.one (.aggU rfl (by first | rfl | (unfold ZO;rw [if_neg n1,if_neg n2,if_neg n3,if_neg n4,if_neg n5,if_neg n6,if_neg n7,if_neg n8,if_neg n9,if_neg n10,if_neg n11,if_neg n12];rfl))))
 have n10:=of_decide_eq_false hc9
 refine wp_seq ?_
 refine Za hS (qf (o_eql .t qi) r1 qz (qN rfl rfl qZ)) hB [34,3,2] [101,0] rfl rfl fun a w F hS=>Zb ?_
 refine Zd hS rfl (fun hc10=>?_) (fun hc10=>?_)
 ·skip
  have hk:=of_decide_eq_true hc10
  subst hk
  refine wp_seq ?_
  refine Za hS (qf (oB [(0,_),(1,_),(2,_)] [.string ⟨#[]⟩,.int .i64 0,.int .i64 0] [(0,1),(1,1),(2,1)] (.one rfl (.cs (by kernel_rfl)) ZF (by kernel_rfl) (.one rfl qi one_int (by kernel_rfl) (.one rfl qi one_int (by kernel_rfl) .nil)))) trivial qz (qs 3 101 r2 r1 qZ)) hB [2] [101,0] rfl rfl fun a w F hS=>Zb (wp_ret (Zk (Zf ?_)))
  refine Zr hfr hS rfl (.cl 101 true 3 rfl rfl .nil) (.one (.aggU rfl (by first | rfl | (unfold ZO;rw [if_neg n1,if_neg n2,if_neg n3,if_neg n4,if_neg n5,if_neg n6,if_neg n7,if_neg n8,if_neg n9,if_neg n10,if_neg n11,if_neg n12];rfl))))
 have n11:=of_decide_eq_false hc10
 refine wp_seq ?_
 refine Za hS (qf (o_eql .t qi) r1 qz (qN rfl rfl qZ)) hB [37,2] [101,0] rfl rfl fun a w F hS=>Zb ?_
 refine Zd hS rfl (fun hc11=>?_) (fun hc11=>?_)
 ·skip
  have hk:=of_decide_eq_true hc11
  subst hk
  refine wp_seq ?_
  refine Za hS (qf (oB [(0,_),(1,_),(2,_)] [.string ⟨#[]⟩,.int .i64 0,.int .i64 0] [(0,1),(1,1),(2,1)] (.one rfl (.cs (by kernel_rfl)) ZF (by kernel_rfl) (.one rfl qi one_int (by kernel_rfl) (.one rfl qi one_int (by kernel_rfl) .nil)))) trivial qz (qs 3 101 r2 r1 qZ)) hB [2] [101,0] rfl rfl fun a w F hS=>Zb (wp_ret (Zk (Zf ?_)))
  refine Zr hfr hS rfl (.cl 101 true 3 rfl rfl .nil) (.one (.aggU rfl (by first | rfl | (unfold ZO;rw [if_neg n1,if_neg n2,if_neg n3,if_neg n4,if_neg n5,if_neg n6,if_neg n7,if_neg n8,if_neg n9,if_neg n10,if_neg n11,if_neg n12];rfl))))
 have n12:=of_decide_eq_false hc11
 refine wp_skip (Zh (Zb (wp_seq ?_)))
 refine Za hS (qf (oB [] [.string ⟨#[]⟩,.int .i64 0,.int .i64 0] [(0,1),(1,1),(2,1)] .nil) trivial qz (qs 3 101 r2 r1 qZ)) hB [2] [101,0] rfl rfl fun a w F hS=>Zb (wp_ret ?_)
 refine Zr hfr hS rfl (.cl 101 true 3 rfl rfl .nil) (.one (.aggU rfl (by first | rfl | (unfold ZO;rw [if_neg n1,if_neg n2,if_neg n3,if_neg n4,if_neg n5,if_neg n6,if_neg n7,if_neg n8,if_neg n9,if_neg n10,if_neg n11,if_neg n12];rfl))))
theorem ZoB (p:Int):FnP Tryz.prog 140 [.int .i64 p] (.tup [.bs (Zi1 p),.bs (Za1 p)]):=by
 refine FnP.mk Tryz.func140 rfl Tryz.ntmps140 rfl ?_
 intro B a w F hB hfr hS
 refine wp_seq ?_
 refine Za hS (qf (oN (.cs (by kernel_rfl))) trivial qz (qf (oN (.cs (by kernel_rfl))) trivial qz qZ)) hB [3,2,0] [0] rfl rfl fun a w F hS=>Zb (wp_seq (wp_seq ?_))
 refine Za hS (qM rfl rfl qZ) hB [4,3,2] [0] rfl rfl fun a w F hS=>Zb (wp_block (wp_seq ?_))
 refine Za hS (qf (o_eql .t qi) r1 qz (qN rfl rfl qZ)) hB [5,4,3,2] [0] rfl rfl fun a w F hS=>Zb ?_
 refine Zd hS rfl (fun hc0=>?_) (fun hc0=>?_)
 ·skip
  have hk:=of_decide_eq_true hc0
  subst hk
  refine wp_seq ?_
  refine Za hS (qf (oN (.cs (by kernel_rfl))) trivial qz (qf (oN (.cs (by kernel_rfl))) trivial qz qZ)) hB [3,2] [0] rfl rfl fun a w F hS=>Zb (wp_ret (Zk (Zf ?_)))
  refine Zr hfr hS rfl (.tmp rfl (.tmp rfl .nil)) (.two (.bs (by first | rfl | (unfold Zi1;rw [if_neg n1,if_neg n2,if_neg n3,if_neg n4,if_neg n5]))) (.bs (by first | rfl | (unfold Za1;rw [if_neg n1,if_neg n2,if_neg n3,if_neg n4,if_neg n5]))))
 have n1:=of_decide_eq_false hc0
 refine wp_seq ?_
 refine Za hS (qf (o_eql .t qi) r1 qz (qN rfl rfl qZ)) hB [7,4,3,2] [0] rfl rfl fun a w F hS=>Zb ?_
 refine Zd hS rfl (fun hc1=>?_) (fun hc1=>?_)
 ·skip
  have hk:=of_decide_eq_true hc1
  subst hk
  refine wp_seq ?_
  refine Za hS (qf (oN (.cs (by kernel_rfl))) trivial qz (qf (oN (.cs (by kernel_rfl))) trivial qz qZ)) hB [3,2] [0] rfl rfl fun a w F hS=>Zb (wp_ret (Zk (Zf ?_)))
  refine Zr hfr hS rfl (.tmp rfl (.tmp rfl .nil)) (.two (.bs (by first | rfl | (unfold Zi1;rw [if_neg n1,if_neg n2,if_neg n3,if_neg n4,if_neg n5]))) (.bs (by first | rfl | (unfold Za1;rw [if_neg n1,if_neg n2,if_neg n3,if_neg n4,if_neg n5]))))
 have n2:=of_decide_eq_false hc1
 refine wp_seq ?_
 refine Za hS (qf (o_eql .t qi) r1 qz (qN rfl rfl qZ)) hB [9,4,3,2] [0] rfl rfl fun a w F hS=>Zb ?_
 refine Zd hS rfl (fun hc2=>?_) (fun hc2=>?_)
 ·skip
  have hk:=of_decide_eq_true hc2
  subst hk
  refine wp_seq ?_
  refine Za hS (qf (oN (.cs (by kernel_rfl))) trivial qz (qf (oN (.cs (by kernel_rfl))) trivial qz qZ)) hB [3,2] [0] rfl rfl fun a w F hS=>Zb (wp_ret (Zk (Zf ?_)))
  refine Zr hfr hS rfl (.tmp rfl (.tmp rfl .nil)) (.two (.bs (by first | rfl | (unfold Zi1;rw [if_neg n1,if_neg n2,if_neg n3,if_neg n4,if_neg n5]))) (.bs (by first | rfl | (unfold Za1;rw [if_neg n1,if_neg n2,if_neg n3,if_neg n4,if_neg n5]))))
 have n3:=of_decide_eq_false hc2
 refine wp_seq ?_
 refine Za hS (qf (o_eql .t qi) r1 qz (qN rfl rfl qZ)) hB [11,4,3,2] [0] rfl rfl fun a w F hS=>Zb ?_
 refine Zd hS rfl (fun hc3=>?_) (fun hc3=>?_)
 ·skip
  have hk:=of_decide_eq_true hc3
  subst hk
  refine wp_seq ?_
  refine Za hS (qf (oN (.cs (by kernel_rfl))) trivial qz (qf (oN (.cs (by kernel_rfl))) trivial qz qZ)) hB [3,2] [0] rfl rfl fun a w F hS=>Zb (wp_ret (Zk (Zf ?_)))
  refine Zr hfr hS rfl (.tmp rfl (.tmp rfl .nil)) (.two (.bs (by first | rfl | (unfold Zi1;rw [if_neg n1,if_neg n2,if_neg n3,if_neg n4,if_neg n5]))) (.bs (by first | rfl | (unfold Za1;rw [if_neg n1,if_neg n2,if_neg n3,if_neg n4,if_neg n5]))))
 have n4:=of_decide_eq_false hc3
 refine wp_seq ?_
 refine Za hS (qf (o_eql .t qi) r1 qz (qN rfl rfl qZ)) hB [13,3,2] [0] rfl rfl fun a w F hS=>Zb ?_
 refine Zd hS rfl (fun hc4=>?_) (fun hc4=>?_)
 ·skip
  have hk:=of_decide_eq_true hc4
  subst hk
  refine wp_seq ?_
  refine Za hS (qf (oN (.cs (by kernel_rfl))) trivial qz (qf (oN (.cs (by kernel_rfl))) trivial qz qZ)) hB [3,2] [0] rfl rfl fun a w F hS=>Zb (wp_ret (Zk (Zf ?_)))
  refine Zr hfr hS rfl (.tmp rfl (.tmp rfl .nil)) (.two (.bs (by first | rfl | (unfold Zi1;rw [if_neg n1,if_neg n2,if_neg n3,if_neg n4,if_neg n5]))) (.bs (by first | rfl | (unfold Za1;rw [if_neg n1,if_neg n2,if_neg n3,if_neg n4,if_neg n5]))))
 have n5:=of_decide_eq_false hc4
 refine wp_skip (Zh (Zb (wp_seq ?_)))
 refine Za hS (qf (oN (.cs (by kernel_rfl))) trivial qz (qf (oN (.cs (by kernel_rfl))) trivial qz qZ)) hB [3,2] [0] rfl rfl fun a w F hS=>Zb (wp_ret ?_)
 refine Zr hfr hS rfl (.tmp rfl (.tmp rfl .nil)) (.two (.bs (by first | rfl | (unfold Zi1;rw [if_neg n1,if_neg n2,if_neg n3,if_neg n4,if_neg n5]))) (.bs (by first | rfl | (unfold Za1;rw [if_neg n1,if_neg n2,if_neg n3,if_neg n4,if_neg n5]))))
theorem Zob (p:Int):FnP Tryz.prog 71 [.int .i64 p] (.bs (Za1 p)):=by
 refine FnP.mk Tryz.func71 rfl Tryz.ntmps71 rfl ?_
 intro B a w F hB hfr hS
 refine wp_seq ?_
 refine Za hS (qf (oN (.cs (by kernel_rfl))) trivial qz qZ) hB [2,0] [0] rfl rfl fun a w F hS=>Zb (wp_seq ?_)
 refine Za hS (qM rfl rfl (qf (oP (ZoB p) Tryz.func140 (Args.one .t)) r1 qz (qM rfl rfl (qf (o_extract .t rfl) r1 qz (qf (o_extract .t rfl) r1 qz (qN rfl rfl (qN rfl rfl qZ))))))) hB [4,2] [0] rfl rfl fun a w F hS=>Zb (wp_seq ?_)
 refine Za hS (qM rfl rfl (qN rfl rfl qZ)) hB [2] [0] rfl rfl fun a w F hS=>Zb (wp_ret ?_)
 refine Zn hfr hS rfl rfl rfl .refl
theorem Zcp (o:OpD):(Zay o).length≤100:=by
 by_cases hk:Z0 o=true
 · exact Zil hk
 · unfold Zay;rw [if_pos (by simpa using hk)];simp
theorem ZjT (t:TxD) (ht:t.ops.length≤1000000):FnP Tryz.prog 68 [.agg (rTx t)] (.bs (ZcI t)):=by
 refine FnP.mk Tryz.func68 rfl Tryz.ntmps68 rfl ?_
 intro B a w F hB hfr hS
 have hid:=Zca (Sat.aggInt hS (i:=0) (k:=0) rfl rfl)
 have htl:=ZN hid
 have hhl:(Za3 t).length≤23:=by unfold Za3;rw [List.length_append];split <;> simp only [List.length_cons,List.length_nil] <;> omega
 refine wp_seq ?_
 refine Zc hS (qx 101 r1 (qf (oN (.cs (by kernel_rfl))) trivial qz qZ)) hB [2,1] [101,0] (fun _=>rfl) (fun _=>rfl) fun τ a w F hS=>?_
 try dsimp only [RS.sub,SF.sub,CF.sub,csub,Anc.sub,List.map,zCF] at hS
 generalize τ 1=v1 at hS
 refine Zb (wp_seq ?_)
 refine Zc hS (qf (oH [.pointer none,.slice none 0 0] 102) trivial qz qZ) hB [3,2,1] [102,101,0] (fun _=>rfl) (fun _=>rfl) fun τ a w F hS=>?_
 try dsimp only [RS.sub,SF.sub,CF.sub,csub,Anc.sub,List.map,zCF] at hS
 generalize τ 3=v3 at hS
 obtain ⟨b,rfl⟩:=hS.shape 102 rfl
 replace hS:=hS.fresh 9 rfl
 replace hS:=hS.turn 9 rfl (Zav (T:=5) (sz:=1) (R:=rC))
 replace hS:=hS.fresh 10 rfl
 obtain ⟨F,hS⟩:=hS.push 10 9 rfl rfl rfl (by kernel_rfl)
 obtain ⟨F,hS⟩:=hS.push 10 102 rfl rfl rfl (by kernel_rfl)
 replace hS:=hS.turn 10 rfl (r':=RS.hp (Z3 (.pointer (some ⟨b,0,none⟩)) [])) (fun _ _ _ _ h=>⟨_,.inl rfl,_,fun _=>rfl,h⟩)
 obtain ⟨F,hS⟩:=hS.nm [3,2,1] [101,10,0] rfl rfl
 refine Zb (wp_seq ?_)
 refine Za hS (qg 0 101 r1 r1 (qa 101 r1 r1 (qf (oP (Zc9 t.id) Tryz.func69 (Args.one .t)) r1 qz (qf (o_callG1 10 (Zas b [] (by simp) (textL t.id) (Zhk _) (by omega)) Tryz.func135 rfl (by kernel_rfl) (Args.two .t .t)) r2 r1 qZ)))) hB [3,2,1] [101,10,0] rfl rfl fun a w F hS=>?_
 replace hS:=hS.turn 10 rfl (r':=RS.hp (Z3 (.pointer (some ⟨b,0,none⟩)) (textL t.id))) (fun _ _ _ _ h=>⟨_,.inr rfl,h⟩)
 refine Zb (wp_seq (wp_seq ?_))
 refine Za hS (qg 1 101 r1 r1 (qa 101 r1 r1 qZ)) hB [11,3,2,1] [101,10,0] rfl rfl fun a w F hS=>Zb ?_
 refine Zd hS rfl (fun hc0=>?_) (fun hc0=>?_)
 ·skip
  have hdn:t.done=true:=hc0
  refine Za hS (qf (o_callG1 10 (Zas b (textL t.id) (by omega) [32,99] (by simp) (by simp)) Tryz.func135 rfl (by kernel_rfl) (Args.two .t (.cs (by kernel_rfl)))) r1 r1 qZ) hB [3,2,1] [101,10,0] rfl rfl fun a w F hS=>?_
  replace hS:=hS.turn 10 rfl (r':=RS.hp (Z3 (.pointer (some ⟨b,0,none⟩)) (Za3 t++Zc3 (t.ops.take 0)))) (fun _ _ _ _ h=>⟨_,.inr rfl,by rw [show (Za3 t++Zc3 (t.ops.take 0))=textL t.id ++ [32,99] by unfold Za3 Zc3;rw [hdn];simp];exact h⟩)
  refine Zb (wp_seq (wp_seq ?_))
  refine Za hS (qg 2 101 r1 r1 (qa 101 r1 r1 (qu Tryz.underlying38 r1 (qJ qZ)))) hB [17,16,15,3,2] [101,10,0] rfl rfl fun a w F hS=>Zb (wp_block ?_)
  obtain ⟨F,hS⟩:=hS.nm [17,16,15,3] [10,0] rfl rfl
  refine ZQ (σ:=Nat) (fun s=>(⟨[(3,.pv (.is (.pointer (some ⟨b,0,none⟩)))),(15,.pv (.sl rOp t.ops)),(16,.pv (.int .i64 (t.ops.length:Nat))),(17,.pv (.int .i64 (s:Nat)))],[(0,frame B),(10,RS.hp (Z3 (.pointer (some ⟨b,0,none⟩)) (Za3 t++Zc3 (t.ops.take s))))]⟩:En)) (fun s=>s≤t.ops.length) (fun s=>t.ops.length - s) 0 hS (Nat.zero_le _) ?_
  clear hS;intro i a w F hC hS
  try dsimp only at hC
  try dsimp only at hS
  have hi0:=hC
  have hct:(Zc3 (t.ops.take i)).length≤101*i:=Nat.le_trans (ZcY _) (by rw [List.length_take];omega)
  refine wp_seq ?_
  refine Za hS (qL r2) hB [18,17,16,15,3] [10,0] rfl rfl fun a w F hS=>Zb (wp_seq ?_)
  refine Zd hS rfl (fun hc1=>?_) (fun hc1=>?_)
  ·skip
   have hi:i<t.ops.length:=by have h9:=of_decide_eq_true hc1;omega
   have hto:(Zay (nth t.ops i)).length≤100:=Zcp _
   refine wp_skip (Zb (wp_seq (wp_block (wp_seq ?_))))
   refine Zc hS (qy 4 Tryz.underlying38 r2 (qf (oR true 4 .t) r1 qz (qf (oH [.bool false,.int .i64 0,.int .i64 0,.int .i64 0] 103) trivial qz (qS 4 103 r2 r1 qZ)))) hB [17,16,15,5,3] [103,10,0] (fun _=>rfl) (fun _=>rfl) fun τ a w F hS=>?_
   try dsimp only [RS.sub,SF.sub,CF.sub,csub,Anc.sub,List.map,Zg,xL,xM,Nat.reduceAdd,xD,xE,xT,xU,xC,xN,zCF,ldSF] at hS
   generalize τ 5=v5 at hS
   rw [Int.toNat_natCast] at hS
   refine Zb ?_
   refine Za hS (qe 4 103 r1 r1 (qf (oP (ZjC (nth t.ops i)) Tryz.func136 (Args.one (.pagg .t))) r1 qz (qf (Zw (.cs (by kernel_rfl)) .t (by simp only [List.length_cons,List.length_nil];omega)) r1 qz (qf (o_callG1 10 (Zas b (Za3 t++Zc3 (t.ops.take i)) (by rw [List.length_append];omega) ([32] ++ (Zay (nth t.ops i))) (by simp) (by simp only [List.length_append,List.length_cons,List.length_nil];omega)) Tryz.func135 rfl (by kernel_rfl) (Args.two .t .t)) r2 r1 qZ)))) hB [17,16,15,3] [10,0] rfl rfl fun a w F hS=>Zh (Zb ?_)
   refine Za hS (qp r1 (qM rfl rfl qZ)) hB [17,16,15,3] [10,0] rfl rfl fun a w F hS=>Zb ?_
   replace hS:=hS.turn 10 rfl (r':=RS.hp (Z3 (.pointer (some ⟨b,0,none⟩)) (Za3 t++Zc3 (t.ops.take (i+1))))) (fun _ _ _ _ h=>⟨_,.inr rfl,by rw [ZdO hi,← List.append_assoc];exact h⟩)
   replace hS:=hS.ent (i:=17) (s':=.pv (.int .i64 ((i+1:Nat):Int))) rfl (.int (Ze (by omega)))
   obtain ⟨F,hS⟩:=hS.nm [17,16,15,3] [10,0] rfl rfl
   exact ⟨i+1,F,(by omega),hS,by omega⟩
  have hil:i=t.ops.length:=by have h9:=of_decide_eq_false hc1;omega
  rw [hil,List.take_length] at hS
  refine wp_exit (Zi (Zi (Zo (Zb (wp_seq ?_)))))
  refine Za hS (qf (o_callG1 10 (Zhq b (Za3 t++Zc3 t.ops)) Tryz.func137 rfl (by kernel_rfl) (Args.one .t)) r1 r1 (qN rfl rfl qZ)) hB [2] [10,0] rfl rfl fun a w F hS=>Zb (wp_ret ?_)
  refine Zn hfr hS rfl rfl rfl (.bs (by unfold ZcI;rfl))
 have hdn:t.done=false:=hc0
 refine Za hS (qf (o_callG1 10 (Zas b (textL t.id) (by omega) [32,97] (by simp) (by simp)) Tryz.func135 rfl (by kernel_rfl) (Args.two .t (.cs (by kernel_rfl)))) r1 r1 qZ) hB [3,2,1] [101,10,0] rfl rfl fun a w F hS=>?_
 replace hS:=hS.turn 10 rfl (r':=RS.hp (Z3 (.pointer (some ⟨b,0,none⟩)) (Za3 t++Zc3 (t.ops.take 0)))) (fun _ _ _ _ h=>⟨_,.inr rfl,by rw [show (Za3 t++Zc3 (t.ops.take 0))=textL t.id ++ [32,97] by unfold Za3 Zc3;rw [hdn];simp];exact h⟩)
 refine Zb (wp_seq (wp_seq ?_))
 refine Za hS (qg 2 101 r1 r1 (qa 101 r1 r1 (qu Tryz.underlying38 r1 (qJ qZ)))) hB [17,16,15,3,2] [101,10,0] rfl rfl fun a w F hS=>Zb (wp_block ?_)
 obtain ⟨F,hS⟩:=hS.nm [17,16,15,3] [10,0] rfl rfl
 refine ZQ (σ:=Nat) (fun s=>(⟨[(3,.pv (.is (.pointer (some ⟨b,0,none⟩)))),(15,.pv (.sl rOp t.ops)),(16,.pv (.int .i64 (t.ops.length:Nat))),(17,.pv (.int .i64 (s:Nat)))],[(0,frame B),(10,RS.hp (Z3 (.pointer (some ⟨b,0,none⟩)) (Za3 t++Zc3 (t.ops.take s))))]⟩:En)) (fun s=>s≤t.ops.length) (fun s=>t.ops.length - s) 0 hS (Nat.zero_le _) ?_
 clear hS;intro i a w F hC hS
 try dsimp only at hC
 try dsimp only at hS
 have hi0:=hC
 have hct:(Zc3 (t.ops.take i)).length≤101*i:=Nat.le_trans (ZcY _) (by rw [List.length_take];omega)
 refine wp_seq ?_
 refine Za hS (qL r2) hB [18,17,16,15,3] [10,0] rfl rfl fun a w F hS=>Zb (wp_seq ?_)
 refine Zd hS rfl (fun hc2=>?_) (fun hc2=>?_)
 ·skip
  have hi:i<t.ops.length:=by have h9:=of_decide_eq_true hc2;omega
  have hto:(Zay (nth t.ops i)).length≤100:=Zcp _
  refine wp_skip (Zb (wp_seq (wp_block (wp_seq ?_))))
  refine Zc hS (qy 4 Tryz.underlying38 r2 (qf (oR true 4 .t) r1 qz (qf (oH [.bool false,.int .i64 0,.int .i64 0,.int .i64 0] 104) trivial qz (qS 4 104 r2 r1 qZ)))) hB [17,16,15,5,3] [104,10,0] (fun _=>rfl) (fun _=>rfl) fun τ a w F hS=>?_
  try dsimp only [RS.sub,SF.sub,CF.sub,csub,Anc.sub,List.map,Zg,xL,xM,Nat.reduceAdd,xD,xE,xT,xU,xC,xN,zCF,ldSF] at hS
  generalize τ 5=v5 at hS
  rw [Int.toNat_natCast] at hS
  refine Zb ?_
  refine Za hS (qe 4 104 r1 r1 (qf (oP (ZjC (nth t.ops i)) Tryz.func136 (Args.one (.pagg .t))) r1 qz (qf (Zw (.cs (by kernel_rfl)) .t (by simp only [List.length_cons,List.length_nil];omega)) r1 qz (qf (o_callG1 10 (Zas b (Za3 t++Zc3 (t.ops.take i)) (by rw [List.length_append];omega) ([32] ++ (Zay (nth t.ops i))) (by simp) (by simp only [List.length_append,List.length_cons,List.length_nil];omega)) Tryz.func135 rfl (by kernel_rfl) (Args.two .t .t)) r2 r1 qZ)))) hB [17,16,15,3] [10,0] rfl rfl fun a w F hS=>Zh (Zb ?_)
  refine Za hS (qp r1 (qM rfl rfl qZ)) hB [17,16,15,3] [10,0] rfl rfl fun a w F hS=>Zb ?_
  replace hS:=hS.turn 10 rfl (r':=RS.hp (Z3 (.pointer (some ⟨b,0,none⟩)) (Za3 t++Zc3 (t.ops.take (i+1))))) (fun _ _ _ _ h=>⟨_,.inr rfl,by rw [ZdO hi,← List.append_assoc];exact h⟩)
  replace hS:=hS.ent (i:=17) (s':=.pv (.int .i64 ((i+1:Nat):Int))) rfl (.int (Ze (by omega)))
  obtain ⟨F,hS⟩:=hS.nm [17,16,15,3] [10,0] rfl rfl
  exact ⟨i+1,F,(by omega),hS,by omega⟩
 have hil:i=t.ops.length:=by have h9:=of_decide_eq_false hc2;omega
 rw [hil,List.take_length] at hS
 refine wp_exit (Zi (Zi (Zo (Zb (wp_seq ?_)))))
 refine Za hS (qf (o_callG1 10 (Zhq b (Za3 t++Zc3 t.ops)) Tryz.func137 rfl (by kernel_rfl) (Args.one .t)) r1 r1 (qN rfl rfl qZ)) hB [2] [10,0] rfl rfl fun a w F hS=>Zb (wp_ret ?_)
 refine Zn hfr hS rfl rfl rfl (.bs (by unfold ZcI;rfl))
theorem ZnW (x y:List Int):FnP Tryz.prog 104 [.sl rInt x,.sl rInt y] (.bool (decide (x=y))):=by
 refine FnP.mk Tryz.func104 rfl Tryz.ntmps104 rfl ?_
 intro B a w F hB hfr hS
 have hxl:=Sat.lenSl hS (i:=0) rfl
 refine wp_seq ?_
 refine Za hS qB hB [4,1,0] [0] rfl rfl fun a w F hS=>Zb (wp_seq (wp_seq ?_))
 refine Za hS (qM rfl rfl (qu Tryz.underlying41 r1 (qM rfl rfl (qu Tryz.underlying41 r1 (qf (o_neq .t .t) r2 qz qZ))))) hB [10,4,1,0] [0] rfl rfl fun a w F hS=>Zb ?_
 refine Zd hS rfl (fun hc0=>?_) (fun hc0=>?_)
 ·skip
  have hg:false=decide (x=y):=by
    rw [eq_comm,decide_eq_false_iff_not]
    intro h
    subst h
    simp at hc0
  refine wp_seq ?_
  refine Za hS qB hB [4,1,0] [0] rfl rfl fun a w F hS=>Zb (wp_ret (Zf ?_))
  refine Zn hfr hS rfl rfl rfl (.bool hg)
 have hl:x.length=y.length:=by simp at hc0;omega
 refine wp_skip (Zb (wp_seq (wp_seq ?_)))
 refine Za hS (qM rfl rfl (qu Tryz.underlying41 r1 (qJ qZ))) hB [13,12,4,1,0] [0] rfl rfl fun a w F hS=>Zb (wp_block ?_)
 obtain ⟨F,hS⟩:=hS.nm [13,12,1,0] [0] rfl rfl
 refine ZQ (σ:=Nat) (fun s=>(⟨[(0,.pv (.sl rInt x)),(1,.pv (.sl rInt y)),(12,.pv (.int .i64 x.length)),(13,.pv (.int .i64 s))],[(0,frame B)]⟩:En)) (fun s=>s≤x.length ∧ ∀ j,j<s→Go.Gm.nth x j=Go.Gm.nth y j) (fun s=>x.length - s) 0 hS ⟨Nat.zero_le _,fun j hj=>absurd hj (Nat.not_lt_zero j)⟩ ?_
 clear hS;intro i a w F hC hS
 try dsimp only at hC
 try dsimp only at hS
 obtain ⟨hi,hq⟩:=hC
 refine wp_seq ?_
 refine Za hS (qL r2) hB [14,13,12,1,0] [0] rfl rfl fun a w F hS=>Zb (wp_seq ?_)
 refine Zd hS rfl (fun hc1=>?_) (fun hc1=>?_)
 ·skip
  have hil:i<x.length:=by simp at hc1;omega
  refine wp_skip (Zb (wp_seq (wp_block (wp_seq ?_))))
  refine Za hS (qM rfl rfl (qN rfl rfl qZ)) hB [13,12,5,1,0] [0] rfl rfl fun a w F hS=>Zb (wp_seq ?_)
  refine Zu hS (qM rfl rfl (qM rfl rfl (qy 1 Tryz.underlying41 r2 (qf (oR false 1 .t) r1 qz (qM rfl rfl (qM rfl rfl (qy 1 Tryz.underlying41 r2 (qf (oR false 1 .t) r1 qz (qf (o_neq .t .t) r2 qz qZ))))))))) hB [24,13,12,1,0] [0] rfl rfl fun a w F hS=>?_
  try dsimp only [List.map,xD,xE,xT,xU,ldSF] at hS
  refine Zb ?_
  refine Zd hS rfl (fun hc2=>?_) (fun hc2=>?_)
  ·skip
   have hg:false=decide (x=y):=by
     rw [eq_comm,decide_eq_false_iff_not]
     intro h
     subst h
     simp at hc2
   refine wp_seq ?_
   refine Za hS qB hB [13,12,4,1,0] [0] rfl rfl fun a w F hS=>Zb (wp_ret (Zk (Zf (Zf (Zk (Zf ?_))))))
   refine Zn hfr hS rfl rfl rfl (.bool hg)
  rw [Int.toNat_natCast] at hc2
  have hqi:Go.Gm.nth x i=Go.Gm.nth y i:=by simpa using hc2
  refine wp_skip (Zh (Zb ?_))
  refine Za hS (qp r1 (qM rfl rfl qZ)) hB [13,12,1,0] [0] rfl rfl fun a w F hS=>Zb ?_
  replace hS:=hS.ent (i:=13) (s':=.pv (.int .i64 ((i+1:Nat):Int))) rfl (.int (Ze (by omega)))
  obtain ⟨F,hS⟩:=hS.nm [13,12,1,0] [0] rfl rfl
  exact ⟨i+1,F,⟨by omega,fun j hj=>by rcases Nat.lt_or_eq_of_le (Nat.le_of_lt_succ hj) with h | h;exact hq j h;rw [h];exact hqi⟩,hS,by omega⟩
 have hg:true=decide (x=y):=by
   rw [eq_comm,decide_eq_true_eq]
   exact Zbi hl fun j hj=>hq j (by simp at hc1;omega)
 refine wp_exit (Zi (Zi (Zo (Zb (wp_seq ?_)))))
 refine Za hS qB hB [4] [0] rfl rfl fun a w F hS=>Zb (wp_ret ?_)
 refine Zn hfr hS rfl rfl rfl (.bool hg)
theorem Zm6 (x y:List Int):FnP Tryz.prog 78 [.sl rInt x,.sl rInt y] (.bool (decide (x=y))):=by
 refine FnP.mk Tryz.func78 rfl Tryz.ntmps78 rfl ?_
 intro B a w F hB hfr hS
 refine wp_seq ?_
 refine Za hS qB hB [4,1,0] [0] rfl rfl fun a w F hS=>Zb (wp_seq ?_)
 refine Za hS (qM rfl rfl (qM rfl rfl (qf (oP (ZnW x y) Tryz.func104 (Args.two .t .t)) r2 qz (qN rfl rfl qZ)))) hB [4] [0] rfl rfl fun a w F hS=>Zb (wp_ret ?_)
 refine Zn hfr hS rfl rfl rfl .refl
theorem Zpj (u v:TxD):((decide (u.id=v.id) && (u.done == v.done)) && decide (u.ops=v.ops))=decide (u=v):=by
 cases u;cases v
 rw [Bool.eq_iff_iff]
 simp [and_assoc]
theorem ZnF (u v:TxD):FnP Tryz.prog 75 [.agg (rTx u),.agg (rTx v)] (.bool (decide (u=v))):=by
 refine FnP.mk Tryz.func75 rfl Tryz.ntmps75 rfl ?_
 intro B a w F hB hfr hS
 refine wp_seq ?_
 refine Zc hS (qx 101 r1 (qx 102 r1 qB)) hB [4,3,2] [102,101,0] (fun _=>rfl) (fun _=>rfl) fun τ a w F hS=>?_
 try dsimp only [RS.sub,SF.sub,CF.sub,csub,Anc.sub,List.map,zCF] at hS
 generalize τ 2=v2 at hS
 generalize τ 3=v3 at hS
 refine Zb (wp_seq ?_)
 refine Za hS (qg 0 101 r1 r1 (qa 101 r1 r1 (qg 0 102 r1 r1 (qa 102 r1 r1 (qf (o_eql .t .t) r2 qz (qM rfl rfl (qv 1 101 rfl r2 r1 (qw 101 rfl r2 r1 (qv 1 102 rfl r2 r1 (qw 102 rfl r2 r1 (qk rfl (fun h=>Zom Tryz.underlying4 (.w h) (.w h)) r3 qz (qf (ZA .t .t) r2 qz (qM rfl rfl (qv 2 101 rfl r2 r1 (qw 101 rfl r2 r1 (qv 2 102 rfl r2 r1 (qw 102 rfl r2 r1 (qk rfl (fun h=>oP (ZnB u.ops v.ops) Tryz.func142 (Args.two (.w h) (.w h))) r3 qz (qf (ZA .t .t) r2 qz (qN rfl rfl qZ)))))))))))))))))))) hB [4] [102,101,0] rfl rfl fun a w F hS=>Zb (wp_ret ?_)
 refine Zn hfr hS rfl rfl rfl (.bool (Zpj u v))
theorem ZmU (u v:CmdD):FnP Tryz.prog 133 [.agg (rCmd u),.agg (rCmd v)] (.bool (decide (u=v))):=by
 refine FnP.mk Tryz.func133 rfl Tryz.ntmps133 rfl ?_
 intro B a w F hB hfr hS
 refine wp_seq ?_
 refine Zc hS (qx 101 r1 (qx 102 r1 qB)) hB [4,3,2] [102,101,0] (fun _=>rfl) (fun _=>rfl) fun τ a w F hS=>?_
 try dsimp only [RS.sub,SF.sub,CF.sub,csub,Anc.sub,List.map,zCF] at hS
 generalize τ 2=v2 at hS
 generalize τ 3=v3 at hS
 refine Zb (wp_seq ?_)
 refine Zbx hS (by kernel_rfl) (nf (oF 0 101 .is) r1 r1 (nf (oL false 1 101 .adr) r1 r1 (nf (oF 0 102 .is) r1 r1 (nf (oL false 1 102 .adr) r1 r1 (nf (o_eql .t .t) r2 trivial (nM rfl rfl (nk rfl (fun h=>oF 1 101 .is) r2 r1 (nk rfl (fun h=>oL true 3 101 (.w h .adr)) r2 r1 (nk rfl (fun h=>oF 1 102 .is) r2 r1 (nk rfl (fun h=>oL true 3 102 (.w h .adr)) r2 r1 (nk rfl (fun h=>oP (ZnF u.tx v.tx) Tryz.func75 (Args.two (.pagg (.w h)) (.pagg (.w h)))) r3 trivial (nf (ZA .t .t) r2 trivial (nM rfl rfl (nk rfl (fun h=>oF 4 101 .is) r2 r1 (nk rfl (fun h=>oF 0 101 (.w h .adr)) r2 r1 (nk rfl (fun h=>oL false 1 101 (.w h .adr)) r2 r1 (nk rfl (fun h=>oF 4 102 .is) r2 r1 (nk rfl (fun h=>oF 0 102 (.w h .adr)) r2 r1 (nk rfl (fun h=>oL false 1 102 (.w h .adr)) r2 r1 (nk rfl (fun h=>o_eql (.w h) (.w h)) r3 trivial (nf (ZA .t .t) r2 trivial (nM rfl rfl (nk rfl (fun h=>oF 4 101 .is) r2 r1 (nk rfl (fun h=>oF 1 101 (.w h .adr)) r2 r1 (nn [28,26,4,3,2] [102,101,0] rfl rfl (nk rfl (fun h=>oL false 1 101 (.w h .adr)) r2 r1 (nk rfl (fun h=>oF 4 102 .is) r2 r1 (nk rfl (fun h=>oF 1 102 (.w h .adr)) r2 r1 (nk rfl (fun h=>oL false 1 102 (.w h .adr)) r2 r1 (nk rfl (fun h=>oP (Zm6 u.order.txs v.order.txs) Tryz.func78 (Args.two (.w h) (.w h))) r3 trivial (nf (ZA .t .t) r2 trivial (nM rfl rfl (nk rfl (fun h=>oF 6 101 .is) r2 r1 (nk rfl (fun h=>oL false 1 101 (.w h .adr)) r2 r1 (nk rfl (fun h=>oF 6 102 .is) r2 r1 (nk rfl (fun h=>oL false 1 102 (.w h .adr)) r2 r1 (nk rfl (fun h=>o_eql (.w h) (.w h)) r3 trivial (nf (ZA .t .t) r2 trivial (nM rfl rfl (nk rfl (fun h=>oF 7 101 .is) r2 r1 (nk rfl (fun h=>oL false 1 101 (.w h .adr)) r2 r1 (nk rfl (fun h=>oF 7 102 .is) r2 r1 (nk rfl (fun h=>oL false 1 102 (.w h .adr)) r2 r1 (nk rfl (fun h=>o_eql (.w h) (.w h)) r3 trivial (nf (ZA .t .t) r2 trivial (nM rfl rfl (nk rfl (fun h=>oF 8 101 .is) r2 r1 (nk rfl (fun h=>oL false 1 101 (.w h .adr)) r2 r1 (nk rfl (fun h=>oF 8 102 .is) r2 r1 (nn [52,51,49,4,3,2] [102,101,0] rfl rfl (nk rfl (fun h=>oL false 1 102 (.w h .adr)) r2 r1 (nk rfl (fun h=>o_eql (.w h) (.w h)) r3 trivial (nf (ZA .t .t) r2 trivial (nM rfl rfl (nk rfl (fun h=>oF 9 101 .is) r2 r1 (nk rfl (fun h=>oL false 1 101 (.w h .adr)) r2 r1 (nk rfl (fun h=>oF 9 102 .is) r2 r1 (nk rfl (fun h=>oL false 1 102 (.w h .adr)) r2 r1 (nk rfl (fun h=>o_eql (.w h) (.w h)) r3 trivial (nf (ZA .t .t) r2 trivial (nN rfl rfl ZW.nil))))))))))))))))))))))))))))))))))))))))))))))))))))))))))))) (by kernel_rfl) (by rw [hB];kernel_rfl) fun a w F hS=>?_
 obtain ⟨F,hS⟩:=hS.nm [4] [102,101,0] rfl rfl
 try dsimp only [List.map,xD,xE,xT,xU,ldSF] at hS
 refine Zb (wp_ret ?_)
 refine Zn hfr hS rfl rfl rfl (.bool (Zo7 u v))
theorem ZpZ (c:CmdD):FnP Tryz.prog 134 [.agg (rCmd c)] (.agg (rCmd (usedR c))):=by
 refine FnP.mk Tryz.func134 rfl Tryz.ntmps134 rfl ?_
 intro B a w F hB hfr hS
 refine wp_seq ?_
 refine Zc hS (qx 101 r1 (qf (oH [.int .i64 0,.int .i64 0,.bool false,.slice none 0 0,.int .i64 0,.slice none 0 0,.int .i64 0,.int .i64 0,.int .i64 0,.int .i64 0] 102) trivial qz qZ)) hB [2,1] [102,101,0] (fun _=>rfl) (fun _=>rfl) fun τ a w F hS=>?_
 try dsimp only [RS.sub,SF.sub,CF.sub,csub,Anc.sub,List.map,zCF] at hS
 generalize τ 1=v1 at hS
 generalize τ 2=v2 at hS
 refine Zb (wp_seq ?_)
 refine Zc hS (qg 0 101 r1 r1 (qa 101 r1 r1 (qf (oB [(0,.tmp 5)] [.int .i64 0,.int .i64 0,.bool false,.slice none 0 0,.int .i64 0,.slice none 0 0,.int .i64 0,.int .i64 0,.int .i64 0,.int .i64 0] [(0,1),(1,3),(4,2),(6,1),(7,1),(8,1),(9,1)] (.one rfl .t one_int (by kernel_rfl) .nil)) r1 qz (qf (oH [.int .i64 0,.int .i64 0,.bool false,.slice none 0 0,.int .i64 0,.slice none 0 0,.int .i64 0,.int .i64 0,.int .i64 0,.int .i64 0] 103) trivial qz (qS 10 103 r2 r1 qZ))))) hB [3,2,1] [103,102,101,0] (fun _=>rfl) (fun _=>rfl) fun τ a w F hS=>?_
 try dsimp only [RS.sub,SF.sub,CF.sub,csub,Anc.sub,List.map,Zg,xL,xM,Nat.reduceAdd,xD,xE,xT,xU,xC,xN,zCF,ldSF] at hS
 generalize τ 3=v3 at hS
 refine Zb (wp_seq (wp_seq ?_))
 refine Za hS (qg 0 101 r1 r1 (qa 101 r1 r1 qZ)) hB [8,3,2,1] [103,102,101,0] rfl rfl fun a w F hS=>Zb (wp_block (wp_seq (wp_seq ?_)))
 refine Za hS (qf (o_eql .t qi) r1 qz (qN rfl rfl qZ)) hB [9,8,3,2,1] [103,102,101,0] rfl rfl fun a w F hS=>Zb ?_
 refine Zd hS rfl (fun hc0=>?_) (fun hc0=>?_)
 ·skip
  have hk:c.kind=1∨c.kind=2:=by first | exact .inl (of_decide_eq_true hc0) | exact .inr (of_decide_eq_true hc0)
  have hr:usedR c = {zeroC c.kind with tx:=c.tx} := by unfold usedR;rw [if_pos hk]
  refine wp_skip (Zb ?_)
  refine Zd hS rfl (fun hc1=>?_) (fun hc1=>?_)
  ·skip
   have hk:c.kind=1∨c.kind=2:=by first | exact .inl (of_decide_eq_true hc1) | exact .inr (of_decide_eq_true hc1)
   have hr:usedR c = {zeroC c.kind with tx:=c.tx} := by unfold usedR;rw [if_pos hk]
   refine Za hS (qg 1 101 r1 r1 (qf (oL true 3 101 .adr) r1 r1 (qg 1 103 r1 r1 (qf (oA 3 103 .adr .t) r2 r1 qZ)))) hB [3,2] [103,102,101,0] rfl rfl fun a w F hS=>Zh (Zb (wp_seq ?_))
   refine Za hS (qe 10 103 r1 r1 (qs 10 102 r2 r1 qZ)) hB [2] [103,102,101,0] rfl rfl fun a w F hS=>Zb (wp_ret ?_)
   refine Zr hfr hS rfl (.cl 102 true 10 rfl rfl .nil) (.one (.aggLe rfl (by rw [hr];exact (by refine ⟨?_,?_,?_,?_,?_,?_,?_,?_,?_,?_,trivial⟩ <;> first | exact PVLe.refl | exact PVLe.nilSl))))
  exact Bool.noConfusion (hc0.symm.trans hc1)
 have hn:=of_decide_eq_false hc0
 refine Za hS (qf (o_eql .t qi) r1 qz (qN rfl rfl qZ)) hB [9,8,3,2,1] [103,102,101,0] rfl rfl fun a w F hS=>Zb ?_
 refine Zd hS rfl (fun hc2=>?_) (fun hc2=>?_)
 ·skip
  have hk:c.kind=1∨c.kind=2:=by first | exact .inl (of_decide_eq_true hc2) | exact .inr (of_decide_eq_true hc2)
  have hr:usedR c = {zeroC c.kind with tx:=c.tx} := by unfold usedR;rw [if_pos hk]
  refine Za hS (qg 1 101 r1 r1 (qf (oL true 3 101 .adr) r1 r1 (qg 1 103 r1 r1 (qf (oA 3 103 .adr .t) r2 r1 qZ)))) hB [3,2] [103,102,101,0] rfl rfl fun a w F hS=>Zh (Zb (wp_seq ?_))
  refine Za hS (qe 10 103 r1 r1 (qs 10 102 r2 r1 qZ)) hB [2] [103,102,101,0] rfl rfl fun a w F hS=>Zb (wp_ret ?_)
  refine Zr hfr hS rfl (.cl 102 true 10 rfl rfl .nil) (.one (.aggLe rfl (by rw [hr];exact (by refine ⟨?_,?_,?_,?_,?_,?_,?_,?_,?_,?_,trivial⟩ <;> first | exact PVLe.refl | exact PVLe.nilSl))))
 have hn:=of_decide_eq_false hc2
 refine wp_seq (wp_seq ?_)
 refine Za hS (qf (o_eql .t qi) r1 qz (qN rfl rfl qZ)) hB [15,8,3,2,1] [103,102,101,0] rfl rfl fun a w F hS=>Zb ?_
 refine Zd hS rfl (fun hc3=>?_) (fun hc3=>?_)
 ·skip
  have hk:c.kind=3∨c.kind=10:=by first | exact .inl (of_decide_eq_true hc3) | exact .inr (of_decide_eq_true hc3)
  have hr:usedR c = {zeroC c.kind with id:=c.id} := by unfold usedR;rw [if_neg (by omega),if_pos hk]
  refine wp_skip (Zb ?_)
  refine Zd hS rfl (fun hc4=>?_) (fun hc4=>?_)
  ·skip
   have hk:c.kind=3∨c.kind=10:=by first | exact .inl (of_decide_eq_true hc4) | exact .inr (of_decide_eq_true hc4)
   have hr:usedR c = {zeroC c.kind with id:=c.id} := by unfold usedR;rw [if_neg (by omega),if_pos hk]
   refine Za hS (qg 7 101 r1 r1 (qa 101 r1 r1 (qg 7 103 r1 r1 (qf (Zaf 103 .adr .t one_int (by kernel_rfl) (by kernel_rfl)) r2 r1 qZ)))) hB [3,2] [103,102,101,0] rfl rfl fun a w F hS=>Zh (Zb (wp_seq ?_))
   refine Za hS (qe 10 103 r1 r1 (qs 10 102 r2 r1 qZ)) hB [2] [103,102,101,0] rfl rfl fun a w F hS=>Zb (wp_ret ?_)
   refine Zr hfr hS rfl (.cl 102 true 10 rfl rfl .nil) (.one (.aggLe rfl (by rw [hr];exact (by refine ⟨?_,?_,?_,?_,?_,?_,?_,?_,?_,?_,trivial⟩ <;> first | exact PVLe.refl | exact PVLe.nilSl))))
  exact Bool.noConfusion (hc3.symm.trans hc4)
 have hn:=of_decide_eq_false hc3
 refine Za hS (qf (o_eql .t qi) r1 qz (qN rfl rfl qZ)) hB [15,8,3,2,1] [103,102,101,0] rfl rfl fun a w F hS=>Zb ?_
 refine Zd hS rfl (fun hc5=>?_) (fun hc5=>?_)
 ·skip
  have hk:c.kind=3∨c.kind=10:=by first | exact .inl (of_decide_eq_true hc5) | exact .inr (of_decide_eq_true hc5)
  have hr:usedR c = {zeroC c.kind with id:=c.id} := by unfold usedR;rw [if_neg (by omega),if_pos hk]
  refine Za hS (qg 7 101 r1 r1 (qa 101 r1 r1 (qg 7 103 r1 r1 (qf (Zaf 103 .adr .t one_int (by kernel_rfl) (by kernel_rfl)) r2 r1 qZ)))) hB [3,2] [103,102,101,0] rfl rfl fun a w F hS=>Zh (Zb (wp_seq ?_))
  refine Za hS (qe 10 103 r1 r1 (qs 10 102 r2 r1 qZ)) hB [2] [103,102,101,0] rfl rfl fun a w F hS=>Zb (wp_ret ?_)
  refine Zr hfr hS rfl (.cl 102 true 10 rfl rfl .nil) (.one (.aggLe rfl (by rw [hr];exact (by refine ⟨?_,?_,?_,?_,?_,?_,?_,?_,?_,?_,trivial⟩ <;> first | exact PVLe.refl | exact PVLe.nilSl))))
 have hn:=of_decide_eq_false hc5
 refine wp_seq ?_
 refine Za hS (qf (o_eql .t qi) r1 qz (qN rfl rfl qZ)) hB [21,8,3,2,1] [103,102,101,0] rfl rfl fun a w F hS=>Zb ?_
 refine Zd hS rfl (fun hc6=>?_) (fun hc6=>?_)
 ·skip
  have hk:=of_decide_eq_true hc6
  have hr:usedR c = {zeroC c.kind with order:=c.order} := by unfold usedR;rw [if_neg (by omega),if_neg (by omega),if_pos hk]
  refine Za hS (qg 4 101 r1 r1 (qf (oL true 2 101 .adr) r1 r1 (qg 4 103 r1 r1 (qf (oA 2 103 .adr .t) r2 r1 qZ)))) hB [3,2] [103,102,101,0] rfl rfl fun a w F hS=>Zh (Zb (wp_seq ?_))
  refine Za hS (qe 10 103 r1 r1 (qs 10 102 r2 r1 qZ)) hB [2] [103,102,101,0] rfl rfl fun a w F hS=>Zb (wp_ret ?_)
  refine Zr hfr hS rfl (.cl 102 true 10 rfl rfl .nil) (.one (.aggLe rfl (by rw [hr];exact (by refine ⟨?_,?_,?_,?_,?_,?_,?_,?_,?_,?_,trivial⟩ <;> first | exact PVLe.refl | exact PVLe.nilSl))))
 have hn:=of_decide_eq_false hc6
 refine wp_seq ?_
 refine Za hS (qf (o_eql .t qi) r1 qz (qN rfl rfl qZ)) hB [26,8,3,2,1] [103,102,101,0] rfl rfl fun a w F hS=>Zb ?_
 refine Zd hS rfl (fun hc7=>?_) (fun hc7=>?_)
 ·skip
  have hk:=of_decide_eq_true hc7
  have hr:usedR c = {zeroC c.kind with key:=c.key,id:=c.id,place:=c.place} := by unfold usedR;rw [if_neg (by omega),if_neg (by omega),if_neg (by omega),if_pos hk]
  refine Zu hS (qg 6 101 r1 r1 (qa 101 r1 r1 (qg 7 101 r1 r1 (qa 101 r1 r1 (qg 8 101 r1 r1 (qa 101 r1 r1 (qg 6 103 r1 r1 (qf (Zaf 103 .adr .t one_int (by kernel_rfl) (by kernel_rfl)) r2 r1 (qg 7 103 r1 r1 (qf (Zaf 103 .adr .t one_int (by kernel_rfl) (by kernel_rfl)) r2 r1 (qg 8 103 r1 r1 (qf (Zaf 103 .adr .t one_int (by kernel_rfl) (by kernel_rfl)) r2 r1 qZ)))))))))))) hB [3,2] [103,102,101,0] rfl rfl fun a w F hS=>?_
  try dsimp only [List.map,Zg,xL,xM,Nat.reduceAdd,xD,xE,xT,xU,xC,xN,zCF,ldSF] at hS
  refine Zh (Zb (wp_seq ?_))
  refine Za hS (qe 10 103 r1 r1 (qs 10 102 r2 r1 qZ)) hB [2] [103,102,101,0] rfl rfl fun a w F hS=>Zb (wp_ret ?_)
  refine Zr hfr hS rfl (.cl 102 true 10 rfl rfl .nil) (.one (.aggLe rfl (by rw [hr];exact (by refine ⟨?_,?_,?_,?_,?_,?_,?_,?_,?_,?_,trivial⟩ <;> first | exact PVLe.refl | exact PVLe.nilSl))))
 have hn:=of_decide_eq_false hc7
 refine wp_seq ?_
 refine Za hS (qf (o_eql .t qi) r1 qz (qN rfl rfl qZ)) hB [37,3,2,1] [103,102,101,0] rfl rfl fun a w F hS=>Zb ?_
 refine Zd hS rfl (fun hc8=>?_) (fun hc8=>?_)
 ·skip
  have hk:=of_decide_eq_true hc8
  have hr:usedR c = {zeroC c.kind with phen:=c.phen} := by unfold usedR;rw [if_neg (by omega),if_neg (by omega),if_neg (by omega),if_neg (by omega),if_pos hk]
  refine Za hS (qg 9 101 r1 r1 (qa 101 r1 r1 (qg 9 103 r1 r1 (qf (Zaf 103 .adr .t one_int (by kernel_rfl) (by kernel_rfl)) r2 r1 qZ)))) hB [3,2] [103,102,101,0] rfl rfl fun a w F hS=>Zh (Zb (wp_seq ?_))
  refine Za hS (qe 10 103 r1 r1 (qs 10 102 r2 r1 qZ)) hB [2] [103,102,101,0] rfl rfl fun a w F hS=>Zb (wp_ret ?_)
  refine Zr hfr hS rfl (.cl 102 true 10 rfl rfl .nil) (.one (.aggLe rfl (by rw [hr];exact (by refine ⟨?_,?_,?_,?_,?_,?_,?_,?_,?_,?_,trivial⟩ <;> first | exact PVLe.refl | exact PVLe.nilSl))))
 have hn:=of_decide_eq_false hc8
 have hr:usedR c=zeroC c.kind:=by unfold usedR;rw [if_neg (by omega),if_neg (by omega),if_neg (by omega),if_neg (by omega),if_neg (by omega)]
 refine wp_skip (Zh (Zb (wp_seq ?_)))
 refine Za hS (qe 10 103 r1 r1 (qs 10 102 r2 r1 qZ)) hB [2] [103,102,101,0] rfl rfl fun a w F hS=>Zb (wp_ret ?_)
 refine Zr hfr hS rfl (.cl 102 true 10 rfl rfl .nil) (.one (.aggLe rfl (by rw [hr];exact (by refine ⟨?_,?_,?_,?_,?_,?_,?_,?_,?_,?_,trivial⟩ <;> first | exact PVLe.refl | exact PVLe.nilSl))))
instance (l:List TxD):Decidable (ZaX l):=by unfold ZaX;exact inferInstance
instance (l:List OrdD):Decidable (Zbq l):=by unfold Zbq;exact inferInstance
instance (g:HistD):Decidable (ZaR g):=by unfold ZaR;exact inferInstance
end Go.Proofs.YtjhapicamnijnaaGreat
