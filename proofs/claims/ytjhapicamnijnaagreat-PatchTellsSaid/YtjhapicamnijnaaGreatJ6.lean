/- Texts put together. No condition beyond those that each theorem says. -/
import Derived.Test.YtjhapicamnijnaaGreatJ5
import Derived.Test.YtjhapicamnijnaaGreatJ3
import Derived.Test.YtjhapicamnijnaaGreatJ4
import Derived.Test.YtjhapicamnijnaaGreatJ0
import Derived.Test.YtjhapicamnijnaaGreatJ1
namespace Go.Proofs.YtjhapicamnijnaaGreat
open Go Go.Gm
set_option linter.unusedVariables false
set_option linter.unusedSimpArgs false
set_option maxHeartbeats 4000000
set_option maxRecDepth 8000
theorem ZcW {l:List TxD} {id:Int} : (Zas l id).isSome=isK TxD.id id l:=by
 unfold Zas isK
 rw [Bool.eq_iff_iff,List.find?_isSome,List.any_eq_true]
theorem ZcD {g:Zn} (h:Zx g):NE g.orders:=fun o ho=>by
 have h2:=(ZcF g).2 h.2.2
 obtain ⟨j,hj,e⟩:=List.getElem_of_mem ho
 have:=(h2.2 j hj).2.1
 rwa [Zz hj,e] at this
theorem Znd {g:Zn} {t:TxD} {there:Int} {wanted:Bool} (h:¬ Zx g):mayH g t there wanted=(0,5):=if_pos h
theorem ZnW {g:Zn} {t:TxD} {there:Int} {wanted:Bool} (h:Zx g) (h2:ZR t≠0):mayH g t there wanted=(0,ZR t):=by unfold mayH;rw [if_neg (Decidable.not_not.2 h),if_pos h2]
theorem Zoe {g:Zn} {t:TxD} {there:Int} {wanted:Bool} (h:Zx g) (h2:ZR t=0) (h3:isK TxD.id t.id g.txs≠wanted):mayH g t there wanted=(0,there):=by unfold mayH;rw [if_neg (Decidable.not_not.2 h),if_neg (Decidable.not_not.2 h2),if_pos h3]
theorem ZnX {g:Zn} {t:TxD} {there:Int} {wanted:Bool} (h:Zx g) (h2:ZR t=0) (h3:isK TxD.id t.id g.txs=wanted) (h4:Zax g t=false):mayH g t there wanted=(0,6):=by unfold mayH;rw [if_neg (Decidable.not_not.2 h),if_neg (Decidable.not_not.2 h2),if_neg (Decidable.not_not.2 h3),if_pos h4]
theorem ZlY {g:Zn} {t:TxD} {there:Int} {wanted:Bool} (h:Zx g) (h2:ZR t=0) (h3:isK TxD.id t.id g.txs=wanted) (h4:Zax g t=true):mayH g t there wanted=(((lowK TxD.id t.id g.txs:Nat):Int),0):=by unfold mayH;rw [if_neg (Decidable.not_not.2 h),if_neg (Decidable.not_not.2 h2),if_neg (Decidable.not_not.2 h3),if_neg (by simp [h4])]
theorem Zgp {g:Zn} {t:TxD} {e:Int} (h:mayH g t 4 false=(0,e)) (he:e≠0):Z6 g t=(zeroH,e):=by unfold Z6;rw [h];exact if_pos he
theorem Zjf {g:Zn} {t:TxD} {e:Int} (h:mayH g t 3 true=(0,e)) (he:e≠0):Zar g t=(zeroH,e):=by unfold Zar;rw [h];exact if_pos he
theorem Zme {g:Zn} {t:TxD} (h:Zx g) (h2:ZR t=0) (h3:isK TxD.id t.id g.txs=false) (h4:Zax g t=true) (h5:4096≤g.txs.length):Z6 g t=(zeroH,2):=by
 have:=h.1
 unfold Z6
 rw [ZlY h h2 h3 h4,if_neg (by simp),if_pos (by omega)]
theorem Zmo {g:Zn} {t:TxD} (hs:Za3 g.orders) (h:Zx g) (h2:ZR t=0) (h3:isK TxD.id t.id g.txs=false) (h4:Zax g t=true) (h5:¬ 4096≤g.txs.length):Z6 g t=(⟨putGR TxD.id t g.txs false,ZbS t g.orders⟩,0):=by
 have hr:=ZT h
 unfold Z6
 rw [ZlY h h2 h3 h4,if_neg (by simp),if_neg (by omega),ZdU hr.2 hs (ZcD h),ZeS (ZG.1 hr.1) h3]
theorem ZnG {g:Zn} {t:TxD} (h:Zx g) (h2:ZR t=0) (h3:isK TxD.id t.id g.txs=true) (h4:Zax g t=true) (h5:ZdE g t=true):Zar g t=(zeroH,7):=by
 unfold Zar
 rw [ZlY h h2 h3 h4,if_neg (by simp),if_pos h5]
theorem Znp {g:Zn} {t:TxD} (hs:Za3 g.orders) (h:Zx g) (h2:ZR t=0) (h3:isK TxD.id t.id g.txs=true) (h4:Zax g t=true) (h5:ZdE g t=false):Zar g t=(⟨putGR TxD.id t g.txs false,ZbS t g.orders⟩,0):=by
 have hr:=ZT h
 unfold Zar
 rw [ZlY h h2 h3 h4,if_neg (by simp),if_neg (by simp [h5]),ZdU hr.2 hs (ZcD h),Zez (ZG.1 hr.1) h3]
theorem ZoA {g:Zn} {id:Int} (h:¬ Zx g):ZY g id=(zeroH,5):=if_pos h
theorem Zop {g:Zn} {id:Int} (h:Zx g) (h2:isK TxD.id id g.txs=false):ZY g id=(zeroH,3):=by unfold ZY;rw [if_neg (Decidable.not_not.2 h),if_pos h2]
theorem Zor {g:Zn} {id:Int} (h:Zx g) (h2:isK TxD.id id g.txs=true) (h3:ZdE g (ZbE id)=true):ZY g id=(zeroH,7):=by unfold ZY;rw [if_neg (Decidable.not_not.2 h),if_neg (by simp [h2]),if_pos h3]
theorem Zoj {g:Zn} {id:Int} (hs:Za3 g.orders) (h:Zx g) (h2:isK TxD.id id g.txs=true) (h3:ZdE g (ZbE id)=false):ZY g id=(⟨g.txs.filter fun x=>!decide (x.id=id),ZbS (ZbE id) g.orders⟩,0):=by
 have hr:=ZT h
 unfold ZY
 rw [if_neg (Decidable.not_not.2 h),if_neg (by simp [h2]),if_neg (by simp [h3]),ZdU hr.2 hs (ZcD h),ZfO (ZG.1 hr.1) h2]
theorem Zkm {os:List OrdD} {k:Int} (hr:Zcb OrdD.key os) (h:isK OrdD.key k os=true):getO os k=(Go.Gm.nth os (lowK OrdD.key k os)).txs:=by
 obtain ⟨h1,h2⟩:=Zc3 hr h
 have:=ZcH (ZG.1 hr) (ZM h1)
 rwa [h2] at this
theorem Zlx {os:List OrdD} {k:Int} (hr:Zcb OrdD.key os) (hn:NE os):getO os k = [] ↔ isK OrdD.key k os=false:=by
 constructor
 · intro h
   cases hk:isK OrdD.key k os with
   | false=>rfl
   | true=>
     rw [Zkm hr hk] at h
     exact absurd h (hn _ (ZM (Zc3 hr hk).1))
 · exact ZkF
theorem ZhR {g:Zn} {key:Int} {rule:List Int→List Int×Int} (h:¬ Zx g):Zab g key rule=(zeroH,5):=if_pos h
theorem Zlv {g:Zn} {key:Int} {rule:List Int→List Int×Int} (h:Zx g) (h2:getO g.orders key = []):Zab g key rule=(zeroH,3):=by
 unfold Zab
 rw [if_neg (Decidable.not_not.2 h),if_pos ((Zlx (ZT h).2 (ZcD h)).1 h2)]
theorem ZlI {g:Zn} {key:Int} (h:Zx g) (h2:getO g.orders key≠[]):isK OrdD.key key g.orders=true:=by
 cases hk:isK OrdD.key key g.orders with
 | true=>rfl
 | false=>exact absurd ((Zlx (ZT h).2 (ZcD h)).2 hk) h2
theorem Zkr {g:Zn} {key:Int} {rule:List Int→List Int×Int} (h:Zx g) (h2:getO g.orders key≠[]) (h3:(rule (getO g.orders key)).2≠0):Zab g key rule=(zeroH,(rule (getO g.orders key)).2):=by
 have hk:=ZlI h h2
 have hg:=Zkm (ZT h).2 hk
 unfold Zab
 rw [if_neg (Decidable.not_not.2 h),if_neg (by simp [hk]),← hg,if_pos h3]
theorem Zkb {g:Zn} {key:Int} {rule:List Int→List Int×Int} (h:Zx g) (h2:getO g.orders key≠[]) (h3:(rule (getO g.orders key)).2=0) (h4:(rule (getO g.orders key)).1≠[]):Zab g key rule=(⟨g.txs,putGR OrdD.key ⟨key,(rule (getO g.orders key)).1⟩ g.orders (decide ((rule (getO g.orders key)).1 = []))⟩,0):=by
 have hk:=ZlI h h2
 have hr:=(ZT h).2
 have hg:=Zkm hr hk
 unfold Zab
 rw [if_neg (Decidable.not_not.2 h),if_neg (by simp [hk]),← hg,if_neg (by simp [h3]),decide_eq_false h4,Zez (κ:=OrdD.key) (t:=⟨key,(rule (getO g.orders key)).1⟩) (ZG.1 hr) hk,(Zc3 hr hk).2]
theorem Zhz {l:List Int} {id place:Int} (h:(Z9 l id place).2=0):(Z9 l id place).1.Perm l:=by
 have h9:=h
 unfold Z9 at h9
 split at h9
 · simp at h9
 · rename_i h1
   split at h9
   · simp at h9
   · rename_i h2
     refine ZbI ?_ (Decidable.not_not.1 h2)
     refine Decidable.byContradiction fun hm=>h1 ?_
     rw [Zgz hm];decide
structure EdD where
 kind:Int
 t:TxD
 o:OrdD
 place:Int
 deriving DecidableEq,Inhabited
def doH (g:Zn) (e:EdD):Zn×Int:=if e.kind=0 then Z6 g e.t else if e.kind=1 then ZY g e.t.id else if e.kind=2 then Zar g e.t else if e.kind=3 then ZaD g e.o else if e.kind=4 then ZdS g e.o.key e.t.id e.place else (zeroH,5)
def Zd8 (e:EdD):Prop:=e.t.ops.length≤24∧e.o.txs.length≤24
instance (e:EdD):Decidable (Zd8 e):=by unfold Zd8;exact inferInstance
def ZmN (l:List EdD):Prop:=l.length≤24 ∧ ∀ e ∈ l,Zd8 e
instance (l:List EdD):Decidable (ZmN l):=by unfold ZmN;exact inferInstance
def Zgn (g:Zn) (e:EdD):Zn:=if (doH g e).2=0 then (doH g e).1 else g
theorem Zig (g:Zn) (t:TxD) (hs:ZaK g) (ht:t.ops.length≤1000):FnP Tryz.prog 60 [.agg (Zj g),.agg (rTx t)] (.tup [.agg (Zj (Z6 g t).1),.int .i64 (Z6 g t).2]):=by
 refine FnP.mk Tryz.func60 rfl Tryz.ntmps60 rfl ?_
 intro B a w F hB hfr hS
 have hsl:=hs.1.1
 refine wp_seq ?_
 refine Zc hS (qx 101 r1 (qx 102 r1 (qf (oH [.slice none 0 0,.slice none 0 0] 103) trivial qz (qI qZ)))) hB [5,4,3,2] [103,102,101,0] (fun _=>rfl) (fun _=>rfl) fun τ a w F hS=>?_
 try dsimp only [RS.sub,SF.sub,CF.sub,csub,Anc.sub,List.map,zCF,Zj,rTx,Zs,Zv,rInt,rOp] at hS
 generalize τ 2=v2 at hS
 generalize τ 3=v3 at hS
 generalize τ 4=v4 at hS
 refine Za (wp_seq (wp_seq ?_))
 refine Zb hS (qe 2 101 r1 r1 (qf (oP (ZaN g hs) Tryz.func35 (Args.one (.pagg .t))) r1 qz (qf (o_not .t) r1 qz qZ))) hB [11,5,4,3,2] [103,102,101,0] rfl rfl fun a w F hS=>Za ?_
 refine Zd hS rfl (fun hc0=>?_) (fun hc0=>?_)
 ·skip
  have hr:¬ Zx g:=by simpa using hc0
  have hg:=Zgp (t:=t) (Znd hr) (by decide)
  refine wp_seq ?_
  refine Zb hS (qf (oB [] [.slice none 0 0,.slice none 0 0] [(0,1),(1,1)] .nil) trivial qz (qs 2 103 r2 r1 (qI qZ))) hB [5,4,3,2] [103,102,101,0] rfl rfl fun a w F hS=>Za (wp_ret (Zg ?_))
  refine ZA hfr hS rfl (.cl 103 true 2 rfl rfl (.tmp rfl .nil)) (.two (by rw [hg];first | exact .aggU rfl rfl | exact .aggLe rfl ⟨PVLe.nilSl,PVLe.nilSl,trivial⟩) (.int (by rw [hg])))
 have hr:Zx g:=by simpa using hc0
 refine wp_skip (Za (wp_seq (wp_seq ?_)))
 refine Zb hS (qe 3 102 r1 r1 (qf (oP (Zcj t) Tryz.func86 (Args.one (.pagg .t))) r1 qz (qN rfl rfl qZ))) hB [6,5,4,3,2] [103,102,101,0] rfl rfl fun a w F hS=>Za (wp_seq ?_)
 refine Zb hS (qM rfl rfl (qf (o_neq .t qi) r1 qz qZ)) hB [16,6,5,4,3,2] [103,102,101,0] rfl rfl fun a w F hS=>Za ?_
 refine Zd hS rfl (fun hc1=>?_) (fun hc1=>?_)
 ·skip
  have hrt:ZR t≠0:=by simpa using hc1
  have hg:=Zgp (ZnW hr hrt) hrt
  refine wp_seq ?_
  refine Zb hS (qf (oB [] [.slice none 0 0,.slice none 0 0] [(0,1),(1,1)] .nil) trivial qz (qM rfl rfl (qs 2 103 r2 r1 (qN rfl rfl qZ)))) hB [5,4,3,2] [103,102,101,0] rfl rfl fun a w F hS=>Za (wp_ret (Zg ?_))
  refine ZA hfr hS rfl (.cl 103 true 2 rfl rfl (.tmp rfl .nil)) (.two (by rw [hg];first | exact .aggU rfl rfl | exact .aggLe rfl ⟨PVLe.nilSl,PVLe.nilSl,trivial⟩) (.int (by rw [hg])))
 have hrt:ZR t=0:=by simpa using hc1
 refine wp_skip (Za (wp_seq (wp_seq ?_)))
 refine Zc hS (qe 2 101 r1 r1 (qg 0 102 r1 r1 (qa 102 r1 r1 (qf (oP (ZbH g t.id hs.1) Tryz.func128 (Args.two (.pagg .t) .t)) r2 qz (qM rfl rfl (qf (o_extract .t rfl) r1 qz (qf (o_extract .t rfl) r1 qz (qf (oH [.int .i64 0,.bool false,.slice none 0 0] 104) trivial qz (qf (oA 3 104 .same (.conv .t .agg)) r2 r1 (qN rfl rfl qZ)))))))))) hB [8,5,4,3,2] [104,103,102,101,0] (fun _=>rfl) (fun _=>rfl) fun τ a w F hS=>?_
 try dsimp only [RS.sub,SF.sub,CF.sub,csub,Anc.sub,List.map,Zf,xL,xM,Nat.reduceAdd,xD,xE,xT,xU,xC,xN,zCF,ldSF,Zj,rTx,Zs,Zv,rInt,rOp] at hS
 generalize τ 7=v7 at hS
 refine Za (wp_seq ?_)
 refine Zb hS (qM rfl rfl qZ) hB [26,5,4,3,2] [104,103,102,101,0] rfl rfl fun a w F hS=>Za ?_
 refine Zd hS rfl (fun hc2=>?_) (fun hc2=>?_)
 ·skip
  have hik:isK TxD.id t.id g.txs=true:=by rw [← ZcW];simpa using hc2
  have hg:=Zgp (Zoe hr hrt (by rw [hik];decide)) (by decide)
  refine wp_seq ?_
  refine Zb hS (qf (oB [] [.slice none 0 0,.slice none 0 0] [(0,1),(1,1)] .nil) trivial qz (qs 2 103 r2 r1 (qI qZ))) hB [5,4,3,2] [104,103,102,101,0] rfl rfl fun a w F hS=>Za (wp_ret (Zg ?_))
  refine ZA hfr hS rfl (.cl 103 true 2 rfl rfl (.tmp rfl .nil)) (.two (by rw [hg];first | exact .aggU rfl rfl | exact .aggLe rfl ⟨PVLe.nilSl,PVLe.nilSl,trivial⟩) (.int (by rw [hg])))
 have hik:isK TxD.id t.id g.txs=false:=by rw [← ZcW];simpa using hc2
 refine wp_skip (Za (wp_seq (wp_seq ?_)))
 refine Zb hS (qe 2 101 r1 r1 (qe 3 102 r1 r1 (qf (oP (ZcZ g t hs.1 ht) Tryz.func87 (Args.two (.pagg .t) (.pagg .t))) r2 qz (qf (o_not .t) r1 qz qZ)))) hB [31,5,4,3,2] [104,103,102,101,0] rfl rfl fun a w F hS=>Za ?_
 refine Zd hS rfl (fun hc3=>?_) (fun hc3=>?_)
 ·skip
  have hg:=Zgp (ZnX hr hrt hik (by simpa using hc3)) (by decide)
  refine wp_seq ?_
  refine Zb hS (qf (oB [] [.slice none 0 0,.slice none 0 0] [(0,1),(1,1)] .nil) trivial qz (qs 2 103 r2 r1 (qI qZ))) hB [5,4,3,2] [104,103,102,101,0] rfl rfl fun a w F hS=>Za (wp_ret (Zg ?_))
  refine ZA hfr hS rfl (.cl 103 true 2 rfl rfl (.tmp rfl .nil)) (.two (by rw [hg];first | exact .aggU rfl rfl | exact .aggLe rfl ⟨PVLe.nilSl,PVLe.nilSl,trivial⟩) (.int (by rw [hg])))
 have hnd:Zax g t=true:=by simpa using hc3
 refine wp_skip (Za (wp_seq (wp_seq ?_)))
 refine Zb hS (qg 0 101 r1 r1 (qa 101 r1 r1 (qu Tryz.underlying22 r1 (qf (ZbF .t qi) r1 qz qZ)))) hB [36,5,4,3,2] [104,103,102,101,0] rfl rfl fun a w F hS=>Za ?_
 refine Zd hS rfl (fun hc4=>?_) (fun hc4=>?_)
 ·skip
  have hg:=Zme hr hrt hik hnd (by simp at hc4;omega)
  refine wp_seq ?_
  refine Zb hS (qf (oB [] [.slice none 0 0,.slice none 0 0] [(0,1),(1,1)] .nil) trivial qz (qs 2 103 r2 r1 (qI qZ))) hB [5,4,3,2] [104,103,102,101,0] rfl rfl fun a w F hS=>Za (wp_ret (Zg ?_))
  refine ZA hfr hS rfl (.cl 103 true 2 rfl rfl (.tmp rfl .nil)) (.two (by rw [hg];first | exact .aggU rfl rfl | exact .aggLe rfl ⟨PVLe.nilSl,PVLe.nilSl,trivial⟩) (.int (by rw [hg])))
 have hg:=Zmo hs.2 hr hrt hik hnd (by simp at hc4;omega)
 refine wp_skip (Za (wp_seq ?_))
 refine ZE hS (qg 0 101 r1 r1 (qa 101 r1 r1 (qe 3 102 r1 r1 (qf (oP (Zk7 g.txs t (by omega)) Tryz.func129 (Args.two .t (.pagg .t))) r2 qz (qg 1 101 r1 r1 (qa 101 r1 r1 (qe 3 102 r1 r1 (qf (oP (Zc1 g.orders t hs.2 ht) Tryz.func130 (Args.two .t (.pagg .t))) r2 qz (qf (oB [(0,.tmp 41),(1,.tmp 45)] [.slice none 0 0,.slice none 0 0] [(0,1),(1,1)] (.one rfl .t one_sl (by kernel_rfl) (.one rfl .t one_sl (by kernel_rfl) .nil))) r2 qz (qs 2 103 r2 r1 (qI qZ))))))))))) hB [5,4] [104,103,102,101,0] rfl rfl fun a w F hS=>?_
 try dsimp only [List.map,Zf,xL,xM,Nat.reduceAdd,xD,xE,xT,xU,xC,xN,zCF,ldSF,Zj,rTx,Zs,Zv,rInt,rOp] at hS
 refine Za (wp_ret ?_)
 refine ZA hfr hS rfl (.cl 103 true 2 rfl rfl (.tmp rfl .nil)) (.two (by rw [hg];first | exact .aggU rfl rfl | exact .aggLe rfl ⟨PVLe.nilSl,PVLe.nilSl,trivial⟩) (.int (by rw [hg])))
theorem Zj5 (g:Zn) (t:TxD) (hs:ZaK g) (ht:t.ops.length≤1000):FnP Tryz.prog 61 [.agg (Zj g),.agg (rTx t)] (.tup [.agg (Zj (Zar g t).1),.int .i64 (Zar g t).2]):=by
 refine FnP.mk Tryz.func61 rfl Tryz.ntmps61 rfl ?_
 intro B a w F hB hfr hS
 have hsl:=hs.1.1
 refine wp_seq ?_
 refine Zc hS (qx 101 r1 (qx 102 r1 (qf (oH [.slice none 0 0,.slice none 0 0] 103) trivial qz (qI qZ)))) hB [5,4,3,2] [103,102,101,0] (fun _=>rfl) (fun _=>rfl) fun τ a w F hS=>?_
 try dsimp only [RS.sub,SF.sub,CF.sub,csub,Anc.sub,List.map,zCF,Zj,rTx,Zs,Zv,rInt,rOp] at hS
 generalize τ 2=v2 at hS
 generalize τ 3=v3 at hS
 generalize τ 4=v4 at hS
 refine Za (wp_seq (wp_seq ?_))
 refine Zb hS (qe 2 101 r1 r1 (qf (oP (ZaN g hs) Tryz.func35 (Args.one (.pagg .t))) r1 qz (qf (o_not .t) r1 qz qZ))) hB [11,5,4,3,2] [103,102,101,0] rfl rfl fun a w F hS=>Za ?_
 refine Zd hS rfl (fun hc0=>?_) (fun hc0=>?_)
 ·skip
  have hr:¬ Zx g:=by simpa using hc0
  have hg:=Zjf (t:=t) (Znd hr) (by decide)
  refine wp_seq ?_
  refine Zb hS (qf (oB [] [.slice none 0 0,.slice none 0 0] [(0,1),(1,1)] .nil) trivial qz (qs 2 103 r2 r1 (qI qZ))) hB [5,4,3,2] [103,102,101,0] rfl rfl fun a w F hS=>Za (wp_ret (Zg ?_))
  refine ZA hfr hS rfl (.cl 103 true 2 rfl rfl (.tmp rfl .nil)) (.two (by rw [hg];first | exact .aggU rfl rfl | exact .aggLe rfl ⟨PVLe.nilSl,PVLe.nilSl,trivial⟩) (.int (by rw [hg])))
 have hr:Zx g:=by simpa using hc0
 refine wp_skip (Za (wp_seq (wp_seq ?_)))
 refine Zb hS (qe 3 102 r1 r1 (qf (oP (Zcj t) Tryz.func86 (Args.one (.pagg .t))) r1 qz (qN rfl rfl qZ))) hB [6,5,4,3,2] [103,102,101,0] rfl rfl fun a w F hS=>Za (wp_seq ?_)
 refine Zb hS (qM rfl rfl (qf (o_neq .t qi) r1 qz qZ)) hB [16,6,5,4,3,2] [103,102,101,0] rfl rfl fun a w F hS=>Za ?_
 refine Zd hS rfl (fun hc1=>?_) (fun hc1=>?_)
 ·skip
  have hrt:ZR t≠0:=by simpa using hc1
  have hg:=Zjf (ZnW hr hrt) hrt
  refine wp_seq ?_
  refine Zb hS (qf (oB [] [.slice none 0 0,.slice none 0 0] [(0,1),(1,1)] .nil) trivial qz (qM rfl rfl (qs 2 103 r2 r1 (qN rfl rfl qZ)))) hB [5,4,3,2] [103,102,101,0] rfl rfl fun a w F hS=>Za (wp_ret (Zg ?_))
  refine ZA hfr hS rfl (.cl 103 true 2 rfl rfl (.tmp rfl .nil)) (.two (by rw [hg];first | exact .aggU rfl rfl | exact .aggLe rfl ⟨PVLe.nilSl,PVLe.nilSl,trivial⟩) (.int (by rw [hg])))
 have hrt:ZR t=0:=by simpa using hc1
 refine wp_skip (Za (wp_seq (wp_seq ?_)))
 refine Zc hS (qe 2 101 r1 r1 (qg 0 102 r1 r1 (qa 102 r1 r1 (qf (oP (ZbH g t.id hs.1) Tryz.func128 (Args.two (.pagg .t) .t)) r2 qz (qM rfl rfl (qf (o_extract .t rfl) r1 qz (qf (o_extract .t rfl) r1 qz (qf (oH [.int .i64 0,.bool false,.slice none 0 0] 104) trivial qz (qf (oA 3 104 .same (.conv .t .agg)) r2 r1 (qN rfl rfl qZ)))))))))) hB [8,5,4,3,2] [104,103,102,101,0] (fun _=>rfl) (fun _=>rfl) fun τ a w F hS=>?_
 try dsimp only [RS.sub,SF.sub,CF.sub,csub,Anc.sub,List.map,Zf,xL,xM,Nat.reduceAdd,xD,xE,xT,xU,xC,xN,zCF,ldSF,Zj,rTx,Zs,Zv,rInt,rOp] at hS
 generalize τ 7=v7 at hS
 refine Za (wp_seq ?_)
 refine Zb hS (qM rfl rfl (qf (o_not .t) r1 qz qZ)) hB [27,5,4,3,2] [104,103,102,101,0] rfl rfl fun a w F hS=>Za ?_
 refine Zd hS rfl (fun hc2=>?_) (fun hc2=>?_)
 ·skip
  have hik:isK TxD.id t.id g.txs=false:=by rw [← ZcW];simpa using hc2
  have hg:=Zjf (Zoe hr hrt (by rw [hik];decide)) (by decide)
  refine wp_seq ?_
  refine Zb hS (qf (oB [] [.slice none 0 0,.slice none 0 0] [(0,1),(1,1)] .nil) trivial qz (qs 2 103 r2 r1 (qI qZ))) hB [5,4,3,2] [104,103,102,101,0] rfl rfl fun a w F hS=>Za (wp_ret (Zg ?_))
  refine ZA hfr hS rfl (.cl 103 true 2 rfl rfl (.tmp rfl .nil)) (.two (by rw [hg];first | exact .aggU rfl rfl | exact .aggLe rfl ⟨PVLe.nilSl,PVLe.nilSl,trivial⟩) (.int (by rw [hg])))
 have hik:isK TxD.id t.id g.txs=true:=by rw [← ZcW];simpa using hc2
 refine wp_skip (Za (wp_seq (wp_seq ?_)))
 refine Zb hS (qe 2 101 r1 r1 (qe 3 102 r1 r1 (qf (oP (ZcZ g t hs.1 ht) Tryz.func87 (Args.two (.pagg .t) (.pagg .t))) r2 qz (qf (o_not .t) r1 qz qZ)))) hB [32,5,4,3,2] [104,103,102,101,0] rfl rfl fun a w F hS=>Za ?_
 refine Zd hS rfl (fun hc3=>?_) (fun hc3=>?_)
 ·skip
  have hg:=Zjf (ZnX hr hrt hik (by simpa using hc3)) (by decide)
  refine wp_seq ?_
  refine Zb hS (qf (oB [] [.slice none 0 0,.slice none 0 0] [(0,1),(1,1)] .nil) trivial qz (qs 2 103 r2 r1 (qI qZ))) hB [5,4,3,2] [104,103,102,101,0] rfl rfl fun a w F hS=>Za (wp_ret (Zg ?_))
  refine ZA hfr hS rfl (.cl 103 true 2 rfl rfl (.tmp rfl .nil)) (.two (by rw [hg];first | exact .aggU rfl rfl | exact .aggLe rfl ⟨PVLe.nilSl,PVLe.nilSl,trivial⟩) (.int (by rw [hg])))
 have hnd:Zax g t=true:=by simpa using hc3
 refine wp_skip (Za (wp_seq (wp_seq ?_)))
 refine Zb hS (qe 2 101 r1 r1 (qe 3 102 r1 r1 (qf (oP (ZhP g t hs.1 ht) Tryz.func131 (Args.two (.pagg .t) (.pagg .t))) r2 qz qZ))) hB [36,5,4,3,2] [104,103,102,101,0] rfl rfl fun a w F hS=>Za ?_
 refine Zd hS rfl (fun hc4=>?_) (fun hc4=>?_)
 ·skip
  have hg:=ZnG hr hrt hik hnd (by simpa using hc4)
  refine wp_seq ?_
  refine Zb hS (qf (oB [] [.slice none 0 0,.slice none 0 0] [(0,1),(1,1)] .nil) trivial qz (qs 2 103 r2 r1 (qI qZ))) hB [5,4,3,2] [104,103,102,101,0] rfl rfl fun a w F hS=>Za (wp_ret (Zg ?_))
  refine ZA hfr hS rfl (.cl 103 true 2 rfl rfl (.tmp rfl .nil)) (.two (by rw [hg];first | exact .aggU rfl rfl | exact .aggLe rfl ⟨PVLe.nilSl,PVLe.nilSl,trivial⟩) (.int (by rw [hg])))
 have hg:=Znp hs.2 hr hrt hik hnd (by simpa using hc4)
 refine wp_skip (Za (wp_seq ?_))
 refine ZE hS (qg 0 101 r1 r1 (qa 101 r1 r1 (qe 3 102 r1 r1 (qf (oP (Zk7 g.txs t (by omega)) Tryz.func129 (Args.two .t (.pagg .t))) r2 qz (qg 1 101 r1 r1 (qa 101 r1 r1 (qe 3 102 r1 r1 (qf (oP (Zc1 g.orders t hs.2 ht) Tryz.func130 (Args.two .t (.pagg .t))) r2 qz (qf (oB [(0,.tmp 41),(1,.tmp 45)] [.slice none 0 0,.slice none 0 0] [(0,1),(1,1)] (.one rfl .t one_sl (by kernel_rfl) (.one rfl .t one_sl (by kernel_rfl) .nil))) r2 qz (qs 2 103 r2 r1 (qI qZ))))))))))) hB [5,4] [104,103,102,101,0] rfl rfl fun a w F hS=>?_
 try dsimp only [List.map,Zf,xL,xM,Nat.reduceAdd,xD,xE,xT,xU,xC,xN,zCF,ldSF,Zj,rTx,Zs,Zv,rInt,rOp] at hS
 refine Za (wp_ret ?_)
 refine ZA hfr hS rfl (.cl 103 true 2 rfl rfl (.tmp rfl .nil)) (.two (by rw [hg];first | exact .aggU rfl rfl | exact .aggLe rfl ⟨PVLe.nilSl,PVLe.nilSl,trivial⟩) (.int (by rw [hg])))
theorem Zia (g:Zn) (id:Int) (hs:ZaK g):FnP Tryz.prog 62 [.agg (Zj g),.int .i64 id] (.tup [.agg (Zj (ZY g id).1),.int .i64 (ZY g id).2]):=by
 refine FnP.mk Tryz.func62 rfl Tryz.ntmps62 rfl ?_
 intro B a w F hB hfr hS
 have hsl:=hs.1.1
 refine wp_seq ?_
 refine Zc hS (qx 101 r1 (qf (oH [.slice none 0 0,.slice none 0 0] 102) trivial qz (qI qZ))) hB [5,4,2,1] [102,101,0] (fun _=>rfl) (fun _=>rfl) fun τ a w F hS=>?_
 try dsimp only [RS.sub,SF.sub,CF.sub,csub,Anc.sub,List.map,zCF,Zj,rTx,Zs,Zv,rInt,rOp] at hS
 generalize τ 2=v2 at hS
 generalize τ 4=v4 at hS
 refine Za (wp_seq (wp_seq ?_))
 refine Zb hS (qe 2 101 r1 r1 (qf (oP (ZaN g hs) Tryz.func35 (Args.one (.pagg .t))) r1 qz (qf (o_not .t) r1 qz qZ))) hB [13,5,4,2,1] [102,101,0] rfl rfl fun a w F hS=>Za ?_
 refine Zd hS rfl (fun hc0=>?_) (fun hc0=>?_)
 ·skip
  have hr:¬ Zx g:=by simpa using hc0
  have hg:=ZoA (id:=id) hr
  refine wp_seq ?_
  refine Zb hS (qf (oB [] [.slice none 0 0,.slice none 0 0] [(0,1),(1,1)] .nil) trivial qz (qs 2 102 r2 r1 (qI qZ))) hB [5,4,2,1] [102,101,0] rfl rfl fun a w F hS=>Za (wp_ret (Zg ?_))
  refine ZA hfr hS rfl (.cl 102 true 2 rfl rfl (.tmp rfl .nil)) (.two (by rw [hg];first | exact .aggU rfl rfl | exact .aggLe rfl ⟨PVLe.nilSl,PVLe.nilSl,trivial⟩) (.int (by rw [hg])))
 have hr:Zx g:=by simpa using hc0
 refine wp_skip (Za (wp_seq (wp_seq ?_)))
 refine Zc hS (qe 2 101 r1 r1 (qM rfl rfl (qf (oP (ZbH g id hs.1) Tryz.func128 (Args.two (.pagg .t) .t)) r2 qz (qM rfl rfl (qf (o_extract .t rfl) r1 qz (qf (o_extract .t rfl) r1 qz (qf (oH [.int .i64 0,.bool false,.slice none 0 0] 103) trivial qz (qf (oA 3 103 .same (.conv .t .agg)) r2 r1 (qN rfl rfl qZ))))))))) hB [7,5,4,2,1] [103,102,101,0] (fun _=>rfl) (fun _=>rfl) fun τ a w F hS=>?_
 try dsimp only [RS.sub,SF.sub,CF.sub,csub,Anc.sub,List.map,Zf,xL,xM,Nat.reduceAdd,xD,xE,xT,xU,xC,xN,zCF,ldSF,Zj,rTx,Zs,Zv,rInt,rOp] at hS
 generalize τ 6=v6 at hS
 refine Za (wp_seq ?_)
 refine Zb hS (qM rfl rfl (qf (o_not .t) r1 qz qZ)) hB [22,5,4,2,1] [103,102,101,0] rfl rfl fun a w F hS=>Za ?_
 refine Zd hS rfl (fun hc1=>?_) (fun hc1=>?_)
 ·skip
  have hg:=Zop (id:=id) hr (by rw [← ZcW];simpa using hc1)
  refine wp_seq ?_
  refine Zb hS (qf (oB [] [.slice none 0 0,.slice none 0 0] [(0,1),(1,1)] .nil) trivial qz (qs 2 102 r2 r1 (qI qZ))) hB [5,4,2,1] [103,102,101,0] rfl rfl fun a w F hS=>Za (wp_ret (Zg ?_))
  refine ZA hfr hS rfl (.cl 102 true 2 rfl rfl (.tmp rfl .nil)) (.two (by rw [hg];first | exact .aggU rfl rfl | exact .aggLe rfl ⟨PVLe.nilSl,PVLe.nilSl,trivial⟩) (.int (by rw [hg])))
 have hik:isK TxD.id id g.txs=true:=by rw [← ZcW];simpa using hc1
 refine wp_skip (Za (wp_seq (wp_seq ?_)))
 refine Zb hS (qe 2 101 r1 r1 (qM rfl rfl (qf (oB [(0,.tmp 25)] [.int .i64 0,.bool false,.slice none 0 0] [(0,1),(1,1),(2,1)] (.one rfl .t one_int (by kernel_rfl) .nil)) r1 qz (qf (oP (ZhP g (ZbE id) hs.1 (by simp [ZbE])) Tryz.func131 (Args.two (.pagg .t) (.conv (.pagg .t) (Ent.paggLe (l:=[.int .i64 id,.bool false,.is (.slice none 0 0)]) (l':=[.int .i64 id,.bool false,.sl rOp []]) ⟨PVLe.refl,PVLe.refl,PVLe.nilSl,trivial⟩)))) r2 qz qZ)))) hB [27,5,4,2,1] [103,102,101,0] rfl rfl fun a w F hS=>Za ?_
 refine Zd hS rfl (fun hc2=>?_) (fun hc2=>?_)
 ·skip
  have hg:=Zor (id:=id) hr hik (by simpa using hc2)
  refine wp_seq ?_
  refine Zb hS (qf (oB [] [.slice none 0 0,.slice none 0 0] [(0,1),(1,1)] .nil) trivial qz (qs 2 102 r2 r1 (qI qZ))) hB [5,4,2,1] [103,102,101,0] rfl rfl fun a w F hS=>Za (wp_ret (Zg ?_))
  refine ZA hfr hS rfl (.cl 102 true 2 rfl rfl (.tmp rfl .nil)) (.two (by rw [hg];first | exact .aggU rfl rfl | exact .aggLe rfl ⟨PVLe.nilSl,PVLe.nilSl,trivial⟩) (.int (by rw [hg])))
 have hud:ZdE g (ZbE id)=false:=by simpa using hc2
 refine wp_skip (Za (wp_seq ?_))
 refine Zb hS (qC qZ) hB [8,5,4,2,1] [103,102,101,0] rfl rfl fun a w F hS=>Za (wp_seq (wp_seq ?_))
 refine Zb hS (qg 0 101 r1 r1 (qa 101 r1 r1 (qu Tryz.underlying22 r1 (qJ qZ)))) hB [32,31,30,8,5,4,2,1] [103,102,101,0] rfl rfl fun a w F hS=>Za (wp_block ?_)
 replace hS:=hS.fresh 50 rfl
 replace hS:=hS.turn 50 rfl (Zaf (T:=40) (sz:=3) (R:=rTx))
 refine Zl (σ:=(Nat)×(Value)×(List TxD)) [1,2,4,5,30,31] [0,101,102,103] (fun s=>[(32,.pv (.int .i64 (s.1:Int))),(8,.pv (.is s.2.1))]) (fun s=>[(50,.ob (.val s.2.1) (Zw 40 3 rTx s.2.2))]) (fun s=>s.1≤g.txs.length∧(s.2.2=((g.txs.take s.1).filter fun x=>!decide (x.id=id)))) (fun s=>g.txs.length - s.1) ((0),(.slice none 0 0),([])) hS ⟨rfl,rfl,rfl,rfl,rfl,rfl,rfl,rfl,trivial⟩ ⟨rfl,rfl,rfl,rfl,rfl,trivial⟩ ⟨Nat.zero_le _,rfl⟩ ?_
 clear hS;intro s a w F hC hS
 obtain ⟨i,v,out⟩:=s
 try dsimp only at hC
 obtain ⟨F,hS⟩:=hS.nm [32,31,30,8,5,4,2,1] [103,102,101,50,0] rfl rfl
 try dsimp only at hS
 obtain ⟨hi,hq⟩:=hC
 have hol:out.length≤i:=by rw [hq];exact Nat.le_trans (List.length_filter_le _ _) (by rw [List.length_take];omega)
 refine wp_seq ?_
 refine Zb hS (qL r2) hB [33,32,31,30,8,5,4,2,1] [103,102,101,50,0] rfl rfl fun a w F hS=>Za (wp_seq ?_)
 refine Zd hS rfl (fun hc3=>?_) (fun hc3=>?_)
 ·skip
  have hil:i<g.txs.length:=by simp at hc3;omega
  refine wp_skip (Za (wp_seq (wp_block (wp_seq ?_))))
  refine Zc hS (qy 3 Tryz.underlying22 r2 (qf (oR true 3 .t) r1 qz (qf (oH [.int .i64 0,.bool false,.slice none 0 0] 104) trivial qz (qS 3 104 r2 r1 qZ)))) hB [32,31,30,10,8,5,4,2,1] [104,103,102,101,50,0] (fun _=>rfl) (fun _=>rfl) fun τ a w F hS=>?_
  try dsimp only [RS.sub,SF.sub,CF.sub,csub,Anc.sub,List.map,Zf,xL,xM,Nat.reduceAdd,xD,xE,xT,xU,xC,xN,zCF,ldSF,Zj,rTx,Zs,Zv,rInt,rOp] at hS
  generalize τ 10=v10 at hS
  try simp only [Int.toNat_natCast] at hS
  refine Za (wp_seq ?_)
  refine Zb hS (qg 0 104 r1 r1 (qa 104 r1 r1 (qM rfl rfl (qf (o_neq .t .t) r2 qz qZ)))) hB [39,32,31,30,10,8,5,4,2,1] [104,103,102,101,50,0] rfl rfl fun a w F hS=>Za ?_
  refine Zd hS rfl (fun hc4=>?_) (fun hc4=>?_)
  ·skip
   have hst9:out ++ [(Go.Gm.nth g.txs i)] = ((g.txs.take (i+1)).filter fun x=>!decide (x.id=id)):=by rw [Zt hil,List.filter_append,← hq,List.filter_cons_of_pos (by simpa using hc4)];rfl
   refine Zc hS (qM rfl rfl (qe 3 104 r1 r1 (qf (Zh (sz:=3) (zs:=[.int .i64 0,.bool false,.slice none 0 0]) (r:=[(0,.tmp 41)]) (l:=[_,_,_]) Tryz.underlying22 (by kernel_rfl) (by kernel_rfl) (by kernel_rfl) (by kernel_rfl) rfl rfl (.agg rfl .t (by kernel_rfl) (by kernel_rfl) .nil) rfl) r1 qz (qf (o_append (sz:=3) (bs:=40) 50 (.mk' Tryz.underlying22 (by kernel_rfl) (by kernel_rfl)) (by intro x;rfl) .is (.arr (l':=[(Go.Gm.nth g.txs i)]) .t) (by simp only [List.length_append,List.length_cons,List.length_nil];omega) (by decide)) ⟨rfl,rfl,trivial⟩ ⟨rfl,trivial⟩ (qN rfl rfl qZ))))) hB [32,31,30,8,5,4,2,1] [104,103,102,101,50,0] (fun _=>rfl) (fun _=>rfl) fun τ a w F hS=>?_
   try dsimp only [RS.sub,SF.sub,CF.sub,csub,Anc.sub,List.map,Zf,xL,xM,Nat.reduceAdd,xD,xE,xT,xU,xC,xN,zCF,ldSF,Zj,rTx,Zs,Zv,rInt,rOp] at hS
   generalize τ 43=v43 at hS
   refine Zi (Za ?_)
   refine Zb hS (qp r1 (qM rfl rfl qZ)) hB [32,31,30,8,5,4,2,1] [104,103,102,101,50,0] rfl rfl fun a w F hS=>Za ?_
   replace hS:=hS.ent (i:=32) (s':=.pv (.int .i64 ((i+1:Nat):Int))) rfl (.int (Ze (by omega)))
   obtain ⟨F,hS⟩:=hS.nm [31,30,5,4,2,1,8,32] [103,102,101,0,50] rfl rfl
   exact ⟨((i+1),_,_),F,⟨by omega,hst9⟩,hS,by omega⟩
  have hst9:out=((g.txs.take (i+1)).filter fun x=>!decide (x.id=id)):=by rw [Zt hil,List.filter_append,← hq,List.filter_cons_of_neg (by simpa using hc4),List.filter_nil,List.append_nil]
  refine wp_skip (Zi (Za ?_))
  refine Zb hS (qp r1 (qM rfl rfl qZ)) hB [32,31,30,8,5,4,2,1] [104,103,102,101,50,0] rfl rfl fun a w F hS=>Za ?_
  replace hS:=hS.ent (i:=32) (s':=.pv (.int .i64 ((i+1:Nat):Int))) rfl (.int (Ze (by omega)))
  obtain ⟨F,hS⟩:=hS.nm [31,30,5,4,2,1,8,32] [103,102,101,0,50] rfl rfl
  exact ⟨((i+1),_,_),F,⟨by omega,hst9⟩,hS,by omega⟩
 have hil:i=g.txs.length:=by simp at hc3;omega
 have hout:out=g.txs.filter fun x=>!decide (x.id=id):=by rw [hq,hil,List.take_length]
 subst hout
 have hg:=Zoj (id:=id) hs.2 hr hik hud
 refine wp_exit (Zk (Zk (Zq (Za (wp_seq ?_)))))
 obtain ⟨F,hS⟩:=hS.give 50 8 rfl rfl
 obtain ⟨F,hS⟩:=hS.nm [33,32,31,30,8,5,4,2,1] [103,102,101,0] rfl rfl
 refine Zb hS (qM rfl rfl (qg 1 101 r1 r1 (qa 101 r1 r1 (qM rfl rfl (qf (oB [(0,.tmp 48)] [.int .i64 0,.bool false,.slice none 0 0] [(0,1),(1,1),(2,1)] (.one rfl .t one_int (by kernel_rfl) .nil)) r1 qz (qf (oP (Zc1 g.orders (ZbE id) hs.2 (by simp [ZbE])) Tryz.func130 (Args.two .t (.conv (.pagg .t) (Ent.paggLe (l:=[.int .i64 id,.bool false,.is (.slice none 0 0)]) (l':=[.int .i64 id,.bool false,.sl rOp []]) ⟨PVLe.refl,PVLe.refl,PVLe.nilSl,trivial⟩)))) r2 qz (qf (oB [(0,.tmp 45),(1,.tmp 50)] [.slice none 0 0,.slice none 0 0] [(0,1),(1,1)] (.one rfl .t one_sl (by kernel_rfl) (.one rfl .t one_sl (by kernel_rfl) .nil))) r2 qz (qs 2 102 r2 r1 (qI qZ))))))))) hB [5,4] [103,102,101,0] rfl rfl fun a w F hS=>Za (wp_ret ?_)
 refine ZA hfr hS rfl (.cl 102 true 2 rfl rfl (.tmp rfl .nil)) (.two (by rw [hg];first | exact .aggU rfl rfl | exact .aggLe rfl ⟨PVLe.nilSl,PVLe.nilSl,trivial⟩) (.int (by rw [hg])))
theorem ZgW (g:Zn) (o:OrdD) (hs:ZaK g) (ho:o.txs.length≤1000):FnP Tryz.prog 63 [.agg (Zj g),.agg (Zs o)] (.tup [.agg (Zj (ZaD g o).1),.int .i64 (ZaD g o).2]):=by
 refine FnP.mk Tryz.func63 rfl Tryz.ntmps63 rfl ?_
 intro B a w F hB hfr hS
 have hso:=hs.2.1
 refine wp_seq ?_
 refine Zc hS (qx 101 r1 (qx 102 r1 (qf (oH [.slice none 0 0,.slice none 0 0] 103) trivial qz (qI qZ)))) hB [5,4,3,2] [103,102,101,0] (fun _=>rfl) (fun _=>rfl) fun τ a w F hS=>?_
 try dsimp only [RS.sub,SF.sub,CF.sub,csub,Anc.sub,List.map,zCF,Zj,rTx,Zs,Zv,rInt,rOp] at hS
 generalize τ 2=v2 at hS
 generalize τ 3=v3 at hS
 generalize τ 4=v4 at hS
 refine Za (wp_seq (wp_seq ?_))
 refine Zb hS (qe 2 101 r1 r1 (qf (oP (ZaN g hs) Tryz.func35 (Args.one (.pagg .t))) r1 qz (qf (o_not .t) r1 qz qZ))) hB [9,5,4,3,2] [103,102,101,0] rfl rfl fun a w F hS=>Za ?_
 refine Zd hS rfl (fun hc0=>?_) (fun hc0=>?_)
 ·skip
  have hr:¬ Zx g:=by simpa using hc0
  have hg:ZaD g o=(zeroH,5):=ZhR hr
  refine wp_seq ?_
  refine Zb hS (qf (oB [] [.slice none 0 0,.slice none 0 0] [(0,1),(1,1)] .nil) trivial qz (qs 2 103 r2 r1 (qI qZ))) hB [5,4,3,2] [103,102,101,0] rfl rfl fun a w F hS=>Za (wp_ret (Zg ?_))
  refine ZA hfr hS rfl (.cl 103 true 2 rfl rfl (.tmp rfl .nil)) (.two (by rw [hg];first | exact .aggU rfl rfl | exact .aggLe rfl ⟨PVLe.nilSl,PVLe.nilSl,trivial⟩) (.int (by rw [hg])))
 have hr:Zx g:=by simpa using hc0
 refine wp_skip (Za (wp_seq ?_))
 refine Zb hS (qe 2 101 r1 r1 (qg 0 102 r1 r1 (qa 102 r1 r1 (qf (oP (ZcK g o.key) Tryz.func38 (Args.two (.pagg .t) .t)) r2 qz (qN rfl rfl qZ))))) hB [6,5,4,3,2] [103,102,101,0] rfl rfl fun a w F hS=>Za (wp_seq (wp_seq ?_))
 refine Zb hS (qM rfl rfl (qu Tryz.underlying41 r1 (qf (o_eql .t qi) r1 qz qZ))) hB [17,6,5,4,3,2] [103,102,101,0] rfl rfl fun a w F hS=>Za ?_
 refine Zd hS rfl (fun hc1=>?_) (fun hc1=>?_)
 ·skip
  have hg:ZaD g o=(zeroH,3):=Zlv hr (by simpa using hc1)
  refine wp_seq ?_
  refine Zb hS (qf (oB [] [.slice none 0 0,.slice none 0 0] [(0,1),(1,1)] .nil) trivial qz (qs 2 103 r2 r1 (qI qZ))) hB [6,5,4,3,2] [103,102,101,0] rfl rfl fun a w F hS=>Za (wp_ret (Zg ?_))
  refine ZA hfr hS rfl (.cl 103 true 2 rfl rfl (.tmp rfl .nil)) (.two (by rw [hg];first | exact .aggU rfl rfl | exact .aggLe rfl ⟨PVLe.nilSl,PVLe.nilSl,trivial⟩) (.int (by rw [hg])))
 have hgn:(getO g.orders o.key)≠[]:=by simpa using hc1
 have hwl:=Zdl hs.2 o.key
 refine wp_skip (Za (wp_seq (wp_seq ?_)))
 refine Zb hS (qM rfl rfl (qg 1 102 r1 r1 (qa 102 r1 r1 (qf (oP (ZgA (getO g.orders o.key) o.txs) Tryz.func89 (Args.two .t .t)) r2 qz (qf (o_not .t) r1 qz qZ))))) hB [23,5,4,3,2] [103,102,101,0] rfl rfl fun a w F hS=>Za ?_
 refine Zd hS rfl (fun hc2=>?_) (fun hc2=>?_)
 ·skip
  have hp:¬ (getO g.orders o.key).Perm o.txs:=by simpa using hc2
  have hru:ZcO o (getO g.orders o.key)=([],8):=if_neg hp
  have hg:ZaD g o=(zeroH,8):=by have:=Zkr (rule:=ZcO o) hr hgn (by rw [hru];decide);rw [hru] at this;exact this
  refine wp_seq ?_
  refine Zb hS (qf (oB [] [.slice none 0 0,.slice none 0 0] [(0,1),(1,1)] .nil) trivial qz (qs 2 103 r2 r1 (qI qZ))) hB [5,4,3,2] [103,102,101,0] rfl rfl fun a w F hS=>Za (wp_ret (Zg ?_))
  refine ZA hfr hS rfl (.cl 103 true 2 rfl rfl (.tmp rfl .nil)) (.two (by rw [hg];first | exact .aggU rfl rfl | exact .aggLe rfl ⟨PVLe.nilSl,PVLe.nilSl,trivial⟩) (.int (by rw [hg])))
 have hp:(getO g.orders o.key).Perm o.txs:=by simpa using hc2
 have hru:ZcO o (getO g.orders o.key)=(o.txs,0):=if_pos hp
 have hg:ZaD g o=(⟨g.txs,putGR OrdD.key o g.orders (decide (o.txs = []))⟩,0):=by have:=Zkb (rule:=ZcO o) hr hgn (by rw [hru]) (by rw [hru];intro e;have e:o.txs = []:=e;rw [e] at hp;exact hgn hp.eq_nil);rw [hru] at this;exact this
 refine wp_skip (Za (wp_seq ?_))
 refine ZE hS (qg 0 101 r1 r1 (qa 101 r1 r1 (qg 1 101 r1 r1 (qa 101 r1 r1 (qe 2 102 r1 r1 (qf (oP (ZcG g.orders o (by omega)) Tryz.func132 (Args.two .t (.pagg .t))) r2 qz (qf (oB [(0,.tmp 26),(1,.tmp 30)] [.slice none 0 0,.slice none 0 0] [(0,1),(1,1)] (.one rfl .t one_sl (by kernel_rfl) (.one rfl .t one_sl (by kernel_rfl) .nil))) r2 qz (qs 2 103 r2 r1 (qI qZ))))))))) hB [5,4] [103,102,101,0] rfl rfl fun a w F hS=>?_
 try dsimp only [List.map,Zf,xL,xM,Nat.reduceAdd,xD,xE,xT,xU,xC,xN,zCF,ldSF,Zj,rTx,Zs,Zv,rInt,rOp] at hS
 refine Za (wp_ret ?_)
 refine ZA hfr hS rfl (.cl 103 true 2 rfl rfl (.tmp rfl .nil)) (.two (by rw [hg];first | exact .aggU rfl rfl | exact .aggLe rfl ⟨PVLe.nilSl,PVLe.nilSl,trivial⟩) (.int (by rw [hg])))
theorem Zk1 (g:Zn) (key id place:Int) (hs:ZaK g):FnP Tryz.prog 64 [.agg (Zj g),.int .i64 key,.int .i64 id,.int .i64 place] (.tup [.agg (Zj (ZdS g key id place).1),.int .i64 (ZdS g key id place).2]):=by
 refine FnP.mk Tryz.func64 rfl Tryz.ntmps64 rfl ?_
 intro B a w F hB hfr hS
 have hso:=hs.2.1
 refine wp_seq ?_
 refine Zc hS (qx 101 r1 (qf (oH [.slice none 0 0,.slice none 0 0] 102) trivial qz (qI qZ))) hB [9,8,4,3,2,1] [102,101,0] (fun _=>rfl) (fun _=>rfl) fun τ a w F hS=>?_
 try dsimp only [RS.sub,SF.sub,CF.sub,csub,Anc.sub,List.map,zCF,Zj,rTx,Zs,Zv,rInt,rOp] at hS
 generalize τ 4=v4 at hS
 generalize τ 8=v8 at hS
 refine Za (wp_seq (wp_seq ?_))
 refine Zb hS (qe 2 101 r1 r1 (qf (oP (ZaN g hs) Tryz.func35 (Args.one (.pagg .t))) r1 qz (qf (o_not .t) r1 qz qZ))) hB [15,9,8,4,3,2,1] [102,101,0] rfl rfl fun a w F hS=>Za ?_
 refine Zd hS rfl (fun hc0=>?_) (fun hc0=>?_)
 ·skip
  have hr:¬ Zx g:=by simpa using hc0
  have hg:ZdS g key id place=(zeroH,5):=ZhR hr
  refine wp_seq ?_
  refine Zb hS (qf (oB [] [.slice none 0 0,.slice none 0 0] [(0,1),(1,1)] .nil) trivial qz (qs 2 102 r2 r1 (qI qZ))) hB [9,8,4,3,2,1] [102,101,0] rfl rfl fun a w F hS=>Za (wp_ret (Zg ?_))
  refine ZA hfr hS rfl (.cl 102 true 2 rfl rfl (.tmp rfl .nil)) (.two (by rw [hg];first | exact .aggU rfl rfl | exact .aggLe rfl ⟨PVLe.nilSl,PVLe.nilSl,trivial⟩) (.int (by rw [hg])))
 have hr:Zx g:=by simpa using hc0
 have hwl:=Zdl hs.2 key
 refine wp_skip (Za (wp_seq ?_))
 refine Zb hS (qe 2 101 r1 r1 (qM rfl rfl (qf (oP (ZcK g key) Tryz.func38 (Args.two (.pagg .t) .t)) r2 qz (qN rfl rfl qZ)))) hB [10,9,8,4,3,2,1] [102,101,0] rfl rfl fun a w F hS=>Za (wp_seq (wp_seq ?_))
 refine Zb hS (qM rfl rfl (qu Tryz.underlying41 r1 (qf (o_eql .t qi) r1 qz qZ))) hB [22,10,9,8,4,3,2,1] [102,101,0] rfl rfl fun a w F hS=>Za ?_
 refine Zd hS rfl (fun hc1=>?_) (fun hc1=>?_)
 ·skip
  have hg:ZdS g key id place=(zeroH,3):=Zlv hr (by simpa using hc1)
  refine wp_seq ?_
  refine Zb hS (qf (oB [] [.slice none 0 0,.slice none 0 0] [(0,1),(1,1)] .nil) trivial qz (qs 2 102 r2 r1 (qI qZ))) hB [10,9,8,4,3,2,1] [102,101,0] rfl rfl fun a w F hS=>Za (wp_ret (Zg ?_))
  refine ZA hfr hS rfl (.cl 102 true 2 rfl rfl (.tmp rfl .nil)) (.two (by rw [hg];first | exact .aggU rfl rfl | exact .aggLe rfl ⟨PVLe.nilSl,PVLe.nilSl,trivial⟩) (.int (by rw [hg])))
 have hgn:(getO g.orders key)≠[]:=by simpa using hc1
 refine wp_skip (Za (wp_seq ?_))
 refine Zb hS (qM rfl rfl (qM rfl rfl (qM rfl rfl (qf (oP (ZiP (getO g.orders key) id place (by omega)) Tryz.func95 (Args.three .t .t .t)) r3 qz (qM rfl rfl (qf (o_extract .t rfl) r1 qz (qf (o_extract .t rfl) r1 qz (qN rfl rfl (qN rfl rfl qZ))))))))) hB [12,11,9,8,4,1] [102,101,0] rfl rfl fun a w F hS=>Za (wp_seq (wp_seq ?_))
 refine Zb hS (qM rfl rfl (qf (o_neq .t qi) r1 qz qZ)) hB [32,12,11,9,8,4,1] [102,101,0] rfl rfl fun a w F hS=>Za ?_
 refine Zd hS rfl (fun hc2=>?_) (fun hc2=>?_)
 ·skip
  have hg:ZdS g key id place=(zeroH,(Z9 (getO g.orders key) id place).2):=Zkr (rule:=fun l=>Z9 l id place) hr hgn (by simpa using hc2)
  refine wp_seq ?_
  refine Zb hS (qf (oB [] [.slice none 0 0,.slice none 0 0] [(0,1),(1,1)] .nil) trivial qz (qM rfl rfl (qs 2 102 r2 r1 (qN rfl rfl qZ)))) hB [11,9,8,4,1] [102,101,0] rfl rfl fun a w F hS=>Za (wp_ret (Zg ?_))
  refine ZA hfr hS rfl (.cl 102 true 2 rfl rfl (.tmp rfl .nil)) (.two (by rw [hg];first | exact .aggU rfl rfl | exact .aggLe rfl ⟨PVLe.nilSl,PVLe.nilSl,trivial⟩) (.int (by rw [hg])))
 have hm0:(Z9 (getO g.orders key) id place).2=0:=by simpa using hc2
 have hg:ZdS g key id place=(⟨g.txs,putGR OrdD.key ⟨key,(Z9 (getO g.orders key) id place).1⟩ g.orders (decide ((Z9 (getO g.orders key) id place).1 = []))⟩,0):=Zkb (rule:=fun l=>Z9 l id place) hr hgn hm0 (fun e=>hgn (by have hp:=Zhz hm0;rw [e] at hp;exact hp.symm.eq_nil))
 refine wp_skip (Za (wp_seq ?_))
 refine ZE hS (qg 0 101 r1 r1 (qa 101 r1 r1 (qg 1 101 r1 r1 (qa 101 r1 r1 (qM rfl rfl (qM rfl rfl (qf (oB [(0,.tmp 39),(1,.tmp 40)] [.int .i64 0,.slice none 0 0] [(0,1),(1,1)] (.one rfl .t one_int (by kernel_rfl) (.one rfl .t one_sl (by kernel_rfl) .nil))) r2 qz (qf (oP (ZcG g.orders ⟨key,(Z9 (getO g.orders key) id place).1⟩ (by omega)) Tryz.func132 (Args.two .t (.pagg .t))) r2 qz (qf (oB [(0,.tmp 36),(1,.tmp 42)] [.slice none 0 0,.slice none 0 0] [(0,1),(1,1)] (.one rfl .t one_sl (by kernel_rfl) (.one rfl .t one_sl (by kernel_rfl) .nil))) r2 qz (qs 2 102 r2 r1 (qI qZ))))))))))) hB [9,8] [102,101,0] rfl rfl fun a w F hS=>?_
 try dsimp only [List.map,Zf,xL,xM,Nat.reduceAdd,xD,xE,xT,xU,xC,xN,zCF,ldSF,Zj,rTx,Zs,Zv,rInt,rOp] at hS
 refine Za (wp_ret ?_)
 refine ZA hfr hS rfl (.cl 102 true 2 rfl rfl (.tmp rfl .nil)) (.two (by rw [hg];first | exact .aggU rfl rfl | exact .aggLe rfl ⟨PVLe.nilSl,PVLe.nilSl,trivial⟩) (.int (by rw [hg])))
theorem ZfY {os:List OrdD} {k:Int} : (Z5 (fun o:OrdD=>decide (o.key=k)) os<0→getO os k = [])∧(¬ Z5 (fun o:OrdD=>decide (o.key=k)) os<0 → ∃ i:Nat,Z5 (fun o:OrdD=>decide (o.key=k)) os=i∧i<os.length∧getO os k=(Go.Gm.nth os i).txs):=by
 rcases Zam (fun o:OrdD=>decide (o.key=k)) os with ⟨h1,h2⟩ | ⟨i,h1,h2,h3,h4⟩
 · exact ⟨fun _=>ZkT fun q hq=>by simpa using h2 q hq,fun h=>absurd (by rw [h1];decide) h⟩
 · exact ⟨fun h=>by rw [h1] at h;omega,fun _=>⟨i,h1,h2,ZkL h2 (by simpa using h3) fun q hq=>by simpa using h4 q hq⟩⟩
def Fit (n:Nat) (g:Zn):Prop:=(g.txs.length≤n ∧ ∀ t ∈ g.txs,t.ops.length≤24)∧g.orders.length≤24*n ∧ ∀ o ∈ g.orders,o.txs.length≤n
theorem Fit.small {n:Nat} {g:Zn} (h:Fit n g) (hn:n≤30):ZaK g:=by
 obtain ⟨⟨h1,h2⟩,h3,h4⟩:=h
 exact ⟨⟨by omega,fun t ht=>by have:=h2 t ht;omega⟩,by omega,fun o ho=>by have:=h4 o ho;omega⟩
theorem Fit.zero:Fit 0 zeroH:=⟨⟨by simp [zeroH],fun t ht=>by cases ht⟩,by simp [zeroH],fun o ho=>by cases ho⟩
theorem Fit.up {n:Nat} {g:Zn} (h:Fit n g):Fit (n+1) g:=⟨⟨by have:=h.1.1;omega,h.1.2⟩,by have:=h.2.1;omega,fun o ho=>by have:=h.2.2 o ho;omega⟩
theorem Fit.none {n:Nat} : Fit n zeroH:=by
 induction n with
 | zero=>exact Fit.zero
 | succ n ih=>exact ih.up
theorem ZkU {os:List OrdD} {ks:List Int} {t:TxD} {o:OrdD} (h:o ∈ ZcY t os ks):o ∈ os∨o.txs = []:=by
 unfold ZcY at h
 split at h
 · have key:∀ (ks:List Int) (os:List OrdD),o ∈ ks.foldl Zeg os→o ∈ os∨o.txs = []:=by
     intro ks
     induction ks with
     | nil=>intro os h;exact .inl h
     | cons k ks ih=>
       intro os h
       rcases ih _ h with h | h
       · rcases ZiV h with h | h
         · exact .inl h
         · exact .inr (by rw [h])
       · exact .inr h
   exact key ks os h
 · exact .inl h
theorem ZjN {n:Nat} {t:TxD} {os:List OrdD} (ht:t.ops.length≤24) (h1:os.length≤24*n) (h2:∀ o ∈ os,o.txs.length≤n):(settleO t os).length≤24*(n+1) ∧ ∀ o ∈ settleO t os,o.txs.length≤n+1:=by
 have hk:=Zbl t
 have hl:(ZcY t os (ZJ t)).length≤os.length+(ZJ t).length:=by
   unfold ZcY
   split
   · have key:∀ (ks:List Int) (os:List OrdD),(ks.foldl Zeg os).length≤os.length+ks.length:=by
       intro ks
       induction ks with
       | nil=>intro os;simp
       | cons k ks ih=>intro os;have h1:=ih (Zeg os k);have h2:=Ziy os k;rw [List.foldl_cons,List.length_cons];omega
     exact key _ _
   · omega
 unfold settleO
 refine ⟨Nat.le_trans (List.length_filter_le _ _) (by rw [List.length_map];omega),fun o ho=>?_⟩
 obtain ⟨o',ho',e⟩:=List.mem_map.1 (List.mem_filter.1 ho).1
 have hlen:o'.txs.length≤n:=by
   rcases ZkU ho' with h | h
   · exact h2 o' h
   · rw [h];simp
 rw [← e]
 unfold Zh6
 show (if _ then _ else _:List Int).length≤_
 split
 · unfold withO;split
   · omega
   · simp;omega
 · unfold withoutO
   exact Nat.le_trans (List.length_filter_le _ _) (by omega)
theorem ZfS {n:Nat} {g:Zn} {key:Int} {rule:List Int→List Int×Int} (hr:∀ l,(rule l).2=0→(rule l).1.length≤l.length) (h:Fit n g):Fit n (Zab g key rule).1:=by
 unfold Zab
 split
 · exact Fit.none
 · split
   · exact Fit.none
   · split
     · exact Fit.none
     · rename_i h1 h2 h3
       refine ⟨h.1,by show (List.set _ _ _).length≤_;rw [List.length_set];exact h.2.1,fun o ho=>?_⟩
       rcases List.mem_or_eq_of_mem_set ho with h4 | h4
       · exact h.2.2 o h4
       · have hk:isK OrdD.key key g.orders=true:=by simpa using h2
         have hlt:=(Zc3 (ZT (Decidable.not_not.1 h1)).2 hk).1
         have:=hr _ (Decidable.not_not.1 h3)
         have:=h.2.2 _ (ZM hlt)
         rw [h4];show (rule _).1.length≤n;omega
theorem Fit.doH {n:Nat} {g:Zn} {e:EdD} (h:Fit n g) (he:Zd8 e):Fit (n+1) (doH g e).1:=by
 have hset:∀ t:TxD,t.ops.length≤24 → ∀ txs:List TxD,txs.length≤n+1→(∀ t ∈ txs,t.ops.length≤24)→Fit (n+1) ⟨txs,settleO t g.orders⟩:=fun t ht txs h1 h2=>by
   obtain ⟨h3,h4⟩:=ZjN ht h.2.1 h.2.2
   exact ⟨⟨h1,h2⟩,h3,h4⟩
 unfold Go.Proofs.YtjhapicamnijnaaGreat.doH
 split
 · unfold Z6
   split
   · exact Fit.none
   · split
     · exact Fit.none
     · refine hset _ he.1 _ ?_ fun t ht=>?_
       · have:=h.1.1;rw [List.length_append,List.length_append,List.length_take,List.length_drop];simp;omega
       · rw [List.mem_append,List.mem_append] at ht
         rcases ht with (ht | ht) | ht
         · exact h.1.2 t (List.mem_of_mem_take ht)
         · rw [List.mem_singleton.1 ht];exact he.1
         · exact h.1.2 t (List.mem_of_mem_drop ht)
 · split
   · unfold ZY
     split
     · exact Fit.none
     · split
       · exact Fit.none
       · split
         · exact Fit.none
         · refine hset _ (by simp [ZbE]) _ ?_ fun t ht=>?_
           · have:=h.1.1;rw [List.length_append,List.length_take,List.length_drop];omega
           · rw [List.mem_append] at ht
             rcases ht with ht | ht
             · exact h.1.2 t (List.mem_of_mem_take ht)
             · exact h.1.2 t (List.mem_of_mem_drop ht)
   · split
     · unfold Zar
       split
       · exact Fit.none
       · split
         · exact Fit.none
         · refine hset _ he.1 _ ?_ fun t ht=>?_
           · have:=h.1.1;rw [List.length_set];omega
           · rcases List.mem_or_eq_of_mem_set ht with ht | ht
             · exact h.1.2 t ht
             · rw [ht];exact he.1
     · split
       · refine (ZfS (fun l h0=>?_) h).up
         unfold ZcO at h0 ⊢
         split at h0
         · rename_i hp;rw [if_pos hp,hp.length_eq];exact Nat.le_refl _
         · simp at h0
       · split
         · exact (ZfS (fun l h0=>by show (Z9 l _ _).1.length≤_;exact ZkX _ _ _) h).up
         · exact Fit.none
theorem Fit.step {n:Nat} {g:Zn} {e:EdD} (h:Fit n g) (he:Zd8 e):Fit (n+1) (Zgn g e):=by
 unfold Zgn
 split
 · exact h.doH he
 · exact h.up
theorem Fit.play {l:List EdD} (hl:∀ e ∈ l,Zd8 e):∀ i,i≤l.length→Fit i ((l.take i).foldl Zgn zeroH)
 | 0,_=>Fit.zero
 | i+1,hi=>by
   rw [Zt (by omega),List.foldl_append]
   exact (Fit.play hl i (by omega)).step (hl _ (ZM (by omega)))
theorem ZmC (o:OrdD) (key:Int):FnP Tryz.prog 85 [.agg (Zs o),.ref [.int .i64 key]] (.bool (decide (o.key=key))):=by
 refine FnP.mk Tryz.func85 rfl Tryz.ntmps85 rfl ?_
 intro B a w F hB hfr hS
 refine wp_seq ?_
 refine Zc hS (qx 101 r1 qB) hB [3,2,1] [101,0] (fun _=>rfl) (fun _=>rfl) fun τ a w F hS=>?_
 try dsimp only [RS.sub,SF.sub,CF.sub,csub,Anc.sub,List.map,zCF,Zj,rTx,Zs,Zv,rInt,rOp] at hS
 generalize τ 2=v2 at hS
 refine Za (wp_seq ?_)
 refine Zb hS (qg 0 101 r1 r1 (qa 101 r1 r1 (qf (oR false 1 .t) r1 qz (qf (o_eql .t .t) r2 qz (qN rfl rfl qZ))))) hB [3] [101,0] rfl rfl fun a w F hS=>Za (wp_ret ?_)
 refine Zr hfr hS rfl rfl rfl .refl
theorem ZlZ (g:Zn) (key:Int) (hs:Za3 g.orders):FnP Tryz.prog 34 [.agg (Zj g),.int .i64 key] (.sl rInt (getO g.orders key)):=by
 refine FnP.mk Tryz.func34 rfl Tryz.ntmps34 rfl ?_
 intro B a w F hB hfr hS
 have hso:=hs.1
 refine wp_seq ?_
 refine Zc hS (qx 101 r1 (qf (ZiT 102 .t one_int) r1 qz (qC qZ))) hB [4,3,2] [102,101,0] (fun _=>rfl) (fun _=>rfl) fun τ a w F hS=>?_
 try dsimp only [RS.sub,SF.sub,CF.sub,csub,Anc.sub,List.map,zCF,Zj,rTx,Zs,Zv,rInt,rOp] at hS
 generalize τ 2=v2 at hS
 generalize τ 3=v3 at hS
 refine Za (wp_seq ?_)
 refine ZbN 2 hS (by kernel_rfl) (cG rfl (oF 1 101 .is) r1 r1 (cG rfl (oL false 1 101 .adr) r1 r1 ZW.nil)) (by kernel_rfl) (by rw [hB];kernel_rfl) fun a w F hS=>?_
 obtain ⟨F,hS⟩:=hS.nm [7,4,3,2] [102,101,0] rfl rfl
 try dsimp only [List.map,xD,xE,xT,xU,ldSF,Zj,rTx,Zs,Zv,rInt,rOp] at hS
 obtain ⟨F,hS⟩:=hS.giveRef 102 3 rfl rfl rfl
 obtain ⟨F,hS⟩:=hS.nm [7,4,3,2] [101,0] rfl rfl
 try dsimp only [Go.Gm.unCF] at hS
 refine Zb7 hS (by kernel_rfl) (cG rfl (ZbK (Args.one .t)) r1 trivial (cG rfl (oP (ZkE g.orders (fun o=>decide (o.key=key)) 85 Tryz.f85 [.ref [.int .i64 key]] Tryz.func85 rfl (by kernel_rfl) (fun o=>ZmC o key)) Tryz.func84 (Args.two .t .t)) r2 trivial (cG rfl (oN .t) r1 trivial ZW.nil))) (by kernel_rfl) (by rw [hB];kernel_rfl) fun a w F hS=>?_
 obtain ⟨F,hS⟩:=hS.nm [5,4,2] [101,0] rfl rfl
 try dsimp only [Zj,rTx,Zs,Zv,rInt,rOp] at hS
 refine Za (wp_seq (wp_seq ?_))
 refine Zb hS (qM rfl rfl (qf (Zb3 .t qi) r1 qz qZ)) hB [11,5,4,2] [101,0] rfl rfl fun a w F hS=>Za ?_
 refine Zd hS rfl (fun hc0=>?_) (fun hc0=>?_)
 ·skip
  have hg:[] = getO g.orders key:=(ZfY.1 (by simpa using hc0)).symm
  refine wp_seq ?_
  refine Zb hS (qC qZ) hB [5,4,2] [101,0] rfl rfl fun a w F hS=>Za (wp_ret (Zg ?_))
  refine Zr hfr hS rfl rfl rfl (by first | exact .sl hg | (rw [← hg];exact .nilSl))
 obtain ⟨fi,hfi,hfl,hfg⟩:=ZfY.2 (show ¬ Z5 (fun o:OrdD=>decide (o.key=key)) g.orders<0 by simpa using hc0)
 have hg:(Go.Gm.nth g.orders (Z5 (fun o:OrdD=>decide (o.key=key)) g.orders).toNat).txs=getO g.orders key:=by rw [hfi,Int.toNat_natCast,hfg]
 refine wp_skip (Za (wp_seq ?_))
 refine Zb hS (qg 1 101 r1 r1 (qa 101 r1 r1 (qM rfl rfl (qf (Z3 (sz:=2) (.mk Tryz.underlying23 (by kernel_rfl)) (by intro x;rfl) .t .t (by rw [hfi];omega) (by rw [hfi];omega)) r2 qz (qf (oG 1 .t) r1 qz (qf (oR false 1 .t) r1 qz (qf (oP (cloneIP_c _ (by rw [hfi,Int.toNat_natCast];have:=hs.at hfl;omega)) Tryz.func82 (Args.one .t)) r1 qz (qN rfl rfl qZ)))))))) hB [4] [101,0] rfl rfl fun a w F hS=>?_
 try simp only [Int.toNat_natCast] at hS
 refine Za (wp_ret ?_)
 refine Zr hfr hS rfl rfl rfl (by first | exact .sl hg | (rw [← hg];exact .nilSl))
theorem Zkv (u v:TxD):((decide (u.id=v.id) && (u.done == v.done)) && decide (u.ops=v.ops))=decide (u=v):=by
 cases u;cases v
 rw [Bool.eq_iff_iff]
 simp [and_assoc]
theorem Zmf (u v:TxD):FnP Tryz.prog 75 [.agg (rTx u),.agg (rTx v)] (.bool (decide (u=v))):=by
 refine FnP.mk Tryz.func75 rfl Tryz.ntmps75 rfl ?_
 intro B a w F hB hfr hS
 refine wp_seq ?_
 refine Zc hS (qx 101 r1 (qx 102 r1 qB)) hB [4,3,2] [102,101,0] (fun _=>rfl) (fun _=>rfl) fun τ a w F hS=>?_
 try dsimp only [RS.sub,SF.sub,CF.sub,csub,Anc.sub,List.map,zCF] at hS
 generalize τ 2=v2 at hS
 generalize τ 3=v3 at hS
 refine Za (wp_seq ?_)
 refine Zb hS (qg 0 101 r1 r1 (qa 101 r1 r1 (qg 0 102 r1 r1 (qa 102 r1 r1 (qf (o_eql .t .t) r2 qz (qM rfl rfl (qv 1 101 rfl r2 r1 (qw 101 rfl r2 r1 (qv 1 102 rfl r2 r1 (qw 102 rfl r2 r1 (qk rfl (fun h=>ZkJ Tryz.underlying4 (.w h) (.w h)) r3 qz (qf (Zy .t .t) r2 qz (qM rfl rfl (qv 2 101 rfl r2 r1 (qw 101 rfl r2 r1 (qv 2 102 rfl r2 r1 (qw 102 rfl r2 r1 (qk rfl (fun h=>oP (Zl7 u.ops v.ops) Tryz.func142 (Args.two (.w h) (.w h))) r3 qz (qf (Zy .t .t) r2 qz (qN rfl rfl qZ)))))))))))))))))))) hB [4] [102,101,0] rfl rfl fun a w F hS=>Za (wp_ret ?_)
 refine Zr hfr hS rfl rfl rfl (.bool (Zkv u v))
theorem Zff (u v:TxD):FnP Tryz.prog 41 [.agg (rTx u),.agg (rTx v)] (.bool (decide (u=v))):=by
 refine FnP.mk Tryz.func41 rfl Tryz.ntmps41 rfl ?_
 intro B a w F hB hfr hS
 refine wp_seq ?_
 refine Zc hS (qx 101 r1 (qx 102 r1 qB)) hB [4,3,2] [102,101,0] (fun _=>rfl) (fun _=>rfl) fun τ a w F hS=>?_
 try dsimp only [RS.sub,SF.sub,CF.sub,csub,Anc.sub,List.map,zCF,rTx,rOp] at hS
 generalize τ 2=v2 at hS
 generalize τ 3=v3 at hS
 refine Za (wp_seq ?_)
 refine Zb hS (qg 0 101 r1 r1 (qa 101 r1 r1 (qg 0 102 r1 r1 (qa 102 r1 r1 (qf (o_eql .t .t) r2 qz (qM rfl rfl (qv 1 101 rfl r2 r1 (qw 101 rfl r2 r1 (qv 1 102 rfl r2 r1 (qw 102 rfl r2 r1 (qk rfl (fun h=>ZkJ Tryz.underlying4 (.w h) (.w h)) r3 qz (qf (Zy .t .t) r2 qz (qM rfl rfl (qv 2 101 rfl r2 r1 (qw 101 rfl r2 r1 (qv 2 102 rfl r2 r1 (qw 102 rfl r2 r1 (qk rfl (fun h=>oP (ZhI u.ops v.ops) Tryz.func96 (Args.two (.w h) (.w h))) r3 qz (qf (Zy .t .t) r2 qz (qN rfl rfl qZ)))))))))))))))))))) hB [4] [102,101,0] rfl rfl fun a w F hS=>Za (wp_ret ?_)
 refine Zr hfr hS rfl rfl rfl (.bool (Zkv u v))
instance (l:List TxD):Decidable (Zai l):=by unfold Zai;exact inferInstance
instance (l:List OrdD):Decidable (Za3 l):=by unfold Za3;exact inferInstance
instance (g:Zn):Decidable (ZaK g):=by unfold ZaK;exact inferInstance
theorem Zfv {l:List TxD} {k x:Int} : x ∈ ZU l k ↔ ∃ t ∈ l,t.id=x∧t.done=true∧0<wcnt t.ops k:=by
 unfold ZU
 rw [List.mem_map]
 constructor
 · rintro ⟨t,ht,e⟩
   rw [List.mem_filter] at ht
   simp at ht
   exact ⟨t,ht.1,e,ht.2.1,ht.2.2⟩
 · rintro ⟨t,ht,e,h1,h2⟩
   exact ⟨t,by rw [List.mem_filter];simp [ht,h1,h2],e⟩
theorem Zds {l:List TxD} (h:Zcb TxD.id l) (k:Int):(ZU l k).Nodup:=by
 unfold ZU
 have h1:(l.map TxD.id).Nodup:=(List.pairwise_map.2 (ZG.1 h)).imp fun h=>Int.ne_of_lt h
 exact (h1.sublist ((List.filter_sublist).map _))
theorem ZgI {l:List TxD} (h:Zcb TxD.id l) {t:TxD} (ht:t ∈ l):Zas l t.id=some t:=by
 have h:=ZG.1 h
 induction l with
 | nil=>cases ht
 | cons x l ih=>
   rw [List.pairwise_cons] at h
   unfold Zas
   rw [List.find?_cons]
   rcases List.mem_cons.1 ht with rfl | ht
   · simp
   · have:=h.1 t ht
     rw [show decide (x.id=t.id)=false by simp;omega]
     exact ih (ZG.2 h.2) ht h.2
theorem Zmt {l:List TxD} {id:Int} (h:∀ t ∈ l,t.id≠id):Zas l id=none:=by
 unfold Zas
 exact List.find?_eq_none.2 fun t ht=>by simpa using h t ht
theorem Zdx {g:Zn} : Zx g ↔ g.txs.length≤4096∧Zcb TxD.id g.txs∧(∀ t ∈ g.txs,ZR t=0∧Zax g t=true)∧Zcb OrdD.key g.orders∧NE g.orders ∧ ∀ k,(getO g.orders k).Perm (ZU g.txs k):=by
 constructor
 · intro h
   obtain ⟨r1',r2'⟩:=ZT h
   have hne:=ZcD h
   have h2:=(ZcF g).2 h.2.2
   refine ⟨h.1,r1',fun t ht=>?_,r2',hne,fun k=>?_⟩
   · obtain ⟨j,hj,e⟩:=List.getElem_of_mem ht
     have:=(h.2.1 j hj).2
     rwa [Zz hj,e] at this
   · by_cases hk:getO g.orders k = []
     · rw [hk]
       have hw:ZU g.txs k = []:=by
         refine Decidable.byContradiction fun hw=>?_
         obtain ⟨j,hj,e⟩:=List.getElem_of_mem (Zcd.2 hw)
         have hjo:j<g.orders.length:=by rw [h.2.2.1];exact hj
         have h3:=(h.2.2.2 j hjo).1
         rw [Zz hj,e] at h3
         have h4:=ZcH (ZG.1 r2') (ZM hjo)
         rw [h3,hk] at h4
         exact hne _ (ZM hjo) h4.symm
       rw [hw]
     · have hm:=ZeY hk
       obtain ⟨j,hj,e⟩:=List.getElem_of_mem hm
       have:=(h2.2 j hj).2.2
       rw [Zz hj,e] at this
       exact this
 · rintro ⟨h1,h2,h3,h4,h5,h6⟩
   have hk:g.orders.map OrdD.key=Zaq g.txs:=by
     refine ZdW (List.pairwise_map.2 (ZG.1 h4)) (ZaJ _).1 fun k=>?_
     rw [Zcd,List.mem_map]
     constructor
     · rintro ⟨o,ho,rfl⟩ e
       have:=h6 o.key
       rw [e,ZcH (ZG.1 h4) ho] at this
       exact h5 o ho this.eq_nil
     · intro e
       have:getO g.orders k≠[]:=fun e2=>by
         have:=h6 k
         rw [e2] at this
         exact e this.symm.eq_nil
       exact ⟨_,ZeY this,rfl⟩
   have hlen:g.orders.length=(Zaq g.txs).length:=by rw [← hk,List.length_map]
   refine ⟨h1,fun i hi=>?_,(ZcF g).1 ⟨hlen,fun i hi=>?_⟩⟩
   · obtain ⟨g1,g2⟩:=h3 _ (ZM hi)
     exact ⟨fun h0=>h2 (i - 1) i (by omega) hi,g1,g2⟩
   · refine ⟨fun h0=>h4 (i - 1) i (by omega) hi,h5 _ (ZM hi),?_⟩
     have:=h6 (Go.Gm.nth g.orders i).key
     rwa [ZcH (ZG.1 h4) (ZM hi)] at this
theorem ZkM {t:TxD} {l:List Int} {k x:Int} : x ∈ ZcN t l k ↔ (x ∈ l∧x≠t.id)∨(x=t.id∧t.done=true∧0<wcnt t.ops k):=by
 unfold ZcN
 by_cases h:t.done=true∧0<wcnt t.ops k
 · rw [if_pos h]
   unfold withO
   split
   · rename_i hi
     constructor
     · intro hx
       by_cases e:x=t.id
       · exact .inr ⟨e,h⟩
       · exact .inl ⟨hx,e⟩
     · rintro (⟨hx,_⟩ | ⟨rfl,_⟩)
       · exact hx
       · exact hi
   · rename_i hi
     rw [List.mem_append,List.mem_singleton]
     constructor
     · rintro (hx | hx)
       · exact .inl ⟨hx,fun e=>hi (e ▸ hx)⟩
       · exact .inr ⟨hx,h⟩
     · rintro (⟨hx,_⟩ | ⟨e,_⟩)
       · exact .inl hx
       · exact .inr e
 · rw [if_neg h]
   unfold withoutO
   rw [List.mem_filter,decide_eq_true_eq]
   exact ⟨fun h1=>.inl h1,fun h1=>h1.elim id fun h2=>absurd h2.2 h⟩
theorem Zh3 {t:TxD} {l:List Int} (h:l.Nodup) (k:Int):(ZcN t l k).Nodup:=by
 unfold ZcN
 split
 · unfold withO
   split
   · exact h
   · rename_i hi
     rw [List.nodup_append]
     exact ⟨h,by simp,fun a ha b hb=>by rw [List.mem_singleton] at hb;subst hb;exact fun e=>hi (e ▸ ha)⟩
 · exact h.filter _
theorem ZdQ {g:Zn} {t:TxD} {b:Bool} {l:List TxD} (hR:Zx g) (hs:Za3 g.orders) (hr:Zcb TxD.id l) (hl:l.length≤4096) (hM:∀ s,s ∈ l ↔ (s ∈ g.txs∧s.id≠t.id)∨(s=t∧b=true))
   (ht:b=true→ZR t=0∧Zax g t=true) (hb:b=false→t.done=false)
   (hu:∀ x ∈ l,∀ v ∈ ZV x,v.tx=t.id→Zex g v=true→¬ (v.tx=0∧v.nth=0)→b=true∧v.nth≤(wcnt t.ops v.key:Int)):Zx ⟨l,settleO t g.orders⟩:=by
 obtain ⟨h1,h2,h3,h4,h5,h6⟩:=Zdx.1 hR
 obtain ⟨s1,s2⟩:=Zfu (t:=t) h4 hs
 have hhas:∀ x ∈ l,∀ v ∈ ZV x,Zex g v=true→Zex ⟨l,settleO t g.orders⟩ v=true:=by
   intro x hx v hv hg
   by_cases hz:v.tx=0∧v.nth=0
   · unfold Zex at hg ⊢
     rw [if_pos hz] at hg ⊢
     exact hg
   · have hu2:=hu x hx v hv
     unfold Zex at hg hu2 ⊢
     rw [if_neg hz] at hg hu2 ⊢
     by_cases e:v.tx=t.id
     · obtain ⟨b1,b2⟩:=hu2 e hg hz
       have hm:t ∈ l:=(hM t).2 (.inr ⟨rfl,b1⟩)
       have hf:=ZgI hr hm
       simp only [Bool.and_eq_true,decide_eq_true_eq] at hg ⊢
       show _∧_
       rw [e,hf]
       exact ⟨rfl,hg.2.1,b2⟩
     · have hf:Zas l v.tx=Zas g.txs v.tx:=by
         cases hc:Zas g.txs v.tx with
         | none=>
           refine Zmt fun s hsl es=>?_
           rcases (hM s).1 hsl with ⟨m1,m2⟩ | ⟨rfl,_⟩
           · have:=ZgI h2 m1
             rw [es,hc] at this;cases this
           · exact e es.symm
         | some s=>
           obtain ⟨m1,m2⟩:=findT_mem hc
           have hm:s ∈ l:=(hM s).2 (.inl ⟨m1,by rw [m2];exact e⟩)
           have:=ZgI hr hm
           rwa [m2] at this
       show (((Zas l v.tx).isSome && _):Bool)=true
       rw [hf];exact hg
 refine Zdx.2 ⟨hl,hr,fun x hx=>?_,ZG.2 s1,s2,fun k=>?_⟩
 · have hx2:ZR x=0∧Zax g x=true:=by
     rcases (hM x).1 hx with ⟨m1,_⟩ | ⟨rfl,b1⟩
     · exact h3 x m1
     · exact ht b1
   refine ⟨hx2.1,?_⟩
   have h7:=hx2.2
   unfold Zax at h7 ⊢
   rw [List.all_eq_true] at h7 ⊢
   exact fun v hv=>hhas x hx v hv (h7 v hv)
 · rw [ZfP h4 k]
   have hn:(getO g.orders k).Nodup:=(h6 k).symm.nodup (Zds h2 k)
   refine (List.perm_ext_iff_of_nodup (Zh3 hn k) (Zds hr k)).2 fun x=>?_
   rw [ZkM,Zfv,(h6 k).mem_iff,Zfv]
   constructor
   · rintro (⟨⟨s,m1,m2,m3,m4⟩,m5⟩ | ⟨rfl,m3,m4⟩)
     · exact ⟨s,(hM s).2 (.inl ⟨m1,by rw [m2];exact m5⟩),m2,m3,m4⟩
     · refine ⟨t,(hM t).2 (.inr ⟨rfl,?_⟩),rfl,m3,m4⟩
       cases b with
       | true=>rfl
       | false=>rw [hb rfl] at m3;cases m3
   · rintro ⟨s,m1,m2,m3,m4⟩
     rcases (hM s).1 m1 with ⟨m5,m6⟩ | ⟨rfl,_⟩
     · exact .inl ⟨⟨s,m5,m2,m3,m4⟩,by rw [← m2];exact m6⟩
     · exact .inr ⟨m2.symm,m3,m4⟩
theorem ZmA {l:List TxD} {t:TxD} (h:Zcb TxD.id l) (hk:isK TxD.id t.id l=false):Zcb TxD.id (l.take (lowK TxD.id t.id l) ++ [t] ++ l.drop (lowK TxD.id t.id l)) ∧ ∀ s,s ∈ l.take (lowK TxD.id t.id l) ++ [t] ++ l.drop (lowK TxD.id t.id l) ↔ (s ∈ l∧s.id≠t.id)∨(s=t∧true=true):=by
 rw [← ZeS (ZG.1 h) hk]
 refine ⟨ZG.2 (ZcB (ZG.1 h)),fun s=>?_⟩
 rw [ZeS (ZG.1 h) hk,List.mem_append,List.mem_append,List.mem_singleton]
 have hne:∀ s ∈ l,s.id≠t.id:=fun s hs e=>by
   have:=List.any_eq_false.1 hk s hs
   simp at this;exact this e
 constructor
 · rintro ((h1 | h1) | h1)
   · exact .inl ⟨List.mem_of_mem_take h1,hne s (List.mem_of_mem_take h1)⟩
   · exact .inr ⟨h1,rfl⟩
   · exact .inl ⟨List.mem_of_mem_drop h1,hne s (List.mem_of_mem_drop h1)⟩
 · rintro (⟨h1,_⟩ | ⟨h1,_⟩)
   · rw [← List.take_append_drop (lowK TxD.id t.id l) l,List.mem_append] at h1
     rcases h1 with h1 | h1
     · exact .inl (.inl h1)
     · exact .inr h1
   · exact .inl (.inr h1)
theorem Zl1 {l:List TxD} {t:TxD} (h:Zcb TxD.id l) (hk:isK TxD.id t.id l=true):Zcb TxD.id (l.set (lowK TxD.id t.id l) t) ∧ ∀ s,s ∈ l.set (lowK TxD.id t.id l) t ↔ (s ∈ l∧s.id≠t.id)∨(s=t∧true=true):=by
 rw [← Zez (ZG.1 h) hk]
 refine ⟨ZG.2 (ZcB (ZG.1 h)),fun s=>?_⟩
 constructor
 · intro hs
   rcases ZdJ hs with ⟨rfl,_⟩ | h1
   · exact .inr ⟨rfl,rfl⟩
   · exact .inl h1
 · have key:∀ (l:List TxD) (d:Bool),((s ∈ l∧s.id≠t.id)∨(s=t∧d=false))→s ∈ putGR TxD.id t l d:=by
     intro l
     induction l with
     | nil=>
       rintro d (⟨h1,_⟩ | ⟨rfl,h1⟩)
       · cases h1
       · subst h1;simp [putGR]
     | cons x l ih=>
       intro d hx
       rw [putGR,List.mem_append,List.mem_append]
       rcases hx with ⟨h1,h2⟩ | ⟨rfl,h1⟩
       · rcases List.mem_cons.1 h1 with rfl | h1
         · exact .inl (.inr (by rw [if_neg h2];simp))
         · exact .inr (ih _ (.inl ⟨h1,h2⟩))
       · by_cases hA:s.id≤x.id
         · exact .inl (.inl (by rw [if_pos ⟨h1,hA⟩];simp))
         · exact .inr (ih _ (.inr ⟨rfl,by rw [h1];simp;omega⟩))
   rintro (h1 | ⟨h1,_⟩)
   · exact key l false (.inl h1)
   · exact key l false (.inr ⟨h1,rfl⟩)
theorem ZlL {t:TxD} {v:Zbz} (h:v ∈ ZV t):v.tx≠t.id:=by
 have key:∀ (l:List OpD) (out:List Zbz),(∀ v ∈ out,v.tx≠t.id) → ∀ v ∈ l.foldl (ZaA t.id) out,v.tx≠t.id:=by
   intro l
   induction l with
   | nil=>intro out h;exact h
   | cons o l ih=>
     intro out h
     refine ih _ fun v hv=>?_
     unfold ZaA at hv
     split at hv
     · rename_i hc
       rcases List.mem_append.1 hv with hv | hv
       · exact h v hv
       · have e:v=ofO o:=by simpa using hv
         have hn:=hc.1
         unfold ZfF at hn
         simp at hn
         rw [e]
         unfold ofO
         rw [if_pos hn.1.1]
         exact hn.2
     · exact h v hv
 exact key _ _ (fun v hv=>by cases hv) v h
theorem Ziw {g:Zn} {v:Zbz} (h:Zex g v=true) (hz:¬ (v.tx=0∧v.nth=0)):isK TxD.id v.tx g.txs=true∧1≤v.nth:=by
 unfold Zex at h
 rw [if_neg hz,Bool.and_eq_true,Bool.and_eq_true,ZcW] at h
 exact ⟨h.1,by simpa using h.2.1⟩
theorem ZmI {g:Zn} {t x:TxD} {v:Zbz} (h:ZdE g t=false) (hx:x ∈ g.txs) (hn:x.id≠t.id) (hv:v ∈ ZV x) (e:v.tx=t.id):v.nth≤(wcnt t.ops v.key:Int):=by
 have h1:=List.any_eq_false.1 h x hx
 unfold Zef at h1
 rw [decide_eq_true hn,Bool.true_and] at h1
 have h2:=List.any_eq_false.1 (by simpa using h1) v hv
 unfold ZfB at h2
 simp [e] at h2
 omega
theorem Zg5 {g:Zn} {t:TxD} (hs:ZaK g) (h:(Z6 g t).2=0):Zx (Z6 g t).1:=by
 unfold Z6 at h ⊢
 split at h
 · rename_i h1;exact absurd h h1
 · rename_i h1
   split at h
   · simp at h
   · rename_i h2
     obtain ⟨hr,hrt,hik,hnd,_⟩:=Zjd (by decide) (Decidable.not_not.1 h1)
     rw [if_neg h1,if_neg h2]
     obtain ⟨m1,m2⟩:=ZmA (ZT hr).1 hik
     refine ZdQ (b:=true) hr hs.2 m1 ?_ m2 (fun _=>⟨hrt,hnd⟩) (fun h=>by cases h) fun x _ v _ e hv hz=>?_
     · have:=hr.1
       rw [List.length_append,List.length_append,List.length_take,List.length_drop];simp;omega
     · have:=(Ziw hv hz).1
       rw [e,hik] at this;cases this
theorem ZhZ {g:Zn} {t:TxD} (hs:ZaK g) (h:(Zar g t).2=0):Zx (Zar g t).1:=by
 unfold Zar at h ⊢
 split at h
 · rename_i h1;exact absurd h h1
 · rename_i h1
   split at h
   · simp at h
   · rename_i h2
     obtain ⟨hr,hrt,hik,hnd,_⟩:=Zjd (by decide) (Decidable.not_not.1 h1)
     rw [if_neg h1,if_neg h2]
     obtain ⟨m1,m2⟩:=Zl1 (ZT hr).1 hik
     refine ZdQ (b:=true) hr hs.2 m1 (by rw [List.length_set];exact hr.1) m2 (fun _=>⟨hrt,hnd⟩) (fun h=>by cases h) fun x hx v hv e _ _=>⟨rfl,?_⟩
     rcases (m2 x).1 hx with ⟨h3,h4⟩ | ⟨rfl,_⟩
     · exact ZmI (by simpa using h2) h3 h4 hv e
     · exact absurd e (ZlL hv)
theorem Zg1 {g:Zn} {id:Int} (hs:ZaK g) (h:(ZY g id).2=0):Zx (ZY g id).1:=by
 unfold ZY at h ⊢
 split at h
 · simp at h
 · rename_i h1
   split at h
   · simp at h
   · rename_i h2
     split at h
     · simp at h
     · rename_i h3
       have hr:=Decidable.not_not.1 h1
       have hik:isK TxD.id id g.txs=true:=by simpa using h2
       have hri:=(ZT hr).1
       rw [if_neg h1,if_neg h2,if_neg h3,← ZfO (ZG.1 hri) hik]
       refine ZdQ (b:=false) hr hs.2 (ZG.2 ((ZG.1 hri).filter _)) (Nat.le_trans (List.length_filter_le _ _) hr.1) (fun s=>?_) (fun h=>by cases h) (fun _=>rfl) fun x hx v hv e hg hz=>?_
       · rw [List.mem_filter];simp [ZbE]
       · rw [List.mem_filter] at hx
         have h5:=ZmI (t:=ZbE id) (by simpa using h3) hx.1 (by simpa [ZbE] using hx.2) hv e
         have h6:=(Ziw hg hz).2
         have h7:wcnt (ZbE id).ops v.key=0:=rfl
         rw [h7] at h5
         omega
theorem Zd4 {g:Zn} {key:Int} {rule:List Int→List Int×Int} (hp:∀ l,(rule l).2=0→(rule l).1.Perm l) (h:(Zab g key rule).2=0):Zx (Zab g key rule).1:=by
 by_cases hr:Zx g
 · by_cases hg:getO g.orders key = []
   · rw [Zlv hr hg] at h;simp at h
   · by_cases h3:(rule (getO g.orders key)).2=0
     · have hpp:=hp _ h3
       have hne:(rule (getO g.orders key)).1≠[]:=fun e=>hg (by rw [e] at hpp;exact hpp.symm.eq_nil)
       rw [Zkb hr hg h3 hne,decide_eq_false hne]
       obtain ⟨h1,h2,h4,h5,h6,h7⟩:=Zdx.1 hr
       refine Zdx.2 ⟨h1,h2,fun t ht=>?_,ZG.2 (ZcB (ZG.1 h5)),fun o ho=>?_,fun k=>?_⟩
       · obtain ⟨g1,g2⟩:=h4 t ht
         exact ⟨g1,g2⟩
       · rcases ZdJ ho with ⟨rfl,_⟩ | ⟨g1,_⟩
         · exact hne
         · exact h6 o g1
       · show (getO (putGR OrdD.key _ g.orders false) k).Perm _
         rw [Ziv (ZG.1 h5)]
         by_cases e:k=key
         · subst e
           rw [if_pos rfl]
           exact hpp.trans (h7 k)
         · rw [if_neg e];exact h7 k
     · rw [Zkr hr hg h3] at h;exact absurd h h3
 · rw [ZhR hr] at h;simp at h
theorem ZkQ {o:OrdD} (l:List Int) (h:(ZcO o l).2=0):(ZcO o l).1.Perm l:=by
 unfold ZcO at h ⊢
 split at h
 · rename_i hp;rw [if_pos hp];exact hp.symm
 · simp at h
theorem ZiJ {g:Zn} {e:EdD} (hs:ZaK g) (h:(doH g e).2=0):Zx (doH g e).1:=by
 unfold doH at h ⊢
 by_cases k0:e.kind=0
 · rw [if_pos k0] at h ⊢;exact Zg5 hs h
 · rw [if_neg k0] at h ⊢
   by_cases k1:e.kind=1
   · rw [if_pos k1] at h ⊢;exact Zg1 hs h
   · rw [if_neg k1] at h ⊢
     by_cases k2:e.kind=2
     · rw [if_pos k2] at h ⊢;exact ZhZ hs h
     · rw [if_neg k2] at h ⊢
       by_cases k3:e.kind=3
       · rw [if_pos k3] at h ⊢;exact Zd4 ZkQ h
       · rw [if_neg k3] at h ⊢
         by_cases k4:e.kind=4
         · rw [if_pos k4] at h ⊢;exact Zd4 (rule:=fun l=>Z9 l e.t.id e.place) (fun l h=>Zhz h) h
         · rw [if_neg k4] at h;simp at h
theorem ZjC:Zx zeroH:=by decide +kernel
theorem Zl0 (x y:List Int) (hx:x.length≤1000000) (hy:y.length≤1000000):FnP Tryz.prog 33 [.sl rInt x,.sl rInt y] (.tup [.sl Zbr (Zae x y).1,.int .i64 (Zae x y).2]):=by
 refine FnP.mk Tryz.func33 rfl Tryz.ntmps33 rfl ?_
 intro B a w F hB hfr hS
 refine wp_seq ?_
 refine Zb hS (qC (qI qZ)) hB [5,4,1,0] [0] rfl rfl fun a w F hS=>Za (wp_seq (wp_seq ?_))
 refine Zb hS (qM rfl rfl (qf (oP (ZiW x) Tryz.func81 (Args.one .t)) r1 qz (qf (o_not .t) r1 qz (qM rfl rfl (qm rfl rfl rfl rfl (qk rfl (fun h=>oP (ZiW y) Tryz.func81 (Args.one (.w h))) r2 qz (qk rfl (fun h=>o_not (.w h)) r2 qz (qf (ZaI .t .t) r2 qz (qM rfl rfl (qm rfl rfl rfl rfl (qm rfl rfl rfl rfl (qk rfl (fun h=>oP (Zkz x y hx hy) Tryz.func46 (Args.two (.w h) (.w h))) r3 qz (qk rfl (fun h=>o_not (.w h)) r2 qz (qf (ZaI .t .t) r2 qz qZ)))))))))))))) hB [23,5,4,1,0] [0] rfl rfl fun a w F hS=>Za ?_
 refine Zd hS rfl (fun hc0=>?_) (fun hc0=>?_)
 ·skip
  have hno:¬ Za7 x y:=by unfold Za7;rintro ⟨k1,k2,k3⟩;simp [k1,k2,k3] at hc0
  have hm:Zae x y=([],8):=if_neg hno
  refine wp_seq ?_
  refine Zb hS (qC (qI qZ)) hB [5,4,1,0] [0] rfl rfl fun a w F hS=>Za (wp_ret (Zg ?_))
  refine ZA hfr hS rfl (.tmp rfl (.tmp rfl .nil)) (.two (.trans .nilSl (.sl (by rw [hm]))) (.int (by rw [hm])))
 have hok:Za7 x y:=by unfold Za7;simp at hc0;simpa [and_assoc] using hc0
 have hxyl:=hok.2.2.length_eq
 refine wp_skip (Za (wp_seq ?_))
 refine Zb hS (qC qZ) hB [6,5,4,1,0] [0] rfl rfl fun a w F hS=>Za (wp_seq ?_)
 replace hS:=hS.fresh 101 rfl
 refine Zc hS (qM rfl rfl (qf (ZaM 101 (ZcC x hx) Tryz.func82 rfl (by kernel_rfl) (Args.one .t) ZaF) r1 r1 (qN rfl rfl qZ))) hB [7,6,5,4,1] [101,0] (fun _=>rfl) (fun _=>rfl) fun τ a w F hS=>?_
 try dsimp only [RS.sub,SF.sub,CF.sub,csub,Anc.sub,List.map,rInt,Zbr] at hS
 generalize τ 25=v25 at hS
 obtain ⟨F,hS⟩:=hS.give 101 7 rfl rfl
 obtain ⟨F,hS⟩:=hS.nm [7,6,5,4,1] [0] rfl rfl
 refine Za (wp_seq (wp_seq ?_))
 refine Zb hS (qM rfl rfl (qu Tryz.underlying41 r1 (qJ qZ))) hB [28,27,26,7,6,5,4] [0] rfl rfl fun a w F hS=>Za (wp_block ?_)
 replace hS:=hS.fresh 50 rfl
 replace hS:=hS.turn 50 rfl (Zaf (T:=70) (sz:=2) (R:=Zbr))
 refine Zl (σ:=(Nat)×(List Int)×(Value)×(List Zb4)) [4,5,26,27] [0] (fun s=>[(28,.pv (.int .i64 (s.1:Int))),(7,.pv (.sl rInt s.2.1)),(6,.pv (.is s.2.2.1))]) (fun s=>[(50,.ob (.val s.2.2.1) (Zw 70 2 Zbr s.2.2.2))]) (fun s=>s.1≤y.length∧(Zan x 0 y=s.2.2.2++Zan s.2.1 s.1 (y.drop s.1)∧(s.2.1).Perm x∧(s.2.2.2).length≤s.1)) (fun s=>y.length - s.1) ((0),(x),(.slice none 0 0),([])) hS ⟨rfl,rfl,rfl,rfl,rfl,rfl,rfl,trivial⟩ ⟨rfl,rfl,trivial⟩ ⟨Nat.zero_le _,⟨rfl,.refl _,Nat.zero_le _⟩⟩ ?_
 clear hS;intro s a w F hC hS
 obtain ⟨i,now,v,out⟩:=s
 try dsimp only at hC
 obtain ⟨F,hS⟩:=hS.nm [28,27,26,7,6,5,4] [50,0] rfl rfl
 try dsimp only at hS
 obtain ⟨hi,hq⟩:=hC
 obtain ⟨hst,hpm,hol⟩:=hq
 have hnl:now.length=x.length:=hpm.length_eq
 have hdn:=@ZZ _ _ y i
 refine wp_seq ?_
 refine Zb hS (qL r2) hB [29,28,27,26,7,6,5,4] [50,0] rfl rfl fun a w F hS=>Za (wp_seq ?_)
 refine Zd hS rfl (fun hc1=>?_) (fun hc1=>?_)
 ·skip
  have hil:i<y.length:=by simp at hc1;omega
  refine wp_skip (Za (wp_seq (wp_block (wp_seq ?_))))
  refine Zb hS (qM rfl rfl (qy 1 Tryz.underlying41 r2 (qf (oR false 1 .t) r1 qz (qN rfl rfl (qN rfl rfl qZ))))) hB [28,27,26,9,8,7,6,5,4] [50,0] rfl rfl fun a w F hS=>?_
  try simp only [Int.toNat_natCast] at hS
  refine Za (wp_seq (wp_seq ?_))
  refine Zb hS (qM rfl rfl (qM rfl rfl (qy 1 Tryz.underlying41 r2 (qf (oR false 1 .t) r1 qz (qM rfl rfl (qf (o_eql .t .t) r2 qz qZ)))))) hB [38,28,27,26,9,8,7,6,5,4] [50,0] rfl rfl fun a w F hS=>?_
  try simp only [Int.toNat_natCast] at hS
  refine Za ?_
  refine Zd hS rfl (fun hc2=>?_) (fun hc2=>?_)
  ·skip
   have hne:Go.Gm.nth now i=Go.Gm.nth y i:=by simpa using hc2
   have hst2:=ZdO (to:=y.drop (i+1)) hne
   rw [← ZZ hil] at hst2
   have hpm2:=hpm
   obtain ⟨now2,hn2⟩:∃ z,z=now:=⟨_,rfl⟩
   rw [← hn2] at hS hst hst2 hpm2
   refine wp_exit (Zk (Zq (Za ?_)))
   refine Zb hS (qp r1 (qM rfl rfl qZ)) hB [28,27,26,7,6,5,4] [50,0] rfl rfl fun a w F hS=>Za ?_
   replace hS:=hS.ent (i:=28) (s':=.pv (.int .i64 ((i+1:Nat):Int))) rfl (.int (Ze (by omega)))
   obtain ⟨F,hS⟩:=hS.nm [27,26,5,4,6,7,28] [0,50] rfl rfl
   exact ⟨((i+1),(now2),_,_),F,⟨by omega,⟨by first | (rw [hst,hst2];done) | (rw [hst,hst2];simp),hpm2,by first | omega | (simp only [List.length_append,List.length_cons,List.length_nil];omega)⟩⟩,hS,by omega⟩
  have hne:¬ Go.Gm.nth now i=Go.Gm.nth y i:=by simpa using hc2
  have hst2:=ZeA (to:=y.drop (i+1)) hne
  rw [← ZZ hil] at hst2
  have hpm2:=(ZbI (place:=(i:Int)) (hpm.mem_iff.2 (hok.2.2.mem_iff.2 (ZM hil))) (by omega)).trans hpm
  obtain ⟨now2,hn2⟩:∃ z,z=(Z9 now (Go.Gm.nth y i) i).1:=⟨_,rfl⟩
  rw [← hn2] at hst2 hpm2
  refine wp_skip (Za (wp_seq ?_))
  refine Zb hS (qM rfl rfl (qM rfl rfl (qM rfl rfl (qf (oP (Zlf now (Go.Gm.nth y i) i (by omega)) Tryz.func83 (Args.three .t .t .t)) r3 qz (qM rfl rfl (qf (o_extract .t rfl) r1 qz (qf (o_extract .t rfl) r1 qz (qN rfl rfl qZ)))))))) hB [28,27,26,9,8,7,6,5,4] [50,0] rfl rfl fun a w F hS=>?_
  rw [← hn2] at hS
  refine Za ?_
  refine Zc hS (qM rfl rfl (qM rfl rfl (qM rfl rfl (qf (oB [(0,.tmp 47),(1,.tmp 48)] [.int .i64 0,.int .i64 0] [(0,1),(1,1)] (.one rfl .t one_int (by kernel_rfl) (.one rfl .t one_int (by kernel_rfl) .nil))) r2 qz (qf (Zh (sz:=2) (zs:=[.int .i64 0,.int .i64 0]) (r:=[(0,.tmp 49)]) (l:=[_,_]) Tryz.underlying65 (by kernel_rfl) (by kernel_rfl) (by kernel_rfl) (by kernel_rfl) rfl rfl (.agg rfl .t (by kernel_rfl) (by kernel_rfl) .nil) rfl) r1 qz (qf (o_append (sz:=2) (bs:=16) 50 (.mk' Tryz.underlying65 (by kernel_rfl) (by kernel_rfl)) (by intro x;rfl) .is (.arr (l':=[(⟨Go.Gm.nth y i,i⟩:Zb4)]) .t) (by simp only [List.length_append,List.length_cons,List.length_nil];omega) (by decide)) ⟨rfl,rfl,trivial⟩ ⟨rfl,trivial⟩ (qN rfl rfl qZ))))))) hB [28,27,26,7,6,5,4] [50,0] (fun _=>rfl) (fun _=>rfl) fun τ a w F hS=>?_
  try dsimp only [RS.sub,SF.sub,CF.sub,csub,Anc.sub,List.map,Zf,xL,xM,Nat.reduceAdd,xD,xE,xT,xU,xC,xN,zCF,rInt,Zbr] at hS
  generalize τ 51=v51 at hS
  refine Zi (Za ?_)
  refine Zb hS (qp r1 (qM rfl rfl qZ)) hB [28,27,26,7,6,5,4] [50,0] rfl rfl fun a w F hS=>Za ?_
  replace hS:=hS.ent (i:=28) (s':=.pv (.int .i64 ((i+1:Nat):Int))) rfl (.int (Ze (by omega)))
  obtain ⟨F,hS⟩:=hS.nm [27,26,5,4,6,7,28] [0,50] rfl rfl
  exact ⟨((i+1),(now2),_,_),F,⟨by omega,⟨by first | (rw [hst,hst2];done) | (rw [hst,hst2];simp),hpm2,by first | omega | (simp only [List.length_append,List.length_cons,List.length_nil];omega)⟩⟩,hS,by omega⟩
 have hil:i=y.length:=by simp at hc1;omega
 rw [hil,List.drop_length,Zan,List.append_nil] at hst
 have hm:Zae x y=(out,0):=by unfold Zae;rw [if_pos hok,hst]
 refine wp_exit (Zk (Zk (Zq (Za (wp_seq ?_)))))
 refine Zb hS (qM rfl rfl (qN rfl rfl (qI qZ))) hB [5,4] [50,0] rfl rfl fun a w F hS=>Za (wp_ret ?_)
 obtain ⟨F,hS⟩:=hS.give 50 4 rfl rfl
 refine ZA hfr hS rfl (.tmp rfl (.tmp rfl .nil)) (.two (.sl (by rw [hm])) (.int (by rw [hm])))
theorem ZkI (x y:List Int) (hx:x.length≤1000000) (hy:y.length≤1000000):FnP Tryz.prog 37 [.sl rInt x,.sl rInt y] (.tup [.sl Zbr (Zae x y).1,.int .i64 (Zae x y).2]):=by
 refine FnP.mk Tryz.func37 rfl Tryz.ntmps37 rfl ?_
 intro B a w F hB hfr hS
 refine wp_seq ?_
 refine Zb hS (qC (qI qZ)) hB [5,4,1,0] [0] rfl rfl fun a w F hS=>Za (wp_seq (wp_seq ?_))
 refine Zb hS (qM rfl rfl (qf (oP (Zhp x) Tryz.func94 (Args.one .t)) r1 qz (qf (o_not .t) r1 qz (qM rfl rfl (qm rfl rfl rfl rfl (qk rfl (fun h=>oP (Zhp y) Tryz.func94 (Args.one (.w h))) r2 qz (qk rfl (fun h=>o_not (.w h)) r2 qz (qf (ZaI .t .t) r2 qz (qM rfl rfl (qm rfl rfl rfl rfl (qm rfl rfl rfl rfl (qk rfl (fun h=>oP (ZgA x y) Tryz.func89 (Args.two (.w h) (.w h))) r3 qz (qk rfl (fun h=>o_not (.w h)) r2 qz (qf (ZaI .t .t) r2 qz qZ)))))))))))))) hB [24,5,4,1,0] [0] rfl rfl fun a w F hS=>Za ?_
 refine Zd hS rfl (fun hc0=>?_) (fun hc0=>?_)
 ·skip
  have hno:¬ Za7 x y:=by unfold Za7;rintro ⟨k1,k2,k3⟩;simp [k1,k2,k3] at hc0
  have hm:Zae x y=([],8):=if_neg hno
  refine wp_seq ?_
  refine Zb hS (qC (qI qZ)) hB [5,4,1,0] [0] rfl rfl fun a w F hS=>Za (wp_ret (Zg ?_))
  refine ZA hfr hS rfl (.tmp rfl (.tmp rfl .nil)) (.two (.trans .nilSl (.sl (by rw [hm]))) (.int (by rw [hm])))
 have hok:Za7 x y:=by unfold Za7;simp at hc0;simpa [and_assoc] using hc0
 have hxyl:=hok.2.2.length_eq
 refine wp_skip (Za (wp_seq ?_))
 refine Zb hS (qC qZ) hB [6,5,4,1,0] [0] rfl rfl fun a w F hS=>Za (wp_seq (wp_seq ?_))
 refine Zb hS (qM rfl rfl (qu Tryz.underlying41 r1 (qJ qZ))) hB [27,26,25,6,5,4,0] [0] rfl rfl fun a w F hS=>Za (wp_block ?_)
 replace hS:=hS.fresh 50 rfl
 replace hS:=hS.turn 50 rfl (Zaf (T:=70) (sz:=2) (R:=Zbr))
 refine Zl (σ:=(Nat)×(List Int)×(Value)×(List Zb4)) [4,5,25,26] [0] (fun s=>[(27,.pv (.int .i64 (s.1:Int))),(0,.pv (.sl rInt s.2.1)),(6,.pv (.is s.2.2.1))]) (fun s=>[(50,.ob (.val s.2.2.1) (Zw 70 2 Zbr s.2.2.2))]) (fun s=>s.1≤y.length∧(Zan x 0 y=s.2.2.2++Zan s.2.1 s.1 (y.drop s.1)∧(s.2.1).Perm x∧(s.2.2.2).length≤s.1)) (fun s=>y.length - s.1) ((0),(x),(.slice none 0 0),([])) hS ⟨rfl,rfl,rfl,rfl,rfl,rfl,rfl,trivial⟩ ⟨rfl,rfl,trivial⟩ ⟨Nat.zero_le _,⟨rfl,.refl _,Nat.zero_le _⟩⟩ ?_
 clear hS;intro s a w F hC hS
 obtain ⟨i,now,v,out⟩:=s
 try dsimp only at hC
 obtain ⟨F,hS⟩:=hS.nm [27,26,25,6,5,4,0] [50,0] rfl rfl
 try dsimp only at hS
 obtain ⟨hi,hq⟩:=hC
 obtain ⟨hst,hpm,hol⟩:=hq
 have hnl:now.length=x.length:=hpm.length_eq
 have hdn:=@ZZ _ _ y i
 refine wp_seq ?_
 refine Zb hS (qL r2) hB [28,27,26,25,6,5,4,0] [50,0] rfl rfl fun a w F hS=>Za (wp_seq ?_)
 refine Zd hS rfl (fun hc1=>?_) (fun hc1=>?_)
 ·skip
  have hil:i<y.length:=by simp at hc1;omega
  refine wp_skip (Za (wp_seq (wp_block (wp_seq ?_))))
  refine Zb hS (qM rfl rfl (qy 1 Tryz.underlying41 r2 (qf (oR false 1 .t) r1 qz (qN rfl rfl (qN rfl rfl qZ))))) hB [27,26,25,8,7,6,5,4,0] [50,0] rfl rfl fun a w F hS=>?_
  try simp only [Int.toNat_natCast] at hS
  refine Za (wp_seq ?_)
  refine Zb hS (qM rfl rfl (qM rfl rfl (qy 1 Tryz.underlying41 r2 (qf (oR false 1 .t) r1 qz (qM rfl rfl (qf (o_neq .t .t) r2 qz qZ)))))) hB [37,27,26,25,8,7,6,5,4,0] [50,0] rfl rfl fun a w F hS=>?_
  try simp only [Int.toNat_natCast] at hS
  refine Za ?_
  refine Zd hS rfl (fun hc2=>?_) (fun hc2=>?_)
  ·skip
   have hne:¬ Go.Gm.nth now i=Go.Gm.nth y i:=by simpa using hc2
   have hst2:=ZeA (to:=y.drop (i+1)) hne
   rw [← ZZ hil] at hst2
   have hpm2:=(ZbI (place:=(i:Int)) (hpm.mem_iff.2 (hok.2.2.mem_iff.2 (ZM hil))) (by omega)).trans hpm
   obtain ⟨now2,hn2⟩:∃ z,z=(Z9 now (Go.Gm.nth y i) i).1:=⟨_,rfl⟩
   rw [← hn2] at hst2 hpm2
   refine wp_seq ?_
   refine Zb hS (qM rfl rfl (qM rfl rfl (qM rfl rfl (qf (oP (ZiP now (Go.Gm.nth y i) i (by omega)) Tryz.func95 (Args.three .t .t .t)) r3 qz (qM rfl rfl (qf (o_extract .t rfl) r1 qz (qf (o_extract .t rfl) r1 qz (qN rfl rfl (qN rfl rfl qZ))))))))) hB [27,26,25,9,8,7,6,5,4,0] [50,0] rfl rfl fun a w F hS=>?_
   rw [← hn2] at hS
   refine Za (wp_seq ?_)
   refine Zb hS (qM rfl rfl (qN rfl rfl qZ)) hB [27,26,25,8,7,6,5,4,0] [50,0] rfl rfl fun a w F hS=>Za ?_
   refine Zc hS (qM rfl rfl (qM rfl rfl (qM rfl rfl (qf (oB [(0,.tmp 47),(1,.tmp 48)] [.int .i64 0,.int .i64 0] [(0,1),(1,1)] (.one rfl .t one_int (by kernel_rfl) (.one rfl .t one_int (by kernel_rfl) .nil))) r2 qz (qf (Zh (sz:=2) (zs:=[.int .i64 0,.int .i64 0]) (r:=[(0,.tmp 49)]) (l:=[_,_]) Tryz.underlying65 (by kernel_rfl) (by kernel_rfl) (by kernel_rfl) (by kernel_rfl) rfl rfl (.agg rfl .t (by kernel_rfl) (by kernel_rfl) .nil) rfl) r1 qz (qf (o_append (sz:=2) (bs:=16) 50 (.mk' Tryz.underlying65 (by kernel_rfl) (by kernel_rfl)) (by intro x;rfl) .is (.arr (l':=[(⟨Go.Gm.nth y i,i⟩:Zb4)]) .t) (by simp only [List.length_append,List.length_cons,List.length_nil];omega) (by decide)) ⟨rfl,rfl,trivial⟩ ⟨rfl,trivial⟩ (qN rfl rfl qZ))))))) hB [27,26,25,6,5,4,0] [50,0] (fun _=>rfl) (fun _=>rfl) fun τ a w F hS=>?_
   try dsimp only [RS.sub,SF.sub,CF.sub,csub,Anc.sub,List.map,Zf,xL,xM,Nat.reduceAdd,xD,xE,xT,xU,xC,xN,zCF,rInt,Zbr] at hS
   generalize τ 51=v51 at hS
   refine Zi (Za ?_)
   refine Zb hS (qp r1 (qM rfl rfl qZ)) hB [27,26,25,6,5,4,0] [50,0] rfl rfl fun a w F hS=>Za ?_
   replace hS:=hS.ent (i:=27) (s':=.pv (.int .i64 ((i+1:Nat):Int))) rfl (.int (Ze (by omega)))
   obtain ⟨F,hS⟩:=hS.nm [26,25,5,4,6,0,27] [0,50] rfl rfl
   exact ⟨((i+1),(now2),_,_),F,⟨by omega,⟨by first | (rw [hst,hst2];done) | (rw [hst,hst2];simp),hpm2,by first | omega | (simp only [List.length_append,List.length_cons,List.length_nil];omega)⟩⟩,hS,by omega⟩
  have hne:Go.Gm.nth now i=Go.Gm.nth y i:=by simpa using hc2
  have hst2:=ZdO (to:=y.drop (i+1)) hne
  rw [← ZZ hil] at hst2
  have hpm2:=hpm
  obtain ⟨now2,hn2⟩:∃ z,z=now:=⟨_,rfl⟩
  rw [← hn2] at hS hst hst2 hpm2
  refine wp_skip (Zi (Za ?_))
  refine Zb hS (qp r1 (qM rfl rfl qZ)) hB [27,26,25,6,5,4,0] [50,0] rfl rfl fun a w F hS=>Za ?_
  replace hS:=hS.ent (i:=27) (s':=.pv (.int .i64 ((i+1:Nat):Int))) rfl (.int (Ze (by omega)))
  obtain ⟨F,hS⟩:=hS.nm [26,25,5,4,6,0,27] [0,50] rfl rfl
  exact ⟨((i+1),(now2),_,_),F,⟨by omega,⟨by first | (rw [hst,hst2];done) | (rw [hst,hst2];simp),hpm2,by first | omega | (simp only [List.length_append,List.length_cons,List.length_nil];omega)⟩⟩,hS,by omega⟩
 have hil:i=y.length:=by simp at hc1;omega
 rw [hil,List.drop_length,Zan,List.append_nil] at hst
 have hm:Zae x y=(out,0):=by unfold Zae;rw [if_pos hok,hst]
 refine wp_exit (Zk (Zk (Zq (Za (wp_seq ?_)))))
 refine Zb hS (qM rfl rfl (qN rfl rfl (qI qZ))) hB [5,4] [50,0] rfl rfl fun a w F hS=>Za (wp_ret ?_)
 obtain ⟨F,hS⟩:=hS.give 50 4 rfl rfl
 refine ZA hfr hS rfl (.tmp rfl (.tmp rfl .nil)) (.two (.sl (by rw [hm])) (.int (by rw [hm])))
theorem Zal.nth {l:List Int} (h:Zal l) {i:Nat} (hi:i<l.length):Go.Gm.nth l i≠0:=by
 have:=(h.1 _ (ZM hi)).1
 omega
theorem Zd6:∀ (s:List Zb4) (l:List Int) (p:Zb4),Za9 l (s ++ [p])=(Z9 (Za9 l s) p.key p.val).1
 | [],l,p=>rfl
 | q :: s,l,p=>Zd6 s _ p
theorem Ze8:∀ (to now:List Int) (i:Int),∀ p ∈ Zan now i to,p.key ∈ to∧i≤p.val∧p.val<i+to.length
 | [],now,i,p,h=>by cases h
 | x :: to,now,i,p,h=>by
   have key:∀ now',p ∈ Zan now' (i+1) to→p.key ∈ x :: to∧i≤p.val∧p.val<i+(x :: to).length:=fun now' h=>by
     obtain ⟨h1,h2,h3⟩:=Ze8 to now' (i+1) p h
     refine ⟨List.mem_cons_of_mem _ h1,by omega,?_⟩
     rw [List.length_cons];omega
   unfold Zan at h
   split at h
   · exact key _ h
   · rcases List.mem_cons.1 h with rfl | h
     · refine ⟨List.mem_cons_self,Int.le_refl _,?_⟩
       rw [List.length_cons]
       show i<_
       omega
     · exact key _ h
theorem Zcr:∀ (s:List Zb4) (l:List Int),(∀ p ∈ s,p.key ∈ l∧0≤p.val∧p.val<l.length)→(Za9 l s).Perm l
 | [],l,_=>.refl _
 | p :: s,l,h=>by
   obtain ⟨h1,h2,h3⟩:=h p (by simp)
   have hp:=ZbI h1 ⟨h2,h3⟩
   refine (Zcr s _ fun q hq=>?_).trans hp
   obtain ⟨k1,k2,k3⟩:=h q (by simp [hq])
   exact ⟨hp.mem_iff.2 k1,k2,by rw [hp.length_eq];exact k3⟩
theorem ZeC:∀ (to now:List Int) (i:Nat),now.drop i=to→Zan now i to = []
 | [],now,i,_=>rfl
 | x :: to,now,i,h=>by
   have hi:i<now.length:=by
     rcases Nat.lt_or_ge i now.length with h1 | h1
     · exact h1
     · rw [List.drop_eq_nil_of_le h1] at h;cases h
   rw [ZZ hi] at h
   injection h with h1 h2
   rw [ZdO h1]
   exact ZeC to now (i+1) h2
structure Znl (x y:List Int) (s:List Zb4):Prop where
 keys:(s.map Zb4.key).Nodup
 done:Za9 x s=y
 each:∀ i,i<s.length→Z9 (Za9 x (s.take i)) (Go.Gm.nth s i).key (Go.Gm.nth s i).val=(Za9 x (s.take (i+1)),0)
 none:(s.length:Int)=0 ↔ x=y
 len:∀ i,(Za9 x (s.take i)).length=x.length
 short:s.length≤y.length
theorem steps_facts {x y:List Int} {s:List Zb4} (h:Za7 x y) (hs:s=Zan x 0 y):Znl x y s:=by
 have hv:∀ p ∈ s,p.key ∈ x∧0≤p.val∧p.val<x.length:=fun p hp=>by
   rw [hs] at hp
   obtain ⟨h1,h2,h3⟩:=Ze8 y x 0 p hp
   exact ⟨h.2.2.mem_iff.2 h1,h2,by rw [h.2.2.length_eq];omega⟩
 have hvt:∀ i,∀ p ∈ s.take i,p.key ∈ x∧0≤p.val∧p.val<x.length:=fun i p hp=>hv p (List.mem_of_mem_take hp)
 have hd:Za9 x s=y:=by
   have:=ZcX y x [] h.2.2 rfl h.1.2
   rw [hs];exact this
 obtain ⟨ks,k1,k2⟩:=ZcV y x 0
 refine ⟨by rw [hs,k2];exact h.2.1.2.sublist k1,hd,fun i hi=>?_,⟨fun h0=>?_,fun e=>?_⟩,fun i=>(Zcr _ _ (hvt i)).length_eq,?_⟩
 · obtain ⟨h1,h2,h3⟩:=hv _ (ZM hi)
   have hp:=Zcr _ _ (hvt i)
   rw [Zt hi,Zd6,Zge (hp.mem_iff.2 h1) ⟨h2,by rw [hp.length_eq];exact h3⟩]
 · have:s = []:=List.eq_nil_of_length_eq_zero (by omega)
   rw [this] at hd;exact hd
 · subst e
   rw [hs,show Zan x 0 x = [] from ZeC x x 0 rfl];rfl
 · have:=k1.length_le
   rw [← k2,List.length_map] at this
   rw [hs];exact this
def Za5 (t:TxD):Bool:=t.ops.any fun o=>o.read
theorem ZkY (t:TxD):(!decide (t=bareT t))=Za5 t:=by
 unfold Za5
 rw [Bool.eq_iff_iff]
 simp only [Bool.not_eq_true',decide_eq_false_iff_not,List.any_eq_true]
 constructor
 · intro h
   refine Classical.byContradiction fun h2=>h ?_
   obtain ⟨a,b,c⟩:=t
   unfold bareT
   congr 1
   symm
   rw [List.filter_eq_self]
   intro o ho
   cases hr:o.read with
   | false=>rfl
   | true=>exact absurd ⟨o,ho,hr⟩ h2
 · rintro ⟨o,ho,hr⟩ e
   have:o ∈ (bareT t).ops:=by rw [← e];exact ho
   unfold bareT at this
   have:=(List.mem_filter.1 this).2
   rw [hr] at this;cases this
def Zem (t:TxD):CmdD:={zeroC 1 with tx:=bareT t}
def ZbV (t:TxD):CmdD:={zeroC 2 with tx:=t}
def Zn7 (k:Int) (p:Zb4):CmdD:={zeroC 5 with key:=k,id:=p.key,place:=p.val}
def Z0 (g:Zn) (c:CmdD):Zn×Int:=if c.kind=1 then Z6 g c.tx else if c.kind=2 then Zar g c.tx else if c.kind=3 then ZY g c.id else if c.kind=4 then ZaD g c.order else if c.kind=5 then ZdS g c.key c.id c.place else (zeroH,11)
def ZQ:Zn→List CmdD→Nat→Zn×Nat×Int
 | g,[],i=>(g,i,0)
 | g,c :: l,i=>if (Z0 g c).2≠0 then (zeroH,i,(Z0 g c).2) else ZQ (Z0 g c).1 l (i+1)
theorem Zdw {g0 g:Zn} {l:List CmdD} {i:Nat} (h:ZQ g0 l 0=ZQ g (l.drop i) i) (hi:i=l.length):ZQ g0 l 0=(g,l.length,0):=by
 rw [h,hi,List.drop_length];rfl
theorem ZdH {g0 g:Zn} {l:List CmdD} {i:Nat} (h:ZQ g0 l 0=ZQ g (l.drop i) i) (hi:i<l.length) (h2:(Z0 g (Go.Gm.nth l i)).2≠0):ZQ g0 l 0=(zeroH,i,(Z0 g (Go.Gm.nth l i)).2):=by
 rw [h,ZZ hi,ZQ,if_pos h2]
theorem Zcy {g0 g:Zn} {l:List CmdD} {i:Nat} (h:ZQ g0 l 0=ZQ g (l.drop i) i) (hi:i<l.length) (h2:¬ (Z0 g (Go.Gm.nth l i)).2≠0):ZQ g0 l 0=ZQ (Z0 g (Go.Gm.nth l i)).1 (l.drop (i+1)) (i+1):=by
 rw [h,ZZ hi,ZQ,if_neg h2]
def Zac (c:CmdD):Prop:=c.tx.ops.length≤24∧c.order.txs.length≤24
instance (c:CmdD):Decidable (Zac c):=by unfold Zac;exact inferInstance
def Zfp (l:List CmdD):Prop:=l.length≤40 ∧ ∀ c ∈ l,Zac c
instance (l:List CmdD):Decidable (Zfp l):=by unfold Zfp;exact inferInstance
theorem LightC.at {l:List CmdD} (h:Zfp l) {i:Nat} (hi:i<l.length):Zac (Go.Gm.nth l i):=h.2 _ (ZM hi)
def toE (c:CmdD):EdD:=if c.kind=1 then ⟨0,c.tx,⟨0,[]⟩,0⟩ else if c.kind=2 then ⟨2,c.tx,⟨0,[]⟩,0⟩ else if c.kind=3 then ⟨1,⟨c.id,false,[]⟩,⟨0,[]⟩,0⟩ else if c.kind=4 then ⟨3,zeroT,c.order,0⟩ else ⟨4,⟨c.id,false,[]⟩,⟨c.key,[]⟩,c.place⟩
theorem Zks {g:Zn} {c:CmdD} (h:(Z0 g c).2=0):Z0 g c=doH g (toE c):=by
 unfold Z0 at h ⊢
 unfold toE
 by_cases k1:c.kind=1
 · simp only [if_pos k1];rfl
 · by_cases k2:c.kind=2
   · simp only [if_neg k1,if_pos k2];rfl
   · by_cases k3:c.kind=3
     · simp only [if_neg k1,if_neg k2,if_pos k3];rfl
     · by_cases k4:c.kind=4
       · simp only [if_neg k1,if_neg k2,if_neg k3,if_pos k4];rfl
       · by_cases k5:c.kind=5
         · simp only [if_neg k1,if_neg k2,if_neg k3,if_neg k4,if_pos k5];rfl
         · simp only [if_neg k1,if_neg k2,if_neg k3,if_neg k4,if_neg k5] at h;exact absurd h (by decide)
theorem Zht {c:CmdD} (h:Zac c):Zd8 (toE c):=by
 unfold toE Zd8
 obtain ⟨h1,h2⟩:=h
 split
 · exact ⟨h1,Nat.zero_le _⟩
 · split
   · exact ⟨h1,Nat.zero_le _⟩
   · split
     · exact ⟨Nat.zero_le _,Nat.zero_le _⟩
     · split
       · exact ⟨Nat.zero_le _,h2⟩
       · exact ⟨Nat.zero_le _,Nat.zero_le _⟩
def Zj8 (n:Nat) (g:Zn):Prop:=Zx g∧g.txs.length≤n ∧ ∀ t ∈ g.txs,t.ops.length≤24
theorem Zmq:∀ l:List TxD,(∀ t ∈ l,t.ops.length≤24)→(Zaq l).length≤24*l.length:=fun l h=>by
 unfold Zaq
 refine Nat.le_trans (Zcl _) ?_
 induction l with
 | nil=>simp
 | cons t l ih=>
   have h1:=ih fun x hx=>h x (by simp [hx])
   have h2:=h t (by simp)
   have h3:=Zbl t
   by_cases hd:t.done=true
   · rw [List.filter_cons_of_pos (by simpa using hd),List.flatMap_cons,List.length_append,List.length_cons]
     omega
   · rw [List.filter_cons_of_neg (by simpa using hd),List.length_cons]
     omega
theorem Zj8.fit {n:Nat} {g:Zn} (h:Zj8 n g):Fit n g:=by
 obtain ⟨hr,h1,h2⟩:=h
 refine ⟨⟨h1,h2⟩,?_,fun o ho=>?_⟩
 · have:=Zmq g.txs h2
   rw [hr.2.2.1]
   exact Nat.le_trans this (Nat.mul_le_mul_left _ h1)
 · obtain ⟨i,hi,e⟩:=List.getElem_of_mem ho
   have:=(hr.2.2.2 i hi).2.length_eq
   rw [Zz hi,e] at this
   rw [this]
   exact Nat.le_trans (Za6 _ _) h1
theorem Fit.small40 {n:Nat} {g:Zn} (h:Fit n g) (hn:n≤41):ZaK g:=by
 obtain ⟨⟨h1,h2⟩,h3,h4⟩:=h
 exact ⟨⟨by omega,fun t ht=>by have:=h2 t ht;omega⟩,by omega,fun o ho=>by have:=h4 o ho;omega⟩
theorem Zj8.edit {n:Nat} {g:Zn} {c:CmdD} (h:Zj8 n g) (hn:n≤41) (hc:Zac c) (h0:¬ (Z0 g c).2≠0):Zj8 (n+1) (Z0 g c).1:=by
 have h0:=Decidable.not_not.1 h0
 have e:=Zks h0
 rw [e] at h0 ⊢
 have hf:=h.fit.doH (Zht hc)
 exact ⟨ZiJ (h.fit.small40 hn) h0,hf.1.1,hf.1.2⟩
theorem Zj8.zero:Zj8 0 zeroH:=⟨ZjC,Nat.le_refl _,fun t ht=>by cases ht⟩
theorem Zc8 (x y:List Int):(Zae x y).1.length≤y.length:=by
 unfold Zae
 split
 · rename_i h;exact (steps_facts h rfl).short
 · simp
theorem ZbC {α:Type} [Inhabited α] {β:Type} {f:α→Bool} {m:α→β} {l:List α} {i:Nat} (h:i<l.length) (b:Bool) (hb:f (Go.Gm.nth l i)=b):((l.take (i+1)).filter f).map m=((l.take i).filter f).map m++if b=true then [m (Go.Gm.nth l i)] else []:=by
 rw [Zt h,List.filter_append,List.map_append]
 subst hb
 by_cases e:f (Go.Gm.nth l i)=true
 · rw [if_pos e,List.filter_cons_of_pos e];rfl
 · rw [if_neg e,List.filter_cons_of_neg e];rfl
theorem Zdd {α β:Type} [Inhabited α] {m:α→β} {l:List α} {i:Nat} (h:i<l.length):(l.take (i+1)).map m=(l.take i).map m ++ [m (Go.Gm.nth l i)]:=by rw [Zt h,List.map_append];rfl
end Go.Proofs.YtjhapicamnijnaaGreat
