/- Texts put together. No condition beyond those that each theorem says. -/
import Derived.Test.YtjhapicamnijnaaGreatDoorJ4
import Derived.Test.YtjhapicamnijnaaGreatDoorJ0
import Derived.Test.YtjhapicamnijnaaGreatDoorJ3
namespace Go.Proofs.YtjhapicamnijnaaGreatDoor
open Go Go.Gm
set_option linter.unusedVariables false
set_option linter.unusedSimpArgs false
set_option maxHeartbeats 4000000
set_option maxRecDepth 8000
theorem ZoQ {l:List Int} {tx place:Int} (h0:0≤Zbw tx l) (h1:Zbw tx l<place) (h2:place<l.length):(l.take (Zbw tx l).toNat++(l.take (place+1).toNat).drop (Zbw tx l+1).toNat++l.drop place.toNat).set place.toNat tx=(Zal l tx place).1:=by
 unfold Zal
 rw [if_neg (by omega),if_neg (by simp;omega)]
 have:=Zpq (l:=l) (i:=(Zbw tx l).toNat) (p:=place.toNat) (x:=tx) (by omega) (by omega)
 rw [Int.toNat_of_nonneg (by omega)] at this
 rw [show (place+1).toNat=place.toNat+1 by omega,show (Zbw tx l+1).toNat=(Zbw tx l).toNat+1 by omega,List.drop_take,show place.toNat+1 - ((Zbw tx l).toNat+1)=place.toNat - (Zbw tx l).toNat by omega,this]
theorem ZnV {l:List Int} {tx place:Int} (h0:0≤place) (h1:place≤Zbw tx l) (h2:Zbw tx l<l.length):(l.take (place+1).toNat++(l.take (Zbw tx l).toNat).drop place.toNat++l.drop (Zbw tx l+1).toNat).set place.toNat tx=(Zal l tx place).1:=by
 unfold Zal
 rw [if_neg (by omega),if_neg (by simp;omega)]
 have:=Zpv (l:=l) (i:=(Zbw tx l).toNat) (p:=place.toNat) (x:=tx) (by omega) (by omega)
 rw [Int.toNat_of_nonneg (by omega)] at this
 rw [show (place+1).toNat=place.toNat+1 by omega,show (Zbw tx l+1).toNat=(Zbw tx l).toNat+1 by omega,List.drop_take,this]
theorem Zn2 (l:List Int) (tx place:Int):(Zal l tx place).1.length≤l.length:=by
 unfold Zal
 split
 · simp
 · split
   · simp
   · rename_i h1 h2
     have hr:=ZgZ tx l
     have h3:(l.eraseIdx (Zbw tx l).toNat).length=l.length - 1:=by rw [List.length_eraseIdx,if_pos (by omega)]
     show (ZmV _ _ _).length≤_
     unfold ZmV
     split
     · rw [List.length_append,List.length_cons,List.length_take,List.length_drop];omega
     · omega
theorem Zg7 {now to:List Int} {x:Int} {i:Nat} (h:Go.Gm.nth now i=x):Zax now i (x :: to)=Zax now ((i+1:Nat):Int) to:=by
 rw [Zax,Int.toNat_natCast,if_pos h,Int.natCast_add];rfl
theorem Zj3 {now to:List Int} {x:Int} {i:Nat} (h:¬ Go.Gm.nth now i=x):Zax now i (x :: to) = ⟨x,i⟩ :: Zax (Zal now x i).1 ((i+1:Nat):Int) to:=by
 rw [Zax,Int.toNat_natCast,if_neg h,Int.natCast_add];rfl
theorem Zoy (l:List Int) (tx place:Int) (hl:l.length≤1000000):FnP Tryz.prog 81 [.sl rInt l,.int .i64 tx,.int .i64 place] (.tup [.sl rInt (Zal l tx place).1,.int .i64 (Zal l tx place).2]):=by
 refine FnP.mk Tryz.func81 rfl Tryz.ntmps81 rfl ?_
 intro B a w F hB hfr hS
 have hll:=Sat.lenSl hS (i:=0) rfl
 have hxr:=ZgZ tx l
 have hxw:IntKind.wrap .i64 (Zbw tx l+1)=Zbw tx l+1:=ZC (by omega)
 refine wp_seq ?_
 refine Za hS (qC (qI qZ)) hB [7,6,2,1,0] [0] rfl rfl fun a w F hS=>Zb (wp_seq ?_)
 refine Za hS (qM rfl rfl (qM rfl rfl (qf (oP (ZkU l tx) Tryz.func122 (Args.two .t .t)) r2 qz (qN rfl rfl qZ)))) hB [8,7,6,2,1,0] [0] rfl rfl fun a w F hS=>Zb (wp_seq (wp_block (wp_seq ?_)))
 refine Za hS (qM rfl rfl (qf (Zbq .t qi) r1 qz (qN rfl rfl qZ))) hB [13,8,7,6,2,1,0] [0] rfl rfl fun a w F hS=>Zb ?_
 refine Zd hS rfl (fun hc0=>?_) (fun hc0=>?_)
 ·skip
  have hix:Zbw tx l<0:=by simpa using hc0
  have hm:Zal l tx place=([],3):=if_pos hix
  refine wp_seq ?_
  refine Za hS (qC (qI qZ)) hB [8,7,6,2,1,0] [0] rfl rfl fun a w F hS=>Zb (wp_ret (Zg (Ze ?_)))
  refine Zt hfr hS rfl (.tmp rfl (.tmp rfl .nil)) (.two (.trans .nilSl (.sl (by first | (rw [hm];done) | exact hm1))) (.int (by first | (rw [hm];done) | exact hm2)))
 have hix:0≤Zbw tx l:=by simp at hc0;omega
 refine wp_seq ?_
 refine Za hS (qM rfl rfl (qf (Zbq .t qi) r1 qz (qM rfl rfl (qm rfl rfl rfl rfl (qm rfl rfl rfl rfl (qk rfl (fun h=>ZaM Tryz.underlying39 (.w h)) r2 qz (qk rfl (fun h=>Zen (.w h) (.w h)) r3 qz (qf (Zao .t .t) r2 qz (qN rfl rfl qZ))))))))) hB [16,8,7,6,2,1,0] [0] rfl rfl fun a w F hS=>Zb ?_
 refine Zd hS rfl (fun hc1=>?_) (fun hc1=>?_)
 ·skip
  have hpl:¬ (0≤place∧place<l.length):=by simp at hc1;omega
  have hm:Zal l tx place=([],1):=(if_neg (by omega)).trans (if_pos hpl)
  refine wp_seq ?_
  refine Za hS (qC (qI qZ)) hB [8,7,6,2,1,0] [0] rfl rfl fun a w F hS=>Zb (wp_ret (Zg (Ze ?_)))
  refine Zt hfr hS rfl (.tmp rfl (.tmp rfl .nil)) (.two (.trans .nilSl (.sl (by first | (rw [hm];done) | exact hm1))) (.int (by first | (rw [hm];done) | exact hm2)))
 have hpl:0≤place∧place<l.length:=by simp at hc1;omega
 have hpw:IntKind.wrap .i64 (place+1)=place+1:=ZC (by omega)
 have hm2:0=(Zal l tx place).2:=by unfold Zal;rw [if_neg (by omega),if_neg (by simp;omega)]
 refine wp_skip (Zh (Zb (wp_seq ?_)))
 replace hS:=hS.fresh 101 rfl
 refine Zc hS (qM rfl rfl (qf (Za2 101 (Zdb l hl) Tryz.func64 rfl (by kernel_rfl) (Args.one .t) ZaO) r1 r1 (qN rfl rfl qZ))) hB [9,8,7,6,2,1,0] [101,0] (fun _=>rfl) (fun _=>rfl) fun τ a w F hS=>?_
 try dsimp only [RS.sub,SF.sub,CF.sub,csub,Anc.sub,List.map,rInt] at hS
 generalize τ 26=v26 at hS
 refine Zb (wp_seq (wp_seq ?_))
 refine Za hS (qM rfl rfl (qM rfl rfl (qL r2))) hB [29,9,8,7,6,2,1,0] [101,0] rfl rfl fun a w F hS=>Zb ?_
 refine Zd hS rfl (fun hc2=>?_) (fun hc2=>?_)
 ·skip
  have hip:Zbw tx l<place:=by simpa using hc2
  refine Zz hS (qM rfl rfl (qM rfl rfl (qM rfl rfl (qf (Zk7 101 (.mk Tryz.underlying39 (by kernel_rfl)) .is .t .t (by first | omega | (rw [hxw,hpw];omega) | (rw [hpw];omega) | (rw [hxw];omega)) (by first | omega | (rw [hxw,hpw];omega) | (rw [hpw];omega) | (rw [hxw];omega)) (by first | omega | (rw [hxw,hpw];omega) | (rw [hpw];omega) | (rw [hxw];omega)) (by first | omega | (rw [hxw,hpw];omega) | (rw [hpw];omega) | (rw [hxw];omega))) r3 r1 (qM rfl rfl (qM rfl rfl (qp r1 (qM rfl rfl (qp r1 (qf (ZgW (sz:=1) (.mk Tryz.underlying39 (by kernel_rfl)) (by intro x;rfl) .t .t .t (by first | omega | (rw [hxw,hpw];omega) | (rw [hpw];omega) | (rw [hxw];omega)) (by first | omega | (rw [hxw,hpw];omega) | (rw [hpw];omega) | (rw [hxw];omega)) (by first | omega | (rw [hxw,hpw];omega) | (rw [hpw];omega) | (rw [hxw];omega))) r3 qz (qf (o_copy_lh 101 Tryz.underlying39 (by kernel_rfl) (by intro x;rfl) .t .t (by first | omega | (rw [hxw,hpw];omega) | (rw [hpw];omega) | (rw [hxw];omega)) (by first | omega | (rw [hxw,hpw];omega) | (rw [hpw];omega) | (rw [hxw];omega)) (by first | omega | (rw [hxw,hpw];omega) | (rw [hpw];omega) | (rw [hxw];omega)) (by simp only [hxw,hpw,List.length_take,List.length_drop];omega)) r2 r1 qZ))))))))))) hB [9,7,6,2,1] [101,0] rfl rfl fun a w F hS=>?_
  try dsimp only [rInt] at hS
  rw [hxw,hpw] at hS
  obtain ⟨l2,hl2⟩:∃ l2,l2=l.take (Zbw tx l).toNat++(l.take (place+1).toNat).drop (Zbw tx l+1).toNat++l.drop place.toNat:=⟨_,rfl⟩
  rw [← hl2] at hS
  have hll2:l2.length=l.length:=by rw [hl2];simp only [List.length_append,List.length_take,List.length_drop];omega
  have hm1:l2.set place.toNat tx=(Zal l tx place).1:=by rw [hl2];exact ZoQ (by omega) hip (by omega)
  refine Zb (wp_seq ?_)
  refine Za hS (qM rfl rfl (qM rfl rfl (qM rfl rfl (qf (o_indexAddr_row (sz:=1) 101 (.mk Tryz.underlying39 (by kernel_rfl)) .is .t (by omega) (by omega) (by rfl)) r2 r1 (qf (ZaV (R:=rInt) (sz:=1) (v:=tx) 101 .t (by intro x;rfl) (by omega) .t rfl one_int (by kernel_rfl)) r2 r1 qZ))))) hB [9,7,6] [101,0] rfl rfl fun a w F hS=>?_
  try simp only [Int.toNat_natCast] at hS
  refine Zb (wp_seq ?_)
  refine Za hS (qM rfl rfl (qN rfl rfl (qI qZ))) hB [7,6] [101,0] rfl rfl fun a w F hS=>Zb (wp_ret ?_)
  obtain ⟨F,hS⟩:=hS.give 101 6 rfl rfl
  refine Zt hfr hS rfl (.tmp rfl (.tmp rfl .nil)) (.two (.sl (by first | (rw [hm];done) | exact hm1)) (.int (by first | (rw [hm];done) | exact hm2)))
 have hip:place≤Zbw tx l:=by simp at hc2;omega
 refine Zz hS (qM rfl rfl (qM rfl rfl (qp r1 (qM rfl rfl (qp r1 (qf (Zk7 101 (.mk Tryz.underlying39 (by kernel_rfl)) .is .t .t (by first | omega | (rw [hxw,hpw];omega) | (rw [hpw];omega) | (rw [hxw];omega)) (by first | omega | (rw [hxw,hpw];omega) | (rw [hpw];omega) | (rw [hxw];omega)) (by first | omega | (rw [hxw,hpw];omega) | (rw [hpw];omega) | (rw [hxw];omega)) (by first | omega | (rw [hxw,hpw];omega) | (rw [hpw];omega) | (rw [hxw];omega))) r3 r1 (qM rfl rfl (qM rfl rfl (qM rfl rfl (qf (ZgW (sz:=1) (.mk Tryz.underlying39 (by kernel_rfl)) (by intro x;rfl) .t .t .t (by first | omega | (rw [hxw,hpw];omega) | (rw [hpw];omega) | (rw [hxw];omega)) (by first | omega | (rw [hxw,hpw];omega) | (rw [hpw];omega) | (rw [hxw];omega)) (by first | omega | (rw [hxw,hpw];omega) | (rw [hpw];omega) | (rw [hxw];omega))) r3 qz (qf (o_copy_lh 101 Tryz.underlying39 (by kernel_rfl) (by intro x;rfl) .t .t (by first | omega | (rw [hxw,hpw];omega) | (rw [hpw];omega) | (rw [hxw];omega)) (by first | omega | (rw [hxw,hpw];omega) | (rw [hpw];omega) | (rw [hxw];omega)) (by first | omega | (rw [hxw,hpw];omega) | (rw [hpw];omega) | (rw [hxw];omega)) (by simp only [hxw,hpw,List.length_take,List.length_drop];omega)) r2 r1 qZ))))))))))) hB [9,7,6,2,1] [101,0] rfl rfl fun a w F hS=>?_
 try dsimp only [rInt] at hS
 rw [hxw,hpw] at hS
 obtain ⟨l2,hl2⟩:∃ l2,l2=l.take (place+1).toNat++(l.take (Zbw tx l).toNat).drop place.toNat++l.drop (Zbw tx l+1).toNat:=⟨_,rfl⟩
 rw [← hl2] at hS
 have hll2:l2.length=l.length:=by rw [hl2];simp only [List.length_append,List.length_take,List.length_drop];omega
 have hm1:l2.set place.toNat tx=(Zal l tx place).1:=by rw [hl2];exact ZnV (by omega) hip (by omega)
 refine Zb (wp_seq ?_)
 refine Za hS (qM rfl rfl (qM rfl rfl (qM rfl rfl (qf (o_indexAddr_row (sz:=1) 101 (.mk Tryz.underlying39 (by kernel_rfl)) .is .t (by omega) (by omega) (by rfl)) r2 r1 (qf (ZaV (R:=rInt) (sz:=1) (v:=tx) 101 .t (by intro x;rfl) (by omega) .t rfl one_int (by kernel_rfl)) r2 r1 qZ))))) hB [9,7,6] [101,0] rfl rfl fun a w F hS=>?_
 try simp only [Int.toNat_natCast] at hS
 refine Zb (wp_seq ?_)
 refine Za hS (qM rfl rfl (qN rfl rfl (qI qZ))) hB [7,6] [101,0] rfl rfl fun a w F hS=>Zb (wp_ret ?_)
 obtain ⟨F,hS⟩:=hS.give 101 6 rfl rfl
 refine Zt hfr hS rfl (.tmp rfl (.tmp rfl .nil)) (.two (.sl (by first | (rw [hm];done) | exact hm1)) (.int (by first | (rw [hm];done) | exact hm2)))
def Z8 (g:Zj) (key:Int) (rule:List Int→List Int×Int):Zj×Int:=if ¬ Zy g then (zeroH,5) else if isK OrdD.key key g.orders=false then (zeroH,3) else if (rule (Go.Gm.nth g.orders (lowK OrdD.key key g.orders)).txs).2≠0 then (zeroH,(rule (Go.Gm.nth g.orders (lowK OrdD.key key g.orders)).txs).2) else (⟨g.txs,g.orders.set (lowK OrdD.key key g.orders) ⟨(Go.Gm.nth g.orders (lowK OrdD.key key g.orders)).key,(rule (Go.Gm.nth g.orders (lowK OrdD.key key g.orders)).txs).1⟩⟩,0)
def Ze9 (o:OrdD) (l:List Int):List Int×Int:=if l.Perm o.txs then (o.txs,0) else ([],8)
def Zdo (g:Zj) (o:OrdD):Zj×Int:=Z8 g o.key (Ze9 o)
def ZmE (g:Zj) (key id place:Int):Zj×Int:=Z8 g key fun l=>Zal l id place
theorem Zlx (g : Zj) (key : Int) (rule : List Int → List Int × Int) (f : FuncId) (fn : Func) (cps : List PV) (hf : Tryz.prog.funcs[f]? = some fn) (hb : fn.body.isSome = true) (hnn : (fn.name == "runtime.NumGoroutine") = false) (hw : ∀ l : List Int, l.length ≤ 1000 → FnP Tryz.prog f (.sl rInt l :: cps) (.tup [.sl rInt (rule l).1, .int .i64 (rule l).2])) (hs : Zbo g) : FnP Tryz.prog 100 [.agg (Zn g), .int .i64 key, .clos f cps] (.tup [.agg (Zn (Z8 g key rule).1), .int .i64 (Z8 g key rule).2]) := by
 refine FnP.mk Tryz.func100 rfl Tryz.ntmps100 rfl ?_
 intro B a w F hB hfr hS
 have hso:=hs.2.1
 refine wp_seq ?_
 refine Zc hS (qx 101 r1 (qf (oH [.slice none 0 0,.slice none 0 0] 102) trivial qz (qI qZ))) hB [7,6,3,2,1] [102,101,0] (fun _=>rfl) (fun _=>rfl) fun τ a w F hS=>?_
 try dsimp only [RS.sub,SF.sub,CF.sub,csub,Anc.sub,List.map,zCF,Zn,rTx,Zx,ZO,rInt,rOp] at hS
 generalize τ 3=v3 at hS
 generalize τ 6=v6 at hS
 refine Zb (wp_seq (wp_seq ?_))
 refine Za hS (qe 2 101 r1 r1 (qf (oP (Zcj g hs) Tryz.func7 (Args.one (.pagg .t))) r1 qz (qf (o_not .t) r1 qz qZ))) hB [15,7,6,3,2,1] [102,101,0] rfl rfl fun a w F hS=>Zb ?_
 refine Zd hS rfl (fun hc0=>?_) (fun hc0=>?_)
 ·skip
  have hr:¬ Zy g:=by simpa using hc0
  have hg:Z8 g key rule=(zeroH,5):=by unfold Z8;rw [if_pos hr]
  refine wp_seq ?_
  refine Za hS (qf (oB [] [.slice none 0 0,.slice none 0 0] [(0,1),(1,1)] .nil) trivial qz (qs 2 102 r2 r1 (qI qZ))) hB [7,6,3,2,1] [102,101,0] rfl rfl fun a w F hS=>Zb (wp_ret (Ze ?_))
  refine Zt hfr hS rfl (.cl 102 true 2 rfl rfl (.tmp rfl .nil)) (.two (by rw [hg];first | exact .aggU rfl rfl | exact .aggLe rfl ⟨PVLe.nilSl,PVLe.nilSl,trivial⟩) (.int (by rw [hg])))
 have hr:Zy g:=by simpa using hc0
 have hrr:=Zs hr
 refine wp_skip (Zb (wp_seq ?_))
 refine Za hS (qg 1 101 r1 r1 (qa 101 r1 r1 (qM rfl rfl (qf (oP (Zsp g.orders key (by omega) hrr.2 128 Tryz.f128 [] Tryz.func128 rfl (by kernel_rfl) (fun x=>Zox x key)) Tryz.func127 (Args.three .t .t (.conv .f (Ent.fnClos)))) r2 qz (qM rfl rfl (qf (o_extract .t rfl) r1 qz (qf (o_extract .t rfl) r1 qz (qN rfl rfl (qN rfl rfl qZ))))))))) hB [9,8,7,6,3,2] [102,101,0] rfl rfl fun a w F hS=>Zb (wp_seq (wp_seq ?_))
 refine Za hS (qM rfl rfl (qf (o_not .t) r1 qz qZ)) hB [25,8,7,6,3,2] [102,101,0] rfl rfl fun a w F hS=>Zb ?_
 refine Zd hS rfl (fun hc1=>?_) (fun hc1=>?_)
 ·skip
  have hik:isK OrdD.key key g.orders=false:=by simpa using hc1
  have hg:Z8 g key rule=(zeroH,3):=by unfold Z8;rw [if_neg (Decidable.not_not.2 hr),if_pos hik]
  refine wp_seq ?_
  refine Za hS (qf (oB [] [.slice none 0 0,.slice none 0 0] [(0,1),(1,1)] .nil) trivial qz (qs 2 102 r2 r1 (qI qZ))) hB [8,7,6,3,2] [102,101,0] rfl rfl fun a w F hS=>Zb (wp_ret (Ze ?_))
  refine Zt hfr hS rfl (.cl 102 true 2 rfl rfl (.tmp rfl .nil)) (.two (by rw [hg];first | exact .aggU rfl rfl | exact .aggLe rfl ⟨PVLe.nilSl,PVLe.nilSl,trivial⟩) (.int (by rw [hg])))
 have hik:isK OrdD.key key g.orders=true:=by simpa using hc1
 have hlk:=(ZdS hrr.2 hik).1
 have hnl:(Go.Gm.nth g.orders (lowK OrdD.key key g.orders)).txs.length≤1000:=hs.2.at hlk
 refine wp_skip (Zb (wp_seq ?_))
 refine Za hS (qM rfl rfl (qg 1 101 r1 r1 (qa 101 r1 r1 (qM rfl rfl (qy 2 Tryz.underlying23 r2 (qf (oG 1 .t) r1 qz (qf (oR false 1 .t) r1 qz (qf (ZS (avs:=[.sl rInt (Go.Gm.nth g.orders (lowK OrdD.key key g.orders)).txs]) .t (hw (Go.Gm.nth g.orders (lowK OrdD.key key g.orders)).txs hnl) hf hb hnn (Args.one .t)) r2 qz (qM rfl rfl (qf (o_extract .t rfl) r1 qz (qf (o_extract .t rfl) r1 qz (qN rfl rfl (qN rfl rfl qZ))))))))))))) hB [11,10,8,7,6,3] [102,101,0] rfl rfl fun a w F hS=>?_
 try simp only [Int.toNat_natCast] at hS
 refine Zb (wp_seq (wp_seq ?_))
 refine Za hS (qM rfl rfl (qf (o_neq .t qi) r1 qz qZ)) hB [39,11,10,8,7,6,3] [102,101,0] rfl rfl fun a w F hS=>Zb ?_
 refine Zd hS rfl (fun hc2=>?_) (fun hc2=>?_)
 ·skip
  have hrl:(rule (Go.Gm.nth g.orders (lowK OrdD.key key g.orders)).txs).2≠0:=by simpa using hc2
  have hg:Z8 g key rule=(zeroH,(rule (Go.Gm.nth g.orders (lowK OrdD.key key g.orders)).txs).2):=by unfold Z8;rw [if_neg (Decidable.not_not.2 hr),if_neg (by rw [hik];simp),if_pos hrl]
  refine wp_seq ?_
  refine Za hS (qf (oB [] [.slice none 0 0,.slice none 0 0] [(0,1),(1,1)] .nil) trivial qz (qM rfl rfl (qs 2 102 r2 r1 (qN rfl rfl qZ)))) hB [10,8,7,6,3] [102,101,0] rfl rfl fun a w F hS=>Zb (wp_ret (Ze ?_))
  refine Zt hfr hS rfl (.cl 102 true 2 rfl rfl (.tmp rfl .nil)) (.two (by rw [hg];first | exact .aggU rfl rfl | exact .aggLe rfl ⟨PVLe.nilSl,PVLe.nilSl,trivial⟩) (.int (by rw [hg])))
 have hg:Z8 g key rule=(⟨g.txs,g.orders.set (lowK OrdD.key key g.orders) (⟨(Go.Gm.nth g.orders (lowK OrdD.key key g.orders)).key,(rule (Go.Gm.nth g.orders (lowK OrdD.key key g.orders)).txs).1⟩:OrdD)⟩,0):=by unfold Z8;rw [if_neg (Decidable.not_not.2 hr),if_neg (by rw [hik];simp),if_neg (by simpa using hc2)]
 refine wp_skip (Zb (wp_seq ?_))
 replace hS:=hS.fresh 103 rfl
 refine Zc hS (qe 2 101 r1 r1 (qf (Zfs 103 (ZhY g hs) Tryz.func93 rfl (by kernel_rfl) (Args.one (.pagg .t))) r1 r1 (qf (oH [.slice none 0 0,.slice none 0 0] 104) trivial qz (qf (oA 2 104 .same (.conv .t (Ent.fnAgg (.fn (.fn .nil))))) r2 r1 qZ)))) hB [12,10,8,7,6] [104,103,102,101,0] (fun _=>rfl) (fun _=>rfl) fun τ a w F hS=>?_
 try dsimp only [RS.sub,SF.sub,CF.sub,csub,Anc.sub,List.map,Zf,xL,xM,Nat.reduceAdd,xD,xE,xT,xU,xC,xN,zCF,ldSF,Zn,rTx,Zx,ZO,rInt,rOp] at hS
 generalize τ 12=v12 at hS
 generalize τ 43=v43 at hS
 replace hS:=hS.turn 103 rfl (r':=RS.hp (HP.star [.ob (.val (cellN 0 v43)) (Zu 38 3 rTx g.txs),.ob (.val (cellN 1 v43)) (Zu 41 2 Zx g.orders)])) (fun _ _ _ _ h=>h)
 obtain ⟨F,hS⟩:=hS.peel 103 70 rfl rfl
 obtain ⟨F,hS⟩:=hS.peel 103 71 rfl rfl
 obtain ⟨F,hS⟩:=hS.nm [12,10,8,7,6] [104,102,101,71,70,0] rfl rfl
 generalize cellN 0 v43=va at hS
 generalize cellN 1 v43=vb at hS
 refine Zb (wp_seq ?_)
 refine Za hS (qg 1 104 r1 r1 (qa 104 r1 r1 (qM rfl rfl (qM rfl rfl (qf (o_indexAddr_row (sz:=2) 71 (.mk Tryz.underlying23 (by kernel_rfl)) .is .t (by omega) (by omega) (by rfl)) r2 r1 (qf (Zan (off:=1) (sz:=2) 71 .t (by omega) (by kernel_rfl) (by rfl)) r1 r1 (qf (ZcL (R:=Zx) (sz:=2) (off:=1) (v':=(⟨(Go.Gm.nth g.orders (lowK OrdD.key key g.orders)).key,(rule (Go.Gm.nth g.orders (lowK OrdD.key key g.orders)).txs).1⟩:OrdD)) 71 .t (by intro x;rfl) (by omega) (by decide) .t one_sl rfl (by kernel_rfl)) r2 r1 qZ))))))) hB [12,7,6] [104,102,101,71,70,0] rfl rfl fun a w F hS=>?_
 try simp only [Int.toNat_natCast] at hS
 refine Zb (wp_seq ?_)
 obtain ⟨F,hS⟩:=hS.giveCell 70 104 0 rfl rfl rfl rfl rfl
 try dsimp only [List.set] at hS
 obtain ⟨F,hS⟩:=hS.nm [12,7,6] [104,102,101,71,0] rfl rfl
 obtain ⟨F,hS⟩:=hS.giveCell 71 104 1 rfl rfl rfl rfl rfl
 try dsimp only [List.set] at hS
 obtain ⟨F,hS⟩:=hS.nm [12,7,6] [104,102,101,0] rfl rfl
 refine Za hS (qe 2 104 r1 r1 (qs 2 102 r2 r1 (qI qZ))) hB [7,6] [104,102,101,0] rfl rfl fun a w F hS=>Zb (wp_ret ?_)
 refine Zt hfr hS rfl (.cl 102 true 2 rfl rfl (.tmp rfl .nil)) (.two (by rw [hg];first | exact .aggU rfl rfl | exact .aggLe rfl ⟨PVLe.nilSl,PVLe.nilSl,trivial⟩) (.int (by rw [hg])))
theorem Zmn (l:List Int) (o:OrdD) (hl:l.length≤1000) (ho:o.txs.length≤1000):FnP Tryz.prog 101 [.sl rInt l,.ref (Zx o)] (.tup [.sl rInt (Ze9 o l).1,.int .i64 (Ze9 o l).2]):=by
 refine FnP.mk Tryz.func101 rfl Tryz.ntmps101 rfl ?_
 intro B a w F hB hfr hS
 refine wp_seq ?_
 refine Za hS (qC (qI qZ)) hB [4,3,1,0] [0] rfl rfl fun a w F hS=>Zb (wp_seq (wp_seq ?_))
 refine Za hS (qM rfl rfl (qf (oG 1 .t) r1 qz (qf (oR false 1 .t) r1 qz (qf (oP (ZoD l o.txs (by omega) (by omega)) Tryz.func26 (Args.two .t .t)) r2 qz (qf (o_not .t) r1 qz qZ))))) hB [9,4,3,1] [0] rfl rfl fun a w F hS=>Zb ?_
 refine Zd hS rfl (fun hc0=>?_) (fun hc0=>?_)
 ·skip
  have hg:Ze9 o l=([],8):=by unfold Ze9;rw [if_neg (by simpa using hc0)]
  refine wp_seq ?_
  refine Za hS (qC (qI qZ)) hB [4,3,1] [0] rfl rfl fun a w F hS=>Zb (wp_ret (Ze ?_))
  refine Zt hfr hS rfl (.tmp rfl (.tmp rfl .nil)) (.two (.trans .nilSl (.sl (by rw [hg]))) (.int (by rw [hg])))
 have hg:Ze9 o l=(o.txs,0):=by unfold Ze9;rw [if_pos (by simpa using hc0)]
 refine wp_skip (Zb (wp_seq ?_))
 refine Za hS (qf (oG 1 .t) r1 qz (qf (oR false 1 .t) r1 qz (qf (oP (cloneIP_c o.txs (by omega)) Tryz.func64 (Args.one .t)) r1 qz (qN rfl rfl (qI qZ))))) hB [4,3] [0] rfl rfl fun a w F hS=>Zb (wp_ret ?_)
 refine Zt hfr hS rfl (.tmp rfl (.tmp rfl .nil)) (.two (.sl (by rw [hg])) (.int (by rw [hg])))
theorem ZrW (l:List Int) (id place:Int) (hl:l.length≤1000):FnP Tryz.prog 102 [.sl rInt l,.ref [.int .i64 id],.ref [.int .i64 place]] (.tup [.sl rInt (Zal l id place).1,.int .i64 (Zal l id place).2]):=by
 refine FnP.mk Tryz.func102 rfl Tryz.ntmps102 rfl ?_
 intro B a w F hB hfr hS
 refine wp_seq ?_
 refine Za hS (qC (qI qZ)) hB [5,4,2,1,0] [0] rfl rfl fun a w F hS=>Zb (wp_seq ?_)
 refine Za hS (qM rfl rfl (qf (oR false 1 .t) r1 qz (qf (oR false 1 .t) r1 qz (qf (oP (Zoy l id place (by omega)) Tryz.func81 (Args.three .t .t .t)) r3 qz (qf (o_extract .t rfl) r1 qz (qf (o_extract .t rfl) r1 qz (qN rfl rfl (qN rfl rfl qZ)))))))) hB [5,4] [0] rfl rfl fun a w F hS=>Zb (wp_ret ?_)
 refine Zt hfr hS rfl (.tmp rfl (.tmp rfl .nil)) (.two .refl .refl)
theorem Zl2 (g:Zj) (o:OrdD) (hs:Zbo g) (ho:o.txs.length≤1000):FnP Tryz.prog 54 [.agg (Zn g),.agg (Zx o)] (.tup [.agg (Zn (Zdo g o).1),.int .i64 (Zdo g o).2]):=by
 refine FnP.mk Tryz.func54 rfl Tryz.ntmps54 rfl ?_
 intro B a w F hB hfr hS
 refine wp_seq ?_
 refine Zc hS (qx 101 r1 (qx 102 r1 (qf (oH [.slice none 0 0,.slice none 0 0] 103) trivial qz (qI qZ)))) hB [5,4,3,2] [103,102,101,0] (fun _=>rfl) (fun _=>rfl) fun τ a w F hS=>?_
 try dsimp only [RS.sub,SF.sub,CF.sub,csub,Anc.sub,List.map,zCF,Zn,rTx,Zx,ZO,rInt,rOp] at hS
 generalize τ 2=v2 at hS
 generalize τ 3=v3 at hS
 generalize τ 4=v4 at hS
 refine Zb (wp_seq ?_)
 refine Zb6 3 hS (by kernel_rfl) (cG rfl (oL true 2 101 .is) r1 r1 (cG rfl (oF 0 102 .is) r1 r1 (cG rfl (oL false 1 102 .adr) r1 r1 ZV.nil))) (by kernel_rfl) (by rw [hB];kernel_rfl) fun a w F hS=>?_
 obtain ⟨F,hS⟩:=hS.nm [8,6,5,4,3] [103,102,101,0] rfl rfl
 try dsimp only [List.map,xD,xE,xT,xU,ldSF,Zn,rTx,Zx,ZO,rInt,rOp] at hS
 obtain ⟨F,hS⟩:=hS.giveRef 102 3 rfl rfl rfl
 obtain ⟨F,hS⟩:=hS.nm [8,6,5,4,3] [103,101,0] rfl rfl
 try dsimp only [Go.Gm.unCF] at hS
 refine ZcC hS (by kernel_rfl) (cG rfl (Zb7 (Args.one .t)) r1 trivial (cG rfl (oP (Zlx g o.key (Ze9 o) 101 Tryz.f101 [.ref (Zx o)] Tryz.func101 rfl (by kernel_rfl) (fun l hl=>Zmn l o hl ho) hs) Tryz.func100 (Args.three (.pagg .t) .t .t)) r3 trivial (cG rfl (o_extract .t rfl) r1 trivial (cG rfl (o_extract .t rfl) r1 trivial (cG rfl (oA 2 103 .is (.conv .t .agg)) r2 r1 (cG rfl (oN .t) r1 trivial ZV.nil)))))) (by kernel_rfl) (by rw [hB];kernel_rfl) fun a w F hS=>?_
 obtain ⟨F,hS⟩:=hS.nm [5,4] [103,101,0] rfl rfl
 try dsimp only [List.map,Zf,xL,xM,Nat.reduceAdd,xD,xE,xT,xU,xC,xN,zCF,Zn,rTx,Zx,ZO,rInt,rOp] at hS
 refine Zb (wp_ret ?_)
 refine Zt hfr hS rfl (.cl 103 true 2 rfl rfl (.tmp rfl .nil)) (.two (.aggU rfl rfl) .refl)
theorem Zrd (g:Zj) (key id place:Int) (hs:Zbo g):FnP Tryz.prog 55 [.agg (Zn g),.int .i64 key,.int .i64 id,.int .i64 place] (.tup [.agg (Zn (ZmE g key id place).1),.int .i64 (ZmE g key id place).2]):=by
 refine FnP.mk Tryz.func55 rfl Tryz.ntmps55 rfl ?_
 intro B a w F hB hfr hS
 refine wp_seq ?_
 refine Zc hS (qx 101 r1 (qf (ZlN 102 .t one_int) r1 qz (qf (ZlN 103 .t one_int) r1 qz (qf (oH [.slice none 0 0,.slice none 0 0] 104) trivial qz (qI qZ))))) hB [9,8,7,6,4,1] [104,103,102,101,0] (fun _=>rfl) (fun _=>rfl) fun τ a w F hS=>?_
 try dsimp only [RS.sub,SF.sub,CF.sub,csub,Anc.sub,List.map,zCF,Zn,rTx,Zx,ZO,rInt,rOp] at hS
 generalize τ 4=v4 at hS
 generalize τ 6=v6 at hS
 generalize τ 7=v7 at hS
 generalize τ 8=v8 at hS
 refine Zb (wp_seq ?_)
 refine Zb6 2 hS (by kernel_rfl) (cG rfl (oL true 2 101 .is) r1 r1 (cG rfl (oM .t) r1 trivial ZV.nil)) (by kernel_rfl) (by rw [hB];kernel_rfl) fun a w F hS=>?_
 obtain ⟨F,hS⟩:=hS.nm [11,10,9,8,7,6] [104,103,102,101,0] rfl rfl
 try dsimp only [List.map,xD,xE,xT,xU,ldSF,Zn,rTx,Zx,ZO,rInt,rOp] at hS
 obtain ⟨F,hS⟩:=hS.giveRef 102 6 rfl rfl rfl
 obtain ⟨F,hS⟩:=hS.nm [11,10,9,8,7,6] [104,103,101,0] rfl rfl
 try dsimp only [Go.Gm.unCF] at hS
 obtain ⟨F,hS⟩:=hS.giveRef 103 7 rfl rfl rfl
 obtain ⟨F,hS⟩:=hS.nm [11,10,9,8,7,6] [104,101,0] rfl rfl
 try dsimp only [Go.Gm.unCF] at hS
 refine ZcC hS (by kernel_rfl) (cG rfl (Zb7 (Args.two .t .t)) r2 trivial (cG rfl (oP (Zlx g key (fun l=>Zal l id place) 102 Tryz.f102 [.ref [.int .i64 id],.ref [.int .i64 place]] Tryz.func102 rfl (by kernel_rfl) (fun l hl=>ZrW l id place hl) hs) Tryz.func100 (Args.three (.pagg .t) .t .t)) r3 trivial (cG rfl (o_extract .t rfl) r1 trivial (cG rfl (o_extract .t rfl) r1 trivial (cG rfl (oA 2 104 .is (.conv .t .agg)) r2 r1 (cG rfl (oN .t) r1 trivial ZV.nil)))))) (by kernel_rfl) (by rw [hB];kernel_rfl) fun a w F hS=>?_
 obtain ⟨F,hS⟩:=hS.nm [9,8] [104,101,0] rfl rfl
 try dsimp only [List.map,Zf,xL,xM,Nat.reduceAdd,xD,xE,xT,xU,xC,xN,zCF,Zn,rTx,Zx,ZO,rInt,rOp] at hS
 refine Zb (wp_ret ?_)
 refine Zt hfr hS rfl (.cl 104 true 2 rfl rfl (.tmp rfl .nil)) (.two (.aggU rfl rfl) .refl)
theorem Zsm (u v:TxD):((decide (u.id=v.id) && (u.done == v.done)) && decide (u.ops=v.ops))=decide (u=v):=by
 cases u;cases v
 rw [Bool.eq_iff_iff]
 simp [and_assoc]
theorem Zrj (u v:OrdD):(decide (u.key=v.key) && decide (u.txs=v.txs))=decide (u=v):=by
 cases u;cases v
 rw [Bool.eq_iff_iff]
 simp
theorem Zk5 (u v:Zj):(decide (u.txs=v.txs) && decide (u.orders=v.orders))=decide (u=v):=by
 cases u;cases v
 rw [Bool.eq_iff_iff]
 simp
theorem ZpF (u v:TxD):FnP Tryz.prog 56 [.agg (rTx u),.agg (rTx v)] (.bool (decide (u=v))):=by
 refine FnP.mk Tryz.func56 rfl Tryz.ntmps56 rfl ?_
 intro B a w F hB hfr hS
 refine wp_seq ?_
 refine Zc hS (qx 101 r1 (qx 102 r1 qB)) hB [4,3,2] [102,101,0] (fun _=>rfl) (fun _=>rfl) fun τ a w F hS=>?_
 try dsimp only [RS.sub,SF.sub,CF.sub,csub,Anc.sub,List.map,zCF] at hS
 generalize τ 2=v2 at hS
 generalize τ 3=v3 at hS
 refine Zb (wp_seq ?_)
 refine Za hS (qg 0 101 r1 r1 (qa 101 r1 r1 (qg 0 102 r1 r1 (qa 102 r1 r1 (qf (o_eql .t .t) r2 qz (qM rfl rfl (qv 1 101 rfl r2 r1 (qw 101 rfl r2 r1 (qv 1 102 rfl r2 r1 (qw 102 rfl r2 r1 (qk rfl (fun h=>ZiJ Tryz.underlying4 (.w h) (.w h)) r3 qz (qf (ZK .t .t) r2 qz (qM rfl rfl (qv 2 101 rfl r2 r1 (qw 101 rfl r2 r1 (qv 2 102 rfl r2 r1 (qw 102 rfl r2 r1 (qk rfl (fun h=>oP (ZnA u.ops v.ops) Tryz.func103 (Args.two (.w h) (.w h))) r3 qz (qf (ZK .t .t) r2 qz (qN rfl rfl qZ)))))))))))))))))))) hB [4] [0] rfl rfl fun a w F hS=>Zb (wp_ret ?_)
 refine Zq hfr hS rfl rfl rfl (.bool (Zsm u v))
theorem ZjT (u v:OrdD):FnP Tryz.prog 57 [.agg (Zx u),.agg (Zx v)] (.bool (decide (u=v))):=by
 refine FnP.mk Tryz.func57 rfl Tryz.ntmps57 rfl ?_
 intro B a w F hB hfr hS
 refine wp_seq ?_
 refine Zc hS (qx 101 r1 (qx 102 r1 qB)) hB [4,3,2] [102,101,0] (fun _=>rfl) (fun _=>rfl) fun τ a w F hS=>?_
 try dsimp only [RS.sub,SF.sub,CF.sub,csub,Anc.sub,List.map,zCF] at hS
 generalize τ 2=v2 at hS
 generalize τ 3=v3 at hS
 refine Zb (wp_seq ?_)
 refine Za hS (qg 0 101 r1 r1 (qa 101 r1 r1 (qg 0 102 r1 r1 (qa 102 r1 r1 (qf (o_eql .t .t) r2 qz (qM rfl rfl (qv 1 101 rfl r2 r1 (qw 101 rfl r2 r1 (qv 1 102 rfl r2 r1 (qw 102 rfl r2 r1 (qk rfl (fun h=>oP (ZmJ u.txs v.txs) Tryz.func21 (Args.two (.w h) (.w h))) r3 qz (qf (ZK .t .t) r2 qz (qN rfl rfl qZ))))))))))))) hB [4] [0] rfl rfl fun a w F hS=>Zb (wp_ret ?_)
 refine Zq hfr hS rfl rfl rfl (.bool (Zrj u v))
theorem PVs.lenAt {α:Type} {R:α→List PV} {l:List α} {v:Value} {w:World} {y:Ys} (h:(PV.sl R l).p v w y):l.length≤9223372036854775807:=by
 obtain ⟨_,cap,_,h1,h2,_⟩:=h
 unfold maxLen at h2
 omega
theorem Sat.lenHist {B:Zbp} {E:En} {a:Act} {w:World} {F:Fp} (h:Sat B E a w F) {i:Nat} {u:Zj} (hl:Go.Gm.look E.s i=some (SF.pv (PV.agg (Zn u)))):u.txs.length≤9223372036854775807∧u.orders.length≤9223372036854775807:=by
 obtain ⟨vs,_,hp⟩:=h.s i _ hl
 match vs,hp with
 | [x,y],hp=>exact ⟨PVs.lenAt hp.1.2,PVs.lenAt hp.2.1.2⟩
theorem Zmg (u v:Zj):FnP Tryz.prog 20 [.agg (Zn u),.agg (Zn v)] (.bool (decide (u=v))):=by
 refine FnP.mk Tryz.func20 rfl Tryz.ntmps20 rfl ?_
 intro B a w F hB hfr hS
 obtain ⟨hxl,hyl⟩:=Sat.lenHist hS (i:=0) rfl
 refine wp_seq ?_
 refine Zc hS (qx 101 r1 (qx 102 r1 qB)) hB [4,3,2] [102,101,0] (fun _=>rfl) (fun _=>rfl) fun τ a w F hS=>?_
 try dsimp only [RS.sub,SF.sub,CF.sub,csub,Anc.sub,List.map,zCF] at hS
 generalize τ 2=v2 at hS
 generalize τ 3=v3 at hS
 refine Zb (wp_seq (wp_seq ?_))
 refine Za hS (qg 0 101 r1 r1 (qa 101 r1 r1 (qu Tryz.underlying22 r1 (qg 0 102 r1 r1 (qa 102 r1 r1 (qu Tryz.underlying22 r1 (qf (o_neq .t .t) r2 qz (qM rfl rfl (qv 1 101 rfl r2 r1 (qw 101 rfl r2 r1 (qk rfl (fun h=>ZaM Tryz.underlying23 (.w h)) r2 qz (qv 1 102 rfl r2 r1 (qw 102 rfl r2 r1 (qk rfl (fun h=>ZaM Tryz.underlying23 (.w h)) r2 qz (qk rfl (fun h=>o_neq (.w h) (.w h)) r3 qz (qf (Zao .t .t) r2 qz qZ)))))))))))))))) hB [22,4,3,2] [102,101,0] rfl rfl fun a w F hS=>?_
 skip
 refine Zb ?_
 refine Zd hS rfl (fun hc0=>?_) (fun hc0=>?_)
 ·skip
  have hg:false=decide (u=v):=by
    rw [eq_comm,decide_eq_false_iff_not]
    intro h
    subst h
    simp at hc0
  refine wp_seq ?_
  refine Za hS qB hB [4,3,2] [102,101,0] rfl rfl fun a w F hS=>Zb (wp_ret (Ze ?_))
  refine Zq hfr hS rfl rfl rfl (.bool hg)
 have hTl:u.txs.length=v.txs.length:=by simp at hc0;omega
 have hOl:u.orders.length=v.orders.length:=by simp at hc0;omega
 refine wp_skip (Zb (wp_seq (wp_seq ?_)))
 refine Za hS (qg 0 101 r1 r1 (qa 101 r1 r1 (qu Tryz.underlying22 r1 (qJ qZ)))) hB [26,25,4,3,2] [102,101,0] rfl rfl fun a w F hS=>Zb (wp_block ?_)
 obtain ⟨F,hS⟩:=hS.nm [26,25,3,2] [102,101,0] rfl rfl
 refine ZG (σ:=Nat) (fun s=>(⟨[(2,.pv (.is v2)),(3,.pv (.is v3)),(25,.pv (.int .i64 u.txs.length)),(26,.pv (.int .i64 s))],[(0,frame B),(101,.pt (.val v2) 25 [.pv (.sl rTx u.txs),.pv (.sl Zx u.orders)]),(102,.pt (.val v3) 25 [.pv (.sl rTx v.txs),.pv (.sl Zx v.orders)])]⟩:En)) (fun s=>s≤u.txs.length ∧ ∀ j,j<s→Go.Gm.nth u.txs j=Go.Gm.nth v.txs j) (fun s=>u.txs.length - s) 0 hS ⟨Nat.zero_le _,fun j hj=>absurd hj (Nat.not_lt_zero j)⟩ ?_
 clear hS;intro i a w F hC hS
 try dsimp only at hC
 try dsimp only at hS
 obtain ⟨hi,hq⟩:=hC
 refine wp_seq ?_
 refine Za hS (qL r2) hB [27,26,25,3,2] [102,101,0] rfl rfl fun a w F hS=>Zb (wp_seq ?_)
 refine Zd hS rfl (fun hc1=>?_) (fun hc1=>?_)
 ·skip
  have hil:i<u.txs.length:=by simp at hc1;omega
  refine wp_skip (Zb (wp_seq (wp_block (wp_seq ?_))))
  refine Za hS (qM rfl rfl (qN rfl rfl qZ)) hB [26,25,5,3,2] [102,101,0] rfl rfl fun a w F hS=>Zb (wp_seq ?_)
  refine Zz hS (qg 0 101 r1 r1 (qa 101 r1 r1 (qM rfl rfl (qy 3 Tryz.underlying22 r2 (qf (oR true 3 .t) r1 qz (qg 0 102 r1 r1 (qa 102 r1 r1 (qM rfl rfl (qy 3 Tryz.underlying22 r2 (qf (oR true 3 .t) r1 qz (qf (oP (ZpF (Go.Gm.nth u.txs (i:Int).toNat) (Go.Gm.nth v.txs (i:Int).toNat)) Tryz.func56 (Args.two (.pagg .t) (.pagg .t))) r2 qz (qf (o_not .t) r1 qz qZ)))))))))))) hB [40,26,25,3,2] [102,101,0] rfl rfl fun a w F hS=>?_
  try dsimp only [List.map,xD,xE,xT,xU,ldSF] at hS
  refine Zb ?_
  refine Zd hS rfl (fun hc2=>?_) (fun hc2=>?_)
  ·skip
   have hg:false=decide (u=v):=by
     rw [eq_comm,decide_eq_false_iff_not]
     intro h
     subst h
     simp at hc2
   refine wp_seq ?_
   refine Za hS qB hB [26,25,4,3,2] [102,101,0] rfl rfl fun a w F hS=>Zb (wp_ret (Zg (Ze (Ze (Zg (Ze ?_))))))
   refine Zq hfr hS rfl rfl rfl (.bool hg)
  rw [Int.toNat_natCast] at hc2
  have hqi:Go.Gm.nth u.txs i=Go.Gm.nth v.txs i:=by simpa using hc2
  refine wp_skip (Zh (Zb ?_))
  refine Za hS (qp r1 (qM rfl rfl qZ)) hB [26,25,3,2] [102,101,0] rfl rfl fun a w F hS=>Zb ?_
  replace hS:=hS.ent (i:=26) (s':=.pv (.int .i64 ((i+1:Nat):Int))) rfl (.int (wrap_succ (by omega)))
  obtain ⟨F,hS⟩:=hS.nm [26,25,3,2] [102,101,0] rfl rfl
  exact ⟨i+1,F,⟨by omega,fun j hj=>by rcases Nat.lt_or_eq_of_le (Nat.le_of_lt_succ hj) with h | h;exact hq j h;rw [h];exact hqi⟩,hS,by omega⟩
 have hT:u.txs=v.txs:=Za0 hTl fun j hj=>hq j (by simp at hc1;omega)
 clear hq hi
 refine wp_exit (Zi (Zi (Zo (Zb (wp_seq (wp_seq ?_))))))
 refine Za hS (qg 1 101 r1 r1 (qa 101 r1 r1 (qu Tryz.underlying23 r1 (qJ qZ)))) hB [45,44,3,2] [102,101,0] rfl rfl fun a w F hS=>Zb (wp_block ?_)
 obtain ⟨F,hS⟩:=hS.nm [45,44,3,2] [102,101,0] rfl rfl
 refine ZG (σ:=Nat) (fun s=>(⟨[(2,.pv (.is v2)),(3,.pv (.is v3)),(44,.pv (.int .i64 u.orders.length)),(45,.pv (.int .i64 s))],[(0,frame B),(101,.pt (.val v2) 25 [.pv (.sl rTx u.txs),.pv (.sl Zx u.orders)]),(102,.pt (.val v3) 25 [.pv (.sl rTx v.txs),.pv (.sl Zx v.orders)])]⟩:En)) (fun s=>s≤u.orders.length ∧ ∀ j,j<s→Go.Gm.nth u.orders j=Go.Gm.nth v.orders j) (fun s=>u.orders.length - s) 0 hS ⟨Nat.zero_le _,fun j hj=>absurd hj (Nat.not_lt_zero j)⟩ ?_
 clear hS;intro i a w F hC hS
 try dsimp only at hC
 try dsimp only at hS
 obtain ⟨hi,hq⟩:=hC
 refine wp_seq ?_
 refine Za hS (qL r2) hB [46,45,44,3,2] [102,101,0] rfl rfl fun a w F hS=>Zb (wp_seq ?_)
 refine Zd hS rfl (fun hc3=>?_) (fun hc3=>?_)
 ·skip
  have hil:i<u.orders.length:=by simp at hc3;omega
  refine wp_skip (Zb (wp_seq (wp_block (wp_seq ?_))))
  refine Za hS (qM rfl rfl (qN rfl rfl qZ)) hB [45,44,6,3,2] [102,101,0] rfl rfl fun a w F hS=>?_
  skip
  refine Zb (wp_seq ?_)
  refine Zz hS (qg 1 101 r1 r1 (qa 101 r1 r1 (qM rfl rfl (qy 2 Tryz.underlying23 r2 (qf (oR true 2 .t) r1 qz (qg 1 102 r1 r1 (qa 102 r1 r1 (qM rfl rfl (qy 2 Tryz.underlying23 r2 (qf (oR true 2 .t) r1 qz (qf (oP (ZjT (Go.Gm.nth u.orders (i:Int).toNat) (Go.Gm.nth v.orders (i:Int).toNat)) Tryz.func57 (Args.two (.pagg .t) (.pagg .t))) r2 qz (qf (o_not .t) r1 qz qZ)))))))))))) hB [59,45,44,3,2] [102,101,0] rfl rfl fun a w F hS=>?_
  try dsimp only [List.map,xD,xE,xT,xU,ldSF] at hS
  refine Zb ?_
  refine Zd hS rfl (fun hc4=>?_) (fun hc4=>?_)
  ·skip
   have hg:false=decide (u=v):=by
     rw [eq_comm,decide_eq_false_iff_not]
     intro h
     subst h
     simp at hc4
   refine wp_seq ?_
   refine Za hS qB hB [45,44,4,3,2] [102,101,0] rfl rfl fun a w F hS=>Zb (wp_ret (Zg (Ze (Ze (Zg (Ze ?_))))))
   refine Zq hfr hS rfl rfl rfl (.bool hg)
  rw [Int.toNat_natCast] at hc4
  have hqi:Go.Gm.nth u.orders i=Go.Gm.nth v.orders i:=by simpa using hc4
  refine wp_skip (Zh (Zb ?_))
  refine Za hS (qp r1 (qM rfl rfl qZ)) hB [45,44,3,2] [102,101,0] rfl rfl fun a w F hS=>Zb ?_
  replace hS:=hS.ent (i:=45) (s':=.pv (.int .i64 ((i+1:Nat):Int))) rfl (.int (wrap_succ (by omega)))
  obtain ⟨F,hS⟩:=hS.nm [45,44,3,2] [102,101,0] rfl rfl
  exact ⟨i+1,F,⟨by omega,fun j hj=>by rcases Nat.lt_or_eq_of_le (Nat.le_of_lt_succ hj) with h | h;exact hq j h;rw [h];exact hqi⟩,hS,by omega⟩
 have hO:u.orders=v.orders:=Za0 hOl fun j hj=>hq j (by simp at hc3;omega)
 have hg:true=decide (u=v):=by
   rw [← Zk5,hT,hO]
   simp
 refine wp_exit (Zi (Zi (Zo (Zb (wp_seq ?_)))))
 refine Za hS qB hB [4] [0] rfl rfl fun a w F hS=>Zb (wp_ret ?_)
 refine Zq hfr hS rfl rfl rfl (.bool hg)
def Zr4 (l:List TxD):Prop:=l.length≤1000000 ∧ ∀ t ∈ l,t.ops.length≤1000000
def ZqD (l:List OrdD):Prop:=l.length≤1000000 ∧ ∀ t ∈ l,t.txs.length≤1000000
structure DOk (d:ZlF):Prop where
 was:Zr4 d.was
 now:Zr4 d.now
 old:ZqD d.old
 new:ZqD d.new
def Zbl (h:Zj):Prop:=h.txs.length≤12∧h.orders.length≤24∧(∀ j,j<h.txs.length→(Go.Gm.nth h.txs j).ops.length≤24) ∧ ∀ j,j<h.orders.length→(Go.Gm.nth h.orders j).txs.length≤24
instance (h:Zj):Decidable (Zbl h):=by unfold Zbl;exact inferInstance
def Zk6 (d:ZlF):Prop:=Zbl ⟨d.was,d.old⟩∧Zbl ⟨d.now,d.new⟩
instance (d:ZlF):Decidable (Zk6 d):=by unfold Zk6;exact inferInstance
theorem Zq1 {α:Type} [Inhabited α] {q:List α} {x:α} (h:x ∈ q):∃ j,j<q.length∧Go.Gm.nth q j=x:=by
 obtain ⟨j,hj,e⟩:=List.getElem_of_mem h
 exact ⟨j,hj,by rw [Zp hj];exact e⟩
theorem Zk6.ok {d:ZlF} (h:Zk6 d):DOk d:=by
 obtain ⟨⟨h1,h2,h3,h4⟩,h5,h6,h7,h8⟩:=h
 dsimp only at h1 h2 h3 h4 h5 h6 h7 h8
 refine ⟨⟨by omega,fun t ht=>?_⟩,⟨by omega,fun t ht=>?_⟩,⟨by omega,fun t ht=>?_⟩,⟨by omega,fun t ht=>?_⟩⟩ <;> obtain ⟨j,hj,rfl⟩:=Zq1 ht
 · have:=h3 j hj;omega
 · have:=h7 j hj;omega
 · have:=h4 j hj;omega
 · have:=h8 j hj;omega
theorem ZkO (u:Zj):FnP Tryz.prog 6 [.agg (Zn u)] (.bool (decide (Zbl u))):=by
 refine FnP.mk Tryz.func6 rfl Tryz.ntmps6 rfl ?_
 intro B a w F hB hfr hS
 obtain ⟨hxl,hyl⟩:=Sat.lenHist hS (i:=0) rfl
 refine wp_seq ?_
 refine Zc hS (qx 101 r1 qB) hB [2,1] [101,0] (fun _=>rfl) (fun _=>rfl) fun τ a w F hS=>?_
 try dsimp only [RS.sub,SF.sub,CF.sub,csub,Anc.sub,List.map,zCF] at hS
 generalize τ 1=v1 at hS
 refine Zb (wp_seq (wp_seq ?_))
 refine Za hS (qg 0 101 r1 r1 (qa 101 r1 r1 (qu Tryz.underlying22 r1 (qf (ZaR .t qi) r1 qz (qM rfl rfl (qv 1 101 rfl r2 r1 (qw 101 rfl r2 r1 (qk rfl (fun h=>ZaM Tryz.underlying23 (.w h)) r2 qz (qk rfl (fun h=>ZaR (.w h) qi) r2 qz (qf (Zao .t .t) r2 qz qZ)))))))))) hB [16,2,1] [101,0] rfl rfl fun a w F hS=>Zb ?_
 refine Zd hS rfl (fun hc0=>?_) (fun hc0=>?_)
 ·skip
  have hg:false=decide (Zbl u):=by
    rw [eq_comm,decide_eq_false_iff_not]
    rintro ⟨g1,g2,g3,g4⟩
    simp at hc0;omega
  refine wp_seq ?_
  refine Za hS qB hB [2,1] [101,0] rfl rfl fun a w F hS=>Zb (wp_ret (Ze ?_))
  refine Zq hfr hS rfl rfl rfl (.bool hg)
 have hb:u.txs.length≤12∧u.orders.length≤24:=by simp at hc0;omega
 refine wp_skip (Zb (wp_seq (wp_seq ?_)))
 refine Za hS (qg 0 101 r1 r1 (qa 101 r1 r1 (qu Tryz.underlying22 r1 (qJ qZ)))) hB [20,19,18,2,1] [101,0] rfl rfl fun a w F hS=>Zb (wp_block ?_)
 obtain ⟨F,hS⟩:=hS.nm [20,19,18,1] [101,0] rfl rfl
 refine ZG (σ:=Nat) (fun s=>(⟨[(1,.pv (.is v1)),(18,.pv (.sl rTx u.txs)),(19,.pv (.int .i64 u.txs.length)),(20,.pv (.int .i64 s))],[(0,frame B),(101,.pt (.val v1) 25 [.pv (.sl rTx u.txs),.pv (.sl Zx u.orders)])]⟩:En)) (fun s=>s≤u.txs.length ∧ ∀ j,j<s→(Go.Gm.nth u.txs j).ops.length≤24) (fun s=>u.txs.length - s) 0 hS ⟨Nat.zero_le _,fun j hj=>absurd hj (Nat.not_lt_zero j)⟩ ?_
 clear hS;intro i a w F hC hS
 try dsimp only at hC
 try dsimp only at hS
 obtain ⟨hi,hq⟩:=hC
 refine wp_seq ?_
 refine Za hS (qL r2) hB [21,20,19,18,1] [101,0] rfl rfl fun a w F hS=>Zb (wp_seq ?_)
 refine Zd hS rfl (fun hc1=>?_) (fun hc1=>?_)
 ·skip
  have hil:i<u.txs.length:=by simp at hc1;omega
  refine wp_skip (Zb (wp_seq (wp_block (wp_seq ?_))))
  refine Zc hS (qy 3 Tryz.underlying22 r2 (qf (oR true 3 .t) r1 qz (qf (oH [.int .i64 0,.bool false,.slice none 0 0] 102) trivial qz (qS 3 102 r2 r1 qZ)))) hB [20,19,18,4,1] [102,101,0] (fun _=>rfl) (fun _=>rfl) fun τ a w F hS=>?_
  try dsimp only [RS.sub,SF.sub,CF.sub,csub,Anc.sub,List.map,Zf,xL,xM,Nat.reduceAdd,xD,xE,xT,xU,xC,xN,zCF,ldSF] at hS
  generalize τ 4=v4 at hS
  refine Zb (wp_seq ?_)
  refine Za hS (qg 2 102 r1 r1 (qa 102 r1 r1 (qu Tryz.underlying36 r1 (qf (ZaR .t qi) r1 qz qZ)))) hB [27,20,19,18,1] [101,0] rfl rfl fun a w F hS=>Zb ?_
  refine Zd hS rfl (fun hc2=>?_) (fun hc2=>?_)
  ·skip
   have hg:false=decide (Zbl u):=by
     rw [eq_comm,decide_eq_false_iff_not]
     rintro ⟨g1,g2,g3,g4⟩
     have:=g3 i hil;rw [Int.toNat_natCast] at hc2;simp at hc2;omega
   refine wp_seq ?_
   refine Za hS qB hB [20,19,18,2,1] [101,0] rfl rfl fun a w F hS=>Zb (wp_ret (Zg (Ze (Ze (Zg (Ze ?_))))))
   refine Zq hfr hS rfl rfl rfl (.bool hg)
  have hqi:(Go.Gm.nth u.txs i).ops.length≤24:=by rw [Int.toNat_natCast] at hc2;simp at hc2;omega
  refine wp_skip (Zh (Zb ?_))
  refine Za hS (qp r1 (qM rfl rfl qZ)) hB [20,19,18,1] [101,0] rfl rfl fun a w F hS=>Zb ?_
  replace hS:=hS.ent (i:=20) (s':=.pv (.int .i64 ((i+1:Nat):Int))) rfl (.int (wrap_succ (by omega)))
  obtain ⟨F,hS⟩:=hS.nm [20,19,18,1] [101,0] rfl rfl
  exact ⟨i+1,F,⟨by omega,fun j hj=>by rcases Nat.lt_or_eq_of_le (Nat.le_of_lt_succ hj) with h | h;exact hq j h;rw [h];exact hqi⟩,hS,by omega⟩
 have hT:∀ j,j<u.txs.length→(Go.Gm.nth u.txs j).ops.length≤24:=fun j hj=>hq j (by simp at hc1;omega)
 clear hq hi
 refine wp_exit (Zi (Zi (Zo (Zb (wp_seq (wp_seq ?_))))))
 refine Za hS (qg 1 101 r1 r1 (qa 101 r1 r1 (qu Tryz.underlying23 r1 (qJ qZ)))) hB [32,31,30] [0] rfl rfl fun a w F hS=>Zb (wp_block ?_)
 obtain ⟨F,hS⟩:=hS.nm [32,31,30] [0] rfl rfl
 refine ZG (σ:=Nat) (fun s=>(⟨[(30,.pv (.sl Zx u.orders)),(31,.pv (.int .i64 u.orders.length)),(32,.pv (.int .i64 s))],[(0,frame B)]⟩:En)) (fun s=>s≤u.orders.length ∧ ∀ j,j<s→(Go.Gm.nth u.orders j).txs.length≤24) (fun s=>u.orders.length - s) 0 hS ⟨Nat.zero_le _,fun j hj=>absurd hj (Nat.not_lt_zero j)⟩ ?_
 clear hS;intro i a w F hC hS
 try dsimp only at hC
 try dsimp only at hS
 obtain ⟨hi,hq⟩:=hC
 refine wp_seq ?_
 refine Za hS (qL r2) hB [33,32,31,30] [0] rfl rfl fun a w F hS=>Zb (wp_seq ?_)
 refine Zd hS rfl (fun hc3=>?_) (fun hc3=>?_)
 ·skip
  have hil:i<u.orders.length:=by simp at hc3;omega
  refine wp_skip (Zb (wp_seq (wp_block (wp_seq ?_))))
  refine Zc hS (qy 2 Tryz.underlying23 r2 (qf (oR true 2 .t) r1 qz (qf (oH [.int .i64 0,.slice none 0 0] 103) trivial qz (qS 2 103 r2 r1 qZ)))) hB [32,31,30,6] [103,0] (fun _=>rfl) (fun _=>rfl) fun τ a w F hS=>?_
  try dsimp only [RS.sub,SF.sub,CF.sub,csub,Anc.sub,List.map,Zf,xL,xM,Nat.reduceAdd,xD,xE,xT,xU,xC,xN,zCF,ldSF] at hS
  generalize τ 6=v6 at hS
  refine Zb (wp_seq ?_)
  refine Za hS (qg 1 103 r1 r1 (qa 103 r1 r1 (qu Tryz.underlying39 r1 (qf (ZaR .t qi) r1 qz qZ)))) hB [39,32,31,30] [0] rfl rfl fun a w F hS=>Zb ?_
  refine Zd hS rfl (fun hc4=>?_) (fun hc4=>?_)
  ·skip
   have hg:false=decide (Zbl u):=by
     rw [eq_comm,decide_eq_false_iff_not]
     rintro ⟨g1,g2,g3,g4⟩
     have:=g4 i hil;rw [Int.toNat_natCast] at hc4;simp at hc4;omega
   refine wp_seq ?_
   refine Za hS qB hB [32,31,30,2] [0] rfl rfl fun a w F hS=>Zb (wp_ret (Zg (Ze (Ze (Zg (Ze ?_))))))
   refine Zq hfr hS rfl rfl rfl (.bool hg)
  have hqi:(Go.Gm.nth u.orders i).txs.length≤24:=by rw [Int.toNat_natCast] at hc4;simp at hc4;omega
  refine wp_skip (Zh (Zb ?_))
  refine Za hS (qp r1 (qM rfl rfl qZ)) hB [32,31,30] [0] rfl rfl fun a w F hS=>Zb ?_
  replace hS:=hS.ent (i:=32) (s':=.pv (.int .i64 ((i+1:Nat):Int))) rfl (.int (wrap_succ (by omega)))
  obtain ⟨F,hS⟩:=hS.nm [32,31,30] [0] rfl rfl
  exact ⟨i+1,F,⟨by omega,fun j hj=>by rcases Nat.lt_or_eq_of_le (Nat.le_of_lt_succ hj) with h | h;exact hq j h;rw [h];exact hqi⟩,hS,by omega⟩
 have hO:∀ j,j<u.orders.length→(Go.Gm.nth u.orders j).txs.length≤24:=fun j hj=>hq j (by simp at hc3;omega)
 have hg:true=decide (Zbl u):=by rw [eq_comm,decide_eq_true_eq];exact ⟨hb.1,hb.2,hT,hO⟩
 refine wp_exit (Zi (Zi (Zo (Zb (wp_seq ?_)))))
 refine Za hS qB hB [2] [0] rfl rfl fun a w F hS=>Zb (wp_ret ?_)
 refine Zq hfr hS rfl rfl rfl (.bool hg)
instance (h:Zj):Decidable (Zbl h):=by unfold Zbl;exact inferInstance
theorem Zbl.small {h:Zj} (hl:Zbl h):Zbo h:=by
 obtain ⟨h1,h2,h3,h4⟩:=hl
 refine ⟨⟨by omega,fun t ht=>?_⟩,by omega,fun o ho=>?_⟩
 · obtain ⟨j,hj,e⟩:=List.getElem_of_mem ht
   have:=h3 j hj
   rw [Zp hj,e] at this;omega
 · obtain ⟨j,hj,e⟩:=List.getElem_of_mem ho
   have:=h4 j hj
   rw [Zp hj,e] at this;omega
section
set_option linter.unusedSectionVars false
variable {α:Type} {κ:α→Int} {t x:α} {l out r:List α} {d:Bool}
def ZbX (κ:α→Int) (t:α):List α→Bool→List α
 | [],d=>if d=true then [] else [t]
 | x :: l,d=>(if d=false∧κ t≤κ x then [t] else [])++(if κ x=κ t then [] else [x])++ZbX κ t l (d || decide (κ t≤κ x))
theorem ZbC:∀ l:List α,ZbX κ t l true=l.filter fun x=>!decide (κ x=κ t)
 | []=>rfl
 | x :: l=>by
   rw [ZbX,if_neg (by simp),List.nil_append,Bool.true_or,ZbC l]
   split
   · rename_i h;rw [List.filter_cons_of_neg (by simpa using h)];rfl
   · rename_i h;rw [List.filter_cons_of_pos (by simpa using h)];rfl
theorem Zdx {k:Int} (h:∀ x ∈ l,k<κ x):(l.filter fun x=>!decide (κ x=k))=l:=by
 rw [List.filter_eq_self]
 intro x hx
 have:=h x hx
 simp;omega
theorem Zgp {k:Int} : lowK κ k (x :: l)=if κ x<k then lowK κ k l+1 else 0:=by
 unfold lowK
 split
 · rename_i h1;rw [List.takeWhile_cons_of_pos (by simpa using h1),List.length_cons]
 · rename_i h1;rw [List.takeWhile_cons_of_neg (by simpa using h1)];rfl
theorem Zbg {k:Int} : isK κ k (x :: l)=(decide (κ x=k) || isK κ k l):=by unfold isK;rw [List.any_cons]
theorem Zlf {k:Int} (h:∀ x ∈ l,k<κ x):isK κ k l=false:=by
 unfold isK
 rw [List.any_eq_false]
 intro x hx
 have:=h x hx
 simp;omega
theorem Zi4 (hs:l.Pairwise fun a b=>κ a<κ b) (hk:isK κ (κ t) l=false):ZbX κ t l false=l.take (lowK κ (κ t) l) ++ [t] ++ l.drop (lowK κ (κ t) l):=by
 induction l with
 | nil=>rfl
 | cons x l ih=>
   rw [List.pairwise_cons] at hs
   rw [Zbg,Bool.or_eq_false_iff,decide_eq_false_iff_not] at hk
   rw [ZbX,if_neg hk.1,Zgp]
   by_cases h:κ x<κ t
   · rw [if_neg (by omega),if_pos h,show (false || decide (κ t≤κ x))=false by simp;omega,ih hs.2 hk.2];simp
   · rw [if_pos ⟨rfl,by omega⟩,if_neg h,show (false || decide (κ t≤κ x))=true by simp;omega,ZbC,Zdx fun y hy=>by have:=hs.1 y hy;omega];simp
theorem Zjn (hs:l.Pairwise fun a b=>κ a<κ b) (hk:isK κ (κ t) l=true):ZbX κ t l false=l.set (lowK κ (κ t) l) t:=by
 induction l with
 | nil=>simp [isK] at hk
 | cons x l ih=>
   rw [List.pairwise_cons] at hs
   rw [ZbX,Zgp]
   by_cases h:κ x<κ t
   · rw [Zbg,decide_eq_false (by omega),Bool.false_or] at hk
     rw [if_neg (by omega),if_neg (by omega),if_pos h,show (false || decide (κ t≤κ x))=false by simp;omega,ih hs.2 hk];rfl
   · rw [if_pos ⟨rfl,by omega⟩,if_neg h,show (false || decide (κ t≤κ x))=true by simp;omega,ZbC,Zdx fun y hy=>by have:=hs.1 y hy;omega]
     have hx:κ x=κ t:=by
       refine Decidable.byContradiction fun h9=>?_
       rw [Zbg,decide_eq_false h9,Bool.false_or,Zlf fun y hy=>by have:=hs.1 y hy;omega] at hk
       cases hk
     rw [if_pos hx];rfl
theorem Zhd {k:Int} (hs:l.Pairwise fun a b=>κ a<κ b) (hk:isK κ k l=true):(l.filter fun x=>!decide (κ x=k))=l.take (lowK κ k l)++l.drop (lowK κ k l+1):=by
 induction l with
 | nil=>simp [isK] at hk
 | cons x l ih=>
   rw [List.pairwise_cons] at hs
   rw [Zgp]
   by_cases h:κ x<k
   · rw [Zbg,decide_eq_false (by omega),Bool.false_or] at hk
     rw [List.filter_cons_of_pos (by simp;omega),if_pos h,ih hs.2 hk];rfl
   · have hx:κ x=k:=by
       refine Decidable.byContradiction fun h9=>?_
       rw [Zbg,decide_eq_false h9,Bool.false_or,Zlf fun y hy=>by have:=hs.1 y hy;omega] at hk
       cases hk
     rw [List.filter_cons_of_neg (by simpa using hx),if_neg h,Zdx fun y hy=>by have:=hs.1 y hy;omega];simp
theorem ZfX {y:α} (h:y ∈ ZbX κ t l d):(y=t∧d=false)∨(y ∈ l∧κ y≠κ t):=by
 induction l generalizing d with
 | nil=>cases d <;> simp [ZbX] at h;exact .inl ⟨h,rfl⟩
 | cons x l ih=>
   rw [ZbX,List.mem_append,List.mem_append] at h
   rcases h with (h | h) | h
   · split at h
     · rename_i h1;exact .inl ⟨by simpa using h,h1.1⟩
     · cases h
   · split at h
     · cases h
     · rename_i h1
       have e:y=x:=by simpa using h
       subst e
       exact .inr ⟨by simp,h1⟩
   · rcases ih h with ⟨h1,h2⟩ | ⟨h1,h2⟩
     · rw [Bool.or_eq_false_iff] at h2;exact .inl ⟨h1,h2.1⟩
     · exact .inr ⟨by simp [h1],h2⟩
theorem ZeM (hs:l.Pairwise fun a b=>κ a<κ b):(ZbX κ t l d).Pairwise fun a b=>κ a<κ b:=by
 induction l generalizing d with
 | nil=>cases d <;> simp [ZbX]
 | cons x l ih=>
   rw [List.pairwise_cons] at hs
   have hf:=hs.2.filter fun x=>!decide (κ x=κ t)
   rw [ZbX]
   by_cases hA:d=false∧κ t≤κ x
   · rw [if_pos hA,show (d || decide (κ t≤κ x))=true by simp [hA.2],ZbC]
     have h1:∀ y ∈ l.filter (fun x=>!decide (κ x=κ t)),κ x<κ y:=fun y hy=>hs.1 y (List.mem_filter.1 hy).1
     split
     · rw [List.append_nil,List.singleton_append,List.pairwise_cons]
       exact ⟨fun y hy=>by have:=h1 y hy;omega,hf⟩
     · rename_i h2
       rw [List.append_assoc,List.singleton_append,List.singleton_append,List.pairwise_cons,List.pairwise_cons]
       refine ⟨fun y hy=>?_,h1,hf⟩
       rcases List.mem_cons.1 hy with rfl | hy
       · omega
       · have:=h1 y hy;omega
   · rw [if_neg hA,List.nil_append]
     have ih2:=ih (d:=d || decide (κ t≤κ x)) hs.2
     split
     · simpa using ih2
     · rename_i h2
       rw [List.singleton_append,List.pairwise_cons]
       refine ⟨fun y hy=>?_,ih2⟩
       rcases ZfX hy with ⟨rfl,h3⟩ | ⟨h3,_⟩
       · rw [Bool.or_eq_false_iff] at h3
         have:=of_decide_eq_false h3.2
         omega
       · exact hs.1 y h3
end
def getO (os:List OrdD) (k:Int):List Int:=((os.find? fun o=>decide (o.key=k)).map OrdD.txs).getD []
theorem ZW {o:OrdD} {os:List OrdD} {k:Int} : getO (o :: os) k=if o.key=k then o.txs else getO os k:=by
 unfold getO
 rw [List.find?_cons]
 by_cases h:o.key=k <;> simp [h]
theorem ZcZ {os:List OrdD} {k:Int} (h:∀ o ∈ os,o.key≠k):getO os k = []:=by
 unfold getO
 rw [List.find?_eq_none.2 fun o ho=>by simpa using h o ho];rfl
theorem Zbi {os:List OrdD} {o:OrdD} (hs:os.Pairwise fun a b=>a.key<b.key) (h:o ∈ os):getO os o.key=o.txs:=by
 induction os with
 | nil=>cases h
 | cons x os ih=>
   rw [List.pairwise_cons] at hs
   rw [ZW]
   rcases List.mem_cons.1 h with rfl | h
   · rw [if_pos rfl]
   · have:=hs.1 o h
     rw [if_neg (by omega),ih hs.2 h]
theorem Zgq {os:List OrdD} {k:Int} (h:getO os k≠[]):(⟨k,getO os k⟩:OrdD) ∈ os:=by
 induction os with
 | nil=>exact absurd rfl h
 | cons x os ih=>
   rw [ZW] at h ⊢
   by_cases e:x.key=k
   · rw [if_pos e];subst e;simp
   · rw [if_neg e] at h ⊢;simp [ih h]
def NE (os:List OrdD):Prop:=∀ o ∈ os,o.txs≠[]
theorem Zob:∀ {a b:List OrdD},(a.Pairwise fun x y=>x.key<y.key)→(b.Pairwise fun x y=>x.key<y.key)→(∀ o,o ∈ a ↔ o ∈ b)→a=b
 | [],[],_,_,_=>rfl
 | [],y :: b,_,_,h=>by have:=(h y).2 (by simp);cases this
 | x :: a,[],_,_,h=>by have:=(h x).1 (by simp);cases this
 | x :: a,y :: b,ha,hb,h=>by
   rw [List.pairwise_cons] at ha hb
   have e:x=y:=by
     rcases List.mem_cons.1 ((h x).1 (by simp)) with e | h1
     · exact e
     · rcases List.mem_cons.1 ((h y).2 (by simp)) with e | h2
       · exact e.symm
       · have:=ha.1 y h2;have:=hb.1 x h1;omega
   subst e
   rw [Zob (a:=a) (b:=b) ha.2 hb.2 fun o=>?_]
   constructor
   · intro ho
     rcases List.mem_cons.1 ((h o).1 (by simp [ho])) with e | h1
     · have:=ha.1 o ho;rw [e] at this;omega
     · exact h1
   · intro ho
     rcases List.mem_cons.1 ((h o).2 (by simp [ho])) with e | h1
     · have:=hb.1 o ho;rw [e] at this;omega
     · exact h1
theorem ZrK {a b:List OrdD} (ha:a.Pairwise fun x y=>x.key<y.key) (hb:b.Pairwise fun x y=>x.key<y.key) (na:NE a) (nb:NE b) (h:∀ k,getO a k=getO b k):a=b:=by
 refine Zob ha hb fun o=>⟨fun ho=>?_,fun ho=>?_⟩
 · have h1:=Zbi ha ho
   have h2:getO b o.key≠[]:=by rw [← h,h1];exact na o ho
   have h3:=Zgq h2
   rw [← h,h1] at h3;exact h3
 · have h1:=Zbi hb ho
   have h2:getO a o.key≠[]:=by rw [h,h1];exact nb o ho
   have h3:=Zgq h2
   rw [h,h1] at h3;exact h3
def Zfg (t:TxD) (l:List Int) (k:Int):List Int:=if t.done=true∧0<wcnt t.ops k then withO l t.id else withoutO l t.id
theorem Zka {os:List OrdD} (hs:os.Pairwise fun a b=>a.key<b.key) (k:Int):getO (os.filter fun o=>!decide (o.txs = [])) k=getO os k:=by
 induction os with
 | nil=>rfl
 | cons x os ih=>
   rw [List.pairwise_cons] at hs
   rw [ZW]
   by_cases e:x.txs = []
   · rw [List.filter_cons_of_neg (by simpa using e),ih hs.2]
     split
     · rename_i hk
       rw [e,ZcZ fun o ho=>by have:=hs.1 o ho;omega]
     · rfl
   · rw [List.filter_cons_of_pos (by simpa using e),ZW,ih hs.2]
theorem ZpC {t:TxD} {os:List OrdD} {k:Int} : getO (os.map (ZjN t)) k=if isK OrdD.key k os=true then Zfg t (getO os k) k else []:=by
 induction os with
 | nil=>simp [getO,isK]
 | cons x os ih=>
   rw [List.map_cons,ZW,ZW,Zbg,ih]
   by_cases e:x.key=k
   · subst e
     rw [if_pos (show (ZjN t x).key=x.key from rfl),if_pos rfl]
     simp [ZjN,Zfg]
   · rw [if_neg (show ¬ (ZjN t x).key=k from e),if_neg e,decide_eq_false e,Bool.false_or]
theorem ZiF {k' k:Int} : ∀ {os:List OrdD},(os.Pairwise fun a b=>a.key<b.key)→getO (ZjE k' os) k=getO os k
 | [],_=>by unfold ZjE;rw [ZW];split <;> rfl
 | x :: os,h=>by
   rw [List.pairwise_cons] at h
   unfold ZjE
   split
   · rw [ZW,ZW,ZiF h.2]
   · split
     · rfl
     · rw [ZW]
       split
       · rename_i h1 h2 h3
         have h3:k' = k:=h3
         subst h3
         refine (ZcZ fun o ho=>?_).symm
         rcases List.mem_cons.1 ho with rfl | ho
         · exact h2
         · have:=h.1 o ho;omega
       · rfl
theorem ZlB {k' k:Int} : ∀ {os:List OrdD},isK OrdD.key k (ZjE k' os)=(isK OrdD.key k os || decide (k' = k))
 | []=>by simp [ZjE,isK]
 | x :: os=>by
   unfold ZjE
   split
   · rw [Zbg,Zbg,ZlB,Bool.or_assoc]
   · split
     · rename_i h2
       rw [Zbg]
       by_cases e:k' = k
       · simp [h2,e]
       · simp [e]
     · rw [Zbg,Bool.or_comm]
theorem Zlg:∀ (ks:List Int) {os:List OrdD} (k:Int),Zb0 OrdD.key os→getO (ks.foldl Zfb os) k=getO os k∧isK OrdD.key k (ks.foldl Zfb os)=(isK OrdD.key k os || decide (k ∈ ks))
 | [],os,k,_=>by simp
 | k' :: ks,os,k,h=>by
   obtain ⟨h1,h2⟩:=Zlg ks k (insK_rise k' h)
   rw [List.foldl_cons,h1,h2,ZhM k' h,ZiF (Zv.1 h),ZlB]
   refine ⟨rfl,?_⟩
   rw [Bool.or_assoc]
   congr 1
   rw [Bool.eq_iff_iff]
   simp only [Bool.or_eq_true,decide_eq_true_eq,List.mem_cons]
   exact ⟨fun h=>h.elim (fun h=>.inl h.symm) .inr,fun h=>h.elim (fun h=>.inl h.symm) .inr⟩
theorem ZoO {os:List OrdD} {k:Int} (h:isK OrdD.key k os=false):getO os k = []:=by
 refine ZcZ fun o ho e=>?_
 unfold isK at h
 rw [List.any_eq_false] at h
 exact h o ho (by simpa using e)
theorem ZeA {t:TxD} {os:List OrdD} (h:Zb0 OrdD.key os) (k:Int):getO (settleO t os) k=Zfg t (getO os k) k:=by
 unfold settleO
 have hins:getO (ZdE t os (Z7 t)) k=getO os k∧isK OrdD.key k (ZdE t os (Z7 t))=(isK OrdD.key k os || (t.done && decide (k ∈ Z7 t)))∧Zb0 OrdD.key (ZdE t os (Z7 t)):=by
   unfold ZdE
   split
   · rename_i hd
     obtain ⟨h1,h2⟩:=Zlg (Z7 t) k h
     refine ⟨h1,by rw [h2,hd,Bool.true_and],?_⟩
     have key:∀ (ks:List Int) (os:List OrdD),Zb0 OrdD.key os→Zb0 OrdD.key (ks.foldl Zfb os):=by
       intro ks
       induction ks with
       | nil=>intro os h;exact h
       | cons k ks ih=>intro os h;exact ih _ (insK_rise k h)
     exact key _ _ h
   · rename_i hd
     exact ⟨rfl,by simp [hd],h⟩
 obtain ⟨h1,h2,h3⟩:=hins
 have hm:((ZdE t os (Z7 t)).map (ZjN t)).Pairwise fun a b=>a.key<b.key:=List.pairwise_map.2 ((Zv.1 h3).imp fun h=>h)
 rw [Zka hm,ZpC,h1,h2]
 split
 · rfl
 · rename_i hk
   simp only [Bool.or_eq_true,not_or,Bool.and_eq_true,decide_eq_true_eq] at hk
   have hk1:isK OrdD.key k os=false:=by simpa using hk.1
   rw [ZoO hk1]
   unfold Zfg
   rw [if_neg fun h9=>hk.2 ⟨h9.1,ZcS.2 h9.2⟩];rfl
theorem ZjP {t:TxD} {os:List OrdD} (h:Zb0 OrdD.key os) (hs:Zcx os):(settleO t os).Pairwise (fun a b=>a.key<b.key)∧NE (settleO t os):=by
 have h3:=(Zg2 (t:=t) h hs (Z7 t)).1
 have hm:((ZdE t os (Z7 t)).map (ZjN t)).Pairwise fun a b=>a.key<b.key:=List.pairwise_map.2 ((Zv.1 h3).imp fun h=>h)
 refine ⟨hm.filter _,fun o ho=>?_⟩
 have:=(List.mem_filter.1 ho).2
 simpa using this
theorem Zlz {o:OrdD} {os:List OrdD} {d:Bool} (hs:os.Pairwise fun a b=>a.key<b.key) (k:Int):getO (ZbX OrdD.key o os d) k=if k=o.key then (if d=true then [] else o.txs) else getO os k:=by
 have hf:∀ os:List OrdD,getO (os.filter fun x=>!decide (x.key=o.key)) k=if k=o.key then [] else getO os k:=by
   intro os
   induction os with
   | nil=>split <;> rfl
   | cons x os ih=>
     by_cases e:x.key=o.key
     · rw [List.filter_cons_of_neg (by simpa using e),ih,ZW]
       split
       · rfl
       · rename_i h;rw [if_neg (by omega)]
     · rw [List.filter_cons_of_pos (by simpa using e),ZW,ZW,ih]
       split
       · rename_i h;rw [if_neg (by omega)]
       · rfl
 cases d with
 | true=>rw [ZbC,hf];simp
 | false=>
   simp only [Bool.false_eq_true,if_false]
   induction os with
   | nil=>
     show getO [o] k=_
     rw [ZW]
     by_cases e:o.key=k
     · rw [if_pos e,if_pos e.symm]
     · rw [if_neg e,if_neg fun h=>e h.symm]
   | cons x os ih=>
     rw [List.pairwise_cons] at hs
     rw [ZbX]
     by_cases hA:o.key≤x.key
     · rw [if_pos ⟨rfl,hA⟩,show (false || decide (o.key≤x.key))=true by simp [hA],ZbC,List.append_assoc,List.singleton_append,ZW]
       by_cases e:o.key=k
       · rw [if_pos e,if_pos e.symm]
       · have e':¬ k=o.key:=fun h=>e h.symm
         rw [if_neg e,if_neg e',ZW]
         by_cases e2:x.key=o.key
         · rw [if_pos e2,List.nil_append,hf,if_neg e',if_neg (show ¬ x.key=k by omega)]
         · rw [if_neg e2,List.singleton_append,ZW,hf,if_neg e']
     · rw [if_neg fun h=>hA h.2,if_neg (by omega),List.nil_append,List.singleton_append,show (false || decide (o.key≤x.key))=false by simp;omega,ZW,ZW,ih hs.2]
       split
       · rename_i h;rw [if_neg (by omega)]
       · rfl
theorem ZrO {os:List OrdD} {k:Int} {i:Nat} (hi:i<os.length) (h:(Go.Gm.nth os i).key=k) (hq:∀ q,q<i→(Go.Gm.nth os q).key≠k):getO os k=(Go.Gm.nth os i).txs:=by
 unfold getO
 rw [List.find?_eq_some_iff_getElem.2 ⟨by simpa using h,i,hi,(Zp hi).symm,fun j hj=>by have:=hq j hj;rw [Zp (by omega)] at this;simpa using this⟩];rfl
theorem Zri {os:List OrdD} {k:Int} (hq:∀ q,q<os.length→(Go.Gm.nth os q).key≠k):getO os k = []:=ZcZ fun o ho=>by
 obtain ⟨j,hj,e⟩:=List.getElem_of_mem ho
 have:=hq j hj
 rwa [Zp hj,e] at this
theorem Zpw {os:List OrdD} (h:Zcx os) (k:Int):(getO os k).length≤1000:=by
 by_cases e:getO os k = []
 · rw [e];simp
 · exact h.2 _ (Zgq e)
theorem Zkn {l:List TxD} {id:Int} : (ZN l id).isSome=isK TxD.id id l:=by
 unfold ZN isK
 rw [Bool.eq_iff_iff,List.find?_isSome,List.any_eq_true]
theorem Zda {g:Zj} (h:Zy g):NE g.orders:=fun o ho=>by
 have h2:=(Zdk g).2 h.2.2
 obtain ⟨j,hj,e⟩:=List.getElem_of_mem ho
 have:=(h2.2 j hj).2.1
 rwa [Zp hj,e] at this
theorem ZsK {g:Zj} {t:TxD} {there:Int} {wanted:Bool} (h:¬ Zy g):mayH g t there wanted=(0,5):=if_pos h
theorem Zsc {g:Zj} {t:TxD} {there:Int} {wanted:Bool} (h:Zy g) (h2:Z1 t=0) (h3:isK TxD.id t.id g.txs=wanted) (h4:Zbt g t=true):mayH g t there wanted=(((lowK TxD.id t.id g.txs:Nat):Int),0):=by unfold mayH;rw [if_neg (Decidable.not_not.2 h),if_neg (Decidable.not_not.2 h2),if_neg (Decidable.not_not.2 h3),if_neg (by simp [h4])]
theorem Zoi {os:List OrdD} {k:Int} (hr:Zb0 OrdD.key os) (h:isK OrdD.key k os=true):getO os k=(Go.Gm.nth os (lowK OrdD.key k os)).txs:=by
 obtain ⟨h1,h2⟩:=ZdS hr h
 have:=Zbi (Zv.1 hr) (ZB h1)
 rwa [h2] at this
theorem ZoJ {os:List OrdD} {k:Int} (hr:Zb0 OrdD.key os) (hn:NE os):getO os k = [] ↔ isK OrdD.key k os=false:=by
 constructor
 · intro h
   cases hk:isK OrdD.key k os with
   | false=>rfl
   | true=>
     rw [Zoi hr hk] at h
     exact absurd h (hn _ (ZB (ZdS hr hk).1))
 · exact ZoO
theorem Zm1 {g:Zj} {key:Int} {rule:List Int→List Int×Int} (h:¬ Zy g):Z8 g key rule=(zeroH,5):=if_pos h
theorem Zr7 {g:Zj} {key:Int} {rule:List Int→List Int×Int} (h:Zy g) (h2:getO g.orders key = []):Z8 g key rule=(zeroH,3):=by
 unfold Z8
 rw [if_neg (Decidable.not_not.2 h),if_pos ((ZoJ (Zs h).2 (Zda h)).1 h2)]
theorem Zot {g:Zj} {key:Int} (h:Zy g) (h2:getO g.orders key≠[]):isK OrdD.key key g.orders=true:=by
 cases hk:isK OrdD.key key g.orders with
 | true=>rfl
 | false=>exact absurd ((ZoJ (Zs h).2 (Zda h)).2 hk) h2
theorem Zsq {g:Zj} {key:Int} {rule:List Int→List Int×Int} (h:Zy g) (h2:getO g.orders key≠[]) (h3:(rule (getO g.orders key)).2≠0):Z8 g key rule=(zeroH,(rule (getO g.orders key)).2):=by
 have hk:=Zot h h2
 have hg:=Zoi (Zs h).2 hk
 unfold Z8
 rw [if_neg (Decidable.not_not.2 h),if_neg (by simp [hk]),← hg,if_pos h3]
theorem Zqn {g:Zj} {key:Int} {rule:List Int→List Int×Int} (h:Zy g) (h2:getO g.orders key≠[]) (h3:(rule (getO g.orders key)).2=0) (h4:(rule (getO g.orders key)).1≠[]):Z8 g key rule=(⟨g.txs,ZbX OrdD.key ⟨key,(rule (getO g.orders key)).1⟩ g.orders (decide ((rule (getO g.orders key)).1 = []))⟩,0):=by
 have hk:=Zot h h2
 have hr:=(Zs h).2
 have hg:=Zoi hr hk
 unfold Z8
 rw [if_neg (Decidable.not_not.2 h),if_neg (by simp [hk]),← hg,if_neg (by simp [h3]),decide_eq_false h4,Zjn (κ:=OrdD.key) (t:=⟨key,(rule (getO g.orders key)).1⟩) (Zv.1 hr) hk,(ZdS hr hk).2]
theorem Zi3 {l:List Int} {id place:Int} (h:(Zal l id place).2=0):(Zal l id place).1.Perm l:=by
 have h9:=h
 unfold Zal at h9
 split at h9
 · simp at h9
 · rename_i h1
   split at h9
   · simp at h9
   · rename_i h2
     refine Zdj ?_ (Decidable.not_not.1 h2)
     refine Decidable.byContradiction fun hm=>h1 ?_
     rw [ZhK hm];decide
structure EdD where
 kind:Int
 t:TxD
 o:OrdD
 place:Int
 deriving DecidableEq,Inhabited
def doH (g:Zj) (e:EdD):Zj×Int:=if e.kind=0 then Zaz g e.t else if e.kind=1 then Zam g e.t.id else if e.kind=2 then Za9 g e.t else if e.kind=3 then Zdo g e.o else if e.kind=4 then ZmE g e.o.key e.t.id e.place else (zeroH,5)
def ZeY (e:EdD):Prop:=e.t.ops.length≤24∧e.o.txs.length≤24
instance (e:EdD):Decidable (ZeY e):=by unfold ZeY;exact inferInstance
def Zqz (l:List EdD):Prop:=l.length≤24 ∧ ∀ e ∈ l,ZeY e
instance (l:List EdD):Decidable (Zqz l):=by unfold Zqz;exact inferInstance
def Zh4 (g:Zj) (e:EdD):Zj:=if (doH g e).2=0 then (doH g e).1 else g
theorem Zhb {os:List OrdD} {k:Int} : (Z3 (fun o:OrdD=>decide (o.key=k)) os<0→getO os k = [])∧(¬ Z3 (fun o:OrdD=>decide (o.key=k)) os<0 → ∃ i:Nat,Z3 (fun o:OrdD=>decide (o.key=k)) os=i∧i<os.length∧getO os k=(Go.Gm.nth os i).txs):=by
 rcases Zaq (fun o:OrdD=>decide (o.key=k)) os with ⟨h1,h2⟩ | ⟨i,h1,h2,h3,h4⟩
 · exact ⟨fun _=>Zri fun q hq=>by simpa using h2 q hq,fun h=>absurd (by rw [h1];decide) h⟩
 · exact ⟨fun h=>by rw [h1] at h;omega,fun _=>⟨i,h1,h2,ZrO h2 (by simpa using h3) fun q hq=>by simpa using h4 q hq⟩⟩
def Fit (n:Nat) (g:Zj):Prop:=(g.txs.length≤n ∧ ∀ t ∈ g.txs,t.ops.length≤24)∧g.orders.length≤24*n ∧ ∀ o ∈ g.orders,o.txs.length≤n
theorem Fit.small {n:Nat} {g:Zj} (h:Fit n g) (hn:n≤30):Zbo g:=by
 obtain ⟨⟨h1,h2⟩,h3,h4⟩:=h
 exact ⟨⟨by omega,fun t ht=>by have:=h2 t ht;omega⟩,by omega,fun o ho=>by have:=h4 o ho;omega⟩
theorem Fit.zero:Fit 0 zeroH:=⟨⟨by simp [zeroH],fun t ht=>by cases ht⟩,by simp [zeroH],fun o ho=>by cases ho⟩
theorem Fit.up {n:Nat} {g:Zj} (h:Fit n g):Fit (n+1) g:=⟨⟨by have:=h.1.1;omega,h.1.2⟩,by have:=h.2.1;omega,fun o ho=>by have:=h.2.2 o ho;omega⟩
theorem Fit.none {n:Nat} : Fit n zeroH:=by
 induction n with
 | zero=>exact Fit.zero
 | succ n ih=>exact ih.up
theorem Zn1 {os:List OrdD} {ks:List Int} {t:TxD} {o:OrdD} (h:o ∈ ZdE t os ks):o ∈ os∨o.txs = []:=by
 unfold ZdE at h
 split at h
 · have key:∀ (ks:List Int) (os:List OrdD),o ∈ ks.foldl Zfb os→o ∈ os∨o.txs = []:=by
     intro ks
     induction ks with
     | nil=>intro os h;exact .inl h
     | cons k ks ih=>
       intro os h
       rcases ih _ h with h | h
       · rcases Zlt h with h | h
         · exact .inl h
         · exact .inr (by rw [h])
       · exact .inr h
   exact key ks os h
 · exact .inl h
theorem Zl0 {n:Nat} {t:TxD} {os:List OrdD} (ht:t.ops.length≤24) (h1:os.length≤24*n) (h2:∀ o ∈ os,o.txs.length≤n):(settleO t os).length≤24*(n+1) ∧ ∀ o ∈ settleO t os,o.txs.length≤n+1:=by
 have hk:=ZcF t
 have hl:(ZdE t os (Z7 t)).length≤os.length+(Z7 t).length:=by
   unfold ZdE
   split
   · have key:∀ (ks:List Int) (os:List OrdD),(ks.foldl Zfb os).length≤os.length+ks.length:=by
       intro ks
       induction ks with
       | nil=>intro os;simp
       | cons k ks ih=>intro os;have h1:=ih (Zfb os k);have h2:=ZlI os k;rw [List.foldl_cons,List.length_cons];omega
     exact key _ _
   · omega
 unfold settleO
 refine ⟨Nat.le_trans (List.length_filter_le _ _) (by rw [List.length_map];omega),fun o ho=>?_⟩
 obtain ⟨o',ho',e⟩:=List.mem_map.1 (List.mem_filter.1 ho).1
 have hlen:o'.txs.length≤n:=by
   rcases Zn1 ho' with h | h
   · exact h2 o' h
   · rw [h];simp
 rw [← e]
 unfold ZjN
 show (if _ then _ else _:List Int).length≤_
 split
 · unfold withO;split
   · omega
   · simp;omega
 · unfold withoutO
   exact Nat.le_trans (List.length_filter_le _ _) (by omega)
theorem Zg1 {n:Nat} {g:Zj} {key:Int} {rule:List Int→List Int×Int} (hr:∀ l,(rule l).2=0→(rule l).1.length≤l.length) (h:Fit n g):Fit n (Z8 g key rule).1:=by
 unfold Z8
 split
 · exact Fit.none
 · split
   · exact Fit.none
   · split
     · exact Fit.none
     · rename_i h1 h2 h3
       refine ⟨h.1,by show (List.set _ _ _).length≤_;rw [List.length_set];exact h.2.1,fun o ho=>?_⟩
       rcases List.mem_or_eq_of_mem_set ho with h4 | h4
       · exact h.2.2 o h4
       · have hk:isK OrdD.key key g.orders=true:=by simpa using h2
         have hlt:=(ZdS (Zs (Decidable.not_not.1 h1)).2 hk).1
         have:=hr _ (Decidable.not_not.1 h3)
         have:=h.2.2 _ (ZB hlt)
         rw [h4];show (rule _).1.length≤n;omega
theorem Fit.doH {n:Nat} {g:Zj} {e:EdD} (h:Fit n g) (he:ZeY e):Fit (n+1) (doH g e).1:=by
 have hset:∀ t:TxD,t.ops.length≤24 → ∀ txs:List TxD,txs.length≤n+1→(∀ t ∈ txs,t.ops.length≤24)→Fit (n+1) ⟨txs,settleO t g.orders⟩:=fun t ht txs h1 h2=>by
   obtain ⟨h3,h4⟩:=Zl0 ht h.2.1 h.2.2
   exact ⟨⟨h1,h2⟩,h3,h4⟩
 unfold Go.Proofs.YtjhapicamnijnaaGreatDoor.doH
 split
 · unfold Zaz
   split
   · exact Fit.none
   · split
     · exact Fit.none
     · refine hset _ he.1 _ ?_ fun t ht=>?_
       · have:=h.1.1;rw [List.length_append,List.length_append,List.length_take,List.length_drop];simp;omega
       · rw [List.mem_append,List.mem_append] at ht
         rcases ht with (ht | ht) | ht
         · exact h.1.2 t (List.mem_of_mem_take ht)
         · rw [List.mem_singleton.1 ht];exact he.1
         · exact h.1.2 t (List.mem_of_mem_drop ht)
 · split
   · unfold Zam
     split
     · exact Fit.none
     · split
       · exact Fit.none
       · split
         · exact Fit.none
         · refine hset _ (by simp [Zdq]) _ ?_ fun t ht=>?_
           · have:=h.1.1;rw [List.length_append,List.length_take,List.length_drop];omega
           · rw [List.mem_append] at ht
             rcases ht with ht | ht
             · exact h.1.2 t (List.mem_of_mem_take ht)
             · exact h.1.2 t (List.mem_of_mem_drop ht)
   · split
     · unfold Za9
       split
       · exact Fit.none
       · split
         · exact Fit.none
         · refine hset _ he.1 _ ?_ fun t ht=>?_
           · have:=h.1.1;rw [List.length_set];omega
           · rcases List.mem_or_eq_of_mem_set ht with ht | ht
             · exact h.1.2 t ht
             · rw [ht];exact he.1
     · split
       · refine (Zg1 (fun l h0=>?_) h).up
         unfold Ze9 at h0 ⊢
         split at h0
         · rename_i hp;rw [if_pos hp,hp.length_eq];exact Nat.le_refl _
         · simp at h0
       · split
         · exact (Zg1 (fun l h0=>by show (Zal l _ _).1.length≤_;exact Zn2 _ _ _) h).up
         · exact Fit.none
theorem Fit.step {n:Nat} {g:Zj} {e:EdD} (h:Fit n g) (he:ZeY e):Fit (n+1) (Zh4 g e):=by
 unfold Zh4
 split
 · exact h.doH he
 · exact h.up
theorem Fit.play {l:List EdD} (hl:∀ e ∈ l,ZeY e):∀ i,i≤l.length→Fit i ((l.take i).foldl Zh4 zeroH)
 | 0,_=>Fit.zero
 | i+1,hi=>by
   rw [ZE (by omega),List.foldl_append]
   exact (Fit.play hl i (by omega)).step (hl _ (ZB (by omega)))
theorem Zo5 (o:OrdD) (key:Int):FnP Tryz.prog 83 [.agg (Zx o),.ref [.int .i64 key]] (.bool (decide (o.key=key))):=by
 refine FnP.mk Tryz.func83 rfl Tryz.ntmps83 rfl ?_
 intro B a w F hB hfr hS
 refine wp_seq ?_
 refine Zc hS (qx 101 r1 qB) hB [3,2,1] [101,0] (fun _=>rfl) (fun _=>rfl) fun τ a w F hS=>?_
 try dsimp only [RS.sub,SF.sub,CF.sub,csub,Anc.sub,List.map,zCF,Zn,rTx,Zx,ZO,rInt,rOp] at hS
 generalize τ 2=v2 at hS
 refine Zb (wp_seq ?_)
 refine Za hS (qg 0 101 r1 r1 (qa 101 r1 r1 (qf (oR false 1 .t) r1 qz (qf (o_eql .t .t) r2 qz (qN rfl rfl qZ))))) hB [3] [101,0] rfl rfl fun a w F hS=>Zb (wp_ret ?_)
 refine Zq hfr hS rfl rfl rfl .refl
theorem Zqe (g:Zj) (key:Int) (hs:Zcx g.orders):FnP Tryz.prog 43 [.agg (Zn g),.int .i64 key] (.sl rInt (getO g.orders key)):=by
 refine FnP.mk Tryz.func43 rfl Tryz.ntmps43 rfl ?_
 intro B a w F hB hfr hS
 have hso:=hs.1
 refine wp_seq ?_
 refine Zc hS (qx 101 r1 (qf (ZlN 102 .t one_int) r1 qz (qC qZ))) hB [4,3,2] [102,101,0] (fun _=>rfl) (fun _=>rfl) fun τ a w F hS=>?_
 try dsimp only [RS.sub,SF.sub,CF.sub,csub,Anc.sub,List.map,zCF,Zn,rTx,Zx,ZO,rInt,rOp] at hS
 generalize τ 2=v2 at hS
 generalize τ 3=v3 at hS
 refine Zb (wp_seq ?_)
 refine Zb6 2 hS (by kernel_rfl) (cG rfl (oF 1 101 .is) r1 r1 (cG rfl (oL false 1 101 .adr) r1 r1 ZV.nil)) (by kernel_rfl) (by rw [hB];kernel_rfl) fun a w F hS=>?_
 obtain ⟨F,hS⟩:=hS.nm [7,4,3,2] [102,101,0] rfl rfl
 try dsimp only [List.map,xD,xE,xT,xU,ldSF,Zn,rTx,Zx,ZO,rInt,rOp] at hS
 obtain ⟨F,hS⟩:=hS.giveRef 102 3 rfl rfl rfl
 obtain ⟨F,hS⟩:=hS.nm [7,4,3,2] [101,0] rfl rfl
 try dsimp only [Go.Gm.unCF] at hS
 refine ZcC hS (by kernel_rfl) (cG rfl (Zb7 (Args.one .t)) r1 trivial (cG rfl (oP (ZnT g.orders (fun o=>decide (o.key=key)) 83 Tryz.f83 [.ref [.int .i64 key]] Tryz.func83 rfl (by kernel_rfl) (fun o=>Zo5 o key)) Tryz.func82 (Args.two .t .t)) r2 trivial (cG rfl (oN .t) r1 trivial ZV.nil))) (by kernel_rfl) (by rw [hB];kernel_rfl) fun a w F hS=>?_
 obtain ⟨F,hS⟩:=hS.nm [5,4,2] [101,0] rfl rfl
 try dsimp only [Zn,rTx,Zx,ZO,rInt,rOp] at hS
 refine Zb (wp_seq (wp_seq ?_))
 refine Za hS (qM rfl rfl (qf (Zbq .t qi) r1 qz qZ)) hB [11,5,4,2] [101,0] rfl rfl fun a w F hS=>Zb ?_
 refine Zd hS rfl (fun hc0=>?_) (fun hc0=>?_)
 ·skip
  have hg:[] = getO g.orders key:=(Zhb.1 (by simpa using hc0)).symm
  refine wp_seq ?_
  refine Za hS (qC qZ) hB [5,4,2] [101,0] rfl rfl fun a w F hS=>Zb (wp_ret (Ze ?_))
  refine Zq hfr hS rfl rfl rfl (by first | exact .sl hg | (rw [← hg];exact .nilSl))
 obtain ⟨fi,hfi,hfl,hfg⟩:=Zhb.2 (show ¬ Z3 (fun o:OrdD=>decide (o.key=key)) g.orders<0 by simpa using hc0)
 have hg:(Go.Gm.nth g.orders (Z3 (fun o:OrdD=>decide (o.key=key)) g.orders).toNat).txs=getO g.orders key:=by rw [hfi,Int.toNat_natCast,hfg]
 refine wp_skip (Zb (wp_seq ?_))
 refine Za hS (qg 1 101 r1 r1 (qa 101 r1 r1 (qM rfl rfl (qf (o_indexAddr_sl (sz:=2) (.mk Tryz.underlying23 (by kernel_rfl)) (by intro x;rfl) .t .t (by rw [hfi];omega) (by rw [hfi];omega)) r2 qz (qf (oG 1 .t) r1 qz (qf (oR false 1 .t) r1 qz (qf (oP (cloneIP_c _ (by rw [hfi,Int.toNat_natCast];have:=hs.at hfl;omega)) Tryz.func64 (Args.one .t)) r1 qz (qN rfl rfl qZ)))))))) hB [4] [101,0] rfl rfl fun a w F hS=>?_
 try simp only [Int.toNat_natCast] at hS
 refine Zb (wp_ret ?_)
 refine Zq hfr hS rfl rfl rfl (by first | exact .sl hg | (rw [← hg];exact .nilSl))
theorem Sat.aggInt {B:Zbp} {E:En} {a:Act} {w:World} {F:Fp} (h:Sat B E a w F) {i:Nat} {l:List PV} {k:Nat} {x:Int} (hl:Go.Gm.look E.s i=some (SF.pv (PV.agg l))) (hk:l[k]? = some (.int .i64 x)):inR .i64 x:=by
 obtain ⟨vs,_,hv⟩:=h.s i _ hl
 obtain ⟨v,_,h2⟩:=PVs.at hv hk
 exact h2.2
theorem ZlL (k:Int):FnP Tryz.prog 38 [.int .i64 k] (.agg (rWd (ZP k))):=by
 refine FnP.mk Tryz.func38 rfl Tryz.ntmps38 rfl ?_
 intro B a w F hB hfr hS
 refine wp_seq ?_
 refine Zc hS (qf (oH [.string ⟨#[]⟩,.int .i64 0,.int .i64 0] 101) trivial qz qZ) hB [2,0] [101,0] (fun _=>rfl) (fun _=>rfl) fun τ a w F hS=>?_
 try dsimp only [RS.sub,SF.sub,CF.sub,csub,Anc.sub,List.map,zCF] at hS
 generalize τ 2=v2 at hS
 refine Zb (wp_seq (wp_seq ?_))
 refine Za hS (qM rfl rfl qZ) hB [3,2] [101,0] rfl rfl fun a w F hS=>Zb (wp_block (wp_seq ?_))
 refine Za hS (qf (o_eql .t qi) r1 qz (qN rfl rfl qZ)) hB [4,3,2] [101,0] rfl rfl fun a w F hS=>Zb ?_
 refine Zd hS rfl (fun hc0=>?_) (fun hc0=>?_)
 ·skip
  have hk:=of_decide_eq_true hc0
  subst hk
  refine wp_seq ?_
  refine Za hS (qf (oB [(0,_),(1,_),(2,_)] [.string ⟨#[]⟩,.int .i64 0,.int .i64 0] [(0,1),(1,1),(2,1)] (.one rfl (.cs (by kernel_rfl)) one_str (by kernel_rfl) (.one rfl qi one_int (by kernel_rfl) (.one rfl qi one_int (by kernel_rfl) .nil)))) trivial qz (qs 3 101 r2 r1 qZ)) hB [2] [101,0] rfl rfl fun a w F hS=>Zb (wp_ret (Zg (Ze ?_)))
  refine Zt hfr hS rfl (.cl 101 true 3 rfl rfl .nil) (.one (.aggU rfl (by first | rfl | (unfold ZP;rw [if_neg n1,if_neg n2,if_neg n3,if_neg n4,if_neg n5,if_neg n6,if_neg n7,if_neg n8,if_neg n9,if_neg n10,if_neg n11,if_neg n12];rfl))))
 have n1:=of_decide_eq_false hc0
 refine wp_seq ?_
 refine Za hS (qf (o_eql .t qi) r1 qz (qN rfl rfl qZ)) hB [7,3,2] [101,0] rfl rfl fun a w F hS=>Zb ?_
 refine Zd hS rfl (fun hc1=>?_) (fun hc1=>?_)
 ·skip
  have hk:=of_decide_eq_true hc1
  subst hk
  refine wp_seq ?_
  refine Za hS (qf (oB [(0,_),(1,_),(2,_)] [.string ⟨#[]⟩,.int .i64 0,.int .i64 0] [(0,1),(1,1),(2,1)] (.one rfl (.cs (by kernel_rfl)) one_str (by kernel_rfl) (.one rfl qi one_int (by kernel_rfl) (.one rfl qi one_int (by kernel_rfl) .nil)))) trivial qz (qs 3 101 r2 r1 qZ)) hB [2] [101,0] rfl rfl fun a w F hS=>Zb (wp_ret (Zg (Ze ?_)))
  refine Zt hfr hS rfl (.cl 101 true 3 rfl rfl .nil) (.one (.aggU rfl (by first | rfl | (unfold ZP;rw [if_neg n1,if_neg n2,if_neg n3,if_neg n4,if_neg n5,if_neg n6,if_neg n7,if_neg n8,if_neg n9,if_neg n10,if_neg n11,if_neg n12];rfl))))
 have n2:=of_decide_eq_false hc1
 refine wp_seq ?_
 refine Za hS (qf (o_eql .t qi) r1 qz (qN rfl rfl qZ)) hB [10,3,2] [101,0] rfl rfl fun a w F hS=>Zb ?_
 refine Zd hS rfl (fun hc2=>?_) (fun hc2=>?_)
 ·skip
  have hk:=of_decide_eq_true hc2
  subst hk
  refine wp_seq ?_
  refine Za hS (qf (oB [(0,_),(1,_),(2,_)] [.string ⟨#[]⟩,.int .i64 0,.int .i64 0] [(0,1),(1,1),(2,1)] (.one rfl (.cs (by kernel_rfl)) one_str (by kernel_rfl) (.one rfl qi one_int (by kernel_rfl) (.one rfl qi one_int (by kernel_rfl) .nil)))) trivial qz (qs 3 101 r2 r1 qZ)) hB [2] [101,0] rfl rfl fun a w F hS=>Zb (wp_ret (Zg (Ze ?_)))
  refine Zt hfr hS rfl (.cl 101 true 3 rfl rfl .nil) (.one (.aggU rfl (by first | rfl | (unfold ZP;rw [if_neg n1,if_neg n2,if_neg n3,if_neg n4,if_neg n5,if_neg n6,if_neg n7,if_neg n8,if_neg n9,if_neg n10,if_neg n11,if_neg n12];rfl))))
 have n3:=of_decide_eq_false hc2
 refine wp_seq ?_
 refine Za hS (qf (o_eql .t qi) r1 qz (qN rfl rfl qZ)) hB [13,3,2] [101,0] rfl rfl fun a w F hS=>Zb ?_
 refine Zd hS rfl (fun hc3=>?_) (fun hc3=>?_)
 ·skip
  have hk:=of_decide_eq_true hc3
  subst hk
  refine wp_seq ?_
  refine Za hS (qf (oB [(0,_),(1,_),(2,_)] [.string ⟨#[]⟩,.int .i64 0,.int .i64 0] [(0,1),(1,1),(2,1)] (.one rfl (.cs (by kernel_rfl)) one_str (by kernel_rfl) (.one rfl qi one_int (by kernel_rfl) (.one rfl qi one_int (by kernel_rfl) .nil)))) trivial qz (qs 3 101 r2 r1 qZ)) hB [2] [101,0] rfl rfl fun a w F hS=>Zb (wp_ret (Zg (Ze ?_)))
  refine Zt hfr hS rfl (.cl 101 true 3 rfl rfl .nil) (.one (.aggU rfl (by first | rfl | (unfold ZP;rw [if_neg n1,if_neg n2,if_neg n3,if_neg n4,if_neg n5,if_neg n6,if_neg n7,if_neg n8,if_neg n9,if_neg n10,if_neg n11,if_neg n12];rfl))))
 have n4:=of_decide_eq_false hc3
 refine wp_seq ?_
 refine Za hS (qf (o_eql .t qi) r1 qz (qN rfl rfl qZ)) hB [16,3,2] [101,0] rfl rfl fun a w F hS=>Zb ?_
 refine Zd hS rfl (fun hc4=>?_) (fun hc4=>?_)
 ·skip
  have hk:=of_decide_eq_true hc4
  subst hk
  refine wp_seq ?_
  refine Za hS (qf (oB [(0,_),(1,_),(2,_)] [.string ⟨#[]⟩,.int .i64 0,.int .i64 0] [(0,1),(1,1),(2,1)] (.one rfl (.cs (by kernel_rfl)) one_str (by kernel_rfl) (.one rfl qi one_int (by kernel_rfl) (.one rfl qi one_int (by kernel_rfl) .nil)))) trivial qz (qs 3 101 r2 r1 qZ)) hB [2] [101,0] rfl rfl fun a w F hS=>Zb (wp_ret (Zg (Ze ?_)))
  refine Zt hfr hS rfl (.cl 101 true 3 rfl rfl .nil) (.one (.aggU rfl (by first | rfl | (unfold ZP;rw [if_neg n1,if_neg n2,if_neg n3,if_neg n4,if_neg n5,if_neg n6,if_neg n7,if_neg n8,if_neg n9,if_neg n10,if_neg n11,if_neg n12];rfl))))
 have n5:=of_decide_eq_false hc4
 refine wp_seq ?_
 refine Za hS (qf (o_eql .t qi) r1 qz (qN rfl rfl qZ)) hB [19,3,2] [101,0] rfl rfl fun a w F hS=>Zb ?_
 refine Zd hS rfl (fun hc5=>?_) (fun hc5=>?_)
 ·skip
  have hk:=of_decide_eq_true hc5
  subst hk
  refine wp_seq ?_
  refine Za hS (qf (oB [(0,_),(1,_),(2,_)] [.string ⟨#[]⟩,.int .i64 0,.int .i64 0] [(0,1),(1,1),(2,1)] (.one rfl (.cs (by kernel_rfl)) one_str (by kernel_rfl) (.one rfl qi one_int (by kernel_rfl) (.one rfl qi one_int (by kernel_rfl) .nil)))) trivial qz (qs 3 101 r2 r1 qZ)) hB [2] [101,0] rfl rfl fun a w F hS=>Zb (wp_ret (Zg (Ze ?_)))
  refine Zt hfr hS rfl (.cl 101 true 3 rfl rfl .nil) (.one (.aggU rfl (by first | rfl | (unfold ZP;rw [if_neg n1,if_neg n2,if_neg n3,if_neg n4,if_neg n5,if_neg n6,if_neg n7,if_neg n8,if_neg n9,if_neg n10,if_neg n11,if_neg n12];rfl))))
 have n6:=of_decide_eq_false hc5
 refine wp_seq ?_
 refine Za hS (qf (o_eql .t qi) r1 qz (qN rfl rfl qZ)) hB [22,3,2] [101,0] rfl rfl fun a w F hS=>Zb ?_
 refine Zd hS rfl (fun hc6=>?_) (fun hc6=>?_)
 ·skip
  have hk:=of_decide_eq_true hc6
  subst hk
  refine wp_seq ?_
  refine Za hS (qf (oB [(0,_),(1,_),(2,_)] [.string ⟨#[]⟩,.int .i64 0,.int .i64 0] [(0,1),(1,1),(2,1)] (.one rfl (.cs (by kernel_rfl)) one_str (by kernel_rfl) (.one rfl qi one_int (by kernel_rfl) (.one rfl qi one_int (by kernel_rfl) .nil)))) trivial qz (qs 3 101 r2 r1 qZ)) hB [2] [101,0] rfl rfl fun a w F hS=>Zb (wp_ret (Zg (Ze ?_)))
  refine Zt hfr hS rfl (.cl 101 true 3 rfl rfl .nil) (.one (.aggU rfl (by first | rfl | (unfold ZP;rw [if_neg n1,if_neg n2,if_neg n3,if_neg n4,if_neg n5,if_neg n6,if_neg n7,if_neg n8,if_neg n9,if_neg n10,if_neg n11,if_neg n12];rfl))))
 have n7:=of_decide_eq_false hc6
 refine wp_seq ?_
 refine Za hS (qf (o_eql .t qi) r1 qz (qN rfl rfl qZ)) hB [25,3,2] [101,0] rfl rfl fun a w F hS=>Zb ?_
 refine Zd hS rfl (fun hc7=>?_) (fun hc7=>?_)
 ·skip
  have hk:=of_decide_eq_true hc7
  subst hk
  refine wp_seq ?_
  refine Za hS (qf (oB [(0,_),(1,_),(2,_)] [.string ⟨#[]⟩,.int .i64 0,.int .i64 0] [(0,1),(1,1),(2,1)] (.one rfl (.cs (by kernel_rfl)) one_str (by kernel_rfl) (.one rfl qi one_int (by kernel_rfl) (.one rfl qi one_int (by kernel_rfl) .nil)))) trivial qz (qs 3 101 r2 r1 qZ)) hB [2] [101,0] rfl rfl fun a w F hS=>Zb (wp_ret (Zg (Ze ?_)))
  refine Zt hfr hS rfl (.cl 101 true 3 rfl rfl .nil) (.one (.aggU rfl (by first | rfl | (unfold ZP;rw [if_neg n1,if_neg n2,if_neg n3,if_neg n4,if_neg n5,if_neg n6,if_neg n7,if_neg n8,if_neg n9,if_neg n10,if_neg n11,if_neg n12];rfl))))
 have n8:=of_decide_eq_false hc7
 refine wp_seq ?_
 refine Za hS (qf (o_eql .t qi) r1 qz (qN rfl rfl qZ)) hB [28,3,2] [101,0] rfl rfl fun a w F hS=>Zb ?_
 refine Zd hS rfl (fun hc8=>?_) (fun hc8=>?_)
 ·skip
  have hk:=of_decide_eq_true hc8
  subst hk
  refine wp_seq ?_
  refine Za hS (qf (oB [(0,_),(1,_),(2,_)] [.string ⟨#[]⟩,.int .i64 0,.int .i64 0] [(0,1),(1,1),(2,1)] (.one rfl (.cs (by kernel_rfl)) one_str (by kernel_rfl) (.one rfl qi one_int (by kernel_rfl) (.one rfl qi one_int (by kernel_rfl) .nil)))) trivial qz (qs 3 101 r2 r1 qZ)) hB [2] [101,0] rfl rfl fun a w F hS=>Zb (wp_ret (Zg (Ze ?_)))
  refine Zt hfr hS rfl (.cl 101 true 3 rfl rfl .nil) (.one (.aggU rfl (by first | rfl | (unfold ZP;rw [if_neg n1,if_neg n2,if_neg n3,if_neg n4,if_neg n5,if_neg n6,if_neg n7,if_neg n8,if_neg n9,if_neg n10,if_neg n11,if_neg n12];rfl))))
 have n9:=of_decide_eq_false hc8
 refine wp_seq ?_
 refine Za hS (qf (o_eql .t qi) r1 qz (qN rfl rfl qZ)) hB [31,3,2] [101,0] rfl rfl fun a w F hS=>Zb ?_
 refine Zd hS rfl (fun hc9=>?_) (fun hc9=>?_)
 ·skip
  have hk:=of_decide_eq_true hc9
  subst hk
  refine wp_seq ?_
  refine Za hS (qf (oB [(0,_),(1,_),(2,_)] [.string ⟨#[]⟩,.int .i64 0,.int .i64 0] [(0,1),(1,1),(2,1)] (.one rfl (.cs (by kernel_rfl)) one_str (by kernel_rfl) (.one rfl qi one_int (by kernel_rfl) (.one rfl qi one_int (by kernel_rfl) .nil)))) trivial qz (qs 3 101 r2 r1 qZ)) hB [2] [101,0] rfl rfl fun a w F hS=>Zb (wp_ret (Zg (Ze ?_)))
  refine Zt hfr hS rfl (.cl 101 true 3 rfl rfl .nil) (.one (.aggU rfl (by first | rfl | (unfold ZP;rw [if_neg n1,if_neg n2,if_neg n3,if_neg n4,if_neg n5,if_neg n6,if_neg n7,if_neg n8,if_neg n9,if_neg n10,if_neg n11,if_neg n12];rfl))))
 have n10:=of_decide_eq_false hc9
 refine wp_seq ?_
 refine Za hS (qf (o_eql .t qi) r1 qz (qN rfl rfl qZ)) hB [34,3,2] [101,0] rfl rfl fun a w F hS=>Zb ?_
 refine Zd hS rfl (fun hc10=>?_) (fun hc10=>?_)
 ·skip
  have hk:=of_decide_eq_true hc10
  subst hk
  refine wp_seq ?_
  refine Za hS (qf (oB [(0,_),(1,_),(2,_)] [.string ⟨#[]⟩,.int .i64 0,.int .i64 0] [(0,1),(1,1),(2,1)] (.one rfl (.cs (by kernel_rfl)) one_str (by kernel_rfl) (.one rfl qi one_int (by kernel_rfl) (.one rfl qi one_int (by kernel_rfl) .nil)))) trivial qz (qs 3 101 r2 r1 qZ)) hB [2] [101,0] rfl rfl fun a w F hS=>Zb (wp_ret (Zg (Ze ?_)))
  refine Zt hfr hS rfl (.cl 101 true 3 rfl rfl .nil) (.one (.aggU rfl (by first | rfl | (unfold ZP;rw [if_neg n1,if_neg n2,if_neg n3,if_neg n4,if_neg n5,if_neg n6,if_neg n7,if_neg n8,if_neg n9,if_neg n10,if_neg n11,if_neg n12];rfl))))
 have n11:=of_decide_eq_false hc10
 refine wp_seq ?_
 refine Za hS (qf (o_eql .t qi) r1 qz (qN rfl rfl qZ)) hB [37,2] [101,0] rfl rfl fun a w F hS=>Zb ?_
 refine Zd hS rfl (fun hc11=>?_) (fun hc11=>?_)
 ·skip
  have hk:=of_decide_eq_true hc11
  subst hk
  refine wp_seq ?_
  refine Za hS (qf (oB [(0,_),(1,_),(2,_)] [.string ⟨#[]⟩,.int .i64 0,.int .i64 0] [(0,1),(1,1),(2,1)] (.one rfl (.cs (by kernel_rfl)) one_str (by kernel_rfl) (.one rfl qi one_int (by kernel_rfl) (.one rfl qi one_int (by kernel_rfl) .nil)))) trivial qz (qs 3 101 r2 r1 qZ)) hB [2] [101,0] rfl rfl fun a w F hS=>Zb (wp_ret (Zg (Ze ?_)))
  refine Zt hfr hS rfl (.cl 101 true 3 rfl rfl .nil) (.one (.aggU rfl (by first | rfl | (unfold ZP;rw [if_neg n1,if_neg n2,if_neg n3,if_neg n4,if_neg n5,if_neg n6,if_neg n7,if_neg n8,if_neg n9,if_neg n10,if_neg n11,if_neg n12];rfl))))
 have n12:=of_decide_eq_false hc11
 refine wp_skip (Zh (Zb (wp_seq ?_)))
 refine Za hS (qf (oB [] [.string ⟨#[]⟩,.int .i64 0,.int .i64 0] [(0,1),(1,1),(2,1)] .nil) trivial qz (qs 3 101 r2 r1 qZ)) hB [2] [101,0] rfl rfl fun a w F hS=>Zb (wp_ret ?_)
 refine Zt hfr hS rfl (.cl 101 true 3 rfl rfl .nil) (.one (.aggU rfl (by first | rfl | (unfold ZP;rw [if_neg n1,if_neg n2,if_neg n3,if_neg n4,if_neg n5,if_neg n6,if_neg n7,if_neg n8,if_neg n9,if_neg n10,if_neg n11,if_neg n12];rfl))))
theorem ZqW (p:Int):FnP Tryz.prog 90 [.int .i64 p] (.tup [.bs (Zj5 p),.bs (Zbr p)]):=by
 refine FnP.mk Tryz.func90 rfl Tryz.ntmps90 rfl ?_
 intro B a w F hB hfr hS
 refine wp_seq ?_
 refine Za hS (qf (oN (.cs (by kernel_rfl))) trivial qz (qf (oN (.cs (by kernel_rfl))) trivial qz qZ)) hB [3,2,0] [0] rfl rfl fun a w F hS=>Zb (wp_seq (wp_seq ?_))
 refine Za hS (qM rfl rfl qZ) hB [4,3,2] [0] rfl rfl fun a w F hS=>Zb (wp_block (wp_seq ?_))
 refine Za hS (qf (o_eql .t qi) r1 qz (qN rfl rfl qZ)) hB [5,4,3,2] [0] rfl rfl fun a w F hS=>Zb ?_
 refine Zd hS rfl (fun hc0=>?_) (fun hc0=>?_)
 ·skip
  have hk:=of_decide_eq_true hc0
  subst hk
  refine wp_seq ?_
  refine Za hS (qf (oN (.cs (by kernel_rfl))) trivial qz (qf (oN (.cs (by kernel_rfl))) trivial qz qZ)) hB [3,2] [0] rfl rfl fun a w F hS=>Zb (wp_ret (Zg (Ze ?_)))
  refine Zt hfr hS rfl (.tmp rfl (.tmp rfl .nil)) (.two (.bs (by first | rfl | (unfold Zj5;rw [if_neg n1,if_neg n2,if_neg n3,if_neg n4,if_neg n5]))) (.bs (by first | rfl | (unfold Zbr;rw [if_neg n1,if_neg n2,if_neg n3,if_neg n4,if_neg n5]))))
 have n1:=of_decide_eq_false hc0
 refine wp_seq ?_
 refine Za hS (qf (o_eql .t qi) r1 qz (qN rfl rfl qZ)) hB [7,4,3,2] [0] rfl rfl fun a w F hS=>Zb ?_
 refine Zd hS rfl (fun hc1=>?_) (fun hc1=>?_)
 ·skip
  have hk:=of_decide_eq_true hc1
  subst hk
  refine wp_seq ?_
  refine Za hS (qf (oN (.cs (by kernel_rfl))) trivial qz (qf (oN (.cs (by kernel_rfl))) trivial qz qZ)) hB [3,2] [0] rfl rfl fun a w F hS=>Zb (wp_ret (Zg (Ze ?_)))
  refine Zt hfr hS rfl (.tmp rfl (.tmp rfl .nil)) (.two (.bs (by first | rfl | (unfold Zj5;rw [if_neg n1,if_neg n2,if_neg n3,if_neg n4,if_neg n5]))) (.bs (by first | rfl | (unfold Zbr;rw [if_neg n1,if_neg n2,if_neg n3,if_neg n4,if_neg n5]))))
 have n2:=of_decide_eq_false hc1
 refine wp_seq ?_
 refine Za hS (qf (o_eql .t qi) r1 qz (qN rfl rfl qZ)) hB [9,4,3,2] [0] rfl rfl fun a w F hS=>Zb ?_
 refine Zd hS rfl (fun hc2=>?_) (fun hc2=>?_)
 ·skip
  have hk:=of_decide_eq_true hc2
  subst hk
  refine wp_seq ?_
  refine Za hS (qf (oN (.cs (by kernel_rfl))) trivial qz (qf (oN (.cs (by kernel_rfl))) trivial qz qZ)) hB [3,2] [0] rfl rfl fun a w F hS=>Zb (wp_ret (Zg (Ze ?_)))
  refine Zt hfr hS rfl (.tmp rfl (.tmp rfl .nil)) (.two (.bs (by first | rfl | (unfold Zj5;rw [if_neg n1,if_neg n2,if_neg n3,if_neg n4,if_neg n5]))) (.bs (by first | rfl | (unfold Zbr;rw [if_neg n1,if_neg n2,if_neg n3,if_neg n4,if_neg n5]))))
 have n3:=of_decide_eq_false hc2
 refine wp_seq ?_
 refine Za hS (qf (o_eql .t qi) r1 qz (qN rfl rfl qZ)) hB [11,4,3,2] [0] rfl rfl fun a w F hS=>Zb ?_
 refine Zd hS rfl (fun hc3=>?_) (fun hc3=>?_)
 ·skip
  have hk:=of_decide_eq_true hc3
  subst hk
  refine wp_seq ?_
  refine Za hS (qf (oN (.cs (by kernel_rfl))) trivial qz (qf (oN (.cs (by kernel_rfl))) trivial qz qZ)) hB [3,2] [0] rfl rfl fun a w F hS=>Zb (wp_ret (Zg (Ze ?_)))
  refine Zt hfr hS rfl (.tmp rfl (.tmp rfl .nil)) (.two (.bs (by first | rfl | (unfold Zj5;rw [if_neg n1,if_neg n2,if_neg n3,if_neg n4,if_neg n5]))) (.bs (by first | rfl | (unfold Zbr;rw [if_neg n1,if_neg n2,if_neg n3,if_neg n4,if_neg n5]))))
 have n4:=of_decide_eq_false hc3
 refine wp_seq ?_
 refine Za hS (qf (o_eql .t qi) r1 qz (qN rfl rfl qZ)) hB [13,3,2] [0] rfl rfl fun a w F hS=>Zb ?_
 refine Zd hS rfl (fun hc4=>?_) (fun hc4=>?_)
 ·skip
  have hk:=of_decide_eq_true hc4
  subst hk
  refine wp_seq ?_
  refine Za hS (qf (oN (.cs (by kernel_rfl))) trivial qz (qf (oN (.cs (by kernel_rfl))) trivial qz qZ)) hB [3,2] [0] rfl rfl fun a w F hS=>Zb (wp_ret (Zg (Ze ?_)))
  refine Zt hfr hS rfl (.tmp rfl (.tmp rfl .nil)) (.two (.bs (by first | rfl | (unfold Zj5;rw [if_neg n1,if_neg n2,if_neg n3,if_neg n4,if_neg n5]))) (.bs (by first | rfl | (unfold Zbr;rw [if_neg n1,if_neg n2,if_neg n3,if_neg n4,if_neg n5]))))
 have n5:=of_decide_eq_false hc4
 refine wp_skip (Zh (Zb (wp_seq ?_)))
 refine Za hS (qf (oN (.cs (by kernel_rfl))) trivial qz (qf (oN (.cs (by kernel_rfl))) trivial qz qZ)) hB [3,2] [0] rfl rfl fun a w F hS=>Zb (wp_ret ?_)
 refine Zt hfr hS rfl (.tmp rfl (.tmp rfl .nil)) (.two (.bs (by first | rfl | (unfold Zj5;rw [if_neg n1,if_neg n2,if_neg n3,if_neg n4,if_neg n5]))) (.bs (by first | rfl | (unfold Zbr;rw [if_neg n1,if_neg n2,if_neg n3,if_neg n4,if_neg n5]))))
theorem Zog (p:Int):FnP Tryz.prog 49 [.int .i64 p] (.bs (Zbr p)):=by
 refine FnP.mk Tryz.func49 rfl Tryz.ntmps49 rfl ?_
 intro B a w F hB hfr hS
 refine wp_seq ?_
 refine Za hS (qf (oN (.cs (by kernel_rfl))) trivial qz qZ) hB [2,0] [0] rfl rfl fun a w F hS=>Zb (wp_seq ?_)
 refine Za hS (qM rfl rfl (qf (oP (ZqW p) Tryz.func90 (Args.one .t)) r1 qz (qM rfl rfl (qf (o_extract .t rfl) r1 qz (qf (o_extract .t rfl) r1 qz (qN rfl rfl (qN rfl rfl qZ))))))) hB [4,2] [0] rfl rfl fun a w F hS=>Zb (wp_seq ?_)
 refine Za hS (qM rfl rfl (qN rfl rfl qZ)) hB [2] [0] rfl rfl fun a w F hS=>Zb (wp_ret ?_)
 refine Zq hfr hS rfl rfl rfl .refl
theorem find_c (s0:List UInt8):FnP Tryz.prog 37 [.bs s0] (.int .i64 (ZbY s0)):=by
 refine FnP.mk Tryz.func37 rfl Tryz.ntmps37 rfl ?_
 intro B a w F hB hfr hS
 refine wp_seq ?_
 refine Za hS (qI qZ) hB [2,0] [0] rfl rfl fun a w F hS=>Zb (wp_seq (wp_seq ?_))
 refine Za hS (qI qZ) hB [3,2,0] [0] rfl rfl fun a w F hS=>Zb (wp_block ?_)
 obtain ⟨F,hS⟩:=hS.nm [3,0] [0] rfl rfl
 refine ZG (σ:=Nat) (fun s=>(⟨[(0,.pv (.bs s0)),(3,.pv (.int .i64 (s:Nat)))],[(0,frame B)]⟩:En)) (fun s=>(1≤s∧s≤13)∧ZbY s0=Zcv s0 s (13 - s)) (fun s=>13 - s) 1 hS ⟨by decide,rfl⟩ ?_
 clear hS;intro i a w F hC hS
 try dsimp only at hC
 try dsimp only at hS
 obtain ⟨hi0,hf⟩:=hC
 refine wp_seq (wp_seq ?_)
 refine Za hS (qM rfl rfl (qf (Zbq .t qi) r1 qz qZ)) hB [5,3,0] [0] rfl rfl fun a w F hS=>Zb ?_
 refine Zd hS rfl (fun hc0=>?_) (fun hc0=>?_)
 ·skip
  have hi:i<13:=by have h9:=of_decide_eq_true hc0;omega
  have hfi:Zcv s0 i (13 - i)=if (ZP (i:Int)).s=s0 then (i:Int) else Zcv s0 (i+1) (13 - (i+1)):=by rw [show 13 - i=(13 - (i+1))+1 by omega,Zcv]
  refine wp_skip (Zb (wp_seq (wp_block (wp_seq ?_))))
  refine Za hS (qM rfl rfl (qf (oP (ZlL (i:Int)) Tryz.func38 (Args.one .t)) r1 qz (qf (ZhA (ft:=9) (off:=0) (by kernel_rfl) (by kernel_rfl) .t rfl) r1 qz (qM rfl rfl (qf (o_eql_bs Tryz.underlying9 .t .t) r2 qz qZ))))) hB [12,3,0] [0] rfl rfl fun a w F hS=>Zb ?_
  refine Zd hS rfl (fun hc1=>?_) (fun hc1=>?_)
  ·skip
   have hg:(i:Int)=ZbY s0:=by rw [hf,hfi,if_pos (of_decide_eq_true hc1)]
   refine wp_seq ?_
   refine Za hS (qM rfl rfl (qN rfl rfl qZ)) hB [3,2,0] [0] rfl rfl fun a w F hS=>Zb (wp_ret (Zg (Ze (Ze (Zg (Ze ?_))))))
   refine Zq hfr hS rfl rfl rfl (.int hg)
  have hst:ZbY s0=Zcv s0 (i+1) (13 - (i+1)):=by rw [hf,hfi,if_neg (of_decide_eq_false hc1)]
  refine wp_skip (Zh (Zb ?_))
  refine Za hS (qM rfl rfl (qp r1 (qN rfl rfl qZ))) hB [3,0] [0] rfl rfl fun a w F hS=>Zb ?_
  replace hS:=hS.ent (i:=3) (s':=.pv (.int .i64 ((i+1:Nat):Int))) rfl (.int (wrap_succ (by omega)))
  obtain ⟨F,hS⟩:=hS.nm [3,0] [0] rfl rfl
  exact ⟨i+1,F,⟨by omega,hst⟩,hS,by omega⟩
 have hg:(0:Int)=ZbY s0:=by rw [hf,show i=13 by have h9:=of_decide_eq_false hc0;omega];rfl
 refine wp_exit (Zi (Zi (Zo (Zb (wp_seq ?_)))))
 refine Za hS (qI qZ) hB [2] [0] rfl rfl fun a w F hS=>Zb (wp_ret ?_)
 refine Zq hfr hS rfl rfl rfl (.int hg)
theorem phen_c (s0:List UInt8):FnP Tryz.prog 76 [.bs s0] (.int .i64 (phenR s0)):=by
 refine FnP.mk Tryz.func76 rfl Tryz.ntmps76 rfl ?_
 intro B a w F hB hfr hS
 refine wp_seq ?_
 refine Za hS (qI qZ) hB [2,0] [0] rfl rfl fun a w F hS=>Zb (wp_seq (wp_seq ?_))
 refine Za hS (qI qZ) hB [3,2,0] [0] rfl rfl fun a w F hS=>Zb (wp_block ?_)
 obtain ⟨F,hS⟩:=hS.nm [3,0] [0] rfl rfl
 refine ZG (σ:=Nat) (fun s=>(⟨[(0,.pv (.bs s0)),(3,.pv (.int .i64 (s:Nat)))],[(0,frame B)]⟩:En)) (fun s=>(1≤s∧s≤6)∧phenR s0=Zcr s0 s (6 - s)) (fun s=>6 - s) 1 hS ⟨by decide,rfl⟩ ?_
 clear hS;intro i a w F hC hS
 try dsimp only at hC
 try dsimp only at hS
 obtain ⟨hi0,hf⟩:=hC
 refine wp_seq (wp_seq ?_)
 refine Za hS (qM rfl rfl (qf (Zbq .t qi) r1 qz qZ)) hB [5,3,0] [0] rfl rfl fun a w F hS=>Zb ?_
 refine Zd hS rfl (fun hc0=>?_) (fun hc0=>?_)
 ·skip
  have hi:i<6:=by have h9:=of_decide_eq_true hc0;omega
  have hfi:Zcr s0 i (6 - i)=if Zbr (i:Int)=s0 then (i:Int) else Zcr s0 (i+1) (6 - (i+1)):=by rw [show 6 - i=(6 - (i+1))+1 by omega,Zcr]
  refine wp_skip (Zb (wp_seq (wp_block (wp_seq ?_))))
  refine Za hS (qM rfl rfl (qf (oP (Zog (i:Int)) Tryz.func49 (Args.one .t)) r1 qz (qM rfl rfl (qf (o_eql_bs Tryz.underlying9 .t .t) r2 qz qZ)))) hB [11,3,0] [0] rfl rfl fun a w F hS=>Zb ?_
  refine Zd hS rfl (fun hc1=>?_) (fun hc1=>?_)
  ·skip
   have hg:(i:Int)=phenR s0:=by rw [hf,hfi,if_pos (of_decide_eq_true hc1)]
   refine wp_seq ?_
   refine Za hS (qM rfl rfl (qN rfl rfl qZ)) hB [3,2,0] [0] rfl rfl fun a w F hS=>Zb (wp_ret (Zg (Ze (Ze (Zg (Ze ?_))))))
   refine Zq hfr hS rfl rfl rfl (.int hg)
  have hst:phenR s0=Zcr s0 (i+1) (6 - (i+1)):=by rw [hf,hfi,if_neg (of_decide_eq_false hc1)]
  refine wp_skip (Zh (Zb ?_))
  refine Za hS (qM rfl rfl (qp r1 (qN rfl rfl qZ))) hB [3,0] [0] rfl rfl fun a w F hS=>Zb ?_
  replace hS:=hS.ent (i:=3) (s':=.pv (.int .i64 ((i+1:Nat):Int))) rfl (.int (wrap_succ (by omega)))
  obtain ⟨F,hS⟩:=hS.nm [3,0] [0] rfl rfl
  exact ⟨i+1,F,⟨by omega,hst⟩,hS,by omega⟩
 have hg:(0:Int)=phenR s0:=by rw [hf,show i=6 by have h9:=of_decide_eq_false hc0;omega];rfl
 refine wp_exit (Zi (Zi (Zo (Zb (wp_seq ?_)))))
 refine Za hS (qI qZ) hB [2] [0] rfl rfl fun a w F hS=>Zb (wp_ret ?_)
 refine Zq hfr hS rfl rfl rfl (.int hg)
end Go.Proofs.YtjhapicamnijnaaGreatDoor
