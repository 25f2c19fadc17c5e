/- Texts put together. No condition beyond those that each theorem says. -/
import Derived.Test.YtjhapicamnijnaaGreatDoorJ1
import Derived.Test.YtjhapicamnijnaaGreatDoorJ0
import Derived.Test.YtjhapicamnijnaaGreatDoorLibG
namespace Go.Proofs.YtjhapicamnijnaaGreatDoor
open Go Go.Gm
set_option linter.unusedVariables false
set_option linter.unusedSimpArgs false
set_option maxHeartbeats 4000000
set_option maxRecDepth 8000
theorem Znv  : FnP Tryz.prog 192 [.bs tenL] (.tup [.agg (Zp2.map (fun x=>PV.bool x)),.bool true]):=by
 refine FnP.mk Tryz.func192 rfl Tryz.ntmps192 rfl ?_
 intro B a w F hB hfr hS
 refine wp_seq ?_
 refine Zc hS (qf (ZkM (f:=(fun x=>PV.bool x)) (n:=256) (zv:=.bool false) (z:=false) 101 (by kernel_rfl) rfl) trivial qz qB) hB [3,2,0] [101,0] (fun _=>rfl) (fun _=>rfl) fun τ a w F hS=>?_
 try dsimp only [RS.sub,SF.sub,CF.sub,csub,Anc.sub,List.map,zCF] at hS
 generalize τ 2=v2 at hS
 refine Zb (wp_seq (wp_seq ?_))
 refine Za hS (qI qZ) hB [4,3,2,0] [101,0] rfl rfl fun a w F hS=>Zb (wp_block ?_)
 replace hS:=hS.turn 101 rfl (r':=.ob (.val v2) (Ziu 254 (fun x=>PV.bool x) (ZmI 0))) (fun τ w f y h=>h)
 obtain ⟨F,hS⟩:=hS.nm [4,2,0] [101,0] rfl rfl
 refine ZG (σ:=Nat) (fun s=>(⟨[(0,.pv (.bs tenL)),(2,.pv (.is v2)),(4,.pv (.int .i64 (s:Nat)))],[(0,frame B),(101,.ob (.val v2) (Ziu 254 (fun x=>PV.bool x) (ZmI s)))]⟩:En)) (fun s=>s≤10) (fun s=>10 - s) 0 hS (Nat.zero_le _) ?_
 clear hS;intro i a w F hC hS
 try dsimp only at hC
 try dsimp only at hS
 have hi0:=hC
 have hsl:=ZcO i hi0
 refine wp_seq (wp_seq ?_)
 refine Za hS (qM rfl rfl (qM rfl rfl (qf (Z0 Tryz.underlying9 .t) r1 qz (qL r2)))) hB [9,4,2,0] [101,0] rfl rfl fun a w F hS=>Zb ?_
 refine Zd hS rfl (fun hc0=>?_) (fun hc0=>?_)
 ·skip
  have hi:i<10:=by have h9:=of_decide_eq_true hc0;have:(i:Int)<10:=h9;omega
  refine wp_skip (Zb (wp_seq (wp_block (wp_seq ?_))))
  refine Za hS (qM rfl rfl (qM rfl rfl (qf (Z4 Tryz.underlying9 .t .t (by omega) (by show (i:Int)<10;omega)) r2 qz (qN rfl rfl qZ)))) hB [5,4,2,0] [101,0] rfl rfl fun a w F hS=>?_
  rw [Int.toNat_natCast] at hS
  refine Zb (wp_seq (wp_seq ?_))
  refine Za hS (qM rfl rfl (qf (Zen .t qi) r1 qz qZ)) hB [16,5,4,2,0] [101,0] rfl rfl fun a w F hS=>Zb ?_
  refine Zd hS rfl (fun hc1=>?_) (fun hc1=>?_)
  ·skip
   have h9:=Zqi i hi
   have h8:=of_decide_eq_true hc1
   omega
  refine wp_skip (Zb ?_)
  refine Za hS (qM rfl rfl (qf (ZbV (sz:=1) 101 Tryz.underlying254 (by kernel_rfl) .is .t (by omega) (by have:=(nth tenL i).toNat_lt;omega)) r2 r1 (qf (Zey 101 .adr .cb one_bool (by kernel_rfl) (by simp;have:=(nth tenL i).toNat_lt;omega)) r1 r1 qZ))) hB [4,2,0] [101,0] rfl rfl fun a w F hS=>Zh (Zb ?_)
  refine Za hS (qM rfl rfl (qp r1 (qN rfl rfl qZ))) hB [4,2,0] [101,0] rfl rfl fun a w F hS=>Zb ?_
  simp only [Int.toNat_natCast,Nat.zero_add,Nat.mul_one] at hS
  rw [← Zmw i hi] at hS
  replace hS:=hS.ent (i:=4) (s':=.pv (.int .i64 ((i+1:Nat):Int))) rfl (.int (wrap_succ (by omega)))
  obtain ⟨F,hS⟩:=hS.nm [4,2,0] [101,0] rfl rfl
  exact ⟨i+1,F,(by omega),hS,by omega⟩
 have hi:i=10:=by have h9:=of_decide_eq_false hc0;have:¬ (i:Int)<10:=h9;omega
 subst hi
 refine wp_exit (Zi (Zi (Zo (Zb (wp_seq ?_)))))
 refine Za hS (qf (Zma (sz:=256) 101 .is (by kernel_rfl) (by kernel_rfl) (ZcO 10 (by decide))) r1 r1 (qf (ZfN (sz:=256) 101 .is .t (by kernel_rfl) (ZcO 10 (by decide)) (ZcO 10 (by decide))) r2 r1 qB)) hB [3,2] [101,0] rfl rfl fun a w F hS=>Zb (wp_ret ?_)
 replace hS:=hS.turn 101 rfl ZdA
 refine Zt hfr hS rfl (.cell (n:=101) (ag:=true) (sz:=256) rfl .is rfl (by kernel_rfl) (by kernel_rfl) (by simp [wid,ZcO]) (.tmp rfl .nil)) (.two ?_ .refl)
 rw [Zop _ _ 256 rfl]
 have hp:=Ent.pagg (l:=Zp2.map (fun x=>PV.bool x))
 rw [List.map_map] at hp
 exact hp
theorem Zok (s:List UInt8):(Zd4 s).length≤s.length:=by
 unfold Zd4
 rw [List.length_reverse]
 have:=List.takeWhile_append_dropWhile (p:=digit) (l:=s.reverse)
 have:=congrArg List.length this
 rw [List.length_append,List.length_reverse] at this
 omega
theorem Zsv (s0:List UInt8) (hne:s0≠[]) (hs:s0.length≤9223372036854775807):FnP Tryz.prog 186 [.bs s0,.bs tenL] (.bs ((Zd4 s0).dropWhile digit)):=by
 refine FnP.mk Tryz.func186 rfl Tryz.ntmps186 rfl ?_
 intro B a w F hB hfr hS
 refine wp_seq ?_
 refine Za hS (qf (oN (.cs (by kernel_rfl))) trivial qz qZ) hB [4,1,0] [0] rfl rfl fun a w F hS=>Zb (wp_seq (wp_seq ?_))
 refine Za hS (qM rfl rfl (qf (o_eql_bs Tryz.underlying9 .t (.cs (by kernel_rfl))) r1 qz (qM rfl rfl (qm rfl rfl rfl rfl (qk rfl (fun h=>o_eql_bs Tryz.underlying9 (.w h) (.cs (by kernel_rfl))) r2 qz (qf (Zao .t .t) r2 qz qZ)))))) hB [12,4,1,0] [0] rfl rfl fun a w F hS=>Zb ?_
 refine Zd hS rfl (fun hc0=>?_) (fun hc0=>?_)
 ·skip
  have h9:¬ (s0 = []∨tenL = []):=by simp [hne,tenL]
  simp at hc0
  exact absurd hc0 h9
 refine wp_skip (Zb (wp_seq (wp_seq ?_)))
 refine Za hS (qM rfl rfl (qf (Z0 Tryz.underlying9 .t) r1 qz (qf (o_eql .t qi) r1 qz (qM rfl rfl (qm rfl rfl rfl rfl (qk rfl (fun h=>Z4 Tryz.underlying9 (.w h) qi (by decide) (by decide)) r2 qz (qk rfl (fun h=>Zbq (.w h) qi) r2 qz (qf (ZK .t .t) r2 qz qZ)))))))) hB [21,4,1,0] [0] rfl rfl fun a w F hS=>Zb ?_
 refine Zd hS rfl (fun hc1=>?_) (fun hc1=>?_)
 ·skip
  simp [tenL] at hc1
 refine wp_skip (Zb (wp_seq (wp_seq ?_)))
 refine Zc hS (qM rfl rfl (qf (oP (Znv) Tryz.func192 (Args.one .t)) r1 qz (qM rfl rfl (qf (o_extract .t rfl) r1 qz (qf (o_extract .t rfl) r1 qz (qf (ZkM (f:=(fun x=>PV.bool x)) (n:=256) (zv:=.bool false) (z:=false) 101 (by kernel_rfl) rfl) trivial qz (qf (ZfN (sz:=256) 101 .same .t (by kernel_rfl) rfl rfl) r2 r1 (qN rfl rfl qZ)))))))) hB [6,5,4,1,0] [101,0] (fun _=>rfl) (fun _=>rfl) fun τ a w F hS=>?_
 try dsimp only [RS.sub,SF.sub,CF.sub,csub,Anc.sub,List.map,Zf,xL,xM,Nat.reduceAdd,xD,xE,xT,xU,xC,xN,zCF] at hS
 generalize τ 5=v5 at hS
 replace hS:=hS.turn 101 rfl ZdA
 obtain ⟨F,hS⟩:=hS.giveRef 101 5 rfl rfl (ZhR _ _)
 rw [Zh1] at hS
 obtain ⟨F,hS⟩:=hS.nm [6,5,4,1,0] [0] rfl rfl
 refine Zb (wp_seq ?_)
 refine Za hS (qM rfl rfl qZ) hB [34,5,4,1,0] [0] rfl rfl fun a w F hS=>Zb ?_
 refine Zd hS rfl (fun hc2=>?_) (fun hc2=>?_)
 ·skip
  refine wp_seq ?_
  refine Za hS (qM rfl rfl (qf (oP (ZrT s0 hs) Tryz.func194 (Args.two .t .t)) r2 qz (qf (oP (ZqV (Zd4 s0) (by have:=Zok s0;omega)) Tryz.func193 (Args.two .t .t)) r2 qz (qN rfl rfl qZ)))) hB [4,1,0] [0] rfl rfl fun a w F hS=>Zb (wp_ret (Ze ?_))
  refine Zq hfr hS rfl rfl rfl .refl
 simp at hc2
theorem Zgg (s0:List UInt8) (hs:s0.length≤9223372036854775807):FnP Tryz.prog 174 [.bs s0] (.bool (figs s0)):=by
 refine FnP.mk Tryz.func174 rfl Tryz.ntmps174 rfl ?_
 intro B a w F hB hfr hS
 refine wp_seq ?_
 refine Za hS qB hB [2,0] [0] rfl rfl fun a w F hS=>Zb (wp_seq ?_)
 refine Za hS (qM rfl rfl (qf (o_neq_bs Tryz.underlying9 .t (.cs (by kernel_rfl))) r1 qz (qM rfl rfl (qm rfl rfl rfl rfl (qk rfl (fun h=>oP (Zsv s0 (by simpa using h) hs) Tryz.func186 (Args.two (.w h) (.cs (by kernel_rfl)))) r2 qz (qk rfl (fun h=>o_eql_bs Tryz.underlying9 (.w h) (.cs (by kernel_rfl))) r2 qz (qf (ZK .t .t) r2 qz (qN rfl rfl qZ)))))))) hB [2] [0] rfl rfl fun a w F hS=>Zb (wp_ret ?_)
 refine Zq hfr hS rfl rfl rfl (.bool (by unfold figs;rw [Bool.eq_iff_iff];simp [ZpX]))
theorem Zsa (s:List UInt8) (c:UInt8):FnP Tryz.prog 185 [.bs s,.bs [c]] (.tup [.bs (Zbb c s).1,.bs (Zbb c s).2.1,.bool (Zbb c s).2.2]):=by
 refine FnP.mk Tryz.func185 rfl Tryz.ntmps185 rfl ?_
 intro B a w F hB hfr hS
 have hlen:=Sat.lenBs hS (i:=0) rfl
 refine wp_seq ?_
 refine Za hS (qf (oN (.cs (by kernel_rfl))) trivial qz (qf (oN (.cs (by kernel_rfl))) trivial qz qB)) hB [6,5,4,1,0] [0] rfl rfl fun a w F hS=>Zb (wp_seq (wp_seq ?_))
 refine Za hS (qM rfl rfl (qM rfl rfl (qf (oP (ZkV s c) Tryz.func172 (Args.two .t .t)) r2 qz (qN rfl rfl qZ)))) hB [7,6,5,4,1,0] [0] rfl rfl fun a w F hS=>Zb (wp_seq ?_)
 refine Za hS (qM rfl rfl (qf (Zen .t qi) r1 qz qZ)) hB [12,7,6,5,4,1,0] [0] rfl rfl fun a w F hS=>Zb ?_
 refine Zd hS rfl (fun hc0=>?_) (fun hc0=>?_)
 ·skip
  have h0:0≤Lib.indexByte s c:=by simpa using hc0
  have hb:=ZaU c s
  have hw:IntKind.wrap .i64 (Lib.indexByte s c+(([c].length:Nat):Int))=(((Lib.indexByte s c).toNat+1:Nat):Int):=by rw [List.length_singleton,ZC (by omega)];omega
  have hcut:Zbb c s=(s.take (Lib.indexByte s c).toNat,s.drop ((Lib.indexByte s c).toNat+1),true):=by unfold Zbb;rw [if_neg (by omega)]
  refine wp_seq ?_
  refine Zz hS (qM rfl rfl (qM rfl rfl (qf (Zcl Tryz.underlying9 .t .t (by omega) (by omega)) r2 qz (qM rfl rfl (qM rfl rfl (qM rfl rfl (qf (Z0 Tryz.underlying9 .t) r1 qz (qf (Zbv .t .t) r2 qz (qf (Zbz Tryz.underlying9 .t .t (by rw [hw];omega) (by rw [hw];omega)) r2 qz (qN rfl rfl (qN rfl rfl qB))))))))))) hB [6,5,4,0] [0] rfl rfl fun a w F hS=>Zb (wp_ret (Ze ?_))
  refine Zt hfr hS rfl (.tmp rfl (.tmp rfl (.tmp rfl .nil))) (.three (.bs (by rw [hcut])) (.bs (by first | rw [hcut];done | (rw [hcut];show List.drop (IntKind.wrap .i64 (Lib.indexByte s c+(([c].length:Nat):Int))).toNat s=_;rw [hw];rfl))) (.bool (by rw [hcut])))
 have hcut:Zbb c s=(s,[],false):=by unfold Zbb;rw [if_pos (by simpa using hc0)]
 refine wp_skip (Zb (wp_seq ?_))
 refine Za hS (qM rfl rfl (qN rfl rfl (qf (oN (.cs (by kernel_rfl))) trivial qz qB))) hB [6,5,4] [0] rfl rfl fun a w F hS=>Zb (wp_ret ?_)
 refine Zt hfr hS rfl (.tmp rfl (.tmp rfl (.tmp rfl .nil))) (.three (.bs (by rw [hcut])) (.bs (by first | rw [hcut];done | (rw [hcut];show List.drop (IntKind.wrap .i64 (Lib.indexByte s c+(([c].length:Nat):Int))).toNat s=_;rw [hw];rfl))) (.bool (by rw [hcut])))
theorem ZqG (s:List UInt8) (c:UInt8):FnP Tryz.prog 173 [.bs s,.bs [c]] (.tup [.bs (Zbb c s).1,.bs (Zbb c s).2.1,.bool (Zbb c s).2.2]):=by
 refine FnP.mk Tryz.func173 rfl Tryz.ntmps173 rfl ?_
 intro B a w F hB hfr hS
 refine wp_seq ?_
 refine Za hS (qf (oN (.cs (by kernel_rfl))) trivial qz (qf (oN (.cs (by kernel_rfl))) trivial qz qB)) hB [6,5,4,1,0] [0] rfl rfl fun a w F hS=>Zb (wp_seq ?_)
 refine Za hS (qM rfl rfl (qM rfl rfl (qf (oP (Zsa s c) Tryz.func185 (Args.two .t .t)) r2 qz (qf (o_extract .t rfl) r1 qz (qf (o_extract .t rfl) r1 qz (qf (o_extract .t rfl) r1 qz (qN rfl rfl (qN rfl rfl (qN rfl rfl qZ))))))))) hB [6,5,4] [0] rfl rfl fun a w F hS=>Zb (wp_ret ?_)
 refine Zt hfr hS rfl (.tmp rfl (.tmp rfl (.tmp rfl .nil))) (.three .refl .refl .refl)
theorem ZrC (s0:List UInt8) (hne:s0≠[]) (hs:s0.length≤9223372036854775807):FnP Tryz.prog 154 [.bs s0] (.tup [.sl rS (opCut s0).1,.bool (opCut s0).2]):=by
 refine FnP.mk Tryz.func154 rfl Tryz.ntmps154 rfl ?_
 intro B a w F hB hfr hS
 have hlp:=List.length_pos_iff.2 hne
 have hpl:=ZiY (s0.drop 1)
 refine wp_seq ?_
 refine Za hS (qC qB) hB [3,2,0] [0] rfl rfl fun a w F hS=>Zb (wp_seq ?_)
 refine Za hS (qM rfl rfl (qf (Zbz Tryz.underlying9 .t qi (by decide) (by omega)) r1 qz (qf (oP (ZqG (s0.drop 1) 64) Tryz.func173 (Args.two .t (.cs (by kernel_rfl)))) r1 qz (qM rfl rfl (qf (o_extract .t rfl) r1 qz (qf (o_extract .t rfl) r1 qz (qf (o_extract .t rfl) r1 qz (qN rfl rfl (qN rfl rfl (qN rfl rfl qZ)))))))))) hB [6,5,4,3,2,0] [0] rfl rfl fun a w F hS=>Zb (wp_seq ?_)
 refine Zc hS (qM rfl rfl (qf (Zdg (R:=rS) (l:=[(Zbb 64 (s0.drop 1)).1]) (sz:=1) (zs:=[.string ⟨#[]⟩]) (r:=[(0,.tmp 19)]) 101 Tryz.underlying34 (by kernel_rfl) (by kernel_rfl) (by kernel_rfl) (by kernel_rfl) rfl rfl (.one rfl .t one_str (by kernel_rfl) .nil) rfl rfl (by intro x;rfl)) r1 qz (qN rfl rfl qZ))) hB [6,5,3,2,0] [101,0] (fun _=>rfl) (fun _=>rfl) fun τ a w F hS=>?_
 try dsimp only [RS.sub,SF.sub,CF.sub,csub,Anc.sub,List.map,Zf,xL,xM,Nat.reduceAdd,xD,xE,xT,xU,xC,xN,zCF] at hS
 generalize τ 20=v20 at hS
 refine Zb (wp_seq (wp_seq ?_))
 refine Za hS (qM rfl rfl qZ) hB [21,6,5,3,2,0] [101,0] rfl rfl fun a w F hS=>Zb ?_
 refine Zd hS rfl (fun hc0=>?_) (fun hc0=>?_)
 ·skip
  have hk:(Zbb 64 (s0.drop 1)).2.2=true:=hc0
  refine wp_seq ?_
  refine Za hS (qM rfl rfl (qf (oP (ZqG (Zbb 64 (s0.drop 1)).2.1 46) Tryz.func173 (Args.two .t (.cs (by kernel_rfl)))) r1 qz (qM rfl rfl (qf (o_extract .t rfl) r1 qz (qf (o_extract .t rfl) r1 qz (qf (o_extract .t rfl) r1 qz (qN rfl rfl (qN rfl rfl (qN rfl rfl qZ))))))))) hB [9,8,7,6,3,2,0] [101,0] rfl rfl fun a w F hS=>Zb (wp_seq ?_)
  refine Zc hS (qM rfl rfl (qM rfl rfl (qf (Zk (sz:=1) (zs:=[.string ⟨#[]⟩]) (r:=[(0,.tmp 29)]) (l:=[_]) Tryz.underlying34 (by kernel_rfl) (by kernel_rfl) (by kernel_rfl) (by kernel_rfl) rfl rfl (.one rfl .t one_str (by kernel_rfl) .nil) rfl) r1 qz (qf (o_append (sz:=1) (bs:=16) 101 (.mk' Tryz.underlying34 (by kernel_rfl) (by kernel_rfl)) (by intro x;rfl) .is (.arr (l':=[(Zbb 46 (Zbb 64 (s0.drop 1)).2.1).1]) .t) (by simp) (by decide)) ⟨rfl,rfl,trivial⟩ ⟨rfl,trivial⟩ (qN rfl rfl qZ))))) hB [9,8,6,3,2,0] [101,0] (fun _=>rfl) (fun _=>rfl) fun τ a w F hS=>?_
  try dsimp only [RS.sub,SF.sub,CF.sub,csub,Anc.sub,List.map,Zf,xL,xM,Nat.reduceAdd,xD,xE,xT,xU,xC,xN,zCF] at hS
  generalize τ 31=v31 at hS
  refine Zb (wp_seq ?_)
  refine Za hS (qM rfl rfl qZ) hB [32,8,6,3,2,0] [101,0] rfl rfl fun a w F hS=>Zb ?_
  refine Zd hS rfl (fun hc1=>?_) (fun hc1=>?_)
  ·skip
   have hP:[(Zbb 64 (s0.drop 1)).1,(Zbb 46 (Zbb 64 (s0.drop 1)).2.1).1,(Zbb 46 (Zbb 64 (s0.drop 1)).2.1).2.1] = (ZL (s0.drop 1)):=by unfold ZL;rw [if_pos hk,if_pos hc1]
   refine Zc hS (qM rfl rfl (qM rfl rfl (qf (Zk (sz:=1) (zs:=[.string ⟨#[]⟩]) (r:=[(0,.tmp 34)]) (l:=[_]) Tryz.underlying34 (by kernel_rfl) (by kernel_rfl) (by kernel_rfl) (by kernel_rfl) rfl rfl (.one rfl .t one_str (by kernel_rfl) .nil) rfl) r1 qz (qf (o_append (sz:=1) (bs:=16) 101 (.mk' Tryz.underlying34 (by kernel_rfl) (by kernel_rfl)) (by intro x;rfl) .is (.arr (l':=[(Zbb 46 (Zbb 64 (s0.drop 1)).2.1).2.1]) .t) (by simp) (by decide)) ⟨rfl,rfl,trivial⟩ ⟨rfl,trivial⟩ (qN rfl rfl qZ))))) hB [6,3,2,0] [101,0] (fun _=>rfl) (fun _=>rfl) fun τ a w F hS=>?_
   try dsimp only [RS.sub,SF.sub,CF.sub,csub,Anc.sub,List.map,Zf,xL,xM,Nat.reduceAdd,xD,xE,xT,xU,xC,xN,zCF] at hS
   generalize τ 36=v36 at hS
   refine Zb (wp_seq (wp_seq ?_))
   rw [hP] at hS
   obtain ⟨F,hS⟩:=hS.give 101 2 rfl rfl
   obtain ⟨F,hS⟩:=hS.nm [6,3,2,0] [0] rfl rfl
   refine Za hS (qM rfl rfl (qu Tryz.underlying34 r1 (qJ qZ))) hB [39,38,37,6,3,2,0] [0] rfl rfl fun a w F hS=>Zb (wp_block ?_)
   obtain ⟨F,hS⟩:=hS.nm [39,38,37,6,2,0] [0] rfl rfl
   refine ZG (σ:=Nat) (fun s=>(⟨[(0,.pv (.bs s0)),(2,.pv (.sl rS (ZL (s0.drop 1)))),(6,.pv (.bool (Zbb 64 (s0.drop 1)).2.2)),(37,.pv (.sl rS (ZL (s0.drop 1)))),(38,.pv (.int .i64 ((ZL (s0.drop 1)).length:Nat))),(39,.pv (.int .i64 (s:Nat)))],[(0,frame B)]⟩:En)) (fun s=>s≤(ZL (s0.drop 1)).length ∧ ∀ j,j<s→figs (nth (ZL (s0.drop 1)) j)=true) (fun s=>(ZL (s0.drop 1)).length - s) 0 hS ⟨Nat.zero_le _,fun j hj=>absurd hj (Nat.not_lt_zero _)⟩ ?_
   clear hS;intro i a w F hC hS
   try dsimp only at hC
   try dsimp only at hS
   obtain ⟨hi0,hq⟩:=hC
   refine wp_seq ?_
   refine Za hS (qL r2) hB [40,39,38,37,6,2,0] [0] rfl rfl fun a w F hS=>Zb (wp_seq ?_)
   refine Zd hS rfl (fun hc2=>?_) (fun hc2=>?_)
   ·skip
    have hi:i<(ZL (s0.drop 1)).length:=by have h9:=of_decide_eq_true hc2;omega
    refine wp_skip (Zb (wp_seq (wp_block (wp_seq ?_))))
    refine Za hS (qy 1 Tryz.underlying34 r2 (qf (oR false 1 .t) r1 qz (qN rfl rfl qZ))) hB [39,38,37,11,6,2,0] [0] rfl rfl fun a w F hS=>?_
    rw [Int.toNat_natCast] at hS
    refine Zb (wp_seq ?_)
    refine Za hS (qM rfl rfl (qf (oP (Zgg (nth (ZL (s0.drop 1)) i) (by have h9:=Zct _ _ (ZB hi);rw [List.length_drop] at h9;omega)) Tryz.func174 (Args.one .t)) r1 qz (qf (o_not .t) r1 qz qZ))) hB [45,39,38,37,6,2,0] [0] rfl rfl fun a w F hS=>Zb ?_
    refine Zd hS rfl (fun hc3=>?_) (fun hc3=>?_)
    ·skip
     have hbad:¬ (ZL (s0.drop 1)).all figs=true:=by
       intro h
       rw [List.all_eq_true] at h
       have h9:=h _ (ZB hi)
       rw [h9] at hc3
       cases hc3
     refine wp_seq ?_
     refine Za hS (qC qB) hB [39,38,37,6,3,2,0] [0] rfl rfl fun a w F hS=>Zb (wp_ret (Zg (Ze (Ze (Zg (Ze ?_))))))
     refine Zt hfr hS rfl (.tmp rfl (.tmp rfl .nil)) (.two (.trans .nilSl (.sl (by unfold opCut;rw [if_neg hbad]))) (.bool (by unfold opCut;rw [if_neg hbad])))
    have hqi:figs (nth (ZL (s0.drop 1)) i)=true:=by simpa using hc3
    refine wp_skip (Zh (Zb ?_))
    refine Za hS (qp r1 (qM rfl rfl qZ)) hB [39,38,37,6,2,0] [0] rfl rfl fun a w F hS=>Zb ?_
    replace hS:=hS.ent (i:=39) (s':=.pv (.int .i64 ((i+1:Nat):Int))) rfl (.int (wrap_succ (by omega)))
    obtain ⟨F,hS⟩:=hS.nm [39,38,37,6,2,0] [0] rfl rfl
    exact ⟨i+1,F,⟨by omega,fun j hj=>(Nat.lt_or_ge j i).elim (hq j) (fun h1=>(show i=j by omega) ▸ hqi)⟩,hS,by omega⟩
   have hall:(ZL (s0.drop 1)).all figs=true:=by
     rw [List.all_eq_true]
     intro x hx
     obtain ⟨j,hj,rfl⟩:=List.getElem_of_mem hx
     rw [← Zp hj]
     exact hq j (by have h9:=of_decide_eq_false hc2;omega)
   refine wp_exit (Zi (Zi (Zo (Zb (wp_seq ?_)))))
   refine Zz hS (qM rfl rfl (qM rfl rfl (qM rfl rfl (qf (Z4 Tryz.underlying9 .t qi (by decide) (by omega)) r1 qz (qf (o_eql .t qi) r1 qz (qf (ZiJ Tryz.underlying4 .t .t) r2 qz (qN rfl rfl (qN rfl rfl qZ)))))))) hB [3,2] [0] rfl rfl fun a w F hS=>Zb (wp_ret ?_)
   refine Zt hfr hS rfl (.tmp rfl (.tmp rfl .nil)) (.two (.sl (by unfold opCut;rw [if_pos hall])) (.bool (by unfold opCut;rw [if_pos hall];rfl)))
  have hP:[(Zbb 64 (s0.drop 1)).1,(Zbb 46 (Zbb 64 (s0.drop 1)).2.1).1] = (ZL (s0.drop 1)):=by unfold ZL;rw [if_pos hk,if_neg (by rw [hc1];decide)]
  refine wp_skip (Zb (wp_seq (wp_seq ?_)))
  rw [hP] at hS
  obtain ⟨F,hS⟩:=hS.give 101 2 rfl rfl
  obtain ⟨F,hS⟩:=hS.nm [32,8,6,3,2,0] [0] rfl rfl
  refine Za hS (qM rfl rfl (qu Tryz.underlying34 r1 (qJ qZ))) hB [39,38,37,6,3,2,0] [0] rfl rfl fun a w F hS=>Zb (wp_block ?_)
  obtain ⟨F,hS⟩:=hS.nm [39,38,37,6,2,0] [0] rfl rfl
  refine ZG (σ:=Nat) (fun s=>(⟨[(0,.pv (.bs s0)),(2,.pv (.sl rS (ZL (s0.drop 1)))),(6,.pv (.bool (Zbb 64 (s0.drop 1)).2.2)),(37,.pv (.sl rS (ZL (s0.drop 1)))),(38,.pv (.int .i64 ((ZL (s0.drop 1)).length:Nat))),(39,.pv (.int .i64 (s:Nat)))],[(0,frame B)]⟩:En)) (fun s=>s≤(ZL (s0.drop 1)).length ∧ ∀ j,j<s→figs (nth (ZL (s0.drop 1)) j)=true) (fun s=>(ZL (s0.drop 1)).length - s) 0 hS ⟨Nat.zero_le _,fun j hj=>absurd hj (Nat.not_lt_zero _)⟩ ?_
  clear hS;intro i a w F hC hS
  try dsimp only at hC
  try dsimp only at hS
  obtain ⟨hi0,hq⟩:=hC
  refine wp_seq ?_
  refine Za hS (qL r2) hB [40,39,38,37,6,2,0] [0] rfl rfl fun a w F hS=>Zb (wp_seq ?_)
  refine Zd hS rfl (fun hc4=>?_) (fun hc4=>?_)
  ·skip
   have hi:i<(ZL (s0.drop 1)).length:=by have h9:=of_decide_eq_true hc4;omega
   refine wp_skip (Zb (wp_seq (wp_block (wp_seq ?_))))
   refine Za hS (qy 1 Tryz.underlying34 r2 (qf (oR false 1 .t) r1 qz (qN rfl rfl qZ))) hB [39,38,37,11,6,2,0] [0] rfl rfl fun a w F hS=>?_
   rw [Int.toNat_natCast] at hS
   refine Zb (wp_seq ?_)
   refine Za hS (qM rfl rfl (qf (oP (Zgg (nth (ZL (s0.drop 1)) i) (by have h9:=Zct _ _ (ZB hi);rw [List.length_drop] at h9;omega)) Tryz.func174 (Args.one .t)) r1 qz (qf (o_not .t) r1 qz qZ))) hB [45,39,38,37,6,2,0] [0] rfl rfl fun a w F hS=>Zb ?_
   refine Zd hS rfl (fun hc5=>?_) (fun hc5=>?_)
   ·skip
    have hbad:¬ (ZL (s0.drop 1)).all figs=true:=by
      intro h
      rw [List.all_eq_true] at h
      have h9:=h _ (ZB hi)
      rw [h9] at hc5
      cases hc5
    refine wp_seq ?_
    refine Za hS (qC qB) hB [39,38,37,6,3,2,0] [0] rfl rfl fun a w F hS=>Zb (wp_ret (Zg (Ze (Ze (Zg (Ze ?_))))))
    refine Zt hfr hS rfl (.tmp rfl (.tmp rfl .nil)) (.two (.trans .nilSl (.sl (by unfold opCut;rw [if_neg hbad]))) (.bool (by unfold opCut;rw [if_neg hbad])))
   have hqi:figs (nth (ZL (s0.drop 1)) i)=true:=by simpa using hc5
   refine wp_skip (Zh (Zb ?_))
   refine Za hS (qp r1 (qM rfl rfl qZ)) hB [39,38,37,6,2,0] [0] rfl rfl fun a w F hS=>Zb ?_
   replace hS:=hS.ent (i:=39) (s':=.pv (.int .i64 ((i+1:Nat):Int))) rfl (.int (wrap_succ (by omega)))
   obtain ⟨F,hS⟩:=hS.nm [39,38,37,6,2,0] [0] rfl rfl
   exact ⟨i+1,F,⟨by omega,fun j hj=>(Nat.lt_or_ge j i).elim (hq j) (fun h1=>(show i=j by omega) ▸ hqi)⟩,hS,by omega⟩
  have hall:(ZL (s0.drop 1)).all figs=true:=by
    rw [List.all_eq_true]
    intro x hx
    obtain ⟨j,hj,rfl⟩:=List.getElem_of_mem hx
    rw [← Zp hj]
    exact hq j (by have h9:=of_decide_eq_false hc4;omega)
  refine wp_exit (Zi (Zi (Zo (Zb (wp_seq ?_)))))
  refine Zz hS (qM rfl rfl (qM rfl rfl (qM rfl rfl (qf (Z4 Tryz.underlying9 .t qi (by decide) (by omega)) r1 qz (qf (o_eql .t qi) r1 qz (qf (ZiJ Tryz.underlying4 .t .t) r2 qz (qN rfl rfl (qN rfl rfl qZ)))))))) hB [3,2] [0] rfl rfl fun a w F hS=>Zb (wp_ret ?_)
  refine Zt hfr hS rfl (.tmp rfl (.tmp rfl .nil)) (.two (.sl (by unfold opCut;rw [if_pos hall])) (.bool (by unfold opCut;rw [if_pos hall];rfl)))
 have hP:[(Zbb 64 (s0.drop 1)).1] = (ZL (s0.drop 1)):=by unfold ZL;rw [if_neg (by rw [hc0];decide)]
 refine wp_skip (Zb (wp_seq (wp_seq ?_)))
 rw [hP] at hS
 obtain ⟨F,hS⟩:=hS.give 101 2 rfl rfl
 obtain ⟨F,hS⟩:=hS.nm [21,6,5,3,2,0] [0] rfl rfl
 refine Za hS (qM rfl rfl (qu Tryz.underlying34 r1 (qJ qZ))) hB [39,38,37,6,3,2,0] [0] rfl rfl fun a w F hS=>Zb (wp_block ?_)
 obtain ⟨F,hS⟩:=hS.nm [39,38,37,6,2,0] [0] rfl rfl
 refine ZG (σ:=Nat) (fun s=>(⟨[(0,.pv (.bs s0)),(2,.pv (.sl rS (ZL (s0.drop 1)))),(6,.pv (.bool (Zbb 64 (s0.drop 1)).2.2)),(37,.pv (.sl rS (ZL (s0.drop 1)))),(38,.pv (.int .i64 ((ZL (s0.drop 1)).length:Nat))),(39,.pv (.int .i64 (s:Nat)))],[(0,frame B)]⟩:En)) (fun s=>s≤(ZL (s0.drop 1)).length ∧ ∀ j,j<s→figs (nth (ZL (s0.drop 1)) j)=true) (fun s=>(ZL (s0.drop 1)).length - s) 0 hS ⟨Nat.zero_le _,fun j hj=>absurd hj (Nat.not_lt_zero _)⟩ ?_
 clear hS;intro i a w F hC hS
 try dsimp only at hC
 try dsimp only at hS
 obtain ⟨hi0,hq⟩:=hC
 refine wp_seq ?_
 refine Za hS (qL r2) hB [40,39,38,37,6,2,0] [0] rfl rfl fun a w F hS=>Zb (wp_seq ?_)
 refine Zd hS rfl (fun hc6=>?_) (fun hc6=>?_)
 ·skip
  have hi:i<(ZL (s0.drop 1)).length:=by have h9:=of_decide_eq_true hc6;omega
  refine wp_skip (Zb (wp_seq (wp_block (wp_seq ?_))))
  refine Za hS (qy 1 Tryz.underlying34 r2 (qf (oR false 1 .t) r1 qz (qN rfl rfl qZ))) hB [39,38,37,11,6,2,0] [0] rfl rfl fun a w F hS=>?_
  rw [Int.toNat_natCast] at hS
  refine Zb (wp_seq ?_)
  refine Za hS (qM rfl rfl (qf (oP (Zgg (nth (ZL (s0.drop 1)) i) (by have h9:=Zct _ _ (ZB hi);rw [List.length_drop] at h9;omega)) Tryz.func174 (Args.one .t)) r1 qz (qf (o_not .t) r1 qz qZ))) hB [45,39,38,37,6,2,0] [0] rfl rfl fun a w F hS=>Zb ?_
  refine Zd hS rfl (fun hc7=>?_) (fun hc7=>?_)
  ·skip
   have hbad:¬ (ZL (s0.drop 1)).all figs=true:=by
     intro h
     rw [List.all_eq_true] at h
     have h9:=h _ (ZB hi)
     rw [h9] at hc7
     cases hc7
   refine wp_seq ?_
   refine Za hS (qC qB) hB [39,38,37,6,3,2,0] [0] rfl rfl fun a w F hS=>Zb (wp_ret (Zg (Ze (Ze (Zg (Ze ?_))))))
   refine Zt hfr hS rfl (.tmp rfl (.tmp rfl .nil)) (.two (.trans .nilSl (.sl (by unfold opCut;rw [if_neg hbad]))) (.bool (by unfold opCut;rw [if_neg hbad])))
  have hqi:figs (nth (ZL (s0.drop 1)) i)=true:=by simpa using hc7
  refine wp_skip (Zh (Zb ?_))
  refine Za hS (qp r1 (qM rfl rfl qZ)) hB [39,38,37,6,2,0] [0] rfl rfl fun a w F hS=>Zb ?_
  replace hS:=hS.ent (i:=39) (s':=.pv (.int .i64 ((i+1:Nat):Int))) rfl (.int (wrap_succ (by omega)))
  obtain ⟨F,hS⟩:=hS.nm [39,38,37,6,2,0] [0] rfl rfl
  exact ⟨i+1,F,⟨by omega,fun j hj=>(Nat.lt_or_ge j i).elim (hq j) (fun h1=>(show i=j by omega) ▸ hqi)⟩,hS,by omega⟩
 have hall:(ZL (s0.drop 1)).all figs=true:=by
   rw [List.all_eq_true]
   intro x hx
   obtain ⟨j,hj,rfl⟩:=List.getElem_of_mem hx
   rw [← Zp hj]
   exact hq j (by have h9:=of_decide_eq_false hc6;omega)
 refine wp_exit (Zi (Zi (Zo (Zb (wp_seq ?_)))))
 refine Zz hS (qM rfl rfl (qM rfl rfl (qM rfl rfl (qf (Z4 Tryz.underlying9 .t qi (by decide) (by omega)) r1 qz (qf (o_eql .t qi) r1 qz (qf (ZiJ Tryz.underlying4 .t .t) r2 qz (qN rfl rfl (qN rfl rfl qZ)))))))) hB [3,2] [0] rfl rfl fun a w F hS=>Zb (wp_ret ?_)
 refine Zt hfr hS rfl (.tmp rfl (.tmp rfl .nil)) (.two (.sl (by unfold opCut;rw [if_pos hall])) (.bool (by unfold opCut;rw [if_pos hall];rfl)))
theorem Ztf {b:UInt8} : ((b.toNat:Int)=119) ↔ b=119:=⟨fun h=>ZjS (d:=119) (by rw [h];rfl),fun h=>by rw [h];rfl⟩
theorem Zta {b:UInt8} : ((b.toNat:Int)=114) ↔ b=114:=⟨fun h=>ZjS (d:=114) (by rw [h];rfl),fun h=>by rw [h];rfl⟩
theorem Zp1 (l:List (List UInt8)) (j:Nat):nth (Zby l) j=if j<l.length then (readR (nth l j)).1 else 0:=by
 unfold Zby
 by_cases h:j<l.length
 · rw [if_pos h,Zrs (f:=fun x=>(readR x).1) h]
 · rw [if_neg h,ZoV (by rw [List.length_map];omega)];rfl
theorem Zfn {s:List UInt8} {rd:Bool} {l:List (List UInt8)} (h:opR s=ZgD rd l) (hb:Zis l=0) {o:OpD} (ho:ZqJ rd (Zby l)=o):opR s=if rd=true∧decide (o.tx=0)≠decide (l.length=2) then (Zmq,5) else if ZZ o=true then (o,0) else (Zmq,1):=by
 rw [h]
 unfold ZgD
 rw [if_neg (by rw [hb];decide),ho]
theorem Zqc {s:List UInt8} {rd:Bool} {l:List (List UInt8)} {i:Nat} (h:opR s=ZgD rd l) (hi:i<l.length) (hz:∀ j,j<i→(readR (nth l j)).2=0) (hb:(readR (nth l i)).2≠0):opR s=(Zmq,(readR (nth l i)).2):=by
 have h9:=ZoX hi hz hb
 rw [h]
 unfold ZgD
 rw [if_pos (by rw [h9];exact hb),h9]
theorem ZnU (n:Nat):decide (((n:Nat):Int)=2)=decide (n=2):=decide_eq_decide.2 (by omega)
theorem Zfr {o:OpD} : ZbD o=0 ↔ ZZ o=true:=by unfold ZbD;split <;> simp_all
theorem Znm (j:Nat):nth ([0,0,0]:List Int) j=0:=by
 match j with
 | 0=>rfl
 | 1=>rfl
 | 2=>rfl
 | j+3=>exact ZoV (l:=([0,0,0]:List Int)) (by simp)
theorem Zqd (s0:List UInt8) (hs:s0.length≤9223372036854775807):FnP Tryz.prog 119 [.bs s0] (.tup [.agg (rOp (opR s0).1),.int .i64 (opR s0).2]):=by
 refine FnP.mk Tryz.func119 rfl Tryz.ntmps119 rfl ?_
 intro B a w F hB hfr hS
 refine wp_seq ?_
 refine Zc hS (qf (oH [.bool false,.int .i64 0,.int .i64 0,.int .i64 0] 101) trivial qz (qI qZ)) hB [3,2,0] [101,0] (fun _=>rfl) (fun _=>rfl) fun τ a w F hS=>?_
 try dsimp only [RS.sub,SF.sub,CF.sub,csub,Anc.sub,List.map,zCF] at hS
 generalize τ 2=v2 at hS
 refine Zb (wp_seq (wp_seq ?_))
 refine Za hS (qM rfl rfl (qf (o_eql_bs Tryz.underlying9 .t (.cs (by kernel_rfl))) r1 qz (qM rfl rfl (qm rfl rfl rfl rfl (qk rfl (fun h=>Z4 Tryz.underlying9 (.w h) qi (by decide) (by have h9:=List.length_pos_iff.2 (of_decide_eq_false h);omega)) r2 qz (qk rfl (fun h=>o_neq (.w h) qi) r2 qz (qk rfl (fun h=>oM (.w h)) r2 qz (ZI.cons (ZdD.cond2 rfl rfl (fun h=>ZfK .t (by rfl))) r2 qz (ZI.cons (ZdD.cond2 rfl rfl (fun h=>Z4 Tryz.underlying9 (.w h) qi (by decide) (by have h9:=List.length_pos_iff.2 (of_decide_eq_false h.1);omega))) r2 qz (ZI.cons (ZdD.cond2 rfl rfl (fun h=>o_neq (.w h) qi)) r2 qz (qk rfl (fun h=>ZK (.w h) (.wc h)) r3 qz (qf (Zao .t .t) r2 qz qZ)))))))))))) hB [23,3,2,0] [101,0] rfl rfl fun a w F hS=>Zb ?_
 refine Zd hS rfl (fun hc0=>?_) (fun hc0=>?_)
 ·skip
  have hh:s0 = []∨(nth s0 0≠119∧nth s0 0≠114):=by
    simp only [Bool.or_eq_true,Bool.and_eq_true,Bool.not_eq_true',decide_eq_true_eq,decide_eq_false_iff_not,Ztf,Zta,Int.toNat_zero,ne_eq] at hc0
    exact hc0
  have hr:=Zqj hh
  refine wp_seq ?_
  refine Za hS (qf (oB [] [.bool false,.int .i64 0,.int .i64 0,.int .i64 0] [(0,1),(1,1),(2,1),(3,1)] .nil) trivial qz (qs 4 101 r2 r1 (qI qZ))) hB [3,2,0] [101,0] rfl rfl fun a w F hS=>Zb (wp_ret (Ze ?_))
  refine Zt hfr hS rfl (.cl 101 true 4 rfl rfl (.tmp rfl .nil)) (.two (.aggU rfl (by rw [hr] <;> rfl)) (.int (by rw [hr])))
 have hh:¬ (s0 = []∨(nth s0 0≠119∧nth s0 0≠114)):=by
   intro hx
   rw [Bool.eq_false_iff] at hc0
   refine hc0 ?_
   simp only [Bool.or_eq_true,Bool.and_eq_true,Bool.not_eq_true',decide_eq_true_eq,decide_eq_false_iff_not,Ztf,Zta,Int.toNat_zero,ne_eq]
   exact hx
 have hne:s0≠[]:=fun e=>hh (.inl e)
 have hlp:=List.length_pos_iff.2 hne
 refine wp_skip (Zb (wp_seq ?_))
 refine Za hS (qM rfl rfl (qf (oP (ZrC s0 hne hs) Tryz.func154 (Args.one .t)) r1 qz (qM rfl rfl (qf (o_extract .t rfl) r1 qz (qf (o_extract .t rfl) r1 qz (qN rfl rfl (qN rfl rfl qZ))))))) hB [5,4,3,2,0] [101,0] rfl rfl fun a w F hS=>Zb (wp_seq (wp_seq ?_))
 refine Za hS (qM rfl rfl (qf (o_not .t) r1 qz qZ)) hB [31,4,3,2,0] [101,0] rfl rfl fun a w F hS=>Zb ?_
 refine Zd hS rfl (fun hc1=>?_) (fun hc1=>?_)
 ·skip
  have hr:=ZqM hne (by simpa using hc1)
  refine wp_seq ?_
  refine Za hS (qf (oB [] [.bool false,.int .i64 0,.int .i64 0,.int .i64 0] [(0,1),(1,1),(2,1),(3,1)] .nil) trivial qz (qs 4 101 r2 r1 (qI qZ))) hB [4,3,2,0] [101,0] rfl rfl fun a w F hS=>Zb (wp_ret (Ze ?_))
  refine Zt hfr hS rfl (.cl 101 true 4 rfl rfl (.tmp rfl .nil)) (.two (.aggU rfl (by rw [hr] <;> rfl)) (.int (by rw [hr])))
 have hok:(opCut s0).2=true:=by simpa using hc1
 have hcl:=ZrD hok
 have hcs:=Znc s0
 refine wp_skip (Zb (wp_seq ?_))
 refine Zc hS (qf (oH [.int .i64 0,.int .i64 0,.int .i64 0] 102) trivial qz qZ) hB [6,4,3,2,0] [102,101,0] (fun _=>rfl) (fun _=>rfl) fun τ a w F hS=>?_
 try dsimp only [RS.sub,SF.sub,CF.sub,csub,Anc.sub,List.map,zCF] at hS
 generalize τ 6=v6 at hS
 refine Zb (wp_seq (wp_seq ?_))
 refine Za hS (qM rfl rfl (qu Tryz.underlying34 r1 (qJ qZ))) hB [35,34,33,6,4,3,2,0] [102,101,0] rfl rfl fun a w F hS=>Zb (wp_block ?_)
 replace hS:=hS.turn 102 rfl (r':=.ob (.val v6) (Ziu 218 (fun n=>PV.int .i64 n) [0,0,0])) (fun τ w f y h=>Zky (f:=(fun n=>PV.int .i64 n)) (l:=[0,0,0]) τ w f y h)
 obtain ⟨F,hS⟩:=hS.nm [35,34,33,6,4,2,0] [102,101,0] rfl rfl
 refine ZG (σ:=(Nat×List Int)) (fun s=>(⟨[(0,.pv (.bs s0)),(2,.pv (.is v2)),(4,.pv (.sl rS (opCut s0).1)),(6,.pv (.is v6)),(33,.pv (.sl rS (opCut s0).1)),(34,.pv (.int .i64 ((opCut s0).1.length:Nat))),(35,.pv (.int .i64 (s.1:Nat)))],[(0,frame B),(101,.pt (.val v2) 53 [.pv (.bool false),.pv (.int .i64 0),.pv (.int .i64 0),.pv (.int .i64 0)]),(102,.ob (.val v6) (Ziu 218 (fun n=>PV.int .i64 n) s.2))]⟩:En)) (fun s=>s.1≤(opCut s0).1.length∧s.2.length=3∧(∀ j,j<s.1→(readR (nth (opCut s0).1 j)).2=0)∧(∀ j,j<s.1→nth s.2 j=(readR (nth (opCut s0).1 j)).1) ∧ ∀ j,s.1≤j→nth s.2 j=0) (fun s=>(opCut s0).1.length - s.1) (0,[0,0,0]) hS ⟨Nat.zero_le _,rfl,fun j hj=>absurd hj (Nat.not_lt_zero _),fun j hj=>absurd hj (Nat.not_lt_zero _),fun j _=>Znm j⟩ ?_
 clear hS;intro s a w F hC hS
 obtain ⟨i,q⟩:=s
 try dsimp only at hC
 try dsimp only at hS
 obtain ⟨hi0,hl3,hz,hq,hq0⟩:=hC
 try dsimp only at hi0 hl3 hz hq hq0
 refine wp_seq ?_
 refine Za hS (qL r2) hB [36,35,34,33,6,4,2,0] [102,101,0] rfl rfl fun a w F hS=>Zb (wp_seq ?_)
 refine Zd hS rfl (fun hc2=>?_) (fun hc2=>?_)
 ·skip
  have hi:i<(opCut s0).1.length:=by have h9:=of_decide_eq_true hc2;omega
  refine wp_skip (Zb (wp_seq (wp_block (wp_seq ?_))))
  refine Za hS (qM rfl rfl (qy 1 Tryz.underlying34 r2 (qf (oR false 1 .t) r1 qz (qN rfl rfl (qN rfl rfl qZ))))) hB [35,34,33,8,7,6,4,2,0] [102,101,0] rfl rfl fun a w F hS=>?_
  rw [Int.toNat_natCast] at hS
  refine Zb (wp_seq ?_)
  refine Za hS (qM rfl rfl (qf (oP (read_c (nth (opCut s0).1 i) (by have h9:=hcs _ (ZB hi);omega)) Tryz.func118 (Args.one .t)) r1 qz (qM rfl rfl (qf (o_extract .t rfl) r1 qz (qf (o_extract .t rfl) r1 qz (qN rfl rfl (qN rfl rfl qZ))))))) hB [35,34,33,10,9,7,6,4,2,0] [102,101,0] rfl rfl fun a w F hS=>Zb (wp_seq (wp_seq ?_))
  refine Za hS (qM rfl rfl (qf (o_neq .t qi) r1 qz qZ)) hB [46,35,34,33,10,9,7,6,4,2,0] [102,101,0] rfl rfl fun a w F hS=>Zb ?_
  refine Zd hS rfl (fun hc3=>?_) (fun hc3=>?_)
  ·skip
   have hr:=Zqc (Zqr hh hok) hi hz (by simpa using hc3)
   refine wp_seq ?_
   refine Za hS (qf (oB [] [.bool false,.int .i64 0,.int .i64 0,.int .i64 0] [(0,1),(1,1),(2,1),(3,1)] .nil) trivial qz (qM rfl rfl (qs 4 101 r2 r1 (qN rfl rfl qZ)))) hB [35,34,33,9,7,6,4,3,2,0] [102,101,0] rfl rfl fun a w F hS=>Zb (wp_ret (Ze (Zg (Ze (Ze (Zg (Ze ?_)))))))
   refine Zt hfr hS rfl (.cl 101 true 4 rfl rfl (.tmp rfl .nil)) (.two (.aggU rfl (by rw [hr] <;> rfl)) (.int (by rw [hr])))
  have hzi:(readR (nth (opCut s0).1 i)).2=0:=by simpa using hc3
  refine wp_skip (Zb ?_)
  refine Za hS (qM rfl rfl (qM rfl rfl (qf (ZbV (sz:=1) 102 Tryz.underlying218 (by kernel_rfl) .is .t (by omega) (by show (i:Int)<3;omega)) r2 r1 (qf (Zey 102 .adr .t one_int (by kernel_rfl) (by simp;omega)) r2 r1 qZ)))) hB [35,34,33,6,4,2,0] [102,101,0] rfl rfl fun a w F hS=>Zh (Zb ?_)
  refine Za hS (qp r1 (qM rfl rfl qZ)) hB [35,34,33,6,4,2,0] [102,101,0] rfl rfl fun a w F hS=>Zb ?_
  simp only [Int.toNat_natCast,Nat.zero_add,Nat.mul_one] at hS
  replace hS:=hS.ent (i:=35) (s':=.pv (.int .i64 ((i+1:Nat):Int))) rfl (.int (wrap_succ (by omega)))
  obtain ⟨F,hS⟩:=hS.nm [35,34,33,6,4,2,0] [102,101,0] rfl rfl
  exact ⟨(i+1,q.set i (readR (nth (opCut s0).1 i)).1),F,⟨by dsimp only;omega,by dsimp only;rw [List.length_set];exact hl3,fun j hj=>(Nat.lt_or_ge j i).elim (hz j) (fun h1=>(show i=j by dsimp only at hj;omega) ▸ hzi),ZpK (f:=fun j=>(readR (nth (opCut s0).1 j)).1) (by omega) hq rfl,fun j hj=>by dsimp only at hj ⊢;rw [ZmY (by omega),if_neg (by omega)];exact hq0 j (by omega)⟩,hS,by dsimp only;omega⟩
 have hiP:i=(opCut s0).1.length:=by have h9:=of_decide_eq_false hc2;omega
 have hbz:=Zfj (l:=(opCut s0).1) (fun j hj=>hz j (by omega))
 have hv:∀ j,j<3→nth q j=nth (Zby (opCut s0).1) j:=by
   intro j hj
   rw [Zp1]
   split
   · exact hq j (by omega)
   · exact hq0 j (by omega)
 obtain ⟨x0,x1,x2,rfl⟩:=three hl3
 have e0:x0=nth (Zby (opCut s0).1) 0:=hv 0 (by omega)
 have e1:x1=nth (Zby (opCut s0).1) 1:=hv 1 (by omega)
 have e2:x2=nth (Zby (opCut s0).1) 2:=hv 2 (by omega)
 have hdn:=Zfn (Zqr hh hok) hbz (o:=⟨decide (nth s0 0=114),x0,x1,x2⟩) (by unfold ZqJ;rw [← e0,← e1,← e2])
 try dsimp only at hdn
 replace hS:=hS.turn 102 rfl (r':=.pt (.val v6) 218 [.pv (.int .i64 x0),.pv (.int .i64 x1),.pv (.int .i64 x2)]) (fun τ w f y h=>ZdA (f:=(fun n=>PV.int .i64 n)) (l:=[x0,x1,x2]) τ w f y h)
 refine wp_exit (Zi (Zi (Zo (Zb (wp_seq ?_)))))
 refine Zcp hS (qM rfl rfl (qf (Z4 Tryz.underlying9 .t qi (by decide) (by omega)) r1 qz (qf (o_eql .t qi) r1 qz (qf (Za1 (sz:=1) 102 Tryz.underlying218 (by kernel_rfl) .is qi (by decide) (by decide) (by rfl)) r1 r1 (qa 102 r1 r1 (qf (Za1 (sz:=1) 102 Tryz.underlying218 (by kernel_rfl) .is qi (by decide) (by decide) (by rfl)) r1 r1 (qa 102 r1 r1 (qf (Za1 (sz:=1) 102 Tryz.underlying218 (by kernel_rfl) .is qi (by decide) (by decide) (by rfl)) r1 r1 (qa 102 r1 r1 (qf (oB [(0,.tmp 55),(1,.tmp 57),(2,.tmp 59),(3,.tmp 61)] [.bool false,.int .i64 0,.int .i64 0,.int .i64 0] [(0,1),(1,1),(2,1),(3,1)] (.one rfl .t one_bool (by kernel_rfl) (.one rfl .t one_int (by kernel_rfl) (.one rfl .t one_int (by kernel_rfl) (.one rfl .t one_int (by kernel_rfl) .nil))))) r4 qz (qf (oH [.bool false,.int .i64 0,.int .i64 0,.int .i64 0] 103) trivial qz (qS 4 103 r2 r1 qZ)))))))))))) hB [11,4,2] [103,102,101,0] (fun _=>rfl) (fun _=>rfl) fun τ a w F hS=>?_
 try dsimp only [RS.sub,SF.sub,CF.sub,csub,Anc.sub,List.map,Zf,xL,xM,Nat.reduceAdd,xD,xE,xT,xU,xC,xN,zCF,ldSF] at hS
 generalize τ 11=v11 at hS
 rw [show decide ((((nth s0 (Int.toNat 0)).toNat:Nat):Int)=114)=decide (nth s0 0=114) from ZqB _] at hS
 refine Zb (wp_seq (wp_block (wp_seq ?_)))
 refine Za hS (qg 0 103 r1 r1 (qa 103 r1 r1 (qM rfl rfl (qv 2 103 rfl r2 r1 (qw 103 rfl r2 r1 (qk rfl (fun h=>o_eql (.w h) qi) r2 qz (qm rfl rfl rfl rfl (qk rfl (fun h=>ZaM Tryz.underlying34 (.w h)) r2 qz (qk rfl (fun h=>o_eql (.w h) qi) r2 qz (qk rfl (fun h=>Zn8 Tryz.underlying4 (.w h) (.w h)) r3 qz (qf (ZK .t .t) r2 qz (qN rfl rfl qZ)))))))))))) hB [63,11,2] [103,102,101,0] rfl rfl fun a w F hS=>Zb ?_
 refine Zd hS rfl (fun hc4=>?_) (fun hc4=>?_)
 ·skip
  rw [ZnU,Bool.and_eq_true,bne_iff_ne] at hc4
  have hr:opR s0=(Zmq,5):=by rw [hdn,if_pos hc4]
  refine wp_seq ?_
  refine Za hS (qf (oB [] [.bool false,.int .i64 0,.int .i64 0,.int .i64 0] [(0,1),(1,1),(2,1),(3,1)] .nil) trivial qz (qs 4 101 r2 r1 (qI qZ))) hB [11,3,2] [103,102,101,0] rfl rfl fun a w F hS=>Zb (wp_ret (Zg (Ze ?_)))
  refine Zt hfr hS rfl (.cl 101 true 4 rfl rfl (.tmp rfl .nil)) (.two (.aggU rfl (by rw [hr] <;> rfl)) (.int (by rw [hr])))
 have hnf:¬ (decide (nth s0 0=114)=true∧decide (x1=0)≠decide ((opCut s0).1.length=2)):=by rw [← bne_iff_ne,← Bool.and_eq_true,← ZnU,hc4];decide
 rw [if_neg hnf] at hdn
 refine wp_seq ?_
 refine Za hS (qe 4 103 r1 r1 (qf (oP (Zd7 ⟨decide (nth s0 0=114),x0,x1,x2⟩) Tryz.func58 (Args.one (.pagg .t))) r1 qz (qf (o_neq .t qi) r1 qz (qN rfl rfl qZ)))) hB [76,11,2] [103,102,101,0] rfl rfl fun a w F hS=>Zb ?_
 refine Zd hS rfl (fun hc5=>?_) (fun hc5=>?_)
 ·skip
  have hr:opR s0=(Zmq,1):=by rw [hdn,if_neg (fun hx=>by rw [Zfr.2 hx] at hc5;simp at hc5)]
  refine wp_seq ?_
  refine Za hS (qf (oB [] [.bool false,.int .i64 0,.int .i64 0,.int .i64 0] [(0,1),(1,1),(2,1),(3,1)] .nil) trivial qz (qs 4 101 r2 r1 (qI qZ))) hB [11,3,2] [103,102,101,0] rfl rfl fun a w F hS=>Zb (wp_ret (Zg (Ze ?_)))
  refine Zt hfr hS rfl (.cl 101 true 4 rfl rfl (.tmp rfl .nil)) (.two (.aggU rfl (by rw [hr] <;> rfl)) (.int (by rw [hr])))
 have hr:opR s0=(⟨decide (nth s0 0=114),x0,x1,x2⟩,0):=by rw [hdn,if_pos (Zfr.1 (by simpa using hc5))]
 refine wp_skip (Zh (Zb (wp_seq ?_)))
 refine Za hS (qe 4 103 r1 r1 (qs 4 101 r2 r1 (qI qZ))) hB [3,2] [103,102,101,0] rfl rfl fun a w F hS=>Zb (wp_ret ?_)
 refine Zt hfr hS rfl (.cl 101 true 4 rfl rfl (.tmp rfl .nil)) (.two (.aggU rfl (by rw [hr] <;> rfl)) (.int (by rw [hr])))
theorem ZbJ {n:Int} (h:0≤n):(textL n).all digit=true:=by
 have e:textL n=(ZdL n.natAbs).map toB:=by unfold textL;rw [if_neg (by omega)]
 rw [e]
 exact (Zjd n.natAbs).2.1
theorem ZhC {x e:List UInt8} {c:UInt8} (h:x.all digit=true) (hc:digit c=false):(x++c :: e).takeWhile digit=x∧(x++c :: e).dropWhile digit=c :: e:=by
 induction x with
 | nil=>
   rw [List.nil_append,List.takeWhile_cons_of_neg (by rw [hc];decide),List.dropWhile_cons_of_neg (by rw [hc];decide)]
   exact ⟨rfl,rfl⟩
 | cons b l ih=>
   rw [List.all_cons,Bool.and_eq_true] at h
   obtain ⟨h1,h2⟩:=ih h.2
   rw [List.cons_append,List.takeWhile_cons_of_pos h.1,List.dropWhile_cons_of_pos h.1,h1,h2]
   exact ⟨rfl,rfl⟩
theorem Zhs {x:List UInt8} (h:x.all digit=true):x.takeWhile digit=x∧x.dropWhile digit = []:=by
 have h1:=(ZcI x).2 h
 have h2:=List.takeWhile_append_dropWhile (p:=digit) (l:=x)
 rw [h1,List.append_nil] at h2
 exact ⟨h2,h1⟩
theorem ZhD {n:Int} (h:0≤n∧n≤1048575):readR (textL n)=(n,0):=by rw [Zgy h.1,if_neg (by omega)]
theorem ZdH {o:OpD} (hk:ZZ o=true) (hr:o.read=false):Zap o=119 :: textL o.key:=by unfold Zap;rw [if_neg (by rw [hk];decide),if_pos hr]
theorem Zdz {o:OpD} (hk:ZZ o=true) (hr:o.read=true) (h:o.tx=0):Zap o=114 :: (textL o.key++64 :: textL 0):=by
 unfold Zap
 rw [if_neg (by rw [hk];decide),if_neg (by rw [hr];decide),if_pos h,Zm6]
 simp
theorem ZeN {o:OpD} (hk:ZZ o=true) (hr:o.read=true) (h:o.tx≠0):Zap o=114 :: (textL o.key++64 :: (textL o.tx++46 :: textL o.nth)):=by
 unfold Zap
 rw [if_neg (by rw [hk];decide),if_neg (by rw [hr];decide),if_neg h]
 simp
theorem ZiA {o:OpD} (hk:ZZ o=true):(Zap o).length≤100:=by
 have hb:=Zb4 hk
 have l1:=Zaf (n:=o.key) (by omega)
 have l2:=Zaf (n:=o.tx) (by omega)
 have l3:=Zaf (n:=o.nth) (by omega)
 have l4:=Zaf (n:=0) (by omega)
 by_cases hr:o.read=true
 · by_cases h:o.tx=0
   · rw [Zdz hk hr h]
     simp only [List.length_cons,List.length_append]
     omega
   · rw [ZeN hk hr h]
     simp only [List.length_cons,List.length_append]
     omega
 · rw [ZdH hk (by simpa using hr)]
   simp only [List.length_cons]
   omega
theorem ZpU {o:OpD} (hk:ZZ o=true):opR (Zap o)=(o,0):=by
 have hb:=Zb4 hk
 have d1:=ZbJ (n:=o.key) (by omega)
 have d2:=ZbJ (n:=o.tx) (by omega)
 have d3:=ZbJ (n:=o.nth) (by omega)
 have d0:=ZbJ (n:=0) (by omega)
 have r1:=ZhD (n:=o.key) (by omega)
 have r2:=ZhD (n:=o.tx) (by omega)
 have r3:=ZhD (n:=o.nth) (by omega)
 have r0:=ZhD (n:=0) (by omega)
 have n1:=ZbQ o.key
 have n2:=ZbQ o.tx
 have n3:=ZbQ o.nth
 have n0:=ZbQ 0
 by_cases hr:o.read=true
 · by_cases h:o.tx=0
   · rw [Zdz hk hr h]
     obtain ⟨s1,s2⟩:=ZhC (e:=textL 0) (c:=64) d1 (by decide)
     obtain ⟨s3,s4⟩:=Zhs d0
     have hf:Zbk (nth (114 :: (textL o.key++64 :: textL 0)) 0) ((114 :: (textL o.key++64 :: textL 0)).drop 1)=some [textL o.key,textL 0]:=by
       have:=fR3 (b:=114) (r:=textL o.key++64 :: textL 0) (e:=textL 0) rfl (by rw [s1];exact n1) s2 (by rw [s3];exact n0) s4
       rw [s1,s3] at this
       exact this
     rw [Zfn (Zft (by rintro (hx | ⟨_,hx⟩);cases hx;exact hx rfl) hf) (o:=o) (by simp [Zis,r1,r0]) ?_,if_neg,if_pos hk]
     · simp [h]
     · unfold ZqJ Zby
       cases o
       simp only at h hr r1
       subst h;subst hr
       simp only [List.map_cons,List.map_nil,r1,r0]
       have hn:ZbO ⟨0,_,_⟩ = true:=hk
       simp [ZbO] at hn
       simp [nth,hn]
   · rw [ZeN hk hr h]
     obtain ⟨s1,s2⟩:=ZhC (e:=textL o.tx++46 :: textL o.nth) (c:=64) d1 (by decide)
     obtain ⟨s3,s4⟩:=ZhC (e:=textL o.nth) (c:=46) d2 (by decide)
     have hg:figs (textL o.nth)=true:=by unfold figs;rw [d3];simp [n3]
     have hf:Zbk (nth (114 :: (textL o.key++64 :: (textL o.tx++46 :: textL o.nth))) 0) ((114 :: (textL o.key++64 :: (textL o.tx++46 :: textL o.nth))).drop 1)=some [textL o.key,textL o.tx,textL o.nth]:=by
       have:=fR6 (b:=114) (r:=textL o.key++64 :: (textL o.tx++46 :: textL o.nth)) rfl (by rw [s1];exact n1) s2 (by rw [s3];exact n2) s4 hg
       rw [s1,s3] at this
       exact this
     rw [Zfn (Zft (by rintro (hx | ⟨_,hx⟩);cases hx;exact hx rfl) hf) (o:=o) (by simp [Zis,r1,r2,r3]) ?_,if_neg,if_pos hk]
     · simp [h]
     · unfold ZqJ Zby
       cases o
       simp only at hr r1 r2 r3
       subst hr
       simp only [List.map_cons,List.map_nil,r1,r2,r3]
       rfl
 · have hr':o.read=false:=by simpa using hr
   rw [ZdH hk hr']
   obtain ⟨s1,s2⟩:=Zhs d1
   have hf:Zbk (nth (119 :: textL o.key) 0) ((119 :: textL o.key).drop 1)=some [textL o.key]:=by
     have:=fW (b:=119) (r:=textL o.key) s2 (by rw [s1];exact n1) (by decide)
     rw [s1] at this
     exact this
   rw [Zfn (Zft (by rintro (hx | ⟨hx,_⟩);cases hx;exact hx rfl) hf) (o:=o) (by simp [Zis,r1]) ?_,if_neg,if_pos hk]
   · rintro ⟨hx,_⟩;cases hx
   · have hw:=hk
     rw [ZdI hr'] at hw
     simp only [Bool.and_eq_true,decide_eq_true_eq] at hw
     unfold ZqJ Zby
     cases o
     simp only at hr' r1 hw
     subst hr'
     simp only [List.map_cons,List.map_nil,r1,hw.1.2,hw.2]
     rfl
theorem Zrc (t : TxD) (hl : t.ops.length ≤ 1000000) (p : OpD → Bool) (f : FuncId) (fn : Func) (cps : List PV) (hf : Tryz.prog.funcs[f]? = some fn) (hb : fn.body.isSome = true) (hnn : (fn.name == "runtime.NumGoroutine") = false) (hw : ∀ x, FnP Tryz.prog f (.agg (rOp x) :: cps) (.bool (p x))) : FnP Tryz.prog 109 [.agg (rTx t), .clos f cps] (.sl rInt (ZeG ((t.ops.filter p).map OpD.key))) := by
 refine FnP.mk Tryz.func109 rfl Tryz.ntmps109 rfl ?_
 intro B a w F hB hfr hS
 refine wp_seq ?_
 refine Zc hS (qx 101 r1 (qC qZ)) hB [4,2,1] [101,0] (fun _=>rfl) (fun _=>rfl) fun τ a w F hS=>?_
 try dsimp only [RS.sub,SF.sub,CF.sub,csub,Anc.sub,List.map,zCF,rInt,rOp,rTx] at hS
 generalize τ 2=v2 at hS
 refine Zb (wp_seq ?_)
 refine Za hS (qC qZ) hB [5,4,2,1] [101,0] rfl rfl fun a w F hS=>Zb (wp_seq (wp_seq ?_))
 refine Za hS (qg 2 101 r1 r1 (qa 101 r1 r1 (qu Tryz.underlying36 r1 (qJ qZ)))) hB [11,10,9,5,4,1] [101,0] rfl rfl fun a w F hS=>Zb (wp_block ?_)
 replace hS:=hS.fresh 50 rfl
 replace hS:=hS.turn 50 rfl (ZaC (T:=3) (sz:=1) (R:=rInt))
 refine Zr (σ:=(Nat)×(Value)×(List Int)) [1,4,9,10] [0,101] (fun s=>[(11,.pv (.int .i64 (s.1:Int))),(5,.pv (.is s.2.1))]) (fun s=>[(50,.ob (.val s.2.1) (Zu 3 1 rInt s.2.2))]) (fun s=>s.1≤t.ops.length∧(s.2.2=(((t.ops.take s.1).filter p).map OpD.key))) (fun s=>t.ops.length - s.1) ((0),(.slice none 0 0),([])) hS ⟨rfl,rfl,rfl,rfl,rfl,rfl,trivial⟩ ⟨rfl,rfl,rfl,trivial⟩ ⟨Nat.zero_le _,rfl⟩ ?_
 clear hS;intro s a w F hC hS
 obtain ⟨i,v,out⟩:=s
 try dsimp only at hC
 obtain ⟨F,hS⟩:=hS.nm [11,10,9,5,4,1] [101,50,0] rfl rfl
 try dsimp only at hS
 obtain ⟨hi,hq⟩:=hC
 have hol:out.length≤i:=by rw [hq,List.length_map];exact Nat.le_trans (List.length_filter_le _ _) (by rw [List.length_take];omega)
 refine wp_seq ?_
 refine Za hS (qL r2) hB [12,11,10,9,5,4,1] [101,50,0] rfl rfl fun a w F hS=>Zb (wp_seq ?_)
 refine Zd hS rfl (fun hc0=>?_) (fun hc0=>?_)
 ·skip
  have hil:i<t.ops.length:=by simp at hc0;omega
  refine wp_skip (Zb (wp_seq (wp_block (wp_seq ?_))))
  refine Zc hS (qy 4 Tryz.underlying36 r2 (qf (oR true 4 .t) r1 qz (qf (oH [.bool false,.int .i64 0,.int .i64 0,.int .i64 0] 102) trivial qz (qS 4 102 r2 r1 qZ)))) hB [11,10,9,7,5,4,1] [102,101,50,0] (fun _=>rfl) (fun _=>rfl) fun τ a w F hS=>?_
  try dsimp only [RS.sub,SF.sub,CF.sub,csub,Anc.sub,List.map,Zf,xL,xM,Nat.reduceAdd,xD,xE,xT,xU,xC,xN,zCF,ldSF,rInt,rOp,rTx] at hS
  generalize τ 7=v7 at hS
  try simp only [Int.toNat_natCast] at hS
  refine Zb (wp_seq ?_)
  refine Za hS (qM rfl rfl (qe 4 102 r1 r1 (qf (ZS (avs:=[.agg (rOp (Go.Gm.nth t.ops i))]) .t (hw (Go.Gm.nth t.ops i)) hf hb hnn (Args.one (.pagg .t))) r2 qz qZ))) hB [17,11,10,9,7,5,4,1] [102,101,50,0] rfl rfl fun a w F hS=>Zb ?_
  refine Zd hS rfl (fun hc1=>?_) (fun hc1=>?_)
  ·skip
   have hBq:p (Go.Gm.nth t.ops i)=true:=by simpa using hc1
   refine Zc hS (qM rfl rfl (qg 1 102 r1 r1 (qa 102 r1 r1 (qf (Zk (sz:=1) (zs:=[.int .i64 0]) (r:=[(0,.tmp 20)]) (l:=[_]) Tryz.underlying39 (by kernel_rfl) (by kernel_rfl) (by kernel_rfl) (by kernel_rfl) rfl rfl (.one rfl .t one_int (by kernel_rfl) .nil) rfl) r1 qz (qf (o_append (sz:=1) (bs:=8) 50 (.mk' Tryz.underlying39 (by kernel_rfl) (by kernel_rfl)) (by intro x;rfl) .is (.arr (l':=[(Go.Gm.nth t.ops i).key]) .t) (by simp only [List.length_append,List.length_cons,List.length_nil,List.length_take,List.length_drop];omega) (by decide)) ⟨rfl,rfl,trivial⟩ ⟨rfl,trivial⟩ (qN rfl rfl qZ)))))) hB [11,10,9,5,4,1] [102,101,50,0] (fun _=>rfl) (fun _=>rfl) fun τ a w F hS=>?_
   try dsimp only [RS.sub,SF.sub,CF.sub,csub,Anc.sub,List.map,Zf,xL,xM,Nat.reduceAdd,xD,xE,xT,xU,xC,xN,zCF,ldSF,rInt,rOp,rTx] at hS
   generalize τ 22=v22 at hS
   refine Zh (Zb ?_)
   refine Za hS (qp r1 (qM rfl rfl qZ)) hB [11,10,9,5,4,1] [102,101,50,0] rfl rfl fun a w F hS=>Zb ?_
   replace hS:=hS.ent (i:=11) (s':=.pv (.int .i64 ((i+1:Nat):Int))) rfl (.int (wrap_succ (by omega)))
   obtain ⟨F,hS⟩:=hS.nm [10,9,4,1,5,11] [101,0,50] rfl rfl
   exact ⟨((i+1),_,_),F,⟨by omega,(by rw [ZE hil,List.filter_append,List.map_append,← hq];simp [hBq])⟩,hS,by omega⟩
  have hBq:p (Go.Gm.nth t.ops i)=false:=by simpa using hc1
  refine wp_skip (Zh (Zb ?_))
  refine Za hS (qp r1 (qM rfl rfl qZ)) hB [11,10,9,5,4,1] [102,101,50,0] rfl rfl fun a w F hS=>Zb ?_
  replace hS:=hS.ent (i:=11) (s':=.pv (.int .i64 ((i+1:Nat):Int))) rfl (.int (wrap_succ (by omega)))
  obtain ⟨F,hS⟩:=hS.nm [10,9,4,1,5,11] [101,0,50] rfl rfl
  exact ⟨((i+1),_,_),F,⟨by omega,(by rw [ZE hil,List.filter_append,List.map_append,← hq];simp [hBq])⟩,hS,by omega⟩
 have hil:i=t.ops.length:=by simp at hc0;omega
 refine wp_exit (Zi (Zi (Zo (Zb (wp_seq ?_)))))
 refine Za hS (qM rfl rfl (qf (Zeo 50 (ZmZ _ out (by omega)) Tryz.func65 rfl (by kernel_rfl) (Args.one .t)) r1 r1 qZ)) hB [5,4] [101,50,0] rfl rfl fun a w F hS=>Zb (wp_seq ?_)
 refine Zc hS (qM rfl rfl (qf (ZbA 50 (Zq7 _ _ (by rw [List.length_mergeSort];omega)) Tryz.func138 rfl (by kernel_rfl) (Args.one .t) ZaO) r1 r1 (qN rfl rfl qZ))) hB [4] [101,50,0] (fun _=>rfl) (fun _=>rfl) fun τ a w F hS=>?_
 try dsimp only [RS.sub,SF.sub,CF.sub,csub,Anc.sub,List.map,rInt,rOp,rTx] at hS
 generalize τ 27=v27 at hS
 refine Zb (wp_ret ?_)
 obtain ⟨F,hS⟩:=hS.give 50 4 rfl rfl
 refine Zq hfr hS rfl rfl rfl (.sl (by rw [Zha,ZjZ,hq,hil,List.take_length]))
theorem Zf9 (l:List Int):(ZeG l).length≤l.length:=by
 have key:∀ (l acc:List Int),(l.foldl ZlW acc).length≤acc.length+l.length:=fun l=>by
   induction l with
   | nil=>intro acc;simp
   | cons x l ih=>
     intro acc
     have h1:=ih (ZlW acc x)
     have h2:(ZlW acc x).length≤acc.length+1:=ZjB acc false
     rw [List.foldl_cons,List.length_cons];omega
 have:=key l []
 simpa [ZeG] using this
theorem Ent.fnClos {f:FuncId} : Ent (.pv (.is (.func (.func f) #[] #[]))) (.pv (.clos f [])):=fun τ w y v h=>⟨[],h.1,trivial⟩
theorem ZrS (o:OpD):FnP Tryz.prog 110 [.agg (rOp o)] (.bool (!o.read)):=by
 refine FnP.mk Tryz.func110 rfl Tryz.ntmps110 rfl ?_
 intro B a w F hB hfr hS
 refine wp_seq ?_
 refine Zc hS (qx 101 r1 qB) hB [2,1] [101,0] (fun _=>rfl) (fun _=>rfl) fun τ a w F hS=>?_
 try dsimp only [RS.sub,SF.sub,CF.sub,csub,Anc.sub,List.map,zCF,rOp] at hS
 generalize τ 1=v1 at hS
 refine Zb (wp_seq ?_)
 refine Za hS (qg 0 101 r1 r1 (qa 101 r1 r1 (qf (o_not .t) r1 qz (qN rfl rfl qZ)))) hB [2] [0] rfl rfl fun a w F hS=>Zb (wp_ret ?_)
 refine Zq hfr hS rfl rfl rfl (.bool rfl)
theorem Zns (t:TxD) (hl:t.ops.length≤1000000):FnP Tryz.prog 63 [.agg (rTx t)] (.sl rInt (ZeG ((t.ops.filter fun o=>!o.read).map OpD.key))):=by
 refine FnP.mk Tryz.func63 rfl Tryz.ntmps63 rfl ?_
 intro B a w F hB hfr hS
 refine wp_seq ?_
 refine Zc hS (qx 101 r1 (qC qZ)) hB [2,1] [101,0] (fun _=>rfl) (fun _=>rfl) fun τ a w F hS=>?_
 try dsimp only [RS.sub,SF.sub,CF.sub,csub,Anc.sub,List.map,zCF,rTx,rInt] at hS
 generalize τ 1=v1 at hS
 refine Zb (wp_seq ?_)
 refine Za hS (qe 3 101 r1 r1 (qf (oP (Zrc t hl (fun o=>!o.read) 110 Tryz.f110 [] Tryz.func110 rfl (by kernel_rfl) (fun o=>ZrS o)) Tryz.func109 (Args.two (.pagg .t) (.conv .f (Ent.fnClos)))) r1 qz (qN rfl rfl qZ))) hB [2] [0] rfl rfl fun a w F hS=>Zb (wp_ret ?_)
 refine Zq hfr hS rfl rfl rfl (.sl rfl)
theorem ZfU (t:TxD) (n:Int) (hl:t.ops.length≤1000000):FnP Tryz.prog 108 [.agg (rTx t),.int .i64 n] (.int .i64 (((t.ops.filter fun o=>!o.read && decide (o.key=n)).length:Nat):Int)):=by
 refine FnP.mk Tryz.func108 rfl Tryz.ntmps108 rfl ?_
 intro B a w F hB hfr hS
 have hll:t.ops.length≤1000000:=hl
 refine wp_seq ?_
 refine Zc hS (qx 101 r1 (qI qZ)) hB [4,2,1] [101,0] (fun _=>rfl) (fun _=>rfl) fun τ a w F hS=>?_
 try dsimp only [RS.sub,SF.sub,CF.sub,csub,Anc.sub,List.map,zCF,rInt,rOp,rTx] at hS
 generalize τ 2=v2 at hS
 refine Zb (wp_seq ?_)
 refine Za hS (qI qZ) hB [5,4,2,1] [101,0] rfl rfl fun a w F hS=>Zb (wp_seq (wp_seq ?_))
 refine Za hS (qg 2 101 r1 r1 (qa 101 r1 r1 (qu Tryz.underlying36 r1 (qJ qZ)))) hB [11,10,9,5,4,1] [0] rfl rfl fun a w F hS=>Zb (wp_block ?_)
 refine Zr (σ:=(Nat)) [1,4,9,10] [0] (fun s=>[(11,.pv (.int .i64 (s:Int))),(5,.pv (.int .i64 ((((t.ops.take s).filter fun o=>!o.read && decide (o.key=n)).length:Nat):Int)))]) (fun s=>[]) (fun s=>s≤t.ops.length∧(True)) (fun s=>t.ops.length - s) (0) hS ⟨rfl,rfl,rfl,rfl,rfl,rfl,trivial⟩ ⟨rfl,trivial⟩ ⟨Nat.zero_le _,trivial⟩ ?_
 clear hS;intro i a w F hC hS
 try dsimp only at hC
 obtain ⟨F,hS⟩:=hS.nm [11,10,9,5,4,1] [0] rfl rfl
 try dsimp only at hS
 obtain ⟨hi,hq⟩:=hC
 refine wp_seq ?_
 refine Za hS (qL r2) hB [12,11,10,9,5,4,1] [0] rfl rfl fun a w F hS=>Zb (wp_seq ?_)
 refine Zd hS rfl (fun hc0=>?_) (fun hc0=>?_)
 ·skip
  have hil:i<t.ops.length:=by simp at hc0;omega
  refine wp_skip (Zb (wp_seq (wp_block (wp_seq ?_))))
  refine Zc hS (qy 4 Tryz.underlying36 r2 (qf (oR true 4 .t) r1 qz (qf (oH [.bool false,.int .i64 0,.int .i64 0,.int .i64 0] 102) trivial qz (qS 4 102 r2 r1 qZ)))) hB [11,10,9,7,5,4,1] [102,0] (fun _=>rfl) (fun _=>rfl) fun τ a w F hS=>?_
  try dsimp only [RS.sub,SF.sub,CF.sub,csub,Anc.sub,List.map,Zf,xL,xM,Nat.reduceAdd,xD,xE,xT,xU,xC,xN,zCF,ldSF,rInt,rOp,rTx] at hS
  generalize τ 7=v7 at hS
  try simp only [Int.toNat_natCast] at hS
  refine Zb (wp_seq ?_)
  refine Za hS (qg 0 102 r1 r1 (qa 102 r1 r1 (qf (o_not .t) r1 qz (qM rfl rfl (qv 1 102 rfl r2 r1 (qw 102 rfl r2 r1 (qm rfl rfl rfl rfl (qk rfl (fun h=>o_eql (.w h) (.w h)) r3 qz (qf (ZK .t .t) r2 qz qZ))))))))) hB [23,11,10,9,5,4,1] [0] rfl rfl fun a w F hS=>Zb ?_
  refine Zd hS rfl (fun hc1=>?_) (fun hc1=>?_)
  ·skip
   have hstp:((t.ops.take (i+1)).filter fun o=>!o.read && decide (o.key=n))=((t.ops.take i).filter fun o=>!o.read && decide (o.key=n))++(if (!(Go.Gm.nth t.ops i).read && decide ((Go.Gm.nth t.ops i).key=n))=true then [(Go.Gm.nth t.ops i)] else []):=by rw [ZE hil,List.filter_append];simp only [List.filter_cons,List.filter_nil]
   have hle:((t.ops.take i).filter fun o=>!o.read && decide (o.key=n)).length≤i:=Nat.le_trans (List.length_filter_le _ _) (by rw [List.length_take];omega)
   have hBq:(!(Go.Gm.nth t.ops i).read && decide ((Go.Gm.nth t.ops i).key=n))=true:=hc1
   have hcc:IntKind.wrap .i64 (((((t.ops.take i).filter fun o=>!o.read && decide (o.key=n)).length:Nat):Int)+1)=((((t.ops.take (i+1)).filter fun o=>!o.read && decide (o.key=n)).length:Nat):Int):=by rw [hstp,if_pos hBq,List.length_append,ZC (by omega)];simp
   refine Za hS (qM rfl rfl (qp r1 (qN rfl rfl qZ))) hB [11,10,9,5,4,1] [0] rfl rfl fun a w F hS=>Zh (Zb ?_)
   refine Za hS (qp r1 (qM rfl rfl qZ)) hB [11,10,9,5,4,1] [0] rfl rfl fun a w F hS=>Zb ?_
   replace hS:=hS.ent (i:=11) (s':=.pv (.int .i64 ((i+1:Nat):Int))) rfl (.int (wrap_succ (by omega)))
   replace hS:=hS.ent (i:=5) (s':=.pv (.int .i64 ((((t.ops.take (i+1)).filter fun o=>!o.read && decide (o.key=n)).length:Nat):Int))) rfl (.int hcc)
   obtain ⟨F,hS⟩:=hS.nm [10,9,4,1,5,11] [0] rfl rfl
   exact ⟨(i+1),F,⟨by omega,trivial⟩,hS,by omega⟩
  have hstp:((t.ops.take (i+1)).filter fun o=>!o.read && decide (o.key=n))=((t.ops.take i).filter fun o=>!o.read && decide (o.key=n))++(if (!(Go.Gm.nth t.ops i).read && decide ((Go.Gm.nth t.ops i).key=n))=true then [(Go.Gm.nth t.ops i)] else []):=by rw [ZE hil,List.filter_append];simp only [List.filter_cons,List.filter_nil]
  have hle:((t.ops.take i).filter fun o=>!o.read && decide (o.key=n)).length≤i:=Nat.le_trans (List.length_filter_le _ _) (by rw [List.length_take];omega)
  have hBq:(!(Go.Gm.nth t.ops i).read && decide ((Go.Gm.nth t.ops i).key=n))=false:=hc1
  have hcc:((((t.ops.take i).filter fun o=>!o.read && decide (o.key=n)).length:Nat):Int)=((((t.ops.take (i+1)).filter fun o=>!o.read && decide (o.key=n)).length:Nat):Int):=by rw [hstp,if_neg (by rw [hBq];simp),List.append_nil]
  refine wp_skip (Zh (Zb ?_))
  refine Za hS (qp r1 (qM rfl rfl qZ)) hB [11,10,9,5,4,1] [0] rfl rfl fun a w F hS=>Zb ?_
  replace hS:=hS.ent (i:=11) (s':=.pv (.int .i64 ((i+1:Nat):Int))) rfl (.int (wrap_succ (by omega)))
  replace hS:=hS.ent (i:=5) (s':=.pv (.int .i64 ((((t.ops.take (i+1)).filter fun o=>!o.read && decide (o.key=n)).length:Nat):Int))) rfl (.int hcc)
  obtain ⟨F,hS⟩:=hS.nm [10,9,4,1,5,11] [0] rfl rfl
  exact ⟨(i+1),F,⟨by omega,trivial⟩,hS,by omega⟩
 have hil:i=t.ops.length:=by simp at hc0;omega
 refine wp_exit (Zi (Zi (Zo (Zb (wp_seq ?_)))))
 refine Za hS (qM rfl rfl (qN rfl rfl qZ)) hB [4] [0] rfl rfl fun a w F hS=>Zb (wp_ret ?_)
 refine Zq hfr hS rfl rfl rfl (.int (by rw [hil,List.take_length]))
def wcnt (l:List OpD) (k:Int):Nat:=(l.filter fun o=>!o.read && decide (o.key=k)).length
theorem ZiV {l:List OpD} {i:Nat} (h:i<l.length) (k:Int):wcnt (l.take (i+1)) k=wcnt (l.take i) k+if (Go.Gm.nth l i).read=false∧(Go.Gm.nth l i).key=k then 1 else 0:=by
 unfold wcnt
 rw [ZE h,List.filter_append,List.length_append]
 congr 1
 by_cases h1:(Go.Gm.nth l i).read=false∧(Go.Gm.nth l i).key=k
 · rw [if_pos h1];simp [h1.1,h1.2]
 · rw [if_neg h1]
   have:(!(Go.Gm.nth l i).read && decide ((Go.Gm.nth l i).key=k))=false:=by
     cases hr:(Go.Gm.nth l i).read with
     | true=>rfl
     | false=>simp;exact fun e=>h1 ⟨hr,e⟩
   simp [this]
theorem ZrV (l:List OpD) (i:Nat) (k:Int):wcnt (l.take i) k≤i:=Nat.le_trans (List.length_filter_le _ _) (by rw [List.length_take];omega)
def Zag (id:Int):List OpD→List OpD→Int
 | _,[]=>0
 | s,o :: r=>if ZZ o=false then 1 else if o.read=true∧o.tx=id∧(wcnt s o.key:Int)<o.nth then 6 else Zag id (s ++ [o]) r
def Z1 (t:TxD):Int:=if ¬ (1≤t.id∧t.id≤1048575) then 1 else if 4095<t.ops.length then 9 else Zag t.id [] t.ops
theorem Zdi {id:Int} {l:List OpD} {i:Nat} (h:i<l.length):Zag id (l.take i) (l.drop i)=if ZZ (Go.Gm.nth l i)=false then 1 else if (Go.Gm.nth l i).read=true∧(Go.Gm.nth l i).tx=id∧(wcnt (l.take i) (Go.Gm.nth l i).key:Int)<(Go.Gm.nth l i).nth then 6 else Zag id (l.take (i+1)) (l.drop (i+1)):=by
 rw [Zcu h,Zag,ZE h]
theorem ZjF {id:Int} {l:List OpD} {i:Nat} (h:i=l.length):Zag id (l.take i) (l.drop i)=0:=by rw [h,List.drop_length];rfl
def Zki (id:Int) (o:OpD):Bool:=(o.read && !decide (o.tx=0)) && !decide (o.tx=id)
def ZaD (id:Int) (out:List Zb1) (o:OpD):List Zb1:=if Zki id o=true∧ofO o ∉ out then out ++ [ofO o] else out
def ZcG (id:Int) (l:List OpD):List Zb1:=l.foldl (ZaD id) []
def ZaE (t:TxD):List Zb1:=ZcG t.id t.ops
theorem Zke {id:Int} {l:List OpD} {i:Nat} (h:i<l.length):ZcG id (l.take (i+1))=ZaD id (ZcG id (l.take i)) (Go.Gm.nth l i):=by
 unfold ZcG
 rw [ZE h,List.foldl_append]
 rfl
theorem Zje (id:Int) (out:List Zb1) (o:OpD):(ZaD id out o).length≤out.length+1:=by
 unfold ZaD
 split <;> simp
theorem Zhx (id:Int) (l:List OpD) (i:Nat):(ZcG id (l.take i)).length≤i:=by
 have key:∀ (l:List OpD) (out:List Zb1),(l.foldl (ZaD id) out).length≤out.length+l.length:=by
   intro l
   induction l with
   | nil=>intro out;simp
   | cons x l ih=>
     intro out
     have h1:=ih (ZaD id out x)
     have h2:=Zje id out x
     rw [List.foldl_cons,List.length_cons];omega
 have:=key (l.take i) []
 rw [List.length_take] at this
 unfold ZcG
 simp at this ⊢
 omega
theorem ZkA {id:Int} {l:List OpD} (h:∀ o ∈ l,o.read=false):ZcG id l = []:=by
 have key:∀ (l:List OpD),(∀ o ∈ l,o.read=false)→l.foldl (ZaD id) [] = []:=by
   intro l
   induction l with
   | nil=>intro _;rfl
   | cons x l ih=>
     intro h
     have hx:=h x (by simp)
     rw [List.foldl_cons,show ZaD id [] x = [] by unfold ZaD Zki;simp [hx]]
     exact ih fun o ho=>h o (by simp [ho])
 exact key l h
def bareT (t:TxD):TxD:={ t with ops:=t.ops.filter fun o=>!o.read }
theorem ZfF (l:List OpD) (k:Int):wcnt (l.filter fun o=>!o.read) k=wcnt l k:=by
 unfold wcnt
 rw [List.filter_filter]
 congr 2
 funext o
 cases o.read <;> simp
theorem Zg5 (t:TxD):ZaE (bareT t) = []:=ZkA fun o ho=>by
 have:=(List.mem_filter.1 ho).2
 simpa using this
theorem ZcQ {id:Int} : ∀ (l s s':List OpD),Zag id s l=0→Zag id s' (l.filter fun o=>!o.read)=0
 | [],_,_,_=>rfl
 | o :: l,s,s',h=>by
   rw [Zag] at h
   split at h
   · cases h
   · rename_i h1
     split at h
     · cases h
     · rename_i h2
       cases hr:o.read with
       | true=>rw [List.filter_cons_of_neg (by simp [hr])];exact ZcQ l _ s' h
       | false=>
         rw [List.filter_cons_of_pos (by simp [hr]),Zag,if_neg h1,if_neg (by simp [hr])]
         exact ZcQ l _ _ h
theorem Zbc {t:TxD} (h:Z1 t=0):Z1 (bareT t)=0:=by
 unfold Z1 at h ⊢
 split at h
 · cases h
 · rename_i h1
   split at h
   · cases h
   · rename_i h2
     have h3:(bareT t).ops.length≤t.ops.length:=List.length_filter_le _ _
     rw [if_neg (show ¬ ¬ (1≤(bareT t).id∧(bareT t).id≤1048575) from h1),if_neg (by omega)]
     exact ZcQ _ _ _ h
structure Zbj where
 key:Int
 nth:Int
 deriving DecidableEq,Inhabited
def Zbs (p:Zbj):List Int:=[p.key,p.nth]
def Zdr (v:Zb1):List Int:=[v.tx,v.key,v.nth]
def Zck (es:List (GE Zbj Int)) (s:List OpD):Prop:=∀ k n,0≤n→(gGet (⟨k,n⟩:Zbj) es).getD 0=if n=0 then (wcnt s k:Int) else if n≤wcnt s k then 1 else 0
theorem Zn7:Zck [] []:=fun k n h=>by
 show (0:Int)=_
 have:wcnt [] k=0:=rfl
 rw [this]
 split
 · rfl
 · rw [if_neg (by simp;omega)]
theorem Znw {es:List (GE Zbj Int)} {l:List OpD} {i:Nat} (h:Zck es (l.take i)) (hi:i<l.length) (hr:(Go.Gm.nth l i).read=true):Zck es (l.take (i+1)):=fun k n hn=>by
 rw [h k n hn,ZiV hi,if_neg (c:=(Go.Gm.nth l i).read=false∧(Go.Gm.nth l i).key=k) (by simp [hr]),Nat.add_zero]
theorem Zoc {es es2:List (GE Zbj Int)} {l:List OpD} {i:Nat} {c:Int} (h:Zck es (l.take i)) (hi:i<l.length) (hr:(Go.Gm.nth l i).read=false) (hc:c=(wcnt (l.take i) (Go.Gm.nth l i).key:Int)+1)
   (he:∀ p,(gGet p es2).getD 0=if p = ⟨(Go.Gm.nth l i).key,c⟩ then 1 else if p = ⟨(Go.Gm.nth l i).key,0⟩ then c else (gGet p es).getD 0):Zck es2 (l.take (i+1)):=fun k n hn=>by
 have hk:=h k n hn
 rw [he,hk,ZiV hi]
 by_cases e:(Go.Gm.nth l i).key=k
 · rw [if_pos (c:=(Go.Gm.nth l i).read=false∧_) ⟨hr,e⟩]
   rw [e] at hc
   rw [e]
   by_cases e2:n=c
   · subst e2
     rw [if_pos rfl,if_neg (by omega),if_pos (by omega)]
   · rw [if_neg (by simp [e2])]
     by_cases e3:n=0
     · subst e3
       rw [if_pos rfl,if_pos rfl,hc];simp
     · rw [if_neg (by simp [e3]),if_neg e3,if_neg e3]
       by_cases e4:n≤(wcnt (l.take i) k:Int)
       · rw [if_pos e4,if_pos (by omega)]
       · rw [if_neg e4,if_neg (by omega)]
 · rw [if_neg (c:=(Go.Gm.nth l i).read=false∧_) (by simp [e]),Nat.add_zero,if_neg (by simp;exact fun h=>absurd h.symm e),if_neg (by simp;exact fun h=>absurd h.symm e)]
def Zd3 (es:List (GE Zb1 Int)) (i:Nat) (out:List Zb1):Prop:=∀ v,0≤(gGet v es).getD 0∧(gGet v es).getD 0≤i∧(0<(gGet v es).getD 0 ↔ v ∈ out)
theorem ZpH:Zd3 [] 0 []:=fun v=>⟨Int.le_refl _,Int.le_refl _,by show (0:Int)<0 ↔ _;simp⟩
theorem Zqh {es:List (GE Zb1 Int)} {i:Nat} {out:List Zb1} (h:Zd3 es i out):Zd3 es (i+1) out:=fun v=>⟨(h v).1,by have:=(h v).2.1;omega,(h v).2.2⟩
theorem Zo4 {es es2:List (GE Zb1 Int)} {i:Nat} {out:List Zb1} {v:Zb1} (h:Zd3 es i out) (he:∀ u,(gGet u es2).getD 0=if u=v then (gGet v es).getD 0+1 else (gGet u es).getD 0):Zd3 es2 (i+1) (if v ∈ out then out else out ++ [v]):=fun u=>by
 have h1:=h u
 have h2:=h v
 rw [he u]
 by_cases e:u=v
 · subst e
   rw [if_pos rfl]
   refine ⟨by omega,by omega,?_⟩
   constructor
   · intro _;split <;> simp_all
   · intro _;omega
 · rw [if_neg e]
   refine ⟨by omega,by omega,?_⟩
   rw [h1.2.2]
   split
   · rfl
   · simp [e]
theorem ZgY {κ:Type} [DecidableEq κ] {k p:κ} {x:Int} (s:List (GE κ Int)×Nat):(gGet p (gSet k x (gEns 0 k s).1)).getD 0=if p=k then x else (gGet p s.1).getD 0:=by
 rw [Zmf];split <;> rfl
theorem ZpP {κ:Type} [DecidableEq κ] {k p:κ} {x:Int} (s:List (GE κ Int)×Nat):(gGet p (gPut k x s).1).getD 0=if p=k then x else (gGet p s.1).getD 0:=by
 rw [ZlD];split <;> rfl
theorem Zf4:ZpB Tryz.prog 101 (fun k=>∀ x ∈ Zbs k,inR .i64 x) (kvS Zbs):=ZfB (n:=2) (fun _=>rfl) (fun a b h=>by cases a;cases b;simpa [Zbs] using h) (by kernel_rfl)
theorem Znr:ZpB Tryz.prog 105 (fun k=>∀ x ∈ Zdr k,inR .i64 x) (kvS Zdr):=ZfB (n:=3) (fun _=>rfl) (fun a b h=>by cases a;cases b;simpa [Zdr] using h) (by kernel_rfl)
theorem ZiS {es:List (GE Zbj Int)} {s:List OpD} {o:OpD} {id:Int} (h:Zck es s) (hk:ZZ o=true) (hr:o.read=true) (hid:1≤id):(o.tx=id∧(gGet (⟨o.key,o.nth⟩:Zbj) es).getD 0=0) ↔ (o.read=true∧o.tx=id∧(wcnt s o.key:Int)<o.nth):=by
 have hb:=Zb4 hk
 have h1:=h o.key o.nth (by omega)
 constructor
 · rintro ⟨e1,e2⟩
   refine ⟨hr,e1,?_⟩
   have hn:1≤o.nth:=by
     rw [ZgT hr] at hk
     unfold ofO at hk
     rw [if_pos hr] at hk
     unfold ZbO at hk
     rw [if_neg (show ¬ o.tx=0 by omega)] at hk
     simp at hk
     omega
   rw [e2,if_neg (by omega)] at h1
   split at h1
   · cases h1
   · omega
 · rintro ⟨_,e1,e2⟩
   refine ⟨e1,?_⟩
   rw [h1,if_neg (by omega),if_neg (by omega)]
theorem ZiK (t:TxD):FnP Tryz.prog 23 [.agg (rTx t)] (.int .i64 (Z1 t)):=by
 refine FnP.mk Tryz.func23 rfl Tryz.ntmps23 rfl ?_
 intro B a w F hB hfr hS
 refine wp_seq ?_
 refine Zc hS (qx 101 r1 (qI qZ)) hB [2,1] [101,0] (fun _=>rfl) (fun _=>rfl) fun τ a w F hS=>?_
 try dsimp only [RS.sub,SF.sub,CF.sub,csub,Anc.sub,List.map,zCF,rInt,rOp,rTx] at hS
 generalize τ 1=v1 at hS
 refine Zb (wp_seq (wp_block (wp_seq ?_)))
 refine Za hS (qg 0 101 r1 r1 (qa 101 r1 r1 (qf (Zbq .t qi) r1 qz (qM rfl rfl (qv 0 101 rfl r2 r1 (qw 101 rfl r2 r1 (qk rfl (fun h=>ZaR (.w h) qi) r2 qz (qf (Zao .t .t) r2 qz (qN rfl rfl qZ))))))))) hB [7,2,1] [101,0] rfl rfl fun a w F hS=>Zb ?_
 refine Zd hS rfl (fun hc0=>?_) (fun hc0=>?_)
 ·skip
  have hg:1=Z1 t:=by unfold Z1;rw [if_pos (by simp at hc0;omega)]
  refine wp_seq ?_
  refine Za hS (qI qZ) hB [2,1] [101,0] rfl rfl fun a w F hS=>Zb (wp_ret (Zg (Ze ?_)))
  refine Zq hfr hS rfl rfl rfl (.int hg)
 have hid:1≤t.id∧t.id≤1048575:=by simp at hc0;omega
 refine wp_seq ?_
 refine Za hS (qg 2 101 r1 r1 (qa 101 r1 r1 (qu Tryz.underlying36 r1 (qf (ZaR .t qi) r1 qz (qN rfl rfl qZ))))) hB [16,2,1] [101,0] rfl rfl fun a w F hS=>Zb ?_
 refine Zd hS rfl (fun hc1=>?_) (fun hc1=>?_)
 ·skip
  have hg:9=Z1 t:=by unfold Z1;rw [if_neg (by omega),if_pos (by simp at hc1;omega)]
  refine wp_seq ?_
  refine Za hS (qI qZ) hB [2,1] [101,0] rfl rfl fun a w F hS=>Zb (wp_ret (Zg (Ze ?_)))
  refine Zq hfr hS rfl rfl rfl (.int hg)
 have hlen:t.ops.length≤4095:=by simp at hc1;omega
 have hT:Z1 t=Zag t.id [] t.ops:=by unfold Z1;rw [if_neg (by omega),if_neg (by omega)]
 refine wp_skip (Zh (Zb (wp_seq ?_)))
 refine Zc hS (qf (Zez (ek:=(fun n:Int=>PV.int .i64 n)) (ok:=(fun k=>∀ x ∈ Zbs k,inR .i64 x)) (kv:=(kvS Zbs)) 102) trivial qz (qN rfl rfl qZ)) hB [3,2,1] [102,101,0] (fun _=>rfl) (fun _=>rfl) fun τ a w F hS=>?_
 try dsimp only [RS.sub,SF.sub,CF.sub,csub,Anc.sub,List.map,Zf,xL,xM,Nat.reduceAdd,xD,xE,xT,xU,xC,xN,zCF,rInt,rOp,rTx] at hS
 generalize τ 21=v21 at hS
 refine Zb (wp_seq (wp_seq ?_))
 refine Za hS (qg 2 101 r1 r1 (qa 101 r1 r1 (qu Tryz.underlying36 r1 (qJ qZ)))) hB [25,24,23,3,2,1] [102,101,0] rfl rfl fun a w F hS=>Zb (wp_block ?_)
 refine Zr (σ:=(Nat)×(List (GE Zbj Int))×(Nat)) [1,2,3,23,24] [0,101] (fun s=>[(25,.pv (.int .i64 (s.1:Int)))]) (fun s=>[(102,.ob (.val v21) (Zeg (fun n:Int=>PV.int .i64 n) (fun k=>∀ x ∈ Zbs k,inR .i64 x) (kvS Zbs) s.2.1 s.2.2))]) (fun s=>s.1≤t.ops.length∧(Zag t.id [] t.ops=Zag t.id (t.ops.take s.1) (t.ops.drop s.1)∧Zck s.2.1 (t.ops.take s.1))) (fun s=>t.ops.length - s.1) ((0),([]),(0)) hS ⟨rfl,rfl,rfl,rfl,rfl,rfl,trivial⟩ ⟨rfl,rfl,rfl,trivial⟩ ⟨Nat.zero_le _,⟨rfl,Zn7⟩⟩ ?_
 clear hS;intro s a w F hC hS
 obtain ⟨i,es,ck⟩:=s
 try dsimp only at hC
 obtain ⟨F,hS⟩:=hS.nm [25,24,23,3,2,1] [102,101,0] rfl rfl
 try dsimp only at hS
 obtain ⟨hi,hq⟩:=hC
 obtain ⟨hrt,hsp⟩:=hq
 have hwl:=fun k=>ZrV t.ops i k
 refine wp_seq ?_
 refine Za hS (qL r2) hB [26,25,24,23,3,2,1] [102,101,0] rfl rfl fun a w F hS=>Zb (wp_seq ?_)
 refine Zd hS rfl (fun hc2=>?_) (fun hc2=>?_)
 ·skip
  have hil:i<t.ops.length:=by simp at hc2;omega
  refine wp_skip (Zb (wp_seq (wp_block (wp_seq ?_))))
  refine Zc hS (qy 4 Tryz.underlying36 r2 (qf (oR true 4 .t) r1 qz (qf (oH [.bool false,.int .i64 0,.int .i64 0,.int .i64 0] 103) trivial qz (qS 4 103 r2 r1 qZ)))) hB [25,24,23,5,3,2,1] [103,102,101,0] (fun _=>rfl) (fun _=>rfl) fun τ a w F hS=>?_
  try dsimp only [RS.sub,SF.sub,CF.sub,csub,Anc.sub,List.map,Zf,xL,xM,Nat.reduceAdd,xD,xE,xT,xU,xC,xN,zCF,ldSF,rInt,rOp,rTx] at hS
  generalize τ 5=v5 at hS
  try simp only [Int.toNat_natCast] at hS
  refine Zb (wp_seq (wp_seq ?_))
  refine Za hS (qe 4 103 r1 r1 (qf (oP (Zd7 (Go.Gm.nth t.ops i)) Tryz.func58 (Args.one (.pagg .t))) r1 qz (qN rfl rfl qZ))) hB [25,24,23,6,5,3,2,1] [103,102,101,0] rfl rfl fun a w F hS=>Zb (wp_seq ?_)
  refine Za hS (qM rfl rfl (qf (o_neq .t qi) r1 qz qZ)) hB [32,25,24,23,6,5,3,2,1] [103,102,101,0] rfl rfl fun a w F hS=>Zb ?_
  refine Zd hS rfl (fun hc3=>?_) (fun hc3=>?_)
  ·skip
   have hk:ZZ (Go.Gm.nth t.ops i)=false:=by unfold ZbD at hc3;simpa using hc3
   have hg:ZbD (Go.Gm.nth t.ops i)=Z1 t:=by rw [hT,hrt,Zdi hil,if_pos hk];unfold ZbD;rw [hk];rfl
   refine wp_seq ?_
   refine Za hS (qM rfl rfl (qN rfl rfl qZ)) hB [25,24,23,5,3,2,1] [103,102,101,0] rfl rfl fun a w F hS=>Zb (wp_ret (Ze (Zg (Ze (Ze (Zg (Ze ?_)))))))
   refine Zq hfr hS rfl rfl rfl (.int hg)
  have hk:ZZ (Go.Gm.nth t.ops i)=true:=by unfold ZbD at hc3;simpa using hc3
  refine wp_skip (Zb (wp_seq (wp_seq ?_)))
  refine Za hS (qg 0 103 r1 r1 (qa 103 r1 r1 (qf (o_not .t) r1 qz qZ))) hB [36,25,24,23,5,3,2,1] [103,102,101,0] rfl rfl fun a w F hS=>Zb ?_
  refine Zd hS rfl (fun hc4=>?_) (fun hc4=>?_)
  ·skip
   have hr:(Go.Gm.nth t.ops i).read=false:=by simpa using hc4
   have hm0:=hsp (Go.Gm.nth t.ops i).key 0 (Int.le_refl _)
   rw [if_pos rfl] at hm0
   have hwc:IntKind.wrap .i64 (((gGet (⟨(Go.Gm.nth t.ops i).key,0⟩:Zbj) es).getD 0)+1)=(wcnt (t.ops.take i) (Go.Gm.nth t.ops i).key:Int)+1:=by rw [hm0];exact ZC (by have:=hwl (Go.Gm.nth t.ops i).key;omega)
   refine wp_seq ?_
   replace hS:=hS.turnZ 102 (0) (⟨(Go.Gm.nth t.ops i).key,0⟩:Zbj) rfl
   refine Zgb 102 8 (m1:=1) (m2:=2) (by kernel_rfl) hS (by kernel_rfl) (qM rfl rfl (qg 1 103 r1 r1 (qa 103 r1 r1 (qf (oB [(0,.tmp 39),(1,_)] [.int .i64 0,.int .i64 0] [(0,1),(1,1)] (.one rfl .t one_int (by kernel_rfl) (.one rfl qi one_int (by kernel_rfl) .nil))) r1 qz (qf (Zi6 (ek:=(fun n:Int=>PV.int .i64 n)) (z0:=(0)) 102 Tryz.underlying98 Zf4 (by kernel_rfl) (fun _ _=>⟨rfl,ZjD⟩) .is (Z6.agg (enc:=Zbs) (k:=(⟨(Go.Gm.nth t.ops i).key,0⟩:Zbj)) (.pagg .t) rfl)) r2 r1 (qp r1 (qf (ZfR (ek:=(fun n:Int=>PV.int .i64 n)) (z0:=(0)) 102 Tryz.underlying98 Zf4 (by kernel_rfl) (fun _ _=>⟨rfl,ZjD⟩) .is (Z6.agg (enc:=Zbs) (k:=(⟨(Go.Gm.nth t.ops i).key,0⟩:Zbj)) (.pagg .t) rfl) (by intros;first | rfl | simp [Anc.v,upd])) r2 r1 (qf (o_extract .t rfl) r1 qz (qf (Zec 102 (ZfJ _ _ _) .is .t .t) r3 r1 qZ))))))))) (by kernel_rfl) (by kernel_rfl) (by kernel_rfl) rfl rfl rfl (fun _ _ _ _ h=>.inr h) (by rw [hB];kernel_rfl) fun a w F hS=>?_
   obtain ⟨F,hS⟩:=hS.nm [25,24,23,5,3,2,1] [103,102,101,0] rfl rfl
   try dsimp only [List.map,Zf,xL,xM,Nat.reduceAdd,xD,xE,xT,xU,xC,xN,zCF,ldSF,rInt,rOp,rTx] at hS
   obtain ⟨es1,he1⟩:∃ z,z=gSet (⟨(Go.Gm.nth t.ops i).key,0⟩:Zbj) (IntKind.wrap .i64 (((gGet (⟨(Go.Gm.nth t.ops i).key,0⟩:Zbj) es).getD 0)+1)) (gEns 0 (⟨(Go.Gm.nth t.ops i).key,0⟩:Zbj) (es,ck)).1:=⟨_,rfl⟩
   obtain ⟨ck1,hc1⟩:∃ z,z=(gEns 0 (⟨(Go.Gm.nth t.ops i).key,0⟩:Zbj) (es,ck)).2:=⟨_,rfl⟩
   rw [← he1,← hc1] at hS
   refine Zb (wp_seq ?_)
   refine Zz hS (qM rfl rfl (qg 1 103 r1 r1 (qa 103 r1 r1 (qM rfl rfl (qg 1 103 r1 r1 (qa 103 r1 r1 (qf (oB [(0,.tmp 50),(1,_)] [.int .i64 0,.int .i64 0] [(0,1),(1,1)] (.one rfl .t one_int (by kernel_rfl) (.one rfl qi one_int (by kernel_rfl) .nil))) r1 qz (qf (ZbM (ek:=(fun n:Int=>PV.int .i64 n)) (z0:=(0)) 102 Tryz.underlying98 Zf4 (by kernel_rfl) (fun _ _=>⟨rfl,ZjD⟩) .is (Z6.agg (enc:=Zbs) (k:=(⟨(Go.Gm.nth t.ops i).key,0⟩:Zbj)) (.pagg .t) rfl)) r2 r1 (qf (oB [(0,.tmp 47),(1,.tmp 52)] [.int .i64 0,.int .i64 0] [(0,1),(1,1)] (.one rfl .t one_int (by kernel_rfl) (.one rfl .t one_int (by kernel_rfl) .nil))) r2 qz (qf (ZeR (ek:=(fun n:Int=>PV.int .i64 n)) 102 Tryz.underlying98 Zf4 .is (Z6.agg (enc:=Zbs) (k:=(⟨(Go.Gm.nth t.ops i).key,(gGet (⟨(Go.Gm.nth t.ops i).key,0⟩:Zbj) es1).getD 0⟩:Zbj)) (.pagg .t) rfl) qi) r2 r1 qZ)))))))))) hB [25,24,23,5,3,2,1] [103,102,101,0] rfl rfl fun a w F hS=>?_
   try dsimp only [List.map,Zf,xL,xM,Nat.reduceAdd,xD,xE,xT,xU,xC,xN,zCF,ldSF,rInt,rOp,rTx] at hS
   have hv1:∀ p,(gGet p es1).getD 0=if p=(⟨(Go.Gm.nth t.ops i).key,0⟩:Zbj) then (wcnt (t.ops.take i) (Go.Gm.nth t.ops i).key:Int)+1 else (gGet p es).getD 0:=fun p=>by rw [he1,ZgY,hwc]
   obtain ⟨es2,he2⟩:∃ z,z=(gPut (⟨(Go.Gm.nth t.ops i).key,(gGet (⟨(Go.Gm.nth t.ops i).key,0⟩:Zbj) es1).getD 0⟩:Zbj) 1 (es1,ck1)).1:=⟨_,rfl⟩
   obtain ⟨ck2,hc2⟩:∃ z,z=(gPut (⟨(Go.Gm.nth t.ops i).key,(gGet (⟨(Go.Gm.nth t.ops i).key,0⟩:Zbj) es1).getD 0⟩:Zbj) 1 (es1,ck1)).2:=⟨_,rfl⟩
   rw [← he2,← hc2] at hS
   have hR2:Zag t.id [] t.ops=Zag t.id (t.ops.take (i+1)) (t.ops.drop (i+1))∧Zck es2 (t.ops.take (i+1)):=⟨by rw [hrt,Zdi hil,if_neg (by rw [hk];decide),if_neg (by rw [hr];simp)],Zoc hsp hil hr rfl (fun p=>by rw [he2,ZpP];dsimp only;rw [hv1,hv1,if_pos rfl])⟩
   refine Zb (wp_exit (Zi (Zo (Zb ?_))))
   refine Za hS (qp r1 (qM rfl rfl qZ)) hB [25,24,23,3,2,1] [103,102,101,0] rfl rfl fun a w F hS=>Zb ?_
   replace hS:=hS.ent (i:=25) (s':=.pv (.int .i64 ((i+1:Nat):Int))) rfl (.int (wrap_succ (by omega)))
   obtain ⟨F,hS⟩:=hS.nm [24,23,3,2,1,25] [101,0,102] rfl rfl
   exact ⟨((i+1),(es2),(ck2)),F,⟨by omega,hR2⟩,hS,by omega⟩
  have hr:(Go.Gm.nth t.ops i).read=true:=by simpa using hc4
  refine wp_skip (Zb (wp_seq ?_))
  refine Za hS (qg 2 103 r1 r1 (qa 103 r1 r1 (qg 0 101 r1 r1 (qa 101 r1 r1 (qf (o_eql .t .t) r2 qz (qM rfl rfl (qm rfl rfl rfl rfl (qv 1 103 rfl r2 r1 (qw 103 rfl r2 r1 (qv 3 103 rfl r2 r1 (qw 103 rfl r2 r1 (qk rfl (fun h=>Zm4 (r:=[(0,.tmp 62),(1,.tmp 64)]) (zs:=[.int .i64 0,.int .i64 0]) (pl:=[(0,1),(1,1)]) (by kernel_rfl) (by kernel_rfl) (.one rfl (.w h) one_int (by kernel_rfl) (.one rfl (.w h) one_int (by kernel_rfl) .nil)) (by rfl)) r3 qz (qk rfl (fun h=>ZbM (ek:=(fun n:Int=>PV.int .i64 n)) (z0:=(0)) 102 Tryz.underlying98 Zf4 (by kernel_rfl) (fun _ _=>⟨rfl,ZjD⟩) (.w h .is) (Z6.agg (enc:=Zbs) (k:=(⟨(Go.Gm.nth t.ops i).key,(Go.Gm.nth t.ops i).nth⟩:Zbj)) (.pagg (.w h)) rfl)) r3 r1 (qk rfl (fun h=>o_eql (.w h) qi) r2 qz (qf (ZK .t .t) r2 qz qZ))))))))))))))) hB [68,25,24,23,3,2,1] [103,102,101,0] rfl rfl fun a w F hS=>Zb ?_
  refine Zd hS rfl (fun hc5=>?_) (fun hc5=>?_)
  ·skip
   have hg:6=Z1 t:=by rw [hT,hrt,Zdi hil,if_neg (by rw [hk];decide),if_pos ((ZiS hsp hk hr hid.1).1 (by simpa using hc5))]
   refine wp_seq ?_
   refine Za hS (qI qZ) hB [25,24,23,3,2,1] [103,102,101,0] rfl rfl fun a w F hS=>Zb (wp_ret (Zg (Ze (Ze (Zg (Ze ?_))))))
   refine Zq hfr hS rfl rfl rfl (.int hg)
  have hno:=fun h9=>(by simpa using hc5:¬ ((Go.Gm.nth t.ops i).tx=t.id∧(gGet (⟨(Go.Gm.nth t.ops i).key,(Go.Gm.nth t.ops i).nth⟩:Zbj) es).getD 0=0)) ((ZiS hsp hk hr hid.1).2 h9)
  obtain ⟨es2,he2⟩:∃ z,z=es:=⟨_,rfl⟩
  obtain ⟨ck2,hc2⟩:∃ z,z=ck:=⟨_,rfl⟩
  have hR2:Zag t.id [] t.ops=Zag t.id (t.ops.take (i+1)) (t.ops.drop (i+1))∧Zck es2 (t.ops.take (i+1)):=⟨by rw [hrt,Zdi hil,if_neg (by rw [hk];decide),if_neg hno],by rw [he2];exact Znw hsp hil hr⟩
  rw [← he2,← hc2] at hS
  refine wp_skip (Zh (Zb ?_))
  refine Za hS (qp r1 (qM rfl rfl qZ)) hB [25,24,23,3,2,1] [103,102,101,0] rfl rfl fun a w F hS=>Zb ?_
  replace hS:=hS.ent (i:=25) (s':=.pv (.int .i64 ((i+1:Nat):Int))) rfl (.int (wrap_succ (by omega)))
  obtain ⟨F,hS⟩:=hS.nm [24,23,3,2,1,25] [101,0,102] rfl rfl
  exact ⟨((i+1),(es2),(ck2)),F,⟨by omega,hR2⟩,hS,by omega⟩
 have hil:i=t.ops.length:=by simp at hc2;omega
 have hg:0=Z1 t:=by rw [hT,hrt,ZjF hil]
 refine wp_exit (Zi (Zi (Zo (Zb (wp_seq ?_)))))
 refine Za hS (qI qZ) hB [2] [102,101,0] rfl rfl fun a w F hS=>Zb (wp_ret ?_)
 refine Zq hfr hS rfl rfl rfl (.int hg)
theorem ZiN (t:TxD) (hl:t.ops.length≤1000000):FnP Tryz.prog 60 [.agg (rTx t)] (.sl ZO (ZaE t)):=by
 refine FnP.mk Tryz.func60 rfl Tryz.ntmps60 rfl ?_
 intro B a w F hB hfr hS
 refine wp_seq ?_
 refine Zc hS (qx 101 r1 (qC qZ)) hB [2,1] [101,0] (fun _=>rfl) (fun _=>rfl) fun τ a w F hS=>?_
 try dsimp only [RS.sub,SF.sub,CF.sub,csub,Anc.sub,List.map,zCF,rInt,rOp,rTx,ZO] at hS
 generalize τ 1=v1 at hS
 refine Zb (wp_seq ?_)
 refine Za hS (qC qZ) hB [3,2,1] [101,0] rfl rfl fun a w F hS=>Zb (wp_seq ?_)
 refine Zc hS (qf (Zez (ek:=(fun n:Int=>PV.int .i64 n)) (ok:=(fun k=>∀ x ∈ Zdr k,inR .i64 x)) (kv:=(kvS Zdr)) 102) trivial qz (qN rfl rfl qZ)) hB [4,3,2,1] [102,101,0] (fun _=>rfl) (fun _=>rfl) fun τ a w F hS=>?_
 try dsimp only [RS.sub,SF.sub,CF.sub,csub,Anc.sub,List.map,Zf,xL,xM,Nat.reduceAdd,xD,xE,xT,xU,xC,xN,zCF,rInt,rOp,rTx,ZO] at hS
 generalize τ 8=v8 at hS
 refine Zb (wp_seq (wp_seq ?_))
 refine Za hS (qg 2 101 r1 r1 (qa 101 r1 r1 (qu Tryz.underlying36 r1 (qJ qZ)))) hB [12,11,10,4,3,2,1] [102,101,0] rfl rfl fun a w F hS=>Zb (wp_block ?_)
 replace hS:=hS.fresh 50 rfl
 replace hS:=hS.turn 50 rfl (ZaC (T:=105) (sz:=3) (R:=ZO))
 refine Zr (σ:=(Nat)×(List (GE Zb1 Int))×(Nat)×(Value)×(List Zb1)) [1,2,4,10,11] [0,101] (fun s=>[(12,.pv (.int .i64 (s.1:Int))),(3,.pv (.is s.2.2.2.1))]) (fun s=>[(102,.ob (.val v8) (Zeg (fun n:Int=>PV.int .i64 n) (fun k=>∀ x ∈ Zdr k,inR .i64 x) (kvS Zdr) s.2.1 s.2.2.1)),(50,.ob (.val s.2.2.2.1) (Zu 105 3 ZO s.2.2.2.2))]) (fun s=>s.1≤t.ops.length∧(s.2.2.2.2=ZcG t.id (t.ops.take s.1)∧Zd3 s.2.1 s.1 s.2.2.2.2)) (fun s=>t.ops.length - s.1) ((0),([]),(0),(.slice none 0 0),([])) hS ⟨rfl,rfl,rfl,rfl,rfl,rfl,rfl,trivial⟩ ⟨rfl,rfl,rfl,rfl,trivial⟩ ⟨Nat.zero_le _,⟨rfl,ZpH⟩⟩ ?_
 clear hS;intro s a w F hC hS
 obtain ⟨i,es,ck,v,out⟩:=s
 try dsimp only at hC
 obtain ⟨F,hS⟩:=hS.nm [12,11,10,4,3,2,1] [102,101,50,0] rfl rfl
 try dsimp only at hS
 obtain ⟨hi,hq⟩:=hC
 obtain ⟨hou,hvi⟩:=hq
 have hol:out.length≤i:=by rw [hou];exact Zhx _ _ _
 have hst:=fun hil:i<t.ops.length=>Zke (id:=t.id) hil
 refine wp_seq ?_
 refine Za hS (qL r2) hB [13,12,11,10,4,3,2,1] [102,101,50,0] rfl rfl fun a w F hS=>Zb (wp_seq ?_)
 refine Zd hS rfl (fun hc0=>?_) (fun hc0=>?_)
 ·skip
  have hil:i<t.ops.length:=by simp at hc0;omega
  refine wp_skip (Zb (wp_seq (wp_block (wp_seq ?_))))
  refine Zc hS (qy 4 Tryz.underlying36 r2 (qf (oR true 4 .t) r1 qz (qf (oH [.bool false,.int .i64 0,.int .i64 0,.int .i64 0] 103) trivial qz (qS 4 103 r2 r1 qZ)))) hB [12,11,10,6,4,3,2,1] [103,102,101,50,0] (fun _=>rfl) (fun _=>rfl) fun τ a w F hS=>?_
  try dsimp only [RS.sub,SF.sub,CF.sub,csub,Anc.sub,List.map,Zf,xL,xM,Nat.reduceAdd,xD,xE,xT,xU,xC,xN,zCF,ldSF,rInt,rOp,rTx,ZO] at hS
  generalize τ 6=v6 at hS
  try simp only [Int.toNat_natCast] at hS
  refine Zb (wp_seq ?_)
  refine Zc hS (qe 4 103 r1 r1 (qf (oP (ZqH (Go.Gm.nth t.ops i)) Tryz.func105 (Args.one (.pagg .t))) r1 qz (qf (oH [.int .i64 0,.int .i64 0,.int .i64 0] 104) trivial qz (qf (oA 3 104 .same (.conv .t .agg)) r2 r1 qZ)))) hB [12,11,10,7,6,4,3,2,1] [104,103,102,101,50,0] (fun _=>rfl) (fun _=>rfl) fun τ a w F hS=>?_
  try dsimp only [RS.sub,SF.sub,CF.sub,csub,Anc.sub,List.map,Zf,xL,xM,Nat.reduceAdd,xD,xE,xT,xU,xC,xN,zCF,ldSF,rInt,rOp,rTx,ZO] at hS
  generalize τ 7=v7 at hS
  refine Zb (wp_seq (wp_seq ?_))
  refine Za hS (qg 0 103 r1 r1 (qa 103 r1 r1 (qf (o_not .t) r1 qz (qM rfl rfl (qv 0 104 rfl r2 r1 (qw 104 rfl r2 r1 (qk rfl (fun h=>o_eql (.w h) qi) r2 qz (qf (Zao .t .t) r2 qz (qM rfl rfl (qv 0 104 rfl r2 r1 (qw 104 rfl r2 r1 (qv 0 101 rfl r2 r1 (qw 101 rfl r2 r1 (qk rfl (fun h=>o_eql (.w h) (.w h)) r3 qz (qf (Zao .t .t) r2 qz qZ))))))))))))))) hB [32,12,11,10,7,4,3,2,1] [104,103,102,101,50,0] rfl rfl fun a w F hS=>Zb ?_
  refine Zd hS rfl (fun hc1=>?_) (fun hc1=>?_)
  ·skip
   have hno:Zki t.id (Go.Gm.nth t.ops i)=false:=by unfold Zki;unfold ofO at hc1;cases hr:(Go.Gm.nth t.ops i).read <;> simp [hr] at hc1 ⊢;omega
   obtain ⟨es2,he2⟩:∃ z,z=es:=⟨_,rfl⟩
   obtain ⟨ck2,hc2⟩:∃ z,z=ck:=⟨_,rfl⟩
   obtain ⟨out2,ho2⟩:∃ z,z=out:=⟨_,rfl⟩
   have hR2:out2=ZcG t.id (t.ops.take (i+1))∧Zd3 es2 (i+1) out2:=⟨by rw [ho2,hou,hst hil];unfold ZaD;rw [if_neg (by rw [hno];simp)],by rw [he2,ho2];exact Zqh hvi⟩
   rw [← he2,← hc2,← ho2] at hS
   refine wp_exit (Zi (Zo (Zb ?_)))
   refine Za hS (qp r1 (qM rfl rfl qZ)) hB [12,11,10,4,3,2,1] [103,102,101,50,0] rfl rfl fun a w F hS=>Zb ?_
   replace hS:=hS.ent (i:=12) (s':=.pv (.int .i64 ((i+1:Nat):Int))) rfl (.int (wrap_succ (by omega)))
   obtain ⟨F,hS⟩:=hS.nm [11,10,4,2,1,3,12] [101,0,50,102] rfl rfl
   exact ⟨((i+1),(es2),(ck2),_,(out2)),F,⟨by omega,hR2⟩,hS,by omega⟩
  have hyes:Zki t.id (Go.Gm.nth t.ops i)=true:=by unfold Zki;unfold ofO at hc1;cases hr:(Go.Gm.nth t.ops i).read <;> simp [hr] at hc1 ⊢;exact hc1
  have hvr:=hvi (ofO (Go.Gm.nth t.ops i))
  have hw1:IntKind.wrap .i64 (((gGet (ofO (Go.Gm.nth t.ops i)) es).getD 0)+1)=((gGet (ofO (Go.Gm.nth t.ops i)) es).getD 0)+1:=ZC (by have:=Sat.lenSl hS (i:=10) rfl;omega)
  refine wp_skip (Zb (wp_seq ?_))
  replace hS:=hS.turnZ 102 (0) (ofO (Go.Gm.nth t.ops i)) rfl
  refine Zgb 102 6 (m1:=1) (m2:=2) (by kernel_rfl) hS (by kernel_rfl) (qM rfl rfl (qe 3 104 r1 r1 (qf (Zi6 (ek:=(fun n:Int=>PV.int .i64 n)) (z0:=(0)) 102 Tryz.underlying171 Znr (by kernel_rfl) (fun _ _=>⟨rfl,ZjD⟩) .is (Z6.agg (enc:=Zdr) (k:=(ofO (Go.Gm.nth t.ops i))) (.pagg .t) rfl)) r2 r1 (qp r1 (qf (ZfR (ek:=(fun n:Int=>PV.int .i64 n)) (z0:=(0)) 102 Tryz.underlying171 Znr (by kernel_rfl) (fun _ _=>⟨rfl,ZjD⟩) .is (Z6.agg (enc:=Zdr) (k:=(ofO (Go.Gm.nth t.ops i))) (.pagg .t) rfl) (by intros;first | rfl | simp [Anc.v,upd])) r2 r1 (qf (o_extract .t rfl) r1 qz (qf (Zec 102 (ZfJ _ _ _) .is .t .t) r3 r1 qZ))))))) (by kernel_rfl) (by kernel_rfl) (by kernel_rfl) rfl rfl rfl (fun _ _ _ _ h=>.inr h) (by rw [hB];kernel_rfl) fun a w F hS=>?_
  obtain ⟨F,hS⟩:=hS.nm [12,11,10,7,4,3,2,1] [104,103,102,101,50,0] rfl rfl
  try dsimp only [List.map,xD,xE,xT,xU,ldSF,rInt,rOp,rTx,ZO] at hS
  obtain ⟨es2,he2⟩:∃ z,z=gSet (ofO (Go.Gm.nth t.ops i)) (IntKind.wrap .i64 (((gGet (ofO (Go.Gm.nth t.ops i)) es).getD 0)+1)) (gEns 0 (ofO (Go.Gm.nth t.ops i)) (es,ck)).1:=⟨_,rfl⟩
  obtain ⟨ck2,hc2⟩:∃ z,z=(gEns 0 (ofO (Go.Gm.nth t.ops i)) (es,ck)).2:=⟨_,rfl⟩
  rw [← he2,← hc2] at hS
  have hvv:∀ u,(gGet u es2).getD 0=if u=(ofO (Go.Gm.nth t.ops i)) then ((gGet (ofO (Go.Gm.nth t.ops i)) es).getD 0)+1 else (gGet u es).getD 0:=fun u=>by rw [he2,ZgY,hw1]
  have hmv:(gGet (ofO (Go.Gm.nth t.ops i)) es2).getD 0=((gGet (ofO (Go.Gm.nth t.ops i)) es).getD 0)+1:=by rw [hvv,if_pos rfl]
  have hvs:=Zo4 hvi hvv
  refine Zb (wp_seq ?_)
  refine Za hS (qM rfl rfl (qe 3 104 r1 r1 (qf (ZbM (ek:=(fun n:Int=>PV.int .i64 n)) (z0:=(0)) 102 Tryz.underlying171 Znr (by kernel_rfl) (fun _ _=>⟨rfl,ZjD⟩) .is (Z6.agg (enc:=Zdr) (k:=(ofO (Go.Gm.nth t.ops i))) (.pagg .t) rfl)) r2 r1 (qf (o_eql .t qi) r1 qz qZ)))) hB [42,12,11,10,7,4,3,2,1] [104,103,102,101,50,0] rfl rfl fun a w F hS=>Zb ?_
  refine Zd hS rfl (fun hc2=>?_) (fun hc2=>?_)
  ·skip
   have hnm:(ofO (Go.Gm.nth t.ops i)) ∉ out:=by rw [← hvr.2.2];rw [hmv] at hc2;simp at hc2;omega
   obtain ⟨out2,ho2⟩:∃ z,z=out ++ [(ofO (Go.Gm.nth t.ops i))]:=⟨_,rfl⟩
   have hR2:out2=ZcG t.id (t.ops.take (i+1))∧Zd3 es2 (i+1) out2:=⟨by rw [ho2,hst hil];unfold ZaD;rw [if_pos ⟨hyes,by rw [← hou];exact hnm⟩,← hou],by have:=hvs;rw [if_neg hnm] at this;rw [ho2];exact this⟩
   refine Zc hS (qM rfl rfl (qe 3 104 r1 r1 (qf (Zk (sz:=3) (zs:=[.int .i64 0,.int .i64 0,.int .i64 0]) (r:=[(0,.tmp 44)]) (l:=[_,_,_]) Tryz.underlying103 (by kernel_rfl) (by kernel_rfl) (by kernel_rfl) (by kernel_rfl) rfl rfl (.agg rfl .t (by kernel_rfl) (by kernel_rfl) .nil) rfl) r1 qz (qf (o_append (sz:=3) (bs:=24) 50 (.mk' Tryz.underlying103 (by kernel_rfl) (by kernel_rfl)) (by intro x;rfl) .is (.arr (l':=[_]) .t) (by simp only [List.length_append,List.length_cons,List.length_nil,List.length_take,List.length_drop];omega) (by decide)) ⟨rfl,rfl,trivial⟩ ⟨rfl,trivial⟩ (qN rfl rfl qZ))))) hB [12,11,10,4,3,2,1] [103,102,101,50,0] (fun _=>rfl) (fun _=>rfl) fun τ a w F hS=>?_
   try dsimp only [RS.sub,SF.sub,CF.sub,csub,Anc.sub,List.map,Zf,xL,xM,Nat.reduceAdd,xD,xE,xT,xU,xC,xN,zCF,ldSF,rInt,rOp,rTx,ZO] at hS
   generalize τ 46=v46 at hS
   rw [← ho2] at hS
   refine Zh (Zb ?_)
   refine Za hS (qp r1 (qM rfl rfl qZ)) hB [12,11,10,4,3,2,1] [103,102,101,50,0] rfl rfl fun a w F hS=>Zb ?_
   replace hS:=hS.ent (i:=12) (s':=.pv (.int .i64 ((i+1:Nat):Int))) rfl (.int (wrap_succ (by omega)))
   obtain ⟨F,hS⟩:=hS.nm [11,10,4,2,1,3,12] [101,0,50,102] rfl rfl
   exact ⟨((i+1),(es2),(ck2),_,(out2)),F,⟨by omega,hR2⟩,hS,by omega⟩
  have hnm:(ofO (Go.Gm.nth t.ops i)) ∈ out:=by rw [← hvr.2.2];rw [hmv] at hc2;simp at hc2;omega
  obtain ⟨out2,ho2⟩:∃ z,z=out:=⟨_,rfl⟩
  have hR2:out2=ZcG t.id (t.ops.take (i+1))∧Zd3 es2 (i+1) out2:=⟨by rw [ho2,hst hil];unfold ZaD;rw [if_neg (by rw [← hou];simp [hnm])];exact hou,by have:=hvs;rw [if_pos hnm] at this;rw [ho2];exact this⟩
  rw [← ho2] at hS
  refine wp_skip (Zh (Zb ?_))
  refine Za hS (qp r1 (qM rfl rfl qZ)) hB [12,11,10,4,3,2,1] [103,102,101,50,0] rfl rfl fun a w F hS=>Zb ?_
  replace hS:=hS.ent (i:=12) (s':=.pv (.int .i64 ((i+1:Nat):Int))) rfl (.int (wrap_succ (by omega)))
  obtain ⟨F,hS⟩:=hS.nm [11,10,4,2,1,3,12] [101,0,50,102] rfl rfl
  exact ⟨((i+1),(es2),(ck2),_,(out2)),F,⟨by omega,hR2⟩,hS,by omega⟩
 have hil:i=t.ops.length:=by simp at hc0;omega
 refine wp_exit (Zi (Zi (Zo (Zb (wp_seq ?_)))))
 refine Za hS (qM rfl rfl (qN rfl rfl qZ)) hB [2] [102,101,50,0] rfl rfl fun a w F hS=>Zb (wp_ret ?_)
 obtain ⟨F,hS⟩:=hS.give 50 2 rfl rfl
 refine Zq hfr hS rfl rfl rfl (.sl (by rw [hou,hil,List.take_length];rfl))
theorem ZkU (l:List Int) (v:Int):FnP Tryz.prog 122 [.sl rInt l,.int .i64 v] (.int .i64 (Zbw v l)):=by
 refine FnP.mk Tryz.func122 rfl Tryz.ntmps122 rfl ?_
 intro B a w F hB hfr hS
 have hll:=Sat.lenSl hS (i:=0) rfl
 refine wp_seq ?_
 refine Za hS (qI qZ) hB [4,1,0] [0] rfl rfl fun a w F hS=>Zb (wp_seq (wp_seq ?_))
 refine Za hS (qM rfl rfl (qu Tryz.underlying39 r1 (qJ qZ))) hB [8,7,4,1,0] [0] rfl rfl fun a w F hS=>Zb (wp_block ?_)
 refine Zr (σ:=(Nat)) [0,1,4,7] [0] (fun s=>[(8,.pv (.int .i64 (s:Int)))]) (fun s=>[]) (fun s=>s≤l.length∧(∀ k,k<s→Go.Gm.nth l k≠v)) (fun s=>l.length - s) (0) hS ⟨rfl,rfl,rfl,rfl,rfl,trivial⟩ ⟨rfl,trivial⟩ ⟨Nat.zero_le _,fun k hk=>absurd hk (Nat.not_lt_zero k)⟩ ?_
 clear hS;intro i a w F hC hS
 try dsimp only at hC
 obtain ⟨F,hS⟩:=hS.nm [8,7,4,1,0] [0] rfl rfl
 try dsimp only at hS
 obtain ⟨hi,hq⟩:=hC
 refine wp_seq ?_
 refine Za hS (qL r2) hB [9,8,7,4,1,0] [0] rfl rfl fun a w F hS=>Zb (wp_seq ?_)
 refine Zd hS rfl (fun hc0=>?_) (fun hc0=>?_)
 ·skip
  have hil:i<l.length:=by simp at hc0;omega
  refine wp_skip (Zb (wp_seq (wp_block (wp_seq ?_))))
  refine Za hS (qM rfl rfl (qN rfl rfl qZ)) hB [8,7,5,4,1,0] [0] rfl rfl fun a w F hS=>Zb (wp_seq ?_)
  refine Za hS (qM rfl rfl (qM rfl rfl (qM rfl rfl (qy 1 Tryz.underlying39 r2 (qf (oR false 1 .t) r1 qz (qf (o_eql .t .t) r2 qz qZ)))))) hB [16,8,7,5,4,1,0] [0] rfl rfl fun a w F hS=>?_
  try simp only [Int.toNat_natCast] at hS
  refine Zb ?_
  refine Zd hS rfl (fun hc1=>?_) (fun hc1=>?_)
  ·skip
   have hg:(i:Int)=Zbw v l:=(Zno hil (by simp at hc1;omega) hq).symm
   refine wp_seq ?_
   refine Za hS (qM rfl rfl (qN rfl rfl qZ)) hB [8,7,4,1,0] [0] rfl rfl fun a w F hS=>Zb (wp_ret (Zg (Ze (Ze (Zg (Ze ?_))))))
   refine Zq hfr hS rfl rfl rfl (.int hg)
  have hne:Go.Gm.nth l i≠v:=by simp at hc1;omega
  refine wp_skip (Zh (Zb ?_))
  refine Za hS (qp r1 (qM rfl rfl qZ)) hB [8,7,4,1,0] [0] rfl rfl fun a w F hS=>Zb ?_
  replace hS:=hS.ent (i:=8) (s':=.pv (.int .i64 ((i+1:Nat):Int))) rfl (.int (wrap_succ (by omega)))
  obtain ⟨F,hS⟩:=hS.nm [7,4,1,0,8] [0] rfl rfl
  exact ⟨(i+1),F,⟨by omega,(fun k hk=>by rcases Nat.lt_or_eq_of_le (Nat.le_of_lt_succ hk) with h | h;exact hq k h;rw [h];exact hne)⟩,hS,by omega⟩
 have hil:i=l.length:=by simp at hc0;omega
 have hg : -1=Zbw v l:=(Zfy fun k hk=>hq k (by simp at hc0;omega)).symm
 refine wp_exit (Zi (Zi (Zo (Zb (wp_seq ?_)))))
 refine Za hS (qI qZ) hB [4] [0] rfl rfl fun a w F hS=>Zb (wp_ret ?_)
 refine Zq hfr hS rfl rfl rfl (.int hg)
theorem Zkv (l:List Int) (v:Int):FnP Tryz.prog 160 [.sl rInt l,.int .i64 v] (.bool (decide (v ∈ l))):=by
 refine FnP.mk Tryz.func160 rfl Tryz.ntmps160 rfl ?_
 intro B a w F hB hfr hS
 refine wp_seq ?_
 refine Za hS qB hB [4,1,0] [0] rfl rfl fun a w F hS=>Zb (wp_seq ?_)
 refine Za hS (qM rfl rfl (qM rfl rfl (qf (oP (ZkU l v) Tryz.func122 (Args.two .t .t)) r2 qz (qf (Zen .t qi) r1 qz (qN rfl rfl qZ))))) hB [4] [0] rfl rfl fun a w F hS=>Zb (wp_ret ?_)
 refine Zq hfr hS rfl rfl rfl (.bool (by rw [decide_eq_decide];exact ZkX))
theorem ZoY (x y:List Int):FnP Tryz.prog 66 [.sl rInt x,.sl rInt y] (.bool (decide (x=y))):=by
 refine FnP.mk Tryz.func66 rfl Tryz.ntmps66 rfl ?_
 intro B a w F hB hfr hS
 have hxl:=Sat.lenSl hS (i:=0) rfl
 refine wp_seq ?_
 refine Za hS qB hB [4,1,0] [0] rfl rfl fun a w F hS=>Zb (wp_seq (wp_seq ?_))
 refine Za hS (qM rfl rfl (qu Tryz.underlying39 r1 (qM rfl rfl (qu Tryz.underlying39 r1 (qf (o_neq .t .t) r2 qz qZ))))) hB [10,4,1,0] [0] rfl rfl fun a w F hS=>Zb ?_
 refine Zd hS rfl (fun hc0=>?_) (fun hc0=>?_)
 ·skip
  have hg:false=decide (x=y):=by
    rw [eq_comm,decide_eq_false_iff_not]
    intro h
    subst h
    simp at hc0
  refine wp_seq ?_
  refine Za hS qB hB [4,1,0] [0] rfl rfl fun a w F hS=>Zb (wp_ret (Ze ?_))
  refine Zq hfr hS rfl rfl rfl (.bool hg)
 have hl:x.length=y.length:=by simp at hc0;omega
 refine wp_skip (Zb (wp_seq (wp_seq ?_)))
 refine Za hS (qM rfl rfl (qu Tryz.underlying39 r1 (qJ qZ))) hB [13,12,4,1,0] [0] rfl rfl fun a w F hS=>Zb (wp_block ?_)
 obtain ⟨F,hS⟩:=hS.nm [13,12,1,0] [0] rfl rfl
 refine ZG (σ:=Nat) (fun s=>(⟨[(0,.pv (.sl rInt x)),(1,.pv (.sl rInt y)),(12,.pv (.int .i64 x.length)),(13,.pv (.int .i64 s))],[(0,frame B)]⟩:En)) (fun s=>s≤x.length ∧ ∀ j,j<s→Go.Gm.nth x j=Go.Gm.nth y j) (fun s=>x.length - s) 0 hS ⟨Nat.zero_le _,fun j hj=>absurd hj (Nat.not_lt_zero j)⟩ ?_
 clear hS;intro i a w F hC hS
 try dsimp only at hC
 try dsimp only at hS
 obtain ⟨hi,hq⟩:=hC
 refine wp_seq ?_
 refine Za hS (qL r2) hB [14,13,12,1,0] [0] rfl rfl fun a w F hS=>Zb (wp_seq ?_)
 refine Zd hS rfl (fun hc1=>?_) (fun hc1=>?_)
 ·skip
  have hil:i<x.length:=by simp at hc1;omega
  refine wp_skip (Zb (wp_seq (wp_block (wp_seq ?_))))
  refine Za hS (qM rfl rfl (qN rfl rfl qZ)) hB [13,12,5,1,0] [0] rfl rfl fun a w F hS=>Zb (wp_seq ?_)
  refine Zz hS (qM rfl rfl (qM rfl rfl (qy 1 Tryz.underlying39 r2 (qf (oR false 1 .t) r1 qz (qM rfl rfl (qM rfl rfl (qy 1 Tryz.underlying39 r2 (qf (oR false 1 .t) r1 qz (qf (o_neq .t .t) r2 qz qZ))))))))) hB [24,13,12,1,0] [0] rfl rfl fun a w F hS=>?_
  try dsimp only [List.map,xD,xE,xT,xU,ldSF] at hS
  refine Zb ?_
  refine Zd hS rfl (fun hc2=>?_) (fun hc2=>?_)
  ·skip
   have hg:false=decide (x=y):=by
     rw [eq_comm,decide_eq_false_iff_not]
     intro h
     subst h
     simp at hc2
   refine wp_seq ?_
   refine Za hS qB hB [13,12,4,1,0] [0] rfl rfl fun a w F hS=>Zb (wp_ret (Zg (Ze (Ze (Zg (Ze ?_))))))
   refine Zq hfr hS rfl rfl rfl (.bool hg)
  rw [Int.toNat_natCast] at hc2
  have hqi:Go.Gm.nth x i=Go.Gm.nth y i:=by simpa using hc2
  refine wp_skip (Zh (Zb ?_))
  refine Za hS (qp r1 (qM rfl rfl qZ)) hB [13,12,1,0] [0] rfl rfl fun a w F hS=>Zb ?_
  replace hS:=hS.ent (i:=13) (s':=.pv (.int .i64 ((i+1:Nat):Int))) rfl (.int (wrap_succ (by omega)))
  obtain ⟨F,hS⟩:=hS.nm [13,12,1,0] [0] rfl rfl
  exact ⟨i+1,F,⟨by omega,fun j hj=>by rcases Nat.lt_or_eq_of_le (Nat.le_of_lt_succ hj) with h | h;exact hq j h;rw [h];exact hqi⟩,hS,by omega⟩
 have hg:true=decide (x=y):=by
   rw [eq_comm,decide_eq_true_eq]
   exact Za0 hl fun j hj=>hq j (by simp at hc1;omega)
 refine wp_exit (Zi (Zi (Zo (Zb (wp_seq ?_)))))
 refine Za hS qB hB [4] [0] rfl rfl fun a w F hS=>Zb (wp_ret ?_)
 refine Zq hfr hS rfl rfl rfl (.bool hg)
theorem Zre (x y:List Int):FnP Tryz.prog 35 [.sl rInt x,.sl rInt y] (.bool (decide (x=y))):=by
 refine FnP.mk Tryz.func35 rfl Tryz.ntmps35 rfl ?_
 intro B a w F hB hfr hS
 refine wp_seq ?_
 refine Za hS qB hB [4,1,0] [0] rfl rfl fun a w F hS=>Zb (wp_seq ?_)
 refine Za hS (qM rfl rfl (qM rfl rfl (qf (oP (ZoY x y) Tryz.func66 (Args.two .t .t)) r2 qz (qN rfl rfl qZ)))) hB [4] [0] rfl rfl fun a w F hS=>Zb (wp_ret ?_)
 refine Zq hfr hS rfl rfl rfl .refl
theorem ZoD (x y:List Int) (hx:x.length≤1000000) (hy:y.length≤1000000):FnP Tryz.prog 26 [.sl rInt x,.sl rInt y] (.bool (decide (x.Perm y))):=by
 refine FnP.mk Tryz.func26 rfl Tryz.ntmps26 rfl ?_
 intro B a w F hB hfr hS
 refine wp_seq ?_
 refine Za hS qB hB [4,1,0] [0] rfl rfl fun a w F hS=>Zb (wp_seq ?_)
 replace hS:=hS.fresh 101 rfl
 replace hS:=hS.fresh 102 rfl
 refine Zc hS (qM rfl rfl (qf (Za2 101 (Zdb x hx) Tryz.func64 rfl (by kernel_rfl) (Args.one .t) ZaO) r1 r1 (qM rfl rfl (qf (Za2 102 (Zdb y hy) Tryz.func64 rfl (by kernel_rfl) (Args.one .t) ZaO) r1 r1 (qN rfl rfl (qN rfl rfl qZ)))))) hB [6,5,4] [102,101,0] (fun _=>rfl) (fun _=>rfl) fun τ a w F hS=>?_
 try dsimp only [RS.sub,SF.sub,CF.sub,csub,Anc.sub,List.map,rInt] at hS
 generalize τ 8=v8 at hS
 generalize τ 10=v10 at hS
 refine Zb (wp_seq ?_)
 refine Za hS (qM rfl rfl (qf (Zeo 101 (ZmZ _ x hx) Tryz.func65 rfl (by kernel_rfl) (Args.one .t)) r1 r1 qZ)) hB [6,5,4] [102,101,0] rfl rfl fun a w F hS=>Zb (wp_seq ?_)
 refine Za hS (qM rfl rfl (qf (Zeo 102 (ZmZ _ y hy) Tryz.func65 rfl (by kernel_rfl) (Args.one .t)) r1 r1 qZ)) hB [6,5,4] [102,101,0] rfl rfl fun a w F hS=>Zb (wp_seq ?_)
 refine Za hS (qM rfl rfl (qM rfl rfl (qf (OpC.lendRow 102 [16] (OpC.lendRow 101 [15] (oP (ZoY _ _) Tryz.func66 (Args.two .t .t)) ⟨rfl,trivial,trivial⟩ (.pv (fun _ _ _ _ h=>h)) trivial (by rfl)) ⟨trivial,rfl,trivial⟩ (.pv (fun _ _ _ _ h=>h)) trivial (by rfl)) r2 r2 (qN rfl rfl qZ)))) hB [4] [102,101,0] rfl rfl fun a w F hS=>Zb (wp_ret ?_)
 refine Zq hfr hS rfl rfl rfl (.bool (by rw [decide_eq_decide];exact Zol))
theorem Zrq (x y:List OpD):FnP Tryz.prog 116 [.sl rOp x,.sl rOp y] (.bool (decide (x=y))):=by
 refine FnP.mk Tryz.func116 rfl Tryz.ntmps116 rfl ?_
 intro B a w F hB hfr hS
 have hxl:=Sat.lenSl hS (i:=0) rfl
 refine wp_seq ?_
 refine Za hS qB hB [4,1,0] [0] rfl rfl fun a w F hS=>Zb (wp_seq (wp_seq ?_))
 refine Za hS (qM rfl rfl (qu Tryz.underlying36 r1 (qM rfl rfl (qu Tryz.underlying36 r1 (qf (o_neq .t .t) r2 qz qZ))))) hB [10,4,1,0] [0] rfl rfl fun a w F hS=>Zb ?_
 refine Zd hS rfl (fun hc0=>?_) (fun hc0=>?_)
 ·skip
  have hg:false=decide (x=y):=by
    rw [eq_comm,decide_eq_false_iff_not]
    intro h
    subst h
    simp at hc0
  refine wp_seq ?_
  refine Za hS qB hB [4,1,0] [0] rfl rfl fun a w F hS=>Zb (wp_ret (Ze ?_))
  refine Zq hfr hS rfl rfl rfl (.bool hg)
 have hl:x.length=y.length:=by simp at hc0;omega
 refine wp_skip (Zb (wp_seq (wp_seq ?_)))
 refine Za hS (qM rfl rfl (qu Tryz.underlying36 r1 (qJ qZ))) hB [13,12,4,1,0] [0] rfl rfl fun a w F hS=>Zb (wp_block ?_)
 obtain ⟨F,hS⟩:=hS.nm [13,12,1,0] [0] rfl rfl
 refine ZG (σ:=Nat) (fun s=>(⟨[(0,.pv (.sl rOp x)),(1,.pv (.sl rOp y)),(12,.pv (.int .i64 x.length)),(13,.pv (.int .i64 s))],[(0,frame B)]⟩:En)) (fun s=>s≤x.length ∧ ∀ j,j<s→Go.Gm.nth x j=Go.Gm.nth y j) (fun s=>x.length - s) 0 hS ⟨Nat.zero_le _,fun j hj=>absurd hj (Nat.not_lt_zero j)⟩ ?_
 clear hS;intro i a w F hC hS
 try dsimp only at hC
 try dsimp only at hS
 obtain ⟨hi,hq⟩:=hC
 refine wp_seq ?_
 refine Za hS (qL r2) hB [14,13,12,1,0] [0] rfl rfl fun a w F hS=>Zb (wp_seq ?_)
 refine Zd hS rfl (fun hc1=>?_) (fun hc1=>?_)
 ·skip
  have hil:i<x.length:=by simp at hc1;omega
  refine wp_skip (Zb (wp_seq (wp_block (wp_seq ?_))))
  refine Za hS (qM rfl rfl (qN rfl rfl qZ)) hB [13,12,5,1,0] [0] rfl rfl fun a w F hS=>Zb (wp_seq ?_)
  refine Zz hS (qM rfl rfl (qM rfl rfl (qy 4 Tryz.underlying36 r2 (qf (oR true 4 .t) r1 qz (qM rfl rfl (qM rfl rfl (qy 4 Tryz.underlying36 r2 (qf (oR true 4 .t) r1 qz (qf (Zoz (ks:=[false,true,true,true]) (by kernel_rfl) .t .t (.bool (.int (.int (.int .nil))))) r2 qz qZ))))))))) hB [24,13,12,1,0] [0] rfl rfl fun a w F hS=>?_
  try dsimp only [List.map,xD,xE,xT,xU,ldSF] at hS
  refine Zb ?_
  refine Zd hS rfl (fun hc2=>?_) (fun hc2=>?_)
  ·skip
   have hg:false=decide (x=y):=by
     rw [eq_comm,decide_eq_false_iff_not]
     intro h
     subst h
     simp at hc2
   refine wp_seq ?_
   refine Za hS qB hB [13,12,4,1,0] [0] rfl rfl fun a w F hS=>Zb (wp_ret (Zg (Ze (Ze (Zg (Ze ?_))))))
   refine Zq hfr hS rfl rfl rfl (.bool hg)
  rw [Int.toNat_natCast] at hc2
  have hqi:Go.Gm.nth x i=Go.Gm.nth y i:=ZqF hc2
  refine wp_skip (Zh (Zb ?_))
  refine Za hS (qp r1 (qM rfl rfl qZ)) hB [13,12,1,0] [0] rfl rfl fun a w F hS=>Zb ?_
  replace hS:=hS.ent (i:=13) (s':=.pv (.int .i64 ((i+1:Nat):Int))) rfl (.int (wrap_succ (by omega)))
  obtain ⟨F,hS⟩:=hS.nm [13,12,1,0] [0] rfl rfl
  exact ⟨i+1,F,⟨by omega,fun j hj=>by rcases Nat.lt_or_eq_of_le (Nat.le_of_lt_succ hj) with h | h;exact hq j h;rw [h];exact hqi⟩,hS,by omega⟩
 have hg:true=decide (x=y):=by
   rw [eq_comm,decide_eq_true_eq]
   exact Za0 hl fun j hj=>hq j (by simp at hc1;omega)
 refine wp_exit (Zi (Zi (Zo (Zb (wp_seq ?_)))))
 refine Za hS qB hB [4] [0] rfl rfl fun a w F hS=>Zb (wp_ret ?_)
 refine Zq hfr hS rfl rfl rfl (.bool hg)
theorem Zqk (x y:List OpD):FnP Tryz.prog 73 [.sl rOp x,.sl rOp y] (.bool (decide (x=y))):=by
 refine FnP.mk Tryz.func73 rfl Tryz.ntmps73 rfl ?_
 intro B a w F hB hfr hS
 refine wp_seq ?_
 refine Za hS qB hB [4,1,0] [0] rfl rfl fun a w F hS=>Zb (wp_seq ?_)
 refine Za hS (qM rfl rfl (qM rfl rfl (qf (oP (Zrq x y) Tryz.func116 (Args.two .t .t)) r2 qz (qN rfl rfl qZ)))) hB [4] [0] rfl rfl fun a w F hS=>Zb (wp_ret ?_)
 refine Zq hfr hS rfl rfl rfl .refl
end Go.Proofs.YtjhapicamnijnaaGreatDoor
