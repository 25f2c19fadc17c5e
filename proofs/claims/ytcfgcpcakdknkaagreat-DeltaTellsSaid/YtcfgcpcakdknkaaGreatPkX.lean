/- Pk0,Pk1,Pk2,in one text. -/
import Derived.Test.YtcfgcpcakdknkaaGreatBa0
namespace Go.Proofs.YtcfgcpcakdknkaaGreat
open Go Go.Gm
set_option linter.unusedVariables false
set_option linter.unusedSimpArgs false
set_option maxHeartbeats 4000000
set_option maxRecDepth 8000
structure EdgeD where
 src:Int
 dst:Int
 kind:Int
 key:Int
 deriving DecidableEq,Inhabited
structure VerD where
 tx:Int
 key:Int
 nth:Int
 deriving DecidableEq,Inhabited
def rVer (v:VerD):List PV:=[.int .i64 v.tx,.int .i64 v.key,.int .i64 v.nth]
def noV:VerD:=⟨0,0,0⟩
def idB (n:Int):Bool:=decide (1≤n) && decide (n≤1048575)
def rightV (v:VerD):Bool:=if v.tx=0 then idB v.key && decide (v.nth=0) else ((idB v.tx && idB v.key) && decide (1≤v.nth)) && decide (v.nth≤4095)
def verN (v:VerD):Int:=(v.tx*1048576+v.key)*4096+v.nth
def verR (v:VerD):Int×Int:=if rightV v then (verN v,0) else (0,1)
theorem idB_iff {n:Int} : idB n=true ↔ 1≤n∧n≤1048575:=by unfold idB;rw [Bool.and_eq_true,decide_eq_true_eq,decide_eq_true_eq]
theorem not_lt_one (k:Int):decide (k<1) = !decide (1≤k):=by rw [← decide_not];exact decide_eq_decide.2 (by omega)
theorem not_le_lt (m k:Int):decide (m<k) = !decide (k≤m):=by rw [← decide_not];exact decide_eq_decide.2 (by omega)
theorem or64 (x y:Nat) (hx:x<18446744073709551616) (hy:y<18446744073709551616):bits .or .u64 (x:Int) (y:Int)=((x ||| y:Nat):Int):=by
 have h1:(BitVec.ofInt 64 (x:Int)).toNat=x:=by rw [BitVec.toNat_ofInt];omega
 have h2:(BitVec.ofInt 64 (y:Int)).toNat=y:=by rw [BitVec.toNat_ofInt];omega
 show IntKind.wrap .u64 (((BitVec.ofInt 64 (x:Int) ||| BitVec.ofInt 64 (y:Int)).toNat:Nat):Int)=_
 rw [BitVec.toNat_or,h1,h2]
 exact wrap_u64 (by have:=Nat.or_lt_two_pow (n:=64) hx hy;omega)
theorem wrapN {q:Nat} (h:q<18446744073709551616):IntKind.wrap .u64 (q:Int)=q:=wrap_u64 (by omega)
theorem or_shl {K:Int} (k:Nat) (hk:min K.toNat (IntKind.bits .u64)=k) (x y:Int) (hx:0≤x) (hy:0≤y) (hyk:y<2 ^ k) (hb:x*2 ^ k+y<18446744073709551616):bits .or .u64 (IntKind.wrap .u64 (x*2 ^ min K.toNat (IntKind.bits .u64))) y=x*2 ^ k+y:=by
 obtain ⟨X,rfl⟩:=Int.eq_ofNat_of_zero_le hx
 obtain ⟨Y,rfl⟩:=Int.eq_ofNat_of_zero_le hy
 rw [hk]
 have e2:(X:Int)*2 ^ k=((X*2 ^ k:Nat):Int):=by rw [Int.natCast_mul,Int.natCast_pow];rfl
 have hY:Y<2 ^ k:=by exact_mod_cast hyk
 have hor:X*2 ^ k ||| Y=X*2 ^ k+Y:=by rw [Nat.mul_comm];exact (Nat.two_pow_add_eq_or_of_lt hY X).symm
 rw [e2] at hb ⊢
 generalize X*2 ^ k=Q at hb hor ⊢
 rw [wrapN (by omega),or64 _ _ (by omega) (by omega),hor]
 omega
theorem ver_word {v:VerD} (h:rightV v=true):bits .or .u64 (IntKind.wrap .u64 (bits .or .u64 (IntKind.wrap .u64 (IntKind.wrap .u64 v.tx*2 ^ min (20:Int).toNat (IntKind.bits .u64))) (IntKind.wrap .u64 v.key)*2 ^ min (12:Int).toNat (IntKind.bits .u64))) (IntKind.wrap .u64 v.nth)=verN v:=by
 have hb:(0≤v.tx∧v.tx≤1048575)∧(1≤v.key∧v.key≤1048575)∧(0≤v.nth∧v.nth≤4095):=by
   unfold rightV at h
   split at h <;> simp only [Bool.and_eq_true,decide_eq_true_eq,idB_iff] at h <;> omega
 obtain ⟨h1,h2,h3⟩:=hb
 rw [wrap_u64 (x:=v.tx) (by omega),wrap_u64 (x:=v.key) (by omega),wrap_u64 (x:=v.nth) (by omega)]
 rw [or_shl 20 rfl v.tx v.key (by omega) (by omega) (by omega) (by omega),or_shl 12 rfl (v.tx*2 ^ 20+v.key) v.nth (by omega) (by omega) (by omega) (by omega)]
 unfold verN
 omega
end Go.Proofs.YtcfgcpcakdknkaaGreat
namespace Go.Proofs.YtcfgcpcakdknkaaGreat
open Go Go.Gm
set_option linter.unusedVariables false
set_option linter.unusedSimpArgs false
set_option maxHeartbeats 4000000
set_option maxRecDepth 8000
theorem id_c (n:Int):FnP Tryz.prog 182 [.int .i64 n] (.bool (idB n)):=by
 refine FnP.mk Tryz.func182 rfl Tryz.ntmps182 rfl ?_
 intro B a w F hB hfr hS
 refine wp_seq ?_
 refine region_z hS (qf (oN .cb) trivial qz qZ) hB [2,0] [0] rfl rfl ?_
 clear hS;intro a w F hS
 refine then_n (wp_seq ?_)
 refine region_z hS (qM rfl rfl (qf (o_geq .t qi) r1 qz (qM rfl rfl (qm rfl rfl rfl rfl (qk rfl (fun h=>o_leq (.w h) qi) r2 qz (qf (o_and2 .t .t) r2 qz (qN rfl rfl qZ))))))) hB [2] [0] rfl rfl ?_
 clear hS;intro a w F hS
 refine then_n (wp_ret ?_)
 refine ret_P hfr hS rfl (.tmp rfl .nil) (.one .refl)
theorem refId_c (n:Int):FnP Tryz.prog 125 [.int .i64 n] (.bool (idB n)):=by
 refine FnP.mk Tryz.func125 rfl Tryz.ntmps125 rfl ?_
 intro B a w F hB hfr hS
 refine wp_seq ?_
 refine region_z hS (qf (oN .cb) trivial qz qZ) hB [2,0] [0] rfl rfl ?_
 clear hS;intro a w F hS
 refine then_n (wp_seq ?_)
 refine region_z hS (qM rfl rfl (qf (o_geq .t qi) r1 qz (qM rfl rfl (qm rfl rfl rfl rfl (qk rfl (fun h=>o_leq (.w h) qi) r2 qz (qf (o_and2 .t .t) r2 qz (qN rfl rfl qZ))))))) hB [2] [0] rfl rfl ?_
 clear hS;intro a w F hS
 refine then_n (wp_ret ?_)
 refine ret_P hfr hS rfl (.tmp rfl .nil) (.one .refl)
end Go.Proofs.YtcfgcpcakdknkaaGreat
namespace Go.Proofs.YtcfgcpcakdknkaaGreat
open Go Go.Gm
set_option linter.unusedVariables false
set_option linter.unusedSimpArgs false
set_option maxHeartbeats 4000000
set_option maxRecDepth 8000
theorem bad_rightV (v:VerD):((!(decide (v.tx=0) && decide (v.nth=0)) && ((!idB v.tx || decide (v.nth<1)) || decide (4095<v.nth))) || !idB v.key) = !rightV v:=by
 unfold rightV
 by_cases h:v.tx=0
 · rw [if_pos h,decide_eq_true h]
   have hi:idB v.tx=false:=by rw [h];rfl
   rw [hi]
   cases decide (v.nth=0) <;> cases idB v.key <;> simp
 · rw [if_neg h,decide_eq_false h,not_lt_one,not_le_lt 4095]
   cases idB v.tx <;> cases idB v.key <;> cases decide (1≤v.nth) <;> cases decide (v.nth≤4095) <;> rfl
theorem version_c (v:VerD):FnP Tryz.prog 166 [.agg (rVer v)] (.tup [.int .u64 (verR v).1,.int .i64 (verR v).2]):=by
 refine FnP.mk Tryz.func166 rfl Tryz.ntmps166 rfl ?_
 intro B a w F hB hfr hS
 refine wp_seq ?_
 refine region_q hS (qf (oX 101 (.conv .t .agg)) r1 qz (qf (oN qi) trivial qz (qf (oN qi) trivial qz qZ))) hB ?_
 clear hS;intro a w F hS
 replace hS:=hS.sub
 obtain ⟨F,hS⟩:=hS.nm [3,2,1] [101,0] rfl rfl
 try dsimp only [RS.sub,SF.sub,CF.sub,csub,Anc.sub,List.map,zCF] at hS
 generalize Act.tau a 1=v1 at hS
 refine then_n (wp_seq ?_)
 refine region_z hS (qf (oF 0 101 .is) r1 r1 (qf (oL false 1 101 .adr) r1 r1 (qf (o_eql .t qi) r1 qz (qM rfl rfl (qk rfl (fun h=>oF 2 101 .is) r2 r1 (qk rfl (fun h=>oL false 1 101 (.w h .adr)) r2 r1 (qk rfl (fun h=>o_eql (.w h) qi) r2 qz (qf (o_and2 .t .t) r2 qz (qN rfl rfl qZ))))))))) hB [4,3,2,1] [101,0] rfl rfl ?_
 clear hS;intro a w F hS
 refine then_n (wp_seq (wp_seq ?_))
 refine region_z hS (qM rfl rfl (qf (o_not .t) r1 qz (qM rfl rfl (qk rfl (fun h=>oF 0 101 .is) r2 r1 (qk rfl (fun h=>oL false 1 101 (.w h .adr)) r2 r1 (qk rfl (fun h=>oP (id_c _) Tryz.func182 (Args.one (.w h))) r2 qz (qk rfl (fun h=>o_not (.w h)) r2 qz (qk rfl (fun h=>oM (.w h)) r2 qz (Chain.cons (Cert.cond2 rfl rfl (fun h=>o_fieldAddr (off:=2) 101 .is (by kernel_rfl) (by rfl))) r2 r1 (Chain.cons (Cert.cond2 rfl rfl (fun h=>o_load (ag:=false) (sz:=1) 101 (.w h .adr) (by kernel_rfl) (by kernel_rfl) (by kernel_rfl) (by rfl))) r2 r1 (Chain.cons (Cert.cond2 rfl rfl (fun h=>o_lss (.w h) qi)) r2 qz (qk rfl (fun h=>o_or2 (.w h) (.wc h)) r3 qz (qk rfl (fun h=>oM (.w h)) r2 qz (Chain.cons (Cert.cond2 rfl rfl (fun h=>o_fieldAddr (off:=2) 101 .is (by kernel_rfl) (by rfl))) r2 r1 (Chain.cons (Cert.cond2 rfl rfl (fun h=>o_load (ag:=false) (sz:=1) 101 (.w h .adr) (by kernel_rfl) (by kernel_rfl) (by kernel_rfl) (by rfl))) r2 r1 (Chain.cons (Cert.cond2 rfl rfl (fun h=>o_gtr (.w h) qi)) r2 qz (qk rfl (fun h=>o_or2 (.w h) (.wc h)) r3 qz (qf (o_and2 .t .t) r2 qz (qM rfl rfl (qk rfl (fun h=>oF 1 101 .is) r2 r1 (qk rfl (fun h=>oL false 1 101 (.w h .adr)) r2 r1 (qk rfl (fun h=>oP (id_c _) Tryz.func182 (Args.one (.w h))) r2 qz (qk rfl (fun h=>o_not (.w h)) r2 qz (qf (o_or2 .t .t) r2 qz qZ)))))))))))))))))))))))) hB [36,3,2,1] [101,0] rfl rfl ?_
 clear hS;intro a w F hS
 try dsimp only [List.map,xD,xE,xT,xU,ldSF] at hS
 refine then_n ?_
 refine cond_b hS rfl (fun hc0=>?_) (fun hc0=>?_)
 ·skip
  rw [bad_rightV] at hc0
  have hr:rightV v=false:=by simpa using hc0
  have hg:verR v=(0,1):=by unfold verR;rw [hr];rfl
  refine wp_seq ?_
  refine region_z hS (qf (oN qi) trivial qz (qf (oN qi) trivial qz qZ)) hB [3,2,1] [101,0] rfl rfl ?_
  clear hS;intro a w F hS
  refine then_n (wp_ret (then_r ?_))
  refine ret_P hfr hS rfl (.tmp rfl (.tmp rfl .nil)) (.two (.int (by rw [hg];try exact ver_word hr)) (.int (by rw [hg])))
 rw [bad_rightV] at hc0
 have hr:rightV v=true:=by simpa using hc0
 have hg:verR v=(verN v,0):=if_pos hr
 refine wp_skip (then_n (wp_seq ?_))
 refine region_z hS (qf (oF 0 101 .is) r1 r1 (qf (oL false 1 101 .adr) r1 r1 (qf (o_conv Tryz.underlying180 (by kernel_rfl) .t) r1 qz (qf (o_shl .t qi (by decide)) r1 qz (qf (oF 1 101 .is) r1 r1 (qf (oL false 1 101 .adr) r1 r1 (qf (o_conv Tryz.underlying180 (by kernel_rfl) .t) r1 qz (qf (o_or .t .t) r2 qz (qf (o_shl .t qi (by decide)) r1 qz (qf (oF 2 101 .is) r1 r1 (qf (oL false 1 101 .adr) r1 r1 (qf (o_conv Tryz.underlying180 (by kernel_rfl) .t) r1 qz (qf (o_or .t .t) r2 qz (qN rfl rfl (qf (oN qi) trivial qz qZ))))))))))))))) hB [3,2] [0] rfl rfl ?_
 clear hS;intro a w F hS
 refine then_n (wp_ret ?_)
 refine ret_P hfr hS rfl (.tmp rfl (.tmp rfl .nil)) (.two (.int (by rw [hg];try exact ver_word hr)) (.int (by rw [hg])))
theorem rightV_c (v:VerD):FnP Tryz.prog 162 [.agg (rVer v)] (.bool (rightV v)):=by
 refine FnP.mk Tryz.func162 rfl Tryz.ntmps162 rfl ?_
 intro B a w F hB hfr hS
 refine wp_seq ?_
 refine region_q hS (qf (oX 101 (.conv .t .agg)) r1 qz (qf (oN .cb) trivial qz qZ)) hB ?_
 clear hS;intro a w F hS
 replace hS:=hS.sub
 obtain ⟨F,hS⟩:=hS.nm [2,1] [101,0] rfl rfl
 try dsimp only [RS.sub,SF.sub,CF.sub,csub,Anc.sub,List.map,zCF] at hS
 generalize Act.tau a 1=v1 at hS
 refine then_n (wp_seq (wp_seq ?_))
 refine region_z hS (qf (oF 0 101 .is) r1 r1 (qf (oL false 1 101 .adr) r1 r1 (qf (o_eql .t qi) r1 qz qZ))) hB [5,2,1] [101,0] rfl rfl ?_
 clear hS;intro a w F hS
 refine then_n ?_
 refine cond_b hS rfl (fun hc0=>?_) (fun hc0=>?_)
 ·skip
  have h0:v.tx=0:=of_decide_eq_true hc0
  refine wp_seq ?_
  refine region_z hS (qf (oF 1 101 .is) r1 r1 (qf (oL false 1 101 .adr) r1 r1 (qf (oP (refId_c _) Tryz.func125 (Args.one .t)) r1 qz (qM rfl rfl (qk rfl (fun h=>oF 2 101 .is) r2 r1 (qk rfl (fun h=>oL false 1 101 (.w h .adr)) r2 r1 (qk rfl (fun h=>o_eql (.w h) qi) r2 qz (qf (o_and2 .t .t) r2 qz (qN rfl rfl qZ))))))))) hB [2,1] [101,0] rfl rfl ?_
  clear hS;intro a w F hS
  refine then_n (wp_ret (then_r ?_))
  refine ret_P hfr hS rfl (.tmp rfl .nil) (.one (.bool (by unfold rightV;first | rw [if_pos h0] | rw [if_neg h0])))
 have h0:¬ v.tx=0:=of_decide_eq_false hc0
 refine wp_skip (then_n (wp_seq ?_))
 refine region_z hS (qf (oF 0 101 .is) r1 r1 (qf (oL false 1 101 .adr) r1 r1 (qf (oP (refId_c _) Tryz.func125 (Args.one .t)) r1 qz (qM rfl rfl (qk rfl (fun h=>oF 1 101 .is) r2 r1 (qk rfl (fun h=>oL false 1 101 (.w h .adr)) r2 r1 (qk rfl (fun h=>oP (refId_c _) Tryz.func125 (Args.one (.w h))) r2 qz (qf (o_and2 .t .t) r2 qz (qM rfl rfl (qk rfl (fun h=>oF 2 101 .is) r2 r1 (qk rfl (fun h=>oL false 1 101 (.w h .adr)) r2 r1 (qk rfl (fun h=>o_geq (.w h) qi) r2 qz (qf (o_and2 .t .t) r2 qz (qM rfl rfl (qk rfl (fun h=>oF 2 101 .is) r2 r1 (qk rfl (fun h=>oL false 1 101 (.w h .adr)) r2 r1 (qk rfl (fun h=>o_leq (.w h) qi) r2 qz (qf (o_and2 .t .t) r2 qz (qN rfl rfl qZ))))))))))))))))))) hB [2] [0] rfl rfl ?_
 clear hS;intro a w F hS
 refine then_n (wp_ret ?_)
 refine ret_P hfr hS rfl (.tmp rfl .nil) (.one (.bool (by unfold rightV;first | rw [if_pos h0] | rw [if_neg h0])))
end Go.Proofs.YtcfgcpcakdknkaaGreat
