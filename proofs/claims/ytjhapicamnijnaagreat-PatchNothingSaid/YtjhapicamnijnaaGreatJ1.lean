/- Texts put together. No condition beyond those that each theorem says. -/
import Derived.Test.YtjhapicamnijnaaGreatJ0
import Derived.Test.YtjhapicamnijnaaGreatLibX
import Derived.Test.YtjhapicamnijnaaGreatLibG
namespace Go.Proofs.YtjhapicamnijnaaGreat
open Go Go.Gm
set_option linter.unusedVariables false
set_option linter.unusedSimpArgs false
set_option maxHeartbeats 4000000
set_option maxRecDepth 8000
structure ZrC where
 src:Int
 dst:Int
 kind:Int
 key:Int
 deriving DecidableEq,Inhabited
structure ZbY where
 tx:Int
 key:Int
 nth:Int
 deriving DecidableEq,Inhabited
def ZG (v:ZbY):List PV:=[.int .i64 v.tx,.int .i64 v.key,.int .i64 v.nth]
def noV:ZbY:=⟨0,0,0⟩
def idB (n:Int):Bool:=decide (1≤n) && decide (n≤1048575)
def Zcn (v:ZbY):Bool:=if v.tx=0 then idB v.key && decide (v.nth=0) else ((idB v.tx && idB v.key) && decide (1≤v.nth)) && decide (v.nth≤4095)
def ZqW (v:ZbY):Int:=(v.tx*1048576+v.key)*4096+v.nth
def ZoS (v:ZbY):Int×Int:=if Zcn v then (ZqW v,0) else (0,1)
theorem Zjv {n:Int} : idB n=true ↔ 1≤n∧n≤1048575:=by unfold idB;rw [Bool.and_eq_true,decide_eq_true_eq,decide_eq_true_eq]
theorem Zly (k:Int):decide (k<1) = !decide (1≤k):=by rw [← decide_not];exact decide_eq_decide.2 (by omega)
theorem Zmb (m k:Int):decide (m<k) = !decide (k≤m):=by rw [← decide_not];exact decide_eq_decide.2 (by omega)
theorem or64 (x y:Nat) (hx:x<18446744073709551616) (hy:y<18446744073709551616):bits .or .u64 (x:Int) (y:Int)=((x ||| y:Nat):Int):=by
 have h1:(BitVec.ofInt 64 (x:Int)).toNat=x:=by rw [BitVec.toNat_ofInt];omega
 have h2:(BitVec.ofInt 64 (y:Int)).toNat=y:=by rw [BitVec.toNat_ofInt];omega
 show IntKind.wrap .u64 (((BitVec.ofInt 64 (x:Int) ||| BitVec.ofInt 64 (y:Int)).toNat:Nat):Int)=_
 rw [BitVec.toNat_or,h1,h2]
 exact ZdL (by have:=Nat.or_lt_two_pow (n:=64) hx hy;omega)
theorem Zrl {q:Nat} (h:q<18446744073709551616):IntKind.wrap .u64 (q:Int)=q:=ZdL (by omega)
theorem ZoT {K:Int} (k:Nat) (hk:min K.toNat (IntKind.bits .u64)=k) (x y:Int) (hx:0≤x) (hy:0≤y) (hyk:y<2 ^ k) (hb:x*2 ^ k+y<18446744073709551616):bits .or .u64 (IntKind.wrap .u64 (x*2 ^ min K.toNat (IntKind.bits .u64))) y=x*2 ^ k+y:=by
 obtain ⟨X,rfl⟩:=Int.eq_ofNat_of_zero_le hx
 obtain ⟨Y,rfl⟩:=Int.eq_ofNat_of_zero_le hy
 rw [hk]
 have e2:(X:Int)*2 ^ k=((X*2 ^ k:Nat):Int):=by rw [Int.natCast_mul,Int.natCast_pow];rfl
 have hY:Y<2 ^ k:=by exact_mod_cast hyk
 have hor:X*2 ^ k ||| Y=X*2 ^ k+Y:=by rw [Nat.mul_comm];exact (Nat.two_pow_add_eq_or_of_lt hY X).symm
 rw [e2] at hb ⊢
 generalize X*2 ^ k=Q at hb hor ⊢
 rw [Zrl (by omega),or64 _ _ (by omega) (by omega),hor]
 omega
theorem Zkx {v:ZbY} (h:Zcn v=true):bits .or .u64 (IntKind.wrap .u64 (bits .or .u64 (IntKind.wrap .u64 (IntKind.wrap .u64 v.tx*2 ^ min (20:Int).toNat (IntKind.bits .u64))) (IntKind.wrap .u64 v.key)*2 ^ min (12:Int).toNat (IntKind.bits .u64))) (IntKind.wrap .u64 v.nth)=ZqW v:=by
 have hb:(0≤v.tx∧v.tx≤1048575)∧(1≤v.key∧v.key≤1048575)∧(0≤v.nth∧v.nth≤4095):=by
   unfold Zcn at h
   split at h <;> simp only [Bool.and_eq_true,decide_eq_true_eq,Zjv] at h <;> omega
 obtain ⟨h1,h2,h3⟩:=hb
 rw [ZdL (x:=v.tx) (by omega),ZdL (x:=v.key) (by omega),ZdL (x:=v.nth) (by omega)]
 rw [ZoT 20 rfl v.tx v.key (by omega) (by omega) (by omega) (by omega),ZoT 12 rfl (v.tx*2 ^ 20+v.key) v.nth (by omega) (by omega) (by omega) (by omega)]
 unfold ZqW
 omega
theorem Zru (n:Int):FnP Tryz.prog 192 [.int .i64 n] (.bool (idB n)):=by
 refine FnP.mk Tryz.func192 rfl Tryz.ntmps192 rfl ?_
 intro B a w F hB hfr hS
 refine wp_seq ?_
 refine Za hS qB hB [2,0] [0] rfl rfl fun a w F hS=>Zb (wp_seq ?_)
 refine Za hS (qM rfl rfl (qf (ZfI .t qi) r1 qz (qM rfl rfl (qm rfl rfl rfl rfl (qk rfl (fun h=>ZqD (.w h) qi) r2 qz (qf (ZB .t .t) r2 qz (qN rfl rfl qZ))))))) hB [2] [0] rfl rfl fun a w F hS=>Zb (wp_ret ?_)
 refine Zq hfr hS rfl rfl rfl .refl
theorem Zg3 (v:ZbY):((!(decide (v.tx=0) && decide (v.nth=0)) && ((!idB v.tx || decide (v.nth<1)) || decide (4095<v.nth))) || !idB v.key) = !Zcn v:=by
 unfold Zcn
 by_cases h:v.tx=0
 · rw [if_pos h,decide_eq_true h]
   have hi:idB v.tx=false:=by rw [h];rfl
   rw [hi]
   cases decide (v.nth=0) <;> cases idB v.key <;> simp
 · rw [if_neg h,decide_eq_false h,Zly,Zmb 4095]
   cases idB v.tx <;> cases idB v.key <;> cases decide (1≤v.nth) <;> cases decide (v.nth≤4095) <;> rfl
theorem ZnJ (v:ZbY):FnP Tryz.prog 158 [.agg (ZG v)] (.tup [.int .u64 (ZoS v).1,.int .i64 (ZoS v).2]):=by
 refine FnP.mk Tryz.func158 rfl Tryz.ntmps158 rfl ?_
 intro B a w F hB hfr hS
 refine wp_seq ?_
 refine Zc hS (qx 101 r1 (qI (qI qZ))) hB [3,2,1] [101,0] (fun _=>rfl) (fun _=>rfl) fun τ a w F hS=>?_
 try dsimp only [RS.sub,SF.sub,CF.sub,csub,Anc.sub,List.map,zCF] at hS
 generalize τ 1=v1 at hS
 refine Zb (wp_seq ?_)
 refine Za hS (qg 0 101 r1 r1 (qa 101 r1 r1 (qf (o_eql .t qi) r1 qz (qM rfl rfl (qv 2 101 rfl r2 r1 (qw 101 rfl r2 r1 (qk rfl (fun h=>o_eql (.w h) qi) r2 qz (qf (ZB .t .t) r2 qz (qN rfl rfl qZ))))))))) hB [4,3,2,1] [101,0] rfl rfl fun a w F hS=>Zb (wp_seq (wp_seq ?_))
 refine Za hS (qM rfl rfl (qf (o_not .t) r1 qz (qM rfl rfl (qv 0 101 rfl r2 r1 (qw 101 rfl r2 r1 (qk rfl (fun h=>oP (Zru _) Tryz.func192 (Args.one (.w h))) r2 qz (qk rfl (fun h=>o_not (.w h)) r2 qz (qk rfl (fun h=>oM (.w h)) r2 qz (ZP.cons (ZeV.cond2 rfl rfl (fun h=>Zbb (off:=2) 101 .is (by kernel_rfl) (by rfl))) r2 r1 (ZP.cons (ZeV.cond2 rfl rfl (fun h=>Zfk (ag:=false) (sz:=1) 101 (.w h .adr) (by kernel_rfl) (by kernel_rfl) (by kernel_rfl) (by rfl))) r2 r1 (ZP.cons (ZeV.cond2 rfl rfl (fun h=>Zcr (.w h) qi)) r2 qz (qk rfl (fun h=>ZaL (.w h) (.wc h)) r3 qz (qk rfl (fun h=>oM (.w h)) r2 qz (ZP.cons (ZeV.cond2 rfl rfl (fun h=>Zbb (off:=2) 101 .is (by kernel_rfl) (by rfl))) r2 r1 (ZP.cons (ZeV.cond2 rfl rfl (fun h=>Zfk (ag:=false) (sz:=1) 101 (.w h .adr) (by kernel_rfl) (by kernel_rfl) (by kernel_rfl) (by rfl))) r2 r1 (ZP.cons (ZeV.cond2 rfl rfl (fun h=>o_gtr (.w h) qi)) r2 qz (qk rfl (fun h=>ZaL (.w h) (.wc h)) r3 qz (qf (ZB .t .t) r2 qz (qM rfl rfl (qv 1 101 rfl r2 r1 (qw 101 rfl r2 r1 (qk rfl (fun h=>oP (Zru _) Tryz.func192 (Args.one (.w h))) r2 qz (qk rfl (fun h=>o_not (.w h)) r2 qz (qf (ZaL .t .t) r2 qz qZ)))))))))))))))))))))))) hB [36,3,2,1] [101,0] rfl rfl fun a w F hS=>?_
 try dsimp only [List.map,xD,xE,xT,xU,ldSF] at hS
 refine Zb ?_
 refine Zd hS rfl (fun hc0=>?_) (fun hc0=>?_)
 ·skip
  rw [Zg3] at hc0
  have hr:Zcn v=false:=by simpa using hc0
  have hg:ZoS v=(0,1):=by unfold ZoS;rw [hr];rfl
  refine wp_seq ?_
  refine Za hS (qI (qI qZ)) hB [3,2,1] [101,0] rfl rfl fun a w F hS=>Zb (wp_ret (Zg ?_))
  refine ZI hfr hS rfl (.tmp rfl (.tmp rfl .nil)) (.two (.int (by rw [hg];try exact Zkx hr)) (.int (by rw [hg])))
 rw [Zg3] at hc0
 have hr:Zcn v=true:=by simpa using hc0
 have hg:ZoS v=(ZqW v,0):=if_pos hr
 refine wp_skip (Zb (wp_seq ?_))
 refine Za hS (qg 0 101 r1 r1 (qa 101 r1 r1 (qf (Zdg Tryz.underlying166 (by kernel_rfl) .t) r1 qz (qf (ZqB .t qi (by decide)) r1 qz (qg 1 101 r1 r1 (qa 101 r1 r1 (qf (Zdg Tryz.underlying166 (by kernel_rfl) .t) r1 qz (qf (Zrv .t .t) r2 qz (qf (ZqB .t qi (by decide)) r1 qz (qg 2 101 r1 r1 (qa 101 r1 r1 (qf (Zdg Tryz.underlying166 (by kernel_rfl) .t) r1 qz (qf (Zrv .t .t) r2 qz (qN rfl rfl (qI qZ))))))))))))))) hB [3,2] [0] rfl rfl fun a w F hS=>Zb (wp_ret ?_)
 refine ZI hfr hS rfl (.tmp rfl (.tmp rfl .nil)) (.two (.int (by rw [hg];try exact Zkx hr)) (.int (by rw [hg])))
def Zah:List (List UInt8)→List UInt8
 | []=>[]
 | [x]=>x
 | x :: y :: r=>x++32 :: Zah (y :: r)
theorem take_set {α:Type} {q:List α} {i:Nat} {v:α} (h:i<q.length):(q.set i v).take (i+1)=q.take i ++ [v]:=by
 rw [List.take_succ_eq_append_getElem (by simpa using h),List.getElem_set_self,List.take_set_of_le (Nat.le_refl _)]
theorem ne_of_lt {l:List UInt8} {k:Nat} (h:k<l.length):l≠[]:=by intro e;rw [e] at h;simp at h
def bZ (v ad:Value):HP:=.star [.pt (.val v) 158 [.pv (.is ad),.pv (.is (.slice none 0 0))],.ob (.val (.slice none 0 0)) (Zx 5 1 rC [])]
def bW (v:Value) (l:List UInt8):HP:=.ex fun rv=>.star [.pt (.val v) 158 [.pv (.is v),.pv (.is rv)],.ob (.val rv) (Zx 5 1 rC l)]
def sumL (l:List (List UInt8)):Nat:=(l.map List.length).sum
theorem ZhO (l:List (List UInt8)) (i:Nat) (h:i<l.length):sumL (l.take (i+1))=sumL (l.take i)+(nth l i).length:=by
 unfold sumL
 rw [List.take_succ_eq_append_getElem h,Zt h]
 simp only [List.map_append,List.sum_append,List.map_cons,List.map_nil,List.sum_cons,List.sum_nil,Nat.add_zero]
theorem Zk5 (l:List (List UInt8)) (i:Nat):sumL (l.take i)≤sumL l:=by
 conv=>rhs;rw [← List.take_append_drop i l]
 unfold sumL
 rw [List.map_append,List.sum_append]
 omega
theorem Zmt {l:List (List UInt8)} {i:Nat} (h:i<l.length):(nth l i).length≤sumL l:=by
 have h1:=ZhO l i h
 have h2:=Zk5 l (i+1)
 omega
theorem Zky:∀ l:List (List UInt8),(Zah l).length≤sumL l+l.length
 | []=>by simp [Zah]
 | [x]=>by simp [Zah,sumL]
 | x :: y :: r=>by
   have:=Zky (y :: r)
   simp [Zah,sumL] at this ⊢
   omega
theorem Zfm:∀ (l:List (List UInt8)) (x:List UInt8),l≠[]→Zah (l ++ [x])=Zah l ++ [32] ++ x
 | [],x,h=>absurd rfl h
 | [a],x,_=>by simp [Zah]
 | a :: b :: r,x,_=>by
   have:=Zfm (b :: r) x (by simp)
   simp only [List.cons_append] at this ⊢
   rw [Zah,this,Zah]
   simp
theorem ZmJ {l:List (List UInt8)} {i:Nat} (h:i+1<l.length):Zah (l.take (i+2))=Zah (l.take (i+1)) ++ [32] ++ nth (l.drop 1) i:=by
 rw [show i+2=(i+1)+1 from rfl,List.take_succ_eq_append_getElem h,Zfm _ _ (by intro e;have:=congrArg List.length e;rw [List.length_take,List.length_nil] at this;omega)]
 congr 1
 rw [Zt (by simp;omega)]
 simp [Nat.add_comm]
theorem ZpC {k:Int} (h:1≤k) (h2:k≤1000000):2≤IntKind.wrap .i64 (Int.tdiv 9223372036854775807 k):=by
 rw [Int.tdiv_eq_ediv_of_nonneg (by decide)]
 have h3:9223372036854≤(9223372036854775807:Int) / k:=(Int.le_ediv_iff_mul_le (by omega)).2 (by omega)
 have h4:(9223372036854775807:Int) / k≤9223372036854775807:=Int.ediv_le_self _ (by decide)
 rw [ZM (by omega)]
 omega
theorem Zrc (b:Nat):FnG Tryz.prog 186 1 [.is (.pointer (some ⟨b,0,none⟩))] [bZ (.pointer (some ⟨b,0,none⟩)) (.pointer none)] (.any) (fun _=>[bZ (.pointer (some ⟨b,0,none⟩)) (.pointer (some ⟨b,0,none⟩))]):=by
 refine FnG.mk Tryz.func186 rfl Tryz.ntmps186 rfl (by kernel_rfl) ?_
 intro B F0 a w F hB hG hS
 obtain ⟨F,hS⟩:=hS.peel 1 2 rfl rfl
 obtain ⟨F,hS⟩:=hS.peel 1 3 rfl rfl
 obtain ⟨F,hS⟩:=hS.nm [0] [3,2,0] rfl rfl
 refine wp_seq ?_
 refine Za hS (qM rfl rfl (qf (Zw 2 .is (by rfl)) r1 r1 (qf (oF 0 2 .adr) r1 r1 (qa 2 r1 r1 (qf (Zd7 _ Tryz.underlying155 rfl .t) r1 qz qZ))))) hB [6,0] [3,2,0] rfl rfl fun a w F hS=>Zb ?_
 refine Zd hS rfl (fun hc0=>?_) (fun hc0=>?_)
 ·skip
  refine Za hS (qM rfl rfl (qM rfl rfl (qf (Zd8 2 Tryz.underlying155 Tryz.underlying220 (by kernel_rfl) (by kernel_rfl) .t) r1 r1 (qf (ZgS Tryz.func213 (by kernel_rfl) (by kernel_rfl) (by kernel_rfl) (by kernel_rfl) .t) r1 qz (qf (Ze7 2 Tryz.underlying220 Tryz.underlying155 (by kernel_rfl) (by kernel_rfl) .t) r1 r1 (qf (Zw 2 .is (by rfl)) r1 r1 (qf (oF 0 2 .adr) r1 r1 (qf (Zbh 2 .adr .t ZnE (by kernel_rfl) (by kernel_rfl)) r2 r1 qZ)))))))) hB [] [3,2,0] rfl rfl fun a w F hS=>?_
  have hS:=hS.fresh 1 rfl
  obtain ⟨F,hS⟩:=hS.push 1 3 rfl rfl rfl (by kernel_rfl)
  obtain ⟨F,hS⟩:=hS.push 1 2 rfl rfl rfl (by kernel_rfl)
  have hS:=hS.turn 1 rfl (r':=RS.hp (bZ (.pointer (some ⟨b,0,none⟩)) (.pointer (some ⟨b,0,none⟩)))) (fun _ _ _ _ h=>h)
  refine ZbD hG hS rfl .nil Zbl.any rfl
 simp at hc0
theorem Zre (b:Nat) (l:List UInt8):FnG Tryz.prog 186 1 [.is (.pointer (some ⟨b,0,none⟩))] [bW (.pointer (some ⟨b,0,none⟩)) l] (.any) (fun _=>[bW (.pointer (some ⟨b,0,none⟩)) l]):=by
 refine FnG.mk Tryz.func186 rfl Tryz.ntmps186 rfl (by kernel_rfl) ?_
 intro B F0 a w F hB hG hS
 obtain ⟨rv,hS⟩:=hS.open_ex 1 rfl
 obtain ⟨F,hS⟩:=hS.peel 1 2 rfl rfl
 obtain ⟨F,hS⟩:=hS.peel 1 3 rfl rfl
 obtain ⟨F,hS⟩:=hS.nm [0] [3,2,0] rfl rfl
 refine wp_seq ?_
 refine Za hS (qM rfl rfl (qf (Zw 2 .is (by rfl)) r1 r1 (qf (oF 0 2 .adr) r1 r1 (qa 2 r1 r1 (qf (Zd7 _ Tryz.underlying155 rfl .t) r1 qz qZ))))) hB [6,0] [3,2,0] rfl rfl fun a w F hS=>Zb ?_
 refine Zd hS rfl (fun hc0=>?_) (fun hc0=>?_)
 ·skip
  simp at hc0
 refine wp_seq ?_
 refine Za hS (qM rfl rfl (qf (Zw 2 .is (by rfl)) r1 r1 (qf (oF 0 2 .adr) r1 r1 (qa 2 r1 r1 (qM rfl rfl (qf (ZgQ Tryz.underlying155 (by kernel_rfl) .t .t) r2 qz qZ)))))) hB [19] [3,2,0] rfl rfl fun a w F hS=>Zb ?_
 refine Zd hS rfl (fun hc1=>?_) (fun hc1=>?_)
 ·skip
  simp at hc1
 refine wp_skip ?_
 have hS:=hS.fresh 1 rfl
 obtain ⟨F,hS⟩:=hS.push 1 3 rfl rfl rfl (by kernel_rfl)
 obtain ⟨F,hS⟩:=hS.push 1 2 rfl rfl rfl (by kernel_rfl)
 have hS:=hS.turn 1 rfl (r':=RS.hp (bW (.pointer (some ⟨b,0,none⟩)) l)) (fun _ _ _ _ h=>⟨_,h⟩)
 refine ZbD hG hS rfl .nil Zbl.any rfl
theorem writeW (b:Nat) (l x:List UInt8) (hl:l.length≤1000000000) (hx:x.length≤1000000000):FnG Tryz.prog 135 1 [.is (.pointer (some ⟨b,0,none⟩)),.bs x] [bW (.pointer (some ⟨b,0,none⟩)) l] (.any) (fun _=>[bW (.pointer (some ⟨b,0,none⟩)) (l++x)]):=by
 refine FnG.mk Tryz.func135 rfl Tryz.ntmps135 rfl (by kernel_rfl) ?_
 intro B F0 a w F hB hG hS
 refine wp_seq ?_
 refine Za hS (qI (qC qZ)) hB [5,4,1,0] [1,0] rfl rfl fun a w F hS=>Zb (wp_seq ?_)
 refine Za hS (qM rfl rfl (qf (o_callG1 1 (Zre b l) Tryz.func186 rfl (by kernel_rfl) (Args.one .t)) r1 r1 qZ)) hB [5,4,1,0] [1,0] rfl rfl fun a w F hS=>?_
 obtain ⟨rv,hS⟩:=hS.open_ex 1 rfl
 obtain ⟨F,hS⟩:=hS.peel 1 2 rfl rfl
 obtain ⟨F,hS⟩:=hS.peel 1 3 rfl rfl
 obtain ⟨F,hS⟩:=hS.nm [5,4,1,0] [3,2,0] rfl rfl
 refine Zb (wp_seq ?_)
 refine Zc hS (qM rfl rfl (qM rfl rfl (qf (Zw 2 .is (by rfl)) r1 r1 (qf (oF 1 2 .adr) r1 r1 (qa 2 r1 r1 (qM rfl rfl (qf (ZeF 3 Tryz.underlying156 Tryz.underlying9 (by kernel_rfl) .is .t (by omega)) ⟨rfl,rfl,trivial⟩ ⟨rfl,trivial⟩ (qf (Zw 2 .is (by rfl)) r1 r1 (qf (oF 1 2 .adr) r1 r1 (qf (Zac 2 .adr (by kernel_rfl) (by kernel_rfl)) r2 r1 qZ)))))))))) hB [5,4,1] [3,2,0] (fun _=>rfl) (fun _=>rfl) fun τ a w F hS=>?_
 try dsimp only [RS.sub,SF.sub,CF.sub,csub,Anc.sub,List.map,Zf,xL,xM,Nat.reduceAdd,xD,xE,xT,xU,xC,xN,zCF,ldSF] at hS
 generalize τ 14=v14 at hS
 refine Zb (wp_seq ?_)
 refine Za hS (qM rfl rfl (qf (o_len_bs Tryz.underlying9 .t) r1 qz (qN rfl rfl (qC qZ)))) hB [5,4] [3,2,0] rfl rfl fun a w F hS=>Zb (wp_ret ?_)
 have hS:=hS.fresh 1 rfl
 obtain ⟨F,hS⟩:=hS.push 1 3 rfl rfl rfl (by kernel_rfl)
 obtain ⟨F,hS⟩:=hS.push 1 2 rfl rfl rfl (by kernel_rfl)
 have hS:=hS.turn 1 rfl (r':=RS.hp (bW (.pointer (some ⟨b,0,none⟩)) (l++x))) (fun _ _ _ _ h=>⟨_,h⟩)
 refine ZbD hG hS rfl (.tmp rfl (.tmp rfl .nil)) Zbl.any rfl
theorem ZpL (b:Nat) (l:List UInt8) (hne:l≠[]):FnG Tryz.prog 137 1 [.is (.pointer (some ⟨b,0,none⟩))] [bW (.pointer (some ⟨b,0,none⟩)) l] (.bs l) (fun _=>[HP.star []]):=by
 refine FnG.mk Tryz.func137 rfl Tryz.ntmps137 rfl (by kernel_rfl) ?_
 intro B F0 a w F hB hG hS
 obtain ⟨rv,hS⟩:=hS.open_ex 1 rfl
 obtain ⟨F,hS⟩:=hS.peel 1 2 rfl rfl
 obtain ⟨F,hS⟩:=hS.peel 1 3 rfl rfl
 obtain ⟨F,hS⟩:=hS.nm [0] [3,2,0] rfl rfl
 refine wp_seq ?_
 refine Za hS (qf (oN (.cs (by kernel_rfl))) trivial qz qZ) hB [2,0] [3,2,0] rfl rfl fun a w F hS=>Zb (wp_seq ?_)
 refine ZC hS (qM rfl rfl (qf (Zw 2 .is (by rfl)) r1 r1 (qf (oF 1 2 .adr) r1 r1 (qa 2 r1 r1 (qf (Zf1 3 hne .is (by rfl)) r1 r1 (qM rfl rfl (qf (Zw 2 .is (by rfl)) r1 r1 (qf (oF 1 2 .adr) r1 r1 (qa 2 r1 r1 (qf (ZV 3 Tryz.underlying156 .is) r1 r1 (qf (Zdd 3 Tryz.underlying201 (by kernel_rfl) hne .t) r2 r1 (qN rfl rfl qZ)))))))))))) hB [2] [3,2,0] rfl rfl fun a w F hS=>?_
 try dsimp only [List.map,xD,xE,xT,xU,ldSF] at hS
 refine Zb (wp_ret ?_)
 have hS:=hS.fresh 1 rfl
 refine ZbD (h':=HP.star []) hG hS rfl (.tmp rfl .nil) (.one .refl) rfl
theorem Zrd (b:Nat) (n:Int) (h0:1≤n) (h1:n≤1000000000):FnG Tryz.prog 214 1 [.is (.pointer (some ⟨b,0,none⟩)),.int .i64 n] [bZ (.pointer (some ⟨b,0,none⟩)) (.pointer (some ⟨b,0,none⟩))] (.any) (fun _=>[bW (.pointer (some ⟨b,0,none⟩)) []]):=by
 refine FnG.mk Tryz.func214 rfl Tryz.ntmps214 rfl (by kernel_rfl) ?_
 intro B F0 a w F hB hG hS
 have hw:IntKind.wrap .i64 (IntKind.wrap .i64 (2*0)+n)=n:=by rw [show IntKind.wrap .i64 (2*0)=0 from rfl,Int.zero_add];exact ZM (by omega)
 obtain ⟨F,hS⟩:=hS.peel 1 2 rfl rfl
 obtain ⟨F,hS⟩:=hS.peel 1 3 rfl rfl
 obtain ⟨F,hS⟩:=hS.nm [1,0] [3,2,0] rfl rfl
 refine wp_seq ?_
 refine ZcU hS (qM rfl rfl (qf (Zw 2 .is (by rfl)) r1 r1 (qf (oF 1 2 .adr) r1 r1 (qa 2 r1 r1 (qf (ZdX Tryz.underlying156 .t) r1 qz (qf (ZqK qi .t) r1 qz (qM rfl rfl (qf (ZbX .t .t) r2 qz (qf (Zi5 101 Tryz.func223 (by kernel_rfl) (by kernel_rfl) (by kernel_rfl) rfl Tryz.underlying156 .t (by rw [hw];omega) (by rw [hw];omega)) r1 qz (qM rfl rfl (qf (Zw 2 .is (by rfl)) r1 r1 (qf (oF 1 2 .adr) r1 r1 (qa 2 r1 r1 (qf (ZV 3 Tryz.underlying156 .is) r1 r1 (qf (Zb6 (sz:=1) 101 (.mk Tryz.underlying156 (by kernel_rfl)) (by intro x;rfl) .same .t (by decide) (by simp;omega)) r2 r1 (qN rfl rfl qZ)))))))))))))))) hB [4,0] [101,3,2,0] (fun _=>rfl) (fun _=>rfl) fun τ a w F hS=>?_
 try dsimp only [RS.sub,SF.sub,CF.sub,csub,Anc.sub,List.map,xD,xE,xT,xU,ldSF] at hS
 generalize τ 19=v19 at hS
 replace hS:=hS.turn 101 rfl (r':=RS.ob (.val v19) (Zx 5 1 rC [])) (fun τ w f y h=>Zol (R:=Zq3) τ w f y (by simpa using h))
 refine Zb (wp_seq ?_)
 refine Za hS (qM rfl rfl (qM rfl rfl (qf (Zw 2 .is (by rfl)) r1 r1 (qf (oF 1 2 .adr) r1 r1 (qa 2 r1 r1 (qf (ZpI 101 Tryz.underlying156 (by kernel_rfl) .is .t) r2 r1 qZ)))))) hB [4,0] [101,3,2,0] rfl rfl fun a w F hS=>Zb ?_
 refine Za hS (qM rfl rfl (qM rfl rfl (qf (Zw 2 .is (by rfl)) r1 r1 (qf (oF 1 2 .adr) r1 r1 (qf (Zbh 2 .adr .t ZnE (by kernel_rfl) (by kernel_rfl)) r2 r1 qZ))))) hB [] [101,3,2,0] rfl rfl fun a w F hS=>?_
 have hS:=hS.fresh 1 rfl
 obtain ⟨F,hS⟩:=hS.push 1 101 rfl rfl rfl (by kernel_rfl)
 obtain ⟨F,hS⟩:=hS.push 1 2 rfl rfl rfl (by kernel_rfl)
 have hS:=hS.turn 1 rfl (r':=RS.hp (bW (.pointer (some ⟨b,0,none⟩)) [])) (fun _ _ _ _ h=>⟨_,h⟩)
 refine ZbD hG hS rfl .nil Zbl.any rfl
theorem Zrm (b:Nat) (n:Int) (h0:1≤n) (h1:n≤1000000000):FnG Tryz.prog 187 1 [.is (.pointer (some ⟨b,0,none⟩)),.int .i64 n] [bZ (.pointer (some ⟨b,0,none⟩)) (.pointer none)] (.any) (fun _=>[bW (.pointer (some ⟨b,0,none⟩)) []]):=by
 refine FnG.mk Tryz.func187 rfl Tryz.ntmps187 rfl (by kernel_rfl) ?_
 intro B F0 a w F hB hG hS
 refine wp_seq ?_
 refine Za hS (qM rfl rfl (qf (o_callG1 1 (Zrc b) Tryz.func186 rfl (by kernel_rfl) (Args.one .t)) r1 r1 qZ)) hB [1,0] [1,0] rfl rfl fun a w F hS=>?_
 obtain ⟨F,hS⟩:=hS.peel 1 2 rfl rfl
 obtain ⟨F,hS⟩:=hS.peel 1 3 rfl rfl
 obtain ⟨F,hS⟩:=hS.nm [1,0] [3,2,0] rfl rfl
 refine Zb (wp_seq (wp_seq ?_))
 refine Za hS (qM rfl rfl (qf (Zcr .t qi) r1 qz qZ)) hB [7,1,0] [3,2,0] rfl rfl fun a w F hS=>Zb ?_
 refine Zd hS rfl (fun hc0=>?_) (fun hc0=>?_)
 ·skip
  simp at hc0;omega
 refine wp_skip (Zb (wp_seq ?_))
 refine ZC hS (qM rfl rfl (qf (Zw 2 .is (by rfl)) r1 r1 (qf (oF 1 2 .adr) r1 r1 (qa 2 r1 r1 (qf (ZdX Tryz.underlying156 .t) r1 qz (qM rfl rfl (qf (Zw 2 .is (by rfl)) r1 r1 (qf (oF 1 2 .adr) r1 r1 (qa 2 r1 r1 (qf (ZV 3 Tryz.underlying156 .is) r1 r1 (qf (o_sub .t .t) r2 qz (qM rfl rfl (qL r2))))))))))))) hB [21,1,0] [3,2,0] rfl rfl fun a w F hS=>?_
 try dsimp only [List.map,xD,xE,xT,xU,ldSF] at hS
 refine Zb ?_
 refine Zd hS rfl (fun hc1=>?_) (fun hc1=>?_)
 ·skip
  replace hS:=hS.fresh 1 rfl
  obtain ⟨F,hS⟩:=hS.push 1 3 rfl rfl rfl (by kernel_rfl)
  obtain ⟨F,hS⟩:=hS.push 1 2 rfl rfl rfl (by kernel_rfl)
  replace hS:=hS.turn 1 rfl (r':=RS.hp (bZ (.pointer (some ⟨b,0,none⟩)) (.pointer (some ⟨b,0,none⟩)))) (fun _ _ _ _ h=>h)
  obtain ⟨F,hS⟩:=hS.nm [21,1,0] [1,0] rfl rfl
  refine Za hS (qM rfl rfl (qM rfl rfl (qf (o_callG1 1 (Zrd b n h0 h1) Tryz.func214 rfl (by kernel_rfl) (Args.two .t .t)) r2 r1 qZ))) hB [] [1,0] rfl rfl fun a w F hS=>ZbD hG hS rfl .nil Zbl.any rfl
 have h9:¬ (0:Int)<n:=of_decide_eq_false hc1
 omega
theorem Zqc {l:List (List UInt8)} (h:2≤l.length):Zah l≠[]:=by
 match l,h with
 | x :: y :: r,_=>simp [Zah]
theorem ZkY {l:List (List UInt8)} (h:0<l.length):nth l 0=Zah (l.take (0+1)):=by
 match l,h with
 | x :: r,_=>simp [Zah,nth]
theorem ZpO (l:List (List UInt8)) (hn:l.length≤1000000) (hs:sumL l≤900000000):FnP Tryz.prog 141 [.sl rS l,.bs [32]] (.bs (Zah l)):=by
 refine FnP.mk Tryz.func141 rfl Tryz.ntmps141 rfl ?_
 intro B a w F hB hfr hS
 refine wp_seq ?_
 refine Za hS (qf (oN (.cs (by kernel_rfl))) trivial qz qZ) hB [4,1,0] [0] rfl rfl fun a w F hS=>Zb (wp_seq (wp_seq ?_))
 refine Za hS (qM rfl rfl (qu Tryz.underlying49 r1 qZ)) hB [12,4,1,0] [0] rfl rfl fun a w F hS=>Zb (wp_block (wp_seq ?_))
 refine Za hS (qf (o_eql .t qi) r1 qz (qN rfl rfl qZ)) hB [13,12,4,1,0] [0] rfl rfl fun a w F hS=>Zb ?_
 refine Zd hS rfl (fun hc0=>?_) (fun hc0=>?_)
 ·skip
  have hr:Zah l = []:=by
    have h9:l = []:=by simpa using hc0
    rw [h9];rfl
  refine wp_seq ?_
  refine Za hS (qf (oN (.cs (by kernel_rfl))) trivial qz qZ) hB [4,1,0] [0] rfl rfl fun a w F hS=>Zb (wp_ret (Zl (Zg ?_)))
  refine Zq hfr hS rfl rfl rfl (.bs (by first | exact hr.symm | rfl))
 have hl0:l≠[]:=by intro e;rw [e] at hc0;simp at hc0
 refine wp_seq ?_
 refine Za hS (qf (o_eql .t qi) r1 qz (qN rfl rfl qZ)) hB [15,4,1,0] [0] rfl rfl fun a w F hS=>Zb ?_
 refine Zd hS rfl (fun hc1=>?_) (fun hc1=>?_)
 ·skip
  have hl1:l.length=1:=by simp at hc1;omega
  have hr:Zah l=nth l 0:=by match l,hl1 with | [x],_=>rfl
  refine wp_seq ?_
  refine Za hS (qM rfl rfl (qf (ZO (sz:=1) (.mk Tryz.underlying49 (by kernel_rfl)) (by intro x;rfl) .t qi (by decide) (by simp;omega)) r1 qz (qf (oR false 1 .t) r1 qz (qN rfl rfl qZ)))) hB [4,1,0] [0] rfl rfl fun a w F hS=>Zb (wp_ret (Zl (Zg ?_)))
  refine Zq hfr hS rfl rfl rfl (.bs (by first | exact hr.symm | rfl))
 have hl2:2≤l.length:=by have:=List.length_pos_iff.2 hl0;simp at hc1;omega
 have hw1:IntKind.wrap .i64 ((l.length:Int) - 1)=((l.length - 1:Nat):Int):=by rw [ZM (by omega)];omega
 have hsz:IntKind.wrap .i64 (0+IntKind.wrap .i64 (1*((l.length - 1:Nat):Int)))=((l.length - 1+sumL (l.take 0):Nat):Int):=by rw [ZM (x:=1*_) (by omega),ZM (by omega)];simp [sumL]
 have hdl:(l.drop 1).length=l.length - 1:=by simp
 refine wp_skip (Zi (Zb (wp_seq ?_)))
 refine Za hS (qI qZ) hB [5,4,1,0] [0] rfl rfl fun a w F hS=>Zb (wp_seq (wp_seq ?_))
 refine Za hS (qM rfl rfl (qf (o_len_bs Tryz.underlying9 .t) r1 qz (qf (o_gtr .t qi) r1 qz qZ))) hB [22,5,4,1,0] [0] rfl rfl fun a w F hS=>Zb ?_
 refine Zd hS rfl (fun hc2=>?_) (fun hc2=>?_)
 ·skip
  refine wp_seq (wp_seq ?_)
  refine Za hS (qM rfl rfl (qf (o_len_bs Tryz.underlying9 .t) r1 qz (qM rfl rfl (qu Tryz.underlying49 r1 (qf (o_sub .t qi) r1 qz (qf (Zql qi .t (by rw [hw1];omega)) r1 qz (qf (ZfI .t .t) r2 qz qZ))))))) hB [29,5,4,1,0] [0] rfl rfl fun a w F hS=>Zb ?_
  refine Zd hS rfl (fun hc3=>?_) (fun hc3=>?_)
  ·skip
   have h9:=of_decide_eq_true hc3
   rw [hw1] at h9
   have:=ZpC (k:=((l.length - 1:Nat):Int)) (by omega) (by omega)
   try simp only [List.length_cons,List.length_nil] at h9
   omega
  refine wp_skip (Zb ?_)
  refine Za hS (qM rfl rfl (qM rfl rfl (qf (o_len_bs Tryz.underlying9 .t) r1 qz (qM rfl rfl (qu Tryz.underlying49 r1 (qf (o_sub .t qi) r1 qz (qf (ZqK .t .t) r2 qz (qf (ZbX .t .t) r2 qz (qN rfl rfl qZ))))))))) hB [5,4,1,0] [0] rfl rfl fun a w F hS=>?_
  rw [hw1] at hS
  refine Zb (wp_seq (wp_seq ?_))
  refine Za hS (qM rfl rfl (qu Tryz.underlying49 r1 (qJ qZ))) hB [41,40,39,5,4,1,0] [0] rfl rfl fun a w F hS=>Zb (wp_block ?_)
  replace hS:=hS.ent (i:=5) (s':=.pv (.int .i64 ((l.length - 1+sumL (l.take 0):Nat):Int))) rfl (.int hsz)
  obtain ⟨F,hS⟩:=hS.nm [41,40,39,5,1,0] [0] rfl rfl
  refine Z7 (σ:=Nat) (fun s=>(⟨[(0,.pv (.sl rS l)),(1,.pv (.bs [32])),(5,.pv (.int .i64 ((l.length - 1+sumL (l.take s):Nat):Int))),(39,.pv (.sl rS l)),(40,.pv (.int .i64 (l.length:Nat))),(41,.pv (.int .i64 (s:Nat)))],[(0,frame B)]⟩:En)) (fun s=>s≤l.length) (fun s=>l.length - s) 0 hS (Nat.zero_le _) ?_
  clear hS;intro i a w F hC hS
  try dsimp only at hC
  try dsimp only at hS
  have hi0:=hC
  have hsi:=Zk5 l i
  refine wp_seq ?_
  refine Za hS (qL r2) hB [42,41,40,39,5,1,0] [0] rfl rfl fun a w F hS=>Zb (wp_seq ?_)
  refine Zd hS rfl (fun hc4=>?_) (fun hc4=>?_)
  ·skip
   have hi:i<l.length:=by simp at hc4;omega
   have hwl:=Zmt hi
   have hst:=ZhO l i hi
   have hsi1:=Zk5 l (i+1)
   refine wp_skip (Zb (wp_seq (wp_block (wp_seq ?_))))
   refine Za hS (qy 1 Tryz.underlying49 r2 (qf (oR false 1 .t) r1 qz (qN rfl rfl qZ))) hB [41,40,39,7,5,1,0] [0] rfl rfl fun a w F hS=>?_
   rw [Int.toNat_natCast] at hS
   refine Zb (wp_seq (wp_seq ?_))
   refine Za hS (qM rfl rfl (qf (o_len_bs Tryz.underlying9 .t) r1 qz (qM rfl rfl (qf (o_sub qi .t) r1 qz (qf (o_gtr .t .t) r2 qz qZ))))) hB [49,41,40,39,7,5,1,0] [0] rfl rfl fun a w F hS=>Zb ?_
   refine Zd hS rfl (fun hc5=>?_) (fun hc5=>?_)
   ·skip
    have h9:=of_decide_eq_true hc5
    rw [ZM (by omega)] at h9
    omega
   refine wp_skip (Zb ?_)
   refine Za hS (qM rfl rfl (qM rfl rfl (qf (o_len_bs Tryz.underlying9 .t) r1 qz (qf (ZbX .t .t) r2 qz (qN rfl rfl qZ))))) hB [41,40,39,5,1,0] [0] rfl rfl fun a w F hS=>Zi (Zb ?_)
   refine Za hS (qp r1 (qM rfl rfl qZ)) hB [41,40,39,5,1,0] [0] rfl rfl fun a w F hS=>Zb ?_
   replace hS:=hS.ent (i:=41) (s':=.pv (.int .i64 ((i+1:Nat):Int))) rfl (.int (Ze (by omega)))
   replace hS:=hS.ent (i:=5) (s':=.pv (.int .i64 ((l.length - 1+sumL (l.take (i+1)):Nat):Int))) rfl (.int (by rw [ZhO l i hi,ZM (by omega)];omega))
   obtain ⟨F,hS⟩:=hS.nm [41,40,39,5,1,0] [0] rfl rfl
   exact ⟨i+1,F,(by omega),hS,by omega⟩
  have hi:i=l.length:=by simp at hc4;omega
  refine wp_exit (Zj (Zj (Zp (Zb (wp_seq ?_)))))
  refine Zc hS (qf (oH [.pointer none,.slice none 0 0] 101) trivial qz qZ) hB [8,5,1,0] [101,0] (fun _=>rfl) (fun _=>rfl) fun τ a w F hS=>?_
  try dsimp only [RS.sub,SF.sub,CF.sub,csub,Anc.sub,List.map,zCF] at hS
  generalize τ 8=v8 at hS
  rw [hi,List.take_length] at hS
  obtain ⟨b,rfl⟩:=hS.shape 101 rfl
  replace hS:=hS.fresh 9 rfl
  replace hS:=hS.turn 9 rfl (Zav (T:=5) (sz:=1) (R:=rC))
  replace hS:=hS.fresh 10 rfl
  obtain ⟨F,hS⟩:=hS.push 10 9 rfl rfl rfl (by kernel_rfl)
  obtain ⟨F,hS⟩:=hS.push 10 101 rfl rfl rfl (by kernel_rfl)
  replace hS:=hS.turn 10 rfl (r':=RS.hp (bZ (.pointer (some ⟨b,0,none⟩)) (.pointer none))) (fun _ _ _ _ h=>h)
  obtain ⟨F,hS⟩:=hS.nm [8,5,1,0] [10,0] rfl rfl
  refine Zb (wp_seq ?_)
  refine Za hS (qM rfl rfl (qf (o_callG1 10 (Zrm b ((l.length - 1+sumL l:Nat):Int) (by omega) (by omega)) Tryz.func187 rfl (by kernel_rfl) (Args.two .t .t)) r2 r1 qZ)) hB [8,1,0] [10,0] rfl rfl fun a w F hS=>Zb (wp_seq ?_)
  refine Za hS (qM rfl rfl (qf (ZO (sz:=1) (.mk Tryz.underlying49 (by kernel_rfl)) (by intro x;rfl) .t qi (by decide) (by simp;omega)) r1 qz (qf (oR false 1 .t) r1 qz (qf (o_callG1 10 (writeW b [] (nth l 0) (by simp) (by have:=Zmt (l:=l) (i:=0) (by omega);omega)) Tryz.func135 rfl (by kernel_rfl) (Args.two .t .t)) r2 r1 qZ)))) hB [8,1,0] [10,0] rfl rfl fun a w F hS=>?_
  replace hS:=hS.turn 10 rfl (r':=RS.hp (bW (.pointer (some ⟨b,0,none⟩)) (Zah (l.take (0+1))))) (fun _ _ _ _ h=>by rw [← ZkY (by omega)];exact h)
  refine Zb (wp_seq (wp_seq ?_))
  refine Za hS (qM rfl rfl (qf (Zep (sz:=1) (.mk Tryz.underlying49 (by kernel_rfl)) (by intro x;rfl) .t qi (by decide) (by omega)) r1 qz (qu Tryz.underlying49 r1 (qJ qZ)))) hB [65,64,63,8,1] [10,0] rfl rfl fun a w F hS=>Zb (wp_block ?_)
  obtain ⟨F,hS⟩:=hS.nm [65,64,63,8,1] [10,0] rfl rfl
  refine Z7 (σ:=Nat) (fun s=>(⟨[(1,.pv (.bs [32])),(8,.pv (.is (.pointer (some ⟨b,0,none⟩)))),(63,.pv (.sl rS (l.drop 1))),(64,.pv (.int .i64 ((l.drop 1).length:Nat))),(65,.pv (.int .i64 (s:Nat)))],[(0,frame B),(10,RS.hp (bW (.pointer (some ⟨b,0,none⟩)) (Zah (l.take (s+1)))))]⟩:En)) (fun s=>s≤(l.drop 1).length) (fun s=>(l.drop 1).length - s) 0 hS (Nat.zero_le _) ?_
  clear hS;intro i a w F hC hS
  try dsimp only at hC
  try dsimp only at hS
  have hi0:=hC
  have hjl:=Zky (l.take (i+1))
  have hsi:=Zk5 l (i+1)
  have htl:=List.length_take_le (i+1) l
  refine wp_seq ?_
  refine Za hS (qL r2) hB [66,65,64,63,8,1] [10,0] rfl rfl fun a w F hS=>Zb (wp_seq ?_)
  refine Zd hS rfl (fun hc6=>?_) (fun hc6=>?_)
  ·skip
   have hi1:i+1<l.length:=by simp at hc6;omega
   have hwl:(nth (l.drop 1) i).length≤sumL l:=by rw [show nth (l.drop 1) i=nth l (i+1) by rw [Zt (by omega),Zt hi1];simp [Nat.add_comm]];exact Zmt hi1
   refine wp_skip (Zb (wp_seq (wp_block (wp_seq ?_))))
   refine Za hS (qy 1 Tryz.underlying49 r2 (qf (oR false 1 .t) r1 qz (qN rfl rfl qZ))) hB [65,64,63,10,8,1] [10,0] rfl rfl fun a w F hS=>?_
   rw [Int.toNat_natCast] at hS
   refine Zb (wp_seq ?_)
   refine Za hS (qM rfl rfl (qf (o_callG1 10 (writeW b (Zah (l.take (i+1))) [32] (by omega) (by simp)) Tryz.func135 rfl (by kernel_rfl) (Args.two .t .t)) r2 r1 qZ)) hB [65,64,63,10,8,1] [10,0] rfl rfl fun a w F hS=>Zb ?_
   refine Za hS (qM rfl rfl (qf (o_callG1 10 (writeW b (Zah (l.take (i+1)) ++ [32]) (nth (l.drop 1) i) (by rw [List.length_append];simp;omega) (by omega)) Tryz.func135 rfl (by kernel_rfl) (Args.two .t .t)) r2 r1 qZ)) hB [65,64,63,8,1] [10,0] rfl rfl fun a w F hS=>Zi (Zb ?_)
   refine Za hS (qp r1 (qM rfl rfl qZ)) hB [65,64,63,8,1] [10,0] rfl rfl fun a w F hS=>Zb ?_
   rw [← ZmJ hi1] at hS
   replace hS:=hS.ent (i:=65) (s':=.pv (.int .i64 ((i+1:Nat):Int))) rfl (.int (Ze (by omega)))
   obtain ⟨F,hS⟩:=hS.nm [65,64,63,8,1] [10,0] rfl rfl
   exact ⟨i+1,F,(by omega),hS,by omega⟩
  have hi2:i+1=l.length:=by simp at hc6;omega
  have hfin:Zah (l.take (i+1))=Zah l:=by rw [hi2,List.take_length]
  have hjne:Zah l≠[]:=Zqc hl2
  rw [hfin] at hS
  refine wp_exit (Zj (Zj (Zp (Zb (wp_seq ?_)))))
  refine Za hS (qf (o_callG1 10 (ZpL b (Zah l) hjne) Tryz.func137 rfl (by kernel_rfl) (Args.one .t)) r1 r1 (qN rfl rfl qZ)) hB [4] [10,0] rfl rfl fun a w F hS=>Zb (wp_ret ?_)
  refine Zq hfr hS rfl rfl rfl (.bs (by first | exact hr.symm | rfl))
 simp at hc2
theorem ZeA (l:List (List UInt8)) (hn:l.length≤1000000) (hs:sumL l≤900000000):FnP Tryz.prog 72 [.sl rS l] (.bs (Zah l)):=by
 refine FnP.mk Tryz.func72 rfl Tryz.ntmps72 rfl ?_
 intro B a w F hB hfr hS
 refine wp_seq ?_
 refine Za hS (qf (oN (.cs (by kernel_rfl))) trivial qz qZ) hB [2,0] [0] rfl rfl fun a w F hS=>Zb (wp_seq ?_)
 refine Za hS (qM rfl rfl (qf (oP (ZpO l hn hs) Tryz.func141 (Args.two .t (.cs (by kernel_rfl)))) r1 qz (qN rfl rfl qZ))) hB [2] [0] rfl rfl fun a w F hS=>Zb (wp_ret ?_)
 refine Zq hfr hS rfl rfl rfl .refl
theorem Zmx {l:List (List UInt8)} {i:Nat} (h:i<l.length):Zah (l.take (i+1))=(if 0<i then Zah (l.take i) ++ [32] else Zah (l.take i))++nth l i:=by
 match i,h with
 | 0,h=>rw [← ZkY h];simp [Zah]
 | i+1,h=>
   rw [if_pos (Nat.succ_pos i),List.take_succ_eq_append_getElem h,Zfm _ _ (by intro e;have:=congrArg List.length e;rw [List.length_take,List.length_nil] at this;omega),Zt h]
theorem ZpF {a b:List (List UInt8)} (h:a.length=b.length) (k:∀ j,j<a.length→nth a j=nth b j):a=b:=by
 refine List.ext_getElem h fun j h1 h2=>?_
 rw [← Zt h1,← Zt h2]
 exact k j h1
theorem ZqS (x y:List (List UInt8)):FnP Tryz.prog 22 [.sl rS x,.sl rS y] (.bool (decide (x=y))):=by
 refine FnP.mk Tryz.func22 rfl Tryz.ntmps22 rfl ?_
 intro B a w F hB hfr hS
 have ha0:=Sat.lenSl hS (i:=0) rfl
 refine wp_seq ?_
 refine Za hS qB hB [4,1,0] [0] rfl rfl fun a w F hS=>Zb (wp_seq (wp_seq ?_))
 refine Za hS (qM rfl rfl (qu Tryz.underlying49 r1 (qM rfl rfl (qu Tryz.underlying49 r1 (qf (o_neq .t .t) r2 qz qZ))))) hB [10,4,1,0] [0] rfl rfl fun a w F hS=>Zb ?_
 refine Zd hS rfl (fun hc0=>?_) (fun hc0=>?_)
 ·skip
  have hr:decide (x=y)=false:=by
    refine decide_eq_false fun e=>?_
    rw [e] at hc0
    simp at hc0
  refine wp_seq ?_
  refine Za hS qB hB [4,1,0] [0] rfl rfl fun a w F hS=>Zb (wp_ret (Zg ?_))
  refine Zq hfr hS rfl rfl rfl (.bool (by rw [hr]))
 have hl:x.length=y.length:=by simp at hc0;omega
 refine wp_skip (Zb (wp_seq (wp_seq ?_)))
 refine Za hS (qM rfl rfl (qu Tryz.underlying49 r1 (qJ qZ))) hB [13,12,4,1,0] [0] rfl rfl fun a w F hS=>Zb (wp_block ?_)
 obtain ⟨F,hS⟩:=hS.nm [13,12,1,0] [0] rfl rfl
 refine Z7 (σ:=Nat) (fun s=>(⟨[(0,.pv (.sl rS x)),(1,.pv (.sl rS y)),(12,.pv (.int .i64 (x.length:Nat))),(13,.pv (.int .i64 (s:Nat)))],[(0,frame B)]⟩:En)) (fun s=>s≤x.length ∧ ∀ j,j<s→nth x j=nth y j) (fun s=>x.length - s) 0 hS ⟨Nat.zero_le _,fun j hj=>absurd hj (Nat.not_lt_zero _)⟩ ?_
 clear hS;intro i a w F hC hS
 try dsimp only at hC
 try dsimp only at hS
 obtain ⟨hi0,hsm⟩:=hC
 refine wp_seq ?_
 refine Za hS (qL r2) hB [14,13,12,1,0] [0] rfl rfl fun a w F hS=>Zb (wp_seq ?_)
 refine Zd hS rfl (fun hc1=>?_) (fun hc1=>?_)
 ·skip
  have hi:i<x.length:=by simp at hc1;omega
  refine wp_skip (Zb (wp_seq (wp_block (wp_seq ?_))))
  refine Za hS (qM rfl rfl (qN rfl rfl qZ)) hB [13,12,5,1,0] [0] rfl rfl fun a w F hS=>Zb (wp_seq ?_)
  refine ZC hS (qM rfl rfl (qM rfl rfl (qy 1 Tryz.underlying49 r2 (qf (oR false 1 .t) r1 qz (qM rfl rfl (qM rfl rfl (qy 1 Tryz.underlying49 r2 (qf (oR false 1 .t) r1 qz (qf (ZnQ Tryz.underlying9 .t .t) r2 qz qZ))))))))) hB [24,13,12,1,0] [0] rfl rfl fun a w F hS=>?_
  try dsimp only [List.map,xD,xE,xT,xU,ldSF] at hS
  rw [Int.toNat_natCast] at hS
  refine Zb ?_
  refine Zd hS rfl (fun hc2=>?_) (fun hc2=>?_)
  ·skip
   have hr:decide (x=y)=false:=by
     refine decide_eq_false fun e=>?_
     rw [e] at hc2
     simp at hc2
   refine wp_seq ?_
   refine Za hS qB hB [13,12,4,1,0] [0] rfl rfl fun a w F hS=>Zb (wp_ret (Zl (Zg (Zg (Zl (Zg ?_))))))
   refine Zq hfr hS rfl rfl rfl (.bool (by rw [hr]))
  have hie:nth x i=nth y i:=by simpa using hc2
  refine wp_skip (Zi (Zb ?_))
  refine Za hS (qp r1 (qM rfl rfl qZ)) hB [13,12,1,0] [0] rfl rfl fun a w F hS=>Zb ?_
  replace hS:=hS.ent (i:=13) (s':=.pv (.int .i64 ((i+1:Nat):Int))) rfl (.int (Ze (by omega)))
  obtain ⟨F,hS⟩:=hS.nm [13,12,1,0] [0] rfl rfl
  exact ⟨i+1,F,⟨by omega,fun j hj=>(Nat.lt_or_ge j i).elim (hsm j) (fun h1=>(show i=j by omega) ▸ hie)⟩,hS,by omega⟩
 have hr:decide (x=y)=true:=decide_eq_true (ZpF hl (fun j hj=>hsm j (by simp at hc1;omega)))
 refine wp_exit (Zj (Zj (Zp (Zb (wp_seq ?_)))))
 refine Za hS qB hB [4] [0] rfl rfl fun a w F hS=>Zb (wp_ret ?_)
 refine Zq hfr hS rfl rfl rfl (.bool (by rw [hr]))
def RdB (n:Int) (v:Nat):Prop:=0≤n∧n≤21474836479∧(v≤2147483647→n=v)∧(2147483647<v→2147483647<n)
theorem RdB.range {n:Int} {v:Nat} (h:RdB n v):0≤n∧n≤21474836479:=⟨h.1,h.2.1⟩
theorem RdB.next {n:Int} {v c:Nat} (h:RdB n v) (hn:n≤2147483647) (hc:48≤c∧c≤57):RdB (10*n+c - 48) (v*10+(c - 48)):=by
 obtain ⟨h1,h2,h3,h4⟩:=h
 have hv:v≤2147483647:=by
   rcases Nat.lt_or_ge 2147483647 v with hh | hh
   · have:=h4 hh;omega
   · exact hh
 have:=h3 hv
 refine ⟨by omega,by omega,fun _=>by omega,fun _=>by omega⟩
theorem RdB.val {n:Int} {v:Nat} (h:RdB n v) (hn:n≤2147483647):n=v:=by
 rcases Nat.lt_or_ge 2147483647 v with hh | hh
 · have:=h.2.2.2 hh;omega
 · exact h.2.2.1 hh
def Zaf (o:OpD):Bool:=if o.read=true then Zcn ⟨o.tx,o.key,o.nth⟩ else (idB o.key && decide (o.tx=0)) && decide (o.nth=0)
def ofO (o:OpD):ZbY:=if o.read=true then ⟨o.tx,o.key,o.nth⟩ else noV
def Zbk (o:OpD):List UInt8:=if Zaf o=false then [] else if o.read=false then 119 :: textL o.key else if o.tx=0 then (114 :: textL o.key) ++ [64,48] else (((114 :: textL o.key) ++ [64] ++ textL o.tx) ++ [46])++textL o.nth
theorem three {l:List Int} (h:l.length=3):∃ x0 x1 x2,l = [x0,x1,x2]:=by
 match l,h with
 | [x0,x1,x2],_=>exact ⟨x0,x1,x2,rfl⟩
section
variable {b:UInt8} {r e e2:List UInt8}
end
def ZbH (o:OpD):Int:=if Zaf o=true then 0 else 1
theorem ZdO {o:OpD} (h:Zaf o=true):(1≤o.key∧o.key≤1048575)∧(0≤o.tx∧o.tx≤1048575)∧(0≤o.nth∧o.nth≤4095):=by
 unfold Zaf at h
 split at h
 · unfold Zcn at h
   dsimp only at h
   split at h <;> simp only [Bool.and_eq_true,decide_eq_true_eq,Zjv] at h <;> omega
 · simp only [Bool.and_eq_true,decide_eq_true_eq,Zjv] at h
   omega
theorem Zg5 {o:OpD} (h:o.read=true):Zaf o=Zcn (ofO o):=by unfold Zaf ofO;rw [if_pos h,if_pos h]
theorem ZfW {o:OpD} (h:o.read=false):Zaf o=((idB o.key && decide (o.tx=0)) && decide (o.nth=0)):=by unfold Zaf;rw [if_neg (by rw [h];decide)]
theorem ZlC (v:ZbY):(ZoS v).2=if Zcn v=true then 0 else 1:=by unfold ZoS;split <;> rfl
theorem ZoR (o:OpD):FnP Tryz.prog 159 [.agg (rOp o)] (.agg (ZG (ofO o))):=by
 refine FnP.mk Tryz.func159 rfl Tryz.ntmps159 rfl ?_
 intro B a w F hB hfr hS
 refine wp_seq ?_
 refine Zc hS (qx 101 r1 (qf (oH [.int .i64 0,.int .i64 0,.int .i64 0] 102) trivial qz qZ)) hB [2,1] [102,101,0] (fun _=>rfl) (fun _=>rfl) fun τ a w F hS=>?_
 try dsimp only [RS.sub,SF.sub,CF.sub,csub,Anc.sub,List.map,zCF] at hS
 generalize τ 1=v1 at hS
 generalize τ 2=v2 at hS
 refine Zb (wp_seq (wp_seq ?_))
 refine Za hS (qg 0 101 r1 r1 (qa 101 r1 r1 (qf (o_not .t) r1 qz qZ))) hB [5,2,1] [102,101,0] rfl rfl fun a w F hS=>Zb ?_
 refine Zd hS rfl (fun hc0=>?_) (fun hc0=>?_)
 ·skip
  have hr:o.read=false:=by simpa using hc0
  refine wp_seq ?_
  refine Za hS (qf (oB [] [.int .i64 0,.int .i64 0,.int .i64 0] [(0,1),(1,1),(2,1)] .nil) trivial qz (qs 3 102 r2 r1 qZ)) hB [2,1] [102,101,0] rfl rfl fun a w F hS=>Zb (wp_ret (Zg ?_))
  refine ZI hfr hS rfl (.cl 102 true 3 rfl rfl .nil) (.one (.aggU rfl (by unfold ofO;rw [hr];rfl)))
 have hr:o.read=true:=by simpa using hc0
 refine wp_skip (Zb (wp_seq ?_))
 refine Za hS (qg 2 101 r1 r1 (qa 101 r1 r1 (qg 1 101 r1 r1 (qa 101 r1 r1 (qg 3 101 r1 r1 (qa 101 r1 r1 (qf (oB [(0,.tmp 8),(1,.tmp 10),(2,.tmp 12)] [.int .i64 0,.int .i64 0,.int .i64 0] [(0,1),(1,1),(2,1)] (.one rfl .t one_int (by kernel_rfl) (.one rfl .t one_int (by kernel_rfl) (.one rfl .t one_int (by kernel_rfl) .nil)))) r3 qz (qs 3 102 r2 r1 qZ)))))))) hB [2] [102,101,0] rfl rfl fun a w F hS=>Zb (wp_ret ?_)
 refine ZI hfr hS rfl (.cl 102 true 3 rfl rfl .nil) (.one (.aggU rfl (by unfold ofO;rw [hr];rfl)))
theorem ZfZ (o:OpD):FnP Tryz.prog 97 [.agg (rOp o)] (.int .i64 (ZbH o)):=by
 refine FnP.mk Tryz.func97 rfl Tryz.ntmps97 rfl ?_
 intro B a w F hB hfr hS
 refine wp_seq ?_
 refine Zc hS (qx 101 r1 (qI qZ)) hB [2,1] [101,0] (fun _=>rfl) (fun _=>rfl) fun τ a w F hS=>?_
 try dsimp only [RS.sub,SF.sub,CF.sub,csub,Anc.sub,List.map,zCF] at hS
 generalize τ 1=v1 at hS
 refine Zb (wp_seq (wp_seq ?_))
 refine Za hS (qg 0 101 r1 r1 (qa 101 r1 r1 qZ)) hB [6,2,1] [101,0] rfl rfl fun a w F hS=>Zb ?_
 refine Zd hS rfl (fun hc0=>?_) (fun hc0=>?_)
 ·skip
  have hg:(ZoS (ofO o)).2=ZbH o:=by rw [ZlC];unfold ZbH;rw [Zg5 hc0]
  refine wp_seq ?_
  refine Za hS (qe 4 101 r1 r1 (qf (oP (ZoR o) Tryz.func159 (Args.one (.pagg .t))) r1 qz (qf (oP (ZnJ (ofO o)) Tryz.func158 (Args.one .t)) r1 qz (qM rfl rfl (qf (o_extract .t rfl) r1 qz (qf (o_extract .t rfl) r1 qz (qN rfl rfl (qN rfl rfl qZ)))))))) hB [4,2,1] [101,0] rfl rfl fun a w F hS=>Zb (wp_seq ?_)
  refine Za hS (qM rfl rfl (qN rfl rfl qZ)) hB [2,1] [101,0] rfl rfl fun a w F hS=>Zb (wp_ret (Zg ?_))
  refine Zq hfr hS rfl rfl rfl (.int hg)
 have hr:o.read=false:=hc0
 refine wp_skip (Zb (wp_seq (wp_seq ?_)))
 refine Za hS (qe 4 101 r1 r1 (qg 1 101 r1 r1 (qa 101 r1 r1 (qf (oB [(1,.tmp 16)] [.bool false,.int .i64 0,.int .i64 0,.int .i64 0] [(0,1),(1,1),(2,1),(3,1)] (.one rfl .t one_int (by kernel_rfl) .nil)) r1 qz (qf (Znh (ks:=[false,true,true,true]) (by kernel_rfl) .t .t (.bool (.int (.int (.int .nil))))) r2 qz (qM rfl rfl (qv 1 101 rfl r2 r1 (qw 101 rfl r2 r1 (qk rfl (fun h=>Zcr (.w h) qi) r2 qz (qf (ZaL .t .t) r2 qz (qM rfl rfl (qv 1 101 rfl r2 r1 (qw 101 rfl r2 r1 (qk rfl (fun h=>o_gtr (.w h) qi) r2 qz (qf (ZaL .t .t) r2 qz qZ))))))))))))))) hB [28,2] [101,0] rfl rfl fun a w F hS=>Zb ?_
 refine Zd hS rfl (fun hc1=>?_) (fun hc1=>?_)
 ·skip
  have hg:(1:Int)=ZbH o:=by
    unfold ZbH
    rw [if_neg]
    rw [ZfW hr]
    simp [hr,idB] at hc1 ⊢
    omega
  refine wp_seq ?_
  refine Za hS (qI qZ) hB [2] [101,0] rfl rfl fun a w F hS=>Zb (wp_ret (Zg ?_))
  refine Zq hfr hS rfl rfl rfl (.int hg)
 have hg:(0:Int)=ZbH o:=by
   unfold ZbH
   rw [if_pos]
   rw [ZfW hr]
   simp [hr,idB] at hc1 ⊢
   omega
 refine wp_skip (Zb (wp_seq ?_))
 refine Za hS (qI qZ) hB [2] [101,0] rfl rfl fun a w F hS=>Zb (wp_ret ?_)
 refine Zq hfr hS rfl rfl rfl (.int hg)
theorem Zj9 (o:OpD):FnP Tryz.prog 136 [.agg (rOp o)] (.bs (Zbk o)):=by
 refine FnP.mk Tryz.func136 rfl Tryz.ntmps136 rfl ?_
 intro B a w F hB hfr hS
 refine wp_seq ?_
 refine Zc hS (qx 101 r1 (qf (oN (.cs (by kernel_rfl))) trivial qz qZ)) hB [2,1] [101,0] (fun _=>rfl) (fun _=>rfl) fun τ a w F hS=>?_
 try dsimp only [RS.sub,SF.sub,CF.sub,csub,Anc.sub,List.map,zCF] at hS
 generalize τ 1=v1 at hS
 refine Zb (wp_seq (wp_block (wp_seq ?_)))
 refine Za hS (qe 4 101 r1 r1 (qf (oP (ZfZ o) Tryz.func97 (Args.one (.pagg .t))) r1 qz (qf (o_neq .t qi) r1 qz (qN rfl rfl qZ)))) hB [3,2,1] [101,0] rfl rfl fun a w F hS=>Zb ?_
 refine Zd hS rfl (fun hc0=>?_) (fun hc0=>?_)
 ·skip
  have hg:([]:List UInt8)=Zbk o:=by unfold Zbk;rw [if_pos];unfold ZbH at hc0;simpa using hc0
  refine wp_seq ?_
  refine Za hS (qf (oN (.cs (by kernel_rfl))) trivial qz qZ) hB [2,1] [101,0] rfl rfl fun a w F hS=>Zb (wp_ret (Zl (Zg ?_)))
  refine Zq hfr hS rfl rfl rfl (.bs hg)
 have hk:Zaf o=true:=by unfold ZbH at hc0;simpa using hc0
 have hb:=ZdO hk
 have l1:=Zae (n:=o.key) (by omega)
 have l2:=Zae (n:=o.tx) (by omega)
 have l3:=Zae (n:=o.nth) (by omega)
 refine wp_seq ?_
 refine Za hS (qg 0 101 r1 r1 (qa 101 r1 r1 (qf (o_not .t) r1 qz (qN rfl rfl qZ)))) hB [7,2,1] [101,0] rfl rfl fun a w F hS=>Zb ?_
 refine Zd hS rfl (fun hc1=>?_) (fun hc1=>?_)
 ·skip
  have hg:[119] ++ textL o.key=Zbk o:=by unfold Zbk;rw [if_neg (by rw [hk];decide)];rw [if_pos (by simpa using hc1)];rfl
  refine wp_seq ?_
  refine Za hS (qg 1 101 r1 r1 (qa 101 r1 r1 (qf (oP (Zdf _) Tryz.func69 (Args.one .t)) r1 qz (qf (Za7 (.cs (by kernel_rfl)) .t (by simp only [List.length_append,List.length_cons,List.length_nil];omega)) r1 qz (qN rfl rfl qZ))))) hB [2,1] [101,0] rfl rfl fun a w F hS=>Zb (wp_ret (Zl (Zg ?_)))
  refine Zq hfr hS rfl rfl rfl (.bs hg)
 have hr:o.read=true:=by simpa using hc1
 refine wp_seq ?_
 refine Za hS (qg 2 101 r1 r1 (qa 101 r1 r1 (qf (o_eql .t qi) r1 qz (qN rfl rfl qZ)))) hB [15,2,1] [101,0] rfl rfl fun a w F hS=>Zb ?_
 refine Zd hS rfl (fun hc2=>?_) (fun hc2=>?_)
 ·skip
  have hg:([114] ++ textL o.key) ++ [64,48] = Zbk o:=by unfold Zbk;rw [if_neg (by rw [hk];decide)];rw [if_neg (by rw [hr];decide),if_pos (by simpa using hc2)];rfl
  refine wp_seq ?_
  refine Za hS (qg 1 101 r1 r1 (qa 101 r1 r1 (qf (oP (Zdf _) Tryz.func69 (Args.one .t)) r1 qz (qf (Za7 (.cs (by kernel_rfl)) .t (by simp only [List.length_append,List.length_cons,List.length_nil];omega)) r1 qz (qf (Za7 .t (.cs (by kernel_rfl)) (by simp only [List.length_append,List.length_cons,List.length_nil];omega)) r1 qz (qN rfl rfl qZ)))))) hB [2,1] [101,0] rfl rfl fun a w F hS=>Zb (wp_ret (Zl (Zg ?_)))
  refine Zq hfr hS rfl rfl rfl (.bs hg)
 have hg:((((([114] ++ textL o.key) ++ [64])++textL o.tx) ++ [46])++textL o.nth)=Zbk o:=by unfold Zbk;rw [if_neg (by rw [hk];decide)];rw [if_neg (by rw [hr];decide),if_neg (by simpa using hc2)];rfl
 refine wp_skip (Zi (Zb (wp_seq ?_)))
 refine ZC hS (qg 1 101 r1 r1 (qa 101 r1 r1 (qf (oP (Zdf _) Tryz.func69 (Args.one .t)) r1 qz (qf (Za7 (.cs (by kernel_rfl)) .t (by simp only [List.length_append,List.length_cons,List.length_nil];omega)) r1 qz (qf (Za7 .t (.cs (by kernel_rfl)) (by simp only [List.length_append,List.length_cons,List.length_nil];omega)) r1 qz (qg 2 101 r1 r1 (qa 101 r1 r1 (qf (oP (Zdf _) Tryz.func69 (Args.one .t)) r1 qz (qf (Za7 .t .t (by simp only [List.length_append,List.length_cons,List.length_nil];omega)) r2 qz (qf (Za7 .t (.cs (by kernel_rfl)) (by simp only [List.length_append,List.length_cons,List.length_nil];omega)) r1 qz (qg 3 101 r1 r1 (qa 101 r1 r1 (qf (oP (Zdf _) Tryz.func69 (Args.one .t)) r1 qz (qf (Za7 .t .t (by simp only [List.length_append,List.length_cons,List.length_nil];omega)) r2 qz (qN rfl rfl qZ))))))))))))))) hB [2] [101,0] rfl rfl fun a w F hS=>?_
 try dsimp only [List.map,xD,xE,xT,xU,ldSF] at hS
 refine Zb (wp_ret ?_)
 refine Zq hfr hS rfl rfl rfl (.bs hg)
theorem ZnK:textL 0 = [48]:=by decide +kernel
theorem Zld {o:OpD} : ZbH o=0 ↔ Zaf o=true:=by unfold ZbH;split <;> simp_all
theorem ZjV {o:OpD} (hk:Zaf o=true) (hr:o.read=false):Zbk o=119 :: textL o.key:=by unfold Zbk;rw [if_neg (by rw [hk];decide),if_pos hr]
theorem Zjt {o:OpD} (hk:Zaf o=true) (hr:o.read=true) (h:o.tx=0):Zbk o=114 :: (textL o.key++64 :: textL 0):=by
 unfold Zbk
 rw [if_neg (by rw [hk];decide),if_neg (by rw [hr];decide),if_pos h,ZnK]
 simp
theorem ZlI {o:OpD} (hk:Zaf o=true) (hr:o.read=true) (h:o.tx≠0):Zbk o=114 :: (textL o.key++64 :: (textL o.tx++46 :: textL o.nth)):=by
 unfold Zbk
 rw [if_neg (by rw [hk];decide),if_neg (by rw [hr];decide),if_neg h]
 simp
theorem ZiS {o:OpD} (hk:Zaf o=true):(Zbk o).length≤100:=by
 have hb:=ZdO hk
 have l1:=Zae (n:=o.key) (by omega)
 have l2:=Zae (n:=o.tx) (by omega)
 have l3:=Zae (n:=o.nth) (by omega)
 have l4:=Zae (n:=0) (by omega)
 by_cases hr:o.read=true
 · by_cases h:o.tx=0
   · rw [Zjt hk hr h]
     simp only [List.length_cons,List.length_append]
     omega
   · rw [ZlI hk hr h]
     simp only [List.length_cons,List.length_append]
     omega
 · rw [ZjV hk (by simpa using hr)]
   simp only [List.length_cons]
   omega
theorem Zpq (t : TxD) (hl : t.ops.length ≤ 1000000) (p : OpD → Bool) (f : FuncId) (fn : Func) (cps : List PV) (hf : Tryz.prog.funcs[f]? = some fn) (hb : fn.body.isSome = true) (hnn : (fn.name == "runtime.NumGoroutine") = false) (hw : ∀ x, FnP Tryz.prog f (.agg (rOp x) :: cps) (.bool (p x))) : FnP Tryz.prog 162 [.agg (rTx t), .clos f cps] (.sl rInt (Zdz ((t.ops.filter p).map OpD.key))) := by
 refine FnP.mk Tryz.func162 rfl Tryz.ntmps162 rfl ?_
 intro B a w F hB hfr hS
 refine wp_seq ?_
 refine Zc hS (qx 101 r1 (qC qZ)) hB [4,2,1] [101,0] (fun _=>rfl) (fun _=>rfl) fun τ a w F hS=>?_
 try dsimp only [RS.sub,SF.sub,CF.sub,csub,Anc.sub,List.map,zCF,rInt,rOp,rTx] at hS
 generalize τ 2=v2 at hS
 refine Zb (wp_seq ?_)
 refine Za hS (qC qZ) hB [5,4,2,1] [101,0] rfl rfl fun a w F hS=>Zb (wp_seq (wp_seq ?_))
 refine Za hS (qg 2 101 r1 r1 (qa 101 r1 r1 (qu Tryz.underlying38 r1 (qJ qZ)))) hB [11,10,9,5,4,1] [101,0] rfl rfl fun a w F hS=>Zb (wp_block ?_)
 replace hS:=hS.fresh 50 rfl
 replace hS:=hS.turn 50 rfl (Zav (T:=3) (sz:=1) (R:=rInt))
 refine Zo (σ:=(Nat)×(Value)×(List Int)) [1,4,9,10] [0,101] (fun s=>[(11,.pv (.int .i64 (s.1:Int))),(5,.pv (.is s.2.1))]) (fun s=>[(50,.ob (.val s.2.1) (Zx 3 1 rInt s.2.2))]) (fun s=>s.1≤t.ops.length∧(s.2.2=(((t.ops.take s.1).filter p).map OpD.key))) (fun s=>t.ops.length - s.1) ((0),(.slice none 0 0),([])) hS ⟨rfl,rfl,rfl,rfl,rfl,rfl,trivial⟩ ⟨rfl,rfl,rfl,trivial⟩ ⟨Nat.zero_le _,rfl⟩ ?_
 clear hS;intro s a w F hC hS
 obtain ⟨i,v,out⟩:=s
 try dsimp only at hC
 obtain ⟨F,hS⟩:=hS.nm [11,10,9,5,4,1] [101,50,0] rfl rfl
 try dsimp only at hS
 obtain ⟨hi,hq⟩:=hC
 have hol:out.length≤i:=by rw [hq,List.length_map];exact Nat.le_trans (List.length_filter_le _ _) (by rw [List.length_take];omega)
 refine wp_seq ?_
 refine Za hS (qL r2) hB [12,11,10,9,5,4,1] [101,50,0] rfl rfl fun a w F hS=>Zb (wp_seq ?_)
 refine Zd hS rfl (fun hc0=>?_) (fun hc0=>?_)
 ·skip
  have hil:i<t.ops.length:=by simp at hc0;omega
  refine wp_skip (Zb (wp_seq (wp_block (wp_seq ?_))))
  refine Zc hS (qy 4 Tryz.underlying38 r2 (qf (oR true 4 .t) r1 qz (qf (oH [.bool false,.int .i64 0,.int .i64 0,.int .i64 0] 102) trivial qz (qS 4 102 r2 r1 qZ)))) hB [11,10,9,7,5,4,1] [102,101,50,0] (fun _=>rfl) (fun _=>rfl) fun τ a w F hS=>?_
  try dsimp only [RS.sub,SF.sub,CF.sub,csub,Anc.sub,List.map,Zf,xL,xM,Nat.reduceAdd,xD,xE,xT,xU,xC,xN,zCF,ldSF,rInt,rOp,rTx] at hS
  generalize τ 7=v7 at hS
  try simp only [Int.toNat_natCast] at hS
  refine Zb (wp_seq ?_)
  refine Za hS (qM rfl rfl (qe 4 102 r1 r1 (qf (ZU (avs:=[.agg (rOp (Go.Gm.nth t.ops i))]) .t (hw (Go.Gm.nth t.ops i)) hf hb hnn (Args.one (.pagg .t))) r2 qz qZ))) hB [17,11,10,9,7,5,4,1] [102,101,50,0] rfl rfl fun a w F hS=>Zb ?_
  refine Zd hS rfl (fun hc1=>?_) (fun hc1=>?_)
  ·skip
   have hBq:p (Go.Gm.nth t.ops i)=true:=by simpa using hc1
   refine Zc hS (qM rfl rfl (qg 1 102 r1 r1 (qa 102 r1 r1 (qf (Zh (sz:=1) (zs:=[.int .i64 0]) (r:=[(0,.tmp 20)]) (l:=[_]) Tryz.underlying41 (by kernel_rfl) (by kernel_rfl) (by kernel_rfl) (by kernel_rfl) rfl rfl (.one rfl .t one_int (by kernel_rfl) .nil) rfl) r1 qz (qf (o_append (sz:=1) (bs:=8) 50 (.mk' Tryz.underlying41 (by kernel_rfl) (by kernel_rfl)) (by intro x;rfl) .is (.arr (l':=[(Go.Gm.nth t.ops i).key]) .t) (by simp only [List.length_append,List.length_cons,List.length_nil,List.length_take,List.length_drop];omega) (by decide)) ⟨rfl,rfl,trivial⟩ ⟨rfl,trivial⟩ (qN rfl rfl qZ)))))) hB [11,10,9,5,4,1] [102,101,50,0] (fun _=>rfl) (fun _=>rfl) fun τ a w F hS=>?_
   try dsimp only [RS.sub,SF.sub,CF.sub,csub,Anc.sub,List.map,Zf,xL,xM,Nat.reduceAdd,xD,xE,xT,xU,xC,xN,zCF,ldSF,rInt,rOp,rTx] at hS
   generalize τ 22=v22 at hS
   refine Zi (Zb ?_)
   refine Za hS (qp r1 (qM rfl rfl qZ)) hB [11,10,9,5,4,1] [102,101,50,0] rfl rfl fun a w F hS=>Zb ?_
   replace hS:=hS.ent (i:=11) (s':=.pv (.int .i64 ((i+1:Nat):Int))) rfl (.int (Ze (by omega)))
   obtain ⟨F,hS⟩:=hS.nm [10,9,4,1,5,11] [101,0,50] rfl rfl
   exact ⟨((i+1),_,_),F,⟨by omega,(by rw [ZD hil,List.filter_append,List.map_append,← hq];simp [hBq])⟩,hS,by omega⟩
  have hBq:p (Go.Gm.nth t.ops i)=false:=by simpa using hc1
  refine wp_skip (Zi (Zb ?_))
  refine Za hS (qp r1 (qM rfl rfl qZ)) hB [11,10,9,5,4,1] [102,101,50,0] rfl rfl fun a w F hS=>Zb ?_
  replace hS:=hS.ent (i:=11) (s':=.pv (.int .i64 ((i+1:Nat):Int))) rfl (.int (Ze (by omega)))
  obtain ⟨F,hS⟩:=hS.nm [10,9,4,1,5,11] [101,0,50] rfl rfl
  exact ⟨((i+1),_,_),F,⟨by omega,(by rw [ZD hil,List.filter_append,List.map_append,← hq];simp [hBq])⟩,hS,by omega⟩
 have hil:i=t.ops.length:=by simp at hc0;omega
 refine wp_exit (Zj (Zj (Zp (Zb (wp_seq ?_)))))
 refine Za hS (qM rfl rfl (qf (ZcF 50 (ZjY _ out (by omega)) Tryz.func103 rfl (by kernel_rfl) (Args.one .t)) r1 r1 qZ)) hB [5,4] [101,50,0] rfl rfl fun a w F hS=>Zb (wp_seq ?_)
 refine Zc hS (qM rfl rfl (qf (Zbw 50 (ZpU _ _ (by rw [List.length_mergeSort];omega)) Tryz.func193 rfl (by kernel_rfl) (Args.one .t) ZaC) r1 r1 (qN rfl rfl qZ))) hB [4] [101,50,0] (fun _=>rfl) (fun _=>rfl) fun τ a w F hS=>?_
 try dsimp only [RS.sub,SF.sub,CF.sub,csub,Anc.sub,List.map,rInt,rOp,rTx] at hS
 generalize τ 27=v27 at hS
 refine Zb (wp_ret ?_)
 obtain ⟨F,hS⟩:=hS.give 50 4 rfl rfl
 refine Zq hfr hS rfl rfl rfl (.sl (by rw [Zg2,ZjI,hq,hil,List.take_length]))
theorem ZfR (l:List Int):(Zdz l).length≤l.length:=by
 have key:∀ (l acc:List Int),(l.foldl ZlR acc).length≤acc.length+l.length:=fun l=>by
   induction l with
   | nil=>intro acc;simp
   | cons x l ih=>
     intro acc
     have h1:=ih (ZlR acc x)
     have h2:(ZlR acc x).length≤acc.length+1:=Zix acc false
     rw [List.foldl_cons,List.length_cons];omega
 have:=key l []
 simpa [Zdz] using this
theorem Ent.fnClos {f:FuncId} : Ent (.pv (.is (.func (.func f) #[] #[]))) (.pv (.clos f [])):=fun τ w y v h=>⟨[],h.1,trivial⟩
theorem Zph (o:OpD):FnP Tryz.prog 163 [.agg (rOp o)] (.bool (!o.read)):=by
 refine FnP.mk Tryz.func163 rfl Tryz.ntmps163 rfl ?_
 intro B a w F hB hfr hS
 refine wp_seq ?_
 refine Zc hS (qx 101 r1 qB) hB [2,1] [101,0] (fun _=>rfl) (fun _=>rfl) fun τ a w F hS=>?_
 try dsimp only [RS.sub,SF.sub,CF.sub,csub,Anc.sub,List.map,zCF,rOp] at hS
 generalize τ 1=v1 at hS
 refine Zb (wp_seq ?_)
 refine Za hS (qg 0 101 r1 r1 (qa 101 r1 r1 (qf (o_not .t) r1 qz (qN rfl rfl qZ)))) hB [2] [0] rfl rfl fun a w F hS=>Zb (wp_ret ?_)
 refine Zq hfr hS rfl rfl rfl (.bool rfl)
theorem Zma (t:TxD) (hl:t.ops.length≤1000000):FnP Tryz.prog 102 [.agg (rTx t)] (.sl rInt (Zdz ((t.ops.filter fun o=>!o.read).map OpD.key))):=by
 refine FnP.mk Tryz.func102 rfl Tryz.ntmps102 rfl ?_
 intro B a w F hB hfr hS
 refine wp_seq ?_
 refine Zc hS (qx 101 r1 (qC qZ)) hB [2,1] [101,0] (fun _=>rfl) (fun _=>rfl) fun τ a w F hS=>?_
 try dsimp only [RS.sub,SF.sub,CF.sub,csub,Anc.sub,List.map,zCF,rTx,rInt] at hS
 generalize τ 1=v1 at hS
 refine Zb (wp_seq ?_)
 refine Za hS (qe 3 101 r1 r1 (qf (oP (Zpq t hl (fun o=>!o.read) 163 Tryz.f163 [] Tryz.func163 rfl (by kernel_rfl) (fun o=>Zph o)) Tryz.func162 (Args.two (.pagg .t) (.conv .f (Ent.fnClos)))) r1 qz (qN rfl rfl qZ))) hB [2] [0] rfl rfl fun a w F hS=>Zb (wp_ret ?_)
 refine Zq hfr hS rfl rfl rfl (.sl rfl)
theorem Zfb (t:TxD) (n:Int) (hl:t.ops.length≤1000000):FnP Tryz.prog 161 [.agg (rTx t),.int .i64 n] (.int .i64 (((t.ops.filter fun o=>!o.read && decide (o.key=n)).length:Nat):Int)):=by
 refine FnP.mk Tryz.func161 rfl Tryz.ntmps161 rfl ?_
 intro B a w F hB hfr hS
 have hll:t.ops.length≤1000000:=hl
 refine wp_seq ?_
 refine Zc hS (qx 101 r1 (qI qZ)) hB [4,2,1] [101,0] (fun _=>rfl) (fun _=>rfl) fun τ a w F hS=>?_
 try dsimp only [RS.sub,SF.sub,CF.sub,csub,Anc.sub,List.map,zCF,rInt,rOp,rTx] at hS
 generalize τ 2=v2 at hS
 refine Zb (wp_seq ?_)
 refine Za hS (qI qZ) hB [5,4,2,1] [101,0] rfl rfl fun a w F hS=>Zb (wp_seq (wp_seq ?_))
 refine Za hS (qg 2 101 r1 r1 (qa 101 r1 r1 (qu Tryz.underlying38 r1 (qJ qZ)))) hB [11,10,9,5,4,1] [0] rfl rfl fun a w F hS=>Zb (wp_block ?_)
 refine Zo (σ:=(Nat)) [1,4,9,10] [0] (fun s=>[(11,.pv (.int .i64 (s:Int))),(5,.pv (.int .i64 ((((t.ops.take s).filter fun o=>!o.read && decide (o.key=n)).length:Nat):Int)))]) (fun s=>[]) (fun s=>s≤t.ops.length∧(True)) (fun s=>t.ops.length - s) (0) hS ⟨rfl,rfl,rfl,rfl,rfl,rfl,trivial⟩ ⟨rfl,trivial⟩ ⟨Nat.zero_le _,trivial⟩ ?_
 clear hS;intro i a w F hC hS
 try dsimp only at hC
 obtain ⟨F,hS⟩:=hS.nm [11,10,9,5,4,1] [0] rfl rfl
 try dsimp only at hS
 obtain ⟨hi,hq⟩:=hC
 refine wp_seq ?_
 refine Za hS (qL r2) hB [12,11,10,9,5,4,1] [0] rfl rfl fun a w F hS=>Zb (wp_seq ?_)
 refine Zd hS rfl (fun hc0=>?_) (fun hc0=>?_)
 ·skip
  have hil:i<t.ops.length:=by simp at hc0;omega
  refine wp_skip (Zb (wp_seq (wp_block (wp_seq ?_))))
  refine Zc hS (qy 4 Tryz.underlying38 r2 (qf (oR true 4 .t) r1 qz (qf (oH [.bool false,.int .i64 0,.int .i64 0,.int .i64 0] 102) trivial qz (qS 4 102 r2 r1 qZ)))) hB [11,10,9,7,5,4,1] [102,0] (fun _=>rfl) (fun _=>rfl) fun τ a w F hS=>?_
  try dsimp only [RS.sub,SF.sub,CF.sub,csub,Anc.sub,List.map,Zf,xL,xM,Nat.reduceAdd,xD,xE,xT,xU,xC,xN,zCF,ldSF,rInt,rOp,rTx] at hS
  generalize τ 7=v7 at hS
  try simp only [Int.toNat_natCast] at hS
  refine Zb (wp_seq ?_)
  refine Za hS (qg 0 102 r1 r1 (qa 102 r1 r1 (qf (o_not .t) r1 qz (qM rfl rfl (qv 1 102 rfl r2 r1 (qw 102 rfl r2 r1 (qm rfl rfl rfl rfl (qk rfl (fun h=>o_eql (.w h) (.w h)) r3 qz (qf (ZB .t .t) r2 qz qZ))))))))) hB [23,11,10,9,5,4,1] [0] rfl rfl fun a w F hS=>Zb ?_
  refine Zd hS rfl (fun hc1=>?_) (fun hc1=>?_)
  ·skip
   have hstp:((t.ops.take (i+1)).filter fun o=>!o.read && decide (o.key=n))=((t.ops.take i).filter fun o=>!o.read && decide (o.key=n))++(if (!(Go.Gm.nth t.ops i).read && decide ((Go.Gm.nth t.ops i).key=n))=true then [(Go.Gm.nth t.ops i)] else []):=by rw [ZD hil,List.filter_append];simp only [List.filter_cons,List.filter_nil]
   have hle:((t.ops.take i).filter fun o=>!o.read && decide (o.key=n)).length≤i:=Nat.le_trans (List.length_filter_le _ _) (by rw [List.length_take];omega)
   have hBq:(!(Go.Gm.nth t.ops i).read && decide ((Go.Gm.nth t.ops i).key=n))=true:=hc1
   have hcc:IntKind.wrap .i64 (((((t.ops.take i).filter fun o=>!o.read && decide (o.key=n)).length:Nat):Int)+1)=((((t.ops.take (i+1)).filter fun o=>!o.read && decide (o.key=n)).length:Nat):Int):=by rw [hstp,if_pos hBq,List.length_append,ZM (by omega)];simp
   refine Za hS (qM rfl rfl (qp r1 (qN rfl rfl qZ))) hB [11,10,9,5,4,1] [0] rfl rfl fun a w F hS=>Zi (Zb ?_)
   refine Za hS (qp r1 (qM rfl rfl qZ)) hB [11,10,9,5,4,1] [0] rfl rfl fun a w F hS=>Zb ?_
   replace hS:=hS.ent (i:=11) (s':=.pv (.int .i64 ((i+1:Nat):Int))) rfl (.int (Ze (by omega)))
   replace hS:=hS.ent (i:=5) (s':=.pv (.int .i64 ((((t.ops.take (i+1)).filter fun o=>!o.read && decide (o.key=n)).length:Nat):Int))) rfl (.int hcc)
   obtain ⟨F,hS⟩:=hS.nm [10,9,4,1,5,11] [0] rfl rfl
   exact ⟨(i+1),F,⟨by omega,trivial⟩,hS,by omega⟩
  have hstp:((t.ops.take (i+1)).filter fun o=>!o.read && decide (o.key=n))=((t.ops.take i).filter fun o=>!o.read && decide (o.key=n))++(if (!(Go.Gm.nth t.ops i).read && decide ((Go.Gm.nth t.ops i).key=n))=true then [(Go.Gm.nth t.ops i)] else []):=by rw [ZD hil,List.filter_append];simp only [List.filter_cons,List.filter_nil]
  have hle:((t.ops.take i).filter fun o=>!o.read && decide (o.key=n)).length≤i:=Nat.le_trans (List.length_filter_le _ _) (by rw [List.length_take];omega)
  have hBq:(!(Go.Gm.nth t.ops i).read && decide ((Go.Gm.nth t.ops i).key=n))=false:=hc1
  have hcc:((((t.ops.take i).filter fun o=>!o.read && decide (o.key=n)).length:Nat):Int)=((((t.ops.take (i+1)).filter fun o=>!o.read && decide (o.key=n)).length:Nat):Int):=by rw [hstp,if_neg (by rw [hBq];simp),List.append_nil]
  refine wp_skip (Zi (Zb ?_))
  refine Za hS (qp r1 (qM rfl rfl qZ)) hB [11,10,9,5,4,1] [0] rfl rfl fun a w F hS=>Zb ?_
  replace hS:=hS.ent (i:=11) (s':=.pv (.int .i64 ((i+1:Nat):Int))) rfl (.int (Ze (by omega)))
  replace hS:=hS.ent (i:=5) (s':=.pv (.int .i64 ((((t.ops.take (i+1)).filter fun o=>!o.read && decide (o.key=n)).length:Nat):Int))) rfl (.int hcc)
  obtain ⟨F,hS⟩:=hS.nm [10,9,4,1,5,11] [0] rfl rfl
  exact ⟨(i+1),F,⟨by omega,trivial⟩,hS,by omega⟩
 have hil:i=t.ops.length:=by simp at hc0;omega
 refine wp_exit (Zj (Zj (Zp (Zb (wp_seq ?_)))))
 refine Za hS (qM rfl rfl (qN rfl rfl qZ)) hB [4] [0] rfl rfl fun a w F hS=>Zb (wp_ret ?_)
 refine Zq hfr hS rfl rfl rfl (.int (by rw [hil,List.take_length]))
def wcnt (l:List OpD) (k:Int):Nat:=(l.filter fun o=>!o.read && decide (o.key=k)).length
theorem ZiU {l:List OpD} {i:Nat} (h:i<l.length) (k:Int):wcnt (l.take (i+1)) k=wcnt (l.take i) k+if (Go.Gm.nth l i).read=false∧(Go.Gm.nth l i).key=k then 1 else 0:=by
 unfold wcnt
 rw [ZD h,List.filter_append,List.length_append]
 congr 1
 by_cases h1:(Go.Gm.nth l i).read=false∧(Go.Gm.nth l i).key=k
 · rw [if_pos h1];simp [h1.1,h1.2]
 · rw [if_neg h1]
   have:(!(Go.Gm.nth l i).read && decide ((Go.Gm.nth l i).key=k))=false:=by
     cases hr:(Go.Gm.nth l i).read with
     | true=>rfl
     | false=>simp;exact fun e=>h1 ⟨hr,e⟩
   simp [this]
theorem Zp5 (l:List OpD) (i:Nat) (k:Int):wcnt (l.take i) k≤i:=Nat.le_trans (List.length_filter_le _ _) (by rw [List.length_take];omega)
def Zai (id:Int):List OpD→List OpD→Int
 | _,[]=>0
 | s,o :: r=>if Zaf o=false then 1 else if o.read=true∧o.tx=id∧(wcnt s o.key:Int)<o.nth then 6 else Zai id (s ++ [o]) r
def Z1 (t:TxD):Int:=if ¬ (1≤t.id∧t.id≤1048575) then 1 else if 4095<t.ops.length then 9 else Zai t.id [] t.ops
theorem ZcX {id:Int} {l:List OpD} {i:Nat} (h:i<l.length):Zai id (l.take i) (l.drop i)=if Zaf (Go.Gm.nth l i)=false then 1 else if (Go.Gm.nth l i).read=true∧(Go.Gm.nth l i).tx=id∧(wcnt (l.take i) (Go.Gm.nth l i).key:Int)<(Go.Gm.nth l i).nth then 6 else Zai id (l.take (i+1)) (l.drop (i+1)):=by
 rw [Zcb h,Zai,ZD h]
theorem Zjw {id:Int} {l:List OpD} {i:Nat} (h:i=l.length):Zai id (l.take i) (l.drop i)=0:=by rw [h,List.drop_length];rfl
def ZjN (id:Int) (o:OpD):Bool:=(o.read && !decide (o.tx=0)) && !decide (o.tx=id)
def Zaz (id:Int) (out:List ZbY) (o:OpD):List ZbY:=if ZjN id o=true∧ofO o ∉ out then out ++ [ofO o] else out
def ZcL (id:Int) (l:List OpD):List ZbY:=l.foldl (Zaz id) []
def ZaI (t:TxD):List ZbY:=ZcL t.id t.ops
theorem ZjC {id:Int} {l:List OpD} {i:Nat} (h:i<l.length):ZcL id (l.take (i+1))=Zaz id (ZcL id (l.take i)) (Go.Gm.nth l i):=by
 unfold ZcL
 rw [ZD h,List.foldl_append]
 rfl
theorem Zh5 (id:Int) (out:List ZbY) (o:OpD):(Zaz id out o).length≤out.length+1:=by
 unfold Zaz
 split <;> simp
theorem ZgE (id:Int) (l:List OpD) (i:Nat):(ZcL id (l.take i)).length≤i:=by
 have key:∀ (l:List OpD) (out:List ZbY),(l.foldl (Zaz id) out).length≤out.length+l.length:=by
   intro l
   induction l with
   | nil=>intro out;simp
   | cons x l ih=>
     intro out
     have h1:=ih (Zaz id out x)
     have h2:=Zh5 id out x
     rw [List.foldl_cons,List.length_cons];omega
 have:=key (l.take i) []
 rw [List.length_take] at this
 unfold ZcL
 simp at this ⊢
 omega
theorem Zjs {id:Int} {l:List OpD} (h:∀ o ∈ l,o.read=false):ZcL id l = []:=by
 have key:∀ (l:List OpD),(∀ o ∈ l,o.read=false)→l.foldl (Zaz id) [] = []:=by
   intro l
   induction l with
   | nil=>intro _;rfl
   | cons x l ih=>
     intro h
     have hx:=h x (by simp)
     rw [List.foldl_cons,show Zaz id [] x = [] by unfold Zaz ZjN;simp [hx]]
     exact ih fun o ho=>h o (by simp [ho])
 exact key l h
def bareT (t:TxD):TxD:={ t with ops:=t.ops.filter fun o=>!o.read }
theorem Zf9 (l:List OpD) (k:Int):wcnt (l.filter fun o=>!o.read) k=wcnt l k:=by
 unfold wcnt
 rw [List.filter_filter]
 congr 2
 funext o
 cases o.read <;> simp
theorem ZgC (t:TxD):ZaI (bareT t) = []:=Zjs fun o ho=>by
 have:=(List.mem_filter.1 ho).2
 simpa using this
theorem ZcO {id:Int} : ∀ (l s s':List OpD),Zai id s l=0→Zai id s' (l.filter fun o=>!o.read)=0
 | [],_,_,_=>rfl
 | o :: l,s,s',h=>by
   rw [Zai] at h
   split at h
   · cases h
   · rename_i h1
     split at h
     · cases h
     · rename_i h2
       cases hr:o.read with
       | true=>rw [List.filter_cons_of_neg (by simp [hr])];exact ZcO l _ s' h
       | false=>
         rw [List.filter_cons_of_pos (by simp [hr]),Zai,if_neg h1,if_neg (by simp [hr])]
         exact ZcO l _ _ h
theorem ZcZ {t:TxD} (h:Z1 t=0):Z1 (bareT t)=0:=by
 unfold Z1 at h ⊢
 split at h
 · cases h
 · rename_i h1
   split at h
   · cases h
   · rename_i h2
     have h3:(bareT t).ops.length≤t.ops.length:=List.length_filter_le _ _
     rw [if_neg (show ¬ ¬ (1≤(bareT t).id∧(bareT t).id≤1048575) from h1),if_neg (by omega)]
     exact ZcO _ _ _ h
structure Zbj where
 key:Int
 nth:Int
 deriving DecidableEq,Inhabited
def Zbo (p:Zbj):List Int:=[p.key,p.nth]
def Zdh (v:ZbY):List Int:=[v.tx,v.key,v.nth]
def Zch (es:List (GE Zbj Int)) (s:List OpD):Prop:=∀ k n,0≤n→(gGet (⟨k,n⟩:Zbj) es).getD 0=if n=0 then (wcnt s k:Int) else if n≤wcnt s k then 1 else 0
theorem ZmM:Zch [] []:=fun k n h=>by
 show (0:Int)=_
 have:wcnt [] k=0:=rfl
 rw [this]
 split
 · rfl
 · rw [if_neg (by simp;omega)]
theorem Znx {es:List (GE Zbj Int)} {l:List OpD} {i:Nat} (h:Zch es (l.take i)) (hi:i<l.length) (hr:(Go.Gm.nth l i).read=true):Zch es (l.take (i+1)):=fun k n hn=>by
 rw [h k n hn,ZiU hi,if_neg (c:=(Go.Gm.nth l i).read=false∧(Go.Gm.nth l i).key=k) (by simp [hr]),Nat.add_zero]
theorem ZmC {es es2:List (GE Zbj Int)} {l:List OpD} {i:Nat} {c:Int} (h:Zch es (l.take i)) (hi:i<l.length) (hr:(Go.Gm.nth l i).read=false) (hc:c=(wcnt (l.take i) (Go.Gm.nth l i).key:Int)+1)
   (he:∀ p,(gGet p es2).getD 0=if p = ⟨(Go.Gm.nth l i).key,c⟩ then 1 else if p = ⟨(Go.Gm.nth l i).key,0⟩ then c else (gGet p es).getD 0):Zch es2 (l.take (i+1)):=fun k n hn=>by
 have hk:=h k n hn
 rw [he,hk,ZiU hi]
 by_cases e:(Go.Gm.nth l i).key=k
 · rw [if_pos (c:=(Go.Gm.nth l i).read=false∧_) ⟨hr,e⟩]
   rw [e] at hc
   rw [e]
   by_cases e2:n=c
   · subst e2
     rw [if_pos rfl,if_neg (by omega),if_pos (by omega)]
   · rw [if_neg (by simp [e2])]
     by_cases e3:n=0
     · subst e3
       rw [if_pos rfl,if_pos rfl,hc];simp
     · rw [if_neg (by simp [e3]),if_neg e3,if_neg e3]
       by_cases e4:n≤(wcnt (l.take i) k:Int)
       · rw [if_pos e4,if_pos (by omega)]
       · rw [if_neg e4,if_neg (by omega)]
 · rw [if_neg (c:=(Go.Gm.nth l i).read=false∧_) (by simp [e]),Nat.add_zero,if_neg (by simp;exact fun h=>absurd h.symm e),if_neg (by simp;exact fun h=>absurd h.symm e)]
def ZdT (es:List (GE ZbY Int)) (i:Nat) (out:List ZbY):Prop:=∀ v,0≤(gGet v es).getD 0∧(gGet v es).getD 0≤i∧(0<(gGet v es).getD 0 ↔ v ∈ out)
theorem ZoN:ZdT [] 0 []:=fun v=>⟨Int.le_refl _,Int.le_refl _,by show (0:Int)<0 ↔ _;simp⟩
theorem ZoC {es:List (GE ZbY Int)} {i:Nat} {out:List ZbY} (h:ZdT es i out):ZdT es (i+1) out:=fun v=>⟨(h v).1,by have:=(h v).2.1;omega,(h v).2.2⟩
theorem ZnP {es es2:List (GE ZbY Int)} {i:Nat} {out:List ZbY} {v:ZbY} (h:ZdT es i out) (he:∀ u,(gGet u es2).getD 0=if u=v then (gGet v es).getD 0+1 else (gGet u es).getD 0):ZdT es2 (i+1) (if v ∈ out then out else out ++ [v]):=fun u=>by
 have h1:=h u
 have h2:=h v
 rw [he u]
 by_cases e:u=v
 · subst e
   rw [if_pos rfl]
   refine ⟨by omega,by omega,?_⟩
   constructor
   · intro _;split <;> simp_all
   · intro _;omega
 · rw [if_neg e]
   refine ⟨by omega,by omega,?_⟩
   rw [h1.2.2]
   split
   · rfl
   · simp [e]
theorem Zg1 {κ:Type} [DecidableEq κ] {k p:κ} {x:Int} (s:List (GE κ Int)×Nat):(gGet p (gSet k x (gEns 0 k s).1)).getD 0=if p=k then x else (gGet p s.1).getD 0:=by
 rw [Zlf];split <;> rfl
theorem Zob {κ:Type} [DecidableEq κ] {k p:κ} {x:Int} (s:List (GE κ Int)×Nat):(gGet p (gPut k x s).1).getD 0=if p=k then x else (gGet p s.1).getD 0:=by
 rw [Zj3];split <;> rfl
theorem Zfc:Zoj Tryz.prog 124 (fun k=>∀ x ∈ Zbo k,inR .i64 x) (kvS Zbo):=Zga (n:=2) (fun _=>rfl) (fun a b h=>by cases a;cases b;simpa [Zbo] using h) (by kernel_rfl)
theorem Zmh:Zoj Tryz.prog 128 (fun k=>∀ x ∈ Zdh k,inR .i64 x) (kvS Zdh):=Zga (n:=3) (fun _=>rfl) (fun a b h=>by cases a;cases b;simpa [Zdh] using h) (by kernel_rfl)
theorem ZiE {es:List (GE Zbj Int)} {s:List OpD} {o:OpD} {id:Int} (h:Zch es s) (hk:Zaf o=true) (hr:o.read=true) (hid:1≤id):(o.tx=id∧(gGet (⟨o.key,o.nth⟩:Zbj) es).getD 0=0) ↔ (o.read=true∧o.tx=id∧(wcnt s o.key:Int)<o.nth):=by
 have hb:=ZdO hk
 have h1:=h o.key o.nth (by omega)
 constructor
 · rintro ⟨e1,e2⟩
   refine ⟨hr,e1,?_⟩
   have hn:1≤o.nth:=by
     rw [Zg5 hr] at hk
     unfold ofO at hk
     rw [if_pos hr] at hk
     unfold Zcn at hk
     rw [if_neg (show ¬ o.tx=0 by omega)] at hk
     simp at hk
     omega
   rw [e2,if_neg (by omega)] at h1
   split at h1
   · cases h1
   · omega
 · rintro ⟨_,e1,e2⟩
   refine ⟨e1,?_⟩
   rw [h1,if_neg (by omega),if_neg (by omega)]
theorem Zic (t:TxD):FnP Tryz.prog 43 [.agg (rTx t)] (.int .i64 (Z1 t)):=by
 refine FnP.mk Tryz.func43 rfl Tryz.ntmps43 rfl ?_
 intro B a w F hB hfr hS
 refine wp_seq ?_
 refine Zc hS (qx 101 r1 (qI qZ)) hB [2,1] [101,0] (fun _=>rfl) (fun _=>rfl) fun τ a w F hS=>?_
 try dsimp only [RS.sub,SF.sub,CF.sub,csub,Anc.sub,List.map,zCF,rInt,rOp,rTx] at hS
 generalize τ 1=v1 at hS
 refine Zb (wp_seq (wp_block (wp_seq ?_)))
 refine Za hS (qg 0 101 r1 r1 (qa 101 r1 r1 (qf (Zcr .t qi) r1 qz (qM rfl rfl (qv 0 101 rfl r2 r1 (qw 101 rfl r2 r1 (qk rfl (fun h=>o_gtr (.w h) qi) r2 qz (qf (ZaL .t .t) r2 qz (qN rfl rfl qZ))))))))) hB [7,2,1] [101,0] rfl rfl fun a w F hS=>Zb ?_
 refine Zd hS rfl (fun hc0=>?_) (fun hc0=>?_)
 ·skip
  have hg:1=Z1 t:=by unfold Z1;rw [if_pos (by simp at hc0;omega)]
  refine wp_seq ?_
  refine Za hS (qI qZ) hB [2,1] [101,0] rfl rfl fun a w F hS=>Zb (wp_ret (Zl (Zg ?_)))
  refine Zq hfr hS rfl rfl rfl (.int hg)
 have hid:1≤t.id∧t.id≤1048575:=by simp at hc0;omega
 refine wp_seq ?_
 refine Za hS (qg 2 101 r1 r1 (qa 101 r1 r1 (qu Tryz.underlying38 r1 (qf (o_gtr .t qi) r1 qz (qN rfl rfl qZ))))) hB [16,2,1] [101,0] rfl rfl fun a w F hS=>Zb ?_
 refine Zd hS rfl (fun hc1=>?_) (fun hc1=>?_)
 ·skip
  have hg:9=Z1 t:=by unfold Z1;rw [if_neg (by omega),if_pos (by simp at hc1;omega)]
  refine wp_seq ?_
  refine Za hS (qI qZ) hB [2,1] [101,0] rfl rfl fun a w F hS=>Zb (wp_ret (Zl (Zg ?_)))
  refine Zq hfr hS rfl rfl rfl (.int hg)
 have hlen:t.ops.length≤4095:=by simp at hc1;omega
 have hT:Z1 t=Zai t.id [] t.ops:=by unfold Z1;rw [if_neg (by omega),if_neg (by omega)]
 refine wp_skip (Zi (Zb (wp_seq ?_)))
 refine Zc hS (qf (Zec (ek:=(fun n:Int=>PV.int .i64 n)) (ok:=(fun k=>∀ x ∈ Zbo k,inR .i64 x)) (kv:=(kvS Zbo)) 102) trivial qz (qN rfl rfl qZ)) hB [3,2,1] [102,101,0] (fun _=>rfl) (fun _=>rfl) fun τ a w F hS=>?_
 try dsimp only [RS.sub,SF.sub,CF.sub,csub,Anc.sub,List.map,Zf,xL,xM,Nat.reduceAdd,xD,xE,xT,xU,xC,xN,zCF,rInt,rOp,rTx] at hS
 generalize τ 21=v21 at hS
 refine Zb (wp_seq (wp_seq ?_))
 refine Za hS (qg 2 101 r1 r1 (qa 101 r1 r1 (qu Tryz.underlying38 r1 (qJ qZ)))) hB [25,24,23,3,2,1] [102,101,0] rfl rfl fun a w F hS=>Zb (wp_block ?_)
 refine Zo (σ:=(Nat)×(List (GE Zbj Int))×(Nat)) [1,2,3,23,24] [0,101] (fun s=>[(25,.pv (.int .i64 (s.1:Int)))]) (fun s=>[(102,.ob (.val v21) (ZdH (fun n:Int=>PV.int .i64 n) (fun k=>∀ x ∈ Zbo k,inR .i64 x) (kvS Zbo) s.2.1 s.2.2))]) (fun s=>s.1≤t.ops.length∧(Zai t.id [] t.ops=Zai t.id (t.ops.take s.1) (t.ops.drop s.1)∧Zch s.2.1 (t.ops.take s.1))) (fun s=>t.ops.length - s.1) ((0),([]),(0)) hS ⟨rfl,rfl,rfl,rfl,rfl,rfl,trivial⟩ ⟨rfl,rfl,rfl,trivial⟩ ⟨Nat.zero_le _,⟨rfl,ZmM⟩⟩ ?_
 clear hS;intro s a w F hC hS
 obtain ⟨i,es,ck⟩:=s
 try dsimp only at hC
 obtain ⟨F,hS⟩:=hS.nm [25,24,23,3,2,1] [102,101,0] rfl rfl
 try dsimp only at hS
 obtain ⟨hi,hq⟩:=hC
 obtain ⟨hrt,hsp⟩:=hq
 have hwl:=fun k=>Zp5 t.ops i k
 refine wp_seq ?_
 refine Za hS (qL r2) hB [26,25,24,23,3,2,1] [102,101,0] rfl rfl fun a w F hS=>Zb (wp_seq ?_)
 refine Zd hS rfl (fun hc2=>?_) (fun hc2=>?_)
 ·skip
  have hil:i<t.ops.length:=by simp at hc2;omega
  refine wp_skip (Zb (wp_seq (wp_block (wp_seq ?_))))
  refine Zc hS (qy 4 Tryz.underlying38 r2 (qf (oR true 4 .t) r1 qz (qf (oH [.bool false,.int .i64 0,.int .i64 0,.int .i64 0] 103) trivial qz (qS 4 103 r2 r1 qZ)))) hB [25,24,23,5,3,2,1] [103,102,101,0] (fun _=>rfl) (fun _=>rfl) fun τ a w F hS=>?_
  try dsimp only [RS.sub,SF.sub,CF.sub,csub,Anc.sub,List.map,Zf,xL,xM,Nat.reduceAdd,xD,xE,xT,xU,xC,xN,zCF,ldSF,rInt,rOp,rTx] at hS
  generalize τ 5=v5 at hS
  try simp only [Int.toNat_natCast] at hS
  refine Zb (wp_seq (wp_seq ?_))
  refine Za hS (qe 4 103 r1 r1 (qf (oP (ZfZ (Go.Gm.nth t.ops i)) Tryz.func97 (Args.one (.pagg .t))) r1 qz (qN rfl rfl qZ))) hB [25,24,23,6,5,3,2,1] [103,102,101,0] rfl rfl fun a w F hS=>Zb (wp_seq ?_)
  refine Za hS (qM rfl rfl (qf (o_neq .t qi) r1 qz qZ)) hB [32,25,24,23,6,5,3,2,1] [103,102,101,0] rfl rfl fun a w F hS=>Zb ?_
  refine Zd hS rfl (fun hc3=>?_) (fun hc3=>?_)
  ·skip
   have hk:Zaf (Go.Gm.nth t.ops i)=false:=by unfold ZbH at hc3;simpa using hc3
   have hg:ZbH (Go.Gm.nth t.ops i)=Z1 t:=by rw [hT,hrt,ZcX hil,if_pos hk];unfold ZbH;rw [hk];rfl
   refine wp_seq ?_
   refine Za hS (qM rfl rfl (qN rfl rfl qZ)) hB [25,24,23,5,3,2,1] [103,102,101,0] rfl rfl fun a w F hS=>Zb (wp_ret (Zg (Zl (Zg (Zg (Zl (Zg ?_)))))))
   refine Zq hfr hS rfl rfl rfl (.int hg)
  have hk:Zaf (Go.Gm.nth t.ops i)=true:=by unfold ZbH at hc3;simpa using hc3
  refine wp_skip (Zb (wp_seq (wp_seq ?_)))
  refine Za hS (qg 0 103 r1 r1 (qa 103 r1 r1 (qf (o_not .t) r1 qz qZ))) hB [36,25,24,23,5,3,2,1] [103,102,101,0] rfl rfl fun a w F hS=>Zb ?_
  refine Zd hS rfl (fun hc4=>?_) (fun hc4=>?_)
  ·skip
   have hr:(Go.Gm.nth t.ops i).read=false:=by simpa using hc4
   have hm0:=hsp (Go.Gm.nth t.ops i).key 0 (Int.le_refl _)
   rw [if_pos rfl] at hm0
   have hwc:IntKind.wrap .i64 (((gGet (⟨(Go.Gm.nth t.ops i).key,0⟩:Zbj) es).getD 0)+1)=(wcnt (t.ops.take i) (Go.Gm.nth t.ops i).key:Int)+1:=by rw [hm0];exact ZM (by have:=hwl (Go.Gm.nth t.ops i).key;omega)
   refine wp_seq ?_
   replace hS:=hS.turnZ 102 (0) (⟨(Go.Gm.nth t.ops i).key,0⟩:Zbj) rfl
   refine Zf4 102 8 (m1:=1) (m2:=2) (by kernel_rfl) hS (by kernel_rfl) (qM rfl rfl (qg 1 103 r1 r1 (qa 103 r1 r1 (qf (oB [(0,.tmp 39),(1,_)] [.int .i64 0,.int .i64 0] [(0,1),(1,1)] (.one rfl .t one_int (by kernel_rfl) (.one rfl qi one_int (by kernel_rfl) .nil))) r1 qz (qf (ZiD (ek:=(fun n:Int=>PV.int .i64 n)) (z0:=(0)) 102 Tryz.underlying121 Zfc (by kernel_rfl) (fun _ _=>⟨rfl,Zi8⟩) .is (Z5.agg (enc:=Zbo) (k:=(⟨(Go.Gm.nth t.ops i).key,0⟩:Zbj)) (.pagg .t) rfl)) r2 r1 (qp r1 (qf (ZfY (ek:=(fun n:Int=>PV.int .i64 n)) (z0:=(0)) 102 Tryz.underlying121 Zfc (by kernel_rfl) (fun _ _=>⟨rfl,Zi8⟩) .is (Z5.agg (enc:=Zbo) (k:=(⟨(Go.Gm.nth t.ops i).key,0⟩:Zbj)) (.pagg .t) rfl) (by intros;first | rfl | simp [Anc.v,upd])) r2 r1 (qf (o_extract .t rfl) r1 qz (qf (ZdN 102 (Zfx _ _ _) .is .t .t) r3 r1 qZ))))))))) (by kernel_rfl) (by kernel_rfl) (by kernel_rfl) rfl rfl rfl (fun _ _ _ _ h=>.inr h) (by rw [hB];kernel_rfl) fun a w F hS=>?_
   obtain ⟨F,hS⟩:=hS.nm [25,24,23,5,3,2,1] [103,102,101,0] rfl rfl
   try dsimp only [List.map,Zf,xL,xM,Nat.reduceAdd,xD,xE,xT,xU,xC,xN,zCF,ldSF,rInt,rOp,rTx] at hS
   obtain ⟨es1,he1⟩:∃ z,z=gSet (⟨(Go.Gm.nth t.ops i).key,0⟩:Zbj) (IntKind.wrap .i64 (((gGet (⟨(Go.Gm.nth t.ops i).key,0⟩:Zbj) es).getD 0)+1)) (gEns 0 (⟨(Go.Gm.nth t.ops i).key,0⟩:Zbj) (es,ck)).1:=⟨_,rfl⟩
   obtain ⟨ck1,hc1⟩:∃ z,z=(gEns 0 (⟨(Go.Gm.nth t.ops i).key,0⟩:Zbj) (es,ck)).2:=⟨_,rfl⟩
   rw [← he1,← hc1] at hS
   refine Zb (wp_seq ?_)
   refine ZC hS (qM rfl rfl (qg 1 103 r1 r1 (qa 103 r1 r1 (qM rfl rfl (qg 1 103 r1 r1 (qa 103 r1 r1 (qf (oB [(0,.tmp 50),(1,_)] [.int .i64 0,.int .i64 0] [(0,1),(1,1)] (.one rfl .t one_int (by kernel_rfl) (.one rfl qi one_int (by kernel_rfl) .nil))) r1 qz (qf (ZbE (ek:=(fun n:Int=>PV.int .i64 n)) (z0:=(0)) 102 Tryz.underlying121 Zfc (by kernel_rfl) (fun _ _=>⟨rfl,Zi8⟩) .is (Z5.agg (enc:=Zbo) (k:=(⟨(Go.Gm.nth t.ops i).key,0⟩:Zbj)) (.pagg .t) rfl)) r2 r1 (qf (oB [(0,.tmp 47),(1,.tmp 52)] [.int .i64 0,.int .i64 0] [(0,1),(1,1)] (.one rfl .t one_int (by kernel_rfl) (.one rfl .t one_int (by kernel_rfl) .nil))) r2 qz (qf (ZeJ (ek:=(fun n:Int=>PV.int .i64 n)) 102 Tryz.underlying121 Zfc .is (Z5.agg (enc:=Zbo) (k:=(⟨(Go.Gm.nth t.ops i).key,(gGet (⟨(Go.Gm.nth t.ops i).key,0⟩:Zbj) es1).getD 0⟩:Zbj)) (.pagg .t) rfl) qi) r2 r1 qZ)))))))))) hB [25,24,23,5,3,2,1] [103,102,101,0] rfl rfl fun a w F hS=>?_
   try dsimp only [List.map,Zf,xL,xM,Nat.reduceAdd,xD,xE,xT,xU,xC,xN,zCF,ldSF,rInt,rOp,rTx] at hS
   have hv1:∀ p,(gGet p es1).getD 0=if p=(⟨(Go.Gm.nth t.ops i).key,0⟩:Zbj) then (wcnt (t.ops.take i) (Go.Gm.nth t.ops i).key:Int)+1 else (gGet p es).getD 0:=fun p=>by rw [he1,Zg1,hwc]
   obtain ⟨es2,he2⟩:∃ z,z=(gPut (⟨(Go.Gm.nth t.ops i).key,(gGet (⟨(Go.Gm.nth t.ops i).key,0⟩:Zbj) es1).getD 0⟩:Zbj) 1 (es1,ck1)).1:=⟨_,rfl⟩
   obtain ⟨ck2,hc2⟩:∃ z,z=(gPut (⟨(Go.Gm.nth t.ops i).key,(gGet (⟨(Go.Gm.nth t.ops i).key,0⟩:Zbj) es1).getD 0⟩:Zbj) 1 (es1,ck1)).2:=⟨_,rfl⟩
   rw [← he2,← hc2] at hS
   have hR2:Zai t.id [] t.ops=Zai t.id (t.ops.take (i+1)) (t.ops.drop (i+1))∧Zch es2 (t.ops.take (i+1)):=⟨by rw [hrt,ZcX hil,if_neg (by rw [hk];decide),if_neg (by rw [hr];simp)],ZmC hsp hil hr rfl (fun p=>by rw [he2,Zob];dsimp only;rw [hv1,hv1,if_pos rfl])⟩
   refine Zb (wp_exit (Zj (Zp (Zb ?_))))
   refine Za hS (qp r1 (qM rfl rfl qZ)) hB [25,24,23,3,2,1] [103,102,101,0] rfl rfl fun a w F hS=>Zb ?_
   replace hS:=hS.ent (i:=25) (s':=.pv (.int .i64 ((i+1:Nat):Int))) rfl (.int (Ze (by omega)))
   obtain ⟨F,hS⟩:=hS.nm [24,23,3,2,1,25] [101,0,102] rfl rfl
   exact ⟨((i+1),(es2),(ck2)),F,⟨by omega,hR2⟩,hS,by omega⟩
  have hr:(Go.Gm.nth t.ops i).read=true:=by simpa using hc4
  refine wp_skip (Zb (wp_seq ?_))
  refine Za hS (qg 2 103 r1 r1 (qa 103 r1 r1 (qg 0 101 r1 r1 (qa 101 r1 r1 (qf (o_eql .t .t) r2 qz (qM rfl rfl (qm rfl rfl rfl rfl (qv 1 103 rfl r2 r1 (qw 103 rfl r2 r1 (qv 3 103 rfl r2 r1 (qw 103 rfl r2 r1 (qk rfl (fun h=>Zhs (r:=[(0,.tmp 62),(1,.tmp 64)]) (zs:=[.int .i64 0,.int .i64 0]) (pl:=[(0,1),(1,1)]) (by kernel_rfl) (by kernel_rfl) (.one rfl (.w h) one_int (by kernel_rfl) (.one rfl (.w h) one_int (by kernel_rfl) .nil)) (by rfl)) r3 qz (qk rfl (fun h=>ZbE (ek:=(fun n:Int=>PV.int .i64 n)) (z0:=(0)) 102 Tryz.underlying121 Zfc (by kernel_rfl) (fun _ _=>⟨rfl,Zi8⟩) (.w h .is) (Z5.agg (enc:=Zbo) (k:=(⟨(Go.Gm.nth t.ops i).key,(Go.Gm.nth t.ops i).nth⟩:Zbj)) (.pagg (.w h)) rfl)) r3 r1 (qk rfl (fun h=>o_eql (.w h) qi) r2 qz (qf (ZB .t .t) r2 qz qZ))))))))))))))) hB [68,25,24,23,3,2,1] [103,102,101,0] rfl rfl fun a w F hS=>Zb ?_
  refine Zd hS rfl (fun hc5=>?_) (fun hc5=>?_)
  ·skip
   have hg:6=Z1 t:=by rw [hT,hrt,ZcX hil,if_neg (by rw [hk];decide),if_pos ((ZiE hsp hk hr hid.1).1 (by simpa using hc5))]
   refine wp_seq ?_
   refine Za hS (qI qZ) hB [25,24,23,3,2,1] [103,102,101,0] rfl rfl fun a w F hS=>Zb (wp_ret (Zl (Zg (Zg (Zl (Zg ?_))))))
   refine Zq hfr hS rfl rfl rfl (.int hg)
  have hno:=fun h9=>(by simpa using hc5:¬ ((Go.Gm.nth t.ops i).tx=t.id∧(gGet (⟨(Go.Gm.nth t.ops i).key,(Go.Gm.nth t.ops i).nth⟩:Zbj) es).getD 0=0)) ((ZiE hsp hk hr hid.1).2 h9)
  obtain ⟨es2,he2⟩:∃ z,z=es:=⟨_,rfl⟩
  obtain ⟨ck2,hc2⟩:∃ z,z=ck:=⟨_,rfl⟩
  have hR2:Zai t.id [] t.ops=Zai t.id (t.ops.take (i+1)) (t.ops.drop (i+1))∧Zch es2 (t.ops.take (i+1)):=⟨by rw [hrt,ZcX hil,if_neg (by rw [hk];decide),if_neg hno],by rw [he2];exact Znx hsp hil hr⟩
  rw [← he2,← hc2] at hS
  refine wp_skip (Zi (Zb ?_))
  refine Za hS (qp r1 (qM rfl rfl qZ)) hB [25,24,23,3,2,1] [103,102,101,0] rfl rfl fun a w F hS=>Zb ?_
  replace hS:=hS.ent (i:=25) (s':=.pv (.int .i64 ((i+1:Nat):Int))) rfl (.int (Ze (by omega)))
  obtain ⟨F,hS⟩:=hS.nm [24,23,3,2,1,25] [101,0,102] rfl rfl
  exact ⟨((i+1),(es2),(ck2)),F,⟨by omega,hR2⟩,hS,by omega⟩
 have hil:i=t.ops.length:=by simp at hc2;omega
 have hg:0=Z1 t:=by rw [hT,hrt,Zjw hil]
 refine wp_exit (Zj (Zj (Zp (Zb (wp_seq ?_)))))
 refine Za hS (qI qZ) hB [2] [102,101,0] rfl rfl fun a w F hS=>Zb (wp_ret ?_)
 refine Zq hfr hS rfl rfl rfl (.int hg)
theorem Zi4 (t:TxD) (hl:t.ops.length≤1000000):FnP Tryz.prog 99 [.agg (rTx t)] (.sl ZG (ZaI t)):=by
 refine FnP.mk Tryz.func99 rfl Tryz.ntmps99 rfl ?_
 intro B a w F hB hfr hS
 refine wp_seq ?_
 refine Zc hS (qx 101 r1 (qC qZ)) hB [2,1] [101,0] (fun _=>rfl) (fun _=>rfl) fun τ a w F hS=>?_
 try dsimp only [RS.sub,SF.sub,CF.sub,csub,Anc.sub,List.map,zCF,rInt,rOp,rTx,ZG] at hS
 generalize τ 1=v1 at hS
 refine Zb (wp_seq ?_)
 refine Za hS (qC qZ) hB [3,2,1] [101,0] rfl rfl fun a w F hS=>Zb (wp_seq ?_)
 refine Zc hS (qf (Zec (ek:=(fun n:Int=>PV.int .i64 n)) (ok:=(fun k=>∀ x ∈ Zdh k,inR .i64 x)) (kv:=(kvS Zdh)) 102) trivial qz (qN rfl rfl qZ)) hB [4,3,2,1] [102,101,0] (fun _=>rfl) (fun _=>rfl) fun τ a w F hS=>?_
 try dsimp only [RS.sub,SF.sub,CF.sub,csub,Anc.sub,List.map,Zf,xL,xM,Nat.reduceAdd,xD,xE,xT,xU,xC,xN,zCF,rInt,rOp,rTx,ZG] at hS
 generalize τ 8=v8 at hS
 refine Zb (wp_seq (wp_seq ?_))
 refine Za hS (qg 2 101 r1 r1 (qa 101 r1 r1 (qu Tryz.underlying38 r1 (qJ qZ)))) hB [12,11,10,4,3,2,1] [102,101,0] rfl rfl fun a w F hS=>Zb (wp_block ?_)
 replace hS:=hS.fresh 50 rfl
 replace hS:=hS.turn 50 rfl (Zav (T:=128) (sz:=3) (R:=ZG))
 refine Zo (σ:=(Nat)×(List (GE ZbY Int))×(Nat)×(Value)×(List ZbY)) [1,2,4,10,11] [0,101] (fun s=>[(12,.pv (.int .i64 (s.1:Int))),(3,.pv (.is s.2.2.2.1))]) (fun s=>[(102,.ob (.val v8) (ZdH (fun n:Int=>PV.int .i64 n) (fun k=>∀ x ∈ Zdh k,inR .i64 x) (kvS Zdh) s.2.1 s.2.2.1)),(50,.ob (.val s.2.2.2.1) (Zx 128 3 ZG s.2.2.2.2))]) (fun s=>s.1≤t.ops.length∧(s.2.2.2.2=ZcL t.id (t.ops.take s.1)∧ZdT s.2.1 s.1 s.2.2.2.2)) (fun s=>t.ops.length - s.1) ((0),([]),(0),(.slice none 0 0),([])) hS ⟨rfl,rfl,rfl,rfl,rfl,rfl,rfl,trivial⟩ ⟨rfl,rfl,rfl,rfl,trivial⟩ ⟨Nat.zero_le _,⟨rfl,ZoN⟩⟩ ?_
 clear hS;intro s a w F hC hS
 obtain ⟨i,es,ck,v,out⟩:=s
 try dsimp only at hC
 obtain ⟨F,hS⟩:=hS.nm [12,11,10,4,3,2,1] [102,101,50,0] rfl rfl
 try dsimp only at hS
 obtain ⟨hi,hq⟩:=hC
 obtain ⟨hou,hvi⟩:=hq
 have hol:out.length≤i:=by rw [hou];exact ZgE _ _ _
 have hst:=fun hil:i<t.ops.length=>ZjC (id:=t.id) hil
 refine wp_seq ?_
 refine Za hS (qL r2) hB [13,12,11,10,4,3,2,1] [102,101,50,0] rfl rfl fun a w F hS=>Zb (wp_seq ?_)
 refine Zd hS rfl (fun hc0=>?_) (fun hc0=>?_)
 ·skip
  have hil:i<t.ops.length:=by simp at hc0;omega
  refine wp_skip (Zb (wp_seq (wp_block (wp_seq ?_))))
  refine Zc hS (qy 4 Tryz.underlying38 r2 (qf (oR true 4 .t) r1 qz (qf (oH [.bool false,.int .i64 0,.int .i64 0,.int .i64 0] 103) trivial qz (qS 4 103 r2 r1 qZ)))) hB [12,11,10,6,4,3,2,1] [103,102,101,50,0] (fun _=>rfl) (fun _=>rfl) fun τ a w F hS=>?_
  try dsimp only [RS.sub,SF.sub,CF.sub,csub,Anc.sub,List.map,Zf,xL,xM,Nat.reduceAdd,xD,xE,xT,xU,xC,xN,zCF,ldSF,rInt,rOp,rTx,ZG] at hS
  generalize τ 6=v6 at hS
  try simp only [Int.toNat_natCast] at hS
  refine Zb (wp_seq ?_)
  refine Zc hS (qe 4 103 r1 r1 (qf (oP (ZoR (Go.Gm.nth t.ops i)) Tryz.func159 (Args.one (.pagg .t))) r1 qz (qf (oH [.int .i64 0,.int .i64 0,.int .i64 0] 104) trivial qz (qf (oA 3 104 .same (.conv .t .agg)) r2 r1 qZ)))) hB [12,11,10,7,6,4,3,2,1] [104,103,102,101,50,0] (fun _=>rfl) (fun _=>rfl) fun τ a w F hS=>?_
  try dsimp only [RS.sub,SF.sub,CF.sub,csub,Anc.sub,List.map,Zf,xL,xM,Nat.reduceAdd,xD,xE,xT,xU,xC,xN,zCF,ldSF,rInt,rOp,rTx,ZG] at hS
  generalize τ 7=v7 at hS
  refine Zb (wp_seq (wp_seq ?_))
  refine Za hS (qg 0 103 r1 r1 (qa 103 r1 r1 (qf (o_not .t) r1 qz (qM rfl rfl (qv 0 104 rfl r2 r1 (qw 104 rfl r2 r1 (qk rfl (fun h=>o_eql (.w h) qi) r2 qz (qf (ZaL .t .t) r2 qz (qM rfl rfl (qv 0 104 rfl r2 r1 (qw 104 rfl r2 r1 (qv 0 101 rfl r2 r1 (qw 101 rfl r2 r1 (qk rfl (fun h=>o_eql (.w h) (.w h)) r3 qz (qf (ZaL .t .t) r2 qz qZ))))))))))))))) hB [32,12,11,10,7,4,3,2,1] [104,103,102,101,50,0] rfl rfl fun a w F hS=>Zb ?_
  refine Zd hS rfl (fun hc1=>?_) (fun hc1=>?_)
  ·skip
   have hno:ZjN t.id (Go.Gm.nth t.ops i)=false:=by unfold ZjN;unfold ofO at hc1;cases hr:(Go.Gm.nth t.ops i).read <;> simp [hr] at hc1 ⊢;omega
   obtain ⟨es2,he2⟩:∃ z,z=es:=⟨_,rfl⟩
   obtain ⟨ck2,hc2⟩:∃ z,z=ck:=⟨_,rfl⟩
   obtain ⟨out2,ho2⟩:∃ z,z=out:=⟨_,rfl⟩
   have hR2:out2=ZcL t.id (t.ops.take (i+1))∧ZdT es2 (i+1) out2:=⟨by rw [ho2,hou,hst hil];unfold Zaz;rw [if_neg (by rw [hno];simp)],by rw [he2,ho2];exact ZoC hvi⟩
   rw [← he2,← hc2,← ho2] at hS
   refine wp_exit (Zj (Zp (Zb ?_)))
   refine Za hS (qp r1 (qM rfl rfl qZ)) hB [12,11,10,4,3,2,1] [103,102,101,50,0] rfl rfl fun a w F hS=>Zb ?_
   replace hS:=hS.ent (i:=12) (s':=.pv (.int .i64 ((i+1:Nat):Int))) rfl (.int (Ze (by omega)))
   obtain ⟨F,hS⟩:=hS.nm [11,10,4,2,1,3,12] [101,0,50,102] rfl rfl
   exact ⟨((i+1),(es2),(ck2),_,(out2)),F,⟨by omega,hR2⟩,hS,by omega⟩
  have hyes:ZjN t.id (Go.Gm.nth t.ops i)=true:=by unfold ZjN;unfold ofO at hc1;cases hr:(Go.Gm.nth t.ops i).read <;> simp [hr] at hc1 ⊢;exact hc1
  have hvr:=hvi (ofO (Go.Gm.nth t.ops i))
  have hw1:IntKind.wrap .i64 (((gGet (ofO (Go.Gm.nth t.ops i)) es).getD 0)+1)=((gGet (ofO (Go.Gm.nth t.ops i)) es).getD 0)+1:=ZM (by have:=Sat.lenSl hS (i:=10) rfl;omega)
  refine wp_skip (Zb (wp_seq ?_))
  replace hS:=hS.turnZ 102 (0) (ofO (Go.Gm.nth t.ops i)) rfl
  refine Zf4 102 6 (m1:=1) (m2:=2) (by kernel_rfl) hS (by kernel_rfl) (qM rfl rfl (qe 3 104 r1 r1 (qf (ZiD (ek:=(fun n:Int=>PV.int .i64 n)) (z0:=(0)) 102 Tryz.underlying185 Zmh (by kernel_rfl) (fun _ _=>⟨rfl,Zi8⟩) .is (Z5.agg (enc:=Zdh) (k:=(ofO (Go.Gm.nth t.ops i))) (.pagg .t) rfl)) r2 r1 (qp r1 (qf (ZfY (ek:=(fun n:Int=>PV.int .i64 n)) (z0:=(0)) 102 Tryz.underlying185 Zmh (by kernel_rfl) (fun _ _=>⟨rfl,Zi8⟩) .is (Z5.agg (enc:=Zdh) (k:=(ofO (Go.Gm.nth t.ops i))) (.pagg .t) rfl) (by intros;first | rfl | simp [Anc.v,upd])) r2 r1 (qf (o_extract .t rfl) r1 qz (qf (ZdN 102 (Zfx _ _ _) .is .t .t) r3 r1 qZ))))))) (by kernel_rfl) (by kernel_rfl) (by kernel_rfl) rfl rfl rfl (fun _ _ _ _ h=>.inr h) (by rw [hB];kernel_rfl) fun a w F hS=>?_
  obtain ⟨F,hS⟩:=hS.nm [12,11,10,7,4,3,2,1] [104,103,102,101,50,0] rfl rfl
  try dsimp only [List.map,xD,xE,xT,xU,ldSF,rInt,rOp,rTx,ZG] at hS
  obtain ⟨es2,he2⟩:∃ z,z=gSet (ofO (Go.Gm.nth t.ops i)) (IntKind.wrap .i64 (((gGet (ofO (Go.Gm.nth t.ops i)) es).getD 0)+1)) (gEns 0 (ofO (Go.Gm.nth t.ops i)) (es,ck)).1:=⟨_,rfl⟩
  obtain ⟨ck2,hc2⟩:∃ z,z=(gEns 0 (ofO (Go.Gm.nth t.ops i)) (es,ck)).2:=⟨_,rfl⟩
  rw [← he2,← hc2] at hS
  have hvv:∀ u,(gGet u es2).getD 0=if u=(ofO (Go.Gm.nth t.ops i)) then ((gGet (ofO (Go.Gm.nth t.ops i)) es).getD 0)+1 else (gGet u es).getD 0:=fun u=>by rw [he2,Zg1,hw1]
  have hmv:(gGet (ofO (Go.Gm.nth t.ops i)) es2).getD 0=((gGet (ofO (Go.Gm.nth t.ops i)) es).getD 0)+1:=by rw [hvv,if_pos rfl]
  have hvs:=ZnP hvi hvv
  refine Zb (wp_seq ?_)
  refine Za hS (qM rfl rfl (qe 3 104 r1 r1 (qf (ZbE (ek:=(fun n:Int=>PV.int .i64 n)) (z0:=(0)) 102 Tryz.underlying185 Zmh (by kernel_rfl) (fun _ _=>⟨rfl,Zi8⟩) .is (Z5.agg (enc:=Zdh) (k:=(ofO (Go.Gm.nth t.ops i))) (.pagg .t) rfl)) r2 r1 (qf (o_eql .t qi) r1 qz qZ)))) hB [42,12,11,10,7,4,3,2,1] [104,103,102,101,50,0] rfl rfl fun a w F hS=>Zb ?_
  refine Zd hS rfl (fun hc2=>?_) (fun hc2=>?_)
  ·skip
   have hnm:(ofO (Go.Gm.nth t.ops i)) ∉ out:=by rw [← hvr.2.2];rw [hmv] at hc2;simp at hc2;omega
   obtain ⟨out2,ho2⟩:∃ z,z=out ++ [(ofO (Go.Gm.nth t.ops i))]:=⟨_,rfl⟩
   have hR2:out2=ZcL t.id (t.ops.take (i+1))∧ZdT es2 (i+1) out2:=⟨by rw [ho2,hst hil];unfold Zaz;rw [if_pos ⟨hyes,by rw [← hou];exact hnm⟩,← hou],by have:=hvs;rw [if_neg hnm] at this;rw [ho2];exact this⟩
   refine Zc hS (qM rfl rfl (qe 3 104 r1 r1 (qf (Zh (sz:=3) (zs:=[.int .i64 0,.int .i64 0,.int .i64 0]) (r:=[(0,.tmp 44)]) (l:=[_,_,_]) Tryz.underlying126 (by kernel_rfl) (by kernel_rfl) (by kernel_rfl) (by kernel_rfl) rfl rfl (.agg rfl .t (by kernel_rfl) (by kernel_rfl) .nil) rfl) r1 qz (qf (o_append (sz:=3) (bs:=24) 50 (.mk' Tryz.underlying126 (by kernel_rfl) (by kernel_rfl)) (by intro x;rfl) .is (.arr (l':=[_]) .t) (by simp only [List.length_append,List.length_cons,List.length_nil,List.length_take,List.length_drop];omega) (by decide)) ⟨rfl,rfl,trivial⟩ ⟨rfl,trivial⟩ (qN rfl rfl qZ))))) hB [12,11,10,4,3,2,1] [103,102,101,50,0] (fun _=>rfl) (fun _=>rfl) fun τ a w F hS=>?_
   try dsimp only [RS.sub,SF.sub,CF.sub,csub,Anc.sub,List.map,Zf,xL,xM,Nat.reduceAdd,xD,xE,xT,xU,xC,xN,zCF,ldSF,rInt,rOp,rTx,ZG] at hS
   generalize τ 46=v46 at hS
   rw [← ho2] at hS
   refine Zi (Zb ?_)
   refine Za hS (qp r1 (qM rfl rfl qZ)) hB [12,11,10,4,3,2,1] [103,102,101,50,0] rfl rfl fun a w F hS=>Zb ?_
   replace hS:=hS.ent (i:=12) (s':=.pv (.int .i64 ((i+1:Nat):Int))) rfl (.int (Ze (by omega)))
   obtain ⟨F,hS⟩:=hS.nm [11,10,4,2,1,3,12] [101,0,50,102] rfl rfl
   exact ⟨((i+1),(es2),(ck2),_,(out2)),F,⟨by omega,hR2⟩,hS,by omega⟩
  have hnm:(ofO (Go.Gm.nth t.ops i)) ∈ out:=by rw [← hvr.2.2];rw [hmv] at hc2;simp at hc2;omega
  obtain ⟨out2,ho2⟩:∃ z,z=out:=⟨_,rfl⟩
  have hR2:out2=ZcL t.id (t.ops.take (i+1))∧ZdT es2 (i+1) out2:=⟨by rw [ho2,hst hil];unfold Zaz;rw [if_neg (by rw [← hou];simp [hnm])];exact hou,by have:=hvs;rw [if_pos hnm] at this;rw [ho2];exact this⟩
  rw [← ho2] at hS
  refine wp_skip (Zi (Zb ?_))
  refine Za hS (qp r1 (qM rfl rfl qZ)) hB [12,11,10,4,3,2,1] [103,102,101,50,0] rfl rfl fun a w F hS=>Zb ?_
  replace hS:=hS.ent (i:=12) (s':=.pv (.int .i64 ((i+1:Nat):Int))) rfl (.int (Ze (by omega)))
  obtain ⟨F,hS⟩:=hS.nm [11,10,4,2,1,3,12] [101,0,50,102] rfl rfl
  exact ⟨((i+1),(es2),(ck2),_,(out2)),F,⟨by omega,hR2⟩,hS,by omega⟩
 have hil:i=t.ops.length:=by simp at hc0;omega
 refine wp_exit (Zj (Zj (Zp (Zb (wp_seq ?_)))))
 refine Za hS (qM rfl rfl (qN rfl rfl qZ)) hB [2] [102,101,50,0] rfl rfl fun a w F hS=>Zb (wp_ret ?_)
 obtain ⟨F,hS⟩:=hS.give 50 2 rfl rfl
 refine Zq hfr hS rfl rfl rfl (.sl (by rw [hou,hil,List.take_length];rfl))
theorem Zl8 (l:List Int) (v:Int):FnP Tryz.prog 145 [.sl rInt l,.int .i64 v] (.int .i64 (Zbs v l)):=by
 refine FnP.mk Tryz.func145 rfl Tryz.ntmps145 rfl ?_
 intro B a w F hB hfr hS
 have hll:=Sat.lenSl hS (i:=0) rfl
 refine wp_seq ?_
 refine Za hS (qI qZ) hB [4,1,0] [0] rfl rfl fun a w F hS=>Zb (wp_seq (wp_seq ?_))
 refine Za hS (qM rfl rfl (qu Tryz.underlying41 r1 (qJ qZ))) hB [8,7,4,1,0] [0] rfl rfl fun a w F hS=>Zb (wp_block ?_)
 refine Zo (σ:=(Nat)) [0,1,4,7] [0] (fun s=>[(8,.pv (.int .i64 (s:Int)))]) (fun s=>[]) (fun s=>s≤l.length∧(∀ k,k<s→Go.Gm.nth l k≠v)) (fun s=>l.length - s) (0) hS ⟨rfl,rfl,rfl,rfl,rfl,trivial⟩ ⟨rfl,trivial⟩ ⟨Nat.zero_le _,fun k hk=>absurd hk (Nat.not_lt_zero k)⟩ ?_
 clear hS;intro i a w F hC hS
 try dsimp only at hC
 obtain ⟨F,hS⟩:=hS.nm [8,7,4,1,0] [0] rfl rfl
 try dsimp only at hS
 obtain ⟨hi,hq⟩:=hC
 refine wp_seq ?_
 refine Za hS (qL r2) hB [9,8,7,4,1,0] [0] rfl rfl fun a w F hS=>Zb (wp_seq ?_)
 refine Zd hS rfl (fun hc0=>?_) (fun hc0=>?_)
 ·skip
  have hil:i<l.length:=by simp at hc0;omega
  refine wp_skip (Zb (wp_seq (wp_block (wp_seq ?_))))
  refine Za hS (qM rfl rfl (qN rfl rfl qZ)) hB [8,7,5,4,1,0] [0] rfl rfl fun a w F hS=>Zb (wp_seq ?_)
  refine Za hS (qM rfl rfl (qM rfl rfl (qM rfl rfl (qy 1 Tryz.underlying41 r2 (qf (oR false 1 .t) r1 qz (qf (o_eql .t .t) r2 qz qZ)))))) hB [16,8,7,5,4,1,0] [0] rfl rfl fun a w F hS=>?_
  try simp only [Int.toNat_natCast] at hS
  refine Zb ?_
  refine Zd hS rfl (fun hc1=>?_) (fun hc1=>?_)
  ·skip
   have hg:(i:Int)=Zbs v l:=(Zna hil (by simp at hc1;omega) hq).symm
   refine wp_seq ?_
   refine Za hS (qM rfl rfl (qN rfl rfl qZ)) hB [8,7,4,1,0] [0] rfl rfl fun a w F hS=>Zb (wp_ret (Zl (Zg (Zg (Zl (Zg ?_))))))
   refine Zq hfr hS rfl rfl rfl (.int hg)
  have hne:Go.Gm.nth l i≠v:=by simp at hc1;omega
  refine wp_skip (Zi (Zb ?_))
  refine Za hS (qp r1 (qM rfl rfl qZ)) hB [8,7,4,1,0] [0] rfl rfl fun a w F hS=>Zb ?_
  replace hS:=hS.ent (i:=8) (s':=.pv (.int .i64 ((i+1:Nat):Int))) rfl (.int (Ze (by omega)))
  obtain ⟨F,hS⟩:=hS.nm [7,4,1,0,8] [0] rfl rfl
  exact ⟨(i+1),F,⟨by omega,(fun k hk=>by rcases Nat.lt_or_eq_of_le (Nat.le_of_lt_succ hk) with h | h;exact hq k h;rw [h];exact hne)⟩,hS,by omega⟩
 have hil:i=l.length:=by simp at hc0;omega
 have hg : -1=Zbs v l:=(ZfS fun k hk=>hq k (by simp at hc0;omega)).symm
 refine wp_exit (Zj (Zj (Zp (Zb (wp_seq ?_)))))
 refine Za hS (qI qZ) hB [4] [0] rfl rfl fun a w F hS=>Zb (wp_ret ?_)
 refine Zq hfr hS rfl rfl rfl (.int hg)
theorem ZlB (l:List Int) (v:Int):FnP Tryz.prog 209 [.sl rInt l,.int .i64 v] (.bool (decide (v ∈ l))):=by
 refine FnP.mk Tryz.func209 rfl Tryz.ntmps209 rfl ?_
 intro B a w F hB hfr hS
 refine wp_seq ?_
 refine Za hS qB hB [4,1,0] [0] rfl rfl fun a w F hS=>Zb (wp_seq ?_)
 refine Za hS (qM rfl rfl (qM rfl rfl (qf (oP (Zl8 l v) Tryz.func145 (Args.two .t .t)) r2 qz (qf (ZfI .t qi) r1 qz (qN rfl rfl qZ))))) hB [4] [0] rfl rfl fun a w F hS=>Zb (wp_ret ?_)
 refine Zq hfr hS rfl rfl rfl (.bool (by rw [decide_eq_decide];exact Zkc))
theorem Zmi (x y:List Int):FnP Tryz.prog 104 [.sl rInt x,.sl rInt y] (.bool (decide (x=y))):=by
 refine FnP.mk Tryz.func104 rfl Tryz.ntmps104 rfl ?_
 intro B a w F hB hfr hS
 have hxl:=Sat.lenSl hS (i:=0) rfl
 refine wp_seq ?_
 refine Za hS qB hB [4,1,0] [0] rfl rfl fun a w F hS=>Zb (wp_seq (wp_seq ?_))
 refine Za hS (qM rfl rfl (qu Tryz.underlying41 r1 (qM rfl rfl (qu Tryz.underlying41 r1 (qf (o_neq .t .t) r2 qz qZ))))) hB [10,4,1,0] [0] rfl rfl fun a w F hS=>Zb ?_
 refine Zd hS rfl (fun hc0=>?_) (fun hc0=>?_)
 ·skip
  have hg:false=decide (x=y):=by
    rw [eq_comm,decide_eq_false_iff_not]
    intro h
    subst h
    simp at hc0
  refine wp_seq ?_
  refine Za hS qB hB [4,1,0] [0] rfl rfl fun a w F hS=>Zb (wp_ret (Zg ?_))
  refine Zq hfr hS rfl rfl rfl (.bool hg)
 have hl:x.length=y.length:=by simp at hc0;omega
 refine wp_skip (Zb (wp_seq (wp_seq ?_)))
 refine Za hS (qM rfl rfl (qu Tryz.underlying41 r1 (qJ qZ))) hB [13,12,4,1,0] [0] rfl rfl fun a w F hS=>Zb (wp_block ?_)
 obtain ⟨F,hS⟩:=hS.nm [13,12,1,0] [0] rfl rfl
 refine Z7 (σ:=Nat) (fun s=>(⟨[(0,.pv (.sl rInt x)),(1,.pv (.sl rInt y)),(12,.pv (.int .i64 x.length)),(13,.pv (.int .i64 s))],[(0,frame B)]⟩:En)) (fun s=>s≤x.length ∧ ∀ j,j<s→Go.Gm.nth x j=Go.Gm.nth y j) (fun s=>x.length - s) 0 hS ⟨Nat.zero_le _,fun j hj=>absurd hj (Nat.not_lt_zero j)⟩ ?_
 clear hS;intro i a w F hC hS
 try dsimp only at hC
 try dsimp only at hS
 obtain ⟨hi,hq⟩:=hC
 refine wp_seq ?_
 refine Za hS (qL r2) hB [14,13,12,1,0] [0] rfl rfl fun a w F hS=>Zb (wp_seq ?_)
 refine Zd hS rfl (fun hc1=>?_) (fun hc1=>?_)
 ·skip
  have hil:i<x.length:=by simp at hc1;omega
  refine wp_skip (Zb (wp_seq (wp_block (wp_seq ?_))))
  refine Za hS (qM rfl rfl (qN rfl rfl qZ)) hB [13,12,5,1,0] [0] rfl rfl fun a w F hS=>Zb (wp_seq ?_)
  refine ZC hS (qM rfl rfl (qM rfl rfl (qy 1 Tryz.underlying41 r2 (qf (oR false 1 .t) r1 qz (qM rfl rfl (qM rfl rfl (qy 1 Tryz.underlying41 r2 (qf (oR false 1 .t) r1 qz (qf (o_neq .t .t) r2 qz qZ))))))))) hB [24,13,12,1,0] [0] rfl rfl fun a w F hS=>?_
  try dsimp only [List.map,xD,xE,xT,xU,ldSF] at hS
  refine Zb ?_
  refine Zd hS rfl (fun hc2=>?_) (fun hc2=>?_)
  ·skip
   have hg:false=decide (x=y):=by
     rw [eq_comm,decide_eq_false_iff_not]
     intro h
     subst h
     simp at hc2
   refine wp_seq ?_
   refine Za hS qB hB [13,12,4,1,0] [0] rfl rfl fun a w F hS=>Zb (wp_ret (Zl (Zg (Zg (Zl (Zg ?_))))))
   refine Zq hfr hS rfl rfl rfl (.bool hg)
  rw [Int.toNat_natCast] at hc2
  have hqi:Go.Gm.nth x i=Go.Gm.nth y i:=by simpa using hc2
  refine wp_skip (Zi (Zb ?_))
  refine Za hS (qp r1 (qM rfl rfl qZ)) hB [13,12,1,0] [0] rfl rfl fun a w F hS=>Zb ?_
  replace hS:=hS.ent (i:=13) (s':=.pv (.int .i64 ((i+1:Nat):Int))) rfl (.int (Ze (by omega)))
  obtain ⟨F,hS⟩:=hS.nm [13,12,1,0] [0] rfl rfl
  exact ⟨i+1,F,⟨by omega,fun j hj=>by rcases Nat.lt_or_eq_of_le (Nat.le_of_lt_succ hj) with h | h;exact hq j h;rw [h];exact hqi⟩,hS,by omega⟩
 have hg:true=decide (x=y):=by
   rw [eq_comm,decide_eq_true_eq]
   exact ZaP hl fun j hj=>hq j (by simp at hc1;omega)
 refine wp_exit (Zj (Zj (Zp (Zb (wp_seq ?_)))))
 refine Za hS qB hB [4] [0] rfl rfl fun a w F hS=>Zb (wp_ret ?_)
 refine Zq hfr hS rfl rfl rfl (.bool hg)
theorem ZpZ (x y:List Int):FnP Tryz.prog 78 [.sl rInt x,.sl rInt y] (.bool (decide (x=y))):=by
 refine FnP.mk Tryz.func78 rfl Tryz.ntmps78 rfl ?_
 intro B a w F hB hfr hS
 refine wp_seq ?_
 refine Za hS qB hB [4,1,0] [0] rfl rfl fun a w F hS=>Zb (wp_seq ?_)
 refine Za hS (qM rfl rfl (qM rfl rfl (qf (oP (Zmi x y) Tryz.func104 (Args.two .t .t)) r2 qz (qN rfl rfl qZ)))) hB [4] [0] rfl rfl fun a w F hS=>Zb (wp_ret ?_)
 refine Zq hfr hS rfl rfl rfl .refl
theorem ZmY (x y:List Int) (hx:x.length≤1000000) (hy:y.length≤1000000):FnP Tryz.prog 46 [.sl rInt x,.sl rInt y] (.bool (decide (x.Perm y))):=by
 refine FnP.mk Tryz.func46 rfl Tryz.ntmps46 rfl ?_
 intro B a w F hB hfr hS
 refine wp_seq ?_
 refine Za hS qB hB [4,1,0] [0] rfl rfl fun a w F hS=>Zb (wp_seq ?_)
 replace hS:=hS.fresh 101 rfl
 replace hS:=hS.fresh 102 rfl
 refine Zc hS (qM rfl rfl (qf (ZaM 101 (Zc3 x hx) Tryz.func82 rfl (by kernel_rfl) (Args.one .t) ZaC) r1 r1 (qM rfl rfl (qf (ZaM 102 (Zc3 y hy) Tryz.func82 rfl (by kernel_rfl) (Args.one .t) ZaC) r1 r1 (qN rfl rfl (qN rfl rfl qZ)))))) hB [6,5,4] [102,101,0] (fun _=>rfl) (fun _=>rfl) fun τ a w F hS=>?_
 try dsimp only [RS.sub,SF.sub,CF.sub,csub,Anc.sub,List.map,rInt] at hS
 generalize τ 8=v8 at hS
 generalize τ 10=v10 at hS
 refine Zb (wp_seq ?_)
 refine Za hS (qM rfl rfl (qf (ZcF 101 (ZjY _ x hx) Tryz.func103 rfl (by kernel_rfl) (Args.one .t)) r1 r1 qZ)) hB [6,5,4] [102,101,0] rfl rfl fun a w F hS=>Zb (wp_seq ?_)
 refine Za hS (qM rfl rfl (qf (ZcF 102 (ZjY _ y hy) Tryz.func103 rfl (by kernel_rfl) (Args.one .t)) r1 r1 qZ)) hB [6,5,4] [102,101,0] rfl rfl fun a w F hS=>Zb (wp_seq ?_)
 refine Za hS (qM rfl rfl (qM rfl rfl (qf (OpC.lendRow 102 [16] (OpC.lendRow 101 [15] (oP (Zmi _ _) Tryz.func104 (Args.two .t .t)) ⟨rfl,trivial,trivial⟩ (.pv (fun _ _ _ _ h=>h)) trivial (by rfl)) ⟨trivial,rfl,trivial⟩ (.pv (fun _ _ _ _ h=>h)) trivial (by rfl)) r2 r2 (qN rfl rfl qZ)))) hB [4] [102,101,0] rfl rfl fun a w F hS=>Zb (wp_ret ?_)
 refine Zq hfr hS rfl rfl rfl (.bool (by rw [decide_eq_decide];exact ZmL))
end Go.Proofs.YtjhapicamnijnaaGreat
