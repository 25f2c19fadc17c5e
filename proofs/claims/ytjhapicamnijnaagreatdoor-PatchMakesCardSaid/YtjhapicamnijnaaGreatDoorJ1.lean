/- Texts put together. No condition beyond those that each theorem says. -/
import Derived.Test.YtjhapicamnijnaaGreatDoorJ0
import Derived.Test.YtjhapicamnijnaaGreatDoorLibX
namespace Go.Proofs.YtjhapicamnijnaaGreatDoor
open Go Go.Gm
set_option linter.unusedVariables false
set_option linter.unusedSimpArgs false
set_option maxHeartbeats 4000000
set_option maxRecDepth 8000
structure Zto where
 src:Int
 dst:Int
 kind:Int
 key:Int
 deriving DecidableEq,Inhabited
structure Zb1 where
 tx:Int
 key:Int
 nth:Int
 deriving DecidableEq,Inhabited
def ZO (v:Zb1):List PV:=[.int .i64 v.tx,.int .i64 v.key,.int .i64 v.nth]
def noV:Zb1:=⟨0,0,0⟩
def idB (n:Int):Bool:=decide (1≤n) && decide (n≤1048575)
def ZbO (v:Zb1):Bool:=if v.tx=0 then idB v.key && decide (v.nth=0) else ((idB v.tx && idB v.key) && decide (1≤v.nth)) && decide (v.nth≤4095)
def ZsJ (v:Zb1):Int:=(v.tx*1048576+v.key)*4096+v.nth
def Zqt (v:Zb1):Int×Int:=if ZbO v then (ZsJ v,0) else (0,1)
theorem Zj6 {n:Int} : idB n=true ↔ 1≤n∧n≤1048575:=by unfold idB;rw [Bool.and_eq_true,decide_eq_true_eq,decide_eq_true_eq]
theorem Zme (k:Int):decide (k<1) = !decide (1≤k):=by rw [← decide_not];exact decide_eq_decide.2 (by omega)
theorem ZmW (m k:Int):decide (m<k) = !decide (k≤m):=by rw [← decide_not];exact decide_eq_decide.2 (by omega)
theorem or64 (x y:Nat) (hx:x<18446744073709551616) (hy:y<18446744073709551616):bits .or .u64 (x:Int) (y:Int)=((x ||| y:Nat):Int):=by
 have h1:(BitVec.ofInt 64 (x:Int)).toNat=x:=by rw [BitVec.toNat_ofInt];omega
 have h2:(BitVec.ofInt 64 (y:Int)).toNat=y:=by rw [BitVec.toNat_ofInt];omega
 show IntKind.wrap .u64 (((BitVec.ofInt 64 (x:Int) ||| BitVec.ofInt 64 (y:Int)).toNat:Nat):Int)=_
 rw [BitVec.toNat_or,h1,h2]
 exact Zde (by have:=Nat.or_lt_two_pow (n:=64) hx hy;omega)
theorem ZsU {q:Nat} (h:q<18446744073709551616):IntKind.wrap .u64 (q:Int)=q:=Zde (by omega)
theorem Zqo {K:Int} (k:Nat) (hk:min K.toNat (IntKind.bits .u64)=k) (x y:Int) (hx:0≤x) (hy:0≤y) (hyk:y<2 ^ k) (hb:x*2 ^ k+y<18446744073709551616):bits .or .u64 (IntKind.wrap .u64 (x*2 ^ min K.toNat (IntKind.bits .u64))) y=x*2 ^ k+y:=by
 obtain ⟨X,rfl⟩:=Int.eq_ofNat_of_zero_le hx
 obtain ⟨Y,rfl⟩:=Int.eq_ofNat_of_zero_le hy
 rw [hk]
 have e2:(X:Int)*2 ^ k=((X*2 ^ k:Nat):Int):=by rw [Int.natCast_mul,Int.natCast_pow];rfl
 have hY:Y<2 ^ k:=by exact_mod_cast hyk
 have hor:X*2 ^ k ||| Y=X*2 ^ k+Y:=by rw [Nat.mul_comm];exact (Nat.two_pow_add_eq_or_of_lt hY X).symm
 rw [e2] at hb ⊢
 generalize X*2 ^ k=Q at hb hor ⊢
 rw [ZsU (by omega),or64 _ _ (by omega) (by omega),hor]
 omega
theorem ZkF {v:Zb1} (h:ZbO v=true):bits .or .u64 (IntKind.wrap .u64 (bits .or .u64 (IntKind.wrap .u64 (IntKind.wrap .u64 v.tx*2 ^ min (20:Int).toNat (IntKind.bits .u64))) (IntKind.wrap .u64 v.key)*2 ^ min (12:Int).toNat (IntKind.bits .u64))) (IntKind.wrap .u64 v.nth)=ZsJ v:=by
 have hb:(0≤v.tx∧v.tx≤1048575)∧(1≤v.key∧v.key≤1048575)∧(0≤v.nth∧v.nth≤4095):=by
   unfold ZbO at h
   split at h <;> simp only [Bool.and_eq_true,decide_eq_true_eq,Zj6] at h <;> omega
 obtain ⟨h1,h2,h3⟩:=hb
 rw [Zde (x:=v.tx) (by omega),Zde (x:=v.key) (by omega),Zde (x:=v.nth) (by omega)]
 rw [Zqo 20 rfl v.tx v.key (by omega) (by omega) (by omega) (by omega),Zqo 12 rfl (v.tx*2 ^ 20+v.key) v.nth (by omega) (by omega) (by omega) (by omega)]
 unfold ZsJ
 omega
theorem Ztl (n:Int):FnP Tryz.prog 137 [.int .i64 n] (.bool (idB n)):=by
 refine FnP.mk Tryz.func137 rfl Tryz.ntmps137 rfl ?_
 intro B a w F hB hfr hS
 refine wp_seq ?_
 refine Za hS qB hB [2,0] [0] rfl rfl fun a w F hS=>Zb (wp_seq ?_)
 refine Za hS (qM rfl rfl (qf (Zen .t qi) r1 qz (qM rfl rfl (qm rfl rfl rfl rfl (qk rfl (fun h=>Zsw (.w h) qi) r2 qz (qf (ZK .t .t) r2 qz (qN rfl rfl qZ))))))) hB [2] [0] rfl rfl fun a w F hS=>Zb (wp_ret ?_)
 refine Zq hfr hS rfl rfl rfl .refl
theorem Zht (v:Zb1):((!(decide (v.tx=0) && decide (v.nth=0)) && ((!idB v.tx || decide (v.nth<1)) || decide (4095<v.nth))) || !idB v.key) = !ZbO v:=by
 unfold ZbO
 by_cases h:v.tx=0
 · rw [if_pos h,decide_eq_true h]
   have hi:idB v.tx=false:=by rw [h];rfl
   rw [hi]
   cases decide (v.nth=0) <;> cases idB v.key <;> simp
 · rw [if_neg h,decide_eq_false h,Zme,ZmW 4095]
   cases idB v.tx <;> cases idB v.key <;> cases decide (1≤v.nth) <;> cases decide (v.nth≤4095) <;> rfl
theorem Znx (v:Zb1):FnP Tryz.prog 104 [.agg (ZO v)] (.tup [.int .u64 (Zqt v).1,.int .i64 (Zqt v).2]):=by
 refine FnP.mk Tryz.func104 rfl Tryz.ntmps104 rfl ?_
 intro B a w F hB hfr hS
 refine wp_seq ?_
 refine Zc hS (qx 101 r1 (qI (qI qZ))) hB [3,2,1] [101,0] (fun _=>rfl) (fun _=>rfl) fun τ a w F hS=>?_
 try dsimp only [RS.sub,SF.sub,CF.sub,csub,Anc.sub,List.map,zCF] at hS
 generalize τ 1=v1 at hS
 refine Zb (wp_seq ?_)
 refine Za hS (qg 0 101 r1 r1 (qa 101 r1 r1 (qf (o_eql .t qi) r1 qz (qM rfl rfl (qv 2 101 rfl r2 r1 (qw 101 rfl r2 r1 (qk rfl (fun h=>o_eql (.w h) qi) r2 qz (qf (ZK .t .t) r2 qz (qN rfl rfl qZ))))))))) hB [4,3,2,1] [101,0] rfl rfl fun a w F hS=>Zb (wp_seq (wp_seq ?_))
 refine Za hS (qM rfl rfl (qf (o_not .t) r1 qz (qM rfl rfl (qv 0 101 rfl r2 r1 (qw 101 rfl r2 r1 (qk rfl (fun h=>oP (Ztl _) Tryz.func137 (Args.one (.w h))) r2 qz (qk rfl (fun h=>o_not (.w h)) r2 qz (qk rfl (fun h=>oM (.w h)) r2 qz (ZI.cons (ZdD.cond2 rfl rfl (fun h=>Zbd (off:=2) 101 .is (by kernel_rfl) (by rfl))) r2 r1 (ZI.cons (ZdD.cond2 rfl rfl (fun h=>ZeX (ag:=false) (sz:=1) 101 (.w h .adr) (by kernel_rfl) (by kernel_rfl) (by kernel_rfl) (by rfl))) r2 r1 (ZI.cons (ZdD.cond2 rfl rfl (fun h=>Zbq (.w h) qi)) r2 qz (qk rfl (fun h=>Zao (.w h) (.wc h)) r3 qz (qk rfl (fun h=>oM (.w h)) r2 qz (ZI.cons (ZdD.cond2 rfl rfl (fun h=>Zbd (off:=2) 101 .is (by kernel_rfl) (by rfl))) r2 r1 (ZI.cons (ZdD.cond2 rfl rfl (fun h=>ZeX (ag:=false) (sz:=1) 101 (.w h .adr) (by kernel_rfl) (by kernel_rfl) (by kernel_rfl) (by rfl))) r2 r1 (ZI.cons (ZdD.cond2 rfl rfl (fun h=>ZaR (.w h) qi)) r2 qz (qk rfl (fun h=>Zao (.w h) (.wc h)) r3 qz (qf (ZK .t .t) r2 qz (qM rfl rfl (qv 1 101 rfl r2 r1 (qw 101 rfl r2 r1 (qk rfl (fun h=>oP (Ztl _) Tryz.func137 (Args.one (.w h))) r2 qz (qk rfl (fun h=>o_not (.w h)) r2 qz (qf (Zao .t .t) r2 qz qZ)))))))))))))))))))))))) hB [36,3,2,1] [101,0] rfl rfl fun a w F hS=>?_
 try dsimp only [List.map,xD,xE,xT,xU,ldSF] at hS
 refine Zb ?_
 refine Zd hS rfl (fun hc0=>?_) (fun hc0=>?_)
 ·skip
  rw [Zht] at hc0
  have hr:ZbO v=false:=by simpa using hc0
  have hg:Zqt v=(0,1):=by unfold Zqt;rw [hr];rfl
  refine wp_seq ?_
  refine Za hS (qI (qI qZ)) hB [3,2,1] [101,0] rfl rfl fun a w F hS=>Zb (wp_ret (Ze ?_))
  refine Zt hfr hS rfl (.tmp rfl (.tmp rfl .nil)) (.two (.int (by rw [hg];try exact ZkF hr)) (.int (by rw [hg])))
 rw [Zht] at hc0
 have hr:ZbO v=true:=by simpa using hc0
 have hg:Zqt v=(ZsJ v,0):=if_pos hr
 refine wp_skip (Zb (wp_seq ?_))
 refine Za hS (qg 0 101 r1 r1 (qa 101 r1 r1 (qf (Zcy Tryz.underlying152 (by kernel_rfl) .t) r1 qz (qf (Zso .t qi (by decide)) r1 qz (qg 1 101 r1 r1 (qa 101 r1 r1 (qf (Zcy Tryz.underlying152 (by kernel_rfl) .t) r1 qz (qf (Ztg .t .t) r2 qz (qf (Zso .t qi (by decide)) r1 qz (qg 2 101 r1 r1 (qa 101 r1 r1 (qf (Zcy Tryz.underlying152 (by kernel_rfl) .t) r1 qz (qf (Ztg .t .t) r2 qz (qN rfl rfl (qI qZ))))))))))))))) hB [3,2] [0] rfl rfl fun a w F hS=>Zb (wp_ret ?_)
 refine Zt hfr hS rfl (.tmp rfl (.tmp rfl .nil)) (.two (.int (by rw [hg];try exact ZkF hr)) (.int (by rw [hg])))
def ZJ (c:UInt8):List UInt8→List (List UInt8)
 | []=>[[]]
 | b :: r=>if b=c then [] :: ZJ c r else match ZJ c r with
   | []=>[[b]]
   | h :: t=>(b :: h) :: t
theorem ZcK (c b:UInt8) (r:List UInt8):ZJ c (b :: r)=if b=c then [] :: ZJ c r else match ZJ c r with
 | []=>[[b]]
 | h :: t=>(b :: h) :: t:=by rw [ZJ]
def Zsl (p:List UInt8):List (List UInt8)→List (List UInt8)
 | []=>[p]
 | h :: t=>(p++h) :: t
def Zab:List (List UInt8)→List UInt8
 | []=>[]
 | [x]=>x
 | x :: y :: r=>x++32 :: Zab (y :: r)
theorem Zd1 (c:UInt8):∀ s,ZJ c s≠[]
 | []=>by simp [ZJ]
 | b :: r=>by
   rw [ZcK]
   split
   · simp
   · split <;> simp
theorem Zei (c:UInt8):∀ s,(ZJ c s).length=s.count c+1
 | []=>rfl
 | b :: r=>by
   have ih:=Zei c r
   rw [ZcK]
   by_cases h:b=c
   · rw [if_pos h,List.length_cons,ih,h,List.count_cons_self]
   · rw [if_neg h,List.count_cons_of_ne h]
     match hs:ZJ c r with
     | []=>exact absurd hs (Zd1 c r)
     | x :: t=>rw [hs] at ih;simpa using ih
theorem Zc5 (c:UInt8):∀ (p s:List UInt8),c ∉ p→ZJ c (p++s)=Zsl p (ZJ c s)
 | [],s,_=>by
   rw [List.nil_append]
   match hs:ZJ c s with
   | []=>exact absurd hs (Zd1 c s)
   | x :: t=>rfl
 | b :: p,s,h=>by
   simp only [List.mem_cons,not_or] at h
   rw [List.cons_append,ZcK,if_neg (fun e=>h.1 e.symm),Zc5 c p s h.2]
   match hs:ZJ c s with
   | []=>exact absurd hs (Zd1 c s)
   | x :: t=>rfl
theorem ZiU (c:UInt8) (s:List UInt8):ZJ c (c :: s) = [] :: ZJ c s:=by rw [ZcK,if_pos rfl]
theorem ZdC (c:UInt8):∀ s:List UInt8,(Lib.indexByte s c<0→c ∉ s)∧(0≤Lib.indexByte s c→s=s.take (Lib.indexByte s c).toNat++c :: s.drop ((Lib.indexByte s c).toNat+1)∧c ∉ s.take (Lib.indexByte s c).toNat∧(Lib.indexByte s c).toNat<s.length)
 | []=>by simp [Lib.indexByte]
 | b :: l=>by
   obtain ⟨ih1,ih2⟩:=ZdC c l
   have hb:=ZaU c l
   unfold Lib.indexByte
   by_cases h:b=c
   · subst h
     simp
   · rw [if_neg (by simpa using h)]
     by_cases h1:Lib.indexByte l c = -1
     · rw [if_pos (by simpa using h1)]
       refine ⟨fun _=>?_,fun h2=>absurd h2 (by decide)⟩
       simp only [List.mem_cons,not_or]
       exact ⟨fun e=>h e.symm,ih1 (by omega)⟩
     · rw [if_neg (by simpa using h1)]
       refine ⟨fun h2=>by omega,fun _=>?_⟩
       obtain ⟨g1,g2,g3⟩:=ih2 (by omega)
       rw [show (Lib.indexByte l c+1).toNat=(Lib.indexByte l c).toNat+1 by omega]
       refine ⟨?_,?_,by simpa using g3⟩
       · rw [List.take_succ_cons,List.drop_succ_cons,List.cons_append,← g1]
       · rw [List.take_succ_cons]
         simp only [List.mem_cons,not_or]
         exact ⟨fun e=>h e.symm,g2⟩
theorem Zg4 {c:UInt8} {s:List UInt8} (h:Lib.indexByte s c<0):ZJ c s = [s]:=by
 have:=Zc5 c s [] ((ZdC c s).1 h)
 rw [List.append_nil] at this
 rw [this]
 simp [ZJ,Zsl]
theorem split_cut {c:UInt8} {s:List UInt8} (h:0≤Lib.indexByte s c):ZJ c s=s.take (Lib.indexByte s c).toNat :: ZJ c (s.drop ((Lib.indexByte s c).toNat+1)):=by
 obtain ⟨g1,g2,g3⟩:=(ZdC c s).2 h
 conv=>lhs;rw [g1]
 rw [Zc5 c _ _ g2,ZiU]
 simp [Zsl]
theorem Zhj:∀ l:List (List UInt8),l≠[]→(∀ x ∈ l,(32:UInt8) ∉ x)→ZJ 32 (Zab l)=l
 | [],h,_=>absurd rfl h
 | [x],_,h=>by
   have:=Zc5 32 x [] (h x (by simp))
   rw [List.append_nil] at this
   rw [Zab,this]
   simp [ZJ,Zsl]
 | x :: y :: r,_,h=>by
   rw [Zab,Zc5 32 x _ (h x (by simp)),ZiU,Zhj (y :: r) (by simp) (fun z hz=>h z (by simp only [List.mem_cons] at hz ⊢;exact .inr hz))]
   simp [Zsl]
def okB (c:UInt8):Bool:=decide (32≤c.toNat) && decide (c.toNat≤126)
def wordsR (s:List UInt8):List (List UInt8)×Int:=if s = [] then ([],0) else if s.all okB=false then ([],14) else if (ZJ 32 s).all (fun w=>decide (w≠[]))=false then ([],14) else (ZJ 32 s,0)
theorem ZjK (c:UInt8):toB ((c.toNat:Nat):Int)=c:=by
 unfold toB
 rw [Int.toNat_natCast]
 simp
theorem Zmk (c:UInt8):Lib.indexByte [c] c=0:=by simp [Lib.indexByte]
theorem Zp0 (s:List UInt8) (x:Int):FnP Tryz.prog 181 [.bs s,.int .u8 x] (.int .i64 (Lib.indexByte s (toB x))):=by
 refine FnP.mk Tryz.func181 rfl Tryz.ntmps181 rfl ?_
 intro B a w F hB hfr hS
 refine wp_seq ?_
 refine Za hS (qI qZ) hB [4,1,0] [0] rfl rfl fun a w F hS=>Zb (wp_seq ?_)
 refine Za hS (qM rfl rfl (qM rfl rfl (qf (ZjX Tryz.func188 (by kernel_rfl) (by kernel_rfl) (by kernel_rfl) rfl .t .t) r2 qz (qN rfl rfl qZ)))) hB [4] [0] rfl rfl fun a w F hS=>Zb (wp_ret ?_)
 refine Zq hfr hS rfl rfl rfl .refl
theorem ZkV (s:List UInt8) (c:UInt8):FnP Tryz.prog 172 [.bs s,.bs [c]] (.int .i64 (Lib.indexByte s c)):=by
 refine FnP.mk Tryz.func172 rfl Tryz.ntmps172 rfl ?_
 intro B a w F hB hfr hS
 refine wp_seq ?_
 refine Za hS (qI qZ) hB [4,1,0] [0] rfl rfl fun a w F hS=>Zb (wp_seq ?_)
 refine Za hS (qM rfl rfl (qf (Z0 Tryz.underlying9 .t) r1 qz (qN rfl rfl qZ))) hB [5,4,1,0] [0] rfl rfl fun a w F hS=>Zb (wp_seq (wp_block (wp_seq ?_)))
 refine Za hS (qM rfl rfl (qf (o_eql .t qi) r1 qz (qM rfl rfl (qm rfl rfl rfl rfl (qm rfl rfl rfl rfl (qk rfl (fun h=>o_eql_bs Tryz.underlying9 (.w h) (.w h)) r3 qz (qf (Zao .t .t) r2 qz (qN rfl rfl qZ)))))))) hB [16,5,4,1,0] [0] rfl rfl fun a w F hS=>Zb ?_
 refine Zd hS rfl (fun hc0=>?_) (fun hc0=>?_)
 ·skip
  have hs:s = [c]:=by
    simp at hc0
    exact hc0.symm
  have hg:(0:Int)=Lib.indexByte s c:=by rw [hs];exact (Zmk c).symm
  refine wp_seq ?_
  refine Za hS (qI qZ) hB [5,4,1,0] [0] rfl rfl fun a w F hS=>Zb (wp_ret (Zg (Ze ?_)))
  refine Zq hfr hS rfl rfl rfl (.int (by first | exact hg | (rw [show Go.Gm.nth [c] (Int.toNat 0)=c from rfl,ZjK])))
 refine wp_seq ?_
 refine Za hS (qM rfl rfl (qf (o_eql .t qi) r1 qz (qN rfl rfl qZ))) hB [24,5,4,1,0] [0] rfl rfl fun a w F hS=>Zb ?_
 refine Zd hS rfl (fun hc1=>?_) (fun hc1=>?_)
 ·skip
  refine wp_seq ?_
  refine Za hS (qM rfl rfl (qM rfl rfl (qf (Z4 Tryz.underlying9 .t qi (by decide) (by simp)) r1 qz (qf (oP (Zp0 s _) Tryz.func181 (Args.two .t .t)) r2 qz (qN rfl rfl qZ))))) hB [5,4,1,0] [0] rfl rfl fun a w F hS=>Zb (wp_ret (Zg (Ze ?_)))
  refine Zq hfr hS rfl rfl rfl (.int (by first | exact hg | (rw [show Go.Gm.nth [c] (Int.toNat 0)=c from rfl,ZjK])))
 simp at hc1
theorem Zra (s:List UInt8) (c:UInt8):FnP Tryz.prog 153 [.bs s,.bs [c]] (.int .i64 (Lib.indexByte s c)):=by
 refine FnP.mk Tryz.func153 rfl Tryz.ntmps153 rfl ?_
 intro B a w F hB hfr hS
 refine wp_seq ?_
 refine Za hS (qI qZ) hB [4,1,0] [0] rfl rfl fun a w F hS=>Zb (wp_seq ?_)
 refine Za hS (qM rfl rfl (qM rfl rfl (qf (oP (ZkV s c) Tryz.func172 (Args.two .t .t)) r2 qz (qN rfl rfl qZ)))) hB [4] [0] rfl rfl fun a w F hS=>Zb (wp_ret ?_)
 refine Zq hfr hS rfl rfl rfl .refl
theorem Zo1 (s:List UInt8) (c:UInt8):FnP Tryz.prog 152 [.bs s,.bs [c]] (.int .i64 ((s.count c:Nat):Int)):=by
 refine FnP.mk Tryz.func152 rfl Tryz.ntmps152 rfl ?_
 intro B a w F hB hfr hS
 refine wp_seq ?_
 refine Za hS (qI qZ) hB [4,1,0] [0] rfl rfl fun a w F hS=>Zb (wp_seq (wp_seq ?_))
 refine Za hS (qM rfl rfl (qf (Z0 Tryz.underlying9 .t) r1 qz (qf (o_eql .t qi) r1 qz qZ))) hB [9,4,1,0] [0] rfl rfl fun a w F hS=>Zb ?_
 refine Zd hS rfl (fun hc0=>?_) (fun hc0=>?_)
 ·skip
  simp at hc0
 refine wp_skip (Zb (wp_seq (wp_seq ?_)))
 refine Za hS (qM rfl rfl (qf (Z0 Tryz.underlying9 .t) r1 qz (qf (o_eql .t qi) r1 qz qZ))) hB [15,4,1,0] [0] rfl rfl fun a w F hS=>Zb ?_
 refine Zd hS rfl (fun hc1=>?_) (fun hc1=>?_)
 ·skip
  refine wp_seq ?_
  refine Za hS (qM rfl rfl (qM rfl rfl (qf (Z4 Tryz.underlying9 .t qi (by decide) (by simp)) r1 qz (qf (ZjH Tryz.func171 (by kernel_rfl) (by kernel_rfl) (by kernel_rfl) rfl .t .t) r2 qz (qN rfl rfl qZ))))) hB [4,1,0] [0] rfl rfl fun a w F hS=>Zb (wp_ret (Ze ?_))
  refine Zq hfr hS rfl rfl rfl (.int (by rw [show Go.Gm.nth [c] (Int.toNat 0)=c from rfl,ZjK]))
 simp at hc1
theorem ZoK (w:World) (yy:Ys):PVs (rS []) [.string ⟨#[]⟩] w yy:=⟨⟨rfl,rfl,by unfold maxLen;simp [ByteArray.size]⟩,trivial⟩
theorem Zm5 {c:UInt8} {s:List UInt8} (h:(ZJ c s).length=1):ZJ c s = [s]:=by
 by_cases h1:Lib.indexByte s c<0
 · exact Zg4 h1
 · rw [split_cut (by omega)] at h
   have:=Zd1 c (s.drop ((Lib.indexByte s c).toNat+1))
   have h2:(ZJ c (s.drop ((Lib.indexByte s c).toNat+1))).length≠0:=fun e=>this (List.length_eq_zero_iff.1 e)
   rw [List.length_cons] at h
   omega
theorem take_set {α:Type} {q:List α} {i:Nat} {v:α} (h:i<q.length):(q.set i v).take (i+1)=q.take i ++ [v]:=by
 rw [List.take_succ_eq_append_getElem (by simpa using h),List.getElem_set_self,List.take_set_of_le (Nat.le_refl _)]
theorem Zmx (s0:List UInt8) (c:UInt8) (hs:s0.length≤1000000):FnP Tryz.prog 117 [.bs s0,.bs [c],.int .i64 0,.int .i64 (-1)] (.sl rS (ZJ c s0)):=by
 refine FnP.mk Tryz.func117 rfl Tryz.ntmps117 rfl ?_
 intro B a w F hB hfr hS
 have hcnt:=List.count_le_length (a:=c) (l:=s0)
 refine wp_seq ?_
 refine Za hS (qC qZ) hB [8,3,2,1,0] [0] rfl rfl fun a w F hS=>Zb (wp_seq (wp_seq ?_))
 refine Za hS (qM rfl rfl (qf (o_eql .t qi) r1 qz qZ)) hB [13,8,3,2,1,0] [0] rfl rfl fun a w F hS=>Zb ?_
 refine Zd hS rfl (fun hc0=>?_) (fun hc0=>?_)
 ·skip
  simp at hc0
 refine wp_skip (Zb (wp_seq (wp_seq ?_)))
 refine Za hS (qM rfl rfl (qf (o_eql_bs Tryz.underlying9 .t (.cs (by kernel_rfl))) r1 qz qZ)) hB [15,8,3,2,1,0] [0] rfl rfl fun a w F hS=>Zb ?_
 refine Zd hS rfl (fun hc1=>?_) (fun hc1=>?_)
 ·skip
  simp at hc1
 refine wp_skip (Zb (wp_seq (wp_seq ?_)))
 refine Za hS (qM rfl rfl (qf (Zbq .t qi) r1 qz qZ)) hB [20,8,3,2,1,0] [0] rfl rfl fun a w F hS=>Zb ?_
 refine Zd hS rfl (fun hc2=>?_) (fun hc2=>?_)
 ·skip
  refine Za hS (qM rfl rfl (qM rfl rfl (qf (oP (Zo1 s0 c) Tryz.func152 (Args.two .t .t)) r2 qz (qp r1 (qN rfl rfl qZ))))) hB [8,3,2,1,0] [0] rfl rfl fun a w F hS=>Zb (wp_seq ?_)
  refine Za hS (qM rfl rfl (qM rfl rfl (qf (Z0 Tryz.underlying9 .t) r1 qz (qp r1 (qf (Zr2 .t .t) r2 qz (qN rfl rfl qZ)))))) hB [8,3,2,1,0] [0] rfl rfl fun a w F hS=>?_
  have hmin:(if IntKind.wrap .i64 ((s0.length:Int)+1)<IntKind.wrap .i64 (((s0.count c:Nat):Int)+1) then IntKind.wrap .i64 ((s0.length:Int)+1) else IntKind.wrap .i64 (((s0.count c:Nat):Int)+1))=((s0.count c+1:Nat):Int):=by
    rw [wrap_succ (by omega),wrap_succ (by omega)]
    split <;> omega
  rw [hmin] at hS
  refine Zb (wp_seq ?_)
  refine Zc hS (qM rfl rfl (qf (ZjV (R:=rS) (v:=[]) (c:=((s0.count c+1:Nat):Int)) (sz:=1) (bs:=16) (zs:=[.string ⟨#[]⟩]) 101 Tryz.underlying34 (by kernel_rfl) (by kernel_rfl) (by kernel_rfl) ZoK .t .t (Int.natCast_nonneg _) (by omega) (by omega)) r2 qz (qN rfl rfl qZ))) hB [9,8,3,2,1,0] [101,0] (fun _=>rfl) (fun _=>rfl) fun τ a w F hS=>?_
  try dsimp only [RS.sub,SF.sub,CF.sub,csub,Anc.sub,List.map,Zf,xL,xM,Nat.reduceAdd,xD,xE,xT,xU,xC,xN,zCF] at hS
  generalize τ 31=v31 at hS
  rw [Int.toNat_natCast] at hS
  refine Zb (wp_seq ?_)
  refine Za hS (qM rfl rfl (qf (o_sub .t qi) r1 qz (qN rfl rfl qZ))) hB [9,8,3,2,1,0] [101,0] rfl rfl fun a w F hS=>?_
  rw [show IntKind.wrap .i64 (((s0.count c+1:Nat):Int) - 1)=((s0.count c:Nat):Int) by rw [ZC (by omega)];omega] at hS
  refine Zb (wp_seq ?_)
  refine Za hS (qI qZ) hB [10,9,8,3,2,1,0] [101,0] rfl rfl fun a w F hS=>Zb (wp_seq (wp_block ?_))
  obtain ⟨F,hS⟩:=hS.nm [10,9,3,2,1,0] [101,0] rfl rfl
  refine ZG (σ:=(Nat×List UInt8×List (List UInt8))) (fun s=>(⟨[(0,.pv (.bs s.2.1)),(1,.pv (.bs [c])),(2,.pv (.int .i64 0)),(3,.pv (.int .i64 ((s0.count c:Nat):Int))),(9,.pv (.is v31)),(10,.pv (.int .i64 s.1))],[(0,frame B),(101,.ob (.val v31) (Zu 9 1 rS s.2.2))]⟩:En)) (fun s=>ZJ c s0=s.2.2.take s.1++ZJ c s.2.1∧s.1≤s0.count c∧s.2.2.length=s0.count c+1∧s.2.1.length≤1000000) (fun s=>s0.count c - s.1) (0,s0,List.replicate (s0.count c+1) []) hS ⟨by simp,Nat.zero_le _,by simp,hs⟩ ?_
  clear hS;intro s a w F hC hS
  obtain ⟨i,rest,q⟩:=s
  try dsimp only at hC
  try dsimp only at hS
  obtain ⟨hq,hi,hl,hr⟩:=hC
  try dsimp only at hq hi hl hr
  have hlen:=congrArg List.length hq
  rw [List.length_append,List.length_take,Zei] at hlen
  refine wp_seq (wp_seq ?_)
  refine Za hS (qM rfl rfl (qM rfl rfl (qL r2))) hB [36,10,9,3,2,1,0] [101,0] rfl rfl fun a w F hS=>Zb ?_
  refine Zd hS rfl (fun hc3=>?_) (fun hc3=>?_)
  ·skip
   have hic:i<s0.count c:=by simp at hc3;omega
   refine wp_skip (Zb (wp_block (wp_seq ?_)))
   refine Za hS (qM rfl rfl (qM rfl rfl (qf (oP (Zra rest c) Tryz.func153 (Args.two .t .t)) r2 qz (qN rfl rfl qZ)))) hB [11,10,9,3,2,1,0] [101,0] rfl rfl fun a w F hS=>Zb (wp_seq (wp_seq ?_))
   refine Za hS (qM rfl rfl (qf (Zbq .t qi) r1 qz qZ)) hB [41,11,10,9,3,2,1,0] [101,0] rfl rfl fun a w F hS=>Zb ?_
   refine Zd hS rfl (fun hc4=>?_) (fun hc4=>?_)
   ·skip
    have h1:=Zg4 (of_decide_eq_true hc4)
    rw [h1] at hlen
    simp at hlen
    omega
   have hm0:0≤Lib.indexByte rest c:=by simp at hc4;omega
   have hmb:=ZaU c rest
   have hm1:IntKind.wrap .i64 (Lib.indexByte rest c+0)=Lib.indexByte rest c:=by rw [Int.add_zero];exact ZC (by omega)
   have hm2:IntKind.wrap .i64 (Lib.indexByte rest c+((1:Nat):Int))=Lib.indexByte rest c+1:=ZC (by omega)
   have hm3:IntKind.wrap .i64 (Lib.indexByte rest c+(([c]:List UInt8).length:Int))=Lib.indexByte rest c+1:=by rw [List.length_singleton];exact ZC (by omega)
   refine wp_skip (Zb (wp_seq ?_))
   refine Za hS (qM rfl rfl (qM rfl rfl (qM rfl rfl (qM rfl rfl (qM rfl rfl (qf (Zbv .t .t) r2 qz (qf (Zcl Tryz.underlying9 .t .t (by rw [hm1];exact hm0) (by rw [hm1];omega)) r2 qz (qf (o_indexAddr_row (sz:=1) 101 (.mk Tryz.underlying34 (by kernel_rfl)) .is .t (by omega) (by omega) (by rfl)) r2 r1 (qf (ZaV (R:=rS) (sz:=1) (v:=_) 101 .t (by intro x;rfl) (by omega) .t rfl one_str (by kernel_rfl)) r2 r1 qZ))))))))) hB [11,10,9,3,2,1,0] [101,0] rfl rfl fun a w F hS=>?_
   rw [hm1,Int.toNat_natCast] at hS
   refine Zb (wp_seq ?_)
   refine Za hS (qM rfl rfl (qM rfl rfl (qM rfl rfl (qf (Z0 Tryz.underlying9 .t) r1 qz (qf (Zbv .t .t) r2 qz (qf (Zbz Tryz.underlying9 .t .t (by first | (rw [hm2];omega) | (rw [hm3];omega)) (by first | (rw [hm2];omega) | (rw [hm3];omega))) r2 qz (qN rfl rfl qZ))))))) hB [10,9,3,2,1,0] [101,0] rfl rfl fun a w F hS=>?_
   first | rw [hm2] at hS | rw [hm3] at hS
   rw [show (Lib.indexByte rest c+1).toNat=(Lib.indexByte rest c).toNat+1 by omega] at hS
   refine Zb ?_
   refine Za hS (qM rfl rfl (qp r1 (qN rfl rfl qZ))) hB [10,9,3,2,1,0] [101,0] rfl rfl fun a w F hS=>Zh (Zb ?_)
   replace hS:=hS.ent (i:=10) (s':=.pv (.int .i64 ((i+1:Nat):Int))) rfl (.int (wrap_succ (by omega)))
   obtain ⟨F,hS⟩:=hS.nm [10,9,3,2,1,0] [101,0] rfl rfl
   exact ⟨(i+1,rest.drop ((Lib.indexByte rest c).toNat+1),q.set i (rest.take (Lib.indexByte rest c).toNat)),F,⟨by dsimp only;rw [take_set (by omega),hq,split_cut hm0];simp,by dsimp only;omega,by dsimp only;rw [List.length_set];exact hl,by dsimp only;rw [List.length_drop];omega⟩,hS,by dsimp only;omega⟩
  have hic:i=s0.count c:=by simp at hc3;omega
  have hrest:ZJ c rest = [rest]:=Zm5 (by omega)
  refine wp_exit (Zi (Zi (Zo (Zb (wp_seq ?_)))))
  refine Za hS (qM rfl rfl (qM rfl rfl (qM rfl rfl (qf (o_indexAddr_row (sz:=1) 101 (.mk Tryz.underlying34 (by kernel_rfl)) .is .t (by omega) (by omega) (by rfl)) r2 r1 (qf (ZaV (R:=rS) (sz:=1) (v:=_) 101 .t (by intro x;rfl) (by omega) .t rfl one_str (by kernel_rfl)) r2 r1 qZ))))) hB [10,9] [101,0] rfl rfl fun a w F hS=>?_
  rw [Int.toNat_natCast] at hS
  refine Zb (wp_seq ?_)
  refine Zc hS (qM rfl rfl (qM rfl rfl (qp r1 (qf (ZbL (sz:=1) 101 (.mk Tryz.underlying34 (by kernel_rfl)) (by intro x;rfl) .is .t (by rw [wrap_succ (by omega)];omega) (by rw [wrap_succ (by omega),List.length_set];omega)) r2 r1 (qN rfl rfl qZ))))) hB [8] [101,0] (fun _=>rfl) (fun _=>rfl) fun τ a w F hS=>?_
  try dsimp only [RS.sub,SF.sub,CF.sub,csub,Anc.sub,List.map] at hS
  generalize τ 65=v65 at hS
  have hfin:(q.set i rest).take (IntKind.wrap .i64 ((i:Int)+1)).toNat=ZJ c s0:=by
    rw [wrap_succ (by omega),Int.toNat_natCast,take_set (by omega),hq,hrest]
  refine Zb (wp_ret ?_)
  obtain ⟨F,hS⟩:=hS.give 101 8 rfl rfl
  refine Zq hfr hS rfl rfl rfl (.sl hfin)
 simp at hc2
theorem Zru (s0:List UInt8) (c:UInt8) (hs:s0.length≤1000000):FnP Tryz.prog 74 [.bs s0,.bs [c]] (.sl rS (ZJ c s0)):=by
 refine FnP.mk Tryz.func74 rfl Tryz.ntmps74 rfl ?_
 intro B a w F hB hfr hS
 refine wp_seq ?_
 refine Za hS (qC qZ) hB [4,1,0] [0] rfl rfl fun a w F hS=>Zb (wp_seq ?_)
 refine Za hS (qM rfl rfl (qM rfl rfl (qf (oP (Zmx s0 c hs) Tryz.func117 (Args.four .t .t qi qi)) r2 qz (qN rfl rfl qZ)))) hB [4] [0] rfl rfl fun a w F hS=>Zb (wp_ret ?_)
 refine Zq hfr hS rfl rfl rfl .refl
theorem Zrm {l:List UInt8} {k:Nat} (h:k<l.length) (hr:¬ ((runeAt l k:Int)<32∨126<(runeAt l k:Int))):okB (nth l k)=true∧nextPos l k=k+1:=by
 by_cases ha:(nth l k).toNat<128
 · obtain ⟨e1,e2⟩:=Zg3 h ha
   refine ⟨?_,e2⟩
   unfold okB
   rw [e1] at hr
   simp
   omega
 · have:=ZoH h (by omega)
   omega
theorem Zqg {l:List UInt8} {k:Nat} (h:k<l.length) (hr:(runeAt l k:Int)<32∨126<(runeAt l k:Int)):okB (nth l k)=false:=by
 by_cases ha:(nth l k).toNat<128
 · obtain ⟨e1,e2⟩:=Zg3 h ha
   unfold okB
   rw [e1] at hr
   simp
   omega
 · unfold okB
   simp
   omega
theorem ne_of_lt {l:List UInt8} {k:Nat} (h:k<l.length):l≠[]:=by intro e;rw [e] at h;simp at h
theorem Zja {α:Type} [Inhabited α] {l:List α} {p:α→Bool} {k:Nat} (h:k<l.length) (hp:p (nth l k)=false):l.all p=false:=by
 rw [List.all_eq_false]
 exact ⟨_,ZB h,by rw [hp];simp⟩
theorem Zk1 {α:Type} [Inhabited α] {l:List α} {p:α→Bool} (h:∀ j,j<l.length→p (nth l j)=true):l.all p=true:=by
 rw [List.all_eq_true]
 intro x hx
 obtain ⟨j,hj,rfl⟩:=List.getElem_of_mem hx
 rw [← Zp hj]
 exact h j hj
theorem Zod {s:List UInt8} {k:Nat} (h:k<s.length) (hb:okB (nth s k)=false):wordsR s=([],14):=by unfold wordsR;rw [if_neg (ne_of_lt h),if_pos (Zja h hb)]
theorem ZjI {s:List UInt8} {i:Nat} (hs:s≠[]) (hall:s.all okB=true) (h:i<(ZJ 32 s).length) (he:nth (ZJ 32 s) i = []):wordsR s=([],14):=by unfold wordsR;rw [if_neg hs,if_neg (by rw [hall];simp),if_pos (Zja h (by rw [he];simp))]
theorem Zhq {s:List UInt8} (hs:s≠[]) (hall:s.all okB=true) (h:∀ j,j<(ZJ 32 s).length→nth (ZJ 32 s) j≠[]):wordsR s=(ZJ 32 s,0):=by unfold wordsR;rw [if_neg hs,if_neg (by rw [hall];simp),if_neg (by rw [Zk1 (p:=fun w=>decide (w≠[])) (fun j hj=>decide_eq_true (h j hj))];simp)]
theorem Zpk (s0:List UInt8) (hs:s0.length≤1000000):FnP Tryz.prog 36 [.bs s0] (.tup [.sl rS (wordsR s0).1,.int .i64 (wordsR s0).2]):=by
 refine FnP.mk Tryz.func36 rfl Tryz.ntmps36 rfl ?_
 intro B a w F hB hfr hS
 have hl:=Zei 32 s0
 have hcnt:=List.count_le_length (a:=32) (l:=s0)
 refine wp_seq ?_
 refine Za hS (qC (qI qZ)) hB [3,2,0] [0] rfl rfl fun a w F hS=>Zb (wp_seq (wp_seq ?_))
 refine Za hS (qM rfl rfl (qf (o_eql_bs Tryz.underlying9 .t (.cs (by kernel_rfl))) r1 qz qZ)) hB [10,3,2,0] [0] rfl rfl fun a w F hS=>Zb ?_
 refine Zd hS rfl (fun hc0=>?_) (fun hc0=>?_)
 ·skip
  have hr:wordsR s0=([],0):=by unfold wordsR;rw [if_pos (of_decide_eq_true hc0)]
  refine wp_seq ?_
  refine Za hS (qC (qI qZ)) hB [3,2,0] [0] rfl rfl fun a w F hS=>Zb (wp_ret (Ze ?_))
  refine Zt hfr hS rfl (.tmp rfl (.tmp rfl .nil)) (.two (Ent.trans (.nilSl (R:=rS)) (.sl (by rw [hr]))) (.int (by rw [hr])))
 have hs0:s0≠[]:=of_decide_eq_false hc0
 refine wp_skip (Zb (wp_seq (wp_seq ?_)))
 refine Zc hS (qM rfl rfl (qf (Zko 101 Tryz.underlying9 .t) r1 qz qZ)) hB [12,3,2,0] [101,0] (fun _=>rfl) (fun _=>rfl) fun τ a w F hS=>?_
 try dsimp only [RS.sub,SF.sub,CF.sub,csub,Anc.sub,List.map] at hS
 generalize τ 12=v12 at hS
 refine Zb (wp_block ?_)
 obtain ⟨F,hS⟩:=hS.nm [12,0] [101,0] rfl rfl
 refine ZG (σ:=Nat) (fun s=>(⟨[(0,.pv (.bs s0)),(12,.pv (.is v12))],[(0,frame B),(101,.ob (.val v12) (iterH s0 s))]⟩:En)) (fun s=>s≤s0.length ∧ ∀ j,j<s→okB (nth s0 j)=true) (fun s=>s0.length - s) 0 hS ⟨Nat.zero_le _,fun j hj=>absurd hj (Nat.not_lt_zero _)⟩ ?_
 clear hS;intro k a w F hC hS
 try dsimp only at hC
 try dsimp only at hS
 obtain ⟨hk0,hok⟩:=hC
 refine wp_seq ?_
 refine Za hS (qf (Zmr 101 .is) r1 r1 (qf (ZsB .t) r1 qz qZ)) hB [14,13,12,0] [101,0] rfl rfl fun a w F hS=>Zb (wp_seq ?_)
 refine Zd hS rfl (fun hc1=>?_) (fun hc1=>?_)
 ·skip
  have hk:k<s0.length:=of_decide_eq_true hc1
  refine wp_skip (Zb (wp_block (wp_seq ?_)))
  refine Za hS (qf (Zsi .t (by assumption)) r1 qz (qN rfl rfl qZ)) hB [12,5,0] [101,0] rfl rfl fun a w F hS=>Zb (wp_seq ?_)
  refine Za hS (qM rfl rfl (qf (Zbq .t qi) r1 qz (qM rfl rfl (qm rfl rfl rfl rfl (qk rfl (fun h=>ZaR (.w h) qi) r2 qz (qf (Zao .t .t) r2 qz qZ)))))) hB [21,12,0] [101,0] rfl rfl fun a w F hS=>Zb ?_
  refine Zd hS rfl (fun hc2=>?_) (fun hc2=>?_)
  ·skip
   have hr:wordsR s0=([],14):=Zod hk (Zqg hk (by simpa using hc2))
   refine wp_seq ?_
   refine Za hS (qC (qI qZ)) hB [12,3,2,0] [101,0] rfl rfl fun a w F hS=>Zb (wp_ret (Zg (Ze (Zg (Ze ?_)))))
   refine Zt hfr hS rfl (.tmp rfl (.tmp rfl .nil)) (.two (Ent.trans (.nilSl (R:=rS)) (.sl (by rw [hr]))) (.int (by rw [hr])))
  have hok1:=Zrm hk (by simpa using hc2)
  refine wp_skip (Zh (Zb ?_))
  rw [hok1.2] at hS
  obtain ⟨F,hS⟩:=hS.nm [12,0] [101,0] rfl rfl
  exact ⟨k+1,F,⟨by omega,fun j hj=>(Nat.lt_or_ge j k).elim (hok j) (fun h1=>(show k=j by omega) ▸ hok1.1)⟩,hS,by omega⟩
 have hall:s0.all okB=true:=Zk1 (fun j hj=>hok j (by simp at hc1;omega))
 refine wp_exit (Zi (Zi (Zo (Zb (wp_seq ?_)))))
 refine Za hS (qM rfl rfl (qf (oP (Zru s0 32 hs) Tryz.func74 (Args.two .t (.cs (by kernel_rfl)))) r1 qz (qN rfl rfl qZ))) hB [6] [101,0] rfl rfl fun a w F hS=>Zb (wp_seq (wp_seq ?_))
 refine Za hS (qM rfl rfl (qu Tryz.underlying34 r1 (qJ qZ))) hB [26,25,24,6] [101,0] rfl rfl fun a w F hS=>Zb (wp_block ?_)
 obtain ⟨F,hS⟩:=hS.nm [26,25,24,6] [0] rfl rfl
 refine ZG (σ:=Nat) (fun s=>(⟨[(6,.pv (.sl rS (ZJ 32 s0))),(24,.pv (.sl rS (ZJ 32 s0))),(25,.pv (.int .i64 ((ZJ 32 s0).length:Nat))),(26,.pv (.int .i64 (s:Nat)))],[(0,frame B)]⟩:En)) (fun s=>s≤(ZJ 32 s0).length ∧ ∀ j,j<s→nth (ZJ 32 s0) j≠[]) (fun s=>(ZJ 32 s0).length - s) 0 hS ⟨Nat.zero_le _,fun j hj=>absurd hj (Nat.not_lt_zero _)⟩ ?_
 clear hS;intro i a w F hC hS
 try dsimp only at hC
 try dsimp only at hS
 obtain ⟨hi0,hne⟩:=hC
 refine wp_seq ?_
 refine Za hS (qL r2) hB [27,26,25,24,6] [0] rfl rfl fun a w F hS=>Zb (wp_seq ?_)
 refine Zd hS rfl (fun hc3=>?_) (fun hc3=>?_)
 ·skip
  have hi:i<(ZJ 32 s0).length:=by simp at hc3;omega
  refine wp_skip (Zb (wp_seq (wp_block (wp_seq ?_))))
  refine Za hS (qy 1 Tryz.underlying34 r2 (qf (oR false 1 .t) r1 qz (qN rfl rfl qZ))) hB [26,25,24,8,6] [0] rfl rfl fun a w F hS=>?_
  rw [Int.toNat_natCast] at hS
  refine Zb (wp_seq ?_)
  refine Za hS (qM rfl rfl (qf (o_eql_bs Tryz.underlying9 .t (.cs (by kernel_rfl))) r1 qz qZ)) hB [31,26,25,24,6] [0] rfl rfl fun a w F hS=>Zb ?_
  refine Zd hS rfl (fun hc4=>?_) (fun hc4=>?_)
  ·skip
   have hr:wordsR s0=([],14):=ZjI hs0 hall hi (of_decide_eq_true hc4)
   refine wp_seq ?_
   refine Za hS (qC (qI qZ)) hB [26,25,24,6,3,2] [0] rfl rfl fun a w F hS=>Zb (wp_ret (Zg (Ze (Ze (Zg (Ze ?_))))))
   refine Zt hfr hS rfl (.tmp rfl (.tmp rfl .nil)) (.two (Ent.trans (.nilSl (R:=rS)) (.sl (by rw [hr]))) (.int (by rw [hr])))
  have hne1:=of_decide_eq_false hc4
  refine wp_skip (Zh (Zb ?_))
  refine Za hS (qp r1 (qM rfl rfl qZ)) hB [26,25,24,6] [0] rfl rfl fun a w F hS=>Zb ?_
  replace hS:=hS.ent (i:=26) (s':=.pv (.int .i64 ((i+1:Nat):Int))) rfl (.int (wrap_succ (by omega)))
  obtain ⟨F,hS⟩:=hS.nm [26,25,24,6] [0] rfl rfl
  exact ⟨i+1,F,⟨by omega,fun j hj=>(Nat.lt_or_ge j i).elim (hne j) (fun h1=>(show i=j by omega) ▸ hne1)⟩,hS,by omega⟩
 have hr:wordsR s0=(ZJ 32 s0,0):=Zhq hs0 hall (fun j hj=>hne j (by simp at hc3;omega))
 refine wp_exit (Zi (Zi (Zo (Zb (wp_seq ?_)))))
 refine Za hS (qM rfl rfl (qN rfl rfl (qI qZ))) hB [3,2] [0] rfl rfl fun a w F hS=>Zb (wp_ret ?_)
 refine Zt hfr hS rfl (.tmp rfl (.tmp rfl .nil)) (.two (.sl (by rw [hr])) (.int (by rw [hr])))
def bZ (v ad:Value):HP:=.star [.pt (.val v) 144 [.pv (.is ad),.pv (.is (.slice none 0 0))],.ob (.val (.slice none 0 0)) (Zu 5 1 rC [])]
def bW (v:Value) (l:List UInt8):HP:=.ex fun rv=>.star [.pt (.val v) 144 [.pv (.is v),.pv (.is rv)],.ob (.val rv) (Zu 5 1 rC l)]
def sumL (l:List (List UInt8)):Nat:=(l.map List.length).sum
theorem ZhB (l:List (List UInt8)) (i:Nat) (h:i<l.length):sumL (l.take (i+1))=sumL (l.take i)+(nth l i).length:=by
 unfold sumL
 rw [List.take_succ_eq_append_getElem h,Zp h]
 simp only [List.map_append,List.sum_append,List.map_cons,List.map_nil,List.sum_cons,List.sum_nil,Nat.add_zero]
theorem ZlQ (l:List (List UInt8)) (i:Nat):sumL (l.take i)≤sumL l:=by
 conv=>rhs;rw [← List.take_append_drop i l]
 unfold sumL
 rw [List.map_append,List.sum_append]
 omega
theorem Zoa {l:List (List UInt8)} {i:Nat} (h:i<l.length):(nth l i).length≤sumL l:=by
 have h1:=ZhB l i h
 have h2:=ZlQ l (i+1)
 omega
theorem Zh6:∀ l:List (List UInt8),(Zab l).length≤sumL l+l.length
 | []=>by simp [Zab]
 | [x]=>by simp [Zab,sumL]
 | x :: y :: r=>by
   have:=Zh6 (y :: r)
   simp [Zab,sumL] at this ⊢
   omega
theorem ZgF:∀ (l:List (List UInt8)) (x:List UInt8),l≠[]→Zab (l ++ [x])=Zab l ++ [32] ++ x
 | [],x,h=>absurd rfl h
 | [a],x,_=>by simp [Zab]
 | a :: b :: r,x,_=>by
   have:=ZgF (b :: r) x (by simp)
   simp only [List.cons_append] at this ⊢
   rw [Zab,this,Zab]
   simp
theorem ZnX {l:List (List UInt8)} {i:Nat} (h:i+1<l.length):Zab (l.take (i+2))=Zab (l.take (i+1)) ++ [32] ++ nth (l.drop 1) i:=by
 rw [show i+2=(i+1)+1 from rfl,List.take_succ_eq_append_getElem h,ZgF _ _ (by intro e;have:=congrArg List.length e;rw [List.length_take,List.length_nil] at this;omega)]
 congr 1
 rw [Zp (by simp;omega)]
 simp [Nat.add_comm]
theorem ZqZ {k:Int} (h:1≤k) (h2:k≤1000000):2≤IntKind.wrap .i64 (Int.tdiv 9223372036854775807 k):=by
 rw [Int.tdiv_eq_ediv_of_nonneg (by decide)]
 have h3:9223372036854≤(9223372036854775807:Int) / k:=(Int.le_ediv_iff_mul_le (by omega)).2 (by omega)
 have h4:(9223372036854775807:Int) / k≤9223372036854775807:=Int.ediv_le_self _ (by decide)
 rw [ZC (by omega)]
 omega
theorem Zs1 (b:Nat):FnG Tryz.prog 123 1 [.is (.pointer (some ⟨b,0,none⟩))] [bZ (.pointer (some ⟨b,0,none⟩)) (.pointer none)] (.any) (fun _=>[bZ (.pointer (some ⟨b,0,none⟩)) (.pointer (some ⟨b,0,none⟩))]):=by
 refine FnG.mk Tryz.func123 rfl Tryz.ntmps123 rfl (by kernel_rfl) ?_
 intro B F0 a w F hB hG hS
 obtain ⟨F,hS⟩:=hS.peel 1 2 rfl rfl
 obtain ⟨F,hS⟩:=hS.peel 1 3 rfl rfl
 obtain ⟨F,hS⟩:=hS.nm [0] [3,2,0] rfl rfl
 refine wp_seq ?_
 refine Za hS (qM rfl rfl (qf (o_nilCheck 2 .is (by rfl)) r1 r1 (qf (oF 0 2 .adr) r1 r1 (qa 2 r1 r1 (qf (Zel _ Tryz.underlying141 rfl .t) r1 qz qZ))))) hB [6,0] [3,2,0] rfl rfl fun a w F hS=>Zb ?_
 refine Zd hS rfl (fun hc0=>?_) (fun hc0=>?_)
 ·skip
  refine Za hS (qM rfl rfl (qM rfl rfl (qf (Zeh 2 Tryz.underlying141 Tryz.underlying219 (by kernel_rfl) (by kernel_rfl) .t) r1 r1 (qf (Zhw Tryz.func155 (by kernel_rfl) (by kernel_rfl) (by kernel_rfl) (by kernel_rfl) .t) r1 qz (qf (ZfZ 2 Tryz.underlying219 Tryz.underlying141 (by kernel_rfl) (by kernel_rfl) .t) r1 r1 (qf (o_nilCheck 2 .is (by rfl)) r1 r1 (qf (oF 0 2 .adr) r1 r1 (qf (o_store1 2 .adr .t ZnB (by kernel_rfl) (by kernel_rfl)) r2 r1 qZ)))))))) hB [] [3,2,0] rfl rfl fun a w F hS=>?_
  have hS:=hS.fresh 1 rfl
  obtain ⟨F,hS⟩:=hS.push 1 3 rfl rfl rfl (by kernel_rfl)
  obtain ⟨F,hS⟩:=hS.push 1 2 rfl rfl rfl (by kernel_rfl)
  have hS:=hS.turn 1 rfl (r':=RS.hp (bZ (.pointer (some ⟨b,0,none⟩)) (.pointer (some ⟨b,0,none⟩)))) (fun _ _ _ _ h=>h)
  refine Zay hG hS rfl .nil Zbn.any rfl
 simp at hc0
theorem ZsL (b:Nat) (l:List UInt8):FnG Tryz.prog 123 1 [.is (.pointer (some ⟨b,0,none⟩))] [bW (.pointer (some ⟨b,0,none⟩)) l] (.any) (fun _=>[bW (.pointer (some ⟨b,0,none⟩)) l]):=by
 refine FnG.mk Tryz.func123 rfl Tryz.ntmps123 rfl (by kernel_rfl) ?_
 intro B F0 a w F hB hG hS
 obtain ⟨rv,hS⟩:=hS.open_ex 1 rfl
 obtain ⟨F,hS⟩:=hS.peel 1 2 rfl rfl
 obtain ⟨F,hS⟩:=hS.peel 1 3 rfl rfl
 obtain ⟨F,hS⟩:=hS.nm [0] [3,2,0] rfl rfl
 refine wp_seq ?_
 refine Za hS (qM rfl rfl (qf (o_nilCheck 2 .is (by rfl)) r1 r1 (qf (oF 0 2 .adr) r1 r1 (qa 2 r1 r1 (qf (Zel _ Tryz.underlying141 rfl .t) r1 qz qZ))))) hB [6,0] [3,2,0] rfl rfl fun a w F hS=>Zb ?_
 refine Zd hS rfl (fun hc0=>?_) (fun hc0=>?_)
 ·skip
  simp at hc0
 refine wp_seq ?_
 refine Za hS (qM rfl rfl (qf (o_nilCheck 2 .is (by rfl)) r1 r1 (qf (oF 0 2 .adr) r1 r1 (qa 2 r1 r1 (qM rfl rfl (qf (ZgU Tryz.underlying141 (by kernel_rfl) .t .t) r2 qz qZ)))))) hB [19] [3,2,0] rfl rfl fun a w F hS=>Zb ?_
 refine Zd hS rfl (fun hc1=>?_) (fun hc1=>?_)
 ·skip
  simp at hc1
 refine wp_skip ?_
 have hS:=hS.fresh 1 rfl
 obtain ⟨F,hS⟩:=hS.push 1 3 rfl rfl rfl (by kernel_rfl)
 obtain ⟨F,hS⟩:=hS.push 1 2 rfl rfl rfl (by kernel_rfl)
 have hS:=hS.turn 1 rfl (r':=RS.hp (bW (.pointer (some ⟨b,0,none⟩)) l)) (fun _ _ _ _ h=>⟨_,h⟩)
 refine Zay hG hS rfl .nil Zbn.any rfl
theorem writeW (b:Nat) (l x:List UInt8) (hl:l.length≤1000000000) (hx:x.length≤1000000000):FnG Tryz.prog 85 1 [.is (.pointer (some ⟨b,0,none⟩)),.bs x] [bW (.pointer (some ⟨b,0,none⟩)) l] (.any) (fun _=>[bW (.pointer (some ⟨b,0,none⟩)) (l++x)]):=by
 refine FnG.mk Tryz.func85 rfl Tryz.ntmps85 rfl (by kernel_rfl) ?_
 intro B F0 a w F hB hG hS
 refine wp_seq ?_
 refine Za hS (qI (qC qZ)) hB [5,4,1,0] [1,0] rfl rfl fun a w F hS=>Zb (wp_seq ?_)
 refine Za hS (qM rfl rfl (qf (o_callG1 1 (ZsL b l) Tryz.func123 rfl (by kernel_rfl) (Args.one .t)) r1 r1 qZ)) hB [5,4,1,0] [1,0] rfl rfl fun a w F hS=>?_
 obtain ⟨rv,hS⟩:=hS.open_ex 1 rfl
 obtain ⟨F,hS⟩:=hS.peel 1 2 rfl rfl
 obtain ⟨F,hS⟩:=hS.peel 1 3 rfl rfl
 obtain ⟨F,hS⟩:=hS.nm [5,4,1,0] [3,2,0] rfl rfl
 refine Zb (wp_seq ?_)
 refine Zc hS (qM rfl rfl (qM rfl rfl (qf (o_nilCheck 2 .is (by rfl)) r1 r1 (qf (oF 1 2 .adr) r1 r1 (qa 2 r1 r1 (qM rfl rfl (qf (Ze6 3 Tryz.underlying142 Tryz.underlying9 (by kernel_rfl) .is .t (by omega)) ⟨rfl,rfl,trivial⟩ ⟨rfl,trivial⟩ (qf (o_nilCheck 2 .is (by rfl)) r1 r1 (qf (oF 1 2 .adr) r1 r1 (qf (Zad 2 .adr (by kernel_rfl) (by kernel_rfl)) r2 r1 qZ)))))))))) hB [5,4,1] [3,2,0] (fun _=>rfl) (fun _=>rfl) fun τ a w F hS=>?_
 try dsimp only [RS.sub,SF.sub,CF.sub,csub,Anc.sub,List.map,Zf,xL,xM,Nat.reduceAdd,xD,xE,xT,xU,xC,xN,zCF,ldSF] at hS
 generalize τ 14=v14 at hS
 refine Zb (wp_seq ?_)
 refine Za hS (qM rfl rfl (qf (Z0 Tryz.underlying9 .t) r1 qz (qN rfl rfl (qC qZ)))) hB [5,4] [3,2,0] rfl rfl fun a w F hS=>Zb (wp_ret ?_)
 have hS:=hS.fresh 1 rfl
 obtain ⟨F,hS⟩:=hS.push 1 3 rfl rfl rfl (by kernel_rfl)
 obtain ⟨F,hS⟩:=hS.push 1 2 rfl rfl rfl (by kernel_rfl)
 have hS:=hS.turn 1 rfl (r':=RS.hp (bW (.pointer (some ⟨b,0,none⟩)) (l++x))) (fun _ _ _ _ h=>⟨_,h⟩)
 refine Zay hG hS rfl (.tmp rfl (.tmp rfl .nil)) Zbn.any rfl
theorem ZqR (b:Nat) (l:List UInt8) (hne:l≠[]):FnG Tryz.prog 87 1 [.is (.pointer (some ⟨b,0,none⟩))] [bW (.pointer (some ⟨b,0,none⟩)) l] (.bs l) (fun _=>[HP.star []]):=by
 refine FnG.mk Tryz.func87 rfl Tryz.ntmps87 rfl (by kernel_rfl) ?_
 intro B F0 a w F hB hG hS
 obtain ⟨rv,hS⟩:=hS.open_ex 1 rfl
 obtain ⟨F,hS⟩:=hS.peel 1 2 rfl rfl
 obtain ⟨F,hS⟩:=hS.peel 1 3 rfl rfl
 obtain ⟨F,hS⟩:=hS.nm [0] [3,2,0] rfl rfl
 refine wp_seq ?_
 refine Za hS (qf (oN (.cs (by kernel_rfl))) trivial qz qZ) hB [2,0] [3,2,0] rfl rfl fun a w F hS=>Zb (wp_seq ?_)
 refine Zz hS (qM rfl rfl (qf (o_nilCheck 2 .is (by rfl)) r1 r1 (qf (oF 1 2 .adr) r1 r1 (qa 2 r1 r1 (qf (Zf8 3 hne .is (by rfl)) r1 r1 (qM rfl rfl (qf (o_nilCheck 2 .is (by rfl)) r1 r1 (qf (oF 1 2 .adr) r1 r1 (qa 2 r1 r1 (qf (ZT 3 Tryz.underlying142 .is) r1 r1 (qf (Zds 3 Tryz.underlying189 (by kernel_rfl) hne .t) r2 r1 (qN rfl rfl qZ)))))))))))) hB [2] [3,2,0] rfl rfl fun a w F hS=>?_
 try dsimp only [List.map,xD,xE,xT,xU,ldSF] at hS
 refine Zb (wp_ret ?_)
 have hS:=hS.fresh 1 rfl
 refine Zay (h':=HP.star []) hG hS rfl (.tmp rfl .nil) (.one .refl) rfl
theorem ZsQ (b:Nat) (n:Int) (h0:1≤n) (h1:n≤1000000000):FnG Tryz.prog 156 1 [.is (.pointer (some ⟨b,0,none⟩)),.int .i64 n] [bZ (.pointer (some ⟨b,0,none⟩)) (.pointer (some ⟨b,0,none⟩))] (.any) (fun _=>[bW (.pointer (some ⟨b,0,none⟩)) []]):=by
 refine FnG.mk Tryz.func156 rfl Tryz.ntmps156 rfl (by kernel_rfl) ?_
 intro B F0 a w F hB hG hS
 have hw:IntKind.wrap .i64 (IntKind.wrap .i64 (2*0)+n)=n:=by rw [show IntKind.wrap .i64 (2*0)=0 from rfl,Int.zero_add];exact ZC (by omega)
 obtain ⟨F,hS⟩:=hS.peel 1 2 rfl rfl
 obtain ⟨F,hS⟩:=hS.peel 1 3 rfl rfl
 obtain ⟨F,hS⟩:=hS.nm [1,0] [3,2,0] rfl rfl
 refine wp_seq ?_
 refine Zcp hS (qM rfl rfl (qf (o_nilCheck 2 .is (by rfl)) r1 r1 (qf (oF 1 2 .adr) r1 r1 (qa 2 r1 r1 (qf (Zep Tryz.underlying142 .t) r1 qz (qf (ZrP qi .t) r1 qz (qM rfl rfl (qf (Zbv .t .t) r2 qz (qf (Zjq 101 Tryz.func175 (by kernel_rfl) (by kernel_rfl) (by kernel_rfl) rfl Tryz.underlying142 .t (by rw [hw];omega) (by rw [hw];omega)) r1 qz (qM rfl rfl (qf (o_nilCheck 2 .is (by rfl)) r1 r1 (qf (oF 1 2 .adr) r1 r1 (qa 2 r1 r1 (qf (ZT 3 Tryz.underlying142 .is) r1 r1 (qf (ZbL (sz:=1) 101 (.mk Tryz.underlying142 (by kernel_rfl)) (by intro x;rfl) .same .t (by decide) (by simp;omega)) r2 r1 (qN rfl rfl qZ)))))))))))))))) hB [4,0] [101,3,2,0] (fun _=>rfl) (fun _=>rfl) fun τ a w F hS=>?_
 try dsimp only [RS.sub,SF.sub,CF.sub,csub,Anc.sub,List.map,xD,xE,xT,xU,ldSF] at hS
 generalize τ 19=v19 at hS
 replace hS:=hS.turn 101 rfl (r':=RS.ob (.val v19) (Zu 5 1 rC [])) (fun τ w f y h=>Zp4 (R:=ZsT) τ w f y (by simpa using h))
 refine Zb (wp_seq ?_)
 refine Za hS (qM rfl rfl (qM rfl rfl (qf (o_nilCheck 2 .is (by rfl)) r1 r1 (qf (oF 1 2 .adr) r1 r1 (qa 2 r1 r1 (qf (Zrh 101 Tryz.underlying142 (by kernel_rfl) .is .t) r2 r1 qZ)))))) hB [4,0] [101,3,2,0] rfl rfl fun a w F hS=>Zb ?_
 refine Za hS (qM rfl rfl (qM rfl rfl (qf (o_nilCheck 2 .is (by rfl)) r1 r1 (qf (oF 1 2 .adr) r1 r1 (qf (o_store1 2 .adr .t ZnB (by kernel_rfl) (by kernel_rfl)) r2 r1 qZ))))) hB [] [101,3,2,0] rfl rfl fun a w F hS=>?_
 have hS:=hS.fresh 1 rfl
 obtain ⟨F,hS⟩:=hS.push 1 101 rfl rfl rfl (by kernel_rfl)
 obtain ⟨F,hS⟩:=hS.push 1 2 rfl rfl rfl (by kernel_rfl)
 have hS:=hS.turn 1 rfl (r':=RS.hp (bW (.pointer (some ⟨b,0,none⟩)) [])) (fun _ _ _ _ h=>⟨_,h⟩)
 refine Zay hG hS rfl .nil Zbn.any rfl
theorem Zs6 (b:Nat) (n:Int) (h0:1≤n) (h1:n≤1000000000):FnG Tryz.prog 124 1 [.is (.pointer (some ⟨b,0,none⟩)),.int .i64 n] [bZ (.pointer (some ⟨b,0,none⟩)) (.pointer none)] (.any) (fun _=>[bW (.pointer (some ⟨b,0,none⟩)) []]):=by
 refine FnG.mk Tryz.func124 rfl Tryz.ntmps124 rfl (by kernel_rfl) ?_
 intro B F0 a w F hB hG hS
 refine wp_seq ?_
 refine Za hS (qM rfl rfl (qf (o_callG1 1 (Zs1 b) Tryz.func123 rfl (by kernel_rfl) (Args.one .t)) r1 r1 qZ)) hB [1,0] [1,0] rfl rfl fun a w F hS=>?_
 obtain ⟨F,hS⟩:=hS.peel 1 2 rfl rfl
 obtain ⟨F,hS⟩:=hS.peel 1 3 rfl rfl
 obtain ⟨F,hS⟩:=hS.nm [1,0] [3,2,0] rfl rfl
 refine Zb (wp_seq (wp_seq ?_))
 refine Za hS (qM rfl rfl (qf (Zbq .t qi) r1 qz qZ)) hB [7,1,0] [3,2,0] rfl rfl fun a w F hS=>Zb ?_
 refine Zd hS rfl (fun hc0=>?_) (fun hc0=>?_)
 ·skip
  simp at hc0;omega
 refine wp_skip (Zb (wp_seq ?_))
 refine Zz hS (qM rfl rfl (qf (o_nilCheck 2 .is (by rfl)) r1 r1 (qf (oF 1 2 .adr) r1 r1 (qa 2 r1 r1 (qf (Zep Tryz.underlying142 .t) r1 qz (qM rfl rfl (qf (o_nilCheck 2 .is (by rfl)) r1 r1 (qf (oF 1 2 .adr) r1 r1 (qa 2 r1 r1 (qf (ZT 3 Tryz.underlying142 .is) r1 r1 (qf (o_sub .t .t) r2 qz (qM rfl rfl (qL r2))))))))))))) hB [21,1,0] [3,2,0] rfl rfl fun a w F hS=>?_
 try dsimp only [List.map,xD,xE,xT,xU,ldSF] at hS
 refine Zb ?_
 refine Zd hS rfl (fun hc1=>?_) (fun hc1=>?_)
 ·skip
  replace hS:=hS.fresh 1 rfl
  obtain ⟨F,hS⟩:=hS.push 1 3 rfl rfl rfl (by kernel_rfl)
  obtain ⟨F,hS⟩:=hS.push 1 2 rfl rfl rfl (by kernel_rfl)
  replace hS:=hS.turn 1 rfl (r':=RS.hp (bZ (.pointer (some ⟨b,0,none⟩)) (.pointer (some ⟨b,0,none⟩)))) (fun _ _ _ _ h=>h)
  obtain ⟨F,hS⟩:=hS.nm [21,1,0] [1,0] rfl rfl
  refine Za hS (qM rfl rfl (qM rfl rfl (qf (o_callG1 1 (ZsQ b n h0 h1) Tryz.func156 rfl (by kernel_rfl) (Args.two .t .t)) r2 r1 qZ))) hB [] [1,0] rfl rfl fun a w F hS=>Zay hG hS rfl .nil Zbn.any rfl
 have h9:¬ (0:Int)<n:=of_decide_eq_false hc1
 omega
theorem Zrw {l:List (List UInt8)} (h:2≤l.length):Zab l≠[]:=by
 match l,h with
 | x :: y :: r,_=>simp [Zab]
theorem ZkS {l:List (List UInt8)} (h:0<l.length):nth l 0=Zab (l.take (0+1)):=by
 match l,h with
 | x :: r,_=>simp [Zab,nth]
theorem Zrt (l:List (List UInt8)) (hn:l.length≤1000000) (hs:sumL l≤900000000):FnP Tryz.prog 91 [.sl rS l,.bs [32]] (.bs (Zab l)):=by
 refine FnP.mk Tryz.func91 rfl Tryz.ntmps91 rfl ?_
 intro B a w F hB hfr hS
 refine wp_seq ?_
 refine Za hS (qf (oN (.cs (by kernel_rfl))) trivial qz qZ) hB [4,1,0] [0] rfl rfl fun a w F hS=>Zb (wp_seq (wp_seq ?_))
 refine Za hS (qM rfl rfl (qu Tryz.underlying34 r1 qZ)) hB [12,4,1,0] [0] rfl rfl fun a w F hS=>Zb (wp_block (wp_seq ?_))
 refine Za hS (qf (o_eql .t qi) r1 qz (qN rfl rfl qZ)) hB [13,12,4,1,0] [0] rfl rfl fun a w F hS=>Zb ?_
 refine Zd hS rfl (fun hc0=>?_) (fun hc0=>?_)
 ·skip
  have hr:Zab l = []:=by
    have h9:l = []:=by simpa using hc0
    rw [h9];rfl
  refine wp_seq ?_
  refine Za hS (qf (oN (.cs (by kernel_rfl))) trivial qz qZ) hB [4,1,0] [0] rfl rfl fun a w F hS=>Zb (wp_ret (Zg (Ze ?_)))
  refine Zq hfr hS rfl rfl rfl (.bs (by first | exact hr.symm | rfl))
 have hl0:l≠[]:=by intro e;rw [e] at hc0;simp at hc0
 refine wp_seq ?_
 refine Za hS (qf (o_eql .t qi) r1 qz (qN rfl rfl qZ)) hB [15,4,1,0] [0] rfl rfl fun a w F hS=>Zb ?_
 refine Zd hS rfl (fun hc1=>?_) (fun hc1=>?_)
 ·skip
  have hl1:l.length=1:=by simp at hc1;omega
  have hr:Zab l=nth l 0:=by match l,hl1 with | [x],_=>rfl
  refine wp_seq ?_
  refine Za hS (qM rfl rfl (qf (o_indexAddr_sl (sz:=1) (.mk Tryz.underlying34 (by kernel_rfl)) (by intro x;rfl) .t qi (by decide) (by simp;omega)) r1 qz (qf (oR false 1 .t) r1 qz (qN rfl rfl qZ)))) hB [4,1,0] [0] rfl rfl fun a w F hS=>Zb (wp_ret (Zg (Ze ?_)))
  refine Zq hfr hS rfl rfl rfl (.bs (by first | exact hr.symm | rfl))
 have hl2:2≤l.length:=by have:=List.length_pos_iff.2 hl0;simp at hc1;omega
 have hw1:IntKind.wrap .i64 ((l.length:Int) - 1)=((l.length - 1:Nat):Int):=by rw [ZC (by omega)];omega
 have hsz:IntKind.wrap .i64 (0+IntKind.wrap .i64 (1*((l.length - 1:Nat):Int)))=((l.length - 1+sumL (l.take 0):Nat):Int):=by rw [ZC (x:=1*_) (by omega),ZC (by omega)];simp [sumL]
 have hdl:(l.drop 1).length=l.length - 1:=by simp
 refine wp_skip (Zh (Zb (wp_seq ?_)))
 refine Za hS (qI qZ) hB [5,4,1,0] [0] rfl rfl fun a w F hS=>Zb (wp_seq (wp_seq ?_))
 refine Za hS (qM rfl rfl (qf (Z0 Tryz.underlying9 .t) r1 qz (qf (ZaR .t qi) r1 qz qZ))) hB [22,5,4,1,0] [0] rfl rfl fun a w F hS=>Zb ?_
 refine Zd hS rfl (fun hc2=>?_) (fun hc2=>?_)
 ·skip
  refine wp_seq (wp_seq ?_)
  refine Za hS (qM rfl rfl (qf (Z0 Tryz.underlying9 .t) r1 qz (qM rfl rfl (qu Tryz.underlying34 r1 (qf (o_sub .t qi) r1 qz (qf (Zr3 qi .t (by rw [hw1];omega)) r1 qz (qf (Zen .t .t) r2 qz qZ))))))) hB [29,5,4,1,0] [0] rfl rfl fun a w F hS=>Zb ?_
  refine Zd hS rfl (fun hc3=>?_) (fun hc3=>?_)
  ·skip
   have h9:=of_decide_eq_true hc3
   rw [hw1] at h9
   have:=ZqZ (k:=((l.length - 1:Nat):Int)) (by omega) (by omega)
   try simp only [List.length_cons,List.length_nil] at h9
   omega
  refine wp_skip (Zb ?_)
  refine Za hS (qM rfl rfl (qM rfl rfl (qf (Z0 Tryz.underlying9 .t) r1 qz (qM rfl rfl (qu Tryz.underlying34 r1 (qf (o_sub .t qi) r1 qz (qf (ZrP .t .t) r2 qz (qf (Zbv .t .t) r2 qz (qN rfl rfl qZ))))))))) hB [5,4,1,0] [0] rfl rfl fun a w F hS=>?_
  rw [hw1] at hS
  refine Zb (wp_seq (wp_seq ?_))
  refine Za hS (qM rfl rfl (qu Tryz.underlying34 r1 (qJ qZ))) hB [41,40,39,5,4,1,0] [0] rfl rfl fun a w F hS=>Zb (wp_block ?_)
  replace hS:=hS.ent (i:=5) (s':=.pv (.int .i64 ((l.length - 1+sumL (l.take 0):Nat):Int))) rfl (.int hsz)
  obtain ⟨F,hS⟩:=hS.nm [41,40,39,5,1,0] [0] rfl rfl
  refine ZG (σ:=Nat) (fun s=>(⟨[(0,.pv (.sl rS l)),(1,.pv (.bs [32])),(5,.pv (.int .i64 ((l.length - 1+sumL (l.take s):Nat):Int))),(39,.pv (.sl rS l)),(40,.pv (.int .i64 (l.length:Nat))),(41,.pv (.int .i64 (s:Nat)))],[(0,frame B)]⟩:En)) (fun s=>s≤l.length) (fun s=>l.length - s) 0 hS (Nat.zero_le _) ?_
  clear hS;intro i a w F hC hS
  try dsimp only at hC
  try dsimp only at hS
  have hi0:=hC
  have hsi:=ZlQ l i
  refine wp_seq ?_
  refine Za hS (qL r2) hB [42,41,40,39,5,1,0] [0] rfl rfl fun a w F hS=>Zb (wp_seq ?_)
  refine Zd hS rfl (fun hc4=>?_) (fun hc4=>?_)
  ·skip
   have hi:i<l.length:=by simp at hc4;omega
   have hwl:=Zoa hi
   have hst:=ZhB l i hi
   have hsi1:=ZlQ l (i+1)
   refine wp_skip (Zb (wp_seq (wp_block (wp_seq ?_))))
   refine Za hS (qy 1 Tryz.underlying34 r2 (qf (oR false 1 .t) r1 qz (qN rfl rfl qZ))) hB [41,40,39,7,5,1,0] [0] rfl rfl fun a w F hS=>?_
   rw [Int.toNat_natCast] at hS
   refine Zb (wp_seq (wp_seq ?_))
   refine Za hS (qM rfl rfl (qf (Z0 Tryz.underlying9 .t) r1 qz (qM rfl rfl (qf (o_sub qi .t) r1 qz (qf (ZaR .t .t) r2 qz qZ))))) hB [49,41,40,39,7,5,1,0] [0] rfl rfl fun a w F hS=>Zb ?_
   refine Zd hS rfl (fun hc5=>?_) (fun hc5=>?_)
   ·skip
    have h9:=of_decide_eq_true hc5
    rw [ZC (by omega)] at h9
    omega
   refine wp_skip (Zb ?_)
   refine Za hS (qM rfl rfl (qM rfl rfl (qf (Z0 Tryz.underlying9 .t) r1 qz (qf (Zbv .t .t) r2 qz (qN rfl rfl qZ))))) hB [41,40,39,5,1,0] [0] rfl rfl fun a w F hS=>Zh (Zb ?_)
   refine Za hS (qp r1 (qM rfl rfl qZ)) hB [41,40,39,5,1,0] [0] rfl rfl fun a w F hS=>Zb ?_
   replace hS:=hS.ent (i:=41) (s':=.pv (.int .i64 ((i+1:Nat):Int))) rfl (.int (wrap_succ (by omega)))
   replace hS:=hS.ent (i:=5) (s':=.pv (.int .i64 ((l.length - 1+sumL (l.take (i+1)):Nat):Int))) rfl (.int (by rw [ZhB l i hi,ZC (by omega)];omega))
   obtain ⟨F,hS⟩:=hS.nm [41,40,39,5,1,0] [0] rfl rfl
   exact ⟨i+1,F,(by omega),hS,by omega⟩
  have hi:i=l.length:=by simp at hc4;omega
  refine wp_exit (Zi (Zi (Zo (Zb (wp_seq ?_)))))
  refine Zc hS (qf (oH [.pointer none,.slice none 0 0] 101) trivial qz qZ) hB [8,5,1,0] [101,0] (fun _=>rfl) (fun _=>rfl) fun τ a w F hS=>?_
  try dsimp only [RS.sub,SF.sub,CF.sub,csub,Anc.sub,List.map,zCF] at hS
  generalize τ 8=v8 at hS
  rw [hi,List.take_length] at hS
  obtain ⟨b,rfl⟩:=hS.shape 101 rfl
  replace hS:=hS.fresh 9 rfl
  replace hS:=hS.turn 9 rfl (ZaC (T:=5) (sz:=1) (R:=rC))
  replace hS:=hS.fresh 10 rfl
  obtain ⟨F,hS⟩:=hS.push 10 9 rfl rfl rfl (by kernel_rfl)
  obtain ⟨F,hS⟩:=hS.push 10 101 rfl rfl rfl (by kernel_rfl)
  replace hS:=hS.turn 10 rfl (r':=RS.hp (bZ (.pointer (some ⟨b,0,none⟩)) (.pointer none))) (fun _ _ _ _ h=>h)
  obtain ⟨F,hS⟩:=hS.nm [8,5,1,0] [10,0] rfl rfl
  refine Zb (wp_seq ?_)
  refine Za hS (qM rfl rfl (qf (o_callG1 10 (Zs6 b ((l.length - 1+sumL l:Nat):Int) (by omega) (by omega)) Tryz.func124 rfl (by kernel_rfl) (Args.two .t .t)) r2 r1 qZ)) hB [8,1,0] [10,0] rfl rfl fun a w F hS=>Zb (wp_seq ?_)
  refine Za hS (qM rfl rfl (qf (o_indexAddr_sl (sz:=1) (.mk Tryz.underlying34 (by kernel_rfl)) (by intro x;rfl) .t qi (by decide) (by simp;omega)) r1 qz (qf (oR false 1 .t) r1 qz (qf (o_callG1 10 (writeW b [] (nth l 0) (by simp) (by have:=Zoa (l:=l) (i:=0) (by omega);omega)) Tryz.func85 rfl (by kernel_rfl) (Args.two .t .t)) r2 r1 qZ)))) hB [8,1,0] [10,0] rfl rfl fun a w F hS=>?_
  replace hS:=hS.turn 10 rfl (r':=RS.hp (bW (.pointer (some ⟨b,0,none⟩)) (Zab (l.take (0+1))))) (fun _ _ _ _ h=>by rw [← ZkS (by omega)];exact h)
  refine Zb (wp_seq (wp_seq ?_))
  refine Za hS (qM rfl rfl (qf (o_slice_lo (sz:=1) (.mk Tryz.underlying34 (by kernel_rfl)) (by intro x;rfl) .t qi (by decide) (by omega)) r1 qz (qu Tryz.underlying34 r1 (qJ qZ)))) hB [65,64,63,8,1] [10,0] rfl rfl fun a w F hS=>Zb (wp_block ?_)
  obtain ⟨F,hS⟩:=hS.nm [65,64,63,8,1] [10,0] rfl rfl
  refine ZG (σ:=Nat) (fun s=>(⟨[(1,.pv (.bs [32])),(8,.pv (.is (.pointer (some ⟨b,0,none⟩)))),(63,.pv (.sl rS (l.drop 1))),(64,.pv (.int .i64 ((l.drop 1).length:Nat))),(65,.pv (.int .i64 (s:Nat)))],[(0,frame B),(10,RS.hp (bW (.pointer (some ⟨b,0,none⟩)) (Zab (l.take (s+1)))))]⟩:En)) (fun s=>s≤(l.drop 1).length) (fun s=>(l.drop 1).length - s) 0 hS (Nat.zero_le _) ?_
  clear hS;intro i a w F hC hS
  try dsimp only at hC
  try dsimp only at hS
  have hi0:=hC
  have hjl:=Zh6 (l.take (i+1))
  have hsi:=ZlQ l (i+1)
  have htl:=List.length_take_le (i+1) l
  refine wp_seq ?_
  refine Za hS (qL r2) hB [66,65,64,63,8,1] [10,0] rfl rfl fun a w F hS=>Zb (wp_seq ?_)
  refine Zd hS rfl (fun hc6=>?_) (fun hc6=>?_)
  ·skip
   have hi1:i+1<l.length:=by simp at hc6;omega
   have hwl:(nth (l.drop 1) i).length≤sumL l:=by rw [show nth (l.drop 1) i=nth l (i+1) by rw [Zp (by omega),Zp hi1];simp [Nat.add_comm]];exact Zoa hi1
   refine wp_skip (Zb (wp_seq (wp_block (wp_seq ?_))))
   refine Za hS (qy 1 Tryz.underlying34 r2 (qf (oR false 1 .t) r1 qz (qN rfl rfl qZ))) hB [65,64,63,10,8,1] [10,0] rfl rfl fun a w F hS=>?_
   rw [Int.toNat_natCast] at hS
   refine Zb (wp_seq ?_)
   refine Za hS (qM rfl rfl (qf (o_callG1 10 (writeW b (Zab (l.take (i+1))) [32] (by omega) (by simp)) Tryz.func85 rfl (by kernel_rfl) (Args.two .t .t)) r2 r1 qZ)) hB [65,64,63,10,8,1] [10,0] rfl rfl fun a w F hS=>Zb ?_
   refine Za hS (qM rfl rfl (qf (o_callG1 10 (writeW b (Zab (l.take (i+1)) ++ [32]) (nth (l.drop 1) i) (by rw [List.length_append];simp;omega) (by omega)) Tryz.func85 rfl (by kernel_rfl) (Args.two .t .t)) r2 r1 qZ)) hB [65,64,63,8,1] [10,0] rfl rfl fun a w F hS=>Zh (Zb ?_)
   refine Za hS (qp r1 (qM rfl rfl qZ)) hB [65,64,63,8,1] [10,0] rfl rfl fun a w F hS=>Zb ?_
   rw [← ZnX hi1] at hS
   replace hS:=hS.ent (i:=65) (s':=.pv (.int .i64 ((i+1:Nat):Int))) rfl (.int (wrap_succ (by omega)))
   obtain ⟨F,hS⟩:=hS.nm [65,64,63,8,1] [10,0] rfl rfl
   exact ⟨i+1,F,(by omega),hS,by omega⟩
  have hi2:i+1=l.length:=by simp at hc6;omega
  have hfin:Zab (l.take (i+1))=Zab l:=by rw [hi2,List.take_length]
  have hjne:Zab l≠[]:=Zrw hl2
  rw [hfin] at hS
  refine wp_exit (Zi (Zi (Zo (Zb (wp_seq ?_)))))
  refine Za hS (qf (o_callG1 10 (ZqR b (Zab l) hjne) Tryz.func87 rfl (by kernel_rfl) (Args.one .t)) r1 r1 (qN rfl rfl qZ)) hB [4] [10,0] rfl rfl fun a w F hS=>Zb (wp_ret ?_)
  refine Zq hfr hS rfl rfl rfl (.bs (by first | exact hr.symm | rfl))
 simp at hc2
theorem ZeW (l:List (List UInt8)) (hn:l.length≤1000000) (hs:sumL l≤900000000):FnP Tryz.prog 50 [.sl rS l] (.bs (Zab l)):=by
 refine FnP.mk Tryz.func50 rfl Tryz.ntmps50 rfl ?_
 intro B a w F hB hfr hS
 refine wp_seq ?_
 refine Za hS (qf (oN (.cs (by kernel_rfl))) trivial qz qZ) hB [2,0] [0] rfl rfl fun a w F hS=>Zb (wp_seq ?_)
 refine Za hS (qM rfl rfl (qf (oP (Zrt l hn hs) Tryz.func91 (Args.two .t (.cs (by kernel_rfl)))) r1 qz (qN rfl rfl qZ))) hB [2] [0] rfl rfl fun a w F hS=>Zb (wp_ret ?_)
 refine Zq hfr hS rfl rfl rfl .refl
theorem Zkc {s:List UInt8} {q:List (List UInt8)} (hs:s≠[]) (hall:s.all okB=true) (hq:q=ZJ 32 s) (h:∀ x ∈ q,x≠[]):wordsR s=(q,0):=by
 rw [hq] at h ⊢
 exact Zhq hs hall fun j hj=>h _ (ZB hj)
theorem ZnR {l:List (List UInt8)} {i:Nat} (h:i<l.length):Zab (l.take (i+1))=(if 0<i then Zab (l.take i) ++ [32] else Zab (l.take i))++nth l i:=by
 match i,h with
 | 0,h=>rw [← ZkS h];simp [Zab]
 | i+1,h=>
   rw [if_pos (Nat.succ_pos i),List.take_succ_eq_append_getElem h,ZgF _ _ (by intro e;have:=congrArg List.length e;rw [List.length_take,List.length_nil] at this;omega),Zp h]
theorem ZjS {c d:UInt8} (h:((c.toNat:Nat):Int)=((d.toNat:Nat):Int)):c=d:=by apply UInt8.toNat_inj.1;omega
theorem nth0 {c:UInt8} : ((c.toNat:Int)=48) ↔ c=48:=by
 constructor
 · intro h;apply UInt8.toNat_inj.1;simp;omega
 · intro h;subst h;rfl
theorem read_c (tx:List UInt8) (hlen:tx.length≤9223372036854775807):FnP Tryz.prog 118 [.bs tx] (.tup [.int .i64 (readR tx).1,.int .i64 (readR tx).2]):=by
 refine FnP.mk Tryz.func118 rfl Tryz.ntmps118 rfl ?_
 intro B a w F hB hfr hS
 refine wp_seq ?_
 refine Za hS (qI (qI qZ)) hB [3,2,0] [0] rfl rfl fun a w F hS=>Zb (wp_seq (wp_seq ?_))
 refine Za hS (qM rfl rfl (qf (o_eql_bs Tryz.underlying9 .t (.cs (by kernel_rfl))) r1 qz (qM rfl rfl (qm rfl rfl rfl rfl (qk rfl (fun h=>Z0 Tryz.underlying9 (.w h)) r2 qz (qk rfl (fun h=>ZaR (.w h) qi) r2 qz (qk rfl (fun h=>oM (.w h)) r2 qz (ZI.cons (ZdD.cond2 rfl rfl (fun h=>ZfK .t (by rfl))) r2 qz (ZI.cons (ZdD.cond2 rfl rfl (fun h=>Z4 Tryz.underlying9 (.w h) qi (by decide) (by have:=h.2;simp at this;omega))) r2 qz (ZI.cons (ZdD.cond2 rfl rfl (fun h=>o_eql (.w h) qi)) r2 qz (qk rfl (fun h=>ZK (.w h) (.wc h)) r3 qz (qf (Zao .t .t) r2 qz qZ)))))))))))) hB [18,3,2,0] [0] rfl rfl fun a w F hS=>Zb ?_
 refine Zd hS rfl (fun hc0=>?_) (fun hc0=>?_)
 ·skip
  have hb:tx = []∨(1<tx.length∧nth tx 0=48):=by
    simp only [Bool.or_eq_true,Bool.and_eq_true,decide_eq_true_eq,nth0,Int.toNat_zero] at hc0
    rcases hc0 with hc0 | hc0
    · exact .inl hc0
    · exact .inr ⟨by omega,hc0.2⟩
  have hg:readR tx=(0,10):=if_pos hb
  refine wp_seq ?_
  refine Za hS (qI (qI qZ)) hB [3,2,0] [0] rfl rfl fun a w F hS=>Zb (wp_ret (Ze ?_))
  refine Zt hfr hS rfl (.tmp rfl (.tmp rfl .nil)) (.two (.int (by rw [hg];try exact hv)) (.int (by rw [hg])))
 have hb:¬ (tx = []∨(1<tx.length∧nth tx 0=48)):=by
   simp only [Bool.or_eq_false_iff,Bool.and_eq_false_iff,decide_eq_false_iff_not,nth0,Int.toNat_zero] at hc0
   rintro (hh | ⟨hh1,hh2⟩)
   · exact hc0.1 hh
   · rcases hc0.2 with hx | hx
     · exact hx (by omega)
     · exact hx hh2
 refine wp_skip (Zb (wp_seq ?_))
 refine Za hS (qI qZ) hB [4,3,2,0] [0] rfl rfl fun a w F hS=>Zb (wp_seq (wp_seq ?_))
 refine Za hS (qM rfl rfl (qf (Z0 Tryz.underlying9 .t) r1 qz (qJ qZ))) hB [21,20,4,3,2,0] [0] rfl rfl fun a w F hS=>Zb (wp_block ?_)
 obtain ⟨F,hS⟩:=hS.nm [21,20,4,0] [0] rfl rfl
 refine ZG (σ:=(Nat×Int)) (fun s=>(⟨[(0,.pv (.bs tx)),(4,.pv (.int .u64 s.2)),(20,.pv (.int .i64 tx.length)),(21,.pv (.int .i64 s.1))],[(0,frame B)]⟩:En)) (fun s=>s.1≤tx.length∧(tx.take s.1).all digit=true∧s.2=(min (valOf (tx.take s.1)) 2147483648:Nat)) (fun s=>tx.length - s.1) (0,0) hS ⟨Nat.zero_le _,rfl,rfl⟩ ?_
 clear hS;intro s a w F hC hS
 obtain ⟨i,n⟩:=s
 try dsimp only at hC
 try dsimp only at hS
 obtain ⟨hi,hd,hn⟩:=hC
 try dsimp only at hi hd hn
 refine wp_seq ?_
 refine Za hS (qL r2) hB [22,21,20,4,0] [0] rfl rfl fun a w F hS=>Zb (wp_seq ?_)
 refine Zd hS rfl (fun hc1=>?_) (fun hc1=>?_)
 ·skip
  have hil:i<tx.length:=by simp at hc1;omega
  refine wp_skip (Zb (wp_seq (wp_block (wp_seq ?_))))
  refine Za hS (qM rfl rfl (qN rfl rfl qZ)) hB [21,20,5,4,0] [0] rfl rfl fun a w F hS=>Zb (wp_seq ?_)
  refine Za hS (qM rfl rfl (qM rfl rfl (qf (Z4 Tryz.underlying9 .t .t (by omega) (by omega)) r2 qz (qf (o_sub .t qi) r1 qz (qN rfl rfl qZ))))) hB [21,20,6,4,0] [0] rfl rfl fun a w F hS=>Zb (wp_seq (wp_seq ?_))
  refine Za hS (qM rfl rfl (qf (Zen .t qi) r1 qz qZ)) hB [29,21,20,6,4,0] [0] rfl rfl fun a w F hS=>Zb ?_
  refine Zd hS rfl (fun hc2=>?_) (fun hc2=>?_)
  ·skip
   have hc:=(nth tx (i:Int).toNat).toNat_lt
   have hnd:digit (nth tx i)=false:=by
     rw [Int.toNat_natCast] at hc2 hc
     simp only [decide_eq_true_eq,ZjG] at hc2
     unfold digit
     rw [Bool.and_eq_false_iff,decide_eq_false_iff_not,decide_eq_false_iff_not]
     omega
   have hg:readR tx=(0,10):=by unfold readR;rw [if_neg hb,if_pos (ZrH hil hnd)]
   refine wp_seq ?_
   refine Za hS (qI (qI qZ)) hB [21,20,6,4,3,2,0] [0] rfl rfl fun a w F hS=>Zb (wp_ret (Ze (Zg (Ze (Ze (Zg (Ze ?_)))))))
   refine Zt hfr hS rfl (.tmp rfl (.tmp rfl .nil)) (.two (.int (by rw [hg];try exact hv)) (.int (by rw [hg])))
  have hc:=(nth tx (i:Int).toNat).toNat_lt
  rw [Int.toNat_natCast] at hc2 hc
  simp only [decide_eq_false_iff_not,ZjG] at hc2
  have hdi:digit (nth tx i)=true:=by
    unfold digit
    rw [Bool.and_eq_true,decide_eq_true_eq,decide_eq_true_eq]
    omega
  have hd2:(tx.take (i+1)).all digit=true:=by rw [Zp9 hil,hd,hdi];rfl
  have hcd:48≤(nth tx i).toNat∧(nth tx i).toNat≤57:=by
    unfold digit at hdi
    rw [Bool.and_eq_true,decide_eq_true_eq,decide_eq_true_eq] at hdi
    exact hdi
  have hacc:(if (2147483648:Int)<IntKind.wrap .u64 (IntKind.wrap .u64 (n*10)+IntKind.wrap .u64 (IntKind.wrap .u8 (((nth tx (i:Int).toNat).toNat:Int) - 48))) then 2147483648 else IntKind.wrap .u64 (IntKind.wrap .u64 (n*10)+IntKind.wrap .u64 (IntKind.wrap .u8 (((nth tx (i:Int).toNat).toNat:Int) - 48))))=((min (valOf (tx.take (i+1))) 2147483648:Nat):Int):=by
    rw [Int.toNat_natCast,Zpm hil,hn]
    have e1:IntKind.wrap .u8 (((nth tx i).toNat:Int) - 48)=((nth tx i).toNat:Int) - 48:=Zrg (by omega)
    have e2:IntKind.wrap .u64 (((nth tx i).toNat:Int) - 48)=((nth tx i).toNat:Int) - 48:=Zde (by omega)
    simp only [e1,e2,Zc8]
    split <;> omega
  refine wp_skip (Zb ?_)
  refine Za hS (qM rfl rfl (qf (ZrP .t qi) r1 qz (qM rfl rfl (qf (Zcy Tryz.underlying152 (by kernel_rfl) .t) r1 qz (qf (Zbv .t .t) r2 qz (qf (Zr2 .t qi) r1 qz (qN rfl rfl qZ))))))) hB [21,20,4,0] [0] rfl rfl fun a w F hS=>Zh (Zb ?_)
  refine Za hS (qp r1 (qM rfl rfl qZ)) hB [21,20,4,0] [0] rfl rfl fun a w F hS=>Zb ?_
  replace hS:=hS.ent (i:=21) (s':=.pv (.int .i64 ((i+1:Nat):Int))) rfl (.int (wrap_succ (by omega)))
  replace hS:=hS.ent (i:=4) (s':=.pv (.int .u64 ((min (valOf (tx.take (i+1))) 2147483648:Nat):Int))) rfl (.int hacc)
  obtain ⟨F,hS⟩:=hS.nm [21,20,4,0] [0] rfl rfl
  exact ⟨(i+1,(min (valOf (tx.take (i+1))) 2147483648:Nat)),F,⟨by dsimp only;omega,hd2,rfl⟩,hS,by dsimp only;omega⟩
 have hil:i=tx.length:=by simp at hc1;omega
 rw [hil,List.take_length] at hd hn
 refine wp_exit (Zi (Zi (Zo (Zb (wp_seq (wp_seq ?_))))))
 refine Za hS (qM rfl rfl (qf (ZaR .t qi) r1 qz qZ)) hB [38,4] [0] rfl rfl fun a w F hS=>Zb ?_
 refine Zd hS rfl (fun hc3=>?_) (fun hc3=>?_)
 ·skip
  have hg:readR tx=(0,1):=by
    unfold readR
    rw [if_neg hb,if_neg (by rw [hd];decide),if_pos (by simp at hc3;omega)]
  refine wp_seq ?_
  refine Za hS (qI (qI qZ)) hB [4,3,2] [0] rfl rfl fun a w F hS=>Zb (wp_ret (Ze ?_))
  refine Zt hfr hS rfl (.tmp rfl (.tmp rfl .nil)) (.two (.int (by rw [hg];try exact hv)) (.int (by rw [hg])))
 have hle:¬ 2147483647<valOf tx:=by simp at hc3;omega
 have hg:readR tx=((valOf tx:Int),0):=by
   unfold readR
   rw [if_neg hb,if_neg (by rw [hd];decide),if_neg hle]
 have hv:IntKind.wrap .i64 n=(valOf tx:Int):=by rw [ZC (by omega)];omega
 refine wp_skip (Zb (wp_seq ?_))
 refine Za hS (qM rfl rfl (qf (Zcy Tryz.underlying3 (by kernel_rfl) .t) r1 qz (qN rfl rfl (qI qZ)))) hB [3,2] [0] rfl rfl fun a w F hS=>Zb (wp_ret ?_)
 refine Zt hfr hS rfl (.tmp rfl (.tmp rfl .nil)) (.two (.int (by rw [hg];try exact hv)) (.int (by rw [hg])))
def RdB (n:Int) (v:Nat):Prop:=0≤n∧n≤21474836479∧(v≤2147483647→n=v)∧(2147483647<v→2147483647<n)
theorem RdB.range {n:Int} {v:Nat} (h:RdB n v):0≤n∧n≤21474836479:=⟨h.1,h.2.1⟩
theorem RdB.next {n:Int} {v c:Nat} (h:RdB n v) (hn:n≤2147483647) (hc:48≤c∧c≤57):RdB (10*n+c - 48) (v*10+(c - 48)):=by
 obtain ⟨h1,h2,h3,h4⟩:=h
 have hv:v≤2147483647:=by
   rcases Nat.lt_or_ge 2147483647 v with hh | hh
   · have:=h4 hh;omega
   · exact hh
 have:=h3 hv
 refine ⟨by omega,by omega,fun _=>by omega,fun _=>by omega⟩
theorem RdB.val {n:Int} {v:Nat} (h:RdB n v) (hn:n≤2147483647):n=v:=by
 rcases Nat.lt_or_ge 2147483647 v with hh | hh
 · have:=h.2.2.2 hh;omega
 · exact h.2.2.1 hh
def Zmq:OpD:=⟨false,0,0,0⟩
def Zbb (c:UInt8) (s:List UInt8):List UInt8×List UInt8×Bool:=if Lib.indexByte s c<0 then (s,[],false) else (s.take (Lib.indexByte s c).toNat,s.drop ((Lib.indexByte s c).toNat+1),true)
def figs (s:List UInt8):Bool:=decide (s≠[]) && s.all digit
def ZL (r:List UInt8):List (List UInt8):=if (Zbb 64 r).2.2=true then (if (Zbb 46 (Zbb 64 r).2.1).2.2=true then [(Zbb 64 r).1,(Zbb 46 (Zbb 64 r).2.1).1,(Zbb 46 (Zbb 64 r).2.1).2.1] else [(Zbb 64 r).1,(Zbb 46 (Zbb 64 r).2.1).1]) else [(Zbb 64 r).1]
def opCut (s:List UInt8):List (List UInt8)×Bool:=if (ZL (s.drop 1)).all figs=true then (ZL (s.drop 1),(Zbb 64 (s.drop 1)).2.2 == decide (((nth s 0).toNat:Int)=114)) else ([],false)
def Zbk (b:UInt8) (r:List UInt8):Option (List (List UInt8)):=
 match r.dropWhile digit with
 | []=>if r.takeWhile digit≠[]∧b≠114 then some [r.takeWhile digit] else none
 | x :: e=>if x=64∧b=114∧r.takeWhile digit≠[] then
     match e.dropWhile digit with
     | []=>if e.takeWhile digit≠[] then some [r.takeWhile digit,e.takeWhile digit] else none
     | y :: e2=>if y=46∧e.takeWhile digit≠[]∧figs e2=true then some [r.takeWhile digit,e.takeWhile digit,e2] else none
     else none
theorem Znp (c b:UInt8) (l:List UInt8):Zbb c (b :: l)=if b=c then ([],l,true) else (b :: (Zbb c l).1,(Zbb c l).2.1,(Zbb c l).2.2):=by
 have hb:=ZaU c l
 unfold Zbb
 by_cases h:b=c
 · rw [if_pos h,show Lib.indexByte (b :: l) c=0 by unfold Lib.indexByte;rw [if_pos (by simpa using h)]]
   rfl
 · rw [if_neg h]
   by_cases h1:Lib.indexByte l c = -1
   · rw [show Lib.indexByte (b :: l) c = -1 by unfold Lib.indexByte;rw [if_neg (by simpa using h),if_pos (by simpa using h1)],h1]
     rfl
   · rw [show Lib.indexByte (b :: l) c=Lib.indexByte l c+1 by conv=>lhs;unfold Lib.indexByte;rw [if_neg (by simpa using h),if_neg (by simpa using h1)]]
     rw [if_neg (by omega),if_neg (by omega),show (Lib.indexByte l c+1).toNat=(Lib.indexByte l c).toNat+1 by omega]
     rfl
theorem Zie {c:UInt8} (hc:digit c=false):∀ r:List UInt8,(r.dropWhile digit = []→Zbb c r=(r,[],false)∧r.takeWhile digit=r)∧(∀ e,r.dropWhile digit=c :: e→Zbb c r=(r.takeWhile digit,e,true))∧(∀ x e,r.dropWhile digit=x :: e→x≠c→(Zbb c r).1.all digit=false)
 | []=>⟨fun _=>⟨rfl,rfl⟩,fun e h=>(by cases h),fun x e h=>(by cases h)⟩
 | b :: l=>by
   obtain ⟨h1,h2,h3⟩:=Zie hc l
   rw [Znp]
   by_cases hb:digit b=true
   · have hbc:b≠c:=by intro e;rw [e,hc] at hb;cases hb
     rw [if_neg hbc,List.dropWhile_cons_of_pos hb,List.takeWhile_cons_of_pos hb]
     refine ⟨fun h=>?_,fun e h=>?_,fun x e h hx=>?_⟩
     · rw [(h1 h).1,(h1 h).2];exact ⟨rfl,rfl⟩
     · rw [h2 e h]
     · rw [List.all_cons,h3 x e h hx,Bool.and_false]
   · rw [List.dropWhile_cons_of_neg hb,List.takeWhile_cons_of_neg hb]
     refine ⟨fun h=>(by cases h),fun e h=>?_,fun x e h hx=>?_⟩
     · rw [List.cons.injEq] at h
       rw [if_pos h.1,h.2]
     · rw [List.cons.injEq] at h
       rw [if_neg (by rw [h.1];exact hx),List.all_cons]
       simp [hb]
theorem Zib (r:List UInt8):(r.takeWhile digit).all digit=true:=by simp
theorem ZiW (r:List UInt8):figs (r.takeWhile digit)=decide (r.takeWhile digit≠[]):=by unfold figs;rw [Zib,Bool.and_true]
theorem Zlv {s:List UInt8} (h:s.all digit=false):figs s=false:=by unfold figs;rw [h,Bool.and_false]
theorem ZqB (b:UInt8):decide ((b.toNat:Int)=114)=decide (b=114):=by
 refine decide_eq_decide.2 ⟨fun h=>?_,fun h=>by rw [h];rfl⟩
 exact ZjS (d:=114) (by rw [h];rfl)
theorem ZlA (b:UInt8) (r:List UInt8):(opCut (b :: r)).2=(Zbk b r).isSome ∧ ∀ l,Zbk b r=some l→(opCut (b :: r)).1=l:=by
 have e0:(b :: r).drop 1=r:=rfl
 have e1:nth (b :: r) 0=b:=rfl
 unfold opCut
 rw [e0,e1,ZqB]
 obtain ⟨h1,h2,h3⟩:=Zie (c:=64) (by decide) r
 unfold Zbk
 match hE:r.dropWhile digit with
 | []=>
   obtain ⟨g1,g2⟩:=h1 hE
   unfold ZL
   rw [g1]
   simp only [Bool.false_eq_true,if_false]
   have hall:r.all digit=true:=by have:=Zib r;rwa [g2] at this
   rw [g2]
   by_cases hr:r = []
   · subst hr;simp [figs]
   · by_cases hb:b=114
     · simp [figs,hr,hall,hb]
     · simp [figs,hr,hall,hb]
 | x :: e=>
   by_cases hx:x=64
   · subst hx
     have g1:=h2 e hE
     obtain ⟨k1,k2,k3⟩:=Zie (c:=46) (by decide) e
     unfold ZL
     rw [g1]
     simp only [if_true,true_and]
     by_cases hD:r.takeWhile digit = []
     · have hf:figs (r.takeWhile digit)=false:=by rw [hD];rfl
       rw [if_neg (c:=b=114∧_) (by simp [hD])]
       split <;> simp [hf]
     · have hf:figs (r.takeWhile digit)=true:=by rw [ZiW];simpa using hD
       by_cases hb:b=114
       · subst hb
         rw [if_pos (c:=(114:UInt8)=114∧_) ⟨rfl,hD⟩]
         match hE2:e.dropWhile digit with
         | []=>
           obtain ⟨q1,q2⟩:=k1 hE2
           have hall:e.all digit=true:=by have:=Zib e;rwa [q2] at this
           rw [q1]
           simp only [Bool.false_eq_true,if_false]
           rw [q2]
           by_cases he:e = []
           · subst he;simp [figs]
           · have hfe:figs e=true:=by simp [figs,he,hall]
             simp [hf,hfe,he]
         | y :: e2=>
           by_cases hy:y=46
           · subst hy
             rw [k2 e2 hE2]
             simp only [if_true,true_and]
             by_cases hD2:e.takeWhile digit = []
             · have hf2:figs (e.takeWhile digit)=false:=by rw [hD2];rfl
               rw [if_neg (c:=e.takeWhile digit≠[]∧_) (by simp [hD2])]
               simp only [List.all_cons,hf2,Bool.false_and,Bool.and_false,Bool.false_eq_true,if_false]
               exact ⟨rfl,fun l h=>by cases h⟩
             · have hf2:figs (e.takeWhile digit)=true:=by rw [ZiW];simpa using hD2
               by_cases hf3:figs e2=true
               · simp [hf,hf2,hf3,hD2]
               · simp [hf3]
           · have hf2:figs (Zbb 46 e).1=false:=Zlv (k3 y e2 hE2 hy)
             dsimp only
             rw [if_neg (c:=y=46∧_) (by simp [hy])]
             split <;> simp [hf2]
       · rw [if_neg (c:=b=114∧_) (by simp [hb])]
         have:decide (b=114)=false:=decide_eq_false hb
         split <;> (split <;> simp [this])
   · dsimp only
     rw [if_neg (c:=x=64∧_) (by simp [hx])]
     have hf:figs (Zbb 64 r).1=false:=Zlv (h3 x e hE hx)
     have hp:(ZL r).all figs=false:=by unfold ZL;split <;> (try split) <;> simp [hf]
     rw [hp,if_neg (by simp)]
     exact ⟨rfl,fun l h=>by cases h⟩
def ZZ (o:OpD):Bool:=if o.read=true then ZbO ⟨o.tx,o.key,o.nth⟩ else (idB o.key && decide (o.tx=0)) && decide (o.nth=0)
def ofO (o:OpD):Zb1:=if o.read=true then ⟨o.tx,o.key,o.nth⟩ else noV
def Zap (o:OpD):List UInt8:=if ZZ o=false then [] else if o.read=false then 119 :: textL o.key else if o.tx=0 then (114 :: textL o.key) ++ [64,48] else (((114 :: textL o.key) ++ [64] ++ textL o.tx) ++ [46])++textL o.nth
def Zis:List (List UInt8)→Int
 | []=>0
 | x :: r=>if (readR x).2≠0 then (readR x).2 else Zis r
def Zby (l:List (List UInt8)):List Int:=l.map fun x=>(readR x).1
def ZqJ (rd:Bool) (l:List Int):OpD:=⟨rd,nth l 0,nth l 1,nth l 2⟩
def ZgD (rd:Bool) (ps:List (List UInt8)):OpD×Int:=
 if Zis ps≠0 then (Zmq,Zis ps) else if rd=true∧decide ((ZqJ rd (Zby ps)).tx=0)≠decide (ps.length=2) then (Zmq,5) else if ZZ (ZqJ rd (Zby ps))=true then (ZqJ rd (Zby ps),0) else (Zmq,1)
def opR (s:List UInt8):OpD×Int:=
 if s = []∨(nth s 0≠119∧nth s 0≠114) then (Zmq,5) else match Zbk (nth s 0) (s.drop 1) with
 | none=>(Zmq,5)
 | some l=>ZgD (decide (nth s 0=114)) l
theorem ZoX:∀ {l:List (List UInt8)} {i:Nat},i<l.length→(∀ j,j<i→(readR (nth l j)).2=0)→(readR (nth l i)).2≠0→Zis l=(readR (nth l i)).2
 | [],i,h,_,_=>by simp at h
 | x :: r,0,_,_,h=>by rw [Zis,show nth (x :: r) 0=x from rfl,if_pos (show (readR x).2≠0 from h)]
 | x :: r,i+1,h,k,hb=>by
   have h0:=k 0 (by omega)
   rw [Zis,if_neg (by rw [show nth (x :: r) 0=x from rfl] at h0;simp [h0])]
   exact ZoX (l:=r) (i:=i) (by simpa using h) (fun j hj=>k (j+1) (by omega)) hb
theorem Zfj:∀ {l:List (List UInt8)},(∀ j,j<l.length→(readR (nth l j)).2=0)→Zis l=0
 | [],_=>rfl
 | x :: r,k=>by
   have h0:=k 0 (by simp)
   rw [Zis,if_neg (by rw [show nth (x :: r) 0=x from rfl] at h0;simp [h0])]
   exact Zfj (l:=r) fun j hj=>k (j+1) (by simpa using hj)
theorem Zrs {α β:Type} [Inhabited α] [Inhabited β] {f:α→β} {l:List α} {i:Nat} (h:i<l.length):nth (l.map f) i=f (nth l i):=by
 rw [Zp (by simpa using h),Zp h]
 simp
theorem Zef {α β:Type} [Inhabited α] {f:α→β} {l:List α} {i:Nat} (h:i<l.length):(l.map f).take i ++ [f (nth l i)] = (l.map f).take (i+1):=by
 rw [List.take_succ_eq_append_getElem (by simpa using h),Zp h]
 simp
theorem ZmY {q:List Int} {i j:Nat} {v:Int} (h:i<q.length):nth (q.set i v) j=if j=i then v else nth q j:=by
 unfold nth
 rw [List.getD_eq_getElem?_getD,List.getD_eq_getElem?_getD,List.getElem?_set]
 by_cases e:i=j
 · subst e;simp [h]
 · rw [if_neg e,if_neg (fun h=>e h.symm)]
theorem ZpK {q:List Int} {i:Nat} {v:Int} {f:Nat→Int} (h:i<q.length) (k:∀ j,j<i→nth q j=f j) (hv:v=f i):∀ j,j<i+1→nth (q.set i v) j=f j:=by
 intro j hj
 rw [ZmY h]
 by_cases he:j=i
 · rw [if_pos he,he,hv]
 · rw [if_neg he]
   exact k j (by omega)
theorem ZoV {α:Type} [Inhabited α] {l:List α} {i:Nat} (h:l.length≤i):nth l i=default:=by unfold nth;rw [List.getD_eq_getElem?_getD,List.getElem?_eq_none h];rfl
theorem three {l:List Int} (h:l.length=3):∃ x0 x1 x2,l = [x0,x1,x2]:=by
 match l,h with
 | [x0,x1,x2],_=>exact ⟨x0,x1,x2,rfl⟩
theorem Zqj {s:List UInt8} (h:s = []∨(nth s 0≠119∧nth s 0≠114)):opR s=(Zmq,5):=by unfold opR;rw [if_pos h]
theorem Zft {s:List UInt8} (h:¬ (s = []∨(nth s 0≠119∧nth s 0≠114))) {l:List (List UInt8)} (k:Zbk (nth s 0) (s.drop 1)=some l):opR s=ZgD (decide (nth s 0=114)) l:=by unfold opR;rw [if_neg h,k]
theorem Zpa {s:List UInt8} (k:Zbk (nth s 0) (s.drop 1)=none):opR s=(Zmq,5):=by
 unfold opR
 split
 · rfl
 · rw [k]
theorem Zkd {s:List UInt8} (h:s≠[]):s=nth s 0 :: s.drop 1:=by
 match s,h with
 | b :: r,_=>rfl
theorem ZqM {s:List UInt8} (h:s≠[]) (k:(opCut s).2=false):opR s=(Zmq,5):=by
 refine Zpa ?_
 have:=(ZlA (nth s 0) (s.drop 1)).1
 rw [← Zkd h,k] at this
 cases hf:Zbk (nth s 0) (s.drop 1) with
 | none=>rfl
 | some l=>rw [hf] at this;cases this
theorem Zqr {s:List UInt8} (h:¬ (s = []∨(nth s 0≠119∧nth s 0≠114))) (k:(opCut s).2=true):opR s=ZgD (decide (nth s 0=114)) (opCut s).1:=by
 have h0:s≠[]:=fun e=>h (.inl e)
 obtain ⟨h1,h2⟩:=ZlA (nth s 0) (s.drop 1)
 rw [← Zkd h0] at h1 h2
 cases hf:Zbk (nth s 0) (s.drop 1) with
 | none=>rw [hf,k] at h1;cases h1
 | some l=>rw [h2 l hf,Zft h hf]
theorem ZiY (r:List UInt8):1≤(ZL r).length∧(ZL r).length≤3:=by
 unfold ZL
 split
 · split <;> simp
 · simp
theorem ZrD {s:List UInt8} (h:(opCut s).2=true):1≤(opCut s).1.length∧(opCut s).1.length≤3:=by
 unfold opCut at h ⊢
 split at h
 · rw [if_pos (by assumption)];exact ZiY _
 · cases h
theorem ZlJ (c:UInt8) (s:List UInt8):(Zbb c s).1.length≤s.length∧(Zbb c s).2.1.length≤s.length:=by
 unfold Zbb
 split
 · exact ⟨Nat.le_refl _,Nat.zero_le _⟩
 · exact ⟨by rw [List.length_take];omega,by rw [List.length_drop];omega⟩
theorem Zct (r:List UInt8):∀ x ∈ ZL r,x.length≤r.length:=by
 have h1:=ZlJ 64 r
 have h2:=ZlJ 46 (Zbb 64 r).2.1
 unfold ZL
 intro x hx
 split at hx
 · split at hx
   · simp only [List.mem_cons,List.not_mem_nil,or_false] at hx
     rcases hx with rfl | rfl | rfl <;> omega
   · simp only [List.mem_cons,List.not_mem_nil,or_false] at hx
     rcases hx with rfl | rfl <;> omega
 · simp only [List.mem_cons,List.not_mem_nil,or_false] at hx
   subst hx;omega
theorem Znc (s:List UInt8):∀ x ∈ (opCut s).1,x.length≤s.length:=by
 unfold opCut
 intro x hx
 split at hx
 · have:=Zct (s.drop 1) x hx
   rw [List.length_drop] at this
   omega
 · simp at hx
section
variable {b:UInt8} {r e e2:List UInt8}
theorem fW (h:r.dropWhile digit = []) (hD:r.takeWhile digit≠[]) (hb:b≠114):Zbk b r=some [r.takeWhile digit]:=by unfold Zbk;rw [h];exact if_pos ⟨hD,hb⟩
theorem fR3 (hb:b=114) (hD:r.takeWhile digit≠[]) (h:r.dropWhile digit=64 :: e) (h2:e.takeWhile digit≠[]) (h3:e.dropWhile digit = []):Zbk b r=some [r.takeWhile digit,e.takeWhile digit]:=by
 unfold Zbk
 rw [h]
 dsimp only
 rw [if_pos ⟨rfl,hb,hD⟩,h3]
 exact if_pos h2
theorem fR6 (hb:b=114) (hD:r.takeWhile digit≠[]) (h:r.dropWhile digit=64 :: e) (h2:e.takeWhile digit≠[]) (h3:e.dropWhile digit=46 :: e2) (h4:figs e2=true):Zbk b r=some [r.takeWhile digit,e.takeWhile digit,e2]:=by
 unfold Zbk
 rw [h]
 dsimp only
 rw [if_pos ⟨rfl,hb,hD⟩,h3]
 exact if_pos ⟨rfl,h2,h4⟩
end
theorem Zlr (s:List UInt8) (c:UInt8):valOf (s ++ [c])=valOf s*10+(c.toNat - 48):=by unfold valOf;rw [List.foldl_append];rfl
theorem Zfu {d:Nat} (h:d<10):(toB ((48+d:Nat):Int)).toNat=48+d:=by
 have:=Zoh (x:=((48+d:Nat):Int)) (by simp [inR,IntKind.min,IntKind.max,IntKind.signed,IntKind.bits];omega)
 omega
theorem ZqI {d:Nat} (h:d<10):digit (toB ((48+d:Nat):Int))=true:=by
 unfold digit
 rw [Zfu h,Bool.and_eq_true,decide_eq_true_eq,decide_eq_true_eq]
 omega
theorem ZoZ (n:Nat):∀ u:Nat,u≤n→valOf ((ZiQ u).map toB)=u∧((ZiQ u).map toB).all digit=true∧(u≠0→nth ((ZiQ u).map toB) 0≠48∧0<(ZiQ u).length):=by
 induction n with
 | zero=>intro u hu;rw [show u=0 by omega,Ze1];exact ⟨rfl,rfl,fun h=>absurd rfl h⟩
 | succ n ih=>
   intro u hu
   by_cases h0:u=0
   · rw [h0,Ze1];exact ⟨rfl,rfl,fun h=>absurd rfl h⟩
   · obtain ⟨h1,h2,h3⟩:=ih (u / 10) (by omega)
     rw [Zek h0]
     unfold ZdL
     rw [List.map_append]
     refine ⟨?_,?_,fun _=>⟨?_,by simp⟩⟩
     · show valOf ((ZiQ (u / 10)).map toB ++ [toB _])=u
       rw [Zlr,h1,Zfu (by omega)];omega
     · rw [List.all_append,h2]
       simp only [List.map_cons,List.map_nil,List.all_cons,List.all_nil,Bool.and_true,Bool.true_and]
       exact ZqI (by omega)
     · by_cases h4:u / 10=0
       · rw [h4,Ze1]
         show nth [toB _] 0≠48
         intro hh
         have:=congrArg UInt8.toNat hh
         simp only [nth,List.getD_cons_zero] at this
         rw [Zfu (by omega)] at this
         have e48:(48:UInt8).toNat=48:=rfl
         omega
       · obtain ⟨h5,h6⟩:=h3 h4
         intro hh
         refine h5 ?_
         have hl:0<((ZiQ (u / 10)).map toB).length:=by simpa using h6
         rw [Zp hl]
         rw [Zp (by rw [List.length_append];omega),List.getElem_append_left hl] at hh
         exact hh
theorem Zjd (u:Nat):valOf ((ZdL u).map toB)=u∧((ZdL u).map toB).all digit=true∧¬ (1<((ZdL u).map toB).length∧nth ((ZdL u).map toB) 0=48):=by
 by_cases h0:u=0
 · subst h0
   unfold ZdL
   rw [show (0:Nat) / 10=0 from rfl,Ze1]
   refine ⟨by rw [List.nil_append,List.map_cons,List.map_nil,← List.nil_append [toB _],Zlr,Zfu (by decide)];rfl,by simp only [List.nil_append,List.map_cons,List.map_nil,List.all_cons,List.all_nil,Bool.and_true];exact ZqI (by decide),fun h=>by simp at h⟩
 · obtain ⟨h1,h2,h3⟩:=ZoZ u u (Nat.le_refl _)
   rw [← Zek h0]
   exact ⟨h1,h2,fun h=>(h3 h0).1 h.2⟩
theorem Zgy {n:Int} (h0:0≤n):readR (textL n)=if 2147483647<n then (0,1) else (n,0):=by
 obtain ⟨h1,h2,h3⟩:=Zjd n.natAbs
 have e:textL n=(ZdL n.natAbs).map toB:=if_neg (by omega)
 have hne:¬ ((ZdL n.natAbs).map toB = []∨(1<((ZdL n.natAbs).map toB).length∧nth ((ZdL n.natAbs).map toB) 0=48)):=by
   rintro (h | h)
   · exact Zoj n.natAbs (by simpa using h)
   · exact h3 h
 unfold readR
 rw [e,if_neg hne,if_neg (by rw [h2];decide),h1]
 by_cases h:2147483647<n
 · rw [if_pos (by omega),if_pos h]
 · rw [if_neg (by omega),if_neg h]
   congr 1
   omega
def ZbD (o:OpD):Int:=if ZZ o=true then 0 else 1
theorem Zb4 {o:OpD} (h:ZZ o=true):(1≤o.key∧o.key≤1048575)∧(0≤o.tx∧o.tx≤1048575)∧(0≤o.nth∧o.nth≤4095):=by
 unfold ZZ at h
 split at h
 · unfold ZbO at h
   dsimp only at h
   split at h <;> simp only [Bool.and_eq_true,decide_eq_true_eq,Zj6] at h <;> omega
 · simp only [Bool.and_eq_true,decide_eq_true_eq,Zj6] at h
   omega
theorem ZgT {o:OpD} (h:o.read=true):ZZ o=ZbO (ofO o):=by unfold ZZ ofO;rw [if_pos h,if_pos h]
theorem ZdI {o:OpD} (h:o.read=false):ZZ o=((idB o.key && decide (o.tx=0)) && decide (o.nth=0)):=by unfold ZZ;rw [if_neg (by rw [h];decide)]
theorem Zl7 (v:Zb1):(Zqt v).2=if ZbO v=true then 0 else 1:=by unfold Zqt;split <;> rfl
theorem ZqH (o:OpD):FnP Tryz.prog 105 [.agg (rOp o)] (.agg (ZO (ofO o))):=by
 refine FnP.mk Tryz.func105 rfl Tryz.ntmps105 rfl ?_
 intro B a w F hB hfr hS
 refine wp_seq ?_
 refine Zc hS (qx 101 r1 (qf (oH [.int .i64 0,.int .i64 0,.int .i64 0] 102) trivial qz qZ)) hB [2,1] [102,101,0] (fun _=>rfl) (fun _=>rfl) fun τ a w F hS=>?_
 try dsimp only [RS.sub,SF.sub,CF.sub,csub,Anc.sub,List.map,zCF] at hS
 generalize τ 1=v1 at hS
 generalize τ 2=v2 at hS
 refine Zb (wp_seq (wp_seq ?_))
 refine Za hS (qg 0 101 r1 r1 (qa 101 r1 r1 (qf (o_not .t) r1 qz qZ))) hB [5,2,1] [102,101,0] rfl rfl fun a w F hS=>Zb ?_
 refine Zd hS rfl (fun hc0=>?_) (fun hc0=>?_)
 ·skip
  have hr:o.read=false:=by simpa using hc0
  refine wp_seq ?_
  refine Za hS (qf (oB [] [.int .i64 0,.int .i64 0,.int .i64 0] [(0,1),(1,1),(2,1)] .nil) trivial qz (qs 3 102 r2 r1 qZ)) hB [2,1] [102,101,0] rfl rfl fun a w F hS=>Zb (wp_ret (Ze ?_))
  refine Zt hfr hS rfl (.cl 102 true 3 rfl rfl .nil) (.one (.aggU rfl (by unfold ofO;rw [hr];rfl)))
 have hr:o.read=true:=by simpa using hc0
 refine wp_skip (Zb (wp_seq ?_))
 refine Za hS (qg 2 101 r1 r1 (qa 101 r1 r1 (qg 1 101 r1 r1 (qa 101 r1 r1 (qg 3 101 r1 r1 (qa 101 r1 r1 (qf (oB [(0,.tmp 8),(1,.tmp 10),(2,.tmp 12)] [.int .i64 0,.int .i64 0,.int .i64 0] [(0,1),(1,1),(2,1)] (.one rfl .t one_int (by kernel_rfl) (.one rfl .t one_int (by kernel_rfl) (.one rfl .t one_int (by kernel_rfl) .nil)))) r3 qz (qs 3 102 r2 r1 qZ)))))))) hB [2] [102,101,0] rfl rfl fun a w F hS=>Zb (wp_ret ?_)
 refine Zt hfr hS rfl (.cl 102 true 3 rfl rfl .nil) (.one (.aggU rfl (by unfold ofO;rw [hr];rfl)))
theorem Zd7 (o:OpD):FnP Tryz.prog 58 [.agg (rOp o)] (.int .i64 (ZbD o)):=by
 refine FnP.mk Tryz.func58 rfl Tryz.ntmps58 rfl ?_
 intro B a w F hB hfr hS
 refine wp_seq ?_
 refine Zc hS (qx 101 r1 (qI qZ)) hB [2,1] [101,0] (fun _=>rfl) (fun _=>rfl) fun τ a w F hS=>?_
 try dsimp only [RS.sub,SF.sub,CF.sub,csub,Anc.sub,List.map,zCF] at hS
 generalize τ 1=v1 at hS
 refine Zb (wp_seq (wp_seq ?_))
 refine Za hS (qg 0 101 r1 r1 (qa 101 r1 r1 qZ)) hB [6,2,1] [101,0] rfl rfl fun a w F hS=>Zb ?_
 refine Zd hS rfl (fun hc0=>?_) (fun hc0=>?_)
 ·skip
  have hg:(Zqt (ofO o)).2=ZbD o:=by rw [Zl7];unfold ZbD;rw [ZgT hc0]
  refine wp_seq ?_
  refine Za hS (qe 4 101 r1 r1 (qf (oP (ZqH o) Tryz.func105 (Args.one (.pagg .t))) r1 qz (qf (oP (Znx (ofO o)) Tryz.func104 (Args.one .t)) r1 qz (qM rfl rfl (qf (o_extract .t rfl) r1 qz (qf (o_extract .t rfl) r1 qz (qN rfl rfl (qN rfl rfl qZ)))))))) hB [4,2,1] [101,0] rfl rfl fun a w F hS=>Zb (wp_seq ?_)
  refine Za hS (qM rfl rfl (qN rfl rfl qZ)) hB [2,1] [101,0] rfl rfl fun a w F hS=>Zb (wp_ret (Ze ?_))
  refine Zq hfr hS rfl rfl rfl (.int hg)
 have hr:o.read=false:=hc0
 refine wp_skip (Zb (wp_seq (wp_seq ?_)))
 refine Za hS (qe 4 101 r1 r1 (qg 1 101 r1 r1 (qa 101 r1 r1 (qf (oB [(1,.tmp 16)] [.bool false,.int .i64 0,.int .i64 0,.int .i64 0] [(0,1),(1,1),(2,1),(3,1)] (.one rfl .t one_int (by kernel_rfl) .nil)) r1 qz (qf (Zoz (ks:=[false,true,true,true]) (by kernel_rfl) .t .t (.bool (.int (.int (.int .nil))))) r2 qz (qM rfl rfl (qv 1 101 rfl r2 r1 (qw 101 rfl r2 r1 (qk rfl (fun h=>Zbq (.w h) qi) r2 qz (qf (Zao .t .t) r2 qz (qM rfl rfl (qv 1 101 rfl r2 r1 (qw 101 rfl r2 r1 (qk rfl (fun h=>ZaR (.w h) qi) r2 qz (qf (Zao .t .t) r2 qz qZ))))))))))))))) hB [28,2] [101,0] rfl rfl fun a w F hS=>Zb ?_
 refine Zd hS rfl (fun hc1=>?_) (fun hc1=>?_)
 ·skip
  have hg:(1:Int)=ZbD o:=by
    unfold ZbD
    rw [if_neg]
    rw [ZdI hr]
    simp [hr,idB] at hc1 ⊢
    omega
  refine wp_seq ?_
  refine Za hS (qI qZ) hB [2] [101,0] rfl rfl fun a w F hS=>Zb (wp_ret (Ze ?_))
  refine Zq hfr hS rfl rfl rfl (.int hg)
 have hg:(0:Int)=ZbD o:=by
   unfold ZbD
   rw [if_pos]
   rw [ZdI hr]
   simp [hr,idB] at hc1 ⊢
   omega
 refine wp_skip (Zb (wp_seq ?_))
 refine Za hS (qI qZ) hB [2] [101,0] rfl rfl fun a w F hS=>Zb (wp_ret ?_)
 refine Zq hfr hS rfl rfl rfl (.int hg)
theorem Zle (o:OpD):FnP Tryz.prog 86 [.agg (rOp o)] (.bs (Zap o)):=by
 refine FnP.mk Tryz.func86 rfl Tryz.ntmps86 rfl ?_
 intro B a w F hB hfr hS
 refine wp_seq ?_
 refine Zc hS (qx 101 r1 (qf (oN (.cs (by kernel_rfl))) trivial qz qZ)) hB [2,1] [101,0] (fun _=>rfl) (fun _=>rfl) fun τ a w F hS=>?_
 try dsimp only [RS.sub,SF.sub,CF.sub,csub,Anc.sub,List.map,zCF] at hS
 generalize τ 1=v1 at hS
 refine Zb (wp_seq (wp_block (wp_seq ?_)))
 refine Za hS (qe 4 101 r1 r1 (qf (oP (Zd7 o) Tryz.func58 (Args.one (.pagg .t))) r1 qz (qf (o_neq .t qi) r1 qz (qN rfl rfl qZ)))) hB [3,2,1] [101,0] rfl rfl fun a w F hS=>Zb ?_
 refine Zd hS rfl (fun hc0=>?_) (fun hc0=>?_)
 ·skip
  have hg:([]:List UInt8)=Zap o:=by unfold Zap;rw [if_pos];unfold ZbD at hc0;simpa using hc0
  refine wp_seq ?_
  refine Za hS (qf (oN (.cs (by kernel_rfl))) trivial qz qZ) hB [2,1] [101,0] rfl rfl fun a w F hS=>Zb (wp_ret (Zg (Ze ?_)))
  refine Zq hfr hS rfl rfl rfl (.bs hg)
 have hk:ZZ o=true:=by unfold ZbD at hc0;simpa using hc0
 have hb:=Zb4 hk
 have l1:=Zaf (n:=o.key) (by omega)
 have l2:=Zaf (n:=o.tx) (by omega)
 have l3:=Zaf (n:=o.nth) (by omega)
 refine wp_seq ?_
 refine Za hS (qg 0 101 r1 r1 (qa 101 r1 r1 (qf (o_not .t) r1 qz (qN rfl rfl qZ)))) hB [7,2,1] [101,0] rfl rfl fun a w F hS=>Zb ?_
 refine Zd hS rfl (fun hc1=>?_) (fun hc1=>?_)
 ·skip
  have hg:[119] ++ textL o.key=Zap o:=by unfold Zap;rw [if_neg (by rw [hk];decide)];rw [if_pos (by simpa using hc1)];rfl
  refine wp_seq ?_
  refine Za hS (qg 1 101 r1 r1 (qa 101 r1 r1 (qf (oP (Zdu _) Tryz.func47 (Args.one .t)) r1 qz (qf (Za4 (.cs (by kernel_rfl)) .t (by simp only [List.length_append,List.length_cons,List.length_nil];omega)) r1 qz (qN rfl rfl qZ))))) hB [2,1] [101,0] rfl rfl fun a w F hS=>Zb (wp_ret (Zg (Ze ?_)))
  refine Zq hfr hS rfl rfl rfl (.bs hg)
 have hr:o.read=true:=by simpa using hc1
 refine wp_seq ?_
 refine Za hS (qg 2 101 r1 r1 (qa 101 r1 r1 (qf (o_eql .t qi) r1 qz (qN rfl rfl qZ)))) hB [15,2,1] [101,0] rfl rfl fun a w F hS=>Zb ?_
 refine Zd hS rfl (fun hc2=>?_) (fun hc2=>?_)
 ·skip
  have hg:([114] ++ textL o.key) ++ [64,48] = Zap o:=by unfold Zap;rw [if_neg (by rw [hk];decide)];rw [if_neg (by rw [hr];decide),if_pos (by simpa using hc2)];rfl
  refine wp_seq ?_
  refine Za hS (qg 1 101 r1 r1 (qa 101 r1 r1 (qf (oP (Zdu _) Tryz.func47 (Args.one .t)) r1 qz (qf (Za4 (.cs (by kernel_rfl)) .t (by simp only [List.length_append,List.length_cons,List.length_nil];omega)) r1 qz (qf (Za4 .t (.cs (by kernel_rfl)) (by simp only [List.length_append,List.length_cons,List.length_nil];omega)) r1 qz (qN rfl rfl qZ)))))) hB [2,1] [101,0] rfl rfl fun a w F hS=>Zb (wp_ret (Zg (Ze ?_)))
  refine Zq hfr hS rfl rfl rfl (.bs hg)
 have hg:((((([114] ++ textL o.key) ++ [64])++textL o.tx) ++ [46])++textL o.nth)=Zap o:=by unfold Zap;rw [if_neg (by rw [hk];decide)];rw [if_neg (by rw [hr];decide),if_neg (by simpa using hc2)];rfl
 refine wp_skip (Zh (Zb (wp_seq ?_)))
 refine Zz hS (qg 1 101 r1 r1 (qa 101 r1 r1 (qf (oP (Zdu _) Tryz.func47 (Args.one .t)) r1 qz (qf (Za4 (.cs (by kernel_rfl)) .t (by simp only [List.length_append,List.length_cons,List.length_nil];omega)) r1 qz (qf (Za4 .t (.cs (by kernel_rfl)) (by simp only [List.length_append,List.length_cons,List.length_nil];omega)) r1 qz (qg 2 101 r1 r1 (qa 101 r1 r1 (qf (oP (Zdu _) Tryz.func47 (Args.one .t)) r1 qz (qf (Za4 .t .t (by simp only [List.length_append,List.length_cons,List.length_nil];omega)) r2 qz (qf (Za4 .t (.cs (by kernel_rfl)) (by simp only [List.length_append,List.length_cons,List.length_nil];omega)) r1 qz (qg 3 101 r1 r1 (qa 101 r1 r1 (qf (oP (Zdu _) Tryz.func47 (Args.one .t)) r1 qz (qf (Za4 .t .t (by simp only [List.length_append,List.length_cons,List.length_nil];omega)) r2 qz (qN rfl rfl qZ))))))))))))))) hB [2] [101,0] rfl rfl fun a w F hS=>?_
 try dsimp only [List.map,xD,xE,xT,xU,ldSF] at hS
 refine Zb (wp_ret ?_)
 refine Zq hfr hS rfl rfl rfl (.bs hg)
theorem Zm6:textL 0 = [48]:=by decide +kernel
def tenL:List UInt8:=[48,49,50,51,52,53,54,55,56,57]
def ZmI (i:Nat):List Bool:=(tenL.take i).foldl (fun l c=>l.set c.toNat true) (List.replicate 256 false)
theorem ZcO:∀ i,i≤10→(ZmI i).length=256:=by decide +kernel
theorem Zmw:∀ i,i<10→ZmI (i+1)=(ZmI i).set (nth tenL i).toNat true:=by decide +kernel
theorem Zqi:∀ i,i<10→(nth tenL i).toNat<128:=by decide +kernel
def Zp2:List Bool:=ZmI 10
theorem Zo3:∀ n,n<256→nth Zp2 n=(decide (48≤n) && decide (n≤57)):=by decide +kernel
theorem Zq3 (c:UInt8):nth Zp2 c.toNat=digit c:=Zo3 _ c.toNat_lt
def Zd4 (s:List UInt8):List UInt8:=(s.reverse.dropWhile digit).reverse
theorem Zhy (s:List UInt8) (c:UInt8):Zd4 (s ++ [c])=if digit c=true then Zd4 s else s ++ [c]:=by
 unfold Zd4
 rw [List.reverse_append,List.reverse_singleton,List.singleton_append,List.dropWhile_cons]
 split
 · rfl
 · simp
theorem ZmP {s:List UInt8} (h:0<s.length):s.take (s.length - 1) ++ [nth s (s.length - 1)] = s:=by
 have:=Zjt (q:=s) (k:=s.length - 1) (by omega)
 rw [this,show s.length - 1+1=s.length by omega,List.take_length]
theorem ZcI:∀ s:List UInt8,s.dropWhile digit = [] ↔ s.all digit=true
 | []=>by simp
 | b :: l=>by
   by_cases hb:digit b=true
   · rw [List.dropWhile_cons_of_pos hb,List.all_cons,hb,Bool.true_and];exact ZcI l
   · rw [List.dropWhile_cons_of_neg hb,List.all_cons];simp [hb]
theorem ZpX (s:List UInt8):(Zd4 s).dropWhile digit = [] ↔ s.all digit=true:=by
 rw [ZcI]
 unfold Zd4
 constructor
 · intro h
   rw [List.all_reverse] at h
   have h2:=(ZcI s.reverse)
   have h3:s.reverse.dropWhile digit = []:=by
     match hd:s.reverse.dropWhile digit with
     | []=>rfl
     | x :: e=>
       have hx:=List.head_dropWhile_not digit (l:=s.reverse) (by rw [hd];simp)
       simp only [hd,List.head_cons] at hx
       rw [hd,List.all_cons,hx] at h
       cases h
   rw [← List.all_reverse]
   exact h2.1 h3
 · intro h
   have:s.reverse.dropWhile digit = []:=(ZcI _).2 (by rw [List.all_reverse];exact h)
   rw [this]
   rfl
theorem Zhf (c:UInt8):FnP Tryz.prog 197 [.ref (Zp2.map (fun x=>PV.bool x)),.int .u8 ((c.toNat:Nat):Int)] (.bool (digit c)):=by
 refine FnP.mk Tryz.func197 rfl Tryz.ntmps197 rfl ?_
 intro B a w F hB hfr hS
 refine wp_seq ?_
 refine Za hS qB hB [4,1,0] [0] rfl rfl fun a w F hS=>Zb (wp_seq ?_)
 refine Za hS (qM rfl rfl (qM rfl rfl (qf (ZgQ .t) r1 qz (qf (Zfi (f:=(fun x=>PV.bool x)) Tryz.underlying254 (by kernel_rfl) .t .t (by omega) (by have:=c.toNat_lt;omega) rfl) r2 qz (qf (oR false 1 .t) r1 qz (qN rfl rfl qZ)))))) hB [4] [0] rfl rfl fun a w F hS=>Zb (wp_ret ?_)
 refine Zq hfr hS rfl rfl rfl (.bool (by rw [show ((c.toNat:Nat):Int).toNat=c.toNat from Int.toNat_natCast _,Zq3]))
theorem ZqV (s0:List UInt8) (hs:s0.length≤9223372036854775807):FnP Tryz.prog 193 [.bs s0,.ref (Zp2.map (fun x=>PV.bool x))] (.bs (s0.dropWhile digit)):=by
 refine FnP.mk Tryz.func193 rfl Tryz.ntmps193 rfl ?_
 intro B a w F hB hfr hS
 refine wp_seq ?_
 refine Za hS (qf (oN (.cs (by kernel_rfl))) trivial qz qZ) hB [4,1,0] [0] rfl rfl fun a w F hS=>Zb (wp_seq (wp_block ?_))
 obtain ⟨F,hS⟩:=hS.nm [1,0] [0] rfl rfl
 refine ZG (σ:=(List UInt8)) (fun s=>(⟨[(0,.pv (.bs s)),(1,.pv (.ref (Zp2.map (fun x=>PV.bool x))))],[(0,frame B)]⟩:En)) (fun s=>s.dropWhile digit=s0.dropWhile digit∧s.length≤s0.length) (fun s=>s.length) s0 hS ⟨rfl,Nat.le_refl _⟩ ?_
 clear hS;intro r a w F hC hS
 try dsimp only at hC
 try dsimp only at hS
 obtain ⟨hr,hrl⟩:=hC
 refine wp_seq (wp_seq ?_)
 refine Za hS (qM rfl rfl (qf (Z0 Tryz.underlying9 .t) r1 qz (qf (ZaR .t qi) r1 qz qZ))) hB [7,1,0] [0] rfl rfl fun a w F hS=>Zb ?_
 refine Zd hS rfl (fun hc0=>?_) (fun hc0=>?_)
 ·skip
  have hl0:0<r.length:=by have h9:=of_decide_eq_true hc0;omega
  have hb0:=Zkd (List.length_pos_iff.1 hl0)
  refine wp_skip (Zb (wp_block (wp_seq (wp_seq ?_))))
  refine Za hS (qM rfl rfl (qM rfl rfl (qf (Z4 Tryz.underlying9 .t qi (by decide) (by omega)) r1 qz (qf (oP (Zhf (nth r 0)) Tryz.func197 (Args.two .t .t)) r2 qz (qf (o_not .t) r1 qz qZ))))) hB [12,1,0] [0] rfl rfl fun a w F hS=>Zb ?_
  refine Zd hS rfl (fun hc1=>?_) (fun hc1=>?_)
  ·skip
   have hend:r=r.dropWhile digit:=by
     simp at hc1
     conv=>rhs;rw [hb0,List.dropWhile_cons_of_neg (by rw [hc1];simp)]
     exact hb0
   refine wp_exit (Zi ?_)
   refine Zj1 (by decide) ?_
   refine Zi (Zo (Zb (wp_seq ?_)))
   refine Za hS (qM rfl rfl (qN rfl rfl qZ)) hB [4] [0] rfl rfl fun a w F hS=>Zb (wp_ret ?_)
   refine Zq hfr hS rfl rfl rfl (.bs (by rw [← hr];exact hend))
  have hd:digit (nth r 0)=true:=by simpa using hc1
  refine wp_skip (Zb ?_)
  refine Za hS (qM rfl rfl (qf (Zbz Tryz.underlying9 .t qi (by decide) (by omega)) r1 qz (qN rfl rfl qZ))) hB [1,0] [0] rfl rfl fun a w F hS=>Zh (Zb ?_)
  obtain ⟨F,hS⟩:=hS.nm [1,0] [0] rfl rfl
  exact ⟨r.drop 1,F,⟨by rw [← hr];conv=>rhs;rw [hb0,List.dropWhile_cons_of_pos hd],by rw [List.length_drop];omega⟩,hS,by rw [List.length_drop];omega⟩
 have h9:=of_decide_eq_false hc0
 have hend:r=r.dropWhile digit:=by rw [List.length_eq_zero_iff.1 (by omega:r.length=0)];rfl
 refine wp_exit (Zi (Zi (Zo (Zb (wp_seq ?_)))))
 refine Za hS (qM rfl rfl (qN rfl rfl qZ)) hB [4] [0] rfl rfl fun a w F hS=>Zb (wp_ret ?_)
 refine Zq hfr hS rfl rfl rfl (.bs (by rw [← hr];exact hend))
theorem ZrT (s0:List UInt8) (hs:s0.length≤9223372036854775807):FnP Tryz.prog 194 [.bs s0,.ref (Zp2.map (fun x=>PV.bool x))] (.bs (Zd4 s0)):=by
 refine FnP.mk Tryz.func194 rfl Tryz.ntmps194 rfl ?_
 intro B a w F hB hfr hS
 refine wp_seq ?_
 refine Za hS (qf (oN (.cs (by kernel_rfl))) trivial qz qZ) hB [4,1,0] [0] rfl rfl fun a w F hS=>Zb (wp_seq (wp_block ?_))
 obtain ⟨F,hS⟩:=hS.nm [1,0] [0] rfl rfl
 refine ZG (σ:=(List UInt8)) (fun s=>(⟨[(0,.pv (.bs s)),(1,.pv (.ref (Zp2.map (fun x=>PV.bool x))))],[(0,frame B)]⟩:En)) (fun s=>Zd4 s=Zd4 s0∧s.length≤s0.length) (fun s=>s.length) s0 hS ⟨rfl,Nat.le_refl _⟩ ?_
 clear hS;intro r a w F hC hS
 try dsimp only at hC
 try dsimp only at hS
 obtain ⟨hr,hrl⟩:=hC
 refine wp_seq (wp_seq ?_)
 refine Za hS (qM rfl rfl (qf (Z0 Tryz.underlying9 .t) r1 qz (qf (ZaR .t qi) r1 qz qZ))) hB [7,1,0] [0] rfl rfl fun a w F hS=>Zb ?_
 refine Zd hS rfl (fun hc0=>?_) (fun hc0=>?_)
 ·skip
  have hl0:0<r.length:=by have h9:=of_decide_eq_true hc0;omega
  have hb0:=ZmP hl0
  have hw1:IntKind.wrap .i64 ((r.length:Int) - 1)=((r.length - 1:Nat):Int):=by rw [ZC (by omega)];omega
  refine wp_skip (Zb (wp_block (wp_seq (wp_seq ?_))))
  refine Za hS (qM rfl rfl (qM rfl rfl (qM rfl rfl (qf (Z0 Tryz.underlying9 .t) r1 qz (qf (o_sub .t qi) r1 qz (qf (Z4 Tryz.underlying9 .t .t (by rw [hw1];omega) (by rw [hw1];omega)) r2 qz (qf (oP (Zhf (nth r (IntKind.wrap .i64 ((r.length:Int) - 1)).toNat)) Tryz.func197 (Args.two .t .t)) r2 qz (qf (o_not .t) r1 qz qZ)))))))) hB [15,1,0] [0] rfl rfl fun a w F hS=>Zb ?_
  refine Zd hS rfl (fun hc1=>?_) (fun hc1=>?_)
  ·skip
   have hend:r=Zd4 r:=by
     simp at hc1
     rw [hw1,Int.toNat_natCast] at hc1
     conv=>rhs;rw [← hb0,Zhy,if_neg (by rw [hc1];simp)]
     exact hb0.symm
   refine wp_exit (Zi ?_)
   refine Zj1 (by decide) ?_
   refine Zi (Zo (Zb (wp_seq ?_)))
   refine Za hS (qM rfl rfl (qN rfl rfl qZ)) hB [4] [0] rfl rfl fun a w F hS=>Zb (wp_ret ?_)
   refine Zq hfr hS rfl rfl rfl (.bs (by rw [← hr];exact hend))
  have hd:digit (nth r (r.length - 1))=true:=by rw [hw1,Int.toNat_natCast] at hc1;simpa using hc1
  refine wp_skip (Zb ?_)
  refine Za hS (qM rfl rfl (qM rfl rfl (qf (Z0 Tryz.underlying9 .t) r1 qz (qf (o_sub .t qi) r1 qz (qf (Zcl Tryz.underlying9 .t .t (by rw [hw1];omega) (by rw [hw1];omega)) r2 qz (qN rfl rfl qZ)))))) hB [1,0] [0] rfl rfl fun a w F hS=>?_
  rw [hw1,Int.toNat_natCast] at hS
  refine Zh (Zb ?_)
  obtain ⟨F,hS⟩:=hS.nm [1,0] [0] rfl rfl
  exact ⟨r.take (r.length - 1),F,⟨by rw [← hr];conv=>rhs;rw [← hb0,Zhy,if_pos hd],by rw [List.length_take];omega⟩,hS,by rw [List.length_take];omega⟩
 have h9:=of_decide_eq_false hc0
 have hend:r=Zd4 r:=by rw [List.length_eq_zero_iff.1 (by omega:r.length=0)];rfl
 refine wp_exit (Zi (Zi (Zo (Zb (wp_seq ?_)))))
 refine Za hS (qM rfl rfl (qN rfl rfl qZ)) hB [4] [0] rfl rfl fun a w F hS=>Zb (wp_ret ?_)
 refine Zq hfr hS rfl rfl rfl (.bs (by rw [← hr];exact hend))
end Go.Proofs.YtjhapicamnijnaaGreatDoor
