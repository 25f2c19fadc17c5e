/- Texts put together. No condition beyond those that each theorem says. -/
import Derived.Test.YtdpkkdigojkpaaaGreatJ6
import Derived.Test.YtdpkkdigojkpaaaGreatLibE
import Derived.Test.YtdpkkdigojkpaaaGreatJ2
import Derived.Test.YtdpkkdigojkpaaaGreatJ4
import Derived.Test.YtdpkkdigojkpaaaGreatJ3
import Derived.Test.YtdpkkdigojkpaaaGreatJ1
namespace Go.Proofs.YtdpkkdigojkpaaaGreat
open Go Go.Gm
set_option linter.unusedVariables false
set_option linter.unusedSimpArgs false
set_option maxHeartbeats 4000000
set_option maxRecDepth 8000
def Zfi (x:Int):List PV:=[.int .i32 x]
def Zhe (p:Int×List Int):List PV:=[.int .i64 p.1,.sl Zo p.2]
def ZrP (cl:PV) (n:Nat) (s:Za4) (v wv lv sv iv ov:Value):List RS:=[.pt (.val v) 283 [.pv cl,.pv (.is wv),.pv (.is lv),.pv (.is sv),.pv (.is iv),.pv (.int .i32 s.ck),.pv (.is ov)],.ob (.val wv) (Zu 21 1 Zfi s.wh),.ob (.val lv) (Zu 21 1 Zfi s.lo),RS.hp (stH sv n s.wait),RS.hp (Zgc n s.inn iv),.ob (.val ov) (Zu 3 1 Zo s.out)]
def Zb0 (cl:PV) (n:Nat) (s:Za4) (v:Value):HP:=.ex fun wv:Value=>.ex fun lv:Value=>.ex fun sv:Value=>.ex fun iv:Value=>.ex fun ov:Value=>.star (ZrP cl n s v wv lv sv iv ov)
theorem Zow {x:Int} (h : -2147483648≤x∧x≤2147483647):IntKind.wrap .i32 x=x:=Zfs ⟨by simp [IntKind.min,IntKind.signed,IntKind.bits];omega,by simp [IntKind.max,IntKind.signed,IntKind.bits];omega⟩
theorem Zpx (b : Nat) (n : Nat) (adj : Int → List Int) (f : FuncId) (fn : Func) (cps : List PV) (hf : Tryz.prog.funcs[f]? = some fn) (hb : fn.body.isSome = true) (hnn : (fn.name == "runtime.NumGoroutine") = false) (hw : ∀ u, 0 ≤ u ∧ u < (n : Int) → FnP Tryz.prog f ([.int .i64 u] ++ cps) (.sl Zo (adj u))) (sd : Za4) (x : Int) (hx1 : 0 ≤ x) (hx2 : x < n) (hn : n ≤ 4096) (hlw : sd.wh.length = n) (hll : sd.lo.length = n) (hck : 0 ≤ sd.ck ∧ sd.ck ≤ n) (hwt : sd.wait.length < n) : FnG Tryz.prog 281 1 [.is (.pointer (some ⟨b, 0, none⟩)), .int .i64 x] [Zb0 (.clos f cps) n sd (.pointer (some ⟨b, 0, none⟩))] (.agg (Zhe (x, adj x))) (fun _ => [Zb0 (.clos f cps) n (Za6 n sd x) (.pointer (some ⟨b, 0, none⟩))]) := by
 refine FnG.mk Tryz.func281 rfl Tryz.ntmps281 rfl (by kernel_rfl) ?_
 intro B F0 a w F hB hG hS
 refine wp_seq ?_
 obtain ⟨wv,hS⟩:=hS.open_ex 1 rfl
 obtain ⟨lv,hS⟩:=hS.open_ex 1 rfl
 obtain ⟨sv,hS⟩:=hS.open_ex 1 rfl
 obtain ⟨iv,hS⟩:=hS.open_ex 1 rfl
 obtain ⟨ov,hS⟩:=hS.open_ex 1 rfl
 obtain ⟨F,hS⟩:=hS.peel 1 2 rfl rfl
 obtain ⟨F,hS⟩:=hS.peel 1 3 rfl rfl
 obtain ⟨F,hS⟩:=hS.peel 1 4 rfl rfl
 obtain ⟨F,hS⟩:=hS.peel 1 5 rfl rfl
 obtain ⟨F,hS⟩:=hS.peel 1 6 rfl rfl
 obtain ⟨F,hS⟩:=hS.peel 1 7 rfl rfl
 replace hS:=hS.turn 5 rfl (r':=.ob (.val sv) (fun v=>stH v n sd.wait)) (fun _ _ _ _ h=>h)
 obtain ⟨_,_,_,ho⟩:=hS.obGet 5 rfl
 obtain ⟨sb,rfl⟩:=ZdH ho
 clear ho
 replace hS:=hS.turn 6 rfl (r':=.ob (.val iv) (Zgc n sd.inn)) (fun _ _ _ _ h=>h)
 obtain ⟨_,_,_,ho⟩:=hS.obGet 6 rfl
 obtain ⟨ib,rfl⟩:=Zcy ho
 clear ho
 replace hS:=hS.turn 5 rfl (r':=RS.hp (stH (.pointer (some ⟨sb,0,none⟩)) n sd.wait)) (fun _ _ _ _ h=>h)
 replace hS:=hS.turn 6 rfl (r':=RS.hp (Zgc n sd.inn (.pointer (some ⟨ib,0,none⟩)))) (fun _ _ _ _ h=>h)
 obtain ⟨F,hS⟩:=hS.nm [1,0] [7,6,5,4,3,2,0] rfl rfl
 refine Zc hS (qf (oH [.int .i64 0,.slice none 0 0] 101) trivial qz qZ) hB [4,1,0] [101,7,6,5,4,3,2,0] (fun _=>rfl) (fun _=>rfl) fun τ a w F hS=>?_
 try dsimp only [RS.sub,SF.sub,CF.sub,csub,Anc.sub,List.map,zCF,Zo,Zfi,Zhe] at hS
 generalize τ 4=v4 at hS
 refine Za (wp_seq ?_)
 refine Zb hS (qM rfl rfl (qf (o_nilCheck 2 .is (by rfl)) r1 r1 (qf (oF 5 2 .adr) r1 r1 (qa 2 r1 r1 (qp r1 (qf (o_nilCheck 2 .is (by rfl)) r1 r1 (qf (oF 5 2 .adr) r1 r1 (qf (Zdn 2 .adr .t one_int (by kernel_rfl) (by kernel_rfl)) r2 r1 qZ)))))))) hB [4,1,0] [101,7,6,5,4,3,2,0] rfl rfl fun a w F hS=>?_
 rw [Zow (by omega)] at hS
 refine Za (wp_seq ?_)
 refine Zy hS (qM rfl rfl (qf (o_nilCheck 2 .is (by rfl)) r1 r1 (qf (oF 1 2 .adr) r1 r1 (qa 2 r1 r1 (qM rfl rfl (qM rfl rfl (qf (o_nilCheck 2 .is (by rfl)) r1 r1 (qf (oF 2 2 .adr) r1 r1 (qa 2 r1 r1 (qM rfl rfl (qM rfl rfl (qf (o_nilCheck 2 .is (by rfl)) r1 r1 (qf (oF 5 2 .adr) r1 r1 (qa 2 r1 r1 (qM rfl rfl (qf (o_nilCheck 2 .is (by rfl)) r1 r1 (qf (oF 5 2 .adr) r1 r1 (qa 2 r1 r1 (qf (o_indexAddr_row (sz:=1) 3 (.mk Tryz.underlying277 (by kernel_rfl)) .is .t (by omega) (by omega) (by rfl)) r2 r1 (qf (ZZ (R:=Zfi) (sz:=1) (v:=(sd.ck+1)) 3 .t (by intro x;rfl) (by omega) .t rfl one_int (by kernel_rfl)) r2 r1 (qf (o_indexAddr_row (sz:=1) 4 (.mk Tryz.underlying277 (by kernel_rfl)) .is .t (by omega) (by omega) (by rfl)) r2 r1 (qf (ZZ (R:=Zfi) (sz:=1) (v:=(sd.ck+1)) 4 .t (by intro x;rfl) (by omega) .t rfl one_int (by kernel_rfl)) r2 r1 qZ)))))))))))))))))))))) hB [4,1,0] [101,7,6,5,4,3,2,0] rfl rfl fun a w F hS=>?_
 try dsimp only [List.map,Zf,xL,xM,Nat.reduceAdd,xD,xE,xT,xU,xC,xN,zCF,ldSF,Zo,Zfi,Zhe] at hS
 try simp only [Int.toNat_natCast] at hS
 refine Za (wp_seq ?_)
 refine Zb hS (qM rfl rfl (qf (o_nilCheck 2 .is (by rfl)) r1 r1 (qf (oF 3 2 .adr) r1 r1 (qa 2 r1 r1 (qM rfl rfl (qf (Z5 5 (ZlP sb n sd.wait x ⟨by omega,by omega⟩ (by omega)) Tryz.func303 rfl (by kernel_rfl) (Args.two .t .t)) r2 r1 qZ)))))) hB [4,1,0] [101,7,6,5,4,3,2,0] rfl rfl fun a w F hS=>Za (wp_seq ?_)
 refine Zb hS (qM rfl rfl (qf (o_nilCheck 2 .is (by rfl)) r1 r1 (qf (oF 4 2 .adr) r1 r1 (qa 2 r1 r1 (qM rfl rfl (qf (Z5 6 (ZjH ib n sd.inn x true) Tryz.func304 rfl (by kernel_rfl) (Args.three .t .t .cb)) r2 r1 qZ)))))) hB [4,1,0] [101,7,6,5,4,3,2,0] rfl rfl fun a w F hS=>Za (wp_seq ?_)
 refine Zb hS (qM rfl rfl (qM rfl rfl (qf (o_nilCheck 2 .is (by rfl)) r1 r1 (qf (oF 0 2 .adr) r1 r1 (qa 2 r1 r1 (qM rfl rfl (qf (ZK .t (hw x ⟨hx1,hx2⟩) hf hb hnn (Args.one .t)) r2 qz (qf (oB [(0,.tmp 44),(1,.tmp 50)] [.int .i64 0,.slice none 0 0] [(0,1),(1,1)] (.one rfl .t one_int (by kernel_rfl) (.one rfl .t one_sl (by kernel_rfl) .nil))) r2 qz (qs 2 101 r2 r1 qZ))))))))) hB [4] [101,7,6,5,4,3,2,0] rfl rfl fun a w F hS=>Za (wp_ret ?_)
 have hS:=hS.fresh 1 rfl
 obtain ⟨F,hS⟩:=hS.push 1 7 rfl rfl rfl (by kernel_rfl)
 obtain ⟨F,hS⟩:=hS.push 1 6 rfl rfl rfl (by kernel_rfl)
 obtain ⟨F,hS⟩:=hS.push 1 5 rfl rfl rfl (by kernel_rfl)
 obtain ⟨F,hS⟩:=hS.push 1 4 rfl rfl rfl (by kernel_rfl)
 obtain ⟨F,hS⟩:=hS.push 1 3 rfl rfl rfl (by kernel_rfl)
 obtain ⟨F,hS⟩:=hS.push 1 2 rfl rfl rfl (by kernel_rfl)
 have hS:=hS.turn 1 rfl (r':=RS.hp (Zb0 (.clos f cps) n (Za6 n sd x) (.pointer (some ⟨b,0,none⟩)))) (fun _ _ _ _ h=>⟨_,_,_,_,_,h⟩)
 refine Zas hG hS rfl (.cl 101 true 2 rfl rfl .nil) (.one (.aggU rfl rfl)) rfl
theorem Zrk (l:List Int) (hl:l≠[]):FnP Tryz.prog 306 [.sl Zo l] (.int .i64 (Zis l)):=by
 refine FnP.mk Tryz.func306 rfl Tryz.ntmps306 rfl ?_
 intro B a w F hB hfr hS
 have hxl:=Sat.lenSl hS (i:=0) rfl
 have hl0:0<l.length:=List.length_pos_iff.2 hl
 refine wp_seq ?_
 refine Zb hS (qI qZ) hB [2,0] [0] rfl rfl fun a w F hS=>Za (wp_seq (wp_seq ?_))
 refine Zb hS (qM rfl rfl (qu Tryz.underlying34 r1 (qf (ZbC .t qi) r1 qz qZ))) hB [7,2,0] [0] rfl rfl fun a w F hS=>Za ?_
 refine Zd hS rfl (fun hc0=>?_) (fun hc0=>?_)
 ·skip
  have:=of_decide_eq_true hc0;omega
 refine wp_skip (Za (wp_seq ?_))
 refine Zb hS (qM rfl rfl (qf (o_indexAddr_sl (sz:=1) (.mk Tryz.underlying34 (by kernel_rfl)) (by intro x;rfl) .t qi (by omega) (by omega)) r1 qz (qf (oR false 1 .t) r1 qz (qN rfl rfl qZ)))) hB [3,2,0] [0] rfl rfl fun a w F hS=>?_
 try simp only [Int.toNat_natCast] at hS
 try rw [show (0:Int).toNat=0 from rfl] at hS
 refine Za (wp_seq (wp_seq ?_))
 refine Zb hS (qI qZ) hB [4,3,2,0] [0] rfl rfl fun a w F hS=>Za (wp_block ?_)
 replace hS:=hS.ent (i:=3) (s':=.pv (.int .i64 (Zis (l.take 1)))) rfl (.int (Zn6 hl))
 replace hS:=hS.ent (i:=4) (s':=.pv (.int .i64 ((1:Nat):Int))) rfl (.int rfl)
 refine Zl (σ:=Nat) [0,2] [0] (fun s=>[(3,.pv (.int .i64 (Zis (l.take s)))),(4,.pv (.int .i64 (s:Int)))]) (fun s=>[]) (fun s=>1≤s∧s≤l.length) (fun s=>l.length - s) (1) hS ⟨rfl,rfl,rfl,rfl,trivial⟩ ⟨rfl,trivial⟩ ⟨Nat.le_refl _,hl0⟩ ?_
 clear hS;intro i a w F hC hS
 try dsimp only at hC
 obtain ⟨F,hS⟩:=hS.nm [4,3,2,0] [0] rfl rfl
 try dsimp only at hS
 obtain ⟨hi1,hi2⟩:=hC
 refine wp_seq (wp_seq ?_)
 refine Zb hS (qM rfl rfl (qM rfl rfl (qu Tryz.underlying34 r1 (qL r2)))) hB [15,4,3,2,0] [0] rfl rfl fun a w F hS=>Za ?_
 refine Zd hS rfl (fun hc1=>?_) (fun hc1=>?_)
 ·skip
  have hil:i<l.length:=by have:=of_decide_eq_true hc1;omega
  refine wp_skip (Za (wp_seq (wp_block ?_)))
  refine Zb hS (qM rfl rfl (qM rfl rfl (qM rfl rfl (qy 1 Tryz.underlying34 r2 (qf (oR false 1 .t) r1 qz (qf (o_min .t .t) r2 qz (qN rfl rfl qZ))))))) hB [4,3,2,0] [0] rfl rfl fun a w F hS=>?_
  try simp only [Int.toNat_natCast] at hS
  refine Zj (Za ?_)
  refine Zb hS (qM rfl rfl (qp r1 (qN rfl rfl qZ))) hB [4,3,2,0] [0] rfl rfl fun a w F hS=>Za ?_
  replace hS:=hS.ent (i:=3) (s':=.pv (.int .i64 (Zis (l.take (i+1))))) rfl (.int (Zlg hi1 hil))
  replace hS:=hS.ent (i:=4) (s':=.pv (.int .i64 ((i+1:Nat):Int))) rfl (.int (Ze (by omega)))
  obtain ⟨F,hS⟩:=hS.nm [2,0,4,3] [0] rfl rfl
  exact ⟨(i+1),F,⟨by omega,by omega⟩,hS,by omega⟩
 have hil:i=l.length:=by have:=of_decide_eq_false hc1;omega
 refine wp_exit (Zh (Zh (Zp (Za (wp_seq ?_)))))
 refine Zb hS (qM rfl rfl (qN rfl rfl qZ)) hB [2] [0] rfl rfl fun a w F hS=>Za (wp_ret ?_)
 refine Zw hfr hS rfl rfl rfl (.int (by rw [hil,List.take_length]))
theorem Zqo (b:Nat) (cps:List PV) (f:FuncId) (n:Nat) (sd:Za4) (x:Int) (hx:x ∈ sd.wait) (hrng:∀ u ∈ sd.wait,0≤u∧u<(n:Int)) (hn:n≤4096) (hlw:sd.wh.length=n) (hll:sd.lo.length=n) (hlo:sd.out.length=n) (hwl:sd.wait.length≤n):FnG Tryz.prog 282 1 [.is (.pointer (some ⟨b,0,none⟩)),.int .i64 x] [Zb0 (.clos f cps) n sd (.pointer (some ⟨b,0,none⟩))] (.tup []) (fun _=>[Zb0 (.clos f cps) n (leaveD n sd x) (.pointer (some ⟨b,0,none⟩))]):=by
 refine FnG.mk Tryz.func282 rfl Tryz.ntmps282 rfl (by kernel_rfl) ?_
 intro B F0 a w F hB hG hS
 obtain ⟨hx1,hx2⟩:=hrng x hx
 refine wp_seq (wp_seq ?_)
 obtain ⟨wv,hS⟩:=hS.open_ex 1 rfl
 obtain ⟨lv,hS⟩:=hS.open_ex 1 rfl
 obtain ⟨sv,hS⟩:=hS.open_ex 1 rfl
 obtain ⟨iv,hS⟩:=hS.open_ex 1 rfl
 obtain ⟨ov,hS⟩:=hS.open_ex 1 rfl
 obtain ⟨F,hS⟩:=hS.peel 1 2 rfl rfl
 obtain ⟨F,hS⟩:=hS.peel 1 3 rfl rfl
 obtain ⟨F,hS⟩:=hS.peel 1 4 rfl rfl
 obtain ⟨F,hS⟩:=hS.peel 1 5 rfl rfl
 obtain ⟨F,hS⟩:=hS.peel 1 6 rfl rfl
 obtain ⟨F,hS⟩:=hS.peel 1 7 rfl rfl
 replace hS:=hS.turn 5 rfl (r':=.ob (.val sv) (fun v=>stH v n sd.wait)) (fun _ _ _ _ h=>h)
 obtain ⟨_,_,_,ho⟩:=hS.obGet 5 rfl
 obtain ⟨sb,rfl⟩:=ZdH ho
 clear ho
 replace hS:=hS.turn 6 rfl (r':=.ob (.val iv) (Zgc n sd.inn)) (fun _ _ _ _ h=>h)
 obtain ⟨_,_,_,ho⟩:=hS.obGet 6 rfl
 obtain ⟨ib,rfl⟩:=Zcy ho
 clear ho
 replace hS:=hS.turn 5 rfl (r':=RS.hp (stH (.pointer (some ⟨sb,0,none⟩)) n sd.wait)) (fun _ _ _ _ h=>h)
 replace hS:=hS.turn 6 rfl (r':=RS.hp (Zgc n sd.inn (.pointer (some ⟨ib,0,none⟩)))) (fun _ _ _ _ h=>h)
 obtain ⟨F,hS⟩:=hS.nm [1,0] [7,6,5,4,3,2,0] rfl rfl
 refine Zy hS (qM rfl rfl (qf (o_nilCheck 2 .is (by rfl)) r1 r1 (qf (oF 2 2 .adr) r1 r1 (qa 2 r1 r1 (qM rfl rfl (qf (o_indexAddr_row (sz:=1) 4 (.mk Tryz.underlying277 (by kernel_rfl)) .is .t (by omega) (by omega) (by rfl)) r2 r1 (qf (Zz (ag:=false) (sz':=1) (sz:=1) 4 .t (by intro x;rfl) (by omega) (by kernel_rfl) (by kernel_rfl) (by kernel_rfl)) r1 r1 (qM rfl rfl (qf (o_nilCheck 2 .is (by rfl)) r1 r1 (qf (oF 1 2 .adr) r1 r1 (qa 2 r1 r1 (qM rfl rfl (qf (o_indexAddr_row (sz:=1) 3 (.mk Tryz.underlying277 (by kernel_rfl)) .is .t (by omega) (by omega) (by rfl)) r2 r1 (qf (Zz (ag:=false) (sz':=1) (sz:=1) 3 .t (by intro x;rfl) (by omega) (by kernel_rfl) (by kernel_rfl) (by kernel_rfl)) r1 r1 (qf (o_neq .t .t) r2 qz qZ))))))))))))))) hB [24,1,0] [7,6,5,4,3,2,0] rfl rfl fun a w F hS=>?_
 try dsimp only [List.map,xD,xE,xT,xU,ldSF,Zo,Zfi,Zhe] at hS
 try simp only [Int.toNat_natCast] at hS
 refine Za ?_
 refine Zd hS rfl (fun hc0=>?_) (fun hc0=>?_)
 ·skip
  have hg:leaveD n sd x=sd:=by unfold leaveD;rw [if_neg];rw [Zb9 hx1,Zb9 hx1];simpa using hc0
  refine wp_ret (Zi ?_)
  have hS:=hS.fresh 1 rfl
  obtain ⟨F,hS⟩:=hS.push 1 7 rfl rfl rfl (by kernel_rfl)
  obtain ⟨F,hS⟩:=hS.push 1 6 rfl rfl rfl (by kernel_rfl)
  obtain ⟨F,hS⟩:=hS.push 1 5 rfl rfl rfl (by kernel_rfl)
  obtain ⟨F,hS⟩:=hS.push 1 4 rfl rfl rfl (by kernel_rfl)
  obtain ⟨F,hS⟩:=hS.push 1 3 rfl rfl rfl (by kernel_rfl)
  obtain ⟨F,hS⟩:=hS.push 1 2 rfl rfl rfl (by kernel_rfl)
  have hS:=hS.turn 1 rfl (r':=RS.hp (Zb0 (.clos f cps) n sd (.pointer (some ⟨b,0,none⟩)))) (fun _ _ _ _ h=>⟨_,_,_,_,_,h⟩)
  rw [hg]
  refine Zas hG hS rfl .nil .none rfl
 have hg:leaveD n sd x=Znd n sd x (Zis (partL sd.wait x)):=by unfold leaveD;rw [if_pos];rw [Zb9 hx1,Zb9 hx1];simpa using hc0
 refine wp_skip (Za (wp_seq ?_))
 refine Zb hS (qC qZ) hB [4,1,0] [7,6,5,4,3,2,0] rfl rfl fun a w F hS=>Za (wp_seq (wp_block ?_))
 replace hS:=hS.fresh 50 rfl
 replace hS:=hS.turn 50 rfl (Zbj (T:=3) (sz:=1) (R:=Zo))
 replace hS:=hS.turn 5 rfl (r':=RS.hp (stH (.pointer (some ⟨sb,0,none⟩)) n (sd.wait.take (sd.wait.length - 0)))) (by rw [Nat.sub_zero,List.take_length];exact fun _ _ _ _ h=>h)
 refine Zl (σ:=Nat×Value×List Int) [0,1] [0,2,3,4,7] (fun s=>[(4,.pv (.is s.2.1))]) (fun s=>[(5,RS.hp (stH (.pointer (some ⟨sb,0,none⟩)) n (sd.wait.take (sd.wait.length - s.1)))),(6,RS.hp (Zgc n (innL n s.2.2 sd.inn) (.pointer (some ⟨ib,0,none⟩)))),(50,.ob (.val s.2.1) (Zu 3 1 Zo s.2.2))]) (fun s=>s.1<sd.wait.length∧s.2.2=sd.wait.reverse.take s.1∧x ∉ s.2.2) (fun s=>sd.wait.length - s.1) ((0),(.slice none 0 0),([])) hS ⟨rfl,rfl,rfl,trivial⟩ ⟨rfl,rfl,rfl,rfl,rfl,rfl,rfl,rfl,trivial⟩ ⟨List.length_pos_of_mem hx,rfl,by simp⟩ ?_
 clear hS;intro s a w F hC hS
 obtain ⟨k,v4,out⟩:=s
 try dsimp only at hC
 obtain ⟨F,hS⟩:=hS.nm [4,1,0] [50,7,6,5,4,3,2,0] rfl rfl
 try dsimp only at hS
 obtain ⟨hk,hq,hxo⟩:=hC
 have hol:out.length≤k:=by rw [hq,List.length_take];omega
 rw [(Zje hk).2] at hS
 have hyr:=hrng _ (nth_mem (show sd.wait.length - (k+1)<sd.wait.length by omega))
 refine wp_block (wp_seq ?_)
 refine Zb hS (qM rfl rfl (qf (o_nilCheck 2 .is (by rfl)) r1 r1 (qf (oF 3 2 .adr) r1 r1 (qa 2 r1 r1 (qf (Z5 5 (ZpG sb n (sd.wait.take (sd.wait.length - (k+1))) (Go.Gm.nth sd.wait (sd.wait.length - (k+1))) (by rw [List.length_take];omega)) Tryz.func305 rfl (by kernel_rfl) (Args.one .t)) r1 r1 (qM rfl rfl (qf (Zq .t rfl) r1 qz (qf (Zq .t rfl) r1 qz (qN rfl rfl (qN rfl rfl qZ)))))))))) hB [6,5,4,1,0] [50,7,6,5,4,3,2,0] rfl rfl fun a w F hS=>Za (wp_seq (wp_seq ?_))
 refine Zb hS (qM rfl rfl (qf (o_not .t) r1 qz qZ)) hB [34,5,4,1,0] [50,7,6,5,4,3,2,0] rfl rfl fun a w F hS=>Za ?_
 refine Zd hS rfl (fun hc1=>?_) (fun hc1=>?_)
 ·skip
  simp at hc1
 refine wp_skip (Za (wp_seq ?_))
 refine Zb hS (qM rfl rfl (qf (o_nilCheck 2 .is (by rfl)) r1 r1 (qf (oF 4 2 .adr) r1 r1 (qa 2 r1 r1 (qM rfl rfl (qf (Z5 6 (ZjH ib n (innL n out sd.inn) (Go.Gm.nth sd.wait (sd.wait.length - (k+1))) false) Tryz.func304 rfl (by kernel_rfl) (Args.three .t .t .cb)) r2 r1 qZ)))))) hB [5,4,1,0] [50,7,6,5,4,3,2,0] rfl rfl fun a w F hS=>?_
 rw [Zlp] at hS
 refine Za (wp_seq ?_)
 refine Zc hS (qM rfl rfl (qM rfl rfl (qf (Zt (sz:=1) (zs:=[.int .i64 0]) (r:=[(0,.tmp 42)]) (l:=[_]) Tryz.underlying34 (by kernel_rfl) (by kernel_rfl) (by kernel_rfl) (by kernel_rfl) rfl rfl (.one rfl .t one_int (by kernel_rfl) .nil) rfl) r1 qz (qf (ZV (sz:=1) (bs:=8) 50 (.mk' Tryz.underlying34 (by kernel_rfl) (by kernel_rfl)) (by intro x;rfl) .is (.arr (l':=[(Go.Gm.nth sd.wait (sd.wait.length - (k+1)))]) .t) (by simp only [List.length_append,List.length_cons,List.length_nil];omega) (by decide)) ⟨rfl,rfl,trivial⟩ ⟨rfl,trivial⟩ (qN rfl rfl qZ))))) hB [5,4,1,0] [50,7,6,5,4,3,2,0] (fun _=>rfl) (fun _=>rfl) fun τ a w F hS=>?_
 try dsimp only [RS.sub,SF.sub,CF.sub,csub,Anc.sub,List.map,Zf,xL,xM,Nat.reduceAdd,xD,xE,xT,xU,xC,xN,zCF,Zo,Zfi,Zhe] at hS
 generalize τ 44=v44 at hS
 refine Za (wp_seq ?_)
 refine Zb hS (qM rfl rfl (qM rfl rfl (qf (o_eql .t .t) r2 qz qZ))) hB [47,4,1,0] [50,7,6,5,4,3,2,0] rfl rfl fun a w F hS=>Za ?_
 refine Zd hS rfl (fun hc2=>?_) (fun hc2=>?_)
 ·skip
  have hyx:(Go.Gm.nth sd.wait (sd.wait.length - (k+1)))=x:=by simpa using hc2
  obtain ⟨hp1,hp2⟩:=ZpR hk (by rw [← hq];exact hxo) hyx
  rw [hyx] at hS
  subst hq
  rw [hp1,hp2] at hS
  have hpl:(partL sd.wait x).length≤4096:=by rw [← hp1,List.length_append,List.length_take,List.length_reverse,List.length_singleton];omega
  refine wp_exit ?_
  refine Zp8 (by decide) ?_
  refine Zh (Zp (Za (wp_seq ?_)))
  obtain ⟨F,hS⟩:=hS.give 50 4 rfl rfl
  obtain ⟨F,hS⟩:=hS.nm [47,4,1,0] [7,6,5,4,3,2,0] rfl rfl
  refine Zb hS (qM rfl rfl (qf (oP (Zrk (partL sd.wait x) (Zgm _ _)) Tryz.func306 (Args.one .t)) r1 qz (qN rfl rfl qZ))) hB [7,4,0] [7,6,5,4,3,2,0] rfl rfl fun a w F hS=>Za (wp_seq ?_)
  refine Zb hS (qM rfl rfl (qu Tryz.underlying34 r1 (qJ qZ))) hB [52,51,50,7,0] [7,6,5,4,3,2,0] rfl rfl fun a w F hS=>Za (wp_block ?_)
  refine Zl (σ:=(Nat)) [0,7,50,51] [0,2,3,4,5,6] (fun s=>[(52,.pv (.int .i64 (s:Int)))]) (fun s=>[(7,.ob (.val ov) (Zu 3 1 Zo (outL ((partL sd.wait x).take s) (Zis (partL sd.wait x)) sd.out)))]) (fun s=>s≤(partL sd.wait x).length∧(True)) (fun s=>(partL sd.wait x).length - s) (0) hS ⟨rfl,rfl,rfl,rfl,rfl,trivial⟩ ⟨rfl,rfl,rfl,rfl,rfl,rfl,rfl,trivial⟩ ⟨Nat.zero_le _,trivial⟩ ?_
  clear hS;intro i a w F hC hS
  try dsimp only at hC
  obtain ⟨F,hS⟩:=hS.nm [52,51,50,7,0] [7,6,5,4,3,2,0] rfl rfl
  try dsimp only at hS
  obtain ⟨hi,hq⟩:=hC
  refine wp_seq ?_
  refine Zb hS (qL r2) hB [53,52,51,50,7,0] [7,6,5,4,3,2,0] rfl rfl fun a w F hS=>Za (wp_seq ?_)
  refine Zd hS rfl (fun hc3=>?_) (fun hc3=>?_)
  ·skip
   have hil:i<(partL sd.wait x).length:=by simp at hc3;omega
   have hyr2:=hrng _ (Zo3 hx (nth_mem hil))
   have hol2:(outL ((partL sd.wait x).take i) (Zis (partL sd.wait x)) sd.out).length=n:=by rw [ZgS];exact hlo
   refine wp_skip (Za (wp_seq (wp_block (wp_seq ?_))))
   refine Zb hS (qy 1 Tryz.underlying34 r2 (qf (oR false 1 .t) r1 qz (qN rfl rfl qZ))) hB [52,51,50,9,7,0] [7,6,5,4,3,2,0] rfl rfl fun a w F hS=>?_
   try simp only [Int.toNat_natCast] at hS
   refine Za ?_
   refine Zb hS (qM rfl rfl (qf (o_nilCheck 2 .is (by rfl)) r1 r1 (qf (oF 6 2 .adr) r1 r1 (qa 2 r1 r1 (qM rfl rfl (qM rfl rfl (qf (o_indexAddr_row (sz:=1) 7 (.mk Tryz.underlying34 (by kernel_rfl)) .is .t (by omega) (by omega) (by rfl)) r2 r1 (qf (ZZ (R:=Zo) (sz:=1) (v:=(Zis (partL sd.wait x))) 7 .t (by intro x;rfl) (by omega) .t rfl one_int (by kernel_rfl)) r2 r1 qZ)))))))) hB [52,51,50,7,0] [7,6,5,4,3,2,0] rfl rfl fun a w F hS=>?_
   try simp only [Int.toNat_natCast] at hS
   refine Zj (Za ?_)
   refine Zb hS (qp r1 (qM rfl rfl qZ)) hB [52,51,50,7,0] [7,6,5,4,3,2,0] rfl rfl fun a w F hS=>Za ?_
   rw [ZlS hil] at hS
   replace hS:=hS.ent (i:=52) (s':=.pv (.int .i64 ((i+1:Nat):Int))) rfl (.int (Ze (by omega)))
   obtain ⟨F,hS⟩:=hS.nm [51,50,7,0,52] [6,5,4,3,2,0,7] rfl rfl
   exact ⟨(i+1),F,⟨by omega,trivial⟩,hS,by omega⟩
  have hil:i=(partL sd.wait x).length:=by simp at hc3;omega
  refine wp_exit (Zh (Zh (Zp ?_)))
  rw [hil,List.take_length] at hS
  have hS:=hS.fresh 1 rfl
  obtain ⟨F,hS⟩:=hS.push 1 7 rfl rfl rfl (by kernel_rfl)
  obtain ⟨F,hS⟩:=hS.push 1 6 rfl rfl rfl (by kernel_rfl)
  obtain ⟨F,hS⟩:=hS.push 1 5 rfl rfl rfl (by kernel_rfl)
  obtain ⟨F,hS⟩:=hS.push 1 4 rfl rfl rfl (by kernel_rfl)
  obtain ⟨F,hS⟩:=hS.push 1 3 rfl rfl rfl (by kernel_rfl)
  obtain ⟨F,hS⟩:=hS.push 1 2 rfl rfl rfl (by kernel_rfl)
  have hS:=hS.turn 1 rfl (r':=RS.hp (Zb0 (.clos f cps) n (Znd n sd x (Zis (partL sd.wait x))) (.pointer (some ⟨b,0,none⟩)))) (fun _ _ _ _ h=>⟨_,_,_,_,_,h⟩)
  rw [hg]
  refine Zas hG hS rfl .nil .none rfl
 have hyx:¬ (Go.Gm.nth sd.wait (sd.wait.length - (k+1)))=x:=by simpa using hc2
 refine wp_skip (Zj (Za ?_))
 have hno:x ∉ out ++ [(Go.Gm.nth sd.wait (sd.wait.length - (k+1)))]:=by rw [List.mem_append,List.mem_singleton];exact fun h9=>h9.elim hxo fun h8=>hyx h8.symm
 have hq2:out ++ [(Go.Gm.nth sd.wait (sd.wait.length - (k+1)))] = sd.wait.reverse.take (k+1):=by rw [hq];exact (Zje hk).1
 obtain ⟨F,hS⟩:=hS.nm [1,0,4] [7,4,3,2,0,50,6,5] rfl rfl
 exact ⟨((k+1),_,_),F,⟨Zls hx (by rw [← hq2];exact hno),hq2,hno⟩,hS,by omega⟩
theorem TI.adjLe {n:Nat} {adj:Int→List Int} {q:Za4} {way:ZkY} (h:TI n adj q way) {r:Int×List Int} (hr:r ∈ way):∀ y ∈ r.2,y ∈ adj r.1:=h.tj.sub r (List.mem_reverse.2 hr)
theorem ZrN (b : Nat) (n : Nat) (adj : Int → List Int) (f : FuncId) (fn : Func) (cps : List PV) (hf : Tryz.prog.funcs[f]? = some fn) (hb : fn.body.isSome = true) (hnn : (fn.name == "runtime.NumGoroutine") = false) (hw : ∀ u, 0 ≤ u ∧ u < (n : Int) → FnP Tryz.prog f ([.int .i64 u] ++ cps) (.sl Zo (adj u))) (hadj : ∀ u y, y ∈ adj u → 0 ≤ y ∧ y < (n : Int)) (hal : ∀ u, (adj u).length ≤ 4096) (sd : Za4) (x : Int) (hx1 : 0 ≤ x) (hx2 : x < n) (hn : n ≤ 4096) (hI : TI n adj sd []) (h0 : fI sd.wh x = 0) : FnG Tryz.prog 238 1 [.is (.pointer (some ⟨b, 0, none⟩)), .int .i64 x] [Zb0 (.clos f cps) n sd (.pointer (some ⟨b, 0, none⟩))] (.tup []) (fun _ => [.ex fun t : Za4 => .and (TI n adj t [] ∧ fI t.wh x ≠ 0 ∧ ∀ y, fI sd.wh y ≠ 0 → fI t.wh y ≠ 0) (Zb0 (.clos f cps) n t (.pointer (some ⟨b, 0, none⟩)))]) := by
 refine FnG.mk Tryz.func238 rfl Tryz.ntmps238 rfl (by kernel_rfl) ?_
 intro B F0 a w F hB hG hS
 refine wp_seq ?_
 refine Zc hS (qM rfl rfl (qM rfl rfl (qf (Z5 1 (Zpx b n adj f fn cps hf hb hnn hw sd x hx1 hx2 hn hI.lw hI.ll hI.ckLe (hI.waitLt ⟨hx1,hx2⟩ h0)) Tryz.func281 rfl (by kernel_rfl) (Args.two .t .t)) r2 r1 (qf (ZkK (R:=Zhe) (l:=[(x,adj x)]) (sz:=2) (zs:=[.int .i64 0,.slice none 0 0]) (r:=[(0,.tmp 11)]) 101 Tryz.underlying335 (by kernel_rfl) (by kernel_rfl) (by kernel_rfl) (by kernel_rfl) rfl rfl (.agg rfl (.conv .t .agg) (by kernel_rfl) (by kernel_rfl) .nil) rfl rfl (by intro x;rfl)) r1 qz (qN rfl rfl qZ))))) hB [4,0] [101,1,0] (fun _=>rfl) (fun _=>rfl) fun τ a w F hS=>?_
 try dsimp only [RS.sub,SF.sub,CF.sub,csub,Anc.sub,List.map,Zf,xL,xM,Nat.reduceAdd,xD,xE,xT,xU,xC,xN,zCF,Zo,Zfi,Zhe] at hS
 generalize τ 12=v12 at hS
 refine Za (wp_block ?_)
 refine Zl (σ:=Za4×ZkY×Value) [0] [0] (fun s=>[(4,.pv (.is s.2.2))]) (fun s=>[(1,RS.hp (Zb0 (.clos f cps) n s.1 (.pointer (some ⟨b,0,none⟩)))),(101,.ob (.val s.2.2) (Zu 333 2 Zhe s.2.1))]) (fun s=>FrI n adj sd.wh x s.1 s.2.1) (fun s=>muF n adj s.1 s.2.1) ((Za6 n sd x),([(x,adj x)]),(v12)) hS ⟨rfl,rfl,trivial⟩ ⟨rfl,rfl,rfl,trivial⟩ (FrI.start ⟨hx1,hx2⟩ hI h0) ?_
 clear hS;intro s a w F hC hS
 obtain ⟨q,way,wv2⟩:=s
 try dsimp only at hC
 obtain ⟨F,hS⟩:=hS.nm [4,0] [101,1,0] rfl rfl
 try dsimp only at hS
 have hFr:FrI n adj sd.wh x q way:=hC
 refine wp_seq (wp_seq ?_)
 refine Zb hS (qM rfl rfl (qf (ZQ 101 Tryz.underlying335 .is) r1 r1 (qf (Zbi .t qi) r1 qz qZ))) hB [15,4,0] [101,1,0] rfl rfl fun a w F hS=>Za ?_
 refine Zd hS rfl (fun hc0=>?_) (fun hc0=>?_)
 ·skip
  obtain ⟨wy,⟨vd,nx⟩,rfl⟩:=ZmD (l:=way) (by intro e;subst e;simp at hc0)
  have hI2:=hFr.1
  have hvn:=hI2.nodes (vd,nx) (by simp)
  have hwl:=hI2.wayLen
  rw [List.length_append,List.length_singleton] at hwl
  have hw1:IntKind.wrap .i64 (((wy ++ [(vd,nx)]).length:Int) - 1)=((wy.length:Nat):Int):=by rw [ZJ (by rw [List.length_append,List.length_singleton];omega),List.length_append,List.length_singleton];omega
  refine wp_skip (Za (wp_block (wp_seq ?_)))
  refine Zb hS (qM rfl rfl (qM rfl rfl (qf (ZQ 101 Tryz.underlying335 .is) r1 r1 (qf (o_sub .t qi) r1 qz (qf (o_indexAddr_row (sz:=2) 101 (.mk Tryz.underlying335 (by kernel_rfl)) .is .t (by rw [hw1];omega) (by rw [hw1,List.length_append,List.length_singleton];omega) (by rfl)) r2 r1 (qN rfl rfl qZ)))))) hB [5,4,0] [101,1,0] rfl rfl fun a w F hS=>?_
  try simp only [Int.toNat_natCast] at hS
  rw [hw1,Int.toNat_natCast] at hS
  refine Za (wp_seq (wp_seq ?_))
  refine Zb hS (qM rfl rfl (qf (o_nilCheck_row0 (sz:=2) 101 .t (by intro x;rfl) (by simp)) r1 r1 (qf (o_fieldAddr_row (off:=1) (sz:=2) 101 .t (by simp) (by kernel_rfl) (by rfl)) r1 r1 (qf (Z4 (ag:=false) (sz':=1) (sz:=2) 101 .t (by intro x;rfl) (by simp) (by kernel_rfl) (by kernel_rfl) (by kernel_rfl)) r1 r1 (qu Tryz.underlying34 r1 (qf (o_eql .t qi) r1 qz qZ)))))) hB [26,5,4,0] [101,1,0] rfl rfl fun a w F hS=>?_
  rw [nth_last] at hS
  try dsimp only at hS
  refine Za ?_
  refine Zd hS rfl (fun hc1=>?_) (fun hc1=>?_)
  ·skip
   have hnx:nx = []:=by simpa using hc1
   subst hnx
   refine wp_seq ?_
   refine Zah 5 hS (by kernel_rfl) (cG rfl (oM .t) r1 trivial (cG rfl (oM .t) r1 trivial (cG rfl (o_nilCheck_row0 (sz:=2) 101 .t (by intro x;rfl) (by simp)) r1 r1 (cG rfl (o_fieldAddr_row (off:=0) (sz:=2) 101 .t (by simp) (by kernel_rfl) (by rfl)) r1 r1 (cG rfl (Z4 (ag:=false) (sz':=1) (sz:=2) 101 .t (by intro x;rfl) (by simp) (by kernel_rfl) (by kernel_rfl) (by kernel_rfl)) r1 r1 ChainN.nil))))) (by kernel_rfl) (by rw [hB];kernel_rfl) fun a w F hS=>?_
   obtain ⟨F,hS⟩:=hS.nm [31,27,5,4,0] [101,1,0] rfl rfl
   try dsimp only [List.map,xD,xE,xT,xU,ldSF,Zo,Zfi,Zhe] at hS
   rw [nth_last] at hS
   try dsimp only at hS
   refine Zav hS (by kernel_rfl) (cG rfl (Z5 1 (Zqo b cps f n q vd hvn.1 hI2.rng hn hI2.lw hI2.ll hI2.lout hI2.waitLe) Tryz.func282 rfl (by kernel_rfl) (Args.two .t .t)) r2 r1 ChainN.nil) (by kernel_rfl) (by rw [hB];kernel_rfl) fun a w F hS=>?_
   obtain ⟨F,hS⟩:=hS.nm [5,4,0] [101,1,0] rfl rfl
   try dsimp only [Zo,Zfi,Zhe] at hS
   refine Za (wp_seq ?_)
   refine Zb hS (qM rfl rfl (qf (o_nilCheck_row0 (sz:=2) 101 .t (by intro x;rfl) (by simp)) r1 r1 (qf (o_fieldAddr_row (off:=0) (sz:=2) 101 .t (by simp) (by kernel_rfl) (by rfl)) r1 r1 (qf (Z4 (ag:=false) (sz':=1) (sz:=2) 101 .t (by intro x;rfl) (by simp) (by kernel_rfl) (by kernel_rfl) (by kernel_rfl)) r1 r1 (qN rfl rfl qZ))))) hB [6,5,4,0] [101,1,0] rfl rfl fun a w F hS=>?_
   rw [nth_last] at hS
   try dsimp only at hS
   refine Za (wp_seq ?_)
   refine Zc hS (qM rfl rfl (qM rfl rfl (qf (ZQ 101 Tryz.underlying335 .is) r1 r1 (qf (o_sub .t qi) r1 qz (qf (ZbK (sz:=2) 101 (.mk Tryz.underlying335 (by kernel_rfl)) (by intro x;rfl) .is .t (by rw [hw1];omega) (by rw [hw1,List.length_append,List.length_singleton];omega)) r2 r1 (qN rfl rfl qZ)))))) hB [6,5,4,0] [101,1,0] (fun _=>rfl) (fun _=>rfl) fun τ a w F hS=>?_
   try dsimp only [RS.sub,SF.sub,CF.sub,csub,Anc.sub,List.map,Zo,Zfi,Zhe] at hS
   generalize τ 41=v41 at hS
   rw [hw1,Int.toNat_natCast,List.take_left] at hS
   refine Za (wp_seq (wp_seq ?_))
   refine Zb hS (qM rfl rfl (qf (ZQ 101 Tryz.underlying335 .is) r1 r1 (qf (Zbi .t qi) r1 qz qZ))) hB [44,6,5,4,0] [101,1,0] rfl rfl fun a w F hS=>Za ?_
   refine Zd hS rfl (fun hc2=>?_) (fun hc2=>?_)
   ·skip
    obtain ⟨wy2,⟨u,nu⟩,rfl⟩:=ZmD (l:=wy) (by intro e;subst e;simp at hc2)
    have hun:=hI2.nodes (u,nu) (by simp)
    rw [List.length_append,List.length_singleton] at hwl
    have hw2:IntKind.wrap .i64 (((wy2 ++ [(u,nu)]).length:Int) - 1)=((wy2.length:Nat):Int):=by rw [ZJ (by rw [List.length_append,List.length_singleton];omega),List.length_append,List.length_singleton];omega
    have hlo2:(leaveD n q vd).lo=q.lo:=(Zfr n q vd).2
    have hl2:(leaveD n q vd).lo.length=n:=by rw [hlo2];exact hI2.ll
    refine wp_seq ?_
    refine Zb hS (qM rfl rfl (qM rfl rfl (qf (ZQ 101 Tryz.underlying335 .is) r1 r1 (qf (o_sub .t qi) r1 qz (qf (o_indexAddr_row (sz:=2) 101 (.mk Tryz.underlying335 (by kernel_rfl)) .is .t (by rw [hw2];omega) (by rw [hw2,List.length_append,List.length_singleton];omega) (by rfl)) r2 r1 (qf (o_fieldAddr_row (off:=0) (sz:=2) 101 .t (by rw [hw2];simp) (by kernel_rfl) (by rfl)) r1 r1 (qf (Z4 (ag:=false) (sz':=1) (sz:=2) 101 .t (by intro x;rfl) (by rw [hw2];simp) (by kernel_rfl) (by kernel_rfl) (by kernel_rfl)) r1 r1 (qN rfl rfl qZ)))))))) hB [7,6,5,4,0] [101,1,0] rfl rfl fun a w F hS=>?_
    try simp only [Int.toNat_natCast] at hS
    rw [hw2,Int.toNat_natCast,nth_last] at hS
    try dsimp only at hS
    refine Za ?_
    obtain ⟨wv,hS⟩:=hS.open_ex 1 rfl
    obtain ⟨lv,hS⟩:=hS.open_ex 1 rfl
    obtain ⟨sv,hS⟩:=hS.open_ex 1 rfl
    obtain ⟨iv,hS⟩:=hS.open_ex 1 rfl
    obtain ⟨ov,hS⟩:=hS.open_ex 1 rfl
    obtain ⟨F,hS⟩:=hS.peel 1 2 rfl rfl
    obtain ⟨F,hS⟩:=hS.peel 1 3 rfl rfl
    obtain ⟨F,hS⟩:=hS.peel 1 4 rfl rfl
    obtain ⟨F,hS⟩:=hS.peel 1 5 rfl rfl
    obtain ⟨F,hS⟩:=hS.peel 1 6 rfl rfl
    obtain ⟨F,hS⟩:=hS.peel 1 7 rfl rfl
    replace hS:=hS.turn 5 rfl (r':=.ob (.val sv) (fun v=>stH v n (leaveD n q vd).wait)) (fun _ _ _ _ h=>h)
    obtain ⟨_,_,_,ho⟩:=hS.obGet 5 rfl
    obtain ⟨sb,rfl⟩:=ZdH ho
    clear ho
    replace hS:=hS.turn 6 rfl (r':=.ob (.val iv) (Zgc n (leaveD n q vd).inn)) (fun _ _ _ _ h=>h)
    obtain ⟨_,_,_,ho⟩:=hS.obGet 6 rfl
    obtain ⟨ib,rfl⟩:=Zcy ho
    clear ho
    replace hS:=hS.turn 5 rfl (r':=RS.hp (stH (.pointer (some ⟨sb,0,none⟩)) n (leaveD n q vd).wait)) (fun _ _ _ _ h=>h)
    replace hS:=hS.turn 6 rfl (r':=RS.hp (Zgc n (leaveD n q vd).inn (.pointer (some ⟨ib,0,none⟩)))) (fun _ _ _ _ h=>h)
    obtain ⟨F,hS⟩:=hS.nm [7,6,5,4,0] [101,7,6,5,4,3,2,0] rfl rfl
    refine Zy hS (qM rfl rfl (qf (o_nilCheck 2 .is (by rfl)) r1 r1 (qf (oF 2 2 .adr) r1 r1 (qa 2 r1 r1 (qM rfl rfl (qM rfl rfl (qf (o_nilCheck 2 .is (by rfl)) r1 r1 (qf (oF 2 2 .adr) r1 r1 (qa 2 r1 r1 (qM rfl rfl (qf (o_indexAddr_row (sz:=1) 4 (.mk Tryz.underlying277 (by kernel_rfl)) .is .t (by omega) (by omega) (by rfl)) r2 r1 (qf (Zz (ag:=false) (sz':=1) (sz:=1) 4 .t (by intro x;rfl) (by omega) (by kernel_rfl) (by kernel_rfl) (by kernel_rfl)) r1 r1 (qM rfl rfl (qf (o_nilCheck 2 .is (by rfl)) r1 r1 (qf (oF 2 2 .adr) r1 r1 (qa 2 r1 r1 (qM rfl rfl (qf (o_indexAddr_row (sz:=1) 4 (.mk Tryz.underlying277 (by kernel_rfl)) .is .t (by omega) (by omega) (by rfl)) r2 r1 (qf (Zz (ag:=false) (sz':=1) (sz:=1) 4 .t (by intro x;rfl) (by omega) (by kernel_rfl) (by kernel_rfl) (by kernel_rfl)) r1 r1 (qf (o_min .t .t) r2 qz (qf (o_indexAddr_row (sz:=1) 4 (.mk Tryz.underlying277 (by kernel_rfl)) .is .t (by omega) (by omega) (by rfl)) r2 r1 (qf (ZZ (R:=Zfi) (sz:=1) (v:=_) 4 .t (by intro x;rfl) (by omega) .t rfl one_int (by kernel_rfl)) r2 r1 qZ)))))))))))))))))))))) hB [5,4,0] [101,7,6,5,4,3,2,0] rfl rfl fun a w F hS=>?_
    try dsimp only [List.map,Zf,xL,xM,Nat.reduceAdd,xD,xE,xT,xU,xC,xN,zCF,ldSF,Zo,Zfi,Zhe] at hS
    try simp only [Int.toNat_natCast] at hS
    rw [show (if Go.Gm.nth (leaveD n q vd).lo vd.toNat<Go.Gm.nth (leaveD n q vd).lo u.toNat then Go.Gm.nth (leaveD n q vd).lo vd.toNat else Go.Gm.nth (leaveD n q vd).lo u.toNat)=min (fI q.lo u) (fI q.lo vd) by rw [hlo2,Zph,← Zb9 hun.2.1,← Zb9 hvn.2.1]] at hS
    refine Za (wp_exit (Zh (Zp (Za ?_))))
    have hS:=hS.fresh 1 rfl
    obtain ⟨F,hS⟩:=hS.push 1 7 rfl rfl rfl (by kernel_rfl)
    obtain ⟨F,hS⟩:=hS.push 1 6 rfl rfl rfl (by kernel_rfl)
    obtain ⟨F,hS⟩:=hS.push 1 5 rfl rfl rfl (by kernel_rfl)
    obtain ⟨F,hS⟩:=hS.push 1 4 rfl rfl rfl (by kernel_rfl)
    obtain ⟨F,hS⟩:=hS.push 1 3 rfl rfl rfl (by kernel_rfl)
    obtain ⟨F,hS⟩:=hS.push 1 2 rfl rfl rfl (by kernel_rfl)
    have hS:=hS.turn 1 rfl (r':=RS.hp (Zb0 (.clos f cps) n ({ leaveD n q vd with lo:=(leaveD n q vd).lo.set u.toNat (min (fI q.lo u) (fI q.lo vd)) }) (.pointer (some ⟨b,0,none⟩)))) (fun _ _ _ _ h=>⟨_,_,_,_,_,h⟩)
    obtain ⟨hE1,hE2⟩:=hFr.left
    obtain ⟨F,hS⟩:=hS.nm [0,4] [0,101,1] rfl rfl
    exact ⟨(({ leaveD n q vd with lo:=(leaveD n q vd).lo.set u.toNat (min (fI q.lo u) (fI q.lo vd)) }),(wy2 ++ [(u,nu)]),_),F,hE1,hS,hE2⟩
   have hwe:wy = []:=by cases wy with | nil=>rfl | cons r l=>simp at hc2
   subst hwe
   refine wp_skip (Za (wp_exit (Zh (Zp (Za ?_)))))
   obtain ⟨hE1,hE2⟩:=FrI.root hFr
   obtain ⟨F,hS⟩:=hS.nm [0,4] [0,101,1] rfl rfl
   exact ⟨((leaveD n q vd),([]),_),F,hE1,hS,hE2⟩
  obtain ⟨y,nx,rfl⟩:∃ y l,nx=y :: l:=List.exists_cons_of_ne_nil (by intro e;subst e;simp at hc1)
  have hy:=hadj vd y (hI2.tj.sub (vd,y :: nx) (by simp) y (by simp))
  have hnl:=hI2.adjLe (r:=(vd,y :: nx)) (by simp)
  refine wp_skip (Za (wp_seq ?_))
  refine Zb hS (qM rfl rfl (qf (o_nilCheck_row0 (sz:=2) 101 .t (by intro x;rfl) (by simp)) r1 r1 (qf (o_fieldAddr_row (off:=1) (sz:=2) 101 .t (by simp) (by kernel_rfl) (by rfl)) r1 r1 (qf (Z4 (ag:=false) (sz':=1) (sz:=2) 101 .t (by intro x;rfl) (by simp) (by kernel_rfl) (by kernel_rfl) (by kernel_rfl)) r1 r1 (qf (o_indexAddr_sl (sz:=1) (.mk Tryz.underlying34 (by kernel_rfl)) (by intro x;rfl) .t qi (by omega) (by rw [nth_last];simp)) r1 qz (qf (oR false 1 .t) r1 qz (qN rfl rfl qZ))))))) hB [8,5,4,0] [101,1,0] rfl rfl fun a w F hS=>?_
  try simp only [Int.toNat_natCast] at hS
  try rw [show (0:Int).toNat=0 from rfl] at hS
  rw [nth_last] at hS
  try dsimp only at hS
  rw [Zoe] at hS
  refine Za (wp_seq ?_)
  refine Zah 6 hS (by kernel_rfl) (cG rfl (oM .t) r1 trivial (cG rfl (oM .t) r1 trivial (cG rfl (o_nilCheck_row0 (sz:=2) 101 .t (by intro x;rfl) (by simp)) r1 r1 (cG rfl (o_fieldAddr_row (off:=1) (sz:=2) 101 .t (by simp) (by kernel_rfl) (by rfl)) r1 r1 (cG rfl (Z4 (ag:=false) (sz':=1) (sz:=2) 101 .t (by intro x;rfl) (by simp) (by kernel_rfl) (by kernel_rfl) (by kernel_rfl)) r1 r1 (cG rfl (o_slice_lo (sz:=1) (.mk Tryz.underlying34 (by kernel_rfl)) (by intro x;rfl) .t (.ci (by kernel_rfl)) (by omega) (by rw [nth_last];simp;omega)) r1 trivial ChainN.nil)))))) (by kernel_rfl) (by rw [hB];kernel_rfl) fun a w F hS=>?_
  obtain ⟨F,hS⟩:=hS.nm [84,79,8,5,4,0] [101,1,0] rfl rfl
  try dsimp only [List.map,xD,xE,xT,xU,ldSF,Zo,Zfi,Zhe] at hS
  replace hS:=hS.ent (i:=84) (s':=.pv (.sl Zo nx)) rfl (.sl (by rw [nth_last];rfl))
  refine Zav hS (by kernel_rfl) (cG rfl (o_nilCheck_row0 (sz:=2) 101 .t (by intro x;rfl) (by simp)) r1 r1 (cG rfl (o_fieldAddr_row (off:=1) (sz:=2) 101 .t (by simp) (by kernel_rfl) (by rfl)) r1 r1 (cG rfl (Zcl (R:=Zhe) (sz:=2) (off:=1) (v':=(vd,nx)) 101 .t (by intro x;rfl) (by simp) (by decide) .t one_sl (by rw [nth_last];rfl) (by kernel_rfl)) r2 r1 ChainN.nil))) (by kernel_rfl) (by rw [hB];kernel_rfl) fun a w F hS=>?_
  obtain ⟨F,hS⟩:=hS.nm [8,5,4,0] [101,1,0] rfl rfl
  try dsimp only [List.map,Zf,xL,xM,Nat.reduceAdd,xD,xE,xT,xU,xC,xN,zCF,Zo,Zfi,Zhe] at hS
  rw [Zor] at hS
  refine Za (wp_block (wp_seq ?_))
  obtain ⟨wv,hS⟩:=hS.open_ex 1 rfl
  obtain ⟨lv,hS⟩:=hS.open_ex 1 rfl
  obtain ⟨sv,hS⟩:=hS.open_ex 1 rfl
  obtain ⟨iv,hS⟩:=hS.open_ex 1 rfl
  obtain ⟨ov,hS⟩:=hS.open_ex 1 rfl
  obtain ⟨F,hS⟩:=hS.peel 1 2 rfl rfl
  obtain ⟨F,hS⟩:=hS.peel 1 3 rfl rfl
  obtain ⟨F,hS⟩:=hS.peel 1 4 rfl rfl
  obtain ⟨F,hS⟩:=hS.peel 1 5 rfl rfl
  obtain ⟨F,hS⟩:=hS.peel 1 6 rfl rfl
  obtain ⟨F,hS⟩:=hS.peel 1 7 rfl rfl
  replace hS:=hS.turn 5 rfl (r':=.ob (.val sv) (fun v=>stH v n q.wait)) (fun _ _ _ _ h=>h)
  obtain ⟨_,_,_,ho⟩:=hS.obGet 5 rfl
  obtain ⟨sb,rfl⟩:=ZdH ho
  clear ho
  replace hS:=hS.turn 6 rfl (r':=.ob (.val iv) (Zgc n q.inn)) (fun _ _ _ _ h=>h)
  obtain ⟨_,_,_,ho⟩:=hS.obGet 6 rfl
  obtain ⟨ib,rfl⟩:=Zcy ho
  clear ho
  replace hS:=hS.turn 5 rfl (r':=RS.hp (stH (.pointer (some ⟨sb,0,none⟩)) n q.wait)) (fun _ _ _ _ h=>h)
  replace hS:=hS.turn 6 rfl (r':=RS.hp (Zgc n q.inn (.pointer (some ⟨ib,0,none⟩)))) (fun _ _ _ _ h=>h)
  obtain ⟨F,hS⟩:=hS.nm [8,5,4,0] [101,7,6,5,4,3,2,0] rfl rfl
  refine Zb hS (qM rfl rfl (qf (o_nilCheck 2 .is (by rfl)) r1 r1 (qf (oF 1 2 .adr) r1 r1 (qa 2 r1 r1 (qM rfl rfl (qf (o_indexAddr_row (sz:=1) 3 (.mk Tryz.underlying277 (by kernel_rfl)) .is .t (by omega) (by rw [hI2.lw];omega) (by rfl)) r2 r1 (qf (Zz (ag:=false) (sz':=1) (sz:=1) 3 .t (by intro x;rfl) (by rw [hI2.lw];omega) (by kernel_rfl) (by kernel_rfl) (by kernel_rfl)) r1 r1 (qf (o_eql .t qi) r1 qz (qN rfl rfl qZ))))))))) hB [87,8,5,4,0] [101,7,6,5,4,3,2,0] rfl rfl fun a w F hS=>?_
  try simp only [Int.toNat_natCast] at hS
  refine Za ?_
  refine Zd hS rfl (fun hc3=>?_) (fun hc3=>?_)
  ·skip
   have h00:fI q.wh y=0:=by rw [Zb9 hy.1];simpa using hc3
   have hS:=hS.fresh 1 rfl
   obtain ⟨F,hS⟩:=hS.push 1 7 rfl rfl rfl (by kernel_rfl)
   obtain ⟨F,hS⟩:=hS.push 1 6 rfl rfl rfl (by kernel_rfl)
   obtain ⟨F,hS⟩:=hS.push 1 5 rfl rfl rfl (by kernel_rfl)
   obtain ⟨F,hS⟩:=hS.push 1 4 rfl rfl rfl (by kernel_rfl)
   obtain ⟨F,hS⟩:=hS.push 1 3 rfl rfl rfl (by kernel_rfl)
   obtain ⟨F,hS⟩:=hS.push 1 2 rfl rfl rfl (by kernel_rfl)
   have hS:=hS.turn 1 rfl (r':=RS.hp (Zb0 (.clos f cps) n q (.pointer (some ⟨b,0,none⟩)))) (fun _ _ _ _ h=>⟨_,_,_,_,_,h⟩)
   obtain ⟨F,hS⟩:=hS.nm [87,8,5,4,0] [101,1,0] rfl rfl
   refine Zc hS (qM rfl rfl (qM rfl rfl (qM rfl rfl (qf (Z5 1 (Zpx b n adj f fn cps hf hb hnn hw q y hy.1 hy.2 hn hI2.lw hI2.ll hI2.ckLe (hI2.waitLt hy h00)) Tryz.func281 rfl (by kernel_rfl) (Args.two .t .t)) r2 r1 (qf (Zt (sz:=2) (zs:=[.int .i64 0,.slice none 0 0]) (r:=[(0,.tmp 99)]) (l:=[_,_]) Tryz.underlying335 (by kernel_rfl) (by kernel_rfl) (by kernel_rfl) (by kernel_rfl) rfl rfl (.agg rfl (.conv .t .agg) (by kernel_rfl) (by kernel_rfl) .nil) rfl) r1 qz (qf (ZV (sz:=2) (bs:=32) 101 (.mk' Tryz.underlying335 (by kernel_rfl) (by kernel_rfl)) (by intro x;rfl) .is (.arr (l':=[(y,adj y)]) .t) (by simp only [List.length_append,List.length_cons,List.length_nil];omega) (by decide)) ⟨rfl,rfl,trivial⟩ ⟨rfl,trivial⟩ (qN rfl rfl qZ))))))) hB [4,0] [101,1,0] (fun _=>rfl) (fun _=>rfl) fun τ a w F hS=>?_
   try dsimp only [RS.sub,SF.sub,CF.sub,csub,Anc.sub,List.map,Zf,xL,xM,Nat.reduceAdd,xD,xE,xT,xU,xC,xN,zCF,Zo,Zfi,Zhe] at hS
   generalize τ 101=v101 at hS
   refine Zj (Zj (Za ?_))
   obtain ⟨hE1,hE2⟩:=hFr.meet hadj h00
   obtain ⟨F,hS⟩:=hS.nm [0,4] [0,101,1] rfl rfl
   exact ⟨((Za6 n q y),(wy ++ [(vd,nx)] ++ [(y,adj y)]),_),F,hE1,hS,hE2⟩
  have h00:fI q.wh y≠0:=by rw [Zb9 hy.1];simpa using hc3
  refine wp_seq ?_
  refine Zb hS (qM rfl rfl (qf (o_nilCheck 2 .is (by rfl)) r1 r1 (qf (oF 4 2 .adr) r1 r1 (qa 2 r1 r1 (qM rfl rfl (qf (OpC.lend 6 [106] ZoM (oP (Zoz n q.inn y) Tryz.func283 (Args.two .t .t)) ⟨rfl,trivial,trivial⟩ (.pv (fun _ _ _ _ h=>h)) trivial (by rfl)) r2 r1 (qN rfl rfl qZ))))))) hB [102,8,5,4,0] [101,7,6,5,4,3,2,0] rfl rfl fun a w F hS=>Za ?_
  refine Zd hS rfl (fun hc4=>?_) (fun hc4=>?_)
  ·skip
   have hyq:y ∈ q.inn:=by simpa using hc4
   refine Zy hS (qM rfl rfl (qf (o_nilCheck 2 .is (by rfl)) r1 r1 (qf (oF 2 2 .adr) r1 r1 (qa 2 r1 r1 (qM rfl rfl (qf (o_nilCheck_row0 (sz:=2) 101 .t (by intro x;rfl) (by simp)) r1 r1 (qf (o_fieldAddr_row (off:=0) (sz:=2) 101 .t (by simp) (by kernel_rfl) (by rfl)) r1 r1 (qf (Z4 (ag:=false) (sz':=1) (sz:=2) 101 .t (by intro x;rfl) (by simp) (by kernel_rfl) (by kernel_rfl) (by kernel_rfl)) r1 r1 (qM rfl rfl (qf (o_nilCheck 2 .is (by rfl)) r1 r1 (qf (oF 2 2 .adr) r1 r1 (qa 2 r1 r1 (qM rfl rfl (qf (o_nilCheck_row0 (sz:=2) 101 .t (by intro x;rfl) (by simp)) r1 r1 (qf (o_fieldAddr_row (off:=0) (sz:=2) 101 .t (by simp) (by kernel_rfl) (by rfl)) r1 r1 (qf (Z4 (ag:=false) (sz':=1) (sz:=2) 101 .t (by intro x;rfl) (by simp) (by kernel_rfl) (by kernel_rfl) (by kernel_rfl)) r1 r1 (qf (o_indexAddr_row (sz:=1) 4 (.mk Tryz.underlying277 (by kernel_rfl)) .is .t (by rw [nth_last];exact hvn.2.1) (by rw [nth_last,hI2.ll];exact hvn.2.2) (by rfl)) r2 r1 (qf (Zz (ag:=false) (sz':=1) (sz:=1) 4 .t (by intro x;rfl) (by rw [nth_last,hI2.ll];have:=hvn.2;omega) (by kernel_rfl) (by kernel_rfl) (by kernel_rfl)) r1 r1 (qM rfl rfl (qf (o_nilCheck 2 .is (by rfl)) r1 r1 (qf (oF 1 2 .adr) r1 r1 (qa 2 r1 r1 (qM rfl rfl (qf (o_indexAddr_row (sz:=1) 3 (.mk Tryz.underlying277 (by kernel_rfl)) .is .t (by omega) (by rw [hI2.lw];omega) (by rfl)) r2 r1 (qf (Zz (ag:=false) (sz':=1) (sz:=1) 3 .t (by intro x;rfl) (by rw [hI2.lw];omega) (by kernel_rfl) (by kernel_rfl) (by kernel_rfl)) r1 r1 (qf (o_min .t .t) r2 qz (qf (o_indexAddr_row (sz:=1) 4 (.mk Tryz.underlying277 (by kernel_rfl)) .is .t (by rw [nth_last];exact hvn.2.1) (by rw [nth_last,hI2.ll];exact hvn.2.2) (by rfl)) r2 r1 (qf (ZZ (R:=Zfi) (sz:=1) (v:=_) 4 .t (by intro x;rfl) (by rw [nth_last,hI2.ll];have:=hvn.2;omega) .t rfl one_int (by kernel_rfl)) r2 r1 qZ)))))))))))))))))))))))))))) hB [4,0] [101,7,6,5,4,3,2,0] rfl rfl fun a w F hS=>?_
   try dsimp only [List.map,Zf,xL,xM,Nat.reduceAdd,xD,xE,xT,xU,xC,xN,zCF,ldSF,Zo,Zfi,Zhe] at hS
   try simp only [Int.toNat_natCast] at hS
   rw [nth_last] at hS
   try dsimp only at hS
   rw [show (if Go.Gm.nth q.wh y.toNat<Go.Gm.nth q.lo vd.toNat then Go.Gm.nth q.wh y.toNat else Go.Gm.nth q.lo vd.toNat)=min (fI q.lo vd) (fI q.wh y) by rw [Zph,← Zb9 hy.1,← Zb9 hvn.2.1]] at hS
   refine Zj (Zj (Za ?_))
   have hS:=hS.fresh 1 rfl
   obtain ⟨F,hS⟩:=hS.push 1 7 rfl rfl rfl (by kernel_rfl)
   obtain ⟨F,hS⟩:=hS.push 1 6 rfl rfl rfl (by kernel_rfl)
   obtain ⟨F,hS⟩:=hS.push 1 5 rfl rfl rfl (by kernel_rfl)
   obtain ⟨F,hS⟩:=hS.push 1 4 rfl rfl rfl (by kernel_rfl)
   obtain ⟨F,hS⟩:=hS.push 1 3 rfl rfl rfl (by kernel_rfl)
   obtain ⟨F,hS⟩:=hS.push 1 2 rfl rfl rfl (by kernel_rfl)
   have hS:=hS.turn 1 rfl (r':=RS.hp (Zb0 (.clos f cps) n ({ q with lo:=q.lo.set vd.toNat (min (fI q.lo vd) (fI q.wh y)) }) (.pointer (some ⟨b,0,none⟩)))) (fun _ _ _ _ h=>⟨_,_,_,_,_,h⟩)
   obtain ⟨hE1,hE2⟩:=hFr.wait hyq
   obtain ⟨F,hS⟩:=hS.nm [0,4] [0,101,1] rfl rfl
   exact ⟨(({ q with lo:=q.lo.set vd.toNat (min (fI q.lo vd) (fI q.wh y)) }),(wy ++ [(vd,nx)]),_),F,hE1,hS,hE2⟩
  have hyq:y ∉ q.inn:=by simpa using hc4
  refine wp_skip (Zj (Zj (Za ?_)))
  have hS:=hS.fresh 1 rfl
  obtain ⟨F,hS⟩:=hS.push 1 7 rfl rfl rfl (by kernel_rfl)
  obtain ⟨F,hS⟩:=hS.push 1 6 rfl rfl rfl (by kernel_rfl)
  obtain ⟨F,hS⟩:=hS.push 1 5 rfl rfl rfl (by kernel_rfl)
  obtain ⟨F,hS⟩:=hS.push 1 4 rfl rfl rfl (by kernel_rfl)
  obtain ⟨F,hS⟩:=hS.push 1 3 rfl rfl rfl (by kernel_rfl)
  obtain ⟨F,hS⟩:=hS.push 1 2 rfl rfl rfl (by kernel_rfl)
  have hS:=hS.turn 1 rfl (r':=RS.hp (Zb0 (.clos f cps) n q (.pointer (some ⟨b,0,none⟩)))) (fun _ _ _ _ h=>⟨_,_,_,_,_,h⟩)
  obtain ⟨hE1,hE2⟩:=hFr.past h00 hyq
  obtain ⟨F,hS⟩:=hS.nm [0,4] [0,101,1] rfl rfl
  exact ⟨((q),(wy ++ [(vd,nx)]),_),F,hE1,hS,hE2⟩
 have hwe:way = []:=by cases way with | nil=>rfl | cons r l=>simp at hc0
 subst hwe
 refine wp_exit (Zh (Zh (Zp ?_)))
 have hS:=hS.turn 1 rfl (r':=RS.hp (.ex fun t:Za4=>.and (TI n adj t []∧fI t.wh x≠0 ∧ ∀ y,fI sd.wh y≠0→fI t.wh y≠0) (Zb0 (.clos f cps) n t (.pointer (some ⟨b,0,none⟩))))) (fun _ _ _ _ h=>⟨q,hFr,h⟩)
 refine Zas hG hS rfl .nil .none rfl
def EQ_ (q:List Znl) (a b:Int):Prop:=(⟨a,b⟩:Znl) ∈ q
def Zau (N:List Int) (x:Int):List Int:=if x ∈ N then N else N ++ [x]
def ZcJ (N:List Int) (e:Zk):List Int:=Zau (Zau N e.src) e.dst
def ZC (l:List Zk):List Int:=l.foldl ZcJ []
theorem ZoL (N:List Int) (x:Int):x ∈ Zau N x:=by
 unfold Zau;split
 · assumption
 · simp
theorem Zhu {N:List Int} {x y:Int} : y ∈ Zau N x ↔ y ∈ N∨y=x:=by
 unfold Zau;split
 · rename_i h
   exact ⟨.inl,fun h2=>h2.elim id fun e=>e ▸ h⟩
 · simp
theorem nodeP_nodup {N:List Int} {x:Int} (h:N.Nodup):(Zau N x).Nodup:=by
 unfold Zau;split
 · exact h
 · rename_i hx
   exact List.nodup_append.2 ⟨h,by simp,fun a ha b hb e=>hx (by rw [List.mem_singleton.1 hb] at e;exact e ▸ ha)⟩
theorem ZeD (N:List Int) (x:Int):N.length≤(Zau N x).length∧(Zau N x).length≤N.length+1:=by
 unfold Zau;split
 · omega
 · simp
theorem Zew {v:Int} {l m:List Int} (h:v ∈ l):Zax v (l++m)=Zax v l:=by
 induction l with
 | nil=>cases h
 | cons x l ih=>
   rw [List.cons_append]
   by_cases hx:x=v
   · rw [Zax,if_pos hx,Zax,if_pos hx]
   · have hm:v ∈ l:=(List.mem_cons.1 h).resolve_left fun e=>hx e.symm
     rw [Zax,if_neg hx,Zax,if_neg hx,ih hm]
theorem ZjV {v:Int} {l:List Int} (h:v ∉ l):Zax v (l ++ [v])=l.length:=by
 induction l with
 | nil=>simp [Zax]
 | cons x l ih=>
   have hx:x≠v:=fun e=>h (e ▸ List.mem_cons_self)
   have:=ih fun h2=>h (List.mem_cons_of_mem _ h2)
   rw [List.cons_append,Zax,if_neg hx,this,if_neg (by omega)]
   simp
theorem ZlZ {N:List Int} {x y:Int} (h:y ∈ N):Zax y (Zau N x)=Zax y N:=by
 unfold Zau;split
 · rfl
 · exact Zew h
theorem Zh5 {N:List Int} {x:Int} (h:x ∈ N):0≤Zax x N∧Zax x N<N.length:=by
 obtain ⟨i,h1,h2,_⟩:=Zdi h
 omega
theorem ZgU {N:List Int} {x y:Int} (hx:x ∈ N) (hy:y ∈ N) (h:Zax x N=Zax y N):x=y:=by
 obtain ⟨i,h1,h2,h3,_⟩:=Zdi hx
 obtain ⟨j,k1,k2,k3,_⟩:=Zdi hy
 have:i=j:=by omega
 subst this
 rw [← h3,k3]
theorem ZlR {N:List Int} {e:Zk} {y:Int} : y ∈ ZcJ N e ↔ y ∈ N∨y=e.src∨y=e.dst:=by
 unfold ZcJ
 rw [Zhu,Zhu,or_assoc]
theorem ZbG:∀ {l:List Zk} {y:Int},y ∈ ZC l ↔ ∃ e ∈ l,y=e.src∨y=e.dst:=by
 have key:∀ (l:List Zk) (N:List Int) (y:Int),y ∈ l.foldl ZcJ N ↔ y ∈ N ∨ ∃ e ∈ l,y=e.src∨y=e.dst:=by
   intro l
   induction l with
   | nil=>intro N y;simp
   | cons e l ih=>
     intro N y
     rw [List.foldl_cons,ih,ZlR]
     simp [or_assoc]
 intro l y
 unfold ZC
 rw [key];simp
theorem ZhF (l:List Zk):(ZC l).Nodup:=by
 have key:∀ (l:List Zk) (N:List Int),N.Nodup→(l.foldl ZcJ N).Nodup:=by
   intro l
   induction l with
   | nil=>intro N h;exact h
   | cons e l ih=>intro N h;exact ih _ (nodeP_nodup (nodeP_nodup h))
 exact key l [] .nil
theorem ZkB (l:List Zk):(ZC l).length≤2*l.length:=by
 have key:∀ (l:List Zk) (N:List Int),(l.foldl ZcJ N).length≤N.length+2*l.length:=by
   intro l
   induction l with
   | nil=>intro N;simp
   | cons e l ih=>
     intro N
     have h1:=ih (ZcJ N e)
     have h2:=(ZeD N e.src).2
     have h3:=(ZeD (Zau N e.src) e.dst).2
     unfold ZcJ at h1
     rw [List.foldl_cons,List.length_cons]
     unfold ZcJ
     omega
 have:=key l []
 show (l.foldl ZcJ []).length≤_
 simpa using this
def ZrS (N:List Int) (e:Zk):Znl:=⟨Zax e.src N,Zax e.dst N⟩
def LE_ (l:List Zk) (a b:Int):Prop:=∃ e ∈ l,e.src=a∧e.dst=b
theorem ZlK {l:List Zk} {a b:Int} (ha:a ∈ ZC l) (hb:b ∈ ZC l):Rch (EQ_ (l.map (ZrS (ZC l)))) (Zax a (ZC l)) (Zax b (ZC l)) ↔ Rch (LE_ l) a b:=by
 have hm:∀ {e:Zk},e ∈ l→e.src ∈ ZC l∧e.dst ∈ ZC l:=fun {e} he=>⟨ZbG.2 ⟨e,he,.inl rfl⟩,ZbG.2 ⟨e,he,.inr rfl⟩⟩
 constructor
 · have key:∀ {y:Int},Rch (EQ_ (l.map (ZrS (ZC l)))) (Zax a (ZC l)) y → ∃ b,b ∈ ZC l∧y=Zax b (ZC l)∧Rch (LE_ l) a b:=fun {y} h=>by
     induction h with
     | one k=>
       obtain ⟨e,he,e2⟩:=List.mem_map.1 k
       injection e2 with e3 e4
       refine ⟨e.dst,(hm he).2,e4.symm,.one ⟨e,he,?_,rfl⟩⟩
       exact ZgU (hm he).1 ha e3
     | step _ k ih=>
       obtain ⟨c,hc,e1,h1⟩:=ih
       obtain ⟨e,he,e2⟩:=List.mem_map.1 k
       injection e2 with e3 e4
       refine ⟨e.dst,(hm he).2,e4.symm,.step h1 ⟨e,he,?_,rfl⟩⟩
       exact ZgU (hm he).1 hc (e3.trans e1)
   intro h
   obtain ⟨c,hc,e,h1⟩:=key h
   rw [ZgU hb hc e];exact h1
 · intro h
   clear hb
   induction h with
   | one k=>
     obtain ⟨e,he,rfl,rfl⟩:=k
     exact .one (List.mem_map.2 ⟨e,he,rfl⟩)
   | step _ k ih=>
     obtain ⟨e,he,rfl,rfl⟩:=k
     exact .step ih (List.mem_map.2 ⟨e,he,rfl⟩)
structure Zfj (es:List (Zbo Int)) (N:List Int):Prop where
 len:es.length=N.length
 get:∀ x,ZdJ x es=if x ∈ N then some (Zax x N) else none
def Zq4 (N:List Int) (v:Value):HP:=.ex fun s:List (Zbo Int)×Nat=>.and (Zfj s.1 N) (Zmy .i64 (fun _=>True) (fun n:Int=>Value.int .i64 n) s.1 s.2 v)
theorem Zfj.nil:Zfj [] []:=⟨rfl,fun x=>by simp [ZdJ]⟩
theorem Zfj.put {es:List (Zbo Int)} {ck:Nat} {N:List Int} {x:Int} (h:Zfj es N) (hx:x ∉ N):Zfj (mPut x (N.length:Int) (es,ck)).1 (N ++ [x]):=by
 have hg:ZdJ x es=none:=by rw [h.get,if_neg hx]
 have hi:(mIdx x es).isSome=false:=by rw [Zer,hg];rfl
 refine ⟨?_,fun y=>?_⟩
 · unfold mPut
   rw [hi]
   simp [h.len]
 · rw [Zof]
   by_cases e:y=x
   · subst e
     rw [if_pos rfl,if_pos (by simp),ZjV hx]
   · rw [if_neg e]
     show ZdJ y es=_
     rw [h.get]
     by_cases hy:y ∈ N
     · rw [if_pos hy,if_pos (by simp [hy]),Zew hy]
     · rw [if_neg hy,if_neg (by simp [hy,e])]
theorem Zfj.old {es:List (Zbo Int)} {N:List Int} {x:Int} (h:Zfj es N) (hx:(ZdJ x es).isSome=true):x ∈ N∧Zds x es=Zax x N:=by
 rw [h.get] at hx
 split at hx
 · rename_i e
   exact ⟨e,by rw [Zi8,h.get,if_pos e];rfl⟩
 · cases hx
theorem Zfj.new {es:List (Zbo Int)} {N:List Int} {x:Int} (h:Zfj es N) (hx:(ZdJ x es).isSome=false):x ∉ N:=fun e=>by
 rw [h.get,if_pos e] at hx;cases hx
theorem ZcS (P:Prop):∃ b:Bool,b=true ↔ P:=(Classical.em P).elim (fun h=>⟨true,by simp [h]⟩) fun h=>⟨false,by simp [h]⟩
def ZU (mask:Int) (e:Zk):Bool:=(decide (1≤e.kind) && decide (e.kind≤3)) && ofB mask e.kind
def Zks (must kind:Int):Bool:=decide (bits .and .i64 must 14=0) || ofB must kind
def Zip (N:List Int) (e:Zk):ZaG:=⟨Zax e.src N,Zax e.dst N,e.kind,0⟩
def ZeE (l:List Zk) (mask must:Int):Prop:=∃ e ∈ l.filter (ZU mask),Zks must e.kind=true∧(e.dst=e.src∨Rch (LE_ (l.filter (ZU mask))) e.dst e.src)
theorem ZnR {N M:List Int} {l:List Zk} (h:∀ e ∈ l,e.src ∈ N∧e.dst ∈ N):l.map (Zip (N++M))=l.map (Zip N):=by
 refine List.map_congr_left fun e he=>?_
 unfold Zip
 rw [Zew (h e he).1,Zew (h e he).2]
theorem Zm1 (N:List Int) (e:Zk):∃ M,ZcJ N e=N++M:=by
 have one:∀ (N:List Int) (x:Int),∃ M,Zau N x=N++M:=fun N x=>by
   unfold Zau;split
   · exact ⟨[],by simp⟩
   · exact ⟨[x],rfl⟩
 obtain ⟨M1,h1⟩:=one N e.src
 obtain ⟨M2,h2⟩:=one (Zau N e.src) e.dst
 exact ⟨M1++M2,by unfold ZcJ;rw [h2,h1,List.append_assoc]⟩
theorem ZgF {l:List Zk} {e:Zk} (he:e ∈ l):e.src ∈ ZC l∧e.dst ∈ ZC l:=⟨ZbG.2 ⟨e,he,.inl rfl⟩,ZbG.2 ⟨e,he,.inr rfl⟩⟩
theorem Zl2 (l:List Zk) (e:Zk):(l ++ [e]).map (Zip (ZC (l ++ [e])))=l.map (Zip (ZC l)) ++ [⟨Zax e.src (Zau (ZC l) e.src),Zax e.dst (ZcJ (ZC l) e),e.kind,0⟩]:=by
 have e1:ZC (l ++ [e])=ZcJ (ZC l) e:=by unfold ZC;rw [List.foldl_append];rfl
 obtain ⟨M,hM⟩:=Zm1 (ZC l) e
 rw [e1,List.map_append,List.map_singleton]
 congr 1
 · rw [hM];exact ZnR fun x hx=>ZgF hx
 · unfold Zip
   have:Zax e.src (ZcJ (ZC l) e)=Zax e.src (Zau (ZC l) e.src):=by
     unfold ZcJ
     exact ZlZ (ZoL _ _)
   rw [this]
section
variable {l:List Zk} {n:Nat} {E:List ZaG} {O I:List (List Zae)} {L:List Int}
theorem ZbH {mask:Int} {e:Zk} (he:e ∈ l.filter (ZU mask)) (hn:n=(ZC (l.filter (ZU mask))).length):Zam n (Zip (ZC (l.filter (ZU mask))) e)=true:=by
 obtain ⟨h1,h2⟩:=ZgF he
 obtain ⟨a1,a2⟩:=Zh5 h1
 obtain ⟨b1,b2⟩:=Zh5 h2
 have hk:=(List.mem_filter.1 he).2
 unfold ZU at hk
 simp only [Bool.and_eq_true,decide_eq_true_eq] at hk
 exact ZW.2 ⟨⟨a1,by show Zax _ _<_;omega⟩,⟨b1,by show Zax _ _<_;omega⟩,hk.1,Int.le_refl _,by show (0:Int)≤_;decide⟩
theorem of14 {k:Int} (h:1≤k∧k≤3):ofB 14 k=true:=by
 have:k=1∨k=2∨k=3:=by omega
 rcases this with rfl | rfl | rfl <;> decide
theorem ZhU {mask:Int} (h:Zfc n E O I) (hn:n=(ZC (l.filter (ZU mask))).length) (hE:∀ x,x ∈ E ↔ x ∈ (l.filter (ZU mask)).map (Zip (ZC (l.filter (ZU mask))))) (a b:Int) :
   EJ (Zfy O 14) a b ↔ EQ_ ((l.filter (ZU mask)).map (ZrS (ZC (l.filter (ZU mask))))) a b:=by
 show b ∈ Zfy O 14 a ↔ _
 rw [(h.next 14 a).2]
 unfold EQ_
 rw [List.mem_map]
 constructor
 · rintro ⟨x,hx,h1,_,h2⟩
   obtain ⟨e,he,rfl⟩:=List.mem_map.1 ((hE x).1 hx)
   exact ⟨e,he,by rw [← h1,← h2];rfl⟩
 · rintro ⟨e,he,h1⟩
   injection h1 with h2 h3
   refine ⟨Zip _ e,(hE _).2 (List.mem_map.2 ⟨e,he,rfl⟩),h2,?_,h3⟩
   exact of14 (ZW.1 (ZbH he hn)).2.2.1
theorem Zok {mask must:Int} (h:Zfc n E O I) (hn:n=(ZC (l.filter (ZU mask))).length) (hE:∀ x,x ∈ E ↔ x ∈ (l.filter (ZU mask)).map (Zip (ZC (l.filter (ZU mask))))) (hL:Ziu (Zfy O 14) n L) :
   (∃ x ∈ (l.filter (ZU mask)).map (Zip (ZC (l.filter (ZU mask)))),Go.Gm.nth L x.src.toNat=Go.Gm.nth L x.dst.toNat∧Zks must x.kind=true) ↔ ZeE l mask must:=by
 have hr:∀ {a b:Int},Rch (EJ (Zfy O 14)) a b ↔ Rch (EQ_ ((l.filter (ZU mask)).map (ZrS (ZC (l.filter (ZU mask)))))) a b:=fun {a b}=>⟨Rch.mono fun x y=>(ZhU h hn hE x y).1,Rch.mono fun x y=>(ZhU h hn hE x y).2⟩
 have one:∀ e ∈ l.filter (ZU mask),(Go.Gm.nth L (Zip (ZC (l.filter (ZU mask))) e).src.toNat=Go.Gm.nth L (Zip (ZC (l.filter (ZU mask))) e).dst.toNat ↔ (e.dst=e.src∨Rch (LE_ (l.filter (ZU mask))) e.dst e.src)):=fun e he=>by
   obtain ⟨s1,s2⟩:=(ZW.1 (ZbH he hn)).1
   obtain ⟨d1,d2⟩:=(ZW.1 (ZbH he hn)).2.1
   obtain ⟨m1,m2⟩:=ZgF he
   have k1:=hL.2 (Zip (ZC (l.filter (ZU mask))) e).src.toNat (by omega)
   have k2:=hL.2 (Zip (ZC (l.filter (ZU mask))) e).dst.toNat (by omega)
   rw [Int.toNat_of_nonneg s1] at k1
   rw [Int.toNat_of_nonneg d1] at k2
   rw [k1.same k2]
   show (Zax e.dst _=Zax e.src _∨(Rch _ (Zax e.src _) (Zax e.dst _)∧Rch _ (Zax e.dst _) (Zax e.src _))) ↔ _
   rw [hr,hr,ZlK m1 m2,ZlK m2 m1]
   constructor
   · rintro (h9 | h9)
     · exact .inl (ZgU m2 m1 h9)
     · exact .inr h9.2
   · rintro (h9 | h9)
     · exact .inl (by rw [h9])
     · exact .inr ⟨.one ⟨e,he,rfl,rfl⟩,h9⟩
 constructor
 · rintro ⟨x,hx,h1,h2⟩
   obtain ⟨e,he,rfl⟩:=List.mem_map.1 hx
   exact ⟨e,he,h2,(one e he).1 h1⟩
 · rintro ⟨e,he,h1,h2⟩
   exact ⟨_,List.mem_map.2 ⟨e,he,rfl⟩,(one e he).2 h2,h1⟩
end
theorem Zpj (mv:Value) (N:List Int) (id:Int) (hN:N.length≤1000000):FnG Tryz.prog 157 1 [.is mv,.int .i64 id] [Zq4 N mv] (.int .i64 (Zax id (Zau N id))) (fun _=>[Zq4 (Zau N id) mv]):=by
 refine FnG.mk Tryz.func157 rfl Tryz.ntmps157 rfl (by kernel_rfl) ?_
 intro B F0 a w F hB hG hS
 refine wp_seq ?_
 refine Zb hS (qI qZ) hB [4,1,0] [1,0] rfl rfl fun a w F hS=>Za (wp_seq ?_)
 obtain ⟨⟨es,ck⟩,hS⟩:=hS.open_ex 1 rfl
 obtain ⟨hk,hS⟩:=hS.open_and 1 rfl
 replace hS:=hS.turn 1 rfl (r':=.ob (.val mv) (Zmy .i64 (fun _=>True) (fun n:Int=>Value.int .i64 n) es ck)) (fun _ _ _ _ h=>h)
 dsimp only at hk
 obtain ⟨F,hS⟩:=hS.nm [4,1,0] [1,0] rfl rfl
 refine Zb hS (qM rfl rfl (qM rfl rfl (qf (Zkm 1 Tryz.underlying208 (Zlo Tryz.underlying3) (by kernel_rfl) .is (ZD.int .t rfl)) r2 r1 (qM rfl rfl (qf (Zq .t rfl) r1 qz (qf (Zq .t rfl) r1 qz (qN rfl rfl (qN rfl rfl qZ)))))))) hB [6,5,4,1,0] [1,0] rfl rfl fun a w F hS=>Za (wp_seq (wp_seq ?_))
 refine Zb hS (qM rfl rfl (qf (o_not .t) r1 qz qZ)) hB [14,5,4,1,0] [1,0] rfl rfl fun a w F hS=>Za ?_
 refine Zd hS rfl (fun hc0=>?_) (fun hc0=>?_)
 ·skip
  have hid:id ∉ N:=hk.new (by simpa using hc0)
  have hg:Zau N id=N ++ [id]:=if_neg hid
  have hgi:(N.length:Int)=Zax id (N ++ [id]):=(ZjV hid).symm
  refine wp_seq ?_
  refine Zb hS (qM rfl rfl (qf (ZeU 1 Tryz.underlying208 .is (by rw [hk.len];omega)) r1 r1 (qN rfl rfl qZ))) hB [5,4,1,0] [1,0] rfl rfl fun a w F hS=>?_
  rw [hk.len] at hS
  refine Za ?_
  refine Zb hS (qM rfl rfl (qM rfl rfl (qM rfl rfl (qf (ZiG 1 Tryz.underlying208 (Zlo Tryz.underlying3) .is (ZD.int .t rfl) .t) r3 r1 qZ)))) hB [5,4] [1,0] rfl rfl fun a w F hS=>Za (wp_seq ?_)
  refine Zb hS (qM rfl rfl (qN rfl rfl qZ)) hB [4] [1,0] rfl rfl fun a w F hS=>Za (wp_ret ?_)
  have hS:=hS.turn 1 rfl (r':=RS.hp (Zq4 (N ++ [id]) mv)) (fun _ _ _ _ h=>⟨mPut id (N.length:Int) (es,ck),hk.put hid,h⟩)
  rw [hg]
  refine Zas hG hS rfl (.tmp rfl .nil) (.one (.int hgi)) rfl
 obtain ⟨hid,hgv⟩:=hk.old (by simpa using hc0)
 have hg:Zau N id=N:=if_pos hid
 have hgi:Zds id es=Zax id N:=hgv
 refine wp_skip (Za (wp_seq ?_))
 refine Zb hS (qM rfl rfl (qN rfl rfl qZ)) hB [4] [1,0] rfl rfl fun a w F hS=>Za (wp_ret ?_)
 have hS:=hS.turn 1 rfl (r':=RS.hp (Zq4 N mv)) (fun _ _ _ _ h=>⟨(es,ck),hk,h⟩)
 rw [hg]
 refine Zas hG hS rfl (.tmp rfl .nil) (.one (.int hgi)) rfl
theorem Zqy {l:List PV} : ∀ v w yy,(PV.ref l).p v w yy→v.oneCell' = true:=fun v _ _ ⟨_,_,_,e,_⟩=>by rw [e];rfl
theorem Zpz:inR .i32 0:=by show IntKind.min .i32≤0∧0≤IntKind.max .i32;decide
theorem Zmf {n:Nat} (h:n≤65536):rowN (n:Int)=n:=by unfold rowN;repeat' split;all_goals omega
theorem Zfc.adjR {n:Nat} {E:List ZaG} {O I:List (List Zae)} (h:Zfc n E O I) (mask:Int):(∀ u y,y ∈ Zfy O mask u→0≤y∧y<(n:Int)) ∧ ∀ u,(Zfy O mask u).length≤n:=by
 have h1:∀ u y,y ∈ Zfy O mask u→0≤y∧y<(n:Int):=fun u y hy=>by
   obtain ⟨x,x1,x2,x3,x4⟩:=((h.next mask u).2 y).1 hy
   have:=(ZW.1 (h.ok x x1)).2.1
   omega
 exact ⟨h1,fun u=>ZgD ((h.next mask u).1.imp fun h=>by omega) (h1 u)⟩
theorem Zlx (u:Int) (O I:List (List Zae)) (m:Nat) (mask:Int) (hO:∀ l ∈ O,l.length≤1000000):FnP Tryz.prog 234 [.int .i64 u,.ref [Zjw O I m],.ref [.int .i64 mask]] (.sl Zo (Zfy O mask u)):=by
 refine FnP.mk Tryz.func234 rfl Tryz.ntmps234 rfl ?_
 intro B a w F hB hfr hS
 refine wp_seq ?_
 refine Zb hS (qC qZ) hB [4,2,1,0] [0] rfl rfl fun a w F hS=>Za (wp_seq ?_)
 refine Zb hS (qf (oR false 1 .t) r1 qz (qM rfl rfl (qf (oR false 1 .t) r1 qz (qf (oP (ZoO O I m u mask hO) Tryz.func235 (Args.three .t .t .t)) r3 qz (qN rfl rfl qZ))))) hB [4] [0] rfl rfl fun a w F hS=>Za (wp_ret ?_)
 refine Zw hfr hS rfl rfl rfl .refl
theorem Zos (n:Nat) (E:List ZaG) (O I:List (List Zae)) (m:Nat) (mask:Int) (h:Zfc n E O I) (hn:n≤4096) (hE:E.length≤1000000) (L:List Int) (hL:Ziu (Zfy O mask) n L):FnP Tryz.prog 161 [Zjw O I m,.int .i64 mask] (.sl Zo L):=by
 refine FnP.mk Tryz.func161 rfl Tryz.ntmps161 rfl ?_
 intro B a w F hB hfr hS
 have hO:∀ l ∈ O,l.length≤1000000:=fun l hl=>(h.on.r hE l hl).1
 obtain ⟨hadj,hal0⟩:=h.adjR mask
 have hal:∀ u,(Zfy O mask u).length≤4096:=fun u=>Nat.le_trans (hal0 u) hn
 refine wp_seq ?_
 refine Zc hS (qf (ZhQ 101 .t Zqy) r1 qz (qf (ZhQ 102 .t one_int) r1 qz (qC qZ))) hB [4,3,2] [102,101,0] (fun _=>rfl) (fun _=>rfl) fun τ a w F hS=>?_
 try dsimp only [RS.sub,SF.sub,CF.sub,csub,Anc.sub,List.map,zCF,Zo,Zfi] at hS
 generalize τ 2=v2 at hS
 generalize τ 3=v3 at hS
 obtain ⟨F,hS⟩:=hS.giveRef 101 2 rfl rfl rfl
 obtain ⟨F,hS⟩:=hS.nm [4,3,2] [102,0] rfl rfl
 try dsimp only [Go.Gm.unCF] at hS
 obtain ⟨F,hS⟩:=hS.giveRef 102 3 rfl rfl rfl
 obtain ⟨F,hS⟩:=hS.nm [4,3,2] [0] rfl rfl
 try dsimp only [Go.Gm.unCF] at hS
 refine Za (wp_seq ?_)
 refine Zb hS (qf (oR false 1 .t) r1 qz (qf (oP (ZhA O I m) Tryz.func233 (Args.one .t)) r1 qz (qN rfl rfl qZ))) hB [5,4,3,2] [0] rfl rfl fun a w F hS=>?_
 rw [h.ol] at hS
 refine Za (wp_seq ?_)
 refine Zb hS (qf (ZbL (Args.two .t .t)) r2 qz (qN rfl rfl qZ)) hB [6,5,4] [0] rfl rfl fun a w F hS=>Za (wp_seq ?_)
 replace hS:=hS.fresh 103 rfl
 replace hS:=hS.fresh 104 rfl
 refine ZaP hS (qM rfl rfl (qM rfl rfl (qf (ZaI (R:=Zfi) (v:=0) (c:=(n:Int)) (sz:=1) (bs:=4) (zs:=[.int .i32 0]) 105 Tryz.underlying277 (by kernel_rfl) (by kernel_rfl) (by kernel_rfl) (fun _ _=>⟨⟨rfl,rfl,Zpz⟩,trivial⟩) .t .t (Int.natCast_nonneg _) (by omega) (by omega)) r2 qz (qM rfl rfl (qf (ZaI (R:=Zfi) (v:=0) (c:=(n:Int)) (sz:=1) (bs:=4) (zs:=[.int .i32 0]) 106 Tryz.underlying277 (by kernel_rfl) (by kernel_rfl) (by kernel_rfl) (fun _ _=>⟨⟨rfl,rfl,Zpz⟩,trivial⟩) .t .t (Int.natCast_nonneg _) (by omega) (by omega)) r2 qz (qM rfl rfl (qf (Za1 103 (ZpJ n) Tryz.func236 rfl (by kernel_rfl) (Args.one .t) PV.ptr_one) r1 r1 (qM rfl rfl (qf (Za1 104 (ZoQ n) Tryz.func237 rfl (by kernel_rfl) (Args.one .t) PV.ptr_one) r1 r1 (qM rfl rfl (qf (ZaI (R:=Zo) (v:=0) (c:=(n:Int)) (sz:=1) (bs:=8) (zs:=[.int .i64 0]) 107 Tryz.underlying34 (by kernel_rfl) (by kernel_rfl) (by kernel_rfl) (fun _ _=>⟨⟨rfl,rfl,Zc4⟩,trivial⟩) .t .t (Int.natCast_nonneg _) (by omega) (by omega)) r2 qz (qf (oB [(0,.tmp 12),(1,.tmp 14),(2,.tmp 16),(3,.tmp 18),(4,.tmp 20),(6,.tmp 22)] [.nilFunc,.slice none 0 0,.slice none 0 0,.pointer none,.pointer none,.int .i32 0,.slice none 0 0] [(0,1),(1,1),(2,1),(3,1),(4,1),(5,1),(6,1)] (.one rfl .t Zpe (by kernel_rfl) (.same rfl (by kernel_rfl) (.same rfl (by kernel_rfl) (.same rfl (by kernel_rfl) (.same rfl (by kernel_rfl) (.same rfl (by kernel_rfl) .nil))))))) r6 qz (qf (oX 108 .t) r1 qz (qN rfl rfl qZ)))))))))))))) hB [7,5,4] [108,107,106,105,104,103,0] (fun _=>rfl) (fun _=>rfl) fun τ a w F hS=>?_
 try dsimp only [RS.sub,SF.sub,CF.sub,csub,Anc.sub,List.map,Zf,xL,xM,Nat.reduceAdd,xD,xE,xT,xU,xC,xN,zCF,Zo,Zfi] at hS
 generalize τ 24=v24 at hS
 generalize τ 18=v18 at hS
 generalize τ 20=v20 at hS
 generalize τ 14=v14 at hS
 generalize τ 16=v16 at hS
 generalize τ 22=v22 at hS
 rw [Int.toNat_natCast] at hS
 obtain ⟨tb,rfl⟩:=hS.shape 108 rfl
 replace hS:=hS.turn 103 rfl (r':=RS.hp (stH v18 n [])) (by rw [ZlG (by omega)];exact fun _ _ _ _ h=>h)
 replace hS:=hS.turn 104 rfl (r':=RS.hp (Zgc n [] v20)) (by rw [Zmf (by omega)];exact fun _ _ _ _ h=>h)
 have hS:=hS.fresh 1 rfl
 obtain ⟨F,hS⟩:=hS.push 1 107 rfl rfl rfl (by kernel_rfl)
 obtain ⟨F,hS⟩:=hS.push 1 104 rfl rfl rfl (by kernel_rfl)
 obtain ⟨F,hS⟩:=hS.push 1 103 rfl rfl rfl (by kernel_rfl)
 obtain ⟨F,hS⟩:=hS.push 1 106 rfl rfl rfl (by kernel_rfl)
 obtain ⟨F,hS⟩:=hS.push 1 105 rfl rfl rfl (by kernel_rfl)
 obtain ⟨F,hS⟩:=hS.push 1 108 rfl rfl rfl (by kernel_rfl)
 have hS:=hS.turn 1 rfl (r':=RS.hp (Zb0 (.clos 234 [.ref [Zjw O I m],.ref [.int .i64 mask]]) n ⟨List.replicate n 0,List.replicate n 0,[],[],0,List.replicate n 0⟩ (.pointer (some ⟨tb,0,none⟩)))) (fun _ _ _ _ h=>⟨_,_,_,_,_,h⟩)
 obtain ⟨F,hS⟩:=hS.nm [7,5,4] [1,0] rfl rfl
 refine Za (wp_seq (wp_seq ?_))
 refine Zb hS (qM rfl rfl (qJ qZ)) hB [26,25,7,4] [1,0] rfl rfl fun a w F hS=>Za (wp_block ?_)
 refine Zl (σ:=Nat×Za4) [4,7,25] [0] (fun s=>[(26,.pv (.int .i64 (s.1:Int)))]) (fun s=>[(1,RS.hp (Zb0 (.clos 234 [.ref [Zjw O I m],.ref [.int .i64 mask]]) n s.2 (.pointer (some ⟨tb,0,none⟩))))]) (fun s=>s.1≤n∧TI n (Zfy O mask) s.2 [] ∧ ∀ u:Nat,u<s.1→Go.Gm.nth s.2.wh u≠0) (fun s=>n - s.1) ((0),_) hS ⟨rfl,rfl,rfl,rfl,trivial⟩ ⟨rfl,rfl,trivial⟩ ⟨Nat.zero_le _,TI.zero n _,fun u hu=>absurd hu (Nat.not_lt_zero u)⟩ ?_
 clear hS;intro s a w F hC hS
 obtain ⟨i,q⟩:=s
 try dsimp only at hC
 obtain ⟨F,hS⟩:=hS.nm [26,25,7,4] [1,0] rfl rfl
 try dsimp only at hS
 obtain ⟨hi,hI,hvs⟩:=hC
 have hck:=hI.lw
 refine wp_seq ?_
 refine Zb hS (qL r2) hB [27,26,25,7,4] [1,0] rfl rfl fun a w F hS=>Za (wp_seq ?_)
 refine Zd hS rfl (fun hc0=>?_) (fun hc0=>?_)
 ·skip
  have hil:i<n:=by simpa using hc0
  refine wp_skip (Za (wp_seq (wp_block (wp_seq ?_))))
  refine Zb hS (qM rfl rfl (qN rfl rfl qZ)) hB [26,25,8,7,4] [1,0] rfl rfl fun a w F hS=>Za (wp_seq ?_)
  obtain ⟨wv,hS⟩:=hS.open_ex 1 rfl
  obtain ⟨lv,hS⟩:=hS.open_ex 1 rfl
  obtain ⟨sv,hS⟩:=hS.open_ex 1 rfl
  obtain ⟨iv,hS⟩:=hS.open_ex 1 rfl
  obtain ⟨ov,hS⟩:=hS.open_ex 1 rfl
  obtain ⟨F,hS⟩:=hS.peel 1 2 rfl rfl
  obtain ⟨F,hS⟩:=hS.peel 1 3 rfl rfl
  obtain ⟨F,hS⟩:=hS.peel 1 4 rfl rfl
  obtain ⟨F,hS⟩:=hS.peel 1 5 rfl rfl
  obtain ⟨F,hS⟩:=hS.peel 1 6 rfl rfl
  obtain ⟨F,hS⟩:=hS.peel 1 7 rfl rfl
  replace hS:=hS.turn 5 rfl (r':=.ob (.val sv) (fun v=>stH v n q.wait)) (fun _ _ _ _ h=>h)
  obtain ⟨_,_,_,ho⟩:=hS.obGet 5 rfl
  obtain ⟨sb,rfl⟩:=ZdH ho
  clear ho
  replace hS:=hS.turn 6 rfl (r':=.ob (.val iv) (Zgc n q.inn)) (fun _ _ _ _ h=>h)
  obtain ⟨_,_,_,ho⟩:=hS.obGet 6 rfl
  obtain ⟨ib,rfl⟩:=Zcy ho
  clear ho
  replace hS:=hS.turn 5 rfl (r':=RS.hp (stH (.pointer (some ⟨sb,0,none⟩)) n q.wait)) (fun _ _ _ _ h=>h)
  replace hS:=hS.turn 6 rfl (r':=RS.hp (Zgc n q.inn (.pointer (some ⟨ib,0,none⟩)))) (fun _ _ _ _ h=>h)
  obtain ⟨F,hS⟩:=hS.nm [26,25,8,7,4] [7,6,5,4,3,2,0] rfl rfl
  refine Zb hS (qM rfl rfl (qf (o_nilCheck 2 .is (by rfl)) r1 r1 (qf (oF 1 2 .adr) r1 r1 (qa 2 r1 r1 (qM rfl rfl (qf (o_indexAddr_row (sz:=1) 3 (.mk Tryz.underlying277 (by kernel_rfl)) .is .t (by omega) (by omega) (by rfl)) r2 r1 (qf (Zz (ag:=false) (sz':=1) (sz:=1) 3 .t (by intro x;rfl) (by omega) (by kernel_rfl) (by kernel_rfl) (by kernel_rfl)) r1 r1 (qf (o_eql .t qi) r1 qz qZ)))))))) hB [36,26,25,8,7,4] [7,6,5,4,3,2,0] rfl rfl fun a w F hS=>?_
  try simp only [Int.toNat_natCast] at hS
  refine Za ?_
  refine Zd hS rfl (fun hc1=>?_) (fun hc1=>?_)
  ·skip
   have h00:fI q.wh i=0:=by rw [Zb9 (by omega)];simpa using hc1
   have hS:=hS.fresh 1 rfl
   obtain ⟨F,hS⟩:=hS.push 1 7 rfl rfl rfl (by kernel_rfl)
   obtain ⟨F,hS⟩:=hS.push 1 6 rfl rfl rfl (by kernel_rfl)
   obtain ⟨F,hS⟩:=hS.push 1 5 rfl rfl rfl (by kernel_rfl)
   obtain ⟨F,hS⟩:=hS.push 1 4 rfl rfl rfl (by kernel_rfl)
   obtain ⟨F,hS⟩:=hS.push 1 3 rfl rfl rfl (by kernel_rfl)
   obtain ⟨F,hS⟩:=hS.push 1 2 rfl rfl rfl (by kernel_rfl)
   have hS:=hS.turn 1 rfl (r':=RS.hp (Zb0 (.clos 234 [.ref [Zjw O I m],.ref [.int .i64 mask]]) n q (.pointer (some ⟨tb,0,none⟩)))) (fun _ _ _ _ h=>⟨_,_,_,_,_,h⟩)
   obtain ⟨F,hS⟩:=hS.nm [36,26,25,8,7,4] [1,0] rfl rfl
   refine Zb hS (qM rfl rfl (qM rfl rfl (qf (Z5 1 (ZrN tb n (Zfy O mask) 234 Tryz.f234 [.ref [Zjw O I m],.ref [.int .i64 mask]] Tryz.func234 rfl (by kernel_rfl) (fun u _=>Zlx u O I m mask hO) hadj hal q i (by omega) (by omega) hn hI h00) Tryz.func238 rfl (by kernel_rfl) (Args.two .t .t)) r2 r1 qZ))) hB [26,25,7,4] [1,0] rfl rfl fun a w F hS=>?_
   obtain ⟨q2,hS⟩:=hS.open_ex 1 rfl
   obtain ⟨⟨hI2,hv2,hk3⟩,hS⟩:=hS.open_and 1 rfl
   have hv2:Go.Gm.nth q2.wh i≠0:=by rw [Zb9 (by omega)] at hv2;exact hv2
   have hk2:∀ u:Nat,u<i→Go.Gm.nth q.wh u≠0→Go.Gm.nth q2.wh u≠0:=fun u hu h9=>by have:=hk3 u (by rw [Zb9 (by omega)];exact h9);rw [Zb9 (by omega)] at this;exact this
   refine Zj (Za ?_)
   refine Zb hS (qp r1 (qM rfl rfl qZ)) hB [26,25,7,4] [1,0] rfl rfl fun a w F hS=>Za ?_
   replace hS:=hS.ent (i:=26) (s':=.pv (.int .i64 ((i+1:Nat):Int))) rfl (.int (Ze (by omega)))
   obtain ⟨F,hS⟩:=hS.nm [25,7,4,26] [0,1] rfl rfl
   exact ⟨((i+1),(q2)),F,⟨by omega,hI2,fun u hu=>by rcases Nat.lt_or_eq_of_le (Nat.le_of_lt_succ hu) with h9 | h9;exact hk2 u h9 (hvs u h9);rw [h9];exact hv2⟩,hS,by omega⟩
  have hS:=hS.fresh 1 rfl
  obtain ⟨F,hS⟩:=hS.push 1 7 rfl rfl rfl (by kernel_rfl)
  obtain ⟨F,hS⟩:=hS.push 1 6 rfl rfl rfl (by kernel_rfl)
  obtain ⟨F,hS⟩:=hS.push 1 5 rfl rfl rfl (by kernel_rfl)
  obtain ⟨F,hS⟩:=hS.push 1 4 rfl rfl rfl (by kernel_rfl)
  obtain ⟨F,hS⟩:=hS.push 1 3 rfl rfl rfl (by kernel_rfl)
  obtain ⟨F,hS⟩:=hS.push 1 2 rfl rfl rfl (by kernel_rfl)
  have hS:=hS.turn 1 rfl (r':=RS.hp (Zb0 (.clos 234 [.ref [Zjw O I m],.ref [.int .i64 mask]]) n q (.pointer (some ⟨tb,0,none⟩)))) (fun _ _ _ _ h=>⟨_,_,_,_,_,h⟩)
  obtain ⟨F,hS⟩:=hS.nm [36,26,25,8,7,4] [1,0] rfl rfl
  obtain ⟨q2,hq2⟩:∃ q2,q2=q:=⟨q,rfl⟩
  rw [← hq2] at hS
  have hI2:=hI
  rw [← hq2] at hI2
  have hv2:Go.Gm.nth q2.wh i≠0:=by rw [hq2];simpa using hc1
  have hk2:∀ u:Nat,u<i→Go.Gm.nth q.wh u≠0→Go.Gm.nth q2.wh u≠0:=fun u _ h9=>by rw [hq2];exact h9
  refine wp_skip (Zj (Za ?_))
  refine Zb hS (qp r1 (qM rfl rfl qZ)) hB [26,25,7,4] [1,0] rfl rfl fun a w F hS=>Za ?_
  replace hS:=hS.ent (i:=26) (s':=.pv (.int .i64 ((i+1:Nat):Int))) rfl (.int (Ze (by omega)))
  obtain ⟨F,hS⟩:=hS.nm [25,7,4,26] [0,1] rfl rfl
  exact ⟨((i+1),(q2)),F,⟨by omega,hI2,fun u hu=>by rcases Nat.lt_or_eq_of_le (Nat.le_of_lt_succ hu) with h9 | h9;exact hk2 u h9 (hvs u h9);rw [h9];exact hv2⟩,hS,by omega⟩
 have hil:i=n:=by have h9:¬ i<n:=(by simpa using hc0);omega
 have hlab:q.out=L:=(hI.labs (by rw [← hil];exact hvs)).one hL
 refine wp_exit (Zh (Zh (Zp (Za (wp_seq ?_)))))
 obtain ⟨wv,hS⟩:=hS.open_ex 1 rfl
 obtain ⟨lv,hS⟩:=hS.open_ex 1 rfl
 obtain ⟨sv,hS⟩:=hS.open_ex 1 rfl
 obtain ⟨iv,hS⟩:=hS.open_ex 1 rfl
 obtain ⟨ov,hS⟩:=hS.open_ex 1 rfl
 obtain ⟨F,hS⟩:=hS.peel 1 2 rfl rfl
 obtain ⟨F,hS⟩:=hS.peel 1 3 rfl rfl
 obtain ⟨F,hS⟩:=hS.peel 1 4 rfl rfl
 obtain ⟨F,hS⟩:=hS.peel 1 5 rfl rfl
 obtain ⟨F,hS⟩:=hS.peel 1 6 rfl rfl
 obtain ⟨F,hS⟩:=hS.peel 1 7 rfl rfl
 replace hS:=hS.turn 5 rfl (r':=.ob (.val sv) (fun v=>stH v n q.wait)) (fun _ _ _ _ h=>h)
 obtain ⟨_,_,_,ho⟩:=hS.obGet 5 rfl
 obtain ⟨sb,rfl⟩:=ZdH ho
 clear ho
 replace hS:=hS.turn 6 rfl (r':=.ob (.val iv) (Zgc n q.inn)) (fun _ _ _ _ h=>h)
 obtain ⟨_,_,_,ho⟩:=hS.obGet 6 rfl
 obtain ⟨ib,rfl⟩:=Zcy ho
 clear ho
 replace hS:=hS.turn 5 rfl (r':=RS.hp (stH (.pointer (some ⟨sb,0,none⟩)) n q.wait)) (fun _ _ _ _ h=>h)
 replace hS:=hS.turn 6 rfl (r':=RS.hp (Zgc n q.inn (.pointer (some ⟨ib,0,none⟩)))) (fun _ _ _ _ h=>h)
 obtain ⟨F,hS⟩:=hS.nm [27,26,25,7,4] [7,6,5,4,3,2,0] rfl rfl
 refine Zb hS (qM rfl rfl (qf (o_nilCheck 2 .is (by rfl)) r1 r1 (qf (oF 6 2 .adr) r1 r1 (qa 2 r1 r1 (qN rfl rfl qZ))))) hB [4] [7,6,5,4,3,2,0] rfl rfl fun a w F hS=>Za (wp_ret ?_)
 obtain ⟨F,hS⟩:=hS.give 7 4 rfl rfl
 refine Zw hfr hS rfl rfl rfl (.sl hlab)
def roomN (n:Int):Nat:=(if n<0 then 0 else if n > 4096 then 4096 else n).toNat
theorem Zes (n:Int):roomN n≤4096:=by unfold roomN;split; (· omega);split <;> omega
theorem ZnM (n:Int):(if 4096<(if n<0 then 0 else n) then 4096 else if n<0 then 0 else n)=((roomN n:Nat):Int):=by unfold roomN;split <;> split <;> (try split) <;> omega
theorem Zhd {w:World} {y:Ys} {r:RS} (hd:r.deps = []) (hr:r.holds tau0 w (fun _=>False) y):∀ n:Nat,stars w y (List.replicate n r) (fun _=>False)
 | 0=>fun _ h=>h
 | n+1=>⟨fun _=>False,fun _=>False,fun b=>by simp,fun _ h=>h.elim,hd,hr,Zhd hd hr n⟩
theorem Zny (n:Nat) (s:Value):Zee (List.replicate n s) (List.replicate n [])=List.replicate n (s,[]):=by
 apply List.ext_getElem (by simp [Zee])
 intro j h1 h2
 have hj:j<n:=by simpa using h2
 simp [Zee,nth_eq (l:=List.replicate n s) (i:=j) (by simpa using hj),nth_eq (l:=List.replicate n ([]:List Zae)) (i:=j) (by simpa using hj)]
theorem Zjf {n:Nat} {v:Value} (τ:Tau) (w:World) (f y:Ys) (h:(RS.ob (.val v) (Zu 273 1 rV (List.replicate n (.slice none 0 0)))).holds τ w f y):(RS.hp (Zha (List.replicate n []) v)).holds τ w f y:=by
 refine ⟨List.replicate n (.slice none 0 0),by simp,f,fun _=>False,fun b=>by simp,fun _ _ h=>h,rfl,h,fun _=>False,fun _=>False,fun b=>by simp,fun _ h=>h.elim,rfl,?_,fun _ h=>h⟩
 show stars w y ((Zee (List.replicate n (.slice none 0 0)) (List.replicate n [])).map fun x=>RS.hp (Zk6 x)) fun _=>False
 rw [Zny,List.map_replicate]
 exact Zhd (r:=RS.hp (Zk6 (.slice none 0 0,[]))) rfl (show (Zu 270 3 Zaq ([]:List Zae) (.slice none 0 0)).p w (fun _=>False) y from Zjc) n
theorem Zjp (w:World) (y:Ys):PVs (rV (.slice none 0 0)) [.slice none 0 0] w y:=⟨⟨rfl,rfl,by first | rfl | trivial⟩,trivial⟩
theorem ZpM (room:Int):FnG Tryz.prog 159 1 [.int .i64 room] [.star []] (PV.ptr) (fun v=>[Znq (List.replicate (roomN room) []) (List.replicate (roomN room) []) 0 v]):=by
 refine FnG.mk Tryz.func159 rfl Tryz.ntmps159 rfl (by kernel_rfl) ?_
 intro B F0 a w F hB hG hS
 have hr:=ZnM room
 refine wp_seq ?_
 refine Zb hS (qC qZ) hB [2,0] [1,0] rfl rfl fun a w F hS=>Za (wp_seq ?_)
 refine Zb hS (qM rfl rfl (qf (ZqA .t qi) r1 qz (qf (o_min .t qi) r1 qz (qN rfl rfl qZ)))) hB [2,0] [1,0] rfl rfl fun a w F hS=>?_
 rw [hr] at hS
 refine Za (wp_seq ?_)
 refine ZaP hS (qM rfl rfl (qf (ZaI (R:=rV) (v:=(.slice none 0 0)) (c:=((roomN room:Nat):Int)) (sz:=1) (bs:=24) (zs:=[.slice none 0 0]) 101 Tryz.underlying266 (by kernel_rfl) (by kernel_rfl) (by kernel_rfl) Zjp .t .t (Int.natCast_nonneg _) (by have:=Zes room;omega) (by have:=Zes room;omega)) r2 qz (qM rfl rfl (qf (ZaI (R:=rV) (v:=(.slice none 0 0)) (c:=((roomN room:Nat):Int)) (sz:=1) (bs:=24) (zs:=[.slice none 0 0]) 102 Tryz.underlying266 (by kernel_rfl) (by kernel_rfl) (by kernel_rfl) Zjp .t .t (Int.natCast_nonneg _) (by have:=Zes room;omega) (by have:=Zes room;omega)) r2 qz (qf (oB [(0,.tmp 7),(1,.tmp 9)] [.slice none 0 0,.slice none 0 0,.int .i64 0] [(0,1),(1,1),(2,1)] (.same rfl (by kernel_rfl) (.same rfl (by kernel_rfl) .nil))) r2 qz (qf (oX 103 .t) r1 qz (qN rfl rfl qZ))))))) hB [2] [103,102,101,1,0] (fun _=>rfl) (fun _=>rfl) fun τ a w F hS=>?_
 try dsimp only [RS.sub,SF.sub,CF.sub,csub,Anc.sub,List.map,Zf,xL,xM,Nat.reduceAdd,xD,xE,xT,xU,xC,xN,zCF,Zaq,ZaV,Zo,ZbE] at hS
 generalize τ 11=v11 at hS
 generalize τ 7=v7 at hS
 generalize τ 9=v9 at hS
 rw [Int.toNat_natCast] at hS
 refine Za (wp_ret ?_)
 obtain ⟨b,rfl⟩:=hS.shape 103 rfl
 replace hS:=hS.turn 101 rfl (Zjf)
 replace hS:=hS.turn 102 rfl (Zjf)
 obtain ⟨F,hS⟩:=hS.push 1 102 rfl rfl rfl (by kernel_rfl)
 obtain ⟨F,hS⟩:=hS.push 1 101 rfl rfl rfl (by kernel_rfl)
 obtain ⟨F,hS⟩:=hS.push 1 103 rfl rfl rfl (by kernel_rfl)
 have hS:=hS.turn 1 rfl (r':=RS.hp (Znq (List.replicate (roomN room) []) (List.replicate (roomN room) []) 0 (Value.pointer (some { block:=b,off:=0 })))) (fun _ _ _ _ h=>⟨_,_,h⟩)
 refine Z2 (h':=fun v=>Znq (List.replicate (roomN room) []) (List.replicate (roomN room) []) 0 v) hG hS rfl (.tmp rfl .nil) (.one .ptr) rfl
theorem Sat.giveL {B:Za2} {E:En} {a:Act} {w:World} {F:Fp} {v:Value} {ho:HP} {p:PV} (h:Sat B E a w F) (n i:Nat) (hn:Go.Gm.look E.r n=some (RS.hp ho)) (hi:Go.Gm.look E.s i=some (.pv (.is v))) (hl:Zq6 ho v p) :
   ∃ F',Sat B ⟨(i,.pv p) :: E.s,(n,RS.hp (HP.star [])) :: E.r⟩ a w F':=by
 have hle:∀ b,U (fun m=>if m=n then fun _=>False else F m) b→U F b:=fun b ⟨m,hm⟩=>⟨m,by
   by_cases e:m=n
   · simp only [e,if_true] at hm
   · simp only [e,if_false] at hm;exact hm⟩
 have hev:=Ev.less w hle
 refine ⟨fun m=>if m=n then fun _=>False else F m,⟨fun m k b hm hk=>?_,fun m b hm=>?_⟩,h.ev.trans hev,h.n,h.df,fun j s hj=>?_,fun m r hm=>?_,fun m b hm=>?_⟩
 · by_cases e1:m=n
   · simp only [e1,if_true] at hm
   · by_cases e2:k=n
     · simp only [e2,if_true] at hk
     · simp only [e1,e2,if_false] at hm hk;exact h.wf.dis m k b hm hk
 · by_cases e1:m=n
   · simp only [e1,if_true] at hm
   · simp only [e1,if_false] at hm;exact h.wf.bd m b hm
 · rw [Zg] at hj
   split at hj
   · rename_i e
     simp only [Option.some.injEq] at hj;subst hj;subst e
     have hv:Act.tau a i=v:=(h.s i _ hi).1
     show p.p (Act.tau a i) w _
     rw [hv]
     refine hl w (F n) (U F) _ (h.r n _ hn) hle (fun b hb hm=>?_) (fun b hb=>h.wf.bd n b hb)
     obtain ⟨m,hm⟩:=hm
     by_cases e2:m=n
     · simp only [e2,if_true] at hm
     · simp only [e2,if_false] at hm
       exact e2 (h.wf.dis m n b hm hb)
   · exact SF.mono hev (fun _ _=>rfl) (h.s j s hj)
 · rw [Zg] at hm
   split at hm
   · rename_i e
     simp only [Option.some.injEq] at hm;subst hm;subst e
     intro b hb
     simp only [if_true] at hb
   · rename_i e
     have e2:¬ m=n:=fun h=>e h.symm
     simp only [e2,if_false]
     exact RS.mono hev (fun _ _=>rfl) (fun _ _=>rfl) (h.r m r hm)
 · by_cases e1:m=n
   · simp only [e1,if_true] at hm
   · simp only [e1,if_false] at hm
     obtain ⟨r,hr⟩:=h.em m b hm
     exact ⟨r,by rw [Zg,if_neg (fun h=>e1 h.symm)];exact hr⟩
def Zd0 (l:List Zk) (mask:Int):List Zk:=l.filter (ZU mask)
def Zbk (l:List Zk) (mask:Int):List ZaG:=(Zd0 l mask).map (Zip (ZC (Zd0 l mask)))
theorem ZjA (l:List Zk) (mask:Int) (i:Nat):(Zd0 (l.take i) mask).length≤i:=Nat.le_trans (List.length_filter_le _ _) (by rw [List.length_take];omega)
theorem Zhf (l:List Zk) (mask:Int) (i:Nat):(Zbk (l.take i) mask).length≤i:=by unfold Zbk;rw [List.length_map];exact ZjA l mask i
theorem Zkf {l:List Zk} {mask:Int} {i:Nat} (hi:i<l.length) (h:ZU mask (Go.Gm.nth l i)=true):Zd0 (l.take (i+1)) mask=Zd0 (l.take i) mask ++ [Go.Gm.nth l i]:=by
 unfold Zd0
 rw [Zv hi,List.filter_append];simp [h]
theorem Zmm {l:List Zk} {mask:Int} {i:Nat} (hi:i<l.length) (h:ZU mask (Go.Gm.nth l i)=false):Zd0 (l.take (i+1)) mask=Zd0 (l.take i) mask:=by
 unfold Zd0
 rw [Zv hi,List.filter_append];simp [h]
theorem Zhl {l:List Zk} {mask:Int} {i:Nat} (hi:i<l.length) (h:ZU mask (Go.Gm.nth l i)=true):Zau (Zau (ZC (Zd0 (l.take i) mask)) (Go.Gm.nth l i).src) (Go.Gm.nth l i).dst=ZC (Zd0 (l.take (i+1)) mask):=by
 rw [Zkf hi h]
 unfold ZC
 rw [List.foldl_append];rfl
theorem ZmQ {l:List Zk} {mask:Int} {i:Nat} (hi:i<l.length) (h:ZU mask (Go.Gm.nth l i)=true):Zbk (l.take i) mask ++ [⟨Zax (Go.Gm.nth l i).src (Zau (ZC (Zd0 (l.take i) mask)) (Go.Gm.nth l i).src),Zax (Go.Gm.nth l i).dst (Zau (Zau (ZC (Zd0 (l.take i) mask)) (Go.Gm.nth l i).src) (Go.Gm.nth l i).dst),(Go.Gm.nth l i).kind,0⟩] = Zbk (l.take (i+1)) mask:=by
 unfold Zbk
 rw [Zkf hi h,Zl2];rfl
theorem Zo0 {O I:List (List Zae)} {n:Nat} {v:Value} {w:World} {f y:Ys} (h:(Znq O I n v).p w f y):∃ b,v = .pointer (some ⟨b,0,none⟩):=by
 obtain ⟨_,_,g⟩:=h
 exact HP.star_pt g
theorem ZlC {n:Nat} (h:n≤4096):roomN (n:Int)=n:=by unfold roomN;repeat' split;all_goals omega
theorem ZkT {l:List Zk} {mask:Int} (x:ZaG):x ∈ (Zbk l mask).foldl (ZkC (ZC (Zd0 l mask)).length) [] ↔ x ∈ Zbk l mask:=by
 rw [Zj2]
 constructor
 · rintro (h | h)
   · cases h
   · exact h.1
 · intro h
   refine .inr ⟨h,?_⟩
   obtain ⟨e,he,rfl⟩:=List.mem_map.1 h
   exact ZbH he rfl
theorem Zj3 {l:List Zk} {mask:Int} {x:ZaG} (h:x ∈ Zbk l mask):(0≤x.src∧x.src<((ZC (Zd0 l mask)).length:Int))∧0≤x.dst∧x.dst<((ZC (Zd0 l mask)).length:Int):=by
 obtain ⟨e,he,rfl⟩:=List.mem_map.1 h
 have:=ZW.1 (ZbH he rfl)
 exact ⟨this.1,this.2.1⟩
theorem Zqg (l : List ZaG) (p : ZaG → Bool) (f : FuncId) (fn : Func) (cps : List PV) (hf : Tryz.prog.funcs[f]? = some fn) (hb : fn.body.isSome = true) (hnn : (fn.name == "runtime.NumGoroutine") = false) (hw : ∀ x ∈ l, FnP Tryz.prog f (.agg (ZbE x) :: cps) (.bool (p x))) : FnP Tryz.prog 239 [.sl ZbE l, .clos f cps] (.int .i64 (Z6 p l)) := by
 refine FnP.mk Tryz.func239 rfl Tryz.ntmps239 rfl ?_
 intro B a w F hB hfr hS
 have hll:=Sat.lenSl hS (i:=0) rfl
 refine wp_seq ?_
 refine Zb hS (qI qZ) hB [4,1,0] [0] rfl rfl fun a w F hS=>Za (wp_seq (wp_seq ?_))
 refine Zb hS (qM rfl rfl (qu Tryz.underlying209 r1 (qJ qZ))) hB [8,7,4,1,0] [0] rfl rfl fun a w F hS=>Za (wp_block ?_)
 refine Zl (σ:=(Nat)) [0,1,4,7] [0] (fun s=>[(8,.pv (.int .i64 (s:Int)))]) (fun s=>[]) (fun s=>s≤l.length∧(∀ k,k<s→p (Go.Gm.nth l k)=false)) (fun s=>l.length - s) (0) hS ⟨rfl,rfl,rfl,rfl,rfl,trivial⟩ ⟨rfl,trivial⟩ ⟨Nat.zero_le _,fun k hk=>absurd hk (Nat.not_lt_zero k)⟩ ?_
 clear hS;intro i a w F hC hS
 try dsimp only at hC
 obtain ⟨F,hS⟩:=hS.nm [8,7,4,1,0] [0] rfl rfl
 try dsimp only at hS
 obtain ⟨hi,hq⟩:=hC
 refine wp_seq ?_
 refine Zb hS (qL r2) hB [9,8,7,4,1,0] [0] rfl rfl fun a w F hS=>Za (wp_seq ?_)
 refine Zd hS rfl (fun hc0=>?_) (fun hc0=>?_)
 ·skip
  have hil:i<l.length:=by simp at hc0;omega
  refine wp_skip (Za (wp_seq (wp_block (wp_seq ?_))))
  refine Zb hS (qM rfl rfl (qN rfl rfl qZ)) hB [8,7,5,4,1,0] [0] rfl rfl fun a w F hS=>Za (wp_seq ?_)
  refine Zb hS (qM rfl rfl (qM rfl rfl (qM rfl rfl (qy 4 Tryz.underlying209 r2 (qf (oR true 4 .t) r1 qz (qf (ZK (avs:=[.agg (ZbE (Go.Gm.nth l i))]) .t (hw (Go.Gm.nth l i) (nth_mem (by omega))) hf hb hnn (Args.one (.pagg .t))) r2 qz qZ)))))) hB [16,8,7,5,4,1,0] [0] rfl rfl fun a w F hS=>?_
  try simp only [Int.toNat_natCast] at hS
  refine Za ?_
  refine Zd hS rfl (fun hc1=>?_) (fun hc1=>?_)
  ·skip
   have hg:(i:Int)=Z6 p l:=(Zcx hil hc1 hq).symm
   refine wp_seq ?_
   refine Zb hS (qM rfl rfl (qN rfl rfl qZ)) hB [8,7,4,1,0] [0] rfl rfl fun a w F hS=>Za (wp_ret (Zs (Zi (Zi (Zs (Zi ?_))))))
   refine Zw hfr hS rfl rfl rfl (.int hg)
  have hne:p (Go.Gm.nth l i)=false:=hc1
  refine wp_skip (Zj (Za ?_))
  refine Zb hS (qp r1 (qM rfl rfl qZ)) hB [8,7,4,1,0] [0] rfl rfl fun a w F hS=>Za ?_
  replace hS:=hS.ent (i:=8) (s':=.pv (.int .i64 ((i+1:Nat):Int))) rfl (.int (Ze (by omega)))
  obtain ⟨F,hS⟩:=hS.nm [7,4,1,0,8] [0] rfl rfl
  exact ⟨(i+1),F,⟨by omega,(fun k hk=>by rcases Nat.lt_or_eq_of_le (Nat.le_of_lt_succ hk) with h | h;exact hq k h;rw [h];exact hne)⟩,hS,by omega⟩
 have hil:i=l.length:=by simp at hc0;omega
 have hg : -1=Z6 p l:=(Zbp fun k hk=>hq k (by simp at hc0;omega)).symm
 refine wp_exit (Zh (Zh (Zp (Za (wp_seq ?_)))))
 refine Zb hS (qI qZ) hB [4] [0] rfl rfl fun a w F hS=>Za (wp_ret ?_)
 refine Zw hfr hS rfl rfl rfl (.int hg)
theorem Zqn (l : List ZaG) (p : ZaG → Bool) (f : FuncId) (fn : Func) (cps : List PV) (hf : Tryz.prog.funcs[f]? = some fn) (hb : fn.body.isSome = true) (hnn : (fn.name == "runtime.NumGoroutine") = false) (hw : ∀ x ∈ l, FnP Tryz.prog f (.agg (ZbE x) :: cps) (.bool (p x))) : FnP Tryz.prog 162 [.sl ZbE l, .clos f cps] (.bool (l.any p)) := by
 refine FnP.mk Tryz.func162 rfl Tryz.ntmps162 rfl ?_
 intro B a w F hB hfr hS
 refine wp_seq ?_
 refine Zb hS qB hB [4,1,0] [0] rfl rfl fun a w F hS=>Za (wp_seq ?_)
 refine Zb hS (qM rfl rfl (qM rfl rfl (qf (oP (Zqg l p f fn cps hf hb hnn hw) Tryz.func239 (Args.two .t .t)) r2 qz (qf (ZbW .t qi) r1 qz (qN rfl rfl qZ))))) hB [4] [0] rfl rfl fun a w F hS=>Za (wp_ret ?_)
 refine Zw hfr hS rfl rfl rfl (.bool (by rw [Zhv]))
theorem Zo5 (x:ZaG) (L:List Int) (must:Int) (h1:0≤x.src∧x.src<(L.length:Int)) (h2:0≤x.dst∧x.dst<(L.length:Int)):FnP Tryz.prog 163 [.agg (ZbE x),.ref [.sl Zo L],.ref [.int .i64 must]] (.bool (decide (Go.Gm.nth L x.src.toNat=Go.Gm.nth L x.dst.toNat) && Zks must x.kind)):=by
 refine FnP.mk Tryz.func163 rfl Tryz.ntmps163 rfl ?_
 intro B a w F hB hfr hS
 refine wp_seq ?_
 refine Zc hS (qx 101 r1 qB) hB [4,3,2,1] [101,0] (fun _=>rfl) (fun _=>rfl) fun τ a w F hS=>?_
 try dsimp only [RS.sub,SF.sub,CF.sub,csub,Anc.sub,List.map,zCF,Zaq,ZaV,Zo,ZbE] at hS
 generalize τ 3=v3 at hS
 refine Za (wp_seq ?_)
 refine Zy hS (qf (oR false 1 .t) r1 qz (qg 0 101 r1 r1 (qa 101 r1 r1 (qf (o_indexAddr_sl (sz:=1) (.mk Tryz.underlying34 (by kernel_rfl)) (by intro x;rfl) .t .t (by exact h1.1) (by exact h1.2)) r2 qz (qf (oR false 1 .t) r1 qz (qf (oR false 1 .t) r1 qz (qg 1 101 r1 r1 (qa 101 r1 r1 (qf (o_indexAddr_sl (sz:=1) (.mk Tryz.underlying34 (by kernel_rfl)) (by intro x;rfl) .t .t (by exact h2.1) (by exact h2.2)) r2 qz (qf (oR false 1 .t) r1 qz (qf (o_eql .t .t) r2 qz (qM rfl rfl (qk rfl (fun h=>oR false 1 .t) r2 qz (qk rfl (fun h=>o_and (.w h) qi) r2 qz (qk rfl (fun h=>o_eql (.w h) qi) r2 qz (qk rfl (fun h=>oM (.w h)) r2 qz (ZB.cons (ZaY.cond2 rfl rfl (fun h=>Zgh (ag:=false) (sz:=1) .t (by kernel_rfl) (by kernel_rfl) (by kernel_rfl))) r2 qz (ZB.cons (ZaY.cond2 rfl rfl (fun h=>ZX (off:=2) 101 .is (by kernel_rfl) (by rfl))) r2 r1 (ZB.cons (ZaY.cond2 rfl rfl (fun h=>Zbs (ag:=false) (sz:=1) 101 (.w h .adr) (by kernel_rfl) (by kernel_rfl) (by kernel_rfl) (by rfl))) r2 r1 (ZB.cons (ZaY.cond2 rfl rfl (fun h=>o_conv Tryz.underlying174 (by kernel_rfl) (.w h))) r2 qz (ZB.cons (ZaY.cond2 rfl rfl (fun h=>ZfC (.w h) (.w h)  (by rw [Zdd];omega))) r3 qz (ZB.cons (ZaY.cond2 rfl rfl (fun h=>o_and (.w h) qi)) r2 qz (ZB.cons (ZaY.cond2 rfl rfl (fun h=>o_eql (.w h) qi)) r2 qz (qk rfl (fun h=>Zbc (.w h) (.wc h)) r3 qz (qf (ZN .t .t) r2 qz (qN rfl rfl qZ)))))))))))))))))))))))))) hB [4] [0] rfl rfl fun a w F hS=>?_
 try dsimp only [List.map,xD,xE,xT,xU,ldSF,Zaq,ZaV,Zo,ZbE] at hS
 try simp only [Int.toNat_natCast] at hS
 refine Za (wp_ret ?_)
 refine Zw hfr hS rfl rfl rfl (.bool rfl)
theorem ZpL (l:List Zk) (mask must:Int) (hl:l.length≤100000) (hN:(ZC (Zd0 l mask)).length≤4096) (rb:Bool) (hr:rb=true ↔ ZeE l mask must):FnP Tryz.prog 97 [.sl ZI l,.int .i64 mask,.int .i64 must] (.bool rb):=by
 refine FnP.mk Tryz.func97 rfl Tryz.ntmps97 rfl ?_
 intro B a w F hB hfr hS
 refine wp_seq ?_
 refine Zc hS (qf (ZhQ 101 .t one_int) r1 qz qB) hB [6,5,1,0] [101,0] (fun _=>rfl) (fun _=>rfl) fun τ a w F hS=>?_
 try dsimp only [RS.sub,SF.sub,CF.sub,csub,Anc.sub,List.map,zCF,ZI,ZbE,Zo] at hS
 generalize τ 5=v5 at hS
 refine Za (wp_seq ?_)
 refine Zc hS (qf (Zml (vk:=.i64) (ok:=(fun _=>True)) (kv:=(fun n:Int=>Value.int .i64 n)) 102) trivial qz (qN rfl rfl qZ)) hB [7,6,5,1,0] [102,101,0] (fun _=>rfl) (fun _=>rfl) fun τ a w F hS=>?_
 try dsimp only [RS.sub,SF.sub,CF.sub,csub,Anc.sub,List.map,Zf,xL,xM,Nat.reduceAdd,xD,xE,xT,xU,xC,xN,zCF,ZI,ZbE,Zo] at hS
 generalize τ 15=v15 at hS
 replace hS:=hS.turn 102 rfl (r':=RS.hp (Zq4 [] v15)) (fun _ _ _ _ h=>⟨([],0),Zfj.nil,h⟩)
 obtain ⟨F,hS⟩:=hS.nm [7,6,5,1,0] [102,101,0] rfl rfl
 refine Za (wp_seq ?_)
 refine Zb hS (qC qZ) hB [8,7,6,5,1,0] [102,101,0] rfl rfl fun a w F hS=>Za (wp_seq (wp_seq ?_))
 refine Zb hS (qM rfl rfl (qu Tryz.underlying127 r1 (qJ qZ))) hB [18,17,16,8,7,6,5,1] [102,101,0] rfl rfl fun a w F hS=>Za (wp_block ?_)
 replace hS:=hS.fresh 50 rfl
 replace hS:=hS.turn 50 rfl (Zbj (T:=212) (sz:=4) (R:=ZbE))
 refine Zl (σ:=(Nat)×(Value)×(List ZaG)) [1,5,6,7,16,17] [0,101] (fun s=>[(18,.pv (.int .i64 (s.1:Int))),(8,.pv (.is s.2.1))]) (fun s=>[(102,RS.hp (Zq4 (ZC (Zd0 (l.take s.1) mask)) v15)),(50,.ob (.val s.2.1) (Zu 212 4 ZbE s.2.2))]) (fun s=>s.1≤l.length∧(s.2.2=Zbk (l.take s.1) mask)) (fun s=>l.length - s.1) ((0),(.slice none 0 0),([])) hS ⟨rfl,rfl,rfl,rfl,rfl,rfl,rfl,rfl,trivial⟩ ⟨rfl,rfl,rfl,rfl,trivial⟩ ⟨Nat.zero_le _,rfl⟩ ?_
 clear hS;intro s a w F hC hS
 obtain ⟨i,v,out⟩:=s
 try dsimp only at hC
 obtain ⟨F,hS⟩:=hS.nm [18,17,16,8,7,6,5,1] [102,101,50,0] rfl rfl
 try dsimp only at hS
 obtain ⟨hi,hq⟩:=hC
 have hol:=Zhf l mask i
 rw [← hq] at hol
 have hnl:=ZkB (Zd0 (l.take i) mask)
 have hfl:=ZjA l mask i
 have hnl2:=(ZeD (ZC (Zd0 (l.take i) mask)) (Go.Gm.nth l i).src).2
 refine wp_seq ?_
 refine Zb hS (qL r2) hB [19,18,17,16,8,7,6,5,1] [102,101,50,0] rfl rfl fun a w F hS=>Za (wp_seq ?_)
 refine Zd hS rfl (fun hc0=>?_) (fun hc0=>?_)
 ·skip
  have hil:i<l.length:=by simp at hc0;omega
  refine wp_skip (Za (wp_seq (wp_block (wp_seq ?_))))
  refine Zc hS (qy 4 Tryz.underlying127 r2 (qf (oR true 4 .t) r1 qz (qf (oH [.int .i64 0,.int .i64 0,.int .i64 0,.int .i64 0] 103) trivial qz (qS 4 103 r2 r1 qZ)))) hB [18,17,16,10,8,7,6,5,1] [103,102,101,50,0] (fun _=>rfl) (fun _=>rfl) fun τ a w F hS=>?_
  try dsimp only [RS.sub,SF.sub,CF.sub,csub,Anc.sub,List.map,Zf,xL,xM,Nat.reduceAdd,xD,xE,xT,xU,xC,xN,zCF,ldSF,ZI,ZbE,Zo] at hS
  generalize τ 10=v10 at hS
  try simp only [Int.toNat_natCast] at hS
  refine Za (wp_seq ?_)
  refine Zb hS (qg 2 103 r1 r1 (qa 103 r1 r1 (qf (ZbW .t qi) r1 qz (qM rfl rfl (qv 2 103 rfl r2 r1 (qw 103 rfl r2 r1 (qk rfl (fun h=>Zk0 (.w h) qi) r2 qz (qf (ZN .t .t) r2 qz (qM rfl rfl (qm rfl rfl rfl rfl (qv 2 103 rfl r2 r1 (qw 103 rfl r2 r1 (qk rfl (fun h=>o_conv Tryz.underlying174 (by kernel_rfl) (.w h)) r2 qz (qk rfl (fun h=>ZfC (.w h) (.w h)  (by rw [Zdd];omega)) r3 qz (qk rfl (fun h=>o_and (.w h) qi) r2 qz (qk rfl (fun h=>o_eql (.w h) qi) r2 qz (qf (ZN .t .t) r2 qz qZ))))))))))))))))) hB [38,18,17,16,10,8,7,6,5,1] [103,102,101,50,0] rfl rfl fun a w F hS=>Za ?_
  refine Zd hS rfl (fun hc1=>?_) (fun hc1=>?_)
  ·skip
   have hBq:ZU mask (Go.Gm.nth l i)=true:=by unfold ZU ofB;simpa using hc1
   refine ZaP hS (qM rfl rfl (qM rfl rfl (qg 0 103 r1 r1 (qa 103 r1 r1 (qf (Z5 102 (Zpj v15 (ZC (Zd0 (l.take i) mask)) (Go.Gm.nth l i).src (by omega)) Tryz.func157 rfl (by kernel_rfl) (Args.two .t .t)) r2 r1 (qM rfl rfl (qg 1 103 r1 r1 (qa 103 r1 r1 (qf (Z5 102 (Zpj v15 (Zau (ZC (Zd0 (l.take i) mask)) (Go.Gm.nth l i).src) (Go.Gm.nth l i).dst (by omega)) Tryz.func157 rfl (by kernel_rfl) (Args.two .t .t)) r2 r1 (qg 2 103 r1 r1 (qa 103 r1 r1 (qf (oB [(0,.tmp 43),(1,.tmp 47),(2,.tmp 49)] [.int .i64 0,.int .i64 0,.int .i64 0,.int .i64 0] [(0,1),(1,1),(2,1),(3,1)] (.one rfl .t one_int (by kernel_rfl) (.one rfl .t one_int (by kernel_rfl) (.one rfl .t one_int (by kernel_rfl) .nil)))) r3 qz (qf (Zt (sz:=4) (zs:=[.int .i64 0,.int .i64 0,.int .i64 0,.int .i64 0]) (r:=[(0,.tmp 50)]) (l:=[_,_,_,_]) Tryz.underlying209 (by kernel_rfl) (by kernel_rfl) (by kernel_rfl) (by kernel_rfl) rfl rfl (.agg rfl .t (by kernel_rfl) (by kernel_rfl) .nil) rfl) r1 qz (qf (ZV (sz:=4) (bs:=32) 50 (.mk' Tryz.underlying209 (by kernel_rfl) (by kernel_rfl)) (by intro x;rfl) .is (.arr (l':=[(⟨Zax (Go.Gm.nth l i).src (Zau (ZC (Zd0 (l.take i) mask)) (Go.Gm.nth l i).src),Zax (Go.Gm.nth l i).dst (Zau (Zau (ZC (Zd0 (l.take i) mask)) (Go.Gm.nth l i).src) (Go.Gm.nth l i).dst),(Go.Gm.nth l i).kind,0⟩:ZaG)]) .t) (by simp only [List.length_append,List.length_cons,List.length_nil];omega) (by decide)) ⟨rfl,rfl,trivial⟩ ⟨rfl,trivial⟩ (qN rfl rfl qZ))))))))))))))) hB [18,17,16,8,7,6,5,1] [103,102,101,50,0] (fun _=>rfl) (fun _=>rfl) fun τ a w F hS=>?_
   try dsimp only [RS.sub,SF.sub,CF.sub,csub,Anc.sub,List.map,Zf,xL,xM,Nat.reduceAdd,xD,xE,xT,xU,xC,xN,zCF,ldSF,ZI,ZbE,Zo] at hS
   generalize τ 52=v52 at hS
   refine Zj (Za ?_)
   refine Zb hS (qp r1 (qM rfl rfl qZ)) hB [18,17,16,8,7,6,5,1] [103,102,101,50,0] rfl rfl fun a w F hS=>Za ?_
   rw [Zhl hil hBq] at hS
   replace hS:=hS.ent (i:=18) (s':=.pv (.int .i64 ((i+1:Nat):Int))) rfl (.int (Ze (by omega)))
   obtain ⟨F,hS⟩:=hS.nm [17,16,7,6,5,1,8,18] [101,0,50,102] rfl rfl
   exact ⟨((i+1),_,_),F,⟨by omega,(by rw [hq];have h9:=ZmQ hil hBq;rw [Zhl hil hBq] at h9;exact h9)⟩,hS,by omega⟩
  have hBq:ZU mask (Go.Gm.nth l i)=false:=by unfold ZU ofB;simpa using hc1
  refine wp_skip (Zj (Za ?_))
  refine Zb hS (qp r1 (qM rfl rfl qZ)) hB [18,17,16,8,7,6,5,1] [103,102,101,50,0] rfl rfl fun a w F hS=>Za ?_
  rw [← Zmm hil hBq] at hS
  replace hS:=hS.ent (i:=18) (s':=.pv (.int .i64 ((i+1:Nat):Int))) rfl (.int (Ze (by omega)))
  obtain ⟨F,hS⟩:=hS.nm [17,16,7,6,5,1,8,18] [101,0,50,102] rfl rfl
  exact ⟨((i+1),_,_),F,⟨by omega,(by rw [hq];unfold Zbk;rw [Zmm hil hBq])⟩,hS,by omega⟩
 have hil:i=l.length:=by simp at hc0;omega
 rw [hil,List.take_length] at hq hS
 subst hq
 have hal2:(Zbk l mask).length≤l.length:=by have:=Zhf l mask l.length;rwa [List.take_length] at this
 obtain ⟨n,hne⟩:∃ n,(ZC (Zd0 l mask)).length=n:=⟨_,rfl⟩
 have hn:n≤4096:=by omega
 refine wp_exit (Zh (Zh (Zp (Za (wp_seq (wp_seq ?_))))))
 obtain ⟨⟨es,ck⟩,hS⟩:=hS.open_ex 102 rfl
 obtain ⟨hk,hS⟩:=hS.open_and 102 rfl
 replace hS:=hS.turn 102 rfl (r':=.ob (.val v15) (Zmy .i64 (fun _=>True) (fun n:Int=>Value.int .i64 n) es ck)) (fun _ _ _ _ h=>h)
 dsimp only at hk
 obtain ⟨F,hS⟩:=hS.nm [19,18,17,16,8,7,6,5,1] [102,101,50,0] rfl rfl
 refine Zb hS (qM rfl rfl (qf (ZeU 102 Tryz.underlying208 .is (by rw [hk.len];omega)) r1 r1 (qf (Zbi .t qi) r1 qz qZ))) hB [56,8,7,6,5] [102,101,50,0] rfl rfl fun a w F hS=>?_
 rw [hk.len,hne] at hS
 refine Za ?_
 refine Zd hS rfl (fun hc2=>?_) (fun hc2=>?_)
 ·skip
  simp at hc2;omega
 refine wp_skip (Za (wp_seq ?_))
 refine Zah 2 hS (by kernel_rfl) (cG rfl (oM .t) r1 trivial (cG rfl (ZeU 102 Tryz.underlying208 .is (by rw [hk.len];omega)) r1 r1 ChainN.nil)) (by kernel_rfl) (by rw [hB];kernel_rfl) fun a w F hS=>?_
 obtain ⟨F,hS⟩:=hS.nm [61,8,6,5] [102,101,50,0] rfl rfl
 try dsimp only [ZI,ZbE,Zo] at hS
 rw [hk.len,hne] at hS
 replace hS:=hS.fresh 104 rfl
 refine Zav hS (by kernel_rfl) (cG rfl (Za1 104 (ZpM (n:Int)) Tryz.func159 rfl (by kernel_rfl) (Args.one .t) PV.ptr_one) r1 r1 (cG rfl (oN .t) r1 trivial ChainN.nil)) (by kernel_rfl) (by rw [hB];kernel_rfl) fun a w F hS=>?_
 replace hS:=hS.sub
 obtain ⟨F,hS⟩:=hS.nm [11,8,6,5] [104,102,101,50,0] rfl rfl
 try dsimp only [RS.sub,SF.sub,CF.sub,csub,Anc.sub,List.map,ZI,ZbE,Zo] at hS
 generalize Act.tau a 62=v62 at hS
 obtain ⟨_,_,_,ho⟩:=hS.obGet 104 rfl
 obtain ⟨gb,rfl⟩:=Zo0 ho
 clear ho
 replace hS:=hS.turn 104 rfl (r':=RS.hp (Znq (List.replicate (roomN (n:Int)) []) (List.replicate (roomN (n:Int)) []) 0 (.pointer (some ⟨gb,0,none⟩)))) (fun _ _ _ _ h=>h)
 obtain ⟨F,hS⟩:=hS.nm [11,8,6,5] [104,102,101,50,0] rfl rfl
 rw [ZlC hn] at hS
 refine Za (wp_seq (wp_seq ?_))
 obtain ⟨F,hS⟩:=hS.give 50 8 rfl rfl
 obtain ⟨F,hS⟩:=hS.nm [11,8,6,5] [104,102,101,0] rfl rfl
 refine Zb hS (qM rfl rfl (qu Tryz.underlying209 r1 (qJ qZ))) hB [65,64,63,11,8,6,5] [104,102,101,0] rfl rfl fun a w F hS=>Za (wp_block ?_)
 refine Zl (σ:=(Nat)×(List (List Zae))×(List (List Zae))×(Nat)) [5,6,8,11,63,64] [0,101,102] (fun s=>[(65,.pv (.int .i64 (s.1:Int)))]) (fun s=>[(104,RS.hp (Znq s.2.1 s.2.2.1 s.2.2.2 (.pointer (some ⟨gb,0,none⟩))))]) (fun s=>s.1≤(Zbk l mask).length∧(Zfc n (((Zbk l mask).take s.1).foldl (ZkC n) []) s.2.1 s.2.2.1∧s.2.2.2≤s.1)) (fun s=>(Zbk l mask).length - s.1) ((0),_,_,(0)) hS ⟨rfl,rfl,rfl,rfl,rfl,rfl,rfl,trivial⟩ ⟨rfl,rfl,rfl,rfl,trivial⟩ ⟨Nat.zero_le _,⟨Zfc.new n,Nat.le_refl 0⟩⟩ ?_
 clear hS;intro s a w F hC hS
 obtain ⟨i,O,I,m⟩:=s
 try dsimp only at hC
 obtain ⟨F,hS⟩:=hS.nm [65,64,63,11,8,6,5] [104,102,101,0] rfl rfl
 try dsimp only at hS
 obtain ⟨hi,hq⟩:=hC
 obtain ⟨hD,hm⟩:=hq
 have hEl:=Zgs (n:=n) ((Zbk l mask).take i) []
 rw [List.length_take,List.length_nil] at hEl
 refine wp_seq ?_
 refine Zb hS (qL r2) hB [66,65,64,63,11,8,6,5] [104,102,101,0] rfl rfl fun a w F hS=>Za (wp_seq ?_)
 refine Zd hS rfl (fun hc3=>?_) (fun hc3=>?_)
 ·skip
  have hil:i<(Zbk l mask).length:=by simp at hc3;omega
  refine wp_skip (Za (wp_seq (wp_block (wp_seq ?_))))
  refine Zc hS (qy 4 Tryz.underlying209 r2 (qf (oR true 4 .t) r1 qz (qf (oH [.int .i64 0,.int .i64 0,.int .i64 0,.int .i64 0] 105) trivial qz (qS 4 105 r2 r1 qZ)))) hB [65,64,63,13,11,8,6,5] [105,104,102,101,0] (fun _=>rfl) (fun _=>rfl) fun τ a w F hS=>?_
  try dsimp only [RS.sub,SF.sub,CF.sub,csub,Anc.sub,List.map,Zf,xL,xM,Nat.reduceAdd,xD,xE,xT,xU,xC,xN,zCF,ldSF,ZI,ZbE,Zo] at hS
  generalize τ 13=v13 at hS
  try simp only [Int.toNat_natCast] at hS
  refine Za ?_
  refine Zb hS (qM rfl rfl (qe 4 105 r1 r1 (qf (Z5 104 (ZpS gb O I m (Go.Gm.nth (Zbk l mask) i) (hD.on.r (by omega)) (hD.inn.r (by omega)) (by rw [hD.ol,hD.il]) (by rw [hD.ol];exact hn) (by omega)) Tryz.func160 rfl (by kernel_rfl) (Args.two .t (.pagg .t))) r2 r1 qZ))) hB [65,64,63,11,8,6,5] [105,104,102,101,0] rfl rfl fun a w F hS=>Zj (Za ?_)
  refine Zb hS (qp r1 (qM rfl rfl qZ)) hB [65,64,63,11,8,6,5] [105,104,102,101,0] rfl rfl fun a w F hS=>Za ?_
  replace hS:=hS.ent (i:=65) (s':=.pv (.int .i64 ((i+1:Nat):Int))) rfl (.int (Ze (by omega)))
  obtain ⟨F,hS⟩:=hS.nm [64,63,11,8,6,5,65] [102,101,0,104] rfl rfl
  exact ⟨((i+1),_,_,_),F,⟨by omega,⟨by rw [Zv hil,List.foldl_append];exact (hD.step hn _ m).1,Nat.le_trans (hD.step hn _ m).2 (by omega)⟩⟩,hS,by omega⟩
 have hil:i=(Zbk l mask).length:=by simp at hc3;omega
 rw [hil,List.take_length] at hD
 obtain ⟨L,hL⟩:=ZqZ (adj:=Zfy O 14) n fun u y hy=>((hD.adjR 14).1 u y hy).1
 have hElen:((Zbk l mask).foldl (ZkC n) []).length≤1000000:=by have:=Zgs (n:=n) (Zbk l mask) [];rw [List.length_nil] at this;omega
 have hfin:(Zbk l mask).any (fun x=>decide (Go.Gm.nth L x.src.toNat=Go.Gm.nth L x.dst.toNat) && Zks must x.kind)=rb:=by
   rw [Bool.eq_iff_iff,hr,List.any_eq_true,← Zok (n:=n) hD hne.symm (fun x=>by rw [← hne];exact ZkT x) hL]
   simp only [Bool.and_eq_true,decide_eq_true_eq]
   rfl
 refine wp_exit (Zh (Zh (Zp (Za (wp_seq ?_)))))
 obtain ⟨F,hS⟩:=Sat.giveL (p:=Zjw O I m) hS 104 11 rfl rfl ZgZ
 obtain ⟨F,hS⟩:=hS.nm [66,65,64,63,11,8,6,5] [102,101,0] rfl rfl
 refine Zc hS (qM rfl rfl (qf (oP (Zos n ((Zbk l mask).foldl (ZkC n) []) O I m 14 hD hn hElen L hL) Tryz.func161 (Args.two .t qi)) r1 qz (qf (oH [.slice none 0 0] 106) trivial qz (qf (Zdn 106 .same .t one_sl (by kernel_rfl) (by kernel_rfl)) r2 r1 qZ)))) hB [14,8,6,5] [106,102,101,0] (fun _=>rfl) (fun _=>rfl) fun τ a w F hS=>?_
 try dsimp only [RS.sub,SF.sub,CF.sub,csub,Anc.sub,List.map,Zf,xL,xM,Nat.reduceAdd,xD,xE,xT,xU,xC,xN,zCF,ZI,ZbE,Zo] at hS
 generalize τ 14=v14 at hS
 obtain ⟨F,hS⟩:=hS.giveRef 106 14 rfl rfl rfl
 obtain ⟨F,hS⟩:=hS.nm [14,8,6,5] [102,101,0] rfl rfl
 try dsimp only [Go.Gm.unCF] at hS
 obtain ⟨F,hS⟩:=hS.giveRef 101 5 rfl rfl rfl
 obtain ⟨F,hS⟩:=hS.nm [14,8,6,5] [102,0] rfl rfl
 try dsimp only [Go.Gm.unCF] at hS
 refine Za (wp_seq ?_)
 refine Zb hS (qM rfl rfl (qf (ZbL (Args.two .t .t)) r2 qz (qf (oP (Zqn (Zbk l mask) (fun x=>decide (Go.Gm.nth L x.src.toNat=Go.Gm.nth L x.dst.toNat) && Zks must x.kind) 163 Tryz.f163 [.ref [.sl Zo L],.ref [.int .i64 must]] Tryz.func163 rfl (by kernel_rfl) (fun x hx=>Zo5 x L must (by rw [hL.1,← hne];exact (Zj3 hx).1) (by rw [hL.1,← hne];exact (Zj3 hx).2))) Tryz.func162 (Args.two .t .t)) r2 qz (qN rfl rfl qZ)))) hB [6] [102,0] rfl rfl fun a w F hS=>Za (wp_ret ?_)
 refine Zw hfr hS rfl rfl rfl (.bool hfin)
end Go.Proofs.YtdpkkdigojkpaaaGreat
