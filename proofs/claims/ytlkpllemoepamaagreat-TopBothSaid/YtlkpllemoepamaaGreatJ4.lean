/- Laws and walks. No condition beyond what each says. -/
import Derived.Deep.QuietTactic
import Derived.BigQuiet
import Derived.Shelf.SlSortCmp.WholeK
import Derived.Sort.LotA
import Derived.Test.YtlkpllemoepamaaGreatJ3
namespace Go.Proofs.YtlkpllemoepamaaGreat
open Go Go.Gm Tryz
set_option linter.unusedVariables false
set_option linter.unusedSimpArgs false
set_option maxHeartbeats 4000000
set_option maxRecDepth 8000
def Zg9:Go.Shelf.Ren:=⟨fun | 6=>173 | 15=>142 | 14=>211 | 28=>189 | 29=>190 | 20=>232 | 21=>233 | 22=>234 | 23=>235 | 24=>236 | 25=>237 | 26=>238 | 27=>239 | 46=>249 | 47=>213 | 48=>214 | 49=>250 | 50=>251 | 57=>256 | n=>n,fun | 22=>31 | 24=>42 | 25=>245 | 3=>3 | 39=>162 | 0=>0 | 53=>260 | 55=>175 | 4=>4 | 46=>253 | 45=>252 | 50=>43 | 5=>5 | 9=>9 | 66=>290 | 70=>294 | 76=>309 | 77=>107 | n=>n,fun  | n=>n⟩
theorem ZnN:Go.Proofs.SlLaysF0.n6 prog Zg9 where
 mixed:=by kernel_rfl
 f6:=⟨f173.name,by kernel_rfl,func173.trans (Y0 some kr)⟩
 f14:=⟨f211.name,by kernel_rfl,func211.trans (Y0 some kr)⟩
 f15:=func142.trans (Y0 some kr)
 f20:=⟨f232.name,by kernel_rfl,func232.trans (Y0 some kr)⟩
 f21:=⟨f233.name,by kernel_rfl,func233.trans (Y0 some kr)⟩
 f22:=⟨f234.name,by kernel_rfl,func234.trans (Y0 some kr)⟩
 f23:=⟨f235.name,by kernel_rfl,func235.trans (Y0 some kr)⟩
 f24:=⟨f236.name,by kernel_rfl,func236.trans (Y0 some kr)⟩
 f25:=⟨f237.name,by kernel_rfl,func237.trans (Y0 some kr)⟩
 f26:=⟨f238.name,by kernel_rfl,func238.trans (Y0 some kr)⟩
 f27:=⟨f239.name,by kernel_rfl,func239.trans (Y0 some kr)⟩
 f28:=func189.trans (Y0 some kr)
 f29:=func190.trans (Y0 some kr)
 f46:=⟨f249.name,by kernel_rfl,func249.trans (Y0 some kr)⟩
 f47:=func213.trans (Y0 some kr)
 f48:=func214.trans (Y0 some kr)
 f49:=⟨f250.name,by kernel_rfl,func250.trans (Y0 some kr)⟩
 f50:=⟨f251.name,by kernel_rfl,func251.trans (Y0 some kr)⟩
 f57:=⟨f256.name,by kernel_rfl,func256.trans (Y0 some kr)⟩
 t0:=underlying0
 a0:=Tryz.isAgg0
 z0:=Tryz.sizeOf0
 v0:=Tryz.zeroValue0
 t3:=Yb9
 a3:=Tryz.isAgg3
 z3:=Tryz.sizeOf3
 v3:=Tryz.zeroValue3
 t4:=underlying4
 a4:=Tryz.isAgg4
 z4:=Tryz.sizeOf4
 v4:=Tryz.zeroValue4
 t5:=underlying5
 a5:=Tryz.isAgg5
 z5:=Tryz.sizeOf5
 v5:=Tryz.zeroValue5
 t9:=Ycd
 a9:=Tryz.isAgg9
 z9:=Tryz.sizeOf9
 v9:=Tryz.zeroValue9
 t22:=Yb1
 a22:=Tryz.isAgg31
 z22:=Tryz.sizeOf31
 v22:=Tryz.zeroValue31
 t25:=underlying245
 a25:=Tryz.isAgg245
 z25:=Tryz.sizeOf245
 v25:=Tryz.zeroValue245
 t39:=Yb8
 a39:=Tryz.isAgg162
 z39:=Tryz.sizeOf162
 v39:=Tryz.zeroValue162
 t45:=underlying252
 a45:=Tryz.isAgg252
 z45:=Tryz.sizeOf252
 v45:=Tryz.zeroValue252
 t46:=underlying253
 a46:=Tryz.isAgg253
 z46:=Tryz.sizeOf253
 v46:=Tryz.zeroValue253
 t50:=underlying43
 a50:=Tryz.isAgg43
 z50:=Tryz.sizeOf43
 v50:=Tryz.zeroValue43
 t53:=underlying260
 a53:=Tryz.isAgg260
 z53:=Tryz.sizeOf260
 v53:=Tryz.zeroValue260
 t55:=Yce
 a55:=Tryz.isAgg175
 z55:=Tryz.sizeOf175
 v55:=Tryz.zeroValue175
 t66:=underlying290
 a66:=Tryz.isAgg290
 z66:=Tryz.sizeOf290
 v66:=Tryz.zeroValue290
 t70:=underlying294
 a70:=Tryz.isAgg294
 z70:=Tryz.sizeOf294
 v70:=Tryz.zeroValue294
 t76:=underlying309
 a76:=Tryz.isAgg309
 z76:=Tryz.sizeOf309
 v76:=Tryz.zeroValue309
 t77:=underlying107
 a77:=Tryz.isAgg107
 z77:=Tryz.sizeOf107
 v77:=Tryz.zeroValue107
theorem Zuh (x:Int) (w:World):Calls prog 151 #[.int .i64 x] w fun e w'=>e = .returned (.bool false)∧w' = w:=by
 go_enter func151,ntmps151
 go_wp2
 go_ret
 exact ⟨by simp,rfl⟩
theorem ZtE (x y:Int) (w:World):Calls prog 110 #[.int .i64 x,.int .i64 y] w fun e w'=>e = .returned (.int .i64 (Zb8 x y))∧w' = w:=by
 go_enter func110,ntmps110
 go_wp2_with (go_at_call 151;refine (Zuh _ _).mono ?_;rintro e w' ⟨rfl,rfl⟩)
 all_goals (go_ret;refine ⟨?_,rfl⟩;unfold Zb8; (repeat' split) <;> first | rfl | (exfalso;omega))
theorem ZtN {a:Int} (h:(a != 0)=true):¬ a=0:=by simpa using h
theorem Zr2 {a:Int} (h:(a != 0)=false):a=0:=by simpa using h
theorem Zst {x y:Zf} (h:(Zb8 x.src y.src != 0)=true):cmpE x y=Zb8 x.src y.src:=by unfold cmpE ZeG cmpL;rw [Yb (fun e=>ZtN h (ZbL.2 e))]
theorem Zr1 {x y:Zf} (h0:(Zb8 x.src y.src != 0)=false) (h:(Zb8 x.kind y.kind != 0)=true):cmpE x y=Zb8 x.kind y.kind:=by unfold cmpE ZeG cmpL;rw [Ye (ZbL.1 (Zr2 h0))];unfold cmpL;rw [Yb (fun e=>ZtN h (ZbL.2 e))]
theorem Zr9 {x y:Zf} (h0:(Zb8 x.src y.src != 0)=false) (h1:(Zb8 x.kind y.kind != 0)=false) (h:(Zb8 x.key y.key != 0)=true):cmpE x y=Zb8 x.key y.key:=by unfold cmpE ZeG cmpL;rw [Ye (ZbL.1 (Zr2 h0))];unfold cmpL;rw [Ye (ZbL.1 (Zr2 h1))];unfold cmpL;rw [Yb (fun e=>ZtN h (ZbL.2 e))]
theorem ZnG {x y:Zf} (h0:(Zb8 x.src y.src != 0)=false) (h1:(Zb8 x.kind y.kind != 0)=false) (h2:(Zb8 x.key y.key != 0)=false):cmpE x y=Zb8 x.dst y.dst:=by
 unfold cmpE ZeG cmpL;rw [Ye (ZbL.1 (Zr2 h0))];unfold cmpL;rw [Ye (ZbL.1 (Zr2 h1))];unfold cmpL;rw [Ye (ZbL.1 (Zr2 h2))];unfold cmpL
 by_cases h:x.dst=y.dst
 ·rw [Ye h,ZbL.2 h];rfl
 ·rw [Yb h]
theorem ZsM {x y:Zf} (h0:(Zb8 x.src y.src != 0)=false) (h1:(Zb8 x.kind y.kind != 0)=false) (h2:(Zb8 x.key y.key != 0)=false) (h3:(Zb8 x.dst y.dst != 0)=false):cmpE x y=0:=by rw [ZnG h0 h1 h2];exact Zr2 h3
def objs4 (x y:Zf):Array Obj:=#[Obj.cells #[.int .i64 x.src,.int .i64 x.dst,.int .i64 x.kind,.int .i64 x.key] 42,Obj.cells #[.int .i64 y.src,.int .i64 y.dst,.int .i64 y.kind,.int .i64 y.key] 42,Obj.cells #[.int .i64 x.src,.int .i64 x.kind,.int .i64 x.key,.int .i64 x.dst] 289,Obj.cells #[.int .i64 y.src,.int .i64 y.kind,.int .i64 y.key,.int .i64 y.dst] 289]
theorem ZoT (x y:Zf) (w:World):Calls prog 174 #[.agg #[.int .i64 x.src,.int .i64 x.dst,.int .i64 x.kind,.int .i64 x.key],.agg #[.int .i64 y.src,.int .i64 y.dst,.int .i64 y.kind,.int .i64 y.key]] w fun e w'=>e = .returned (.int .i64 (cmpE x y)) ∧ ∃ q,w' = { w.drewN q with heap:=w.heap++objs4 x y } := by
 go_enter func174,ntmps174
 go_wp2
 have hw1:((((w.alloc (Obj.cells #[.int .i64 x.src,.int .i64 x.dst,.int .i64 x.kind,.int .i64 x.key] 42)).alloc (Obj.cells #[.int .i64 y.src,.int .i64 y.dst,.int .i64 y.kind,.int .i64 y.key] 42)).alloc (Obj.cells #[.int .i64 x.src,.int .i64 x.kind,.int .i64 x.key,.int .i64 x.dst] 289)).alloc (Obj.cells #[.int .i64 y.src,.int .i64 y.kind,.int .i64 y.key,.int .i64 y.dst] 289)) = { w with heap:=w.heap++objs4 x y } := by
  have e:∀ (w:World) (o:Obj),w.alloc o = { w with heap:=w.heap.push o } := fun _ _=>rfl
  simp only [e,objs4]
  congr 1
 rw [hw1]
 clear hw1
 have ka:∀ j v,(#[Value.int .i64 x.src,.int .i64 x.kind,.int .i64 x.key,.int .i64 x.dst])[j]? = some v→({ w with heap:=w.heap++objs4 x y } : World).cell? ⟨w.heap.size+1+1,j,none⟩ = some v:=by
  intro j v hj
  rw [ZR (vs:=#[Value.int .i64 x.src,.int .i64 x.kind,.int .i64 x.key,.int .i64 x.dst]) (T:=289) (fr:=(0,0)) (by show (w.heap++objs4 x y)[w.heap.size+1+1]? = _;rw [Array.getElem?_append_right ow,show w.heap.size+1+1 - w.heap.size=2 by omega];rfl)]
  exact hj
 have kb:∀ j v,(#[Value.int .i64 y.src,.int .i64 y.kind,.int .i64 y.key,.int .i64 y.dst])[j]? = some v→({ w with heap:=w.heap++objs4 x y } : World).cell? ⟨w.heap.size+1+1+1,j,none⟩ = some v:=by
  intro j v hj
  rw [ZR (vs:=#[Value.int .i64 y.src,.int .i64 y.kind,.int .i64 y.key,.int .i64 y.dst]) (T:=289) (fr:=(0,0)) (by show (w.heap++objs4 x y)[w.heap.size+1+1+1]? = _;rw [Array.getElem?_append_right ow,show w.heap.size+1+1+1 - w.heap.size=3 by omega];rfl)]
  exact hj
 have a0:({ w with heap:=w.heap++objs4 x y } : World).cell? ⟨w.heap.size+1+1,0,none⟩ = some (.int .i64 x.src):=ka 0 _ rfl
 have a1:({ w with heap:=w.heap++objs4 x y } : World).cell? ⟨w.heap.size+1+1,1,none⟩ = some (.int .i64 x.kind):=ka 1 _ rfl
 have a2:({ w with heap:=w.heap++objs4 x y } : World).cell? ⟨w.heap.size+1+1,2,none⟩ = some (.int .i64 x.key):=ka 2 _ rfl
 have a3:({ w with heap:=w.heap++objs4 x y } : World).cell? ⟨w.heap.size+1+1,3,none⟩ = some (.int .i64 x.dst):=ka 3 _ rfl
 have b0:({ w with heap:=w.heap++objs4 x y } : World).cell? ⟨w.heap.size+1+1+1,0,none⟩ = some (.int .i64 y.src):=kb 0 _ rfl
 have b1:({ w with heap:=w.heap++objs4 x y } : World).cell? ⟨w.heap.size+1+1+1,1,none⟩ = some (.int .i64 y.kind):=kb 1 _ rfl
 have b2:({ w with heap:=w.heap++objs4 x y } : World).cell? ⟨w.heap.size+1+1+1,2,none⟩ = some (.int .i64 y.key):=kb 2 _ rfl
 have b3:({ w with heap:=w.heap++objs4 x y } : World).cell? ⟨w.heap.size+1+1+1,3,none⟩ = some (.int .i64 y.dst):=kb 3 _ rfl
 clear ka kb
 have hfin:∀ q (w':World),w' = ({ w with heap:=w.heap++objs4 x y } : World).drewN q → ∃ q,w' = { w.drewN q with heap:=w.heap++objs4 x y } := fun q w' e=>⟨q,e⟩
 generalize ({ w with heap:=w.heap++objs4 x y } : World)=w1 at *
 generalize w.heap.size=n0 at *
 refine wp_loop_rounds 5 ?_
 rw [Ybv]
 go_wp2
 go_quiet ((go_at_call 110;refine Calls.quiet_of_same (ZtE _ _ _)))
 go_wp2
 ·go_ret
  exact ⟨Y0 (fun z=>Ending.returned (.int .i64 z)) (Zst (by assumption)).symm,hfin _ _ rfl⟩
 have hfin1:∀ q (w':World),w' = (w1.drewN nq).drewN q → ∃ q,w' = { w.drewN q with heap:=w.heap++objs4 x y } := fun q w' e=>hfin (nq+q) w' (by rw [e,World.drewN_drewN])
 have a1':(w1.drewN nq).cell? ⟨n0+1+1,1,none⟩ = some (.int .i64 x.kind):=a1
 have b1':(w1.drewN nq).cell? ⟨n0+1+1+1,1,none⟩ = some (.int .i64 y.kind):=b1
 have a2':(w1.drewN nq).cell? ⟨n0+1+1,2,none⟩ = some (.int .i64 x.key):=a2
 have b2':(w1.drewN nq).cell? ⟨n0+1+1+1,2,none⟩ = some (.int .i64 y.key):=b2
 have a3':(w1.drewN nq).cell? ⟨n0+1+1,3,none⟩ = some (.int .i64 x.dst):=a3
 have b3':(w1.drewN nq).cell? ⟨n0+1+1+1,3,none⟩ = some (.int .i64 y.dst):=b3
 clear hfin a0 b0 a1 b1 a2 b2 a3 b3
 generalize w1.drewN nq=w2 at *
 rw [Ybv]
 go_wp2
 go_quiet ((go_at_call 110;refine Calls.quiet_of_same (ZtE _ _ _)))
 go_wp2
 ·go_ret
  exact ⟨Y0 (fun z=>Ending.returned (.int .i64 z)) (Zr1 (by assumption) (by assumption)).symm,hfin1 _ _ rfl⟩
 have hfin2:∀ q (w':World),w' = (w2.drewN nq).drewN q → ∃ q,w' = { w.drewN q with heap:=w.heap++objs4 x y } := fun q w' e=>hfin1 (nq+q) w' (by rw [e,World.drewN_drewN])
 have a2'':(w2.drewN nq).cell? ⟨n0+1+1,2,none⟩ = some (.int .i64 x.key):=a2'
 have b2'':(w2.drewN nq).cell? ⟨n0+1+1+1,2,none⟩ = some (.int .i64 y.key):=b2'
 have a3'':(w2.drewN nq).cell? ⟨n0+1+1,3,none⟩ = some (.int .i64 x.dst):=a3'
 have b3'':(w2.drewN nq).cell? ⟨n0+1+1+1,3,none⟩ = some (.int .i64 y.dst):=b3'
 clear hfin1 a1' b1' a2' b2' a3' b3'
 generalize w2.drewN nq=w3 at *
 rw [Ybv]
 go_wp2
 go_quiet ((go_at_call 110;refine Calls.quiet_of_same (ZtE _ _ _)))
 go_wp2
 ·go_ret
  exact ⟨Y0 (fun z=>Ending.returned (.int .i64 z)) (Zr9 (by assumption) (by assumption) (by assumption)).symm,hfin2 _ _ rfl⟩
 have hfin3:∀ q (w':World),w' = (w3.drewN nq).drewN q → ∃ q,w' = { w.drewN q with heap:=w.heap++objs4 x y } := fun q w' e=>hfin2 (nq+q) w' (by rw [e,World.drewN_drewN])
 have a3''':(w3.drewN nq).cell? ⟨n0+1+1,3,none⟩ = some (.int .i64 x.dst):=a3''
 have b3''':(w3.drewN nq).cell? ⟨n0+1+1+1,3,none⟩ = some (.int .i64 y.dst):=b3''
 clear hfin2 a2'' b2'' a3'' b3''
 generalize w3.drewN nq=w4 at *
 rw [Ybv]
 go_wp2
 go_quiet ((go_at_call 110;refine Calls.quiet_of_same (ZtE _ _ _)))
 go_wp2
 ·go_ret
  exact ⟨Y0 (fun z=>Ending.returned (.int .i64 z)) (ZnG (by assumption) (by assumption) (by assumption)).symm,hfin3 _ _ rfl⟩
 have hfin4:∀ q (w':World),w' = (w4.drewN nq).drewN q → ∃ q,w' = { w.drewN q with heap:=w.heap++objs4 x y } := fun q w' e=>hfin3 (nq+q) w' (by rw [e,World.drewN_drewN])
 clear hfin3 a3''' b3'''
 generalize w4.drewN nq=w5 at *
 rw [Ybv]
 go_wp2
 go_ret
 exact ⟨Y0 (fun z=>Ending.returned (.int .i64 z)) (ZsM (by assumption) (by assumption) (by assumption) (by assumption)).symm,hfin4 0 _ rfl⟩
def Zef (e:Zf):List Value:=[.int .i64 e.src,.int .i64 e.dst,.int .i64 e.kind,.int .i64 e.key]
theorem Zho:∀ (l:List Zf) (j:Nat),(l.flatMap Zef)[j]? = if j<l.length*4 then some ((Zef l[j / 4]!)[j % 4]!) else none
 | [],j=>by simp
 | e :: l,j=>by
  rw [YV]
  by_cases hj:j<4
  ·rw [List.getElem?_append_left (by simpa [Zef] using hj),Ye (by simp;omega),show j / 4=0 by omega,show j % 4=j by omega]
   match j,hj with
   | 0,_=>rfl
   | 1,_=>rfl
   | 2,_=>rfl
   | 3,_=>rfl
  ·obtain ⟨k,rfl⟩:∃ k,j=k+4:=⟨j - 4,by omega⟩
   rw [List.getElem?_append_right (by simp [Zef]),show k+4 - (Zef e).length=k by simp [Zef],Zho l k,show (k+4) / 4=k / 4+1 by omega,show (k+4) % 4=k % 4 by omega]
   by_cases h:k<l.length*4
   ·rw [Ye h,Ye (by simp;omega)];simp
   ·rw [Yb h,Yb (by simp;omega)]
theorem Zgq (l:List Zf):(Go.Sort.flatK Zef 4 l.toArray).toList=l.flatMap Zef:=by
 apply List.ext_getElem?
 intro j
 rw [Zho]
 by_cases h:j<l.length*4
 ·rw [Ye h];simp [Go.Sort.flatK,h]
 ·rw [Yb h];simp [Go.Sort.flatK];omega
def inE (e:Zf):Prop:=inR .i64 e.src∧inR .i64 e.dst∧inR .i64 e.kind∧inR .i64 e.key
theorem ZhH {w:World} {y:Ys} : ∀ {l:List Zf} {xs:List Value},PVs (l.flatMap Zp) xs w y→xs=l.flatMap Zef ∧ ∀ e ∈ l,inE e
 | [],[],_=>⟨rfl,fun x hx=>by cases hx⟩
 | [],_ :: _,h=>h.elim
 | e :: l,[],h=>h.elim
 | e :: l,[_],h=>h.2.elim
 | e :: l,[_,_],h=>h.2.2.elim
 | e :: l,[_,_,_],h=>h.2.2.2.elim
 | e :: l,a :: b :: c :: d :: xs,h=>by
  have h1:a = .int .i64 e.src∧inR .i64 e.src:=h.1.2
  have h2:b = .int .i64 e.dst∧inR .i64 e.dst:=h.2.1.2
  have h3:c = .int .i64 e.kind∧inR .i64 e.kind:=h.2.2.1.2
  have h4:d = .int .i64 e.key∧inR .i64 e.key:=h.2.2.2.1.2
  obtain ⟨h5,h6⟩:=ZhH (l:=l) (xs:=xs) h.2.2.2.2
  exact ⟨by rw [h1.1,h2.1,h3.1,h4.1,h5];rfl,fun z hz=>by rcases Yl.1 hz with rfl | hz;exact ⟨h1.2,h2.2,h3.2,h4.2⟩;exact h6 z hz⟩
theorem Zei {w:World} {y:Ys} : ∀ {l:List Zf},(∀ e ∈ l,inE e)→PVs (l.flatMap Zp) (l.flatMap Zef) w y
 | [],_=>trivial
 | e :: l,h=>by
  have h1:=h e (by simp)
  exact ⟨⟨rfl,rfl,h1.1⟩,⟨rfl,rfl,h1.2.1⟩,⟨rfl,rfl,h1.2.2.1⟩,⟨rfl,rfl,h1.2.2.2⟩,Zei fun z hz=>h z (by simp [hz])⟩
theorem swoE:Go.Sort.SWO (Go.Proofs.ltOf cmpE) where
 irrefl x:=ZbT.irr x
 trans x y z h1 h2:=ZbT.tr x y z h1 h2
 ntrans x y z h1 h2:=by
  have h1:ltE x y=false:=h1
  have h2:ltE y z=false:=h2
  show ltE x z=false
  rw [Zjs] at *
  omega
theorem ZhI {w:World} {g n:Nat} {d:List Value} {os:Array Obj} {cur:Array Value} {e:TypeId} (hg:w.heap[g]? = some (.cells cur e (0,0))) (b:Nat) (hb:b<w.heap.size) :
  (Go.Sort.grow (Go.Sort.putRow id (Go.Sort.ahead w n) g 0 d.toArray) os).heap[b]? = if b=g then some (.cells (Go.Sort.putCells id 0 d.toArray cur) e (0,0)) else w.heap[b]?:=by
 unfold Go.Sort.grow Go.Sort.putRow Go.Sort.mapBlock Go.Sort.ahead
 simp only
 rw [Array.getElem?_append_left (by simpa using hb),Array.getElem?_modify]
 by_cases h:g=b
 ·subst h
  rw [Ye rfl,Ye rfl,hg];rfl
 ·rw [Yb h,Yb (fun e=>h e.symm)]
theorem Znq {cur:Array Value} {d:List Value} (h:d.length≤cur.size):(Go.Sort.putCells id 0 d.toArray cur).toList.take d.length=d:=by
 apply YaV
 ·simp [Go.Sort.putCells];omega
 ·intro i h1 h2
  have hi:i<d.length:=h2
  simp [Go.Sort.putCells,hi]
theorem sortE_cmp (g n:Nat) (w:World):Go.Proofs.CmpLays prog 174 #[] Zef 4 cmpE g 0 n w:=fun _ _ _ _ x y=>
 (ZoT x y _).mono fun _ _ ⟨he,q,hq⟩=>⟨he,q,objs4 x y,hq⟩
theorem Zrm (v:Value) (l:List Zf) (hlm:l.length≤1000000):FnG prog 173 1 [.is v,.is (.func (.func 174) #[] #[])] [ZC 42 4 Zp l v] (.tup []) (fun _=>[ZC 42 4 Zp (Zcq l) v]):=by
 by_cases hl0:l = []
 ·subst hl0
  have h:=Zlg v [] (by simp) (fun j _ h1=>absurd h1 (by simp))
  have e:Zcq [] = []:=by simp [Zcq]
  rw [e];exact h
 ·exact fun w F vs hw hle hvs hpr=>by
   match vs,hvs with
   | [u,fv],hvs=>
    have hu:u=v:=hvs.1.1
    have hfv:fv = .func (.func 174) #[] #[]:=hvs.2.1.1
    subst hu
    subst hfv
    obtain ⟨xs,⟨hxl,hx⟩,hp,hf⟩:=hpr 0 _ rfl
    rcases hx with ⟨rfl,h0⟩ | ⟨g,cap,cur,rfl,_,hg,hn,hcap,hcs,hct⟩
    ·exact absurd (YR h0) hl0
    ·have hgs:g<w.heap.size:=(YW.1 hg).1
     obtain ⟨hxe,hin⟩:=ZhH hp
     have hcl:l.length*4≤cur.size:=by rw [hcs];exact YP _ hn
     have hbig:l.toArray.size<4611686018427387904:=by simp;omega
     have hcur:∀ j,j<l.length*4→cur[j]? = (l.flatMap Zef)[j]?:=fun j hj=>by
      have h1:(cur.toList.take (l.length*4))[j]? = (l.flatMap Zef)[j]?:=by rw [hct,hxe]
      rw [Ybo hj] at h1
      simpa using h1
     have hH:Go.Sort.HoldsK Zef 4 w g 0 l.toArray:=fun j hj=>by
      have hj':j<l.length*4:=by simpa using hj
      refine ⟨?_,?_⟩
      ·rw [Y7,ZR hg,hcur j hj',Zho,Ye hj',Go.Sort.get_flatK _ _ _ _ (by simpa using hj')]
       simp
      ·simp [World.frozen?,hg]
     have eg:∀ args w,(callFunc 174 args).run prog w = .ok (.enter 174 args) w:=enters_of func174 kr rfl
     have hcalls:Calls prog 173 #[.slice (some ⟨g,0,none⟩) l.toArray.size cap,.func (.func 174) #[] #[]] w fun e w'=>e = .returned (.tuple #[]) ∧ ∃ d' n os,Go.Sort.PermIn 0 l.toArray.size l.toArray d' ∧ Go.Sort.SortedIn (Go.Proofs.ltOf cmpE) 0 l.toArray.size d' ∧ w' = Go.Proofs.sortWorldK Zef 4 w g 0 n d' os:=
      Go.Proofs.AnyQ.slices_SortFunc ZnN 4 Tryz.isAgg42 Tryz.sizeOf42 Zef (fun _=>rfl) (fun x v hv=>by simp [Zef] at hv;rcases hv with rfl | rfl | rfl | rfl <;> rfl) cmpE swoE 174 #[] g 0 cap l.toArray w eg (sortE_cmp g _ w) hH hgs hbig
     refine hcalls.mono ?_
     rintro e w' ⟨rfl,d',n,os,hperm,hsrt,rfl⟩
     have hd:d'.toList=Zcq l:=Go.Sort.sorted_unique_holds swoE (fun x y h1 h2=>ZbT.tot x y h1 h2) l.toArray d' hperm hsrt
     have hd2:d' = (Zcq l).toArray:=by rw [← hd]
     subst hd2
     have hsl:(Zcq l).length=l.length:=Zit l
     have hfl:(Go.Sort.flatK Zef 4 (Zcq l).toArray)=((Zcq l).flatMap Zef).toArray:=by rw [← Zgq]
     have hfn:((Zcq l).flatMap Zef).length=l.length*4:=by
      have h2:=Y0 List.length (Zgq (Zcq l))
      rw [← h2,Array.length_toList,Go.Sort.size_flatK,Yay,hsl]
     have hW:Go.Proofs.sortWorldK Zef 4 w g 0 n (Zcq l).toArray os=Go.Sort.grow (Go.Sort.putRow id (Go.Sort.ahead w n) g 0 ((Zcq l).flatMap Zef).toArray) os:=by
      unfold Go.Proofs.sortWorldK Go.Sort.putRowK
      rw [hfl]
     rw [hW]
     have hheap:=fun b hb=>ZhI (n:=n) (d:=(Zcq l).flatMap Zef) (os:=os) hg b hb
     have hsz:(Go.Sort.grow (Go.Sort.putRow id (Go.Sort.ahead w n) g 0 ((Zcq l).flatMap Zef).toArray) os).heap.size=w.heap.size+os.size:=by simp [Go.Sort.ahead]
     have hfg:F 1 g:=(hf g).2 rfl
     have hst:Stp (List.range' 1 1) w F (Go.Sort.grow (Go.Sort.putRow id (Go.Sort.ahead w n) g 0 ((Zcq l).flatMap Zef).toArray) os) F:=
      ⟨rfl,rfl,rfl,by rw [hsz];omega,fun b hb hn=>by
       rw [hheap b hb,Yb (fun e=>by subst e;exact hn 1 (by simp) hfg)],fun _ _=>rfl,fun n hn b hb=>.inl ⟨n,hn,hb⟩⟩
     refine ⟨.tuple #[],F,rfl,⟨hw.dis,fun n b hb=>by rw [hsz];have:=hw.bd n b hb;omega⟩,hst,hle,⟨[],rfl,tv⟩,fun i h hi=>?_⟩
     match i,hi with
     | 0,hi=>
      simp only [Ybu,Y1] at hi
      subst hi
      refine ⟨(Zcq l).flatMap Zef,⟨by rw [hfn,hsl],.inr ⟨g,cap,_,by rw [hsl],Yx _,(hheap g hgs).trans (Ye rfl),by rw [hsl];exact hn,hcap,by simp [Go.Sort.putCells,hcs],?_⟩⟩,Zei fun x hx=>hin x ((YaI l _).mem_iff.1 hx),hf⟩
      rw [hsl,← hfn];exact Znq (by rw [hfn];exact hcl)
theorem ZpJ (l:List Zf) (hl:l.length≤1000000):FnP prog 132 [.sl Zp l] (.sl Zp (Zbt ltE l)):=by
 refine FnP.mk func132 rfl ntmps132 rfl fun B a w F Z hfr G=>?_
 have hll:=Sat.lenSl G (i:=0) rfl
 refine Ya (rZ G (qC qZ) Z [2,0] [0] fun G=>Ya ?_)
 replace G:=G.fresh 101 rfl
 refine Zb G (qR rr (qf (ZaM 101 (ZmK l ow) func124 rfl kr (Args.one .t) pvOne1) r1 r1 (qO rr qZ))) Z [3,2] [101,0] (fun _=>rfl) (fun _=>rfl) fun τ a w F G=>?_
 try dsimp only [RS.sub,SF.sub,CF.sub,csub,Anc.sub,List.map,Zp] at G
 generalize τ 5=v5 at G
 refine Za (Ya (rZ G (qR rr (qf (Zbe 101 (Zrm _ l ow) func173 rfl kr (Args.two .t .f)) r1 r1 qZ)) Z [3,2] [101,0] fun G=>Ya ?_))
 refine Zb G (qR rr (qf (o_callRowN 101 (Zjj _ _ (by rw [Zit];omega)) func175 rfl kr (Args.one .t) pvOne1) r1 r1 (qO rr qZ))) Z [2] [101,0] (fun _=>rfl) (fun _=>rfl) fun τ a w F G=>?_
 try dsimp only [RS.sub,SF.sub,CF.sub,csub,Anc.sub,List.map,Zp] at G
 generalize τ 9=v9 at G
 refine Za (Yh ?_)
 obtain ⟨F,G⟩:=G.give 101 2 rfl rfl
 refine Zv hfr G rfl rfl rfl (.sl (ZlF l))
theorem Zgk {α:Type} {lt:α→α→Bool} (h:STO lt):∀ {l m:List α},ZoC lt l→ZoC lt m→(∀ x,x ∈ l ↔ x ∈ m)→l=m
 | [],[],_,_,_=>rfl
 | [],y :: m,_,_,he=>by have:=(he y).2 (by simp);cases this
 | x :: l,[],_,_,he=>by have:=(he x).1 (by simp);cases this
 | x :: l,y :: m,hl,hm,he=>by
  obtain ⟨h1,h2⟩:=Yr.1 hl
  obtain ⟨h3,h4⟩:=Yr.1 hm
  have hxy:x=y:=by
   rcases Yl.1 ((he x).1 (by simp)) with e | hx
   ·exact e
   ·rcases Yl.1 ((he y).2 (by simp)) with e | hy
    ·exact e.symm
    ·have a1:=h1 y hy
     have a2:=h3 x hx
     have a3:=h.tr x y x a1 a2
     rw [h.irr x] at a3;cases a3
  subst hxy
  congr 1
  refine Zgk h h2 h4 fun z=>⟨fun hz=>?_,fun hz=>?_⟩
  ·rcases Yl.1 ((he z).1 (YE _ hz)) with e | h9
   ·subst e
    have:=h1 z hz
    rw [h.irr z] at this;cases this
   ·exact h9
  ·rcases Yl.1 ((he z).2 (YE _ hz)) with e | h9
   ·subst e
    have:=h3 z hz
    rw [h.irr z] at this;cases this
   ·exact h9
theorem ZjD {l m:List Zf} (he:∀ x,x ∈ l ↔ x ∈ m):Zbt ltE l=Zbt ltE m:=
 Zgk ZbT (ZbB ZbT l).1 (ZbB ZbT m).1 fun x=>by rw [(ZbB ZbT l).2,(ZbB ZbT m).2,he x]
structure HvD where
 edge:Zf
 cnt:Int
 deriving DecidableEq,Inhabited
def rHv (x:HvD):List PV:=[.int .i64 x.edge.src,.int .i64 x.edge.dst,.int .i64 x.edge.kind,.int .i64 x.edge.key,.int .i64 x.cnt]
def cntA (A:List (Zf×Int)) (R:List Zf) (e:Zf):Int:=Zmf A e+(R.count e:Int)
def Zg4 (A:List (Zf×Int)) (R:List Zf):List Zf:=A.map Prod.fst++R
def ZgF (A:List (Zf×Int)) (R:List Zf):List HvD:=(Zbt ltE (Zg4 A R)).map fun e=>⟨e,cntA A R e⟩
theorem ZfH {es:List (GE Zf Int)} {A:List (Zf×Int)} {R ks:List Zf} (hE:Zgj es A R) (hk:ks.Perm (es.map (·.key))):Zbt ltE ks=Zbt ltE (Zg4 A R):=ZjD fun x=>by
 unfold Zg4
 rw [hk.mem_iff,Yy,← hE.key x,Zey]
theorem Zll {A:List (Zf×Int)} {R:List Zf} : (ZgF A R).length=(Zbt ltE (Zg4 A R)).length:=YC _
theorem ZpD {g:Zo} (h:ZO g):NE g.orders:=fun o ho=>by
 have h2:=(ZcT g).2 h.2.2
 obtain ⟨j,hj,e⟩:=YH ho
 have:=(h2.2 j hj).2.1
 rwa [nth_eq hj,e] at this
structure EdD where
 kind:Int
 t:TxD
 o:OrdD
 place:Int
 deriving DecidableEq,Inhabited
def doH (g:Zo) (e:EdD):Zo×Int:=if e.kind=0 then Znj g e.t else if e.kind=1 then ZnX g e.t.id else if e.kind=2 then ZqX g e.t else if e.kind=3 then Zqy g e.o else if e.kind=4 then ZtM g e.o.key e.t.id e.place else (Zdp,5)
def ZiE (e:EdD):Prop:=e.t.ops.length≤24∧e.o.txs.length≤24
instance (e:EdD):Decidable (ZiE e):=by unfold ZiE;exact inferInstance
def Zq6 (l:List EdD):Prop:=l.length≤24 ∧ ∀ e ∈ l,ZiE e
instance (l:List EdD):Decidable (Zq6 l):=by unfold Zq6;exact inferInstance
def Zke (g:Zo) (e:EdD):Zo:=if (doH g e).2=0 then (doH g e).1 else g
theorem Zgx {os:List OrdD} {k:Int} : (Z4 (fun o:OrdD=>decide (o.key=k)) os<0→getO os k = [])∧(¬ Z4 (fun o:OrdD=>decide (o.key=k)) os<0 → ∃ i:Nat,Z4 (fun o:OrdD=>decide (o.key=k)) os=i∧i<os.length∧getO os k=(Nn os i).txs):=by
 rcases ZbO (fun o:OrdD=>decide (o.key=k)) os with ⟨h1,h2⟩ | ⟨i,h1,h2,h3,h4⟩
 ·exact ⟨fun _=>Zrc fun q hq=>by simpa using h2 q hq,fun h=>absurd (by rw [h1];decide) h⟩
 ·exact ⟨fun h=>by rw [h1] at h;omega,fun _=>⟨i,h1,h2,Zrp h2 (by simpa using h3) fun q hq=>by simpa using h4 q hq⟩⟩
def Fit (n:Nat) (g:Zo):Prop:=(g.txs.length≤n ∧ ∀ t ∈ g.txs,t.ops.length≤24)∧g.orders.length≤24*n ∧ ∀ o ∈ g.orders,o.txs.length≤n
theorem Fit.small {n:Nat} {g:Zo} (h:Fit n g) (hn:n≤30):ZbR g:=by
 obtain ⟨⟨h1,h2⟩,h3,h4⟩:=h
 exact ⟨⟨by omega,fun t ht=>by have:=h2 t ht;omega⟩,by omega,fun o ho=>by have:=h4 o ho;omega⟩
theorem Fit.zero:Fit 0 Zdp:=⟨⟨by simp [Zdp],fun t ht=>by cases ht⟩,by simp [Zdp],fun o ho=>by cases ho⟩
theorem Fit.up {n:Nat} {g:Zo} (h:Fit n g):Fit (n+1) g:=⟨⟨by have:=h.1.1;omega,h.1.2⟩,by have:=h.2.1;omega,fun o ho=>by have:=h.2.2 o ho;omega⟩
theorem Fit.none {n:Nat} : Fit n Zdp:=by
 induction n with
 | zero=>exact Fit.zero
 | succ n ih=>exact ih.up
theorem Zoo {os:List OrdD} {ks:List Int} {t:TxD} {o:OrdD} (h:o ∈ Ztk t os ks):o ∈ os∨o.txs = []:=by
 unfold Ztk at h
 split at h
 ·have key:∀ (ks:List Int) (os:List OrdD),o ∈ ks.foldl ZqP os→o ∈ os∨o.txs = []:=by
   intro ks
   induction ks with
   | nil=>intro os h;exact .inl h
   | cons k ks ih=>
    intro os h
    rcases ih _ h with h | h
    ·rcases Zqd h with h | h
     ·exact .inl h
     ·exact .inr (by rw [h])
    ·exact .inr h
  exact key ks os h
 ·exact .inl h
theorem ZlN {n:Nat} {t:TxD} {os:List OrdD} (ht:t.ops.length≤24) (h1:os.length≤24*n) (h2:∀ o ∈ os,o.txs.length≤n):(settleO t os).length≤24*(n+1) ∧ ∀ o ∈ settleO t os,o.txs.length≤n+1:=by
 have hk:=ZeU t
 have hl:(Ztk t os (ZaW t)).length≤os.length+(ZaW t).length:=by
  unfold Ztk
  split
  ·have key:∀ (ks:List Int) (os:List OrdD),(ks.foldl ZqP os).length≤os.length+ks.length:=by
    intro ks
    induction ks with
    | nil=>intro os;simp
    | cons k ks ih=>intro os;have h1:=ih (ZqP os k);have h2:=Zqb os k;rw [Yal,Yk];omega
   exact key _ _
  ·omega
 unfold settleO
 refine ⟨Y6 (Y8 _ _) (by rw [YC];omega),fun o ho=>?_⟩
 obtain ⟨o',ho',e⟩:=Yu.1 (YN.1 ho).1
 have hlen:o'.txs.length≤n:=by
  rcases Zoo ho' with h | h
  ·exact h2 o' h
  ·rw [h];simp
 rw [← e]
 unfold Zt1
 show (if _ then _ else _:List Int).length≤_
 split
 ·unfold ZsZ;split
  ·omega
  ·simp;omega
 ·unfold Zcn
  exact Y6 (Y8 _ _) ow
theorem ZgM {n:Nat} {g:Zo} {key:Int} {rule:List Int→List Int×Int} (hr:∀ l,(rule l).2=0→(rule l).1.length≤l.length) (h:Fit n g):Fit n (ZgR g key rule).1:=by
 unfold ZgR
 split
 ·exact Fit.none
 ·split
  ·exact Fit.none
  ·split
   ·exact Fit.none
   ·rename_i h1 h2 h3
    refine ⟨h.1,by show (List.set _ _ _).length≤_;rw [YU];exact h.2.1,fun o ho=>?_⟩
    rcases List.mem_or_eq_of_mem_set ho with h4 | h4
    ·exact h.2.2 o h4
    ·have hk:isK OrdD.key key g.orders=true:=by simpa using h2
     have hlt:=(ZrP (Za1 (Decidable.not_not.1 h1)).2 hk).1
     have:=hr _ (Decidable.not_not.1 h3)
     have:=h.2.2 _ (nth_mem hlt)
     rw [h4];show (rule _).1.length≤n;omega
theorem Fit.doH {n:Nat} {g:Zo} {e:EdD} (h:Fit n g) (he:ZiE e):Fit (n+1) (doH g e).1:=by
 have hset:∀ t:TxD,t.ops.length≤24 → ∀ txs:List TxD,txs.length≤n+1→(∀ t ∈ txs,t.ops.length≤24)→Fit (n+1) ⟨txs,settleO t g.orders⟩:=fun t ht txs h1 h2=>by
  obtain ⟨h3,h4⟩:=ZlN ht h.2.1 h.2.2
  exact ⟨⟨h1,h2⟩,h3,h4⟩
 unfold Go.Proofs.YtlkpllemoepamaaGreat.doH
 split
 ·unfold Znj
  split
  ·exact Fit.none
  ·split
   ·exact Fit.none
   ·refine hset _ he.1 _ ?_ fun t ht=>?_
    ·have:=h.1.1;rw [Yc,Yc,Yj,YL];simp;omega
    ·rw [Yy,Yy] at ht
     rcases ht with (ht | ht) | ht
     ·exact h.1.2 t (Yap ht)
     ·rw [Yi.1 ht];exact he.1
     ·exact h.1.2 t (Ybn ht)
 ·split
  ·unfold ZnX
   split
   ·exact Fit.none
   ·split
    ·exact Fit.none
    ·split
     ·exact Fit.none
     ·refine hset _ (by simp [Zsa]) _ ?_ fun t ht=>?_
      ·have:=h.1.1;rw [Yc,Yj,YL];omega
      ·rw [Yy] at ht
       rcases ht with ht | ht
       ·exact h.1.2 t (Yap ht)
       ·exact h.1.2 t (Ybn ht)
  ·split
   ·unfold ZqX
    split
    ·exact Fit.none
    ·split
     ·exact Fit.none
     ·refine hset _ he.1 _ ?_ fun t ht=>?_
      ·have:=h.1.1;rw [YU];omega
      ·rcases List.mem_or_eq_of_mem_set ht with ht | ht
       ·exact h.1.2 t ht
       ·rw [ht];exact he.1
   ·split
    ·refine (ZgM (fun l h0=>?_) h).up
     unfold ZsS at h0 ⊢
     split at h0
     ·rename_i hp;rw [Ye hp,hp.length_eq];exact YO _
     ·simp at h0
    ·split
     ·exact (ZgM (fun l h0=>by show (ZpE l _ _).1.length≤_;exact Zon _ _ _) h).up
     ·exact Fit.none
theorem Fit.step {n:Nat} {g:Zo} {e:EdD} (h:Fit n g) (he:ZiE e):Fit (n+1) (Zke g e):=by
 unfold Zke
 split
 ·exact h.doH he
 ·exact h.up
theorem Zp2 (o:OrdD) (key:Int):FnP prog 41 [.agg (ZP o),.ref [.int .i64 key]] (.bool (decide (o.key=key))):=by
 refine FnP.mk func41 rfl ntmps41 rfl fun B a w F Z hfr G=>Ya ?_
 refine Zb G (qx 101 r1 qB) Z [3,2,1] [101,0] (fun _=>rfl) (fun _=>rfl) fun τ a w F G=>?_
 try dsimp only [RS.sub,SF.sub,CF.sub,csub,Anc.sub,List.map,zCF,Zu,rTx,ZP,ZN,Zn,rOp] at G
 generalize τ 2=v2 at G
 refine Za (Ya (rZ G (qg 0 101 r1 r1 (qa 101 r1 r1 (qf (oR false 1 .t) r1 qz (qf (o_eql .t .t) r2 qz (qO rr qZ))))) Z [3] [101,0] fun G=>Yh ?_))
 refine Zv hfr G rfl rfl rfl .refl
theorem ZpL (g:Zo) (key:Int) (hs:Zgl g.orders):FnP prog 16 [.agg (Zu g),.int .i64 key] (.sl Zn (getO g.orders key)):=by
 refine FnP.mk func16 rfl ntmps16 rfl fun B a w F Z hfr G=>?_
 have hso:=hs.1
 refine Ya (Zb G (qx 101 r1 (qf (Znr 102 .t one_int) r1 qz (qC qZ))) Z [4,3,2] [102,101,0] (fun _=>rfl) (fun _=>rfl) fun τ a w F G=>?_)
 try dsimp only [RS.sub,SF.sub,CF.sub,csub,Anc.sub,List.map,zCF,Zu,rTx,ZP,ZN,Zn,rOp] at G
 generalize τ 2=v2,τ 3=v3 at G
 refine Za (Ya (Zbp 2 G kr (cG rfl (oF 1 101 .is) r1 r1 (cG rfl (oL false 1 101 .adr) r1 r1 Zak.nil)) kr (by rw [Z];kernel_rfl) fun a w F G=>?_))
 obtain ⟨F,G⟩:=G.nM [7,4,3,2] [102,101,0]
 try dsimp only [List.map,xD,xE,xT,xU,ldSF,Zu,rTx,ZP,ZN,Zn,rOp] at G
 obtain ⟨F,G⟩:=G.giveRef 102 3 rfl rfl rfl
 obtain ⟨F,G⟩:=G.nM [7,4,3,2] [101,0]
 try dsimp only [Go.Gm.unCF] at G
 refine Zb5 G kr (cG rfl (Zbo (Args.one .t)) r1 trivial (cG rfl (oP (ZrR g.orders (fun o=>decide (o.key=key)) 41 f41 [.ref [.int .i64 key]] func41 rfl kr (fun o=>Zp2 o key)) func40 (Args.two .t .t)) r2 trivial (cG rfl (oN .t) r1 trivial Zak.nil))) kr (by rw [Z];kernel_rfl) fun a w F G=>?_
 obtain ⟨F,G⟩:=G.nM [5,4,2] [101,0]
 try dsimp only [Zu,rTx,ZP,ZN,Zn,rOp] at G
 refine Za (Ya (Ya (rZ G (qR rr (qf (Zar .t qi) r1 qz qZ)) Z [11,5,4,2] [101,0] fun G=>?_)))
 refine Zc G rfl (fun hc0=>?_) (fun hc0=>?_)
 ·have hg:[] = getO g.orders key:=(Zgx.1 (by simpa using hc0)).symm
  refine Ya (rZ G (qC qZ) Z [5,4,2] [101,0] fun G=>(Yh (Zl ?_)))
  refine Zv hfr G rfl rfl rfl (by first | exact .sl hg | (rw [← hg];exact .nilSl))
 obtain ⟨fi,hfi,hfl,hfg⟩:=Zgx.2 (show ¬ Z4 (fun o:OrdD=>decide (o.key=key)) g.orders<0 by simpa using hc0)
 have hg:(Nn g.orders (Z4 (fun o:OrdD=>decide (o.key=key)) g.orders).toNat).txs=getO g.orders key:=by rw [hfi,Yd,hfg]
 refine Yf (Za (Ya (Zg G (qg 1 101 r1 r1 (qa 101 r1 r1 (qR rr (qf (o_indexAddr_sl (sz:=2) (.mk Yb5 kr) (by intro x;rfl) .t .t (by rw [hfi];omega) (by rw [hfi];omega)) r2 qz (qf (oG 1 .t) r1 qz (qf (oR false 1 .t) r1 qz (qf (oP (cloneIP_c _ (by rw [hfi,Yd];have:=hs.at hfl;omega)) func42 (Args.one .t)) r1 qz (qO rr qZ)))))))) Z [4] [101,0] rfl rfl fun a w F G=>?_)))
 try simp only [Yd] at G
 refine Za (Yh (Zv hfr G rfl rfl rfl (by first | exact .sl hg | (rw [← hg];exact .nilSl))))
instance (l:List TxD):Decidable (ZaN l):=by unfold ZaN;exact inferInstance
instance (l:List OrdD):Decidable (Zgl l):=by unfold Zgl;exact inferInstance
instance (g:Zo):Decidable (ZbR g):=by unfold ZbR;exact inferInstance
theorem Zce {l:List TxD} {k x:Int} : x ∈ ZG l k ↔ ∃ t ∈ l,t.id=x∧t.done=true∧0<wcnt t.ops k:=by
 unfold ZG
 rw [Yu]
 constructor
 ·rintro ⟨t,ht,e⟩
  rw [YN] at ht
  simp at ht
  exact ⟨t,ht.1,e,ht.2.1,ht.2.2⟩
 ·rintro ⟨t,ht,e,h1,h2⟩
  exact ⟨t,by rw [YN];simp [ht,h1,h2],e⟩
theorem Zhq {l:List TxD} (h:Zgn TxD.id l) (k:Int):(ZG l k).Nodup:=by
 unfold ZG
 have h1:(l.map TxD.id).Nodup:=(Ybc.2 (ZU.1 h)).imp fun h=>Int.ne_of_lt h
 exact (h1.sublist ((List.filter_sublist).map _))
theorem ZhC {l:List TxD} (h:Zgn TxD.id l) {t:TxD} (ht:t ∈ l):ZJ l t.id=some t:=by
 have h:=ZU.1 h
 induction l with
 | nil=>cases ht
 | cons x l ih=>
  rw [Yr] at h
  unfold ZJ
  rw [YbQ]
  rcases Yl.1 ht with rfl | ht
  ·simp
  ·have:=h.1 t ht
   rw [show decide (x.id=t.id)=false by simp;omega]
   exact ih (ZU.2 h.2) ht h.2
theorem Zkm {l:List TxD} {id:Int} (h:∀ t ∈ l,t.id≠id):ZJ l id=none:=by
 unfold ZJ
 exact YaQ.2 fun t ht=>by simpa using h t ht
theorem Zbf {g:Zo} : ZO g ↔ g.txs.length≤4096∧Zgn TxD.id g.txs∧(∀ t ∈ g.txs,ZaE t=0∧Zc8 g t=true)∧Zgn OrdD.key g.orders∧NE g.orders ∧ ∀ k,(getO g.orders k).Perm (ZG g.txs k):=by
 constructor
 ·intro h
  obtain ⟨r1',r2'⟩:=Za1 h
  have hne:=ZpD h
  have h2:=(ZcT g).2 h.2.2
  refine ⟨h.1,r1',fun t ht=>?_,r2',hne,fun k=>?_⟩
  ·obtain ⟨j,hj,e⟩:=YH ht
   have:=(h.2.1 j hj).2
   rwa [nth_eq hj,e] at this
  ·by_cases hk:getO g.orders k = []
   ·rw [hk]
    have hw:ZG g.txs k = []:=by
     refine Decidable.byContradiction fun hw=>?_
     obtain ⟨j,hj,e⟩:=YH (ZcO.2 hw)
     have hjo:j<g.orders.length:=by rw [h.2.2.1];exact hj
     have h3:=(h.2.2.2 j hjo).1
     rw [nth_eq hj,e] at h3
     have h4:=ZcZ (ZU.1 r2') (nth_mem hjo)
     rw [h3,hk] at h4
     exact hne _ (nth_mem hjo) h4.symm
    rw [hw]
   ·have hm:=ZdZ hk
    obtain ⟨j,hj,e⟩:=YH hm
    have:=(h2.2 j hj).2.2
    rw [nth_eq hj,e] at this
    exact this
 ·rintro ⟨h1,h2,h3,h4,h5,h6⟩
  have hk:g.orders.map OrdD.key=Za4 g.txs:=by
   refine ZcP (Ybc.2 (ZU.1 h4)) (ZL _).1 fun k=>?_
   rw [ZcO,Yu]
   constructor
   ·rintro ⟨o,ho,rfl⟩ e
    have:=h6 o.key
    rw [e,ZcZ (ZU.1 h4) ho] at this
    exact h5 o ho this.eq_nil
   ·intro e
    have:getO g.orders k≠[]:=fun e2=>by
     have:=h6 k
     rw [e2] at this
     exact e this.symm.eq_nil
    exact ⟨_,ZdZ this,rfl⟩
  have hlen:g.orders.length=(Za4 g.txs).length:=by rw [← hk,YC]
  refine ⟨h1,fun i hi=>?_,(ZcT g).1 ⟨hlen,fun i hi=>?_⟩⟩
  ·obtain ⟨g1,g2⟩:=h3 _ (nth_mem hi)
   exact ⟨fun h0=>h2 (i - 1) i ow hi,g1,g2⟩
  ·refine ⟨fun h0=>h4 (i - 1) i ow hi,h5 _ (nth_mem hi),?_⟩
   have:=h6 (Nn g.orders i).key
   rwa [ZcZ (ZU.1 h4) (nth_mem hi)] at this
structure Zi1 where
 tx:Int
 place:Int
 vof:Zbh
 deriving DecidableEq,Inhabited
def Zes (b:Zi1):List PV:=[.int .i64 b.tx,.int .i64 b.place,.int .i64 b.vof.tx,.int .i64 b.vof.key,.int .i64 b.vof.nth]
def uOf (g:Zo) (o:OpD):TxD:=(ZJ g.txs o.tx).getD zeroT
def Zgw (t u:TxD) (o:OpD) (phen:Int):Bool:=t.done && (if phen=2 then !u.done else decide (phen=3) && decide (o.nth<(wcnt u.ops o.key:Int)))
def Zjh (g:Zo) (phen:Int) (t:TxD) (o:OpD):Bool:=ZaY t.id o && Zgw t (uOf g o) o phen
def ZaK (g:Zo) (phen:Int) (p:Int→Bool) (t:TxD) (l:List OpD):List Zi1:=(l.zipIdx.filter fun x=>p x.1.key && Zjh g phen t x.1).map fun x=>⟨t.id,(x.2:Int),ofO x.1⟩
theorem Zdc {g:Zo} {phen:Int} {p:Int→Bool} {t:TxD} {l:List OpD} {j:Nat} (hj:j<l.length):ZaK g phen p t (l.take (j+1))=ZaK g phen p t (l.take j)++if (p (Nn l j).key && Zjh g phen t (Nn l j))=true then [⟨t.id,j,ofO (Nn l j)⟩] else []:=by
 unfold ZaK
 rw [Zs hj,List.zipIdx_append,Yae,YJ]
 congr 1
 rw [Yj,show min j l.length=j by omega]
 by_cases h:(p (Nn l j).key && Zjh g phen t (Nn l j))=true
 ·rw [Ye h,List.zipIdx_cons,Yab (by simpa using h)];simp
 ·rw [Yb h,List.zipIdx_cons,Yag (by simpa using h)];simp
theorem ZgB (g:Zo) (phen:Int) (p:Int→Bool) (t:TxD) (l:List OpD):(ZaK g phen p t l).length≤l.length:=by
 unfold ZaK
 rw [YC]
 exact Y6 (Y8 _ _) (by simp)
def badsG (g:Zo) (phen:Int) (p:Int→Bool) (l:List TxD):List Zi1:=l.flatMap fun t=>ZaK g phen p t t.ops
theorem ZlQ {g:Zo} {phen:Int} {p:Int→Bool} {l:List TxD} {i:Nat} (hi:i<l.length):badsG g phen p (l.take (i+1))=badsG g phen p (l.take i)++ZaK g phen p (Nn l i) (Nn l i).ops:=by
 unfold badsG
 rw [Zs hi,YQ]
 simp
theorem Zkc {g:Zo} {phen:Int} {p:Int→Bool} {l:List TxD} (h:ZaN l) (i:Nat):(badsG g phen p (l.take i)).length≤1000*i:=by
 have key:∀ l:List TxD,(∀ t ∈ l,t.ops.length≤1000)→(badsG g phen p l).length≤1000*l.length:=by
  intro l
  induction l with
  | nil=>intro _;simp [badsG]
  | cons t l ih=>
   intro h
   have h1:=ih fun x hx=>h x (by simp [hx])
   have h2:=h t (by simp)
   have h3:=ZgB g phen p t t.ops
   unfold badsG at h1 ⊢
   rw [YV,Yc,Yk]
   omega
 have h1:=key (l.take i) fun t ht=>h.2 t (Yap ht)
 have h2:(l.take i).length≤i:=by rw [Yj];omega
 exact Y6 h1 (Ybh _ h2)
def ZX (g:Zo) (phen:Int) (p:Int→Bool):List Zi1:=if ZO g then badsG g phen p g.txs else []
theorem ZoG {g:Zo} (hr:∀ i,i<g.txs.length→Zmi g i):Zdm (g.txs.map TxD.id):=Zfi fun i hi h0=>by
 have hi':i<g.txs.length:=by simpa using hi
 rw [ZaH ow,ZaH hi']
 exact (hr i hi').1 h0
theorem Zti {g:Zo} (hr:∀ i,i<g.txs.length→Zmi g i) {i k:Nat} (hi:i<g.txs.length) (hk:k<i):(Nn g.txs k).id<(Nn g.txs i).id:=by
 have h:=Yaz.1 (ZoG hr) k i (by simp;omega) (by simpa using hi) hk
 rw [nth_eq hi,nth_eq ow]
 simpa using h
def ZrV (es:List (GE Int TxD)) (l:List TxD):Prop:=∀ id,gGet id es=ZJ l id
theorem Zrh {g:Zo} (hr:∀ i,i<g.txs.length→Zmi g i) {es:List (GE Int TxD)} {ck i:Nat} (h:ZrV es (g.txs.take i)) (hi:i<g.txs.length):ZrV (gPut (Nn g.txs i).id (Nn g.txs i) (es,ck)).1 (g.txs.take (i+1)):=fun id=>by
 rw [ZcQ,h id]
 unfold ZJ
 rw [Zs hi,YbE]
 by_cases e:id=(Nn g.txs i).id
 ·subst e
  have hn:(g.txs.take i).find? (fun t=>decide (t.id=(Nn g.txs i).id))=none:=by
   rw [YaQ]
   intro x hx
   obtain ⟨k,hk,e⟩:=YH hx
   rw [Yj] at hk
   have:=Zti hr hi (show k<i by omega)
   rw [nth_eq ow] at this
   rw [List.getElem_take] at e
   rw [e] at this
   simp;omega
  simp [hn]
 ·rw [Yb e]
  have hn:[Nn g.txs i].find? (fun t=>decide (t.id=id))=none:=by simp;exact fun h=>e h.symm
  rw [hn];simp
theorem ZrD {u v:Zi1} {r:Bool} (h:(decide (u.tx=v.tx) && (decide (u.place=v.place) && (decide (u.vof.tx=v.vof.tx) && (decide (u.vof.key=v.vof.key) && (decide (u.vof.nth=v.vof.nth) && true)))))=r):r=decide (u=v):=by
 obtain ⟨a,b,c,d,e⟩:=u;obtain ⟨a',b',c',d',e'⟩:=v
 rw [← h,Ya4]
 simp
def ZjC (b:Zi1):List Int:=[b.tx,b.place,b.vof.tx,b.vof.key,b.vof.nth]
def ZlZ (a b:Zi1):Bool:=if a.tx≠b.tx then decide (a.tx<b.tx) else if a.place≠b.place then decide (a.place<b.place) else if a.vof.tx≠b.vof.tx then decide (a.vof.tx<b.vof.tx) else if a.vof.key≠b.vof.key then decide (a.vof.key<b.vof.key) else decide (a.vof.nth<b.vof.nth)
theorem Zqo (a b:Zi1):decide (cmpL (ZjC a) (ZjC b)<0)=ZlZ a b:=by
 have hc:∀ x y:Int,x≠y→decide (Zb8 x y<0)=decide (x<y):=fun x y h=>by
  rw [Yak];unfold Zb8;split
  ·rename_i h1;simp [h1]
  ·rename_i h1;split <;> simp [h1]
 have hc0:∀ x y:Int,decide (cmpL [x] [y] < 0)=decide (x<y):=fun x y=>by
  unfold cmpL
  split
  ·rename_i h;subst h;simp [cmpL]
  ·rename_i h;exact hc x y h
 unfold ZlZ ZjC
 unfold cmpL
 by_cases h1:a.tx=b.tx
 ·rw [Ye h1,Yb (by simpa using h1)]
  unfold cmpL
  by_cases h2:a.place=b.place
  ·rw [Ye h2,Yb (by simpa using h2)]
   unfold cmpL
   by_cases h3:a.vof.tx=b.vof.tx
   ·rw [Ye h3,Yb (by simpa using h3)]
    unfold cmpL
    by_cases h4:a.vof.key=b.vof.key
    ·rw [Ye h4,Yb (by simpa using h4)]
     exact hc0 _ _
    ·rw [Yb h4,Ye h4];exact hc _ _ h4
   ·rw [Yb h3,Ye h3];exact hc _ _ h3
  ·rw [Yb h2,Ye h2];exact hc _ _ h2
 ·rw [Yb h1,Ye h1];exact hc _ _ h1
def Zc4 (ws:List Int) (j:Nat):Bool:=(Nn ws (j / 64)).toNat.testBit (j % 64)
def Zjd (ws:List Int) (j:Nat):List Int:=ws.set (j / 64) (((Nn ws (j / 64)).toNat ^^^ 2 ^ (j % 64):Nat):Int)
def Zt5 (n:Nat) (ws:List Int) (i:Int):Bool:=(decide (0≤i) && decide (i<n)) && Zc4 ws i.toNat
def Zt2 (n:Nat) (ws:List Int) (i:Int) (on:Bool):Bool:=(decide (0≤i) && decide (i<n)) && (Zt5 n ws i != on)
def setW (n:Nat) (ws:List Int) (i:Int) (on:Bool):List Int:=if Zt2 n ws i on then Zjd ws i.toNat else ws
structure Zew (n:Nat) (ws:List Int):Prop where
 hi:n≤65536
 len:ws.length=(n+63) / 64
 wd:∀ k,0≤Nn ws k∧Nn ws k<18446744073709551616
theorem Zew.at {n:Nat} {ws:List Int} (h:Zew n ws) (i:Int) (h0:0≤i) (h1:i<n):0≤i / 64∧i / 64<ws.length:=by have:=h.len;omega
theorem Zi5 {a b:Prop} [Decidable a] [Decidable b] (h:¬ (a∧b)):(decide a && decide b)=false:=by rw [← YbO];exact YF h
def Zs4 (m:Int):Nat:=(if m<0 then 0 else if m > 65536 then 65536 else m).toNat
theorem ZsC (m:Int):Zs4 m≤65536:=by unfold Zs4;split; (· omega);split <;> omega
def Zl3 (m:Int):List Int:=List.replicate ((Zs4 m+63) / 64) 0
theorem Zm0 (k j:Nat):Nn (List.replicate k (0:Int)) j=0:=by
 by_cases h:j<k
 ·rw [nth_eq (by simpa using h)];simp
 ·unfold Nn;rw [Yaw,YbB (by simp;omega)];rfl
theorem Zqm (m:Int):Zew (Zs4 m) (Zl3 m):=⟨ZsC m,by simp [Zl3],fun k=>by unfold Zl3;rw [Zm0];omega⟩
theorem ZiK (ws:List Int) (j:Nat):(Zjd ws j).length=ws.length:=by simp [Zjd]
theorem ZjZ {ws:List Int} {i j:Nat} {c:Int} (h:j<ws.length):Nn (ws.set i c) j=if i=j then c else Nn ws j:=by
 rw [nth_eq (by simpa using h),nth_eq h,YbK]
theorem Zi6 {ws:List Int} {j:Nat} (h:ws.length≤j):Nn ws j=0:=by unfold Nn;rw [Yaw,YbB h];rfl
theorem Zlk {x:Int} (h:0≤x∧x<18446744073709551616) (k:Nat) (hk:k<64):0≤(((x.toNat ^^^ 2 ^ k:Nat)):Int)∧(((x.toNat ^^^ 2 ^ k:Nat)):Int)<18446744073709551616:=by
 have h1:x.toNat<2 ^ 64:=by omega
 have h2:2 ^ k<2 ^ 64:=Nat.pow_lt_pow_right (by decide) hk
 have:=Nat.xor_lt_two_pow h1 h2
 omega
theorem Zew.flip {n:Nat} {ws:List Int} (h:Zew n ws) (j:Nat):Zew n (Zjd ws j):=by
 refine ⟨h.hi,by rw [ZiK];exact h.len,fun k=>?_⟩
 by_cases hk:k<ws.length
 ·unfold Zjd
  rw [ZjZ hk]
  split
  ·exact Zlk (h.wd _) _ (YbC _ (by decide))
  ·exact h.wd k
 ·rw [Zi6 (by rw [ZiK];omega)];omega
theorem Zew.setW {n:Nat} {ws:List Int} (h:Zew n ws) (i:Int) (on:Bool):Zew n (setW n ws i on):=by
 unfold Go.Proofs.YtlkpllemoepamaaGreat.setW
 split
 ·exact h.flip _
 ·exact h
def places (n:Nat) (ws:List Int):List Int:=((List.range n).filter fun j=>Zc4 ws j).map fun j:Nat=>(j:Int)
def ZsP (n:Nat) (ws:List Int):Prop:=∀ j,n≤j→Zc4 ws j=false
def Up (n:Nat) (x:List Int):Prop:=x.Pairwise (· < ·) ∧ ∀ i ∈ x,0≤i∧i<n
structure Zh6 (n:Nat) (ws:List Int) (x:List Int):Prop where
 ok:Zew n ws
 clean:ZsP n ws
 up:Up n x
 mem:∀ j:Nat,Zc4 ws j=true ↔ (j:Int) ∈ x
theorem Zh6.mk' {n:Nat} {ws x:List Int} (hok:Zew n ws) (hc:ZsP n ws) (hu:Up n x) (h:∀ j:Nat,j<n→(Zc4 ws j=true ↔ (j:Int) ∈ x)):Zh6 n ws x:=by
 refine ⟨hok,hc,hu,fun j=>?_⟩
 by_cases hj:j<n
 ·exact h j hj
 ·rw [hc j ow]
  constructor
  ·intro h;cases h
  ·intro hm;have:=hu.2 _ hm;omega
theorem Zh6.zero (m:Int):Zh6 (Zs4 m) (Zl3 m) []:=by
 have hz:∀ j,Zc4 (Zl3 m) j=false:=fun j=>by unfold Zc4 Zl3;rw [Zm0];simp
 exact ⟨Zqm m,fun j _=>hz j,⟨List.Pairwise.nil,by simp⟩,fun j=>by simp [hz j]⟩
def ZoO (i:Int):List Int→Bool→List Int
 | [],d=>if d then [] else [i]
 | x :: l,d=>(if d=false∧i≤x then [i] else [])++(if x=i then [] else [x])++ZoO i l (d || decide (i≤x))
def putL (l:List Int) (n i:Int) (on:Bool):List Int:=ZoO i l (!on || decide (i<0) || decide (n≤i))
theorem ZdP (i j:Int):∀ (l:List Int) (d:Bool),j ∈ ZoO i l d ↔ (j≠i∧j ∈ l)∨(j=i∧d=false)
 | [],d=>by cases d <;> simp [ZoO]
 | x :: l,d=>by
  rw [ZoO,Yy,Yy,ZdP i j l]
  by_cases h1:i≤x <;> cases d <;> by_cases h2:x=i <;> by_cases h3:j=i <;> simp_all
  all_goals (try omega)
theorem ZjA (i:Int):∀ (l:List Int) (d:Bool),l.Pairwise (· < ·)→(ZoO i l d).Pairwise (· < ·)
 | [],d,_=>by cases d <;> simp [ZoO]
 | x :: l,d,h=>by
  rw [Yr] at h
  have ih:=ZjA i l (d || decide (i≤x)) h.2
  rw [ZoO]
  by_cases h1:i≤x
  ·have hm:∀ j,j ∈ ZoO i l (d || decide (i≤x))→x<j∧j≠i:=by
    intro j hj
    rw [ZdP] at hj
    rcases hj with hj | hj
    ·exact ⟨h.1 j hj.2,hj.1⟩
    ·simp [h1] at hj
   generalize (d || decide (i≤x))=d' at hm ih ⊢
   cases d <;> by_cases h2:x=i
   ·subst h2
    simp only [Yam,and_self,Yq,Yai,YM,YaC,Yr]
    exact ⟨fun j hj=>(hm j hj).1,ih⟩
   ·simp only [h1,and_self,Yq,h2,Ym,YaC,Yax,Yai,Yr,Yl]
    refine ⟨?_,fun j hj=>(hm j hj).1,ih⟩
    rintro j (rfl | hj)
    ·omega
    ·have:=hm j hj;omega
   ·simp only [h2,Yq,YM,Bool.true_eq_false,false_and,Ym,Yai]
    subst h2;exact ih
   ·simp only [h2,Ym,Bool.true_eq_false,false_and,Yai,YaC,Yr]
    exact ⟨fun j hj=>(hm j hj).1,ih⟩
  ·have hm:∀ j,j ∈ ZoO i l (d || decide (i≤x))→x<j:=by
    intro j hj
    rw [ZdP] at hj
    rcases hj with hj | hj
    ·exact h.1 j hj.2
    ·omega
   generalize (d || decide (i≤x))=d' at hm ih ⊢
   have h2:¬ x=i:=by omega
   simp only [h1,and_false,Ym,h2,Yai,YaC,Yr]
   exact ⟨hm,ih⟩
theorem ZkD {l:List Int} {n i j:Int} {on:Bool} : j ∈ putL l n i on ↔ (j≠i∧j ∈ l)∨(j=i∧on=true∧0≤i∧i<n):=by
 unfold putL
 rw [ZdP]
 cases on <;> simp <;> omega
theorem Zr4 {n:Nat} {l:List Int} (h:Up n l) (i:Int) (on:Bool):Up n (putL l n i on):=by
 refine ⟨ZjA _ _ _ h.1,fun j hj=>?_⟩
 rw [ZkD] at hj
 rcases hj with hj | hj
 ·exact h.2 j hj.2
 ·omega
theorem Zkv {n:Nat} {ws:List Int} (hI:Zew n ws) (i:Int) (on:Bool) (j:Nat):Zc4 (setW n ws i on) j=if 0≤i∧i<n∧i=j then on else Zc4 ws j:=by
 unfold setW Zt2 Zt5
 by_cases hb:0≤i∧i<n
 ·rw [show (decide (0≤i) && decide (i<(n:Int)))=true by simp [hb],Ybb,Ybb]
  have hq:=hI.at i hb.1 hb.2
  have flip:∀ j,Zc4 (Zjd ws i.toNat) j=if i=j then !Zc4 ws j else Zc4 ws j:=by
   intro j
   unfold Zc4 Zjd
   by_cases hj:j / 64<ws.length
   ·rw [ZjZ hj]
    by_cases he:i.toNat / 64=j / 64
    ·rw [Ye he,Yd,Nat.testBit_xor,Nat.testBit_two_pow,he]
     by_cases e2:i=j
     ·subst e2;simp
     ·rw [Yb e2,show decide (i.toNat % 64=j % 64)=false by simp;omega,Bool.xor_false]
    ·rw [Yb he,Yb (fun e=>he ow)]
   ·rw [Zi6 (by rw [YU];omega),Zi6 ow,Yb (fun e=>hj ow)]
  by_cases h1:(Zc4 ws i.toNat != on)=true
  ·rw [Ye h1,flip j]
   by_cases e:i=j
   ·rw [Ye e,Ye ⟨hb.1,hb.2,e⟩]
    subst e
    rw [Yd] at h1
    cases hx:Zc4 ws j <;> rw [hx] at h1 <;> cases on <;> simp_all
   ·rw [Yb e,Yb (fun h=>e h.2.2)]
  ·rw [Yb h1]
   by_cases e:i=j
   ·rw [Ye ⟨hb.1,hb.2,e⟩]
    subst e
    rw [Yd] at h1
    cases hx:Zc4 ws j <;> rw [hx] at h1 <;> cases on <;> simp_all
   ·rw [Yb (fun h=>e h.2.2)]
 ·rw [Zi5 hb,Bool.false_and,Yb (by simp),Yb (fun h=>hb ⟨h.1,h.2.1⟩)]
theorem Zh6.set {n:Nat} {ws x:List Int} (h:Zh6 n ws x) (i:Int) (on:Bool):Zh6 n (setW n ws i on) (putL x n i on):=by
 refine Zh6.mk' (h.ok.setW i on) (fun j hj=>?_) (Zr4 h.up i on) (fun j hj=>?_)
 ·rw [Zkv h.ok,Yb ow,h.clean j hj]
 ·rw [Zkv h.ok,ZkD]
  have:=h.mem j
  by_cases e:0≤i∧i<n∧i=j
  ·rw [Ye e]
   constructor
   ·intro ho;exact .inr ⟨e.2.2.symm,ho,e.1,e.2.1⟩
   ·rintro (⟨h1,_⟩ | ⟨_,h2,_⟩)
    ·exact absurd e.2.2.symm h1
    ·exact h2
  ·rw [Yb e,this]
   constructor
   ·intro hm
    refine .inl ⟨fun e'=>e ?_,hm⟩
    omega
   ·rintro (⟨_,h2⟩ | ⟨h1,_,h3,h4⟩)
    ·exact h2
    ·exact absurd ⟨h3,h4,h1.symm⟩ e
inductive Rch (E:Int→Int→Prop) (u:Int):Int→Prop
 | one {v:Int} (h:E u v):Rch E u v
 | step {v w:Int} (h:Rch E u v) (k:E v w):Rch E u w
theorem Rch.trans {E:Int→Int→Prop} {u v w:Int} (h:Rch E u v) (k:Rch E v w):Rch E u w:=by
 induction k with
 | one k=>exact .step h k
 | step _ k ih=>exact .step ih k
def EJ (adj:Int→List Int) (x y:Int):Prop:=y ∈ adj x
def Zi2 (f:Int→Int) (x c:Int):Int→Int:=fun y=>if y=x then c else f y
theorem Z9 {f:Int→Int} {x c:Int} : Zi2 f x c x=c:=Ye rfl
theorem ZaS {f:Int→Int} {x c y:Int} (h:y≠x):Zi2 f x c y=f y:=Yb h
def ZcI (wh:Int→Int) (st:List Int) (d:Int):Prop:=wh d≠0∧d ∉ st
def Znd (adj:Int→List Int) (u x:Int):Prop:=x=u∨(Rch (EJ adj) u x∧Rch (EJ adj) x u)
def ZmJ (adj:Int→List Int) (u m:Int):Prop:=Znd adj u m ∧ ∀ x,Znd adj u x→m≤x
abbrev Zoq:Type:=List (Int×List Int)
def NxT (wh:Int→Int) (way:Zoq) (v y:Int):Prop:=(∃ q ∈ way,q.1=y)∧wh v<wh y ∧ ∀ p ∈ way,¬ (wh v<wh p.1∧wh p.1<wh y)
structure Tj (adj:Int→List Int) (wh lo out:Int→Int) (ck:Int) (st:List Int) (way:Zoq):Prop where
 pos:∀ u ∈ st,0<wh u
 dec:st.Pairwise fun a b=>wh b<wh a
 vis:∀ u,0≤wh u∧wh u≤ck
 low:∀ u ∈ st,lo u≤wh u ∧ ∃ w ∈ st,wh w=lo u∧(w=u∨Rch (EJ adj) u w)
 fin:∀ u ∈ st,(∀ p ∈ way,p.1≠u)→lo u<wh u ∧ ∀ y ∈ adj u,ZcI wh st y∨(y ∈ st∧lo u≤wh y)
 done:∀ d,ZcI wh st d→(∀ y ∈ adj d,ZcI wh st y)∧ZmJ adj d (out d)
 onst:∀ r ∈ way,r.1 ∈ st
 sub:∀ r ∈ way,∀ y ∈ r.2,y ∈ adj r.1
 wdec:way.Pairwise fun a b=>wh b.1<wh a.1
 arcs:∀ r ∈ way,∀ y ∈ adj r.1,y ∉ r.2→ZcI wh st y∨(y ∈ st∧lo r.1≤wh y)∨NxT wh way r.1 y
 lows:∀ r ∈ way,∀ u ∈ st,(∀ p ∈ way,p.1≠u)→wh r.1<wh u→(∀ p ∈ way,¬ (wh r.1<wh p.1∧wh p.1<wh u))→lo r.1≤lo u
 reach:∀ r ∈ way,∀ u ∈ st,wh r.1≤wh u→u=r.1∨Rch (EJ adj) r.1 u
 root:∀ u ∈ st,∃ r,way.getLast? = some r∧wh r.1≤wh u
section
variable {adj:Int→List Int} {wh lo out:Int→Int} {ck:Int} {st:List Int} {rest:Zoq} {v x:Int} {next:List Int}
theorem Zmx (h:st.Pairwise fun a b=>wh b<wh a) {a b:Int} (ha:a ∈ st) (hb:b ∈ st) (e:wh a=wh b):a=b:=by
 induction st with
 | nil=>cases ha
 | cons x l ih=>
  rw [Yr] at h
  rcases Yl.1 ha with e1 | ha2 <;> rcases Yl.1 hb with e2 | hb2
  ·rw [e1,e2]
  ·have:=h.1 b hb2;rw [e1] at e;omega
  ·have:=h.1 a ha2;rw [e2] at e;omega
  ·exact ih h.2 ha2 hb2
theorem Tj.zero:Tj adj (fun _=>0) lo out 0 [] []:=
 ⟨by simp,.nil,fun _=>⟨Yam _,Yam _⟩,by simp,by simp,fun d h=>absurd rfl h.1,by simp,by simp,.nil,by simp,by simp,by simp,by simp⟩
theorem Tj.first (h:Tj adj wh lo out ck [] []) (hx:wh x=0):Tj adj (Zi2 wh x (ck+1)) (Zi2 lo x (ck+1)) out (ck+1) [x] [(x,adj x)]:=by
 have hck:=(h.vis x).2
 have hd:∀ y,ZcI (Zi2 wh x (ck+1)) [x] y ↔ ZcI wh [] y:=fun y=>by
  unfold ZcI
  by_cases e:y=x
  ·subst e;simp [hx]
  ·rw [ZaS e];simp [e]
 have v0:=h.vis x
 refine ⟨fun u hu=>?_,by simp,fun u=>?_,fun u hu=>?_,fun u hu hp=>?_,fun d hdd=>?_,fun r hr=>?_,fun r hr y hy=>?_,by simp,fun r hr y hy hn=>?_,fun r hr u hu hp=>?_,fun r hr u hu _=>?_,fun u hu=>?_⟩
 ·obtain rfl:=Yi.1 hu;rw [Z9];omega
 ·by_cases e:u=x
  ·rw [e,Z9];omega
  ·rw [ZaS e];have:=h.vis u;omega
 ·obtain rfl:=Yi.1 hu;exact ⟨by rw [Z9,Z9];exact Yam _,u,by simp,by rw [Z9,Z9],.inl rfl⟩
 ·obtain rfl:=Yi.1 hu;exact absurd rfl (hp (u,adj u) (by simp))
 ·obtain ⟨h1,h2⟩:=h.done d ((hd d).1 hdd)
  exact ⟨fun y hy=>(hd y).2 (h1 y hy),h2⟩
 ·obtain rfl:=Yi.1 hr;simp
 ·obtain rfl:=Yi.1 hr;exact hy
 ·obtain rfl:=Yi.1 hr;exact absurd hy hn
 ·obtain rfl:=Yi.1 hr;obtain rfl:=Yi.1 hu;exact absurd rfl (hp (u,adj u) (by simp))
 ·obtain rfl:=Yi.1 hr;obtain rfl:=Yi.1 hu;exact .inl rfl
 ·obtain rfl:=Yi.1 hu;exact ⟨(u,adj u),rfl,Yam _⟩
theorem Tj.top (h:Tj adj wh lo out ck st ((v,next) :: rest)):(∀ r ∈ rest,wh r.1<wh v) ∧ ∀ p ∈ (v,next) :: rest,wh p.1≤wh v:=by
 have h1:=(Yr.1 h.wdec).1
 refine ⟨h1,fun p hp=>?_⟩
 rcases Yl.1 hp with rfl | hp
 ·exact Yam _
 ·exact YbT (h1 p hp)
theorem Tj.pass {c:Int} (h:Tj adj wh lo out ck st ((v,x :: next) :: rest)) (hc:(ZcI wh st x∧c=lo v)∨(x ∈ st∧c=min (lo v) (wh x))):Tj adj wh (Zi2 lo v c) out ck st ((v,next) :: rest):=by
 have hvs:v ∈ st:=h.onst (v,x :: next) (by simp)
 have hxv:x ∈ adj v:=h.sub (v,x :: next) (by simp) x (by simp)
 obtain ⟨ht1,ht2⟩:=h.top
 have hcl:c≤lo v:=by rcases hc with ⟨_,h1⟩ | ⟨_,h1⟩ <;> omega
 have hfs:∀ p ∈ (v,next) :: rest,∃ q ∈ (v,x :: next) :: rest,q.1=p.1:=fun p hp=>by
  rcases Yl.1 hp with rfl | hp
  ·exact ⟨_,Ya8,rfl⟩
  ·exact ⟨p,by simp [hp],rfl⟩
 have hfs2:∀ p ∈ (v,x :: next) :: rest,∃ q ∈ (v,next) :: rest,q.1=p.1:=fun p hp=>by
  rcases Yl.1 hp with rfl | hp
  ·exact ⟨_,Ya8,rfl⟩
  ·exact ⟨p,by simp [hp],rfl⟩
 have hnx:∀ a y,NxT wh ((v,x :: next) :: rest) a y→NxT wh ((v,next) :: rest) a y:=fun a y ⟨⟨q,hq,e⟩,h2,h3⟩=>by
  obtain ⟨q',hq',e'⟩:=hfs2 q hq
  refine ⟨⟨q',hq',e'.trans e⟩,h2,fun p hp=>?_⟩
  obtain ⟨p',hp',e2⟩:=hfs p hp
  rw [← e2];exact h3 p' hp'
 have hrv:∀ r ∈ rest,r.1≠v:=fun r hr e=>by have:=ht1 r hr;rw [e] at this;omega
 refine ⟨h.pos,h.dec,h.vis,fun u hu=>?_,fun u hu hp=>?_,h.done,fun r hr=>?_,fun r hr y hy=>?_,Yr.2 (Yr.1 h.wdec),fun r hr y hy hn=>?_,fun r hr u hu hp hlt hb=>?_,fun r hr u hu hle=>?_,fun u hu=>?_⟩
 ·by_cases e:u=v
  ·subst e
   rw [Z9]
   obtain ⟨h1,w,hws,h2,h3⟩:=h.low u hu
   refine ⟨by omega,?_⟩
   rcases hc with ⟨_,h4⟩ | ⟨h5,h4⟩
   ·exact ⟨w,hws,by omega,h3⟩
   ·by_cases h6:lo u≤wh x
    ·exact ⟨w,hws,by omega,h3⟩
    ·exact ⟨x,h5,by omega,.inr (.one hxv)⟩
  ·rw [ZaS e];exact h.low u hu
 ·have huv:u≠v:=fun e=>hp (v,next) (by simp) e.symm
  rw [ZaS huv]
  exact h.fin u hu fun p hp2=>by
   obtain ⟨q,hq,e⟩:=hfs2 p hp2
   rw [← e];exact hp q hq
 ·obtain ⟨q,hq,e⟩:=hfs r hr
  rw [← e];exact h.onst q hq
 ·rcases Yl.1 hr with rfl | hr
  ·exact h.sub (v,x :: next) (by simp) y (by simp at hy ⊢;exact .inr hy)
  ·exact h.sub r (by simp [hr]) y hy
 ·rcases Yl.1 hr with rfl | hr
  ·show ZcI wh st y∨(y ∈ st∧Zi2 lo v c v≤wh y)∨_
   rw [Z9]
   by_cases e:y=x
   ·subst e
    rcases hc with ⟨h1,_⟩ | ⟨h1,h2⟩
    ·exact .inl h1
    ·exact .inr (.inl ⟨h1,by omega⟩)
   ·rcases h.arcs (v,x :: next) (by simp) y hy (by simp at hn ⊢;exact ⟨e,hn⟩) with h1 | ⟨h1,h2⟩ | h3
    ·exact .inl h1
    ·have h2:lo v≤wh y:=h2
     exact .inr (.inl ⟨h1,by omega⟩)
    ·exact .inr (.inr (hnx _ _ h3))
  ·rw [ZaS (hrv r hr)]
   rcases h.arcs r (by simp [hr]) y hy hn with h1 | h1 | h3
   ·exact .inl h1
   ·exact .inr (.inl h1)
   ·exact .inr (.inr (hnx _ _ h3))
 ·have huv:u≠v:=fun e=>hp (v,next) (by simp) e.symm
  rw [ZaS huv]
  obtain ⟨r',hr',e⟩:=hfs r hr
  have h9:=h.lows r' hr' u hu (fun p hp2=>by
   obtain ⟨q,hq,e3⟩:=hfs2 p hp2
   rw [← e3];exact hp q hq) (by rw [e];exact hlt) fun p hp2=>by
   obtain ⟨q,hq,e3⟩:=hfs2 p hp2
   have:=hb q hq
   rwa [e3,← e] at this
  rw [e] at h9
  by_cases e2:r.1=v
  ·rw [e2] at h9 ⊢;rw [Z9];omega
  ·rw [ZaS e2];exact h9
 ·obtain ⟨r',hr',e⟩:=hfs r hr
  rw [← e] at hle ⊢
  exact h.reach r' hr' u hu hle
 ·obtain ⟨r,h1,h2⟩:=h.root u hu
  cases rest with
  | nil=>simp at h1;exact ⟨(v,next),rfl,by rw [← h1] at h2;exact h2⟩
  | cons y l=>simp at h1;exact ⟨r,by simp [h1],h2⟩
theorem Tj.above {u0:Int} {nx:List Int} (h:Tj adj wh lo out ck st ((v,next) :: (u0,nx) :: rest)):wh u0<wh v∧(∀ r ∈ rest,wh r.1<wh u0):=by
 have h1:=Yr.1 h.wdec
 exact ⟨h1.1 (u0,nx) (by simp),(Yr.1 h1.2).1⟩
theorem Tj.stay {u0:Int} {nx:List Int} (h:Tj adj wh lo out ck st ((v,[]) :: (u0,nx) :: rest)) (hlo:lo v≠wh v):Tj adj wh (Zi2 lo u0 (min (lo u0) (lo v))) out ck st ((u0,nx) :: rest):=by
 obtain ⟨a1,a2⟩:=h.above
 obtain ⟨ht1,ht2⟩:=h.top
 have hvs:v ∈ st:=h.onst (v,[]) (by simp)
 have hus:u0 ∈ st:=h.onst (u0,nx) (by simp)
 have hvu:v≠u0:=fun e=>by rw [e] at a1;omega
 have hr0:∀ r ∈ rest,r.1≠u0:=fun r hr e=>by have:=a2 r hr;rw [e] at this;omega
 have hlv:=h.low v hvs
 refine ⟨h.pos,h.dec,h.vis,fun u hu=>?_,fun u hu hp=>?_,h.done,fun r hr=>h.onst r (YE _ hr),fun r hr=>h.sub r (YE _ hr),(Yr.1 h.wdec).2,fun r hr y hy hn=>?_,fun r hr u hu hp hlt hb=>?_,fun r hr=>h.reach r (YE _ hr),fun u hu=>?_⟩
 ·by_cases e:u=u0
  ·subst e
   rw [Z9]
   obtain ⟨h1,w,hws,h2,h3⟩:=h.low u hu
   refine ⟨by omega,?_⟩
   by_cases h4:lo u≤lo v
   ·exact ⟨w,hws,by omega,h3⟩
   ·obtain ⟨h5,w2,hw2,h6,h7⟩:=hlv
    refine ⟨w2,hw2,by omega,.inr ?_⟩
    have h8:=(h.reach (u,nx) (by simp) v hvs (YbT a1)).resolve_left hvu
    rcases h7 with rfl | h7
    ·exact h8
    ·exact h8.trans h7
  ·rw [ZaS e];exact h.low u hu
 ·have hu0:u≠u0:=fun e=>hp (u0,nx) (by simp) e.symm
  rw [ZaS hu0]
  by_cases e:u=v
  ·subst e
   refine ⟨by have:=hlv.1;omega,fun y hy=>?_⟩
   rcases h.arcs (u,[]) (by simp) y hy (by simp) with h1 | h1 | ⟨⟨q,hq,e2⟩,h2,_⟩
   ·exact .inl h1
   ·exact .inr h1
   ·have:=ht2 q hq
    rw [e2] at this
    have h2:wh u<wh y:=h2
    omega
  ·refine h.fin u hu fun p hp2=>?_
   rcases Yl.1 hp2 with rfl | hp2
   ·exact fun e2=>e e2.symm
   ·exact hp p hp2
 ·rcases Yl.1 hr with rfl | hr2
  ·show ZcI wh st y∨(y ∈ st∧Zi2 lo u0 _ u0≤wh y)∨_
   rw [Z9]
   rcases h.arcs (u0,nx) (by simp) y hy hn with h1 | ⟨h1,h2⟩ | ⟨⟨q,hq,e2⟩,h2,h3⟩
   ·exact .inl h1
   ·have h2:lo u0≤wh y:=h2
    exact .inr (.inl ⟨h1,by omega⟩)
   ·have h2:wh u0<wh y:=h2
    have h4:¬ (wh u0<wh v∧wh v<wh y):=h3 (v,[]) (by simp)
    have hy2:y=v:=by
     rcases Yl.1 hq with rfl | hq
     ·exact e2.symm
     ·rcases Yl.1 hq with rfl | hq
      ·have e2:u0=y:=e2
       rw [← e2] at h2;omega
      ·have:=a2 q hq
       rw [e2] at this;omega
    subst hy2
    exact .inr (.inl ⟨hvs,by have:=hlv.1;omega⟩)
  ·rw [ZaS (hr0 r hr2)]
   rcases h.arcs r (by simp [hr2]) y hy hn with h1 | h1 | ⟨⟨q,hq,e2⟩,h2,h3⟩
   ·exact .inl h1
   ·exact .inr (.inl h1)
   ·refine .inr (.inr ⟨?_,h2,fun p hp=>h3 p (YE _ hp)⟩)
    rcases Yl.1 hq with rfl | hq
    ·have e2:v=y:=e2
     have h4:¬ (wh r.1<wh u0∧wh u0<wh y):=h3 (u0,nx) (by simp)
     exact absurd ⟨a2 r hr2,by rw [← e2];exact a1⟩ h4
    ·exact ⟨q,hq,e2⟩
 ·have hu0:u≠u0:=fun e=>hp (u0,nx) (by simp) e.symm
  rw [ZaS hu0]
  rcases Yl.1 hr with rfl | hr2
  ·show Zi2 lo u0 _ u0≤lo u
   rw [Z9]
   by_cases e:u=v
   ·subst e;omega
   ·have hp2:∀ p ∈ (v,[]) :: (u0,nx) :: rest,p.1≠u:=fun p hp3=>by
     rcases Yl.1 hp3 with rfl | hp3
     ·exact fun e2=>e e2.symm
     ·exact hp p hp3
    rcases Int.lt_or_le (wh u) (wh v) with h1 | h1
    ·have:=h.lows (u0,nx) (by simp) u hu hp2 hlt fun p hp3=>by
      rcases Yl.1 hp3 with rfl | hp3
      ·exact fun h9=>by have h9:wh v<wh u:=h9.2;omega
      ·exact hb p hp3
     have this:lo u0≤lo u:=this
     omega
    ·have h2:wh v<wh u:=by
      rcases Int.lt_or_eq_of_le h1 with h2 | h2
      ·exact h2
      ·exact absurd (Zmx h.dec hu hvs h2.symm) e
     have:=h.lows (v,[]) (by simp) u hu hp2 h2 fun p hp3 h9=>by
      have h10:=ht2 p hp3
      have h9:wh v<wh p.1:=h9.1
      omega
     have this:lo v≤lo u:=this
     omega
  ·rw [ZaS (hr0 r hr2)]
   have h1:wh u<wh u0:=by
    have h2:¬ (wh r.1<wh u0∧wh u0<wh u):=hb (u0,nx) (by simp)
    have h3:=a2 r hr2
    rcases Int.lt_or_le (wh u) (wh u0) with h4 | h4
    ·exact h4
    ·have h5:wh u=wh u0:=by omega
     exact absurd (Zmx h.dec hu hus h5) hu0
   refine h.lows r (by simp [hr2]) u hu (fun p hp3=>?_) hlt fun p hp3=>?_
   ·rcases Yl.1 hp3 with rfl | hp3
    ·exact fun e2=>by have e2:v=u:=e2;rw [e2] at a1;omega
    ·exact hp p hp3
   ·rcases Yl.1 hp3 with rfl | hp3
    ·exact fun h9=>by have h9:wh v<wh u:=h9.2;omega
    ·exact hb p hp3
 ·obtain ⟨r,h1,h2⟩:=h.root u hu
  exact ⟨r,by simpa using h1,h2⟩
theorem Tj.part {A B:List Int} {m:Int} (h:Tj adj wh lo out ck (A++v :: B) ((v,[]) :: rest)) (hlo:lo v=wh v) (hm:m ∈ A ++ [v]) (hmin:∀ x ∈ A ++ [v],m≤x) :
  Tj adj wh lo (fun u=>if u ∈ A ++ [v] then m else out u) ck B rest:=by
 obtain ⟨ht1,ht2⟩:=h.top
 have hdec:=YaT.1 h.dec
 have hdB:=Yr.1 hdec.2.1
 have hP:∀ u ∈ A ++ [v],wh v≤wh u∧u ∈ A++v :: B:=fun u hu=>by
  rcases Yy.1 hu with h1 | h1
  ·exact ⟨YbT (hdec.2.2 u h1 v (by simp)),by simp [h1]⟩
  ·obtain rfl:=Yi.1 h1
   exact ⟨Yam _,by simp⟩
 have Z:∀ u ∈ B,wh u<wh v∧u ∈ A++v :: B:=fun u hu=>⟨hdB.1 u hu,by simp [hu]⟩
 have hsplit:∀ u ∈ A++v :: B,u ∈ A ++ [v]∨u ∈ B:=fun u hu=>by
  rcases Yy.1 hu with h1 | h1
  ·exact .inl (Yy.2 (.inl h1))
  ·rcases Yl.1 h1 with h1 | h1
   ·exact .inl (by simp [h1])
   ·exact .inr h1
 have hvs:v ∈ A++v :: B:=by simp
 have hPt:∀ u ∈ A ++ [v],u≠v → ∀ p ∈ (v,[]) :: rest,p.1≠u:=fun u hu hne p hp e=>by
  rcases Yl.1 hp with rfl | hp
  ·exact hne e.symm
  ·have h1:=ht1 p hp
   rw [e] at h1
   have:=(hP u hu).1
   omega
 have hno:∀ u ∈ A ++ [v],wh v<wh u → ∀ p ∈ (v,[]) :: rest,¬ (wh v<wh p.1∧wh p.1<wh u):=fun u hu _ p hp h9=>by
  have:=ht2 p hp
  omega
 have hlow:∀ u ∈ A ++ [v],wh v≤lo u:=fun u hu=>by
  by_cases e:u=v
  ·rw [e,hlo];exact Yam _
  ·have h1:wh v<wh u:=by
    rcases Int.lt_or_eq_of_le (hP u hu).1 with h1 | h1
    ·exact h1
    ·exact absurd (Zmx h.dec (hP u hu).2 hvs h1.symm) e
   have:=h.lows (v,[]) (by simp) u (hP u hu).2 (hPt u hu e) h1 (hno u hu h1)
   rw [← hlo];exact this
 have hback:∀ (k:Nat) (u:Int),u ∈ A ++ [v]→(wh u).toNat=k→u=v∨Rch (EJ adj) u v:=by
  intro k
  induction k using Nat.strongRecOn with
  | _ k ih=>
   intro u hu hk
   by_cases e:u=v
   ·exact .inl e
   ·refine .inr ?_
    have h1:=(h.fin u (hP u hu).2 (hPt u hu e)).1
    obtain ⟨_,w,hws,h2,h3⟩:=h.low u (hP u hu).2
    have h4:=hlow u hu
    have hwP:w ∈ A ++ [v]:=(hsplit w hws).resolve_right fun h9=>by have:=(Z w h9).1;omega
    have h5:Rch (EJ adj) u w:=h3.resolve_left fun e2=>by rw [e2] at h2;omega
    have h6:=h.pos w hws
    rcases ih (wh w).toNat ow w hwP rfl with h7 | h7
    ·rw [← h7];exact h5
    ·exact h5.trans h7
 have hfwd:∀ u ∈ A ++ [v],u=v∨Rch (EJ adj) v u:=fun u hu=>h.reach (v,[]) (by simp) u (hP u hu).2 (hP u hu).1
 have hcl:∀ u ∈ A ++ [v],∀ y ∈ adj u,ZcI wh (A++v :: B) y∨y ∈ A ++ [v]:=fun u hu y hy=>by
  have key:ZcI wh (A++v :: B) y∨(y ∈ A++v :: B∧wh v≤wh y):=by
   by_cases e:u=v
   ·rw [e] at hy
    rcases h.arcs (v,[]) (by simp) y hy (by simp) with h1 | ⟨h1,h2⟩ | ⟨⟨q,hq,e2⟩,h2,_⟩
    ·exact .inl h1
    ·exact .inr ⟨h1,by have h2:lo v≤wh y:=h2;omega⟩
    ·have h3:=ht2 q hq
     rw [e2] at h3
     have h2:wh v<wh y:=h2
     omega
   ·rcases (h.fin u (hP u hu).2 (hPt u hu e)).2 y hy with h1 | ⟨h1,h2⟩
    ·exact .inl h1
    ·exact .inr ⟨h1,by have:=hlow u hu;omega⟩
  rcases key with h1 | ⟨h1,h2⟩
  ·exact .inl h1
  ·exact .inr ((hsplit y h1).resolve_right fun h9=>by have:=(Z y h9).1;omega)
 have hdr:∀ {d y:Int},ZcI wh (A++v :: B) d→Rch (EJ adj) d y→ZcI wh (A++v :: B) y:=fun {d y} hd hr=>by
  induction hr with
  | one k=>exact (h.done _ hd).1 _ k
  | step _ k ih=>exact (h.done _ ih).1 _ k
 have hCr:∀ {u y:Int},u ∈ A ++ [v]→Rch (EJ adj) u y→ZcI wh (A++v :: B) y∨y ∈ A ++ [v]:=fun {u y} hu hr=>by
  induction hr with
  | one k=>exact hcl _ hu _ k
  | step _ k ih=>
   rcases ih with h1 | h1
   ·exact .inl ((h.done _ h1).1 _ k)
   ·exact hcl _ h1 _ k
 have hmut:∀ u ∈ A ++ [v],∀ x,Znd adj u x ↔ x ∈ A ++ [v]:=fun u hu x=>by
  constructor
  ·rintro (rfl | ⟨h1,h2⟩)
   ·exact hu
   ·rcases hCr hu h1 with h3 | h3
    ·exact absurd (hP u hu).2 (hdr h3 h2).2
    ·exact h3
  ·intro hx
   by_cases e:x=u
   ·exact .inl e
   ·refine .inr ?_
    have key:∀ a ∈ A ++ [v],∀ b ∈ A ++ [v],b≠a→Rch (EJ adj) a b:=fun a ha b hb hne=>by
     rcases hback _ a ha rfl with h1 | h1 <;> rcases hfwd b hb with h2 | h2
     ·exact absurd (h2.trans h1.symm) hne
     ·rw [h1];exact h2
     ·rw [h2];exact h1
     ·exact h1.trans h2
    exact ⟨key u hu x hx e,key x hx u hu fun e2=>e e2.symm⟩
 have hlab:∀ u ∈ A ++ [v],ZmJ adj u m:=fun u hu=>⟨(hmut u hu m).2 hm,fun x hx=>hmin x ((hmut u hu x).1 hx)⟩
 have hdn:∀ d,ZcI wh B d ↔ ZcI wh (A++v :: B) d∨d ∈ A ++ [v]:=fun d=>by
  constructor
  ·rintro ⟨h1,h2⟩
   by_cases h3:d ∈ A++v :: B
   ·exact .inr ((hsplit d h3).resolve_right h2)
   ·exact .inl ⟨h1,h3⟩
  ·rintro (⟨h1,h2⟩ | h1)
   ·exact ⟨h1,fun h3=>h2 (Z d h3).2⟩
   ·refine ⟨by have:=h.pos d (hP d h1).2;omega,fun h3=>?_⟩
    have:=(Z d h3).1
    have:=(hP d h1).1
    omega
 have hrB:∀ r ∈ rest,r.1 ∈ B:=fun r hr=>(hsplit r.1 (h.onst r (by simp [hr]))).resolve_left fun h9=>by
  have:=(hP _ h9).1
  have:=ht1 r hr
  omega
 refine ⟨fun u hu=>h.pos u (Z u hu).2,hdB.2,h.vis,fun u hu=>?_,fun u hu hp=>?_,fun d hd=>?_,hrB,fun r hr=>h.sub r (YE _ hr),(Yr.1 h.wdec).2,fun r hr y hy hn=>?_,fun r hr u hu hp hlt hb=>?_,fun r hr u hu hle=>h.reach r (YE _ hr) u (Z u hu).2 hle,fun u hu=>?_⟩
 ·obtain ⟨h1,w,hws,h2,h3⟩:=h.low u (Z u hu).2
  refine ⟨h1,w,(hsplit w hws).resolve_left fun h9=>?_,h2,h3⟩
  have:=(hP w h9).1
  have:=(Z u hu).1
  omega
 ·have huv:u≠v:=fun e=>by have:=(Z u hu).1;rw [e] at this;omega
  obtain ⟨h1,h2⟩:=h.fin u (Z u hu).2 fun p hp2=>by
   rcases Yl.1 hp2 with rfl | hp2
   ·exact fun e=>huv e.symm
   ·exact hp p hp2
  refine ⟨h1,fun y hy=>?_⟩
  rcases h2 y hy with h3 | ⟨h3,h4⟩
  ·exact .inl ((hdn y).2 (.inl h3))
  ·rcases hsplit y h3 with h5 | h5
   ·exact .inl ((hdn y).2 (.inr h5))
   ·exact .inr ⟨h5,h4⟩
 ·rcases (hdn d).1 hd with h1 | h1
  ·have hnp:d ∉ A ++ [v]:=fun h9=>h1.2 (hP d h9).2
   obtain ⟨h2,h3⟩:=h.done d h1
   refine ⟨fun y hy=>(hdn y).2 (.inl (h2 y hy)),?_⟩
   show ZmJ adj d (if d ∈ A ++ [v] then m else out d)
   rw [Yb hnp];exact h3
  ·refine ⟨fun y hy=>(hdn y).2 (hcl d h1 y hy),?_⟩
   show ZmJ adj d (if d ∈ A ++ [v] then m else out d)
   rw [Ye h1];exact hlab d h1
 ·rcases h.arcs r (by simp [hr]) y hy hn with h1 | ⟨h1,h2⟩ | ⟨⟨q,hq,e2⟩,h2,h3⟩
  ·exact .inl ((hdn y).2 (.inl h1))
  ·rcases hsplit y h1 with h5 | h5
   ·exact .inl ((hdn y).2 (.inr h5))
   ·exact .inr (.inl ⟨h5,h2⟩)
  ·rcases Yl.1 hq with rfl | hq
   ·have e2:v=y:=e2
    exact .inl ((hdn y).2 (.inr (by rw [← e2];simp)))
   ·exact .inr (.inr ⟨⟨q,hq,e2⟩,h2,fun p hp=>h3 p (YE _ hp)⟩)
 ·refine h.lows r (by simp [hr]) u (Z u hu).2 (fun p hp2=>?_) hlt fun p hp2=>?_
  ·rcases Yl.1 hp2 with rfl | hp2
   ·exact fun e=>by have e:v=u:=e;have:=(Z u hu).1;rw [e] at this;omega
   ·exact hp p hp2
  ·rcases Yl.1 hp2 with rfl | hp2
   ·exact fun h9=>by have h9:wh v<wh u:=h9.2;have:=(Z u hu).1;omega
   ·exact hb p hp2
 ·obtain ⟨r,h1,h2⟩:=h.root u (Z u hu).2
  cases rest with
  | nil=>simp at h1;rw [← h1] at h2;have:=(Z u hu).1;have h2:wh v≤wh u:=h2;omega
  | cons y l=>exact ⟨r,by simpa using h1,h2⟩
end
structure Zea where
 wh:List Int
 lo:List Int
 wait:List Int
 inn:List Int
 ck:Int
 out:List Int
def fI (l:List Int):Int→Int:=fun x=>if 0≤x then Nn l x.toNat else 0
theorem Zcr {l:List Int} {x:Int} (h:0≤x):fI l x=Nn l x.toNat:=Ye h
theorem Zck {l:List Int} {i j:Nat} {c:Int} (hi:i<l.length):Nn (l.set i c) j=if j=i then c else Nn l j:=by
 by_cases hj:j<l.length
 ·rw [nth_eq (by simpa using hj),YbK,nth_eq hj]
  by_cases e:j=i
  ·rw [Ye e,Ye e.symm]
  ·rw [Yb e,Yb fun h=>e h.symm]
 ·rw [Yb ow]
  have e1:∀ (m:List Int),m.length≤j→Nn m j=(default:Int):=fun m hm=>by
   unfold Nn
   simp [Yaw,hm]
  rw [e1 _ (by simp;omega),e1 _ ow]
theorem Zdw {l:List Int} {x c:Int} (h:0≤x∧x<l.length):fI (l.set x.toNat c)=Zi2 (fI l) x c:=by
 funext y
 show (if 0≤y then Nn (l.set x.toNat c) y.toNat else 0)=if y=x then c else (if 0≤y then Nn l y.toNat else 0)
 by_cases hy:0≤y
 ·rw [Ye hy,Ye hy,Zck ow]
  by_cases e:y=x
  ·rw [Ye e,Ye (by rw [e])]
  ·rw [Yb e,Yb ow]
 ·rw [Yb hy,Yb hy,Yb ow]
def Zmj (n:Nat) (wh:List Int):List Nat:=(List.range n).filter fun i=>decide (Nn wh i=0)
def muW (way:Zoq):Nat:=(way.map fun r=>r.2.length+1).sum
def muU (n:Nat) (adj:Int→List Int) (wh:List Int):Nat:=((Zmj n wh).map fun i:Nat=>(adj (i:Int)).length+2).sum
structure TI (n:Nat) (adj:Int→List Int) (s:Zea) (way:Zoq):Prop where
 tj:Tj adj (fI s.wh) (fI s.lo) (fI s.out) s.ck s.wait.reverse way.reverse
 lw:s.wh.length=n
 ll:s.lo.length=n
 lout:s.out.length=n
 rng:∀ u ∈ s.wait,0≤u∧u<n
 up:Up n s.inn
 mem:∀ u,u ∈ s.inn ↔ u ∈ s.wait
 cnt:s.ck+(Zmj n s.wh).length=n
def Ze8 (n:Nat) (s:Zea) (x:Int):Zea:=⟨s.wh.set x.toNat (s.ck+1),s.lo.set x.toNat (s.ck+1),s.wait ++ [x],putL s.inn n x true,s.ck+1,s.out⟩
theorem Zk3 {n:Nat} {wh:List Int} {x c:Int} (hl:wh.length=n) (hx:0≤x∧x<n) (h0:Nn wh x.toNat=0) (hc:c≠0) (f:Nat→Nat) :
  ((Zmj n (wh.set x.toNat c)).map f).sum+f x.toNat=((Zmj n wh).map f).sum:=by
 have hlt:x.toNat<n:=by omega
 have e:Zmj n (wh.set x.toNat c)=(Zmj n wh).erase x.toNat:=by
  have hn:(Zmj n wh).Nodup:=(List.nodup_range).filter _
  rw [hn.erase_eq_filter]
  unfold Zmj
  rw [List.filter_filter]
  refine YbF fun i hi=>?_
  rw [Zck ow]
  by_cases e:i=x.toNat
  ·rw [Ye e];simp [e,hc]
  ·rw [Yb e];simp [e]
 have hm:x.toNat ∈ Zmj n wh:=YN.2 ⟨Ya0.2 hlt,by simpa using h0⟩
 rw [e]
 have hp:=(List.perm_cons_erase hm).map f
 have:=hp.sum_nat
 rw [this,YT,List.sum_cons,Nat.add_comm]
theorem ZgS {n:Nat} {l:List Int} {i j:Int} {on:Bool} (hi:0≤i∧i<n):j ∈ putL l n i on ↔ (j≠i∧j ∈ l)∨(j=i∧on=true):=by
 have e:(!on || decide (i<0) || decide ((n:Int)≤i)) = !on:=by
  rw [YF ow,YF ow,Bool.or_false,Bool.or_false]
 unfold putL
 rw [ZdP,e]
 simp
theorem ZkO {n:Nat} {l:List Int} {i:Int} {on:Bool} (h:Up n l) (hi:0≤i∧i<n):Up n (putL l n i on):=by
 refine ⟨?_,fun j hj=>?_⟩
 ·unfold putL;exact ZjA _ _ _ h.1
 ·rcases (ZgS hi).1 hj with h1 | h1
  ·exact h.2 j h1.2
  ·rw [h1.1];exact hi
section
variable {n:Nat} {adj:Int→List Int} {s:Zea} {way:Zoq} {v x:Int} {next:List Int}
theorem TI.zero (n:Nat) (adj:Int→List Int):TI n adj ⟨List.replicate n 0,List.replicate n 0,[],[],0,List.replicate n 0⟩ []:=by
 have e:fI (List.replicate n 0)=fun _=>0:=by
  funext y
  unfold fI
  split
  ·by_cases h:y.toNat<n
   ·rw [nth_eq (by simpa using h)];simp
   ·unfold Nn;simp [Yaw,show n≤y.toNat by omega]
  ·rfl
 have hu:Zmj n (List.replicate n 0)=List.range n:=Ybg.2 fun i hi=>by
  rw [nth_eq (by simpa using hi)];simp
 refine ⟨?_,by simp,by simp,by simp,by simp,⟨.nil,by simp⟩,by simp,?_⟩
 ·show Tj adj (fI (List.replicate n 0)) _ _ 0 [] []
  rw [e];exact Tj.zero
 ·show (0:Int)+((Zmj n (List.replicate n 0)).length:Int)=n
  rw [hu];simp
theorem ZpH (hx:0≤x∧x<n) (h:TI n adj s way) (h0:fI s.wh x=0):(Ze8 n s x).ck+(Zmj n (Ze8 n s x).wh).length=n∧muU n adj (Ze8 n s x).wh+((adj x).length+2)=muU n adj s.wh:=by
 rw [Zcr hx.1] at h0
 have hc:s.ck+1≠0:=by have:=(h.tj.vis x);omega
 have h1:=Zk3 h.lw hx h0 hc (fun _=>1)
 have h2:=Zk3 h.lw hx h0 hc (fun i:Nat=>(adj (i:Int)).length+2)
 have e:∀ l:List Nat,(l.map fun _=>1).sum=l.length:=fun l=>by
  induction l with
  | nil=>rfl
  | cons y l ih=>rw [YT,List.sum_cons,ih,Yk];omega
 rw [e,e] at h1
 have hx2:((x.toNat:Nat):Int)=x:=by omega
 rw [hx2] at h2
 have:=h.cnt
 unfold Ze8 muU
 dsimp only
 exact ⟨by omega,h2⟩
theorem Znh (hx:0≤x∧x<n) (h:TI n adj s way):(∀ u ∈ (Ze8 n s x).wait,0≤u∧u<n)∧Up n (Ze8 n s x).inn ∧ ∀ u,u ∈ (Ze8 n s x).inn ↔ u ∈ (Ze8 n s x).wait:=by
 refine ⟨fun u hu=>?_,ZkO h.up hx,fun u=>?_⟩
 ·rcases Yy.1 hu with h1 | h1
  ·exact h.rng u h1
  ·rw [Yi.1 h1];exact hx
 ·show u ∈ putL s.inn n x true ↔ u ∈ s.wait ++ [x]
  rw [ZgS hx,h.mem u,Yy,Yi]
  by_cases e:u=x
  ·simp [e]
  ·simp [e]
theorem TI.first (hx:0≤x∧x<n) (h:TI n adj s []) (h0:fI s.wh x=0):TI n adj (Ze8 n s x) [(x,adj x)]:=by
 have hw:s.wait = []:=by
  cases hc:s.wait with
  | nil=>rfl
  | cons y l=>
   obtain ⟨r,hr,_⟩:=h.tj.root y (YaD.2 (by rw [hc];simp))
   cases hr
 have htj:=h.tj
 rw [hw] at htj
 obtain ⟨r1',r2',r3'⟩:=Znh hx h
 refine ⟨?_,by simp [Ze8,h.lw],by simp [Ze8,h.ll],h.lout,r1',r2',r3',(ZpH hx h h0).1⟩
 show Tj adj (fI (s.wh.set _ _)) (fI (s.lo.set _ _)) _ _ (s.wait ++ [x]).reverse _
 rw [hw,Zdw (by rw [h.lw];exact hx),Zdw (by rw [h.ll];exact hx)]
 exact htj.first h0
theorem TI.wait (hv:0≤v∧v<n) (h:TI n adj s (way ++ [(v,x :: next)])) (hx:x ∈ s.inn):TI n adj { s with lo:=s.lo.set v.toNat (min (fI s.lo v) (fI s.wh x)) } (way ++ [(v,next)]):=by
 have htj:=h.tj
 rw [YaJ] at htj
 refine ⟨?_,h.lw,by simp [h.ll],h.lout,h.rng,h.up,h.mem,h.cnt⟩
 show Tj adj _ (fI (s.lo.set _ _)) _ _ _ _
 rw [Zdw (by rw [h.ll];exact hv),YaJ]
 exact htj.pass (.inr ⟨YaD.2 ((h.mem x).1 hx),rfl⟩)
def partL (wait:List Int) (v:Int):List Int:=(wait.reverse.takeWhile fun y=>decide (y≠v)) ++ [v]
def keepL (wait:List Int) (v:Int):List Int:=((wait.reverse.dropWhile fun y=>decide (y≠v)).drop 1).reverse
theorem Zl4 {wait:List Int} {v:Int} (h:v ∈ wait):wait.reverse=(wait.reverse.takeWhile fun y=>decide (y≠v))++v :: (keepL wait v).reverse:=by
 have h1:=List.takeWhile_append_dropWhile (p:=fun y=>decide (y≠v)) (l:=wait.reverse)
 have h2:∃ t,wait.reverse.dropWhile (fun y=>decide (y≠v))=v :: t:=by
  have key:∀ l:List Int,v ∈ l → ∃ t,l.dropWhile (fun y=>decide (y≠v))=v :: t:=by
   intro l
   induction l with
   | nil=>intro h;cases h
   | cons y l ih=>
    intro h
    by_cases e:y=v
    ·rw [List.dropWhile_cons_of_neg (by simpa using e),e];exact ⟨l,rfl⟩
    ·rw [List.dropWhile_cons_of_pos (by simpa using e)]
     exact ih ((Yl.1 h).resolve_left fun h9=>e h9.symm)
  exact key _ (YaD.2 h)
 obtain ⟨t,h2⟩:=h2
 unfold keepL
 rw [h2] at h1 ⊢
 rw [List.reverse_reverse]
 exact h1.symm
def Ztu (m:Int) (l:List Int):Prop:=m ∈ l ∧ ∀ x ∈ l,m≤x
def outL (part:List Int) (m:Int) (out:List Int):List Int:=part.foldl (fun o y=>o.set y.toNat m) out
def innL (n:Nat) (part:List Int) (inn:List Int):List Int:=part.foldl (fun l y=>putL l n y false) inn
theorem ZkW (m:Int):∀ (part out:List Int),(outL part m out).length=out.length
 | [],out=>rfl
 | y :: part,out=>by
  have:=ZkW m part (out.set y.toNat m)
  rw [YU] at this
  exact this
theorem ZmR (m:Int):∀ (part out:List Int),(∀ y ∈ part,0≤y∧y<out.length)→fI (outL part m out)=fun u=>if u ∈ part then m else fI out u
 | [],out,_=>by funext u;simp [outL]
 | y :: part,out,h=>by
  have h1:=h y (by simp)
  have ih:=ZmR m part (out.set y.toNat m) fun z hz=>by rw [YU];exact h z (by simp [hz])
  have e:outL (y :: part) m out=outL part m (out.set y.toNat m):=rfl
  rw [e,ih,Zdw h1]
  funext u
  unfold Zi2
  by_cases e1:u ∈ part
  ·rw [Ye e1,Ye (by simp [e1])]
  ·rw [Yb e1]
   by_cases e2:u=y
   ·rw [Ye e2,Ye (by simp [e2])]
   ·rw [Yb e2,Yb (by simp [e1,e2])]
theorem Zne (n:Nat):∀ (part inn:List Int),(∀ y ∈ part,0≤y∧y<(n:Int))→Up n inn→Up n (innL n part inn) ∧ ∀ u,u ∈ innL n part inn ↔ u ∈ inn∧u ∉ part
 | [],inn,_,hu=>⟨hu,fun u=>by simp [innL]⟩
 | y :: part,inn,h,hu=>by
  have h1:=h y (by simp)
  obtain ⟨i1,i2⟩:=Zne n part (putL inn n y false) (fun z hz=>h z (by simp [hz])) (ZkO hu h1)
  have e:innL n (y :: part) inn=innL n part (putL inn n y false):=rfl
  rw [e]
  refine ⟨i1,fun u=>?_⟩
  rw [i2,ZgS h1]
  simp
  constructor
  ·rintro ⟨⟨h2,h3⟩,h4⟩;exact ⟨h3,h2,h4⟩
  ·rintro ⟨h3,h2,h4⟩;exact ⟨⟨h2,h3⟩,h4⟩
def Zr6 (n:Nat) (s:Zea) (v m:Int):Zea:={ s with wait:=keepL s.wait v,inn:=innL n (partL s.wait v) s.inn,out:=outL (partL s.wait v) m s.out }
theorem TI.part {m:Int} (h:TI n adj s (way ++ [(v,[])])) (hlo:fI s.lo v=fI s.wh v) (hm:Ztu m (partL s.wait v)):TI n adj (Zr6 n s v m) way:=by
 have htj:=h.tj
 rw [YaJ] at htj
 have hvw:v ∈ s.wait:=YaD.1 (htj.onst (v,[]) (by simp))
 have hsp:=Zl4 hvw
 rw [hsp] at htj
 have hpr:∀ y ∈ partL s.wait v,0≤y∧y<(n:Int):=fun y hy=>by
  refine h.rng y (YaD.1 ?_)
  rw [hsp]
  unfold partL at hy
  rcases Yy.1 hy with h1 | h1
  ·exact Yac _ h1
  ·rw [Yi.1 h1];simp
 have hnew:=htj.part hlo hm.1 hm.2
 obtain ⟨i1,i2⟩:=Zne n (partL s.wait v) s.inn hpr h.up
 have hsub:∀ u ∈ keepL s.wait v,u ∈ s.wait:=fun u hu=>YaD.1 (by rw [hsp];simp [hu])
 refine ⟨?_,h.lw,h.ll,by show (outL _ _ _).length=n;rw [ZkW];exact h.lout,fun u hu=>h.rng u (hsub u hu),i1,fun u=>?_,h.cnt⟩
 ·show Tj adj (fI s.wh) (fI s.lo) (fI (outL (partL s.wait v) m s.out)) s.ck (keepL s.wait v).reverse way.reverse
  rw [ZmR m _ _ fun y hy=>by rw [h.lout];exact hpr y hy]
  exact hnew
 ·show u ∈ innL n (partL s.wait v) s.inn ↔ u ∈ keepL s.wait v
  rw [i2,h.mem]
  have hd:=htj.dec
  constructor
  ·rintro ⟨h1,h2⟩
   have h3:u ∈ s.wait.reverse:=YaD.2 h1
   rw [hsp] at h3
   unfold partL at h2
   rcases Yy.1 h3 with h4 | h4
   ·exact absurd (Yac _ h4) h2
   ·rcases Yl.1 h4 with h4 | h4
    ·exact absurd (YX _ (by simp [h4])) h2
    ·exact YaD.1 h4
  ·intro hu
   refine ⟨hsub u hu,fun h2=>?_⟩
   have hur:u ∈ (keepL s.wait v).reverse:=YaD.2 hu
   obtain ⟨_,d2,d3⟩:=YaT.1 hd
   unfold partL at h2
   rcases Yy.1 h2 with h4 | h4
   ·have:=d3 u h4 u (YE _ hur);omega
   ·have:=(Yr.1 d2).1 u hur
    rw [Yi.1 h4] at this;omega
theorem TI.stay {u0:Int} {nx:List Int} (hu:0≤u0∧u0<n) (h:TI n adj s (way ++ [(u0,nx)] ++ [(v,[])])) (hlo:fI s.lo v≠fI s.wh v):TI n adj { s with lo:=s.lo.set u0.toNat (min (fI s.lo u0) (fI s.lo v)) } (way ++ [(u0,nx)]):=by
 have htj:=h.tj
 rw [YaJ,YaJ] at htj
 refine ⟨?_,h.lw,by simp [h.ll],h.lout,h.rng,h.up,h.mem,h.cnt⟩
 show Tj adj _ (fI (s.lo.set _ _)) _ _ _ _
 rw [Zdw (by rw [h.ll];exact hu),YaJ]
 exact htj.stay hlo
theorem TI.root (h:TI n adj s [(v,[])]):fI s.lo v=fI s.wh v:=by
 have hvs:=h.tj.onst (v,[]) (by simp)
 obtain ⟨h1,w,hw,h2,_⟩:=h.tj.low v hvs
 obtain ⟨r,h3,h4⟩:=h.tj.root w hw
 have:r=(v,[]):=by simpa using h3.symm
 rw [this] at h4
 have h4:fI s.wh v≤fI s.wh w:=h4
 omega
theorem TI.same {u0:Int} {nx:List Int} (h:TI n adj s (way ++ [(u0,nx)] ++ [(v,[])])) (hlo:fI s.lo v=fI s.wh v):min (fI s.lo u0) (fI s.lo v)=fI s.lo u0:=by
 have htj:=h.tj
 rw [YaJ,YaJ] at htj
 have h1:=htj.above.1
 have h2:=(htj.low u0 (htj.onst (u0,nx) (by simp))).1
 omega
end
theorem ZqY {P:Int→Prop} (h0:∀ x,P x→0≤x) {u:Int} (hu:P u):∃ m,P m ∧ ∀ x,P x→m≤x:=by
 apply Ya3
 intro hn
 have key:∀ k:Nat,∀ x,P x→(k:Int)≤x:=by
  intro k
  induction k with
  | zero=>intro x hx;exact h0 x hx
  | succ k ih=>
   intro x hx
   have h1:=ih x hx
   by_cases e:x=k
   ·exact absurd ⟨x,hx,fun y hy=>by have:=ih y hy;omega⟩ hn
   ·omega
 have h1:=key (u.toNat+1) u hu
 have h2:=h0 u hu
 omega
theorem Zof {P:Nat→Int→Prop} : ∀ n:Nat,(∀ u,u<n → ∃ m,P u m) → ∃ L:List Int,L.length=n ∧ ∀ u,u<n→P u (Nn L u)
 | 0,_=>⟨[],rfl,fun u hu=>absurd hu (Y3 u)⟩
 | n+1,h=>by
  obtain ⟨L,h1,h2⟩:=Zof n fun u hu=>h u ow
  obtain ⟨m,hm⟩:=h n ow
  refine ⟨L ++ [m],by simp [h1],fun u hu=>?_⟩
  rw [nth_eq (by simp;omega)]
  by_cases e:u<n
  ·rw [List.getElem_append_left ow,← nth_eq ow];exact h2 u e
  ·have e:u=L.length:=by omega
   subst e
   rw [List.getElem_append_right ow];simpa [h1] using hm
def Zrn (adj:Int→List Int) (n:Nat) (L:List Int):Prop:=L.length=n ∧ ∀ u:Nat,u<n→ZmJ adj (u:Int) (Nn L u)
theorem ZmJ.one {adj:Int→List Int} {u a b:Int} (h:ZmJ adj u a) (k:ZmJ adj u b):a=b:=Int.le_antisymm (h.2 b k.1) (k.2 a h.1)
theorem Znd.symm {adj:Int→List Int} {u x:Int} (h:Znd adj u x):Znd adj x u:=h.elim (fun e=>.inl e.symm) fun e=>.inr ⟨e.2,e.1⟩
theorem Znd.trans {adj:Int→List Int} {u x y:Int} (h:Znd adj u x) (k:Znd adj x y):Znd adj u y:=by
 rcases h with rfl | ⟨h1,h2⟩
 ·exact k
 ·rcases k with rfl | ⟨k1,k2⟩
  ·exact .inr ⟨h1,h2⟩
  ·exact .inr ⟨h1.trans k1,k2.trans h2⟩
theorem ZmJ.same {adj:Int→List Int} {u v a b:Int} (h:ZmJ adj u a) (k:ZmJ adj v b):a=b ↔ Znd adj u v:=by
 constructor
 ·intro e;subst e;exact h.1.trans k.1.symm
 ·intro m
  exact Int.le_antisymm (h.2 b (m.trans k.1)) (k.2 a (m.symm.trans h.1))
theorem Zrn.one {adj:Int→List Int} {n:Nat} {L M:List Int} (h:Zrn adj n L) (k:Zrn adj n M):L=M:=by
 refine ZaJ (by rw [h.1,k.1]) fun j hj=>?_
 rw [h.1] at hj
 exact (h.2 j hj).one (k.2 j hj)
theorem ZjF {n:Nat} {l:List Int} (hnd:l.Nodup) (h:∀ y ∈ l,0≤y∧y<n):l.length≤n:=by
 have hn2:l.Nodup→(∀ y ∈ l,y ∈ (List.range n).map fun i:Nat=>(i:Int))→l.length≤((List.range n).map fun i:Nat=>(i:Int)).length:=fun a b=>List.Nodup.length_le_of_subset a b
 have:=hn2 hnd fun y hy=>Yu.2 ⟨y.toNat,Ya0.2 (by have:=h y hy;omega),by have:=h y hy;omega⟩
 simpa using this
def ZtF:List Int→Int
 | []=>0
 | x :: l=>l.foldl min x
theorem ZmX {l:List Int} (h:l≠[]):Ztu (ZtF l) l:=by
 have key:∀ (l:List Int) (x:Int),(l.foldl min x=x∨l.foldl min x ∈ l)∧l.foldl min x≤x ∧ ∀ y ∈ l,l.foldl min x≤y:=by
  intro l
  induction l with
  | nil=>intro x;exact ⟨.inl rfl,Yam _,by simp⟩
  | cons a l ih=>
   intro x
   obtain ⟨h1,h2,h3⟩:=ih (min x a)
   rw [Yal]
   refine ⟨?_,by omega,fun y hy=>?_⟩
   ·rcases h1 with h1 | h1
    ·rw [h1]
     by_cases e:x≤a
     ·left;omega
     ·right;have:min x a=a:=by omega
      rw [this];simp
    ·right;simp [h1]
   ·rcases Yl.1 hy with rfl | hy
    ·omega
    ·exact h3 y hy
 cases l with
 | nil=>exact absurd rfl h
 | cons x l=>
  obtain ⟨h1,h2,h3⟩:=key l x
  refine ⟨?_,fun y hy=>?_⟩
  ·show l.foldl min x ∈ x :: l
   rcases h1 with h1 | h1
   ·rw [h1];simp
   ·simp [h1]
  ·rcases Yl.1 hy with rfl | hy
   ·exact h2
   ·exact h3 y hy
def leaveD (n:Nat) (s:Zea) (v:Int):Zea:=if fI s.lo v=fI s.wh v then Zr6 n s v (ZtF (partL s.wait v)) else s
theorem Zio (n:Nat) (s:Zea) (v:Int):(leaveD n s v).wh=s.wh∧(leaveD n s v).lo=s.lo:=by unfold leaveD;split <;> exact ⟨rfl,rfl⟩
theorem ZkE (w:List Int) (v:Int):partL w v≠[]:=by unfold partL;simp
section
variable {n:Nat} {adj:Int→List Int} {s:Zea} {way:Zoq} {v u:Int} {nx:List Int}
theorem Zpb {l:List Int} {i:Nat} : l.set i (Nn l i)=l:=by
 apply YaV (by simp)
 intro j h1 h2
 rw [YbK]
 split
 ·rename_i e;subst e;rw [nth_eq h2]
 ·rfl
theorem TI.leftRoot (h:TI n adj s [(v,[])]):TI n adj (leaveD n s v) []:=by
 unfold leaveD
 rw [Ye h.root]
 exact TI.part (way:=[]) h h.root (ZmX (ZkE _ _))
theorem TI.left (hu:0≤u∧u<n) (h:TI n adj s (way ++ [(u,nx)] ++ [(v,[])])):TI n adj { leaveD n s v with lo:=(leaveD n s v).lo.set u.toNat (min (fI s.lo u) (fI s.lo v)) } (way ++ [(u,nx)]):=by
 unfold leaveD
 by_cases e:fI s.lo v=fI s.wh v
 ·rw [Ye e]
  have h1:=TI.part (way:=way ++ [(u,nx)]) h e (ZmX (ZkE _ _))
  have h2:=h.same e
  rw [h2,Zcr hu.1]
  have:(Zr6 n s v (ZtF (partL s.wait v))).lo=s.lo:=rfl
  rw [this,Zpb]
  exact h1
 ·rw [Yb e];exact h.stay hu e
theorem TI.nodes (h:TI n adj s way):∀ r ∈ way,r.1 ∈ s.wait∧0≤r.1∧r.1<n:=fun r hr=>by
 have:=YaD.1 (h.tj.onst r (YaD.2 hr))
 exact ⟨this,h.rng _ this⟩
theorem Zhc (way:Zoq) (r:Int×List Int):muW (way ++ [r])=muW way+(r.2.length+1):=by
 unfold muW;simp
end
def FrI (n:Nat) (adj:Int→List Int) (w0:List Int) (x:Int) (q:Zea) (way:Zoq):Prop:=TI n adj q way∧fI q.wh x≠0 ∧ ∀ y,fI w0 y≠0→fI q.wh y≠0
def muF (n:Nat) (adj:Int→List Int) (q:Zea) (way:Zoq):Nat:=muW way+muU n adj q.wh
section
variable {n:Nat} {adj:Int→List Int} {w0:List Int} {x:Int} {q:Zea} {way:Zoq} {v u y:Int} {nx nu:List Int}
theorem FrI.root (h:FrI n adj w0 x q [(v,[])]):FrI n adj w0 x (leaveD n q v) []∧muF n adj (leaveD n q v) [] < muF n adj q [(v,[])]:=by
 obtain ⟨h1,h2,h3⟩:=h
 have e:=(Zio n q v).1
 refine ⟨⟨h1.leftRoot,by rw [e];exact h2,fun y hy=>by rw [e];exact h3 y hy⟩,?_⟩
 unfold muF muW
 rw [e];simp
theorem FrI.left (h:FrI n adj w0 x q (way ++ [(u,nu)] ++ [(v,[])])):FrI n adj w0 x { leaveD n q v with lo:=(leaveD n q v).lo.set u.toNat (min (fI q.lo u) (fI q.lo v)) } (way ++ [(u,nu)])∧muF n adj { leaveD n q v with lo:=(leaveD n q v).lo.set u.toNat (min (fI q.lo u) (fI q.lo v)) } (way ++ [(u,nu)])<muF n adj q (way ++ [(u,nu)] ++ [(v,[])]):=by
 obtain ⟨h1,h2,h3⟩:=h
 have e:=(Zio n q v).1
 refine ⟨⟨h1.left (h1.nodes (u,nu) (by simp)).2,by show fI (leaveD n q v).wh x≠0;rw [e];exact h2,fun y hy=>by show fI (leaveD n q v).wh y≠0;rw [e];exact h3 y hy⟩,?_⟩
 show muW _+muU n adj (leaveD n q v).wh<muW _+muU n adj q.wh
 rw [e,Zhc (way ++ [(u,nu)])];omega
theorem FrI.wait (h:FrI n adj w0 x q (way ++ [(v,y :: nx)])) (hx:y ∈ q.inn):FrI n adj w0 x { q with lo:=q.lo.set v.toNat (min (fI q.lo v) (fI q.wh y)) } (way ++ [(v,nx)])∧muF n adj { q with lo:=q.lo.set v.toNat (min (fI q.lo v) (fI q.wh y)) } (way ++ [(v,nx)])<muF n adj q (way ++ [(v,y :: nx)]):=by
 obtain ⟨h1,h2,h3⟩:=h
 refine ⟨⟨h1.wait (h1.nodes (v,y :: nx) (by simp)).2 hx,h2,h3⟩,?_⟩
 show muW _+muU n adj q.wh<muW _+muU n adj q.wh
 rw [Zhc,Zhc,Yk];dsimp only;omega
end
end Go.Proofs.YtlkpllemoepamaaGreat
