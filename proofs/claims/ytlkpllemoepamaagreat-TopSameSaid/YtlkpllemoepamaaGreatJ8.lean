/- Texts put together. No condition beyond those that each theorem says. -/
import Derived.Test.YtlkpllemoepamaaGreatJ1
import Derived.Deep.QuietTactic
import Derived.BigQuiet
import Derived.Shelf.SlSortCmp.WholeK
import Derived.Sort.LotA
import Derived.Test.YtlkpllemoepamaaGreatJ7
import Derived.Test.YtlkpllemoepamaaGreatJ3
import Derived.Test.YtlkpllemoepamaaGreatJ4
import Derived.Test.YtlkpllemoepamaaGreatJ2
namespace Go.Proofs.YtlkpllemoepamaaGreat
open Go Go.Gm Tryz
set_option linter.unusedVariables false
set_option linter.unusedSimpArgs false
set_option maxHeartbeats 4000000
set_option maxRecDepth 8000
def Zg7:Go.Shelf.Ren:=⟨fun | 6=>173 | 15=>142 | 14=>211 | 28=>189 | 29=>190 | 20=>232 | 21=>233 | 22=>234 | 23=>235 | 24=>236 | 25=>237 | 26=>238 | 27=>239 | 46=>249 | 47=>213 | 48=>214 | 49=>250 | 50=>251 | 57=>256 | n=>n,fun | 22=>31 | 24=>42 | 25=>245 | 3=>3 | 39=>162 | 0=>0 | 53=>260 | 55=>175 | 4=>4 | 46=>253 | 45=>252 | 50=>43 | 5=>5 | 9=>9 | 66=>290 | 70=>294 | 76=>309 | 77=>107 | n=>n,fun  | n=>n⟩
theorem Zm8:Go.Proofs.SlLaysF0.n6 prog Zg7 where
 mixed:=by kernel_rfl
 f6:=⟨f173.name,by kernel_rfl,func173.trans (Y7 some kr)⟩
 f14:=⟨f211.name,by kernel_rfl,func211.trans (Y7 some kr)⟩
 f15:=func142.trans (Y7 some kr)
 f20:=⟨f232.name,by kernel_rfl,func232.trans (Y7 some kr)⟩
 f21:=⟨f233.name,by kernel_rfl,func233.trans (Y7 some kr)⟩
 f22:=⟨f234.name,by kernel_rfl,func234.trans (Y7 some kr)⟩
 f23:=⟨f235.name,by kernel_rfl,func235.trans (Y7 some kr)⟩
 f24:=⟨f236.name,by kernel_rfl,func236.trans (Y7 some kr)⟩
 f25:=⟨f237.name,by kernel_rfl,func237.trans (Y7 some kr)⟩
 f26:=⟨f238.name,by kernel_rfl,func238.trans (Y7 some kr)⟩
 f27:=⟨f239.name,by kernel_rfl,func239.trans (Y7 some kr)⟩
 f28:=func189.trans (Y7 some kr)
 f29:=func190.trans (Y7 some kr)
 f46:=⟨f249.name,by kernel_rfl,func249.trans (Y7 some kr)⟩
 f47:=func213.trans (Y7 some kr)
 f48:=func214.trans (Y7 some kr)
 f49:=⟨f250.name,by kernel_rfl,func250.trans (Y7 some kr)⟩
 f50:=⟨f251.name,by kernel_rfl,func251.trans (Y7 some kr)⟩
 f57:=⟨f256.name,by kernel_rfl,func256.trans (Y7 some kr)⟩
 t0:=underlying0
 a0:=Tryz.isAgg0
 z0:=Tryz.sizeOf0
 v0:=Tryz.zeroValue0
 t3:=underlying3
 a3:=Tryz.isAgg3
 z3:=Tryz.sizeOf3
 v3:=Tryz.zeroValue3
 t4:=underlying4
 a4:=Tryz.isAgg4
 z4:=Tryz.sizeOf4
 v4:=Tryz.zeroValue4
 t5:=underlying5
 a5:=Tryz.isAgg5
 z5:=Tryz.sizeOf5
 v5:=Tryz.zeroValue5
 t9:=underlying9
 a9:=Tryz.isAgg9
 z9:=Tryz.sizeOf9
 v9:=Tryz.zeroValue9
 t22:=underlying31
 a22:=Tryz.isAgg31
 z22:=Tryz.sizeOf31
 v22:=Tryz.zeroValue31
 t25:=underlying245
 a25:=Tryz.isAgg245
 z25:=Tryz.sizeOf245
 v25:=Tryz.zeroValue245
 t39:=underlying162
 a39:=Tryz.isAgg162
 z39:=Tryz.sizeOf162
 v39:=Tryz.zeroValue162
 t45:=underlying252
 a45:=Tryz.isAgg252
 z45:=Tryz.sizeOf252
 v45:=Tryz.zeroValue252
 t46:=underlying253
 a46:=Tryz.isAgg253
 z46:=Tryz.sizeOf253
 v46:=Tryz.zeroValue253
 t50:=underlying43
 a50:=Tryz.isAgg43
 z50:=Tryz.sizeOf43
 v50:=Tryz.zeroValue43
 t53:=underlying260
 a53:=Tryz.isAgg260
 z53:=Tryz.sizeOf260
 v53:=Tryz.zeroValue260
 t55:=underlying175
 a55:=Tryz.isAgg175
 z55:=Tryz.sizeOf175
 v55:=Tryz.zeroValue175
 t66:=underlying290
 a66:=Tryz.isAgg290
 z66:=Tryz.sizeOf290
 v66:=Tryz.zeroValue290
 t70:=underlying294
 a70:=Tryz.isAgg294
 z70:=Tryz.sizeOf294
 v70:=Tryz.zeroValue294
 t76:=underlying309
 a76:=Tryz.isAgg309
 z76:=Tryz.sizeOf309
 v76:=Tryz.zeroValue309
 t77:=underlying107
 a77:=Tryz.isAgg107
 z77:=Tryz.sizeOf107
 v77:=Tryz.zeroValue107
theorem ZvK (x:Int) (w:World):Calls prog 151 #[.int .i64 x] w fun e w'=>e = .returned (.bool false)∧w' = w:=by
 go_enter func151,ntmps151
 go_wp2
 go_ret
 exact ⟨by simp,rfl⟩
theorem Zvd (x y:Int) (w:World):Calls prog 110 #[.int .i64 x,.int .i64 y] w fun e w'=>e = .returned (.int .i64 (ZcT x y))∧w' = w:=by
 go_enter func110,ntmps110
 go_wp2_with (go_at_call 151;refine (ZvK _ _).mono ?_;rintro e w' ⟨rfl,rfl⟩)
 all_goals (go_ret;refine ⟨?_,rfl⟩;unfold ZcT; (repeat' split) <;> first | rfl | (exfalso;omega))
theorem Zvm {a:Int} (h:(a != 0)=true):¬ a=0:=by simpa using h
theorem Zto {a:Int} (h:(a != 0)=false):a=0:=by simpa using h
theorem Ztx {x y:Zg} (h:(ZcT x.src y.src != 0)=true):cmpE x y=ZcT x.src y.src:=by unfold cmpE ZeN Zge;rw [Yc (fun e=>Zvm h (ZcG.2 e))]
theorem Zs0 {x y:Zg} (h0:(ZcT x.src y.src != 0)=false) (h:(ZcT x.kind y.kind != 0)=true):cmpE x y=ZcT x.kind y.kind:=by unfold cmpE ZeN Zge;rw [Yf (ZcG.1 (Zto h0))];unfold Zge;rw [Yc (fun e=>Zvm h (ZcG.2 e))]
theorem Zuk {x y:Zg} (h0:(ZcT x.src y.src != 0)=false) (h1:(ZcT x.kind y.kind != 0)=false) (h:(ZcT x.key y.key != 0)=true):cmpE x y=ZcT x.key y.key:=by unfold cmpE ZeN Zge;rw [Yf (ZcG.1 (Zto h0))];unfold Zge;rw [Yf (ZcG.1 (Zto h1))];unfold Zge;rw [Yc (fun e=>Zvm h (ZcG.2 e))]
theorem ZoP {x y:Zg} (h0:(ZcT x.src y.src != 0)=false) (h1:(ZcT x.kind y.kind != 0)=false) (h2:(ZcT x.key y.key != 0)=false):cmpE x y=ZcT x.dst y.dst:=by
 unfold cmpE ZeN Zge;rw [Yf (ZcG.1 (Zto h0))];unfold Zge;rw [Yf (ZcG.1 (Zto h1))];unfold Zge;rw [Yf (ZcG.1 (Zto h2))];unfold Zge
 by_cases h:x.dst=y.dst
 ·rw [Yf h,ZcG.2 h];rfl
 ·rw [Yc h]
theorem Zua {x y:Zg} (h0:(ZcT x.src y.src != 0)=false) (h1:(ZcT x.kind y.kind != 0)=false) (h2:(ZcT x.key y.key != 0)=false) (h3:(ZcT x.dst y.dst != 0)=false):cmpE x y=0:=by rw [ZoP h0 h1 h2];exact Zto h3
def objs4 (x y:Zg):Array Obj:=#[Obj.cells #[.int .i64 x.src,.int .i64 x.dst,.int .i64 x.kind,.int .i64 x.key] 42,Obj.cells #[.int .i64 y.src,.int .i64 y.dst,.int .i64 y.kind,.int .i64 y.key] 42,Obj.cells #[.int .i64 x.src,.int .i64 x.kind,.int .i64 x.key,.int .i64 x.dst] 289,Obj.cells #[.int .i64 y.src,.int .i64 y.kind,.int .i64 y.key,.int .i64 y.dst] 289]
theorem ZqT (x y:Zg) (w:World):Calls prog 174 #[.agg #[.int .i64 x.src,.int .i64 x.dst,.int .i64 x.kind,.int .i64 x.key],.agg #[.int .i64 y.src,.int .i64 y.dst,.int .i64 y.kind,.int .i64 y.key]] w fun e w'=>e = .returned (.int .i64 (cmpE x y)) ∧ ∃ q,w' = { w.drewN q with heap:=w.heap++objs4 x y } := by
 go_enter func174,ntmps174
 go_wp2
 have hw1:((((w.alloc (Obj.cells #[.int .i64 x.src,.int .i64 x.dst,.int .i64 x.kind,.int .i64 x.key] 42)).alloc (Obj.cells #[.int .i64 y.src,.int .i64 y.dst,.int .i64 y.kind,.int .i64 y.key] 42)).alloc (Obj.cells #[.int .i64 x.src,.int .i64 x.kind,.int .i64 x.key,.int .i64 x.dst] 289)).alloc (Obj.cells #[.int .i64 y.src,.int .i64 y.kind,.int .i64 y.key,.int .i64 y.dst] 289)) = { w with heap:=w.heap++objs4 x y } := by
  have e:∀ (w:World) (o:Obj),w.alloc o = { w with heap:=w.heap.push o } := fun _ _=>rfl
  simp only [e,objs4]
  congr 1
 rw [hw1]
 clear hw1
 have ka:∀ j v,(#[Value.int .i64 x.src,.int .i64 x.kind,.int .i64 x.key,.int .i64 x.dst])[j]? = some v→({ w with heap:=w.heap++objs4 x y } : World).cell? ⟨w.heap.size+1+1,j,none⟩ = some v:=by
  intro j v hj
  rw [ZV (vs:=#[Value.int .i64 x.src,.int .i64 x.kind,.int .i64 x.key,.int .i64 x.dst]) (T:=289) (fr:=(0,0)) (by show (w.heap++objs4 x y)[w.heap.size+1+1]? = _;rw [Array.getElem?_append_right ow,show w.heap.size+1+1 - w.heap.size=2 by omega];rfl)]
  exact hj
 have kb:∀ j v,(#[Value.int .i64 y.src,.int .i64 y.kind,.int .i64 y.key,.int .i64 y.dst])[j]? = some v→({ w with heap:=w.heap++objs4 x y } : World).cell? ⟨w.heap.size+1+1+1,j,none⟩ = some v:=by
  intro j v hj
  rw [ZV (vs:=#[Value.int .i64 y.src,.int .i64 y.kind,.int .i64 y.key,.int .i64 y.dst]) (T:=289) (fr:=(0,0)) (by show (w.heap++objs4 x y)[w.heap.size+1+1+1]? = _;rw [Array.getElem?_append_right ow,show w.heap.size+1+1+1 - w.heap.size=3 by omega];rfl)]
  exact hj
 have a0:({ w with heap:=w.heap++objs4 x y } : World).cell? ⟨w.heap.size+1+1,0,none⟩ = some (.int .i64 x.src):=ka 0 _ rfl
 have a1:({ w with heap:=w.heap++objs4 x y } : World).cell? ⟨w.heap.size+1+1,1,none⟩ = some (.int .i64 x.kind):=ka 1 _ rfl
 have a2:({ w with heap:=w.heap++objs4 x y } : World).cell? ⟨w.heap.size+1+1,2,none⟩ = some (.int .i64 x.key):=ka 2 _ rfl
 have a3:({ w with heap:=w.heap++objs4 x y } : World).cell? ⟨w.heap.size+1+1,3,none⟩ = some (.int .i64 x.dst):=ka 3 _ rfl
 have b0:({ w with heap:=w.heap++objs4 x y } : World).cell? ⟨w.heap.size+1+1+1,0,none⟩ = some (.int .i64 y.src):=kb 0 _ rfl
 have b1:({ w with heap:=w.heap++objs4 x y } : World).cell? ⟨w.heap.size+1+1+1,1,none⟩ = some (.int .i64 y.kind):=kb 1 _ rfl
 have b2:({ w with heap:=w.heap++objs4 x y } : World).cell? ⟨w.heap.size+1+1+1,2,none⟩ = some (.int .i64 y.key):=kb 2 _ rfl
 have b3:({ w with heap:=w.heap++objs4 x y } : World).cell? ⟨w.heap.size+1+1+1,3,none⟩ = some (.int .i64 y.dst):=kb 3 _ rfl
 clear ka kb
 have hfin:∀ q (w':World),w' = ({ w with heap:=w.heap++objs4 x y } : World).drewN q → ∃ q,w' = { w.drewN q with heap:=w.heap++objs4 x y } := fun q w' e=>⟨q,e⟩
 generalize ({ w with heap:=w.heap++objs4 x y } : World)=w1 at *
 generalize w.heap.size=n0 at *
 refine wp_loop_rounds 5 ?_
 rw [YbC]
 go_wp2
 go_quiet ((go_at_call 110;refine Calls.quiet_of_same (Zvd _ _ _)))
 go_wp2
 ·go_ret
  exact ⟨Y7 (fun z=>Ending.returned (.int .i64 z)) (Ztx (by assumption)).symm,hfin _ _ rfl⟩
 have hfin1:∀ q (w':World),w' = (w1.drewN nq).drewN q → ∃ q,w' = { w.drewN q with heap:=w.heap++objs4 x y } := fun q w' e=>hfin (nq+q) w' (by rw [e,World.drewN_drewN])
 have a1':(w1.drewN nq).cell? ⟨n0+1+1,1,none⟩ = some (.int .i64 x.kind):=a1
 have b1':(w1.drewN nq).cell? ⟨n0+1+1+1,1,none⟩ = some (.int .i64 y.kind):=b1
 have a2':(w1.drewN nq).cell? ⟨n0+1+1,2,none⟩ = some (.int .i64 x.key):=a2
 have b2':(w1.drewN nq).cell? ⟨n0+1+1+1,2,none⟩ = some (.int .i64 y.key):=b2
 have a3':(w1.drewN nq).cell? ⟨n0+1+1,3,none⟩ = some (.int .i64 x.dst):=a3
 have b3':(w1.drewN nq).cell? ⟨n0+1+1+1,3,none⟩ = some (.int .i64 y.dst):=b3
 clear hfin a0 b0 a1 b1 a2 b2 a3 b3
 generalize w1.drewN nq=w2 at *
 rw [YbC]
 go_wp2
 go_quiet ((go_at_call 110;refine Calls.quiet_of_same (Zvd _ _ _)))
 go_wp2
 ·go_ret
  exact ⟨Y7 (fun z=>Ending.returned (.int .i64 z)) (Zs0 (by assumption) (by assumption)).symm,hfin1 _ _ rfl⟩
 have hfin2:∀ q (w':World),w' = (w2.drewN nq).drewN q → ∃ q,w' = { w.drewN q with heap:=w.heap++objs4 x y } := fun q w' e=>hfin1 (nq+q) w' (by rw [e,World.drewN_drewN])
 have a2'':(w2.drewN nq).cell? ⟨n0+1+1,2,none⟩ = some (.int .i64 x.key):=a2'
 have b2'':(w2.drewN nq).cell? ⟨n0+1+1+1,2,none⟩ = some (.int .i64 y.key):=b2'
 have a3'':(w2.drewN nq).cell? ⟨n0+1+1,3,none⟩ = some (.int .i64 x.dst):=a3'
 have b3'':(w2.drewN nq).cell? ⟨n0+1+1+1,3,none⟩ = some (.int .i64 y.dst):=b3'
 clear hfin1 a1' b1' a2' b2' a3' b3'
 generalize w2.drewN nq=w3 at *
 rw [YbC]
 go_wp2
 go_quiet ((go_at_call 110;refine Calls.quiet_of_same (Zvd _ _ _)))
 go_wp2
 ·go_ret
  exact ⟨Y7 (fun z=>Ending.returned (.int .i64 z)) (Zuk (by assumption) (by assumption) (by assumption)).symm,hfin2 _ _ rfl⟩
 have hfin3:∀ q (w':World),w' = (w3.drewN nq).drewN q → ∃ q,w' = { w.drewN q with heap:=w.heap++objs4 x y } := fun q w' e=>hfin2 (nq+q) w' (by rw [e,World.drewN_drewN])
 have a3''':(w3.drewN nq).cell? ⟨n0+1+1,3,none⟩ = some (.int .i64 x.dst):=a3''
 have b3''':(w3.drewN nq).cell? ⟨n0+1+1+1,3,none⟩ = some (.int .i64 y.dst):=b3''
 clear hfin2 a2'' b2'' a3'' b3''
 generalize w3.drewN nq=w4 at *
 rw [YbC]
 go_wp2
 go_quiet ((go_at_call 110;refine Calls.quiet_of_same (Zvd _ _ _)))
 go_wp2
 ·go_ret
  exact ⟨Y7 (fun z=>Ending.returned (.int .i64 z)) (ZoP (by assumption) (by assumption) (by assumption)).symm,hfin3 _ _ rfl⟩
 have hfin4:∀ q (w':World),w' = (w4.drewN nq).drewN q → ∃ q,w' = { w.drewN q with heap:=w.heap++objs4 x y } := fun q w' e=>hfin3 (nq+q) w' (by rw [e,World.drewN_drewN])
 clear hfin3 a3''' b3'''
 generalize w4.drewN nq=w5 at *
 rw [YbC]
 go_wp2
 go_ret
 exact ⟨Y7 (fun z=>Ending.returned (.int .i64 z)) (Zua (by assumption) (by assumption) (by assumption) (by assumption)).symm,hfin4 0 _ rfl⟩
def Zey (e:Zg):List Value:=[.int .i64 e.src,.int .i64 e.dst,.int .i64 e.kind,.int .i64 e.key]
theorem Zhq:∀ (l:List Zg) (j:Nat),(l.flatMap Zey)[j]? = if j<l.length*4 then some ((Zey l[j / 4]!)[j % 4]!) else none
 | [],j=>by simp
 | e :: l,j=>by
  rw [Y1]
  by_cases hj:j<4
  ·rw [List.getElem?_append_left (by simpa [Zey] using hj),Yf (by simp;omega),show j / 4=0 by omega,show j % 4=j by omega]
   match j,hj with
   | 0,_=>rfl
   | 1,_=>rfl
   | 2,_=>rfl
   | 3,_=>rfl
  ·obtain ⟨k,rfl⟩:∃ k,j=k+4:=⟨j - 4,by omega⟩
   rw [List.getElem?_append_right (by simp [Zey]),show k+4 - (Zey e).length=k by simp [Zey],Zhq l k,show (k+4) / 4=k / 4+1 by omega,show (k+4) % 4=k % 4 by omega]
   by_cases h:k<l.length*4
   ·rw [Yf h,Yf (by simp;omega)];simp
   ·rw [Yc h,Yc (by simp;omega)]
theorem ZgU (l:List Zg):(Go.Sort.flatK Zey 4 l.toArray).toList=l.flatMap Zey:=by
 apply List.ext_getElem?
 intro j
 rw [Zhq]
 by_cases h:j<l.length*4
 ·rw [Yf h];simp [Go.Sort.flatK,h]
 ·rw [Yc h];simp [Go.Sort.flatK];omega
def inE (e:Zg):Prop:=inR .i64 e.src∧inR .i64 e.dst∧inR .i64 e.kind∧inR .i64 e.key
theorem ZiQ {w:World} {y:Ys} : ∀ {l:List Zg} {xs:List Value},PVs (l.flatMap Zp) xs w y→xs=l.flatMap Zey ∧ ∀ e ∈ l,inE e
 | [],[],_=>⟨rfl,fun x hx=>by cases hx⟩
 | [],_ :: _,h=>h.elim
 | e :: l,[],h=>h.elim
 | e :: l,[_],h=>h.2.elim
 | e :: l,[_,_],h=>h.2.2.elim
 | e :: l,[_,_,_],h=>h.2.2.2.elim
 | e :: l,a :: b :: c :: d :: xs,h=>by
  have h1:a = .int .i64 e.src∧inR .i64 e.src:=h.1.2
  have h2:b = .int .i64 e.dst∧inR .i64 e.dst:=h.2.1.2
  have h3:c = .int .i64 e.kind∧inR .i64 e.kind:=h.2.2.1.2
  have h4:d = .int .i64 e.key∧inR .i64 e.key:=h.2.2.2.1.2
  obtain ⟨h5,h6⟩:=ZiQ (l:=l) (xs:=xs) h.2.2.2.2
  exact ⟨by rw [h1.1,h2.1,h3.1,h4.1,h5];rfl,fun z hz=>by rcases Yi.1 hz with rfl | hz;exact ⟨h1.2,h2.2,h3.2,h4.2⟩;exact h6 z hz⟩
theorem Zet {w:World} {y:Ys} : ∀ {l:List Zg},(∀ e ∈ l,inE e)→PVs (l.flatMap Zp) (l.flatMap Zey) w y
 | [],_=>trivial
 | e :: l,h=>by
  have h1:=h e (by simp)
  exact ⟨⟨rfl,rfl,h1.1⟩,⟨rfl,rfl,h1.2.1⟩,⟨rfl,rfl,h1.2.2.1⟩,⟨rfl,rfl,h1.2.2.2⟩,Zet fun z hz=>h z (by simp [hz])⟩
theorem swoE:Go.Sort.SWO (Go.Proofs.ltOf cmpE) where
 irrefl x:=ZbZ.irr x
 trans x y z h1 h2:=ZbZ.tr x y z h1 h2
 ntrans x y z h1 h2:=by
  have h1:ltE x y=false:=h1
  have h2:ltE y z=false:=h2
  show ltE x z=false
  rw [ZjG] at *
  omega
theorem Zjl {w:World} {g n:Nat} {d:List Value} {os:Array Obj} {cur:Array Value} {e:TypeId} (hg:w.heap[g]? = some (.cells cur e (0,0))) (b:Nat) (hb:b<w.heap.size) :
  (Go.Sort.grow (Go.Sort.putRow id (Go.Sort.ahead w n) g 0 d.toArray) os).heap[b]? = if b=g then some (.cells (Go.Sort.putCells id 0 d.toArray cur) e (0,0)) else w.heap[b]?:=by
 unfold Go.Sort.grow Go.Sort.putRow Go.Sort.mapBlock Go.Sort.ahead
 simp only
 rw [Array.getElem?_append_left (by simpa using hb),Array.getElem?_modify]
 by_cases h:g=b
 ·subst h
  rw [Yf rfl,Yf rfl,hg];rfl
 ·rw [Yc h,Yc (fun e=>h e.symm)]
theorem Zoe {cur:Array Value} {d:List Value} (h:d.length≤cur.size):(Go.Sort.putCells id 0 d.toArray cur).toList.take d.length=d:=by
 apply Ya0
 ·simp [Go.Sort.putCells];omega
 ·intro i h1 h2
  have hi:i<d.length:=h2
  simp [Go.Sort.putCells,hi]
theorem sortE_cmp (g n:Nat) (w:World):Go.Proofs.CmpLays prog 174 #[] Zey 4 cmpE g 0 n w:=fun _ _ _ _ x y=>
 (ZqT x y _).mono fun _ _ ⟨he,q,hq⟩=>⟨he,q,objs4 x y,hq⟩
theorem Zts (v:Value) (l:List Zg) (hlm:l.length≤1000000):FnG prog 173 1 [.is v,.is (.func (.func 174) #[] #[])] [ZA 42 4 Zp l v] (.tup []) (fun _=>[ZA 42 4 Zp (ZcJ l) v]):=by
 by_cases hl0:l = []
 ·subst hl0
  have h:=Zl6 v [] (by simp) (fun j _ h1=>absurd h1 (by simp))
  have e:ZcJ [] = []:=by simp [ZcJ]
  rw [e];exact h
 ·exact fun w F vs hw hle hvs hpr=>by
   match vs,hvs with
   | [u,fv],hvs=>
    have hu:u=v:=hvs.1.1
    have hfv:fv = .func (.func 174) #[] #[]:=hvs.2.1.1
    subst hu
    subst hfv
    obtain ⟨xs,⟨hxl,hx⟩,hp,hf⟩:=hpr 0 _ rfl
    rcases hx with ⟨rfl,h0⟩ | ⟨g,cap,cur,rfl,_,hg,hn,hcap,hcs,hct⟩
    ·exact absurd (YN h0) hl0
    ·have hgs:g<w.heap.size:=(YV.1 hg).1
     obtain ⟨hxe,hin⟩:=ZiQ hp
     have hcl:l.length*4≤cur.size:=by rw [hcs];exact YL _ hn
     have hbig:l.toArray.size<4611686018427387904:=by simp;omega
     have hcur:∀ j,j<l.length*4→cur[j]? = (l.flatMap Zey)[j]?:=fun j hj=>by
      have h1:(cur.toList.take (l.length*4))[j]? = (l.flatMap Zey)[j]?:=by rw [hct,hxe]
      rw [Ybx hj] at h1
      simpa using h1
     have hH:Go.Sort.HoldsK Zey 4 w g 0 l.toArray:=fun j hj=>by
      have hj':j<l.length*4:=by simpa using hj
      refine ⟨?_,?_⟩
      ·rw [Y2,ZV hg,hcur j hj',Zhq,Yf hj',Go.Sort.get_flatK _ _ _ _ (by simpa using hj')]
       simp
      ·simp [World.frozen?,hg]
     have eg:∀ args w,(callFunc 174 args).run prog w = .ok (.enter 174 args) w:=enters_of func174 kr rfl
     have hcalls:Calls prog 173 #[.slice (some ⟨g,0,none⟩) l.toArray.size cap,.func (.func 174) #[] #[]] w fun e w'=>e = .returned (.tuple #[]) ∧ ∃ d' n os,Go.Sort.PermIn 0 l.toArray.size l.toArray d' ∧ Go.Sort.SortedIn (Go.Proofs.ltOf cmpE) 0 l.toArray.size d' ∧ w' = Go.Proofs.sortWorldK Zey 4 w g 0 n d' os:=
      Go.Proofs.AnyQ.slices_SortFunc Zm8 4 Tryz.isAgg42 Tryz.sizeOf42 Zey (fun _=>rfl) (fun x v hv=>by simp [Zey] at hv;rcases hv with rfl | rfl | rfl | rfl <;> rfl) cmpE swoE 174 #[] g 0 cap l.toArray w eg (sortE_cmp g _ w) hH hgs hbig
     refine hcalls.mono ?_
     rintro e w' ⟨rfl,d',n,os,hperm,hsrt,rfl⟩
     have hd:d'.toList=ZcJ l:=Go.Sort.sorted_unique_holds swoE (fun x y h1 h2=>ZbZ.tot x y h1 h2) l.toArray d' hperm hsrt
     have hd2:d' = (ZcJ l).toArray:=by rw [← hd]
     subst hd2
     have hsl:(ZcJ l).length=l.length:=Zi1 l
     have hfl:(Go.Sort.flatK Zey 4 (ZcJ l).toArray)=((ZcJ l).flatMap Zey).toArray:=by rw [← ZgU]
     have hfn:((ZcJ l).flatMap Zey).length=l.length*4:=by
      have h2:=Y7 List.length (ZgU (ZcJ l))
      rw [← h2,Array.length_toList,Go.Sort.size_flatK,YaD,hsl]
     have hW:Go.Proofs.sortWorldK Zey 4 w g 0 n (ZcJ l).toArray os=Go.Sort.grow (Go.Sort.putRow id (Go.Sort.ahead w n) g 0 ((ZcJ l).flatMap Zey).toArray) os:=by
      unfold Go.Proofs.sortWorldK Go.Sort.putRowK
      rw [hfl]
     rw [hW]
     have hheap:=fun b hb=>Zjl (n:=n) (d:=(ZcJ l).flatMap Zey) (os:=os) hg b hb
     have hsz:(Go.Sort.grow (Go.Sort.putRow id (Go.Sort.ahead w n) g 0 ((ZcJ l).flatMap Zey).toArray) os).heap.size=w.heap.size+os.size:=by simp [Go.Sort.ahead]
     have hfg:F 1 g:=(hf g).2 rfl
     have hst:Stp (List.range' 1 1) w F (Go.Sort.grow (Go.Sort.putRow id (Go.Sort.ahead w n) g 0 ((ZcJ l).flatMap Zey).toArray) os) F:=
      ⟨rfl,rfl,rfl,by rw [hsz];omega,fun b hb hn=>by
       rw [hheap b hb,Yc (fun e=>by subst e;exact hn 1 (by simp) hfg)],fun _ _=>rfl,fun n hn b hb=>.inl ⟨n,hn,hb⟩⟩
     refine ⟨.tuple #[],F,rfl,⟨hw.dis,fun n b hb=>by rw [hsz];have:=hw.bd n b hb;omega⟩,hst,hle,⟨[],rfl,tv⟩,fun i h hi=>?_⟩
     match i,hi with
     | 0,hi=>
      simp only [YbB,Y6] at hi
      subst hi
      refine ⟨(ZcJ l).flatMap Zey,⟨by rw [hfn,hsl],.inr ⟨g,cap,_,by rw [hsl],Yv _,(hheap g hgs).trans (Yf rfl),by rw [hsl];exact hn,hcap,by simp [Go.Sort.putCells,hcs],?_⟩⟩,Zet fun x hx=>hin x ((YaW l _).mem_iff.1 hx),hf⟩
      rw [hsl,← hfn];exact Zoe (by rw [hfn];exact hcl)
theorem ZqC (l:List Zg) (hl:l.length≤1000000):FnP prog 132 [.sl Zp l] (.sl Zp (ZbE ltE l)):=by
 refine FnP.mk func132 rfl ntmps132 rfl fun B a w F V hfr G=>?_
 have hll:=Sat.lenSl G (i:=0) rfl
 refine Ya (rZ G (qC qZ) V [2,0] [0] fun G=>Ya ?_)
 replace G:=G.fresh 101 rfl
 refine Zb G (qR rr (qf (Zav 101 (Zpw l ow) func124 rfl kr (Args.one .t) pvOne1) r1 r1 (qO rr qZ))) V [3,2] [101,0] (fun _=>rfl) (fun _=>rfl) fun τ a w F G=>?_
 try dsimp only [RS.sub,SF.sub,CF.sub,csub,Anc.sub,List.map,Zp] at G
 generalize τ 5=v5 at G
 refine Za (Ya (rZ G (qR rr (qf (Zbf 101 (Zts _ l ow) func173 rfl kr (Args.two .t .f)) r1 r1 qZ)) V [3,2] [101,0] fun G=>Ya ?_))
 refine Zb G (qR rr (qf (o_callRowN 101 (ZjO _ _ (by rw [Zi1];omega)) func175 rfl kr (Args.one .t) pvOne1) r1 r1 (qO rr qZ))) V [2] [101,0] (fun _=>rfl) (fun _=>rfl) fun τ a w F G=>?_
 try dsimp only [RS.sub,SF.sub,CF.sub,csub,Anc.sub,List.map,Zp] at G
 generalize τ 9=v9 at G
 refine Za (Yh ?_)
 obtain ⟨F,G⟩:=G.give 101 2 rfl rfl
 refine Zo hfr G rfl rfl rfl (.sl (Zl1 l))
theorem ZgY {α:Type} {lt:α→α→Bool} (h:STO lt):∀ {l m:List α},ZoE lt l→ZoE lt m→(∀ x,x ∈ l ↔ x ∈ m)→l=m
 | [],[],_,_,_=>rfl
 | [],y :: m,_,_,he=>by have:=(he y).2 (by simp);cases this
 | x :: l,[],_,_,he=>by have:=(he x).1 (by simp);cases this
 | x :: l,y :: m,hl,hm,he=>by
  obtain ⟨h1,h2⟩:=Yp.1 hl
  obtain ⟨h3,h4⟩:=Yp.1 hm
  have hxy:x=y:=by
   rcases Yi.1 ((he x).1 (by simp)) with e | hx
   ·exact e
   ·rcases Yi.1 ((he y).2 (by simp)) with e | hy
    ·exact e.symm
    ·have a1:=h1 y hy
     have a2:=h3 x hx
     have a3:=h.tr x y x a1 a2
     rw [h.irr x] at a3;cases a3
  subst hxy
  congr 1
  refine ZgY h h2 h4 fun z=>⟨fun hz=>?_,fun hz=>?_⟩
  ·rcases Yi.1 ((he z).1 (YB _ hz)) with e | h9
   ·subst e
    have:=h1 z hz
    rw [h.irr z] at this;cases this
   ·exact h9
  ·rcases Yi.1 ((he z).2 (YB _ hz)) with e | h9
   ·subst e
    have:=h3 z hz
    rw [h.irr z] at this;cases this
   ·exact h9
theorem Zj0 {l m:List Zg} (he:∀ x,x ∈ l ↔ x ∈ m):ZbE ltE l=ZbE ltE m:=
 ZgY ZbZ (Zbz ZbZ l).1 (Zbz ZbZ m).1 fun x=>by rw [(Zbz ZbZ l).2,(Zbz ZbZ m).2,he x]
structure HvD where
 edge:Zg
 cnt:Int
 deriving DecidableEq,Inhabited
def rHv (x:HvD):List PV:=[.int .i64 x.edge.src,.int .i64 x.edge.dst,.int .i64 x.edge.kind,.int .i64 x.edge.key,.int .i64 x.cnt]
def cntA (A:List (Zg×Int)) (R:List Zg) (e:Zg):Int:=ZmR A e+(R.count e:Int)
def Zgf (A:List (Zg×Int)) (R:List Zg):List Zg:=A.map Prod.fst++R
def ZgA (A:List (Zg×Int)) (R:List Zg):List HvD:=(ZbE ltE (Zgf A R)).map fun e=>⟨e,cntA A R e⟩
theorem ZfV {es:List (GE Zg Int)} {A:List (Zg×Int)} {R ks:List Zg} (hE:Zg4 es A R) (hk:ks.Perm (es.map (·.key))):ZbE ltE ks=ZbE ltE (Zgf A R):=Zj0 fun x=>by
 unfold Zgf
 rw [hk.mem_iff,YE,← hE.key x,ZeU]
theorem Zgw {A:List (Zg×Int)} {R:List Zg} : (ZgA A R).length=(ZbE ltE (Zgf A R)).length:=YM _
theorem Zd0 {g:Zt} (h:ZQ g):NE g.orders:=fun o ho=>by
 have h2:=(Zc6 g).2 h.2.2
 obtain ⟨j,hj,e⟩:=Yaf ho
 have:=(h2.2 j hj).2.1
 rwa [nth_eq hj,e] at this
theorem Zol {os:List OrdD} {k:Int} (hr:Zgc OrdD.key os) (h:isK OrdD.key k os=true):getO os k=(Nn os (lowK OrdD.key k os)).txs:=by
 obtain ⟨h1,h2⟩:=Zfw hr h
 have:=ZbS (ZY.1 hr) (nth_mem h1)
 rwa [h2] at this
theorem Znb {os:List OrdD} {k:Int} (hr:Zgc OrdD.key os) (hn:NE os):getO os k = [] ↔ isK OrdD.key k os=false:=by
 constructor
 ·intro h
  cases hk:isK OrdD.key k os with
  | false=>rfl
  | true=>
   rw [Zol hr hk] at h
   exact absurd h (hn _ (nth_mem (Zfw hr hk).1))
 ·exact Zs9
theorem Zsn {g:Zt} {key:Int} {rule:List Int→List Int×Int} (h:¬ ZQ g):turnedH g key rule=(Zdf,5):=Yf h
theorem Zsu {g:Zt} {key:Int} {rule:List Int→List Int×Int} (h:ZQ g) (h2:getO g.orders key = []):turnedH g key rule=(Zdf,3):=by
 unfold turnedH
 rw [Yc (YaO.2 h),Yf ((Znb (Z7 h).2 (Zd0 h)).1 h2)]
theorem Znn {g:Zt} {key:Int} (h:ZQ g) (h2:getO g.orders key≠[]):isK OrdD.key key g.orders=true:=by
 cases hk:isK OrdD.key key g.orders with
 | true=>rfl
 | false=>exact absurd ((Znb (Z7 h).2 (Zd0 h)).2 hk) h2
theorem Zsm {g:Zt} {key:Int} {rule:List Int→List Int×Int} (h:ZQ g) (h2:getO g.orders key≠[]) (h3:(rule (getO g.orders key)).2≠0):turnedH g key rule=(Zdf,(rule (getO g.orders key)).2):=by
 have hk:=Znn h h2
 have hg:=Zol (Z7 h).2 hk
 unfold turnedH
 rw [Yc (YaO.2 h),Yc (by simp [hk]),← hg,Yf h3]
theorem Zsa {g:Zt} {key:Int} {rule:List Int→List Int×Int} (h:ZQ g) (h2:getO g.orders key≠[]) (h3:(rule (getO g.orders key)).2=0) (h4:(rule (getO g.orders key)).1≠[]):turnedH g key rule=(⟨g.txs,ZcI OrdD.key ⟨key,(rule (getO g.orders key)).1⟩ g.orders (decide ((rule (getO g.orders key)).1 = []))⟩,0):=by
 have hk:=Znn h h2
 have hr:=(Z7 h).2
 have hg:=Zol hr hk
 unfold turnedH
 rw [Yc (YaO.2 h),Yc (by simp [hk]),← hg,Yc (by simp [h3]),YC h4,Znu (κ:=OrdD.key) (t:=⟨key,(rule (getO g.orders key)).1⟩) (ZY.1 hr) hk,(Zfw hr hk).2]
theorem ZdZ {l:List Int} {id place:Int} (h:(Zar l id place).2=0):(Zar l id place).1.Perm l:=by
 have h9:=h
 unfold Zar at h9
 split at h9
 ·simp at h9
 ·rename_i h1
  split at h9
  ·simp at h9
  ·rename_i h2
   refine ZlV ?_ (YaO.1 h2)
   refine Ya5 fun hm=>h1 ?_
   rw [Zg9 hm];decide
structure EdD where
 kind:Int
 t:TxD
 o:OrdD
 place:Int
 deriving DecidableEq,Inhabited
def Zn0 (e:EdD):Prop:=e.t.ops.length≤24∧e.o.txs.length≤24
instance (e:EdD):Decidable (Zn0 e):=by unfold Zn0;exact inferInstance
def Zsc (l:List EdD):Prop:=l.length≤24 ∧ ∀ e ∈ l,Zn0 e
instance (l:List EdD):Decidable (Zsc l):=by unfold Zsc;exact inferInstance
theorem ZgH {os:List OrdD} {k:Int} : (Z3 (fun o:OrdD=>decide (o.key=k)) os<0→getO os k = [])∧(¬ Z3 (fun o:OrdD=>decide (o.key=k)) os<0 → ∃ i:Nat,Z3 (fun o:OrdD=>decide (o.key=k)) os=i∧i<os.length∧getO os k=(Nn os i).txs):=by
 rcases ZbH (fun o:OrdD=>decide (o.key=k)) os with ⟨h1,h2⟩ | ⟨i,h1,h2,h3,h4⟩
 ·exact ⟨fun _=>Zt9 fun q hq=>by simpa using h2 q hq,fun h=>absurd (by rw [h1];decide) h⟩
 ·exact ⟨fun h=>by rw [h1] at h;omega,fun _=>⟨i,h1,h2,Zug h2 (by simpa using h3) fun q hq=>by simpa using h4 q hq⟩⟩
def Fit (n:Nat) (g:Zt):Prop:=(g.txs.length≤n ∧ ∀ t ∈ g.txs,t.ops.length≤24)∧g.orders.length≤24*n ∧ ∀ o ∈ g.orders,o.txs.length≤n
theorem Fit.small {n:Nat} {g:Zt} (h:Fit n g) (hn:n≤30):Zbc g:=by
 obtain ⟨⟨h1,h2⟩,h3,h4⟩:=h
 exact ⟨⟨by omega,fun t ht=>by have:=h2 t ht;omega⟩,by omega,fun o ho=>by have:=h4 o ho;omega⟩
theorem Fit.zero:Fit 0 Zdf:=⟨⟨by simp [Zdf],fun t ht=>by cases ht⟩,by simp [Zdf],fun o ho=>by cases ho⟩
theorem Fit.up {n:Nat} {g:Zt} (h:Fit n g):Fit (n+1) g:=⟨⟨by have:=h.1.1;omega,h.1.2⟩,by have:=h.2.1;omega,fun o ho=>by have:=h.2.2 o ho;omega⟩
theorem Fit.none {n:Nat} : Fit n Zdf:=by
 induction n with
 | zero=>exact Fit.zero
 | succ n ih=>exact ih.up
theorem Zma {n:Nat} {g:Zt} {key:Int} {rule:List Int→List Int×Int} (hr:∀ l,(rule l).2=0→(rule l).1.length≤l.length) (h:Fit n g):Fit n (turnedH g key rule).1:=by
 unfold turnedH
 split
 ·exact Fit.none
 ·split
  ·exact Fit.none
  ·split
   ·exact Fit.none
   ·rename_i h1 h2 h3
    refine ⟨h.1,by show (List.set _ _ _).length≤_;rw [YT];exact h.2.1,fun o ho=>?_⟩
    rcases List.mem_or_eq_of_mem_set ho with h4 | h4
    ·exact h.2.2 o h4
    ·have hk:isK OrdD.key key g.orders=true:=by simpa using h2
     have hlt:=(Zfw (Z7 (YaO.1 h1)).2 hk).1
     have:=hr _ (YaO.1 h3)
     have:=h.2.2 _ (nth_mem hlt)
     rw [h4];show (rule _).1.length≤n;omega
theorem Zri (o:OrdD) (key:Int):FnP prog 41 [.agg (ZP o),.ref [.int .i64 key]] (.bool (decide (o.key=key))):=by
 refine FnP.mk func41 rfl ntmps41 rfl fun B a w F V hfr G=>Ya ?_
 refine Zb G (qx 101 r1 qB) V [3,2,1] [101,0] (fun _=>rfl) (fun _=>rfl) fun τ a w F G=>?_
 try dsimp only [RS.sub,SF.sub,CF.sub,csub,Anc.sub,List.map,zCF,Zs,rTx,ZP,ZS,rInt,rOp] at G
 generalize τ 2=v2 at G
 refine Za (Ya (rZ G (qg 0 101 r1 r1 (qa 101 r1 r1 (qf (oR false 1 .t) r1 qz (qf (o_eql .t .t) r2 qz (qO rr qZ))))) V [3] [101,0] fun G=>Yh ?_))
 refine Zo hfr G rfl rfl rfl .refl
theorem Zlx (g:Zt) (key:Int) (hs:Zgu g.orders):FnP prog 16 [.agg (Zs g),.int .i64 key] (.sl rInt (getO g.orders key)):=by
 refine FnP.mk func16 rfl ntmps16 rfl fun B a w F V hfr G=>?_
 have hso:=hs.1
 refine Ya (Zb G (qx 101 r1 (qf (Zeu 102 .t one_int) r1 qz (qC qZ))) V [4,3,2] [102,101,0] (fun _=>rfl) (fun _=>rfl) fun τ a w F G=>?_)
 try dsimp only [RS.sub,SF.sub,CF.sub,csub,Anc.sub,List.map,zCF,Zs,rTx,ZP,ZS,rInt,rOp] at G
 generalize τ 2=v2 at G
 generalize τ 3=v3 at G
 refine Za (Ya (Zad 2 G kr (cG rfl (oF 1 101 .is) r1 r1 (cG rfl (oL false 1 101 .adr) r1 r1 ChainN.nil)) kr (by rw [V];kernel_rfl) fun a w F G=>?_))
 obtain ⟨F,G⟩:=G.nM [7,4,3,2] [102,101,0]
 try dsimp only [List.map,xD,xE,xT,xU,ldSF,Zs,rTx,ZP,ZS,rInt,rOp] at G
 obtain ⟨F,G⟩:=G.giveRef 102 3 rfl rfl rfl
 obtain ⟨F,G⟩:=G.nM [7,4,3,2] [101,0]
 try dsimp only [Go.Gm.unCF] at G
 refine Zax G kr (cG rfl (ZaH (Args.one .t)) r1 trivial (cG rfl (oP (Zs3 g.orders (fun o=>decide (o.key=key)) 41 f41 [.ref [.int .i64 key]] func41 rfl kr (fun o=>Zri o key)) func40 (Args.two .t .t)) r2 trivial (cG rfl (oN .t) r1 trivial ChainN.nil))) kr (by rw [V];kernel_rfl) fun a w F G=>?_
 obtain ⟨F,G⟩:=G.nM [5,4,2] [101,0]
 try dsimp only [Zs,rTx,ZP,ZS,rInt,rOp] at G
 refine Za (Ya (Ya (rZ G (qR rr (qf (Zay .t qi) r1 qz qZ)) V [11,5,4,2] [101,0] fun G=>?_)))
 refine Zc G rfl (fun hc0=>?_) (fun hc0=>?_)
 ·have hg:[] = getO g.orders key:=(ZgH.1 (by simpa using hc0)).symm
  refine Ya (rZ G (qC qZ) V [5,4,2] [101,0] fun G=>(Yh (Zk ?_)))
  refine Zo hfr G rfl rfl rfl (by first | exact .sl hg | (rw [← hg];exact .nilSl))
 obtain ⟨fi,hfi,hfl,hfg⟩:=ZgH.2 (show ¬ Z3 (fun o:OrdD=>decide (o.key=key)) g.orders<0 by simpa using hc0)
 have hg:(Nn g.orders (Z3 (fun o:OrdD=>decide (o.key=key)) g.orders).toNat).txs=getO g.orders key:=by rw [hfi,Yb,hfg]
 refine Ye (Za (Ya (Zf G (qg 1 101 r1 r1 (qa 101 r1 r1 (qR rr (qf (o_indexAddr_sl (sz:=2) (.mk underlying23 kr) (by intro x;rfl) .t .t (by rw [hfi];omega) (by rw [hfi];omega)) r2 qz (qf (oG 1 .t) r1 qz (qf (oR false 1 .t) r1 qz (qf (oP (cloneIP_c _ (by rw [hfi,Yb];have:=hs.at hfl;omega)) func42 (Args.one .t)) r1 qz (qO rr qZ)))))))) V [4] [101,0] rfl rfl fun a w F G=>?_)))
 try simp only [Yb] at G
 refine Za (Yh (Zo hfr G rfl rfl rfl (by first | exact .sl hg | (rw [← hg];exact .nilSl))))
theorem Zqi (x y:List OpD):FnP prog 144 [.sl rOp x,.sl rOp y] (.bool (decide (x=y))):=by
 refine FnP.mk func144 rfl ntmps144 rfl fun B a w F V hfr G=>?_
 have hxl:=Sat.lenSl G (i:=0) rfl
 refine Ya (rZ G qB V [4,1,0] [0] fun G=>(Ya (Ya ?_)))
 refine rZ G (qR rr (qu underlying28 r1 (qR rr (qu underlying28 r1 (qf (o_neq .t .t) r2 qz qZ))))) V [10,4,1,0] [0] fun G=>?_
 refine Zc G rfl (fun hc0=>?_) (fun hc0=>?_)
 ·have hg:false=decide (x=y):=by
    rw [Yaj,Yz]
    intro h
    subst h
    simp at hc0
  refine Ya (rZ G qB V [4,1,0] [0] fun G=>(Yh (Zk ?_)))
  refine Zo hfr G rfl rfl rfl (.bool hg)
 have hl:x.length=y.length:=by simp at hc0;omega
 refine Ye (Za (Ya (Ya (rZ G (qR rr (qu underlying28 r1 (qJ qZ))) V [13,12,4,1,0] [0] fun G=>Yg ?_))))
 obtain ⟨F,G⟩:=G.nM [13,12,1,0] [0]
 refine Za2 (σ:=Nat) (fun s=>(⟨[(0,.pv (.sl rOp x)),(1,.pv (.sl rOp y)),(12,.pv (.int .i64 x.length)),(13,.pv (.int .i64 s))],[(0,frame B)]⟩:En)) (fun s=>s≤x.length ∧ ∀ j,j<s→Nn x j=Nn y j) (fun s=>x.length - s) 0 G ⟨Yv _,fun j hj=>absurd hj (YX j)⟩ ?_
 clear G;intro i a w F hC G
 try dsimp only at hC
 try dsimp only at G
 obtain ⟨hi,hq⟩:=hC
 refine Ya (rZ G (qL r2) V [14,13,12,1,0] [0] fun G=>Ya ?_)
 refine Zc G rfl (fun hc1=>?_) (fun hc1=>?_)
 ·have hil:i<x.length:=by simp at hc1;omega
  refine Ye (Za (Ya (Yg (Ya (rZ G (qR rr (qO rr qZ)) V [13,12,5,1,0] [0] fun G=>Ya ?_)))))
  refine Zx G (qR rr (qR rr (qy 4 underlying28 r2 (qf (oR true 4 .t) r1 qz (qR rr (qR rr (qy 4 underlying28 r2 (qf (oR true 4 .t) r1 qz (qf (o_neqS (ks:=[false,true,true,true]) kr .t .t (.bool (.int (.int (.int .nil))))) r2 qz qZ))))))))) V [24,13,12,1,0] [0] rfl rfl fun a w F G=>?_
  try dsimp only [List.map,xD,xE,xT,xU,ldSF] at G
  refine Za (Zc G rfl (fun hc2=>?_) (fun hc2=>?_))
  ·have hg:false=decide (x=y):=by
     rw [Yaj,Yz]
     intro h
     subst h
     simp at hc2
   refine Ya (rZ G qB V [13,12,4,1,0] [0] fun G=>(Yh (Zu (Zk (Zk (Zu (Zk ?_)))))))
   refine Zo hfr G rfl rfl rfl (.bool hg)
  rw [Yb] at hc2
  have hqi:Nn x i=Nn y i:=ZuN hc2
  refine Ye (Zj (Za (rZ G (qp r1 (qR rr qZ)) V [13,12,1,0] [0] fun G=>?_)))
  replace G:=G.ent (i:=13) (s':=.pv (.int .i64 ((i+1:Nat):Int))) rfl (.int (Zd ow))
  obtain ⟨F,G⟩:=G.nM [13,12,1,0] [0]
  exact ⟨i+1,F,⟨by omega,fun j hj=>by rcases YS (YY hj) with h | h;exact hq j h;rw [h];exact hqi⟩,G,by omega⟩
 have hg:true=decide (x=y):=by
   rw [Yaj,Yq]
   exact Zan hl fun j hj=>hq j (by simp at hc1;omega)
 refine Yw (Zi (Zi (Zn (Za (Ya (rZ G qB V [4] [0] fun G=>Yh ?_))))))
 refine Zo hfr G rfl rfl rfl (.bool hg)
theorem ZtX (u v:TxD):((decide (u.id=v.id) && (u.done == v.done)) && decide (u.ops=v.ops))=decide (u=v):=by
 cases u;cases v
 rw [Yan]
 simp [and_assoc]
theorem Zrl (x y:List OpD):FnP prog 99 [.sl rOp x,.sl rOp y] (.bool (decide (x=y))):=by
 refine FnP.mk func99 rfl ntmps99 rfl fun B a w F V hfr G=>Ya ?_
 refine rZ G qB V [4,1,0] [0] fun G=>Ya ?_
 refine rZ G (qR rr (qR rr (qf (oP (Zqi x y) func144 (Args.two .t .t)) r2 qz (qO rr qZ)))) V [4] [0] fun G=>Yh ?_
 refine Zo hfr G rfl rfl rfl .refl
theorem ZqY (u v:TxD):FnP prog 55 [.agg (rTx u),.agg (rTx v)] (.bool (decide (u=v))):=by
 refine FnP.mk func55 rfl ntmps55 rfl fun B a w F V hfr G=>Ya ?_
 refine Zb G (qx 101 r1 (qx 102 r1 qB)) V [4,3,2] [102,101,0] (fun _=>rfl) (fun _=>rfl) fun τ a w F G=>?_
 try dsimp only [RS.sub,SF.sub,CF.sub,csub,Anc.sub,List.map,zCF,rTx,rOp] at G
 generalize τ 2=v2 at G
 generalize τ 3=v3 at G
 refine Za (Ya (rZ G (qg 0 101 r1 r1 (qa 101 r1 r1 (qg 0 102 r1 r1 (qa 102 r1 r1 (qf (o_eql .t .t) r2 qz (qR rr (qv 1 101 rfl r2 r1 (qw 101 rfl r2 r1 (qv 1 102 rfl r2 r1 (qw 102 rfl r2 r1 (qk rfl (fun h=>Zse underlying4 (.w h) (.w h)) r3 qz (qf (ZD .t .t) r2 qz (qR rr (qv 2 101 rfl r2 r1 (qw 101 rfl r2 r1 (qv 2 102 rfl r2 r1 (qw 102 rfl r2 r1 (qk rfl (fun h=>oP (Zrl u.ops v.ops) func99 (Args.two (.w h) (.w h))) r3 qz (qf (ZD .t .t) r2 qz (qO rr qZ)))))))))))))))))))) V [4] [102,101,0] fun G=>Yh ?_))
 refine Zo hfr G rfl rfl rfl (.bool (ZtX u v))
theorem ZvC (x y : List TxD) (f : FuncId) (fn : Func) (cps : List PV) (hf : prog.funcs[f]? = some fn) (hb : fn.body.isSome = true) (hnn : (fn.name == "runtime.NumGoroutine") = false) (hw : ∀ u v : TxD, FnP prog f (.agg (rTx u) :: .agg (rTx v) :: cps) (.bool (decide (u = v)))) : FnP prog 54 [.sl rTx x, .sl rTx y, .clos f cps] (.bool (decide (x = y))) := by
 refine FnP.mk func54 rfl ntmps54 rfl fun B a w F V hfr G=>?_
 have hxl:=Sat.lenSl G (i:=0) rfl
 refine Ya (rZ G qB V [6,2,1,0] [0] fun G=>(Ya (Ya ?_)))
 refine rZ G (qR rr (qu underlying22 r1 (qR rr (qu underlying22 r1 (qf (o_neq .t .t) r2 qz qZ))))) V [14,6,2,1,0] [0] fun G=>?_
 refine Zc G rfl (fun hc0=>?_) (fun hc0=>?_)
 ·skip
  have hg:false=decide (x=y):=(YC fun e=>by subst e;simp at hc0).symm
  refine Ya (rZ G qB V [6,2,1,0] [0] fun G=>(Yh (Zk ?_)))
  refine Zo hfr G rfl rfl rfl (.bool hg)
 have hln:x.length=y.length:=by simp at hc0;omega
 refine Ye (Za (Ya (Ya (rZ G (qR rr (qu underlying22 r1 (qJ qZ))) V [17,16,15,6,2,1] [0] fun G=>Yg ?_))))
 refine Zl (σ:=(Nat)) [1,2,6,15,16] [0] (fun s=>[(17,.pv (.int .i64 (s:Int)))]) (fun s=>[]) (fun s=>s≤x.length∧(∀ q,q<s→Nn x q=Nn y q)) (fun s=>x.length - s) (0) G ⟨rfl,rfl,rfl,rfl,rfl,rfl,tv⟩ ⟨rfl,tv⟩ ⟨Yv _,fun q hq=>absurd hq (YX q)⟩ ?_
 clear G;intro i a w F hC G
 try dsimp only at hC
 obtain ⟨F,G⟩:=G.nM [17,16,15,6,2,1] [0]
 try dsimp only at G
 obtain ⟨hi,hq⟩:=hC
 refine Ya (rZ G (qL r2) V [18,17,16,15,6,2,1] [0] fun G=>Ya ?_)
 refine Zc G rfl (fun hc1=>?_) (fun hc1=>?_)
 ·skip
  have hil:i<x.length:=by simp at hc1;omega
  refine Ye (Za (Ya (Yg (Ya (Zb G (qR rr (qy 3 underlying22 r2 (qf (oR true 3 .t) r1 qz (qf (oH [.int .i64 0,.bool false,.slice none 0 0] 101) trivial qz (qO rr (qS 3 101 r2 r1 qZ)))))) V [17,16,15,8,7,6,2,1] [101,0] (fun _=>rfl) (fun _=>rfl) fun τ a w F G=>?_)))))
  try dsimp only [RS.sub,SF.sub,CF.sub,csub,Anc.sub,List.map,Ze,xL,xM,Nat.reduceAdd,xD,xE,xT,xU,xC,xN,zCF,ldSF,rTx] at G
  generalize τ 8=v8 at G
  try simp only [Yb] at G
  refine Za (Ya (Zb G (qR rr (qR rr (qy 3 underlying22 r2 (qf (oR true 3 .t) r1 qz (qf (oH [.int .i64 0,.bool false,.slice none 0 0] 102) trivial qz (qS 3 102 r2 r1 qZ)))))) V [17,16,15,9,8,6,2,1] [102,101,0] (fun _=>rfl) (fun _=>rfl) fun τ a w F G=>?_))
  try dsimp only [RS.sub,SF.sub,CF.sub,csub,Anc.sub,List.map,Ze,xL,xM,Nat.reduceAdd,xD,xE,xT,xU,xC,xN,zCF,ldSF,rTx] at G
  generalize τ 9=v9 at G
  try simp only [Yb] at G
  refine Za (Ya (rZ G (qR rr (qe 3 101 r1 r1 (qe 3 102 r1 r1 (qf (ZN (avs:=[.agg (rTx (Nn x i)),.agg (rTx (Nn y i))]) .t (hw (Nn x i) (Nn y i)) hf hb hnn (Args.two (.pagg .t) (.pagg .t))) r3 qz (qf (o_not .t) r1 qz qZ))))) V [30,17,16,15,6,2,1] [102,101,0] fun G=>?_))
  refine Zc G rfl (fun hc2=>?_) (fun hc2=>?_)
  ·skip
   have hg:false=decide (x=y):=(YC fun e=>by subst e;simp at hc2).symm
   refine Ya (rZ G qB V [17,16,15,6,2,1] [102,101,0] fun G=>(Yh (Zu (Zk (Zk (Zu (Zk ?_)))))))
   refine Zo hfr G rfl rfl rfl (.bool hg)
  have hne:(Nn x i)=(Nn y i):=by simpa using hc2
  refine Ye (Zj (Za (rZ G (qp r1 (qR rr qZ)) V [17,16,15,6,2,1] [102,101,0] fun G=>?_)))
  replace G:=G.ent (i:=17) (s':=.pv (.int .i64 ((i+1:Nat):Int))) rfl (.int (Zd ow))
  obtain ⟨F,G⟩:=G.nM [16,15,6,2,1,17] [0]
  exact ⟨(i+1),F,⟨by omega,(fun q h9=>by rcases YS (YY h9) with h8 | h8;exact hq q h8;rw [h8];exact hne)⟩,G,by omega⟩
 have hil:i=x.length:=by simp at hc1;omega
 have hg:true=decide (x=y):=(Yab (Zan hln fun j hj=>hq j ow)).symm
 refine Yw (Zi (Zi (Zn (Za (Ya (rZ G qB V [6] [0] fun G=>Yh ?_))))))
 refine Zo hfr G rfl rfl rfl (.bool hg)
theorem Zvz (x y : List OrdD) (f : FuncId) (fn : Func) (cps : List PV) (hf : prog.funcs[f]? = some fn) (hb : fn.body.isSome = true) (hnn : (fn.name == "runtime.NumGoroutine") = false) (hw : ∀ u v : OrdD, FnP prog f (.agg (ZP u) :: .agg (ZP v) :: cps) (.bool (decide (u = v)))) : FnP prog 56 [.sl ZP x, .sl ZP y, .clos f cps] (.bool (decide (x = y))) := by
 refine FnP.mk func56 rfl ntmps56 rfl fun B a w F V hfr G=>?_
 have hxl:=Sat.lenSl G (i:=0) rfl
 refine Ya (rZ G qB V [6,2,1,0] [0] fun G=>(Ya (Ya ?_)))
 refine rZ G (qR rr (qu underlying23 r1 (qR rr (qu underlying23 r1 (qf (o_neq .t .t) r2 qz qZ))))) V [14,6,2,1,0] [0] fun G=>?_
 refine Zc G rfl (fun hc0=>?_) (fun hc0=>?_)
 ·skip
  have hg:false=decide (x=y):=(YC fun e=>by subst e;simp at hc0).symm
  refine Ya (rZ G qB V [6,2,1,0] [0] fun G=>(Yh (Zk ?_)))
  refine Zo hfr G rfl rfl rfl (.bool hg)
 have hln:x.length=y.length:=by simp at hc0;omega
 refine Ye (Za (Ya (Ya (rZ G (qR rr (qu underlying23 r1 (qJ qZ))) V [17,16,15,6,2,1] [0] fun G=>Yg ?_))))
 refine Zl (σ:=(Nat)) [1,2,6,15,16] [0] (fun s=>[(17,.pv (.int .i64 (s:Int)))]) (fun s=>[]) (fun s=>s≤x.length∧(∀ q,q<s→Nn x q=Nn y q)) (fun s=>x.length - s) (0) G ⟨rfl,rfl,rfl,rfl,rfl,rfl,tv⟩ ⟨rfl,tv⟩ ⟨Yv _,fun q hq=>absurd hq (YX q)⟩ ?_
 clear G;intro i a w F hC G
 try dsimp only at hC
 obtain ⟨F,G⟩:=G.nM [17,16,15,6,2,1] [0]
 try dsimp only at G
 obtain ⟨hi,hq⟩:=hC
 refine Ya (rZ G (qL r2) V [18,17,16,15,6,2,1] [0] fun G=>Ya ?_)
 refine Zc G rfl (fun hc1=>?_) (fun hc1=>?_)
 ·skip
  have hil:i<x.length:=by simp at hc1;omega
  refine Ye (Za (Ya (Yg (Ya (Zb G (qR rr (qy 2 underlying23 r2 (qf (oR true 2 .t) r1 qz (qf (oH [.int .i64 0,.slice none 0 0] 101) trivial qz (qO rr (qS 2 101 r2 r1 qZ)))))) V [17,16,15,8,7,6,2,1] [101,0] (fun _=>rfl) (fun _=>rfl) fun τ a w F G=>?_)))))
  try dsimp only [RS.sub,SF.sub,CF.sub,csub,Anc.sub,List.map,Ze,xL,xM,Nat.reduceAdd,xD,xE,xT,xU,xC,xN,zCF,ldSF,ZP] at G
  generalize τ 8=v8 at G
  try simp only [Yb] at G
  refine Za (Ya (Zb G (qR rr (qR rr (qy 2 underlying23 r2 (qf (oR true 2 .t) r1 qz (qf (oH [.int .i64 0,.slice none 0 0] 102) trivial qz (qS 2 102 r2 r1 qZ)))))) V [17,16,15,9,8,6,2,1] [102,101,0] (fun _=>rfl) (fun _=>rfl) fun τ a w F G=>?_))
  try dsimp only [RS.sub,SF.sub,CF.sub,csub,Anc.sub,List.map,Ze,xL,xM,Nat.reduceAdd,xD,xE,xT,xU,xC,xN,zCF,ldSF,ZP] at G
  generalize τ 9=v9 at G
  try simp only [Yb] at G
  refine Za (Ya (rZ G (qR rr (qe 2 101 r1 r1 (qe 2 102 r1 r1 (qf (ZN (avs:=[.agg (ZP (Nn x i)),.agg (ZP (Nn y i))]) .t (hw (Nn x i) (Nn y i)) hf hb hnn (Args.two (.pagg .t) (.pagg .t))) r3 qz (qf (o_not .t) r1 qz qZ))))) V [30,17,16,15,6,2,1] [102,101,0] fun G=>?_))
  refine Zc G rfl (fun hc2=>?_) (fun hc2=>?_)
  ·skip
   have hg:false=decide (x=y):=(YC fun e=>by subst e;simp at hc2).symm
   refine Ya (rZ G qB V [17,16,15,6,2,1] [102,101,0] fun G=>(Yh (Zu (Zk (Zk (Zu (Zk ?_)))))))
   refine Zo hfr G rfl rfl rfl (.bool hg)
  have hne:(Nn x i)=(Nn y i):=by simpa using hc2
  refine Ye (Zj (Za (rZ G (qp r1 (qR rr qZ)) V [17,16,15,6,2,1] [102,101,0] fun G=>?_)))
  replace G:=G.ent (i:=17) (s':=.pv (.int .i64 ((i+1:Nat):Int))) rfl (.int (Zd ow))
  obtain ⟨F,G⟩:=G.nM [16,15,6,2,1,17] [0]
  exact ⟨(i+1),F,⟨by omega,(fun q h9=>by rcases YS (YY h9) with h8 | h8;exact hq q h8;rw [h8];exact hne)⟩,G,by omega⟩
 have hil:i=x.length:=by simp at hc1;omega
 have hg:true=decide (x=y):=(Yab (Zan hln fun j hj=>hq j ow)).symm
 refine Yw (Zi (Zi (Zn (Za (Ya (rZ G qB V [6] [0] fun G=>Yh ?_))))))
 refine Zo hfr G rfl rfl rfl (.bool hg)
theorem ZtJ (u v:OrdD):FnP prog 57 [.agg (ZP u),.agg (ZP v)] (.bool (decide (u=v))):=by
 refine FnP.mk func57 rfl ntmps57 rfl fun B a w F V hfr G=>Ya ?_
 refine Zb G (qx 101 r1 (qx 102 r1 qB)) V [4,3,2] [102,101,0] (fun _=>rfl) (fun _=>rfl) fun τ a w F G=>?_
 try dsimp only [RS.sub,SF.sub,CF.sub,csub,Anc.sub,List.map,zCF,Zs,rTx,ZP,ZS,rInt,rOp] at G
 generalize τ 2=v2 at G
 generalize τ 3=v3 at G
 refine Za (Ya (rZ G (qg 0 101 r1 r1 (qa 101 r1 r1 (qg 0 102 r1 r1 (qa 102 r1 r1 (qf (o_eql .t .t) r2 qz (qR rr (qv 1 101 rfl r2 r1 (qw 101 rfl r2 r1 (qv 1 102 rfl r2 r1 (qw 102 rfl r2 r1 (qk rfl (fun h=>oP (Zt7 u.txs v.txs) func58 (Args.two (.w h) (.w h))) r3 qz (qf (ZD .t .t) r2 qz (qO rr qZ))))))))))))) V [4] [102,101,0] fun G=>Yh ?_))
 refine Zo hfr G rfl rfl rfl (.bool (Ztl))
theorem Zui (u v:Zt):FnP prog 25 [.agg (Zs u),.agg (Zs v)] (.bool (decide (u=v))):=by
 refine FnP.mk func25 rfl ntmps25 rfl fun B a w F V hfr G=>Ya ?_
 refine Zb G (qx 101 r1 (qx 102 r1 qB)) V [4,3,2] [102,101,0] (fun _=>rfl) (fun _=>rfl) fun τ a w F G=>?_
 try dsimp only [RS.sub,SF.sub,CF.sub,csub,Anc.sub,List.map,zCF,Zs,rTx,ZP,ZS,rInt,rOp] at G
 generalize τ 2=v2 at G
 generalize τ 3=v3 at G
 refine Za (Ya (rZ G (qg 0 101 r1 r1 (qa 101 r1 r1 (qg 0 102 r1 r1 (qa 102 r1 r1 (qf (oP (ZvC u.txs v.txs 55 f55 [] func55 rfl kr (fun a b=>ZqY a b)) func54 (Args.three .t .t (.conv .f (Ent.fnClos)))) r2 qz (qR rr (qv 1 101 rfl r2 r1 (qw 101 rfl r2 r1 (qv 1 102 rfl r2 r1 (qw 102 rfl r2 r1 (qk rfl (fun h=>oP (Zvz u.orders v.orders 57 f57 [] func57 rfl kr (fun a b=>ZtJ a b)) func56 (Args.three (.w h) (.w h) (.conv .f (Ent.fnClos)))) r3 qz (qf (ZD .t .t) r2 qz (qO rr qZ))))))))))))) V [4] [102,101,0] fun G=>Yh ?_))
 refine Zo hfr G rfl rfl rfl (.bool (ZqF u v))
instance (l:List TxD):Decidable (Za0 l):=by unfold Za0;exact inferInstance
instance (l:List OrdD):Decidable (Zgu l):=by unfold Zgu;exact inferInstance
instance (g:Zt):Decidable (Zbc g):=by unfold Zbc;exact inferInstance
theorem Ze9 {l:List TxD} {k x:Int} : x ∈ Z0 l k ↔ ∃ t ∈ l,t.id=x∧t.done=true∧0<wcnt t.ops k:=by
 unfold Z0
 rw [Yu]
 constructor
 ·rintro ⟨t,ht,e⟩
  rw [Y4] at ht
  simp at ht
  exact ⟨t,ht.1,e,ht.2.1,ht.2.2⟩
 ·rintro ⟨t,ht,e,h1,h2⟩
  exact ⟨t,by rw [Y4];simp [ht,h1,h2],e⟩
theorem ZhQ {l:List TxD} (h:Zgc TxD.id l) (k:Int):(Z0 l k).Nodup:=by
 unfold Z0
 have h1:(l.map TxD.id).Nodup:=(Ybf.2 (ZY.1 h)).imp fun h=>Int.ne_of_lt h
 exact (h1.sublist ((List.filter_sublist).map _))
theorem ZqP {l:List TxD} (h:Zgc TxD.id l) {t:TxD} (ht:t ∈ l):Zaj l t.id=some t:=by
 have h:=ZY.1 h
 induction l with
 | nil=>cases ht
 | cons x l ih=>
  rw [Yp] at h
  unfold Zaj
  rw [List.find?_cons]
  rcases Yi.1 ht with rfl | ht
  ·simp
  ·have:=h.1 t ht
   rw [show decide (x.id=t.id)=false by simp;omega]
   exact ih (ZY.2 h.2) ht h.2
theorem Zd2 {g:Zt} : ZQ g ↔ g.txs.length≤4096∧Zgc TxD.id g.txs∧(∀ t ∈ g.txs,ZbV t=0∧ZnT g t=true)∧Zgc OrdD.key g.orders∧NE g.orders ∧ ∀ k,(getO g.orders k).Perm (Z0 g.txs k):=by
 constructor
 ·intro h
  obtain ⟨r1',r2'⟩:=Z7 h
  have hne:=Zd0 h
  have h2:=(Zc6 g).2 h.2.2
  refine ⟨h.1,r1',fun t ht=>?_,r2',hne,fun k=>?_⟩
  ·obtain ⟨j,hj,e⟩:=Yaf ht
   have:=(h.2.1 j hj).2
   rwa [nth_eq hj,e] at this
  ·by_cases hk:getO g.orders k = []
   ·rw [hk]
    have hw:Z0 g.txs k = []:=by
     refine Ya5 fun hw=>?_
     obtain ⟨j,hj,e⟩:=Yaf (ZcP.2 hw)
     have hjo:j<g.orders.length:=by rw [h.2.2.1];exact hj
     have h3:=(h.2.2.2 j hjo).1
     rw [nth_eq hj,e] at h3
     have h4:=ZbS (ZY.1 r2') (nth_mem hjo)
     rw [h3,hk] at h4
     exact hne _ (nth_mem hjo) h4.symm
    rw [hw]
   ·have hm:=Zej hk
    obtain ⟨j,hj,e⟩:=Yaf hm
    have:=(h2.2 j hj).2.2
    rw [nth_eq hj,e] at this
    exact this
 ·rintro ⟨h1,h2,h3,h4,h5,h6⟩
  have hk:g.orders.map OrdD.key=Zco g.txs:=by
   refine Zd7 (Ybf.2 (ZY.1 h4)) (ZR _).1 fun k=>?_
   rw [ZcP,Yu]
   constructor
   ·rintro ⟨o,ho,rfl⟩ e
    have:=h6 o.key
    rw [e,ZbS (ZY.1 h4) ho] at this
    exact h5 o ho this.eq_nil
   ·intro e
    have:getO g.orders k≠[]:=fun e2=>by
     have:=h6 k
     rw [e2] at this
     exact e this.symm.eq_nil
    exact ⟨_,Zej this,rfl⟩
  have hlen:g.orders.length=(Zco g.txs).length:=by rw [← hk,YM]
  refine ⟨h1,fun i hi=>?_,(Zc6 g).1 ⟨hlen,fun i hi=>?_⟩⟩
  ·obtain ⟨g1,g2⟩:=h3 _ (nth_mem hi)
   exact ⟨fun h0=>h2 (i - 1) i ow hi,g1,g2⟩
  ·refine ⟨fun h0=>h4 (i - 1) i ow hi,h5 _ (nth_mem hi),?_⟩
   have:=h6 (Nn g.orders i).key
   rwa [ZbS (ZY.1 h4) (nth_mem hi)] at this
theorem Zez {g:Zt} {key:Int} {rule:List Int→List Int×Int} (hp:∀ l,(rule l).2=0→(rule l).1.Perm l) (h:(turnedH g key rule).2=0):ZQ (turnedH g key rule).1:=by
 by_cases hr:ZQ g
 ·by_cases hg:getO g.orders key = []
  ·rw [Zsu hr hg] at h;simp at h
  ·by_cases h3:(rule (getO g.orders key)).2=0
   ·have hpp:=hp _ h3
    have hne:(rule (getO g.orders key)).1≠[]:=fun e=>hg (by rw [e] at hpp;exact hpp.symm.eq_nil)
    rw [Zsa hr hg h3 hne,YC hne]
    obtain ⟨h1,h2,h4,h5,h6,h7⟩:=Zd2.1 hr
    refine Zd2.2 ⟨h1,h2,fun t ht=>?_,ZY.2 (Zg6 (ZY.1 h5)),fun o ho=>?_,fun k=>?_⟩
    ·obtain ⟨g1,g2⟩:=h4 t ht
     exact ⟨g1,g2⟩
    ·rcases ZiM ho with ⟨rfl,_⟩ | ⟨g1,_⟩
     ·exact hne
     ·exact h6 o g1
    ·show (getO (ZcI OrdD.key _ g.orders false) k).Perm _
     rw [Zkj (ZY.1 h5)]
     by_cases e:k=key
     ·subst e
      rw [Yf rfl]
      exact hpp.trans (h7 k)
     ·rw [Yc e];exact h7 k
   ·rw [Zsm hr hg h3] at h;exact absurd h h3
 ·rw [Zsn hr] at h;simp at h
structure Zo3 where
 tx:Int
 place:Int
 vof:Zcg
 deriving DecidableEq,Inhabited
def Zh0 (b:Zo3):List PV:=[.int .i64 b.tx,.int .i64 b.place,.int .i64 b.vof.tx,.int .i64 b.vof.key,.int .i64 b.vof.nth]
def uOf (g:Zt) (o:OpD):TxD:=(Zaj g.txs o.tx).getD zeroT
def Zil (t u:TxD) (o:OpD) (phen:Int):Bool:=t.done && (if phen=2 then !u.done else decide (phen=3) && decide (o.nth<(wcnt u.ops o.key:Int)))
def ZrF (g:Zt) (phen:Int) (t:TxD) (o:OpD):Bool:=ZhH t.id o && Zil t (uOf g o) o phen
def ZdM (g:Zt) (phen:Int) (p:Int→Bool) (t:TxD) (l:List OpD):List Zo3:=(l.zipIdx.filter fun x=>p x.1.key && ZrF g phen t x.1).map fun x=>⟨t.id,(x.2:Int),ofO x.1⟩
theorem Zdo {g:Zt} {phen:Int} {p:Int→Bool} {t:TxD} {l:List OpD} {j:Nat} (hj:j<l.length):ZdM g phen p t (l.take (j+1))=ZdM g phen p t (l.take j)++if (p (Nn l j).key && ZrF g phen t (Nn l j))=true then [⟨t.id,j,ofO (Nn l j)⟩] else []:=by
 unfold ZdM
 rw [Zr hj,List.zipIdx_append,Yae,YQ]
 congr 1
 rw [Yj,show min j l.length=j by omega]
 by_cases h:(p (Nn l j).key && ZrF g phen t (Nn l j))=true
 ·rw [Yf h,List.zipIdx_cons,Yar (by simpa using h)];simp
 ·rw [Yc h,List.zipIdx_cons,Yaw (by simpa using h)];simp
theorem ZgP (g:Zt) (phen:Int) (p:Int→Bool) (t:TxD) (l:List OpD):(ZdM g phen p t l).length≤l.length:=by
 unfold ZdM
 rw [YM]
 exact Y5 (Yai _ _) (by simp)
def badsG (g:Zt) (phen:Int) (p:Int→Bool) (l:List TxD):List Zo3:=l.flatMap fun t=>ZdM g phen p t t.ops
theorem ZlW {g:Zt} {phen:Int} {p:Int→Bool} {l:List TxD} {i:Nat} (hi:i<l.length):badsG g phen p (l.take (i+1))=badsG g phen p (l.take i)++ZdM g phen p (Nn l i) (Nn l i).ops:=by
 unfold badsG
 rw [Zr hi,YR]
 simp
theorem Zk6 {g:Zt} {phen:Int} {p:Int→Bool} {l:List TxD} (h:Za0 l) (i:Nat):(badsG g phen p (l.take i)).length≤1000*i:=by
 have key:∀ l:List TxD,(∀ t ∈ l,t.ops.length≤1000)→(badsG g phen p l).length≤1000*l.length:=by
  intro l
  induction l with
  | nil=>intro _;simp [badsG]
  | cons t l ih=>
   intro h
   have h1:=ih fun x hx=>h x (by simp [hx])
   have h2:=h t (by simp)
   have h3:=ZgP g phen p t t.ops
   unfold badsG at h1 ⊢
   rw [Y1,Yd,Yl]
   omega
 have h1:=key (l.take i) fun t ht=>h.2 t (YaS ht)
 have h2:(l.take i).length≤i:=by rw [Yj];omega
 exact Y5 h1 (Ybj _ h2)
def ZaQ (g:Zt) (phen:Int) (p:Int→Bool):List Zo3:=if ZQ g then badsG g phen p g.txs else []
theorem Zpc {g:Zt} (hr:∀ i,i<g.txs.length→ZmM g i):Zdg (g.txs.map TxD.id):=Ze7 fun i hi h0=>by
 have hi':i<g.txs.length:=by simpa using hi
 rw [Zcx ow,Zcx hi']
 exact (hr i hi').1 h0
theorem ZuP {g:Zt} (hr:∀ i,i<g.txs.length→ZmM g i) {i k:Nat} (hi:i<g.txs.length) (hk:k<i):(Nn g.txs k).id<(Nn g.txs i).id:=by
 have h:=Yaz.1 (Zpc hr) k i (by simp;omega) (by simpa using hi) hk
 rw [nth_eq hi,nth_eq ow]
 simpa using h
def Ztq (es:List (GE Int TxD)) (l:List TxD):Prop:=∀ id,gGet id es=Zaj l id
theorem ZsN {g:Zt} (hr:∀ i,i<g.txs.length→ZmM g i) {es:List (GE Int TxD)} {ck i:Nat} (h:Ztq es (g.txs.take i)) (hi:i<g.txs.length):Ztq (gPut (Nn g.txs i).id (Nn g.txs i) (es,ck)).1 (g.txs.take (i+1)):=fun id=>by
 rw [Zc1,h id]
 unfold Zaj
 rw [Zr hi,List.find?_append]
 by_cases e:id=(Nn g.txs i).id
 ·subst e
  have hn:(g.txs.take i).find? (fun t=>decide (t.id=(Nn g.txs i).id))=none:=by
   rw [YbH]
   intro x hx
   obtain ⟨k,hk,e⟩:=Yaf hx
   rw [Yj] at hk
   have:=ZuP hr hi (show k<i by omega)
   rw [nth_eq ow] at this
   rw [List.getElem_take] at e
   rw [e] at this
   simp;omega
  simp [hn]
 ·rw [Yc e]
  have hn:[Nn g.txs i].find? (fun t=>decide (t.id=id))=none:=by simp;exact fun h=>e h.symm
  rw [hn];simp
theorem ZtR {u v:Zo3} {r:Bool} (h:(decide (u.tx=v.tx) && (decide (u.place=v.place) && (decide (u.vof.tx=v.vof.tx) && (decide (u.vof.key=v.vof.key) && (decide (u.vof.nth=v.vof.nth) && true)))))=r):r=decide (u=v):=by
 obtain ⟨a,b,c,d,e⟩:=u;obtain ⟨a',b',c',d',e'⟩:=v
 rw [← h,Yan]
 simp
end Go.Proofs.YtlkpllemoepamaaGreat
