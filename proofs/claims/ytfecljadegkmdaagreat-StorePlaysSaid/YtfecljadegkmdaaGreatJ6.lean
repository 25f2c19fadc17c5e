/- Laws and walks. No condition beyond what each says. -/
import Derived.Test.YtfecljadegkmdaaGreatJ5
namespace Go.Proofs.YtfecljadegkmdaaGreat
open Go Go.Gm Tryz
set_option linter.unusedVariables false
set_option linter.unusedSimpArgs false
set_option maxHeartbeats 4000000
set_option maxRecDepth 8000
instance (d:ZK):Decidable (Zf9 d):=by unfold Zf9;exact inferInstance
theorem Zm1:ZG (⟨[(⟨1,true,[⟨false,5,0,0⟩]⟩:TxD)],[⟨5,[1]⟩]⟩:Zw):=by decide +kernel
theorem Zjw:ZG (⟨[],[]⟩:Zw):=by decide +kernel
theorem lx1:ofD (⟨[],[]⟩:Zw) (⟨[(⟨1,true,[⟨false,5,0,0⟩]⟩:TxD)],[⟨5,[1]⟩]⟩:Zw)=((⟨[],[(⟨1,true,[⟨false,5,0,0⟩]⟩:TxD)],[],[⟨5,[1]⟩]⟩:ZK),0):=by decide +kernel
theorem lx1i:ofD (⟨[(⟨1,true,[⟨false,5,0,0⟩]⟩:TxD)],[⟨5,[1]⟩]⟩:Zw) (⟨[],[]⟩:Zw)=((⟨[(⟨1,true,[⟨false,5,0,0⟩]⟩:TxD)],[],[⟨5,[1]⟩],[]⟩:ZK),0):=by decide +kernel
theorem lx2:ZE (⟨[],[]⟩:Zw) (⟨[],[(⟨1,true,[⟨false,5,0,0⟩]⟩:TxD)],[],[⟨5,[1]⟩]⟩:ZK)=((⟨[(⟨1,true,[⟨false,5,0,0⟩]⟩:TxD)],[⟨5,[1]⟩]⟩:Zw),0):=by have h:=ZiW Zjw Zm1;rwa [lx1] at h
theorem lx3:ZE (⟨[(⟨1,true,[⟨false,5,0,0⟩]⟩:TxD)],[⟨5,[1]⟩]⟩:Zw) (⟨[],[(⟨1,true,[⟨false,5,0,0⟩]⟩:TxD)],[],[⟨5,[1]⟩]⟩:ZK)=((⟨[],[]⟩:Zw),17):=by decide +kernel
theorem lx4:ZE (⟨[(⟨1,true,[⟨false,5,0,0⟩]⟩:TxD)],[⟨5,[1]⟩]⟩:Zw) (inv (⟨[],[(⟨1,true,[⟨false,5,0,0⟩]⟩:TxD)],[],[⟨5,[1]⟩]⟩:ZK))=((⟨[],[]⟩:Zw),0):=by have h:=ZiW Zm1 Zjw;rwa [lx1i] at h
theorem lxs2:ZbG (⟨[],[]⟩:Zw) (⟨[],[(⟨1,true,[⟨false,5,0,0⟩]⟩:TxD)],[],[⟨5,[1]⟩]⟩:ZK):=.of (by decide) (by decide) (by decide) (by decide)
theorem lxs3:ZbG (⟨[(⟨1,true,[⟨false,5,0,0⟩]⟩:TxD)],[⟨5,[1]⟩]⟩:Zw) (⟨[],[(⟨1,true,[⟨false,5,0,0⟩]⟩:TxD)],[],[⟨5,[1]⟩]⟩:ZK):=.of (by decide) (by decide) (by decide) (by decide)
theorem lxs4:ZbG (⟨[(⟨1,true,[⟨false,5,0,0⟩]⟩:TxD)],[⟨5,[1]⟩]⟩:Zw) (inv (⟨[],[(⟨1,true,[⟨false,5,0,0⟩]⟩:TxD)],[],[⟨5,[1]⟩]⟩:ZK)):=.of (by decide) (by decide) (by decide) (by decide)
theorem Zl0:ZlN [(⟨1,true,[⟨false,5,0,0⟩]⟩:TxD)] [[1]] (⟨[⟨1,0⟩],[⟨5,0⟩],3⟩:RtA):=⟨YaJ _ _,YaJ _ _,fun p hp=>by rw [Yr] at hp;subst hp;decide,fun p hp=>by rw [Yr] at hp;subst hp;decide⟩
theorem ZuJ:ZlN [(⟨1,true,[⟨false,5,0,0⟩]⟩:TxD)] [[1]] (⟨[],[],0⟩:RtA):=⟨List.Pairwise.nil,List.Pairwise.nil,fun p hp=>(by cases hp),fun p hp=>(by cases hp)⟩
theorem ZtR:Zaz (⟨(⟨[⟨1,0⟩],[⟨5,0⟩],3⟩:RtA),[],0,[(⟨1,true,[⟨false,5,0,0⟩]⟩:TxD)],[[1]]⟩:StA):=⟨Zl0,fun x hx=>(by cases hx),List.Pairwise.nil,rfl,fun x hx=>(by cases hx),by decide,by decide⟩
theorem ZtK:Zaz (⟨(⟨[⟨1,0⟩],[⟨5,0⟩],3⟩:RtA),[],1,[(⟨1,true,[⟨false,5,0,0⟩]⟩:TxD)],[[1]]⟩:StA):=⟨Zl0,fun x hx=>(by cases hx),List.Pairwise.nil,rfl,fun x hx=>(by cases hx),by decide,by decide⟩
theorem Zty:Zaz (⟨(⟨[⟨1,0⟩],[⟨5,0⟩],3⟩:RtA),[(0,(⟨[⟨1,0⟩],[⟨5,0⟩],3⟩:RtA))],1,[(⟨1,true,[⟨false,5,0,0⟩]⟩:TxD)],[[1]]⟩:StA):=⟨Zl0,fun x hx=>(by rw [Yr] at hx;subst hx;exact ⟨Zl0,by decide,by decide⟩),YaJ _ _,rfl,fun x hx=>(by rw [Yr] at hx;subst hx;rfl),by decide,by decide⟩
theorem Ztq:Zaz (⟨(⟨[],[],0⟩:RtA),[(0,(⟨[⟨1,0⟩],[⟨5,0⟩],3⟩:RtA))],1,[(⟨1,true,[⟨false,5,0,0⟩]⟩:TxD)],[[1]]⟩:StA):=⟨ZuJ,fun x hx=>(by rw [Yr] at hx;subst hx;exact ⟨Zl0,by decide,by decide⟩),YaJ _ _,rfl,fun x hx=>(by rw [Yr] at hx;subst hx;rfl),by decide,by decide⟩
theorem Zte:Zaz (⟨(⟨[⟨1,0⟩],[⟨5,0⟩],3⟩:RtA),[(1,(⟨[⟨1,0⟩],[⟨5,0⟩],3⟩:RtA))],2,[(⟨1,true,[⟨false,5,0,0⟩]⟩:TxD)],[[1]]⟩:StA):=⟨Zl0,fun x hx=>(by rw [Yr] at hx;subst hx;exact ⟨Zl0,by decide,by decide⟩),YaJ _ _,rfl,fun x hx=>(by rw [Yr] at hx;subst hx;rfl),by decide,by decide⟩
theorem sl1:doA Zg3 (⟨[],[(⟨1,true,[⟨false,5,0,0⟩]⟩:TxD)],[],[⟨5,[1]⟩]⟩:ZK)=((⟨(⟨[⟨1,0⟩],[⟨5,0⟩],3⟩:RtA),[],0,[(⟨1,true,[⟨false,5,0,0⟩]⟩:TxD)],[[1]]⟩:StA),0):=by
 unfold doA
 rw [show hiA Zg3=(⟨[],[]⟩:Zw) from rfl,lx2,Yb We,Yb We];rfl
theorem sl2:doA (⟨(⟨[⟨1,0⟩],[⟨5,0⟩],3⟩:RtA),[],0,[(⟨1,true,[⟨false,5,0,0⟩]⟩:TxD)],[[1]]⟩:StA) (⟨[],[(⟨1,true,[⟨false,5,0,0⟩]⟩:TxD)],[],[⟨5,[1]⟩]⟩:ZK)=((⟨(⟨[⟨1,0⟩],[⟨5,0⟩],3⟩:RtA),[],0,[(⟨1,true,[⟨false,5,0,0⟩]⟩:TxD)],[[1]]⟩:StA),17):=by
 unfold doA
 rw [show hiA (⟨(⟨[⟨1,0⟩],[⟨5,0⟩],3⟩:RtA),[],0,[(⟨1,true,[⟨false,5,0,0⟩]⟩:TxD)],[[1]]⟩:StA)=(⟨[(⟨1,true,[⟨false,5,0,0⟩]⟩:TxD)],[⟨5,[1]⟩]⟩:Zw) from rfl,lx3,Yg We]
theorem sl3:ZbZ (⟨(⟨[⟨1,0⟩],[⟨5,0⟩],3⟩:RtA),[],0,[(⟨1,true,[⟨false,5,0,0⟩]⟩:TxD)],[[1]]⟩:StA)=((⟨(⟨[⟨1,0⟩],[⟨5,0⟩],3⟩:RtA),[(0,(⟨[⟨1,0⟩],[⟨5,0⟩],3⟩:RtA))],1,[(⟨1,true,[⟨false,5,0,0⟩]⟩:TxD)],[[1]]⟩:StA),0,0):=by unfold ZbZ;rw [Yb (by decide)];rfl
theorem sl4:doA (⟨(⟨[⟨1,0⟩],[⟨5,0⟩],3⟩:RtA),[(0,(⟨[⟨1,0⟩],[⟨5,0⟩],3⟩:RtA))],1,[(⟨1,true,[⟨false,5,0,0⟩]⟩:TxD)],[[1]]⟩:StA) (⟨[(⟨1,true,[⟨false,5,0,0⟩]⟩:TxD)],[],[⟨5,[1]⟩],[]⟩:ZK)=((⟨(⟨[],[],0⟩:RtA),[(0,(⟨[⟨1,0⟩],[⟨5,0⟩],3⟩:RtA))],1,[(⟨1,true,[⟨false,5,0,0⟩]⟩:TxD)],[[1]]⟩:StA),0):=by
 unfold doA
 rw [show hiA (⟨(⟨[⟨1,0⟩],[⟨5,0⟩],3⟩:RtA),[(0,(⟨[⟨1,0⟩],[⟨5,0⟩],3⟩:RtA))],1,[(⟨1,true,[⟨false,5,0,0⟩]⟩:TxD)],[[1]]⟩:StA)=(⟨[(⟨1,true,[⟨false,5,0,0⟩]⟩:TxD)],[⟨5,[1]⟩]⟩:Zw) from rfl,show ZE (⟨[(⟨1,true,[⟨false,5,0,0⟩]⟩:TxD)],[⟨5,[1]⟩]⟩:Zw) (⟨[(⟨1,true,[⟨false,5,0,0⟩]⟩:TxD)],[],[⟨5,[1]⟩],[]⟩:ZK)=((⟨[],[]⟩:Zw),0) from lx4,Yb We,Yb We];rfl
theorem sl5:Zcf (⟨(⟨[],[],0⟩:RtA),[(0,(⟨[⟨1,0⟩],[⟨5,0⟩],3⟩:RtA))],1,[(⟨1,true,[⟨false,5,0,0⟩]⟩:TxD)],[[1]]⟩:StA) 1=((⟨(⟨[],[],0⟩:RtA),[(0,(⟨[⟨1,0⟩],[⟨5,0⟩],3⟩:RtA))],1,[(⟨1,true,[⟨false,5,0,0⟩]⟩:TxD)],[[1]]⟩:StA),3):=rfl
theorem sl6:Zcf (⟨(⟨[],[],0⟩:RtA),[(0,(⟨[⟨1,0⟩],[⟨5,0⟩],3⟩:RtA))],1,[(⟨1,true,[⟨false,5,0,0⟩]⟩:TxD)],[[1]]⟩:StA) 0=((⟨(⟨[⟨1,0⟩],[⟨5,0⟩],3⟩:RtA),[(0,(⟨[⟨1,0⟩],[⟨5,0⟩],3⟩:RtA))],1,[(⟨1,true,[⟨false,5,0,0⟩]⟩:TxD)],[[1]]⟩:StA),0):=rfl
theorem sl7:ZcI (⟨(⟨[⟨1,0⟩],[⟨5,0⟩],3⟩:RtA),[(0,(⟨[⟨1,0⟩],[⟨5,0⟩],3⟩:RtA))],1,[(⟨1,true,[⟨false,5,0,0⟩]⟩:TxD)],[[1]]⟩:StA) 0=((⟨(⟨[⟨1,0⟩],[⟨5,0⟩],3⟩:RtA),[],1,[(⟨1,true,[⟨false,5,0,0⟩]⟩:TxD)],[[1]]⟩:StA),0):=rfl
theorem sl8:ZcI (⟨(⟨[⟨1,0⟩],[⟨5,0⟩],3⟩:RtA),[],1,[(⟨1,true,[⟨false,5,0,0⟩]⟩:TxD)],[[1]]⟩:StA) 0=((⟨(⟨[⟨1,0⟩],[⟨5,0⟩],3⟩:RtA),[],1,[(⟨1,true,[⟨false,5,0,0⟩]⟩:TxD)],[[1]]⟩:StA),3):=rfl
theorem sl9:ZbZ (⟨(⟨[⟨1,0⟩],[⟨5,0⟩],3⟩:RtA),[],1,[(⟨1,true,[⟨false,5,0,0⟩]⟩:TxD)],[[1]]⟩:StA)=((⟨(⟨[⟨1,0⟩],[⟨5,0⟩],3⟩:RtA),[(1,(⟨[⟨1,0⟩],[⟨5,0⟩],3⟩:RtA))],2,[(⟨1,true,[⟨false,5,0,0⟩]⟩:TxD)],[[1]]⟩:StA),1,0):=by unfold ZbZ;rw [Yb (by decide)];rfl
theorem ZiP (b:Nat) {A A2:StA} {d:ZK} {w:Int} (h:doA A d=(A2,w)) (hok:Zaz A) (hdf:ZlU A d) (hsd:ZbG (hiA A) d):FnG prog 23 1 [.is (.pointer (some ⟨b,0,none⟩)),.agg (ZC d)] [ZO (.pointer (some ⟨b,0,none⟩)) A] (.int .i64 w) (fun _=>[ZO (.pointer (some ⟨b,0,none⟩)) A2]):=by have k:=ZkF b A d hok hdf hsd;rw [h] at k;exact k
theorem ZiH (b:Nat) {A A2:StA} {n w:Int} (h:ZbZ A=(A2,n,w)) (hok:Zaz A) (hf:ZbR A):FnG prog 21 1 [.is (.pointer (some ⟨b,0,none⟩))] [ZO (.pointer (some ⟨b,0,none⟩)) A] (.tup [.int .i64 n,.int .i64 w]) (fun _=>[ZO (.pointer (some ⟨b,0,none⟩)) A2]):=by have k:=Zmy b A hok hf;rw [h] at k;exact k
theorem ZiG (b:Nat) {A A2:StA} {n w:Int} (h:Zcf A n=(A2,w)) (hok:Zaz A) (hf:ZbR A):FnG prog 25 1 [.is (.pointer (some ⟨b,0,none⟩)),.int .i64 n] [ZO (.pointer (some ⟨b,0,none⟩)) A] (.int .i64 w) (fun _=>[ZO (.pointer (some ⟨b,0,none⟩)) A2]):=by have k:=Zmc b A hok hf n;rw [h] at k;exact k
theorem Zir (b:Nat) {A A2:StA} {n w:Int} (h:ZcI A n=(A2,w)) (hok:Zaz A) (hf:ZbR A):FnG prog 26 1 [.is (.pointer (some ⟨b,0,none⟩)),.int .i64 n] [ZO (.pointer (some ⟨b,0,none⟩)) A] (.int .i64 w) (fun _=>[ZO (.pointer (some ⟨b,0,none⟩)) A2]):=by have k:=Zmr b A hok hf n;rw [h] at k;exact k
theorem Zop (b:Nat) {A:StA} {w:Int} (h:ZaT A=w) (hok:Zaz A) (hf:ZbR A):FnG prog 15 1 [.is (.pointer (some ⟨b,0,none⟩))] [ZO (.pointer (some ⟨b,0,none⟩)) A] (.int .i64 w) (fun _=>[ZO (.pointer (some ⟨b,0,none⟩)) A]):=by have k:=ZmY b A hok hf;rw [h] at k;exact k
theorem Zie (b:Nat) {A:StA} {g:Zw} (h:hiA A=g) (hok:Zaz A) (hf:ZbR A):FnG prog 14 1 [.is (.pointer (some ⟨b,0,none⟩))] [ZO (.pointer (some ⟨b,0,none⟩)) A] (.agg (Zi g)) (fun _=>[ZO (.pointer (some ⟨b,0,none⟩)) A]):=by have k:=Zjg b A hok hf;rw [h] at k;exact k
theorem Zom  : FnP prog 21 [.is (.pointer none)] (.tup [.int .i64 0,.int .i64 17]):=by
 refine FnP.mk func21 Z ntmps21 Z fun B a w F V hfr O=>Ya ?_
 refine rZ O (qI (qI qZ)) V JR [0] fun O=>(Ya (Ye (Ya ?_)))
 refine rZ O (qR rr (qf (Zab _ YbW Z .t) r1 qz (qO rr qZ))) V [5,3,2,0] [0] fun O=>?_
 refine Zb O Z (fun hc0=>?_) (fun hc0=>?_)
 ·refine Ya (rZ O (qI (qI qZ)) V JR [0] fun O=>(Yh (Zl (Zd ?_))))
  refine ZU hfr O Z (.tmp Z (.tmp Z .nil)) (.two .refl .refl)
 simp at hc0
theorem ZnI (n:Int):FnP prog 25 [.is (.pointer none),.int .i64 n] (.int .i64 3):=by
 refine FnP.mk func25 Z ntmps25 Z fun B a w F V hfr O=>Ya ?_
 refine rZ O (qI qZ) V J0 [0] fun O=>(Ya (Ya ?_))
 refine rZ O (qR rr (qf (Zab _ YbW Z .t) r1 qz qZ)) V XaM [0] fun O=>?_
 refine Zb O Z (fun hc0=>?_) (fun hc0=>?_)
 ·refine Ya (rZ O (qI qZ) V J0 [0] fun O=>(Yh (Zd ?_)))
  refine Zx hfr O Z Z Z .refl
 simp at hc0
theorem Zn2  : FnP prog 15 [.is (.pointer none)] (.int .i64 0):=by
 refine FnP.mk func15 Z ntmps15 Z fun B a w F V hfr O=>Ya ?_
 refine rZ O (qI qZ) V Ju [0] fun O=>(Ya (Ya ?_))
 refine rZ O (qR rr (qf (Zab _ YbW Z .t) r1 qz qZ)) V [7,2,0] [0] fun O=>?_
 refine Zb O Z (fun hc0=>?_) (fun hc0=>?_)
 ·refine Ya (rZ O (qI qZ) V Ju [0] fun O=>(Yh (Zd ?_)))
  refine Zx hfr O Z Z Z .refl
 simp at hc0
theorem ZrR (d:ZK):FnP prog 23 [.is (.pointer none),.agg (ZC d)] (.int .i64 17):=by
 refine FnP.mk func23 Z ntmps23 Z fun B a w F V hfr O=>Ya ?_
 refine rS O (qx 101 r1 (qI qZ)) V DC QK fun τ O=>?_
 have O:=Xo
 generalize τ 3=v3 at O
 refine Za (Ya (Ya (rZ O (qR rr (qf (Zab _ YbW Z .t) r1 qz qZ)) V [19,4,3,0] QK fun O=>?_)))
 refine Zb O Z (fun hc0=>?_) (fun hc0=>?_)
 ·refine Ya (rZ O (qI qZ) V DC QK fun O=>(Yh (Zd ?_)))
  refine Zx hfr O Z Z Z .refl
 simp at hc0
theorem ZnZ  : FnP prog 14 [.is (.pointer none)] (.agg (Zi (⟨[],[]⟩:Zw))):=by
 refine FnP.mk func14 Z ntmps14 Z fun B a w F V hfr O=>Ya ?_
 refine rS O (qf (oH [.slice none 0 0,.slice none 0 0] 101) trivial qz qZ) V Ju QK fun τ O=>?_
 have O:=Xo
 generalize τ 2=v2 at O
 refine Za (Ya (rS O (qf (oH [.slice none 0 0,.slice none 0 0] 102) trivial qz qZ) V JR QI fun τ O=>?_))
 have O:=Xo
 generalize τ 3=v3 at O
 refine Za (Ya (Ya (rZ O (qR rr (qf (Zab _ YbW Z .t) r1 qz qZ)) V [9,3,2,0] QI fun O=>?_)))
 refine Zb O Z (fun hc0=>?_) (fun hc0=>?_)
 ·refine Ya (rZ O (qe 2 102 r1 r1 (qs 2 101 r2 r1 qZ)) V JR QI fun O=>(Yh (Zd ?_)))
  refine ZU hfr O Z (.cl 101 true 2 Z Z .nil) (.one (.aggLe Z ⟨.nilSl,.nilSl,tv⟩))
 simp at hc0
theorem doT1_ok {A:StA} (hk:Zaz A) (d:ZK) (z:Int):∀ i,i≤d.was.length→DoOk A (rT1 A d z i) (sizeH (hiA A)):=by
 intro i
 induction i with
 | zero=>intro _;exact DoOk.start hk z
 | succ i ih=>intro hi;rw [rT1_next ow];exact (ih ow).delT _
theorem doT2_ok {A:StA} (hk:Zaz A) (d:ZK) (z:Int):∀ i,i≤d.now.length→DoOk (stT A d i) (rT2 A d z i) (sizeH (hiA A)+i):=by
 intro i
 induction i with
 | zero=>intro _;rw [stT_zero,← rT_join rfl];exact doT1_ok hk d z _ (YE _)
 | succ i ih=>intro hi;exact (ih ow).nextT ow
theorem doO1_ok {A:StA} (hk:Zaz A) (d:ZK) (z:Int):∀ i,i≤d.old.length→DoOk (stO A d 0) (rO1 A d z i) (sizeH (hiA A)+d.now.length):=by
 intro i
 induction i with
 | zero=>intro _;rw [← stTO_join rfl,← rTO_join rfl];exact doT2_ok hk d z _ (YE _)
 | succ i ih=>intro hi;rw [rO1_next ow];exact (ih ow).delO _
theorem Ztv {A:StA} (hk:Zaz A) (d:ZK) (z:Int):∀ i,i≤d.new.length → ∃ y,DoOk (stO A d i) (rO2 A d z i) y:=by
 intro i
 induction i with
 | zero=>intro _;rw [← rO_join rfl];exact ⟨_,doO1_ok hk d z _ (YE _)⟩
 | succ i ih=>intro hi;obtain ⟨y,hy⟩:=ih ow;exact ⟨_,hy.nextO ow⟩
theorem Zaz.done {A:StA} (hk:Zaz A) (d:ZK):Zaz (Go.Proofs.YtfecljadegkmdaaGreat.doA A d).1:=hk.doA d fun z _=>by
 obtain ⟨y,hy⟩:=Ztv hk d z _ (YE _)
 have:=hy.rok
 rw [Zpv rfl,Znn rfl] at this
 exact this
structure Zgg where
 n:Int
 h:Zw
 deriving Inhabited
structure Zho where
 h:Zw
 l:List Zgg
 next:Int
def Zaw (x:Zgg):List PV:=[.int .i64 x.n,.sl rTx x.h.txs,.sl Zp x.h.orders]
def Zbk (D:Zho):List PV:=[.sl rTx D.h.txs,.sl Zp D.h.orders,.sl Zaw D.l,.int .i64 D.next]
def Ze0 (D:Zho) (i:Nat):Int:=(sizeH D.h:Int)+((D.l.take i).map fun x=>((sizeH x.h:Nat):Int)).sum
def Zel (D:Zho):Int:=Ze0 D D.l.length
def ZdR (D:Zho) (h:Zw):Zho×Int:=if Zel ⟨h,D.l,D.next⟩ > 10000 then (D,2) else (⟨h,D.l,D.next⟩,0)
def do15 (D:Zho) (d:ZK):Zho×Int:=if (ZE D.h d).2≠0 then (D,(ZE D.h d).2) else ZdR D (ZE D.h d).1
def ZhE (D:Zho):Zho×Int×Int:=if Zel ⟨D.h,D.l ++ [⟨D.next,D.h⟩],D.next⟩ > 10000 then (D,0,2) else (⟨D.h,D.l ++ [⟨D.next,D.h⟩],D.next+1⟩,D.next,0)
def Zga (D:Zho) (n:Int):Zho×Int:=match D.l.find? fun x=>decide (x.n=n) with
 | none=>(D,3)
 | some x=>ZdR D x.h
def ZiI (D:Zho) (n:Int):Zho×Int:=if (D.l.filter fun x=>!decide (x.n=n)).length=D.l.length then (D,3) else (⟨D.h,D.l.filter fun x=>!decide (x.n=n),D.next⟩,0)
structure DSm (D:Zho):Prop where
 h:Za8 D.h
 l:∀ x ∈ D.l,Za8 x.h
 len:D.l.length≤1000
theorem Za8.size {g:Zw} (h:Za8 g):sizeH g≤2000000:=by
 have h1:=h.1.1
 have h2:=h.2.1
 have h3:=Zmt h.2.2
 unfold sizeH;omega
theorem ZiB {D:Zho} {i:Nat} (h:i<D.l.length):Ze0 D (i+1)=Ze0 D i+(sizeH (Nn D.l i).h:Int):=by
 unfold Ze0
 rw [ZN h,YZ,YaE];simp;omega
theorem ZrU {D:Zho} (h:DSm D):∀ i,i≤D.l.length→0≤Ze0 D i∧Ze0 D i≤2000000*((i:Int)+1):=by
 intro i
 induction i with
 | zero=>intro _;have:=h.h.size;unfold Ze0;simp;omega
 | succ i ih=>
  intro hi
  have h1:=ih ow
  have h2:=(h.l _ (ZP (show i<D.l.length by omega))).size
  rw [ZiB ow];omega
theorem Zs9 {l:List Zgg} {n:Int} {i:Nat} (hi:i<l.length) (h:(Nn l i).n=n) (hq:∀ k,k<i→(Nn l k).n≠n):l.find? (fun x=>decide (x.n=n))=some (Nn l i):=by
 rw [Ya6]
 refine ⟨by simpa using h,i,hi,(Zu hi).symm,fun j hj=>?_⟩
 have:=hq j hj
 rw [Zu ow] at this
 simpa using this
theorem Zqe {l:List Zgg} {n:Int} (hq:∀ k,k<l.length→(Nn l k).n≠n):l.find? (fun x=>decide (x.n=n))=none:=by
 rw [YaV]
 intro x hx
 obtain ⟨k,hk,e⟩:=YL hx
 have:=hq k hk
 rw [Zu hk,e] at this
 simpa using this
def Za5 (A:StA):Zho:=⟨hiA A,A.snaps.map fun x=>⟨x.1,histA A.all A.seqs x.2⟩,A.next⟩
theorem Zjl {A:StA} (h:Zaz A):Zel (Za5 A)=ZaT A:=by
 unfold Zel Ze0 ZaT
 rw [Yy,h.szn]
 congr 1
 unfold Za5
 rw [YaS]
 congr 1
 exact Yav fun x hx=>(h.szs x hx).symm
theorem Zmd {A:StA} (h:Zaz A) (g:Zw):Zel ⟨g,(Za5 A).l,(Za5 A).next⟩ = ZaT A - A.now.size+sizeH g:=by
 have h1:=Zjl h
 unfold Zel Ze0 at h1 ⊢
 have h2:((Za5 A).h)=histA A.all A.seqs A.now:=rfl
 rw [h2,← h.szn] at h1
 dsimp only at h1 ⊢
 omega
theorem Zub {A:StA} (h:Zaz A) (d:ZK):do15 (Za5 A) d=(Za5 (doA A d).1,(doA A d).2):=by
 unfold do15 doA
 show (if (ZE (hiA A) d).2≠0 then _ else _)=_
 by_cases h1:(ZE (hiA A) d).2≠0
 ·rw [Yg h1,Yg h1];rfl
 ·rw [Yb h1,Yb h1]
  unfold ZdR
  show (if Zel ⟨(ZE (hiA A) d).1,(Za5 A).l,(Za5 A).next⟩ > 10000 then _ else _)=_
  rw [Zmd h]
  by_cases h2:ZaT A - A.now.size+(sizeH (ZE (hiA A) d).1:Nat) > 10000
  ·rw [Yg h2,Yg h2]
  ·rw [Yb h2,Yb h2]
   dsimp only
   congr 1
   unfold Za5 hiA
   dsimp only
   have e:=Zjj h (YS.1 h1) ((sizeH (ZE (hiA A) d).1:Nat):Int)
   unfold hiA at e
   rw [e]
   congr 1
   exact Yav fun x hx=>by rw [Zed (h.oks x hx).1]
theorem ZrW {A:StA} (h:Zaz A):ZhE (Za5 A)=(Za5 (ZbZ A).1,(ZbZ A).2.1,(ZbZ A).2.2):=by
 have e:Zel ⟨(Za5 A).h,(Za5 A).l ++ [⟨(Za5 A).next,(Za5 A).h⟩],(Za5 A).next⟩ = ZaT A+A.now.size:=by
  have h1:=Zjl h
  unfold Zel Ze0 at h1 ⊢
  have h2:((Za5 A).h)=histA A.all A.seqs A.now:=rfl
  have h3:=h.szn
  rw [Yy] at h1 ⊢
  rw [YZ,YaE]
  simp only [YM,List.map_nil,YaN,List.sum_nil]
  rw [h2] at h1 ⊢
  omega
 unfold ZhE ZbZ
 rw [e]
 by_cases h2:ZaT A+A.now.size > 10000
 ·rw [Yg h2,Yg h2]
 ·rw [Yb h2,Yb h2]
  unfold Za5 hiA
  simp
theorem Zq3 (A:StA) (n:Int):(Za5 A).l.find? (fun x=>decide (x.n=n))=(ZcQ A n).map fun x=>⟨x.1,histA A.all A.seqs x.2⟩:=by
 unfold Za5 ZcQ
 rw [List.find?_map];rfl
theorem Zq4 {A:StA} (h:Zaz A) (n:Int):Zga (Za5 A) n=(Za5 (Zcf A n).1,(Zcf A n).2):=by
 unfold Zga Zcf
 rw [Zq3]
 cases hx:ZcQ A n with
 | none=>rfl
 | some x=>
  show ZdR (Za5 A) _=_
  unfold ZdR
  rw [Zmd h]
  have e:=h.szs x (ZbC hx).1
  dsimp only
  rw [← e]
  by_cases h2:ZaT A - A.now.size+x.2.size > 10000
  ·rw [Yg h2,Yg h2]
  ·rw [Yb h2,Yb h2];rfl
theorem Zru {A:StA} (h:Zaz A) (n:Int):ZiI (Za5 A) n=(Za5 (ZcI A n).1,(ZcI A n).2):=by
 have ef:((Za5 A).l.filter fun x=>!decide (x.n=n))=(A.snaps.filter fun x=>!decide (x.1=n)).map fun x=>(⟨x.1,histA A.all A.seqs x.2⟩:Zgg):=by
  unfold Za5
  rw [List.filter_map];rfl
 have el:(Za5 A).l.length=A.snaps.length:=by unfold Za5;rw [YO]
 unfold ZiI ZcI
 rw [ef,YO,el]
 cases hx:ZcQ A n with
 | none=>
  have h1:=ZnU hx
  rw [Yba.2 (fun x hx=>by simp [h1 x hx]),Yg rfl]
 | some x=>
  obtain ⟨h1,h2⟩:=ZbC hx
  have hlt:(A.snaps.filter fun x=>!decide (x.1=n)).length<A.snaps.length:=by
   refine Nat.lt_of_le_of_ne (YJ _ _) fun e=>?_
   have:=List.length_filter_eq_length_iff.1 e x h1
   simp [h2] at this
  rw [Yb ow]
  rfl
theorem Zpi (l:List TxD) (n:Int) (hs:Za3 l):FnP prog 193 [.sl rTx l,.int .i64 n] (.tup [.agg (rTx ((ZH TxD.id l n).getD zeroT)),.bool (ZH TxD.id l n).isSome]):=by
 refine FnP.mk func193 Z ntmps193 Z fun B a w F V hfr O=>Ya ?_
 refine rS O (qf (oH [.int .i64 0,.bool false,.slice none 0 0] 101) trivial qz qB) V J6 QK fun τ O=>?_
 have O:=X1
 generalize τ 4=v4 at O
 refine Za (Ya (rZ O (qR rr (qf (oB [(0,.tmp 6)] [.slice none 0 0,.slice none 0 0] [(0,1),(1,1)] (.one Z .t Zaf kr .nil)) r1 qz (qR rr (qf (oP (Zc0 ⟨l,[]⟩ n hs) func12 (Args.two (.conv (.pagg .t) (Ent.paggLe (l:=[.sl rTx l,.is (.slice none 0 0)]) (l':=Zi ⟨l,[]⟩) ⟨Zay.refl,Zay.nilSl,tv⟩)) .t)) r2 qz (qf (o_extract .t Z) r1 qz (qf (o_extract .t Z) r1 qz (qf (oA 3 101 .is (.conv .t .agg)) r2 r1 (qO rr qZ)))))))) V Jf QK fun O=>Yh ?_))
 refine ZU hfr O Z (.cl 101 true 3 Z Z (.tmp Z .nil)) (.two (.aggU Z Z) (.bool Z))
theorem ZlW (l:List OrdD) (n:Int):FnP prog 194 [.sl Zp l,.int .i64 n] (.tup [.agg (Zp ((ZH OrdD.key l n).getD ZhC)),.bool (ZH OrdD.key l n).isSome]):=by
 refine FnP.mk func194 Z ntmps194 Z fun B a w F V hfr O=>?_
 have hxl:=Sat.lenSl O (i:=0) rfl
 refine Ya (rS O (qf (oH [.int .i64 0,.slice none 0 0] 101) trivial qz qB) V J6 QK fun τ O=>?_)
 have O:=X1
 generalize τ 4=v4 at O
 refine Za (Ya (Ya (rZ O (qR rr (qu YbS r1 (qJ qZ))) V QY QK fun O=>Ye ?_)))
 refine Zh (σ:=(Nat)) [1,4,5,8,9] [0,101] (fun s=>[(10,.pv (.int .i64 (s:Int)))]) (fun s=>[]) (fun s=>s≤l.length∧(∀ k,k<s→OrdD.key (Nn l k)≠n)) (fun s=>l.length - s) (0) O ⟨rfl,rfl,rfl,rfl,rfl,rfl,tv⟩ ⟨rfl,rfl,tv⟩ ⟨Yo _,fun k hk=>absurd hk (YI k)⟩ ?_
 clear O;intro i a w F hC O
 have hC:=X3
 obtain ⟨F,O⟩:=O.nM QY QK
 have O:=X2
 obtain ⟨hi,hq⟩:=hC
 refine Ya (rZ O (qL r2) V Gu QK fun O=>Ya ?_)
 refine Zb O Z (fun hc0=>?_) (fun hc0=>?_)
 ·have hil:i<l.length:=WI
  refine Yd (Za (Ya (Ye (Ya (rS O (qy 2 YbS r2 (qf (oR true 2 .t) r1 qz (qf (oH [.int .i64 0,.slice none 0 0] 102) trivial qz (qS 2 102 r2 r1 qZ)))) V Gz QI fun τ O=>?_)))))
  have O:=X0
  generalize τ 7=v7 at O
  try simp only [Yf] at O
  refine Za (Ya (rZ O (qg 0 102 r1 r1 (qa 102 r1 r1 (qR rr (qf (o_eql .t .t) r2 qz qZ)))) V [17,10,9,8,7,5,4,1] QI fun O=>?_))
  refine Zb O Z (fun hc1=>?_) (fun hc1=>?_)
  ·have hg:ZH OrdD.key l n=some (Nn l i):=ZiV hil WE hq
   refine Ya (rZ O (qe 2 102 r1 r1 (qs 2 101 r2 r1 qB)) V QY QI fun O=>(Yh (Zl (Zd (Zd (Zl (Zd ?_)))))))
   refine ZU hfr O Z (.cl 101 true 2 Z Z (.tmp Z .nil)) (.two K0 (.bool Wp))
  have hne:OrdD.key (Nn l i)≠n:=WE
  refine Yd (Zf (Za (rZ O (qp r1 (qR rr qZ)) V QY QI fun O=>?_)))
  replace O:=O.eI 10 i
  obtain ⟨F,O⟩:=O.nM [9,8,5,4,1,10] QK
  exact ⟨(i+1),F,⟨ow,(fun k hk=>by rcases Yw (YC hk) with h9 | h9;exact hq k h9;rw [h9];exact hne)⟩,O,ow⟩
 have hil:i=l.length:=WI
 have hg:ZH OrdD.key l n=none:=ZfS WZ
 refine Ym (Ze (Ze (Zk (Za (Ya (rZ O (qf (oB [] [.int .i64 0,.slice none 0 0] [(0,1),(1,1)] .nil) trivial qz (qs 2 101 r2 r1 qB)) V Jf QK fun O=>Yh ?_))))))
 refine ZU hfr O Z (.cl 101 true 2 Z Z (.tmp Z .nil)) (.two K0 (.bool Wp))
theorem Zhu (c d:List TxD) (hll:c.length≤1000000) (hsd:Za3 d):FnP prog 129 [.sl rTx c,.sl rTx d] (.sl rTx (Zaa TxD.id c d)):=by
 refine FnP.mk func129 Z ntmps129 Z fun B a w F V hfr O=>Ya ?_
 refine rZ O (qC qZ) V J0 [0] fun O=>Ya ?_
 refine rZ O (qC qZ) V J6 [0] fun O=>(Ya (Ya ?_))
 refine rZ O (qR rr (qu YbR r1 (qJ qZ))) V Jo [0] fun O=>Ye ?_
 replace O:=O.fresh 50 rfl
 replace O:=O.turn 50 Z (Zas (T:=36) (sz:=3) (R:=rTx))
 refine Zh (σ:=(Nat)×(Value)×(List TxD)) [1,4,10,11] [0] (fun s=>[(12,.pv (.int .i64 (s.1:Int))),(5,.pv (.is s.2.1))]) (fun s=>[(50,.ob (.val s.2.1) (ZM 36 3 rTx s.2.2))]) (fun s=>s.1≤c.length∧(s.2.2=Zaa TxD.id (c.take s.1) d)) (fun s=>c.length - s.1) ((0),(.slice none 0 0),([])) O ⟨rfl,rfl,rfl,rfl,rfl,rfl,tv⟩ ⟨rfl,rfl,tv⟩ ⟨Yo _,rfl⟩ ?_
 clear O;intro s a w F hC O
 obtain ⟨i,v,out⟩:=s
 have hC:=X3
 obtain ⟨F,O⟩:=O.nM Jo QU
 have O:=X2
 obtain ⟨hi,hq⟩:=hC
 have hol:out.length≤i:=Qj
 refine Ya (rZ O (qL r2) V [13,12,11,10,5,4,1] QU fun O=>Ya ?_)
 refine Zb O Z (fun hc0=>?_) (fun hc0=>?_)
 ·have hil:i<c.length:=WI
  have hcd:(!(ZH TxD.id d (TxD.id (Nn c i))).isSome || !decide ((Nn c i)=(ZH TxD.id d (TxD.id (Nn c i))).getD zeroT))=decide ((ZH TxD.id d (TxD.id (Nn c i)))≠some (Nn c i)):=KR
  refine Yd (Za (Ya (Ye (Ya (rS O (qy 3 YbR r2 (qf (oR true 3 .t) r1 qz (qf (oH [.int .i64 0,.bool false,.slice none 0 0] 101) trivial qz (qS 3 101 r2 r1 qZ)))) V [12,11,10,7,5,4,1] QQ fun τ O=>?_)))))
  have O:=X0
  generalize τ 7=v7 at O
  try simp only [Yf] at O
  refine Za (Ya (rS O (qR rr (qg 0 101 r1 r1 (qa 101 r1 r1 (qf (oP (Zpi d (TxD.id (Nn c i)) hsd) func193 (Args.two .t .t)) r2 qz (qR rr (qf (o_extract .t Z) r1 qz (qf (o_extract .t Z) r1 qz (qf (oH [.int .i64 0,.bool false,.slice none 0 0] 102) trivial qz (qf (oA 3 102 .same (.conv .t .agg)) r2 r1 (qO rr qZ)))))))))) V [12,11,10,9,8,7,5,4,1] QM fun τ O=>?_))
  have O:=X0
  generalize τ 8=v8 at O
  refine Za (Ya (rZ O (qR rr (qf (ZW .t) r1 qz (qR rr (qk Z (fun h=>oL true 3 101 .is) r2 r1 (qk Z (fun h=>oL true 3 102 .is) r2 r1 (qk Z (fun h=>oP (ZlA (Nn c i) ((ZH TxD.id d (TxD.id (Nn c i))).getD zeroT)) func17 (Args.two (.pagg (.w h)) (.pagg (.w h)))) r3 qz (qk Z (fun h=>ZW (.w h)) r2 qz (qf (ZaB .t .t) r2 qz qZ)))))))) V [30,12,11,10,7,5,4,1] QM fun O=>?_))
  refine Zb O Z (fun hc1=>?_) (fun hc1=>?_)
  ·have h9:(!(ZH TxD.id d (TxD.id (Nn c i))).isSome || !decide ((Nn c i)=(ZH TxD.id d (TxD.id (Nn c i))).getD zeroT))=true:=hc1
   rw [hcd] at h9
   have hst9:out ++ [(Nn c i)] = Zaa TxD.id (c.take (i+1)) d:=Q6
   refine rS O (qR rr (qe 3 101 r1 r1 (qf (o_buildSliceE (sz:=3) (zs:=[.int .i64 0,.bool false,.slice none 0 0]) (r:=[(0,.tmp 32)]) (l:=[_,_,_]) YbR kr kr kr kr Z Z (.agg Z .t kr kr .nil) Z) r1 qz (qf (o_append (sz:=3) (bs:=40) 50 (.mk' YbR kr kr) Wt .is (.arr (l':=[(Nn c i)]) .t) Wx We) ⟨rfl,rfl,tv⟩ ⟨rfl,tv⟩ (qO rr qZ))))) V Jo QM fun τ O=>?_
   have O:=X0
   generalize τ 34=v34 at O
   refine Zf (Za (rZ O (qp r1 (qR rr qZ)) V Jo QM fun O=>?_))
   replace O:=O.eI 12 i
   obtain ⟨F,O⟩:=O.nM Du JI
   exact ⟨((i+1),_,_),F,⟨ow,hst9⟩,O,ow⟩
  have h9:(!(ZH TxD.id d (TxD.id (Nn c i))).isSome || !decide ((Nn c i)=(ZH TxD.id d (TxD.id (Nn c i))).getD zeroT))=false:=hc1
  rw [hcd] at h9
  have hst9:out=Zaa TxD.id (c.take (i+1)) d:=Q2
  refine Yd (Zf (Za (rZ O (qp r1 (qR rr qZ)) V Jo QM fun O=>?_)))
  replace O:=O.eI 12 i
  obtain ⟨F,O⟩:=O.nM Du JI
  exact ⟨((i+1),_,_),F,⟨ow,hst9⟩,O,ow⟩
 have hil:i=c.length:=WI
 have hg:out=Zaa TxD.id c d:=Q8
 refine Ym (Ze (Ze (Zk (Za (Ya (rZ O (qR rr (qO rr qZ)) V [4] QU fun O=>Yh ?_))))))
 obtain ⟨F,O⟩:=O.give 50 4 Z rfl
 refine Zx hfr O Z Z Z (.sl Wr)
theorem ZgR (c d:List OrdD) (hll:c.length≤1000000):FnP prog 130 [.sl Zp c,.sl Zp d] (.sl Zp (Zaa OrdD.key c d)):=by
 refine FnP.mk func130 Z ntmps130 Z fun B a w F V hfr O=>Ya ?_
 refine rZ O (qC qZ) V J0 [0] fun O=>Ya ?_
 refine rZ O (qC qZ) V J6 [0] fun O=>(Ya (Ya ?_))
 refine rZ O (qR rr (qu YbS r1 (qJ qZ))) V Jo [0] fun O=>Ye ?_
 replace O:=O.fresh 50 rfl
 replace O:=O.turn 50 Z (Zas (T:=39) (sz:=2) (R:=Zp))
 refine Zh (σ:=(Nat)×(Value)×(List OrdD)) [1,4,10,11] [0] (fun s=>[(12,.pv (.int .i64 (s.1:Int))),(5,.pv (.is s.2.1))]) (fun s=>[(50,.ob (.val s.2.1) (ZM 39 2 Zp s.2.2))]) (fun s=>s.1≤c.length∧(s.2.2=Zaa OrdD.key (c.take s.1) d)) (fun s=>c.length - s.1) ((0),(.slice none 0 0),([])) O ⟨rfl,rfl,rfl,rfl,rfl,rfl,tv⟩ ⟨rfl,rfl,tv⟩ ⟨Yo _,rfl⟩ ?_
 clear O;intro s a w F hC O
 obtain ⟨i,v,out⟩:=s
 have hC:=X3
 obtain ⟨F,O⟩:=O.nM Jo QU
 have O:=X2
 obtain ⟨hi,hq⟩:=hC
 have hol:out.length≤i:=Qj
 refine Ya (rZ O (qL r2) V [13,12,11,10,5,4,1] QU fun O=>Ya ?_)
 refine Zb O Z (fun hc0=>?_) (fun hc0=>?_)
 ·have hil:i<c.length:=WI
  have hcd:(!(ZH OrdD.key d (OrdD.key (Nn c i))).isSome || !decide ((Nn c i)=(ZH OrdD.key d (OrdD.key (Nn c i))).getD ZhC))=decide ((ZH OrdD.key d (OrdD.key (Nn c i)))≠some (Nn c i)):=KP
  refine Yd (Za (Ya (Ye (Ya (rS O (qy 2 YbS r2 (qf (oR true 2 .t) r1 qz (qf (oH [.int .i64 0,.slice none 0 0] 101) trivial qz (qS 2 101 r2 r1 qZ)))) V [12,11,10,7,5,4,1] QQ fun τ O=>?_)))))
  have O:=X0
  generalize τ 7=v7 at O
  try simp only [Yf] at O
  refine Za (Ya (rS O (qR rr (qg 0 101 r1 r1 (qa 101 r1 r1 (qf (oP (ZlW d (OrdD.key (Nn c i))) func194 (Args.two .t .t)) r2 qz (qR rr (qf (o_extract .t Z) r1 qz (qf (o_extract .t Z) r1 qz (qf (oH [.int .i64 0,.slice none 0 0] 102) trivial qz (qf (oA 2 102 .same (.conv .t .agg)) r2 r1 (qO rr qZ)))))))))) V [12,11,10,9,8,7,5,4,1] QM fun τ O=>?_))
  have O:=X0
  generalize τ 8=v8 at O
  refine Za (Ya (rZ O (qR rr (qf (ZW .t) r1 qz (qR rr (qk Z (fun h=>oL true 2 101 .is) r2 r1 (qk Z (fun h=>oL true 2 102 .is) r2 r1 (qk Z (fun h=>oP (ZhD (Nn c i) ((ZH OrdD.key d (OrdD.key (Nn c i))).getD ZhC)) func55 (Args.two (.pagg (.w h)) (.pagg (.w h)))) r3 qz (qk Z (fun h=>ZW (.w h)) r2 qz (qf (ZaB .t .t) r2 qz qZ)))))))) V [30,12,11,10,7,5,4,1] QM fun O=>?_))
  refine Zb O Z (fun hc1=>?_) (fun hc1=>?_)
  ·have h9:(!(ZH OrdD.key d (OrdD.key (Nn c i))).isSome || !decide ((Nn c i)=(ZH OrdD.key d (OrdD.key (Nn c i))).getD ZhC))=true:=hc1
   rw [hcd] at h9
   have hst9:out ++ [(Nn c i)] = Zaa OrdD.key (c.take (i+1)) d:=Q6
   refine rS O (qR rr (qe 2 101 r1 r1 (qf (o_buildSliceE (sz:=2) (zs:=[.int .i64 0,.slice none 0 0]) (r:=[(0,.tmp 32)]) (l:=[_,_]) YbS kr kr kr kr Z Z (.agg Z .t kr kr .nil) Z) r1 qz (qf (o_append (sz:=2) (bs:=32) 50 (.mk' YbS kr kr) Wt .is (.arr (l':=[(Nn c i)]) .t) Wx We) ⟨rfl,rfl,tv⟩ ⟨rfl,tv⟩ (qO rr qZ))))) V Jo QM fun τ O=>?_
   have O:=X0
   generalize τ 34=v34 at O
   refine Zf (Za (rZ O (qp r1 (qR rr qZ)) V Jo QM fun O=>?_))
   replace O:=O.eI 12 i
   obtain ⟨F,O⟩:=O.nM Du JI
   exact ⟨((i+1),_,_),F,⟨ow,hst9⟩,O,ow⟩
  have h9:(!(ZH OrdD.key d (OrdD.key (Nn c i))).isSome || !decide ((Nn c i)=(ZH OrdD.key d (OrdD.key (Nn c i))).getD ZhC))=false:=hc1
  rw [hcd] at h9
  have hst9:out=Zaa OrdD.key (c.take (i+1)) d:=Q2
  refine Yd (Zf (Za (rZ O (qp r1 (qR rr qZ)) V Jo QM fun O=>?_)))
  replace O:=O.eI 12 i
  obtain ⟨F,O⟩:=O.nM Du JI
  exact ⟨((i+1),_,_),F,⟨ow,hst9⟩,O,ow⟩
 have hil:i=c.length:=WI
 have hg:out=Zaa OrdD.key c d:=Q8
 refine Ym (Ze (Ze (Zk (Za (Ya (rZ O (qR rr (qO rr qZ)) V [4] QU fun O=>Yh ?_))))))
 obtain ⟨F,O⟩:=O.give 50 4 Z rfl
 refine Zx hfr O Z Z Z (.sl Wr)
theorem Zuf (g1 g2:Zw) (h1:Za8 g1) (h2:Za8 g2):FnP prog 66 [.agg (Zi g1),.agg (Zi g2)] (.tup [.agg (ZC (ofD g1 g2).1),.int .i64 (ofD g1 g2).2]):=by
 refine FnP.mk func66 Z ntmps66 Z fun B a w F V hfr O=>Ya ?_
 refine rS O (qx 101 r1 (qx 102 r1 (qf (oH [.slice none 0 0,.slice none 0 0,.slice none 0 0,.slice none 0 0] 103) trivial qz (qI qZ)))) V J3 QJ fun τ O=>?_
 have O:=Xq
 generalize τ 2=v2,τ 3=v3,τ 4=v4 at O
 refine Za (Ya (Ya (rZ O (qe 2 101 r1 r1 (qf (oP (ZaW g1 h1) func128 (Args.one (.pagg .t))) r1 qz (qf (ZW .t) r1 qz (qR rr (qk Z (fun h=>oL true 2 102 .is) r2 r1 (qk Z (fun h=>oP (ZaW g2 h2) func128 (Args.one (.pagg (.w h)))) r2 qz (qk Z (fun h=>ZW (.w h)) r2 qz (qf (ZaB .t .t) r2 qz qZ)))))))) V [13,5,4,3,2] QJ fun O=>?_)))
 refine Zb O Z (fun hc0=>?_) (fun hc0=>?_)
 ·have h9:(!decide (ZG g1) || !decide (ZG g2))=true:=hc0
  have hg:ofD g1 g2=(noD,5):=by unfold ofD;rw [Yb Ko]
  refine Ya (rZ O (qf (oB [] [.slice none 0 0,.slice none 0 0,.slice none 0 0,.slice none 0 0] [(0,1),(1,1),(2,1),(3,1)] .nil) trivial qz (qs 4 103 r2 r1 (qI qZ))) V J3 QJ fun O=>(Yh (Zd ?_)))
  refine ZU hfr O Z (.cl 103 true 4 Z Z (.tmp Z .nil)) (.two KF (.int Wr))
 have h9:(!decide (ZG g1) || !decide (ZG g2))=false:=hc0
 have hr:ZG g1∧ZG g2:=KI
 have hg:ofD g1 g2=(Zvh g1 g2,0):=by unfold ofD;rw [Yg hr];rfl
 refine Yd (Za (Ya (Zr O (qg 0 101 r1 r1 (qa 101 r1 r1 (qg 0 102 r1 r1 (qa 102 r1 r1 (qf (oP (Zhu g1.txs g2.txs (by have:=h1.1.1;omega) h2.1) func129 (Args.two .t .t)) r2 qz (qg 0 102 r1 r1 (qa 102 r1 r1 (qg 0 101 r1 r1 (qa 101 r1 r1 (qf (oP (Zhu g2.txs g1.txs (by have:=h2.1.1;omega) h1.1) func129 (Args.two .t .t)) r2 qz (qg 1 101 r1 r1 (qa 101 r1 r1 (qg 1 102 r1 r1 (qa 102 r1 r1 (qf (oP (ZgR g1.orders g2.orders (by have:=h1.2.1;omega)) func130 (Args.two .t .t)) r2 qz (qg 1 102 r1 r1 (qa 102 r1 r1 (qg 1 101 r1 r1 (qa 101 r1 r1 (qf (oP (ZgR g2.orders g1.orders (by have:=h2.2.1;omega)) func130 (Args.two .t .t)) r2 qz (qf (oB [(0,.tmp 19),(1,.tmp 24),(2,.tmp 29),(3,.tmp 34)] [.slice none 0 0,.slice none 0 0,.slice none 0 0,.slice none 0 0] [(0,1),(1,1),(2,1),(3,1)] (.one Z .t Zaf kr (.one Z .t Zaf kr (.one Z .t Zaf kr (.one Z .t Zaf kr .nil))))) r4 qz (qs 4 103 r2 r1 (qI qZ))))))))))))))))))))))) V Jf QJ Z Z fun a w F O=>?_)))
 have O:=XL
 refine Za (Yh (ZU hfr O Z (.cl 103 true 4 Z Z (.tmp Z .nil)) (.two KF (.int Wr))))
theorem Zhe {l:List TxD} {k x:Int} : x ∈ Zac l k ↔ ∃ t ∈ l,t.id=x∧t.done=true∧0<wcnt t.ops k:=by
 unfold Zac
 rw [YG]
 constructor
 ·rintro ⟨t,ht,e⟩
  rw [YV] at ht
  simp at ht
  exact ⟨t,ht.1,e,ht.2.1,ht.2.2⟩
 ·rintro ⟨t,ht,e,h1,h2⟩
  exact ⟨t,by rw [YV];simp [ht,h1,h2],e⟩
theorem Ze7 {l:List TxD} (h:ZeH TxD.id l) (k:Int):(Zac l k).Nodup:=by
 unfold Zac
 have h1:(l.map TxD.id).Nodup:=(YaT.2 (ZV.1 h)).imp fun h=>Int.ne_of_lt h
 exact (h1.sublist ((Ybm).map _))
theorem Zjh {l:List TxD} (h:ZeH TxD.id l) {t:TxD} (ht:t ∈ l):ZaV l t.id=some t:=by
 have h:=ZV.1 h
 induction l with
 | nil=>cases ht
 | cons x l ih=>
  rw [YB] at h
  unfold ZaV
  rw [YbI]
  rcases Yp.1 ht with rfl | ht
  ·simp
  ·have:=h.1 t ht
   rw [show decide (x.id=t.id)=false by simp;omega]
   exact ih (ZV.2 h.2) ht h.2
theorem Zrv {l:List TxD} {id:Int} (h:∀ t ∈ l,t.id≠id):ZaV l id=none:=by
 unfold ZaV
 exact YaV.2 fun t ht=>by simpa using h t ht
theorem Zfe {g:Zw} : ZG g ↔ g.txs.length≤4096∧ZeH TxD.id g.txs∧(∀ t ∈ g.txs,Zag t=0∧Zbb g t=true)∧ZeH OrdD.key g.orders∧NE g.orders ∧ ∀ k,(getO g.orders k).Perm (Zac g.txs k):=by
 constructor
 ·intro h
  obtain ⟨r1',r2'⟩:=ZaF h
  have hne:=Zec h
  have h2:=(Zdk g).2 h.2.2
  refine ⟨h.1,r1',fun t ht=>?_,r2',hne,fun k=>?_⟩
  ·obtain ⟨j,hj,e⟩:=YL ht
   have:=(h.2.1 j hj).2
   rwa [Zu hj,e] at this
  ·by_cases hk:getO g.orders k = []
   ·rw [hk]
    have hw:Zac g.txs k = []:=by
     refine Y3 fun hw=>?_
     obtain ⟨j,hj,e⟩:=YL (ZdK.2 hw)
     have hjo:j<g.orders.length:=by rw [h.2.2.1];exact hj
     have h3:=(h.2.2.2 j hjo).1
     rw [Zu hj,e] at h3
     have h4:=Zee (ZV.1 r2') (ZP hjo)
     rw [h3,hk] at h4
     exact hne _ (ZP hjo) h4.symm
    rw [hw]
   ·have hm:=Zg7 hk
    obtain ⟨j,hj,e⟩:=YL hm
    have:=(h2.2 j hj).2.2
    rw [Zu hj,e] at this
    exact this
 ·rintro ⟨h1,h2,h3,h4,h5,h6⟩
  have hk:g.orders.map OrdD.key=Za4 g.txs:=by
   refine ZfE (YaT.2 (ZV.1 h4)) (Zbl _).1 fun k=>?_
   rw [ZdK,YG]
   constructor
   ·rintro ⟨o,ho,rfl⟩ e
    have:=h6 o.key
    rw [e,Zee (ZV.1 h4) ho] at this
    exact h5 o ho this.eq_nil
   ·intro e
    have:getO g.orders k≠[]:=fun e2=>by
     have:=h6 k
     rw [e2] at this
     exact e this.symm.eq_nil
    exact ⟨_,Zg7 this,rfl⟩
  have hlen:g.orders.length=(Za4 g.txs).length:=by rw [← hk,YO]
  refine ⟨h1,fun i hi=>?_,(Zdk g).1 ⟨hlen,fun i hi=>?_⟩⟩
  ·obtain ⟨g1,g2⟩:=h3 _ (ZP hi)
   exact ⟨fun h0=>h2 (i - 1) i ow hi,g1,g2⟩
  ·refine ⟨fun h0=>h4 (i - 1) i ow hi,h5 _ (ZP hi),?_⟩
   have:=h6 (Nn g.orders i).key
   rwa [Zee (ZV.1 h4) (ZP hi)] at this
theorem ZoA {t:TxD} {l:List Int} {k x:Int} : x ∈ Zej t l k ↔ (x ∈ l∧x≠t.id)∨(x=t.id∧t.done=true∧0<wcnt t.ops k):=by
 unfold Zej
 by_cases h:t.done=true∧0<wcnt t.ops k
 ·rw [Yg h]
  unfold ZgH
  split
  ·rename_i hi
   constructor
   ·intro hx
    by_cases e:x=t.id
    ·exact .inr ⟨e,h⟩
    ·exact .inl ⟨hx,e⟩
   ·rintro (⟨hx,_⟩ | ⟨rfl,_⟩)
    ·exact hx
    ·exact hi
  ·rename_i hi
   rw [YH,Yr]
   constructor
   ·rintro (hx | hx)
    ·exact .inl ⟨hx,fun e=>hi (e ▸ hx)⟩
    ·exact .inr ⟨hx,h⟩
   ·rintro (⟨hx,_⟩ | ⟨e,_⟩)
    ·exact .inl hx
    ·exact .inr e
 ·rw [Yb h]
  unfold ZbN
  rw [YV,Yj]
  exact ⟨fun h1=>.inl h1,fun h1=>h1.elim id fun h2=>absurd h2.2 h⟩
theorem ZlT {t:TxD} {l:List Int} (h:l.Nodup) (k:Int):(Zej t l k).Nodup:=by
 unfold Zej
 split
 ·unfold ZgH
  split
  ·exact h
  ·rename_i hi
   rw [List.nodup_append]
   exact ⟨h,by simp,fun a ha b hb=>by rw [Yr] at hb;subst hb;exact fun e=>hi (e ▸ ha)⟩
 ·exact h.filter _
theorem ZfY {g:Zw} {t:TxD} {b:Bool} {l:List TxD} (hR:ZG g) (hs:ZbS g.orders) (hr:ZeH TxD.id l) (hl:l.length≤4096) (hM:∀ s,s ∈ l ↔ (s ∈ g.txs∧s.id≠t.id)∨(s=t∧b=true))
  (ht:b=true→Zag t=0∧Zbb g t=true) (hb:b=false→t.done=false)
  (hu:∀ x ∈ l,∀ v ∈ ZaC x,v.tx=t.id→Zgx g v=true→¬ (v.tx=0∧v.nth=0)→b=true∧v.nth≤(wcnt t.ops v.key:Int)):ZG ⟨l,settleO t g.orders⟩:=by
 obtain ⟨h1,h2,h3,h4,h5,h6⟩:=Zfe.1 hR
 obtain ⟨s1,s2⟩:=ZhJ (t:=t) h4 hs
 have hhas:∀ x ∈ l,∀ v ∈ ZaC x,Zgx g v=true→Zgx ⟨l,settleO t g.orders⟩ v=true:=by
  intro x hx v hv hg
  by_cases hz:v.tx=0∧v.nth=0
  ·unfold Zgx at hg ⊢
   rw [Yg hz] at hg ⊢
   exact hg
  ·have hu2:=hu x hx v hv
   unfold Zgx at hg hu2 ⊢
   rw [Yb hz] at hg hu2 ⊢
   by_cases e:v.tx=t.id
   ·obtain ⟨b1,b2⟩:=hu2 e hg hz
    have hm:t ∈ l:=(hM t).2 (.inr ⟨rfl,b1⟩)
    have hf:=Zjh hr hm
    simp only [Yx,Yj] at hg ⊢
    show _∧_
    rw [e,hf]
    exact ⟨rfl,hg.2.1,b2⟩
   ·have hf:ZaV l v.tx=ZaV g.txs v.tx:=by
     cases hc:ZaV g.txs v.tx with
     | none=>
      refine Zrv fun s hsl es=>?_
      rcases (hM s).1 hsl with ⟨m1,m2⟩ | ⟨rfl,_⟩
      ·have:=Zjh h2 m1
       rw [es,hc] at this;cases this
      ·exact e es.symm
     | some s=>
      obtain ⟨m1,m2⟩:=findT_mem hc
      have hm:s ∈ l:=(hM s).2 (.inl ⟨m1,by rw [m2];exact e⟩)
      have:=Zjh hr hm
      rwa [m2] at this
    show (((ZaV l v.tx).isSome && _):Bool)=true
    rw [hf];exact hg
 refine Zfe.2 ⟨hl,hr,fun x hx=>?_,ZV.2 s1,s2,fun k=>?_⟩
 ·have hx2:Zag x=0∧Zbb g x=true:=by
   rcases (hM x).1 hx with ⟨m1,_⟩ | ⟨rfl,b1⟩
   ·exact h3 x m1
   ·exact ht b1
  refine ⟨hx2.1,?_⟩
  have h7:=hx2.2
  unfold Zbb at h7 ⊢
  rw [Yam] at h7 ⊢
  exact fun v hv=>hhas x hx v hv (h7 v hv)
 ·rw [ZiC h4 k]
  have hn:(getO g.orders k).Nodup:=(h6 k).symm.nodup (Ze7 h2 k)
  refine (List.perm_ext_iff_of_nodup (ZlT hn k) (Ze7 hr k)).2 fun x=>?_
  rw [ZoA,Zhe,(h6 k).mem_iff,Zhe]
  constructor
  ·rintro (⟨⟨s,m1,m2,m3,m4⟩,m5⟩ | ⟨rfl,m3,m4⟩)
   ·exact ⟨s,(hM s).2 (.inl ⟨m1,by rw [m2];exact m5⟩),m2,m3,m4⟩
   ·refine ⟨t,(hM t).2 (.inr ⟨rfl,?_⟩),rfl,m3,m4⟩
    cases b with
    | true=>rfl
    | false=>rw [hb rfl] at m3;cases m3
  ·rintro ⟨s,m1,m2,m3,m4⟩
   rcases (hM s).1 m1 with ⟨m5,m6⟩ | ⟨rfl,_⟩
   ·exact .inl ⟨⟨s,m5,m2,m3,m4⟩,by rw [← m2];exact m6⟩
   ·exact .inr ⟨m2.symm,m3,m4⟩
theorem Zq5 {l:List TxD} {t:TxD} (h:ZeH TxD.id l) (hk:isK TxD.id t.id l=false):ZeH TxD.id (l.take (lowK TxD.id t.id l) ++ [t] ++ l.drop (lowK TxD.id t.id l)) ∧ ∀ s,s ∈ l.take (lowK TxD.id t.id l) ++ [t] ++ l.drop (lowK TxD.id t.id l) ↔ (s ∈ l∧s.id≠t.id)∨(s=t∧true=true):=by
 rw [← Ze3 (ZV.1 h) hk]
 refine ⟨ZV.2 (Zdd (ZV.1 h)),fun s=>?_⟩
 rw [Ze3 (ZV.1 h) hk,YH,YH,Yr]
 have hne:∀ s ∈ l,s.id≠t.id:=fun s hs e=>by
  have:=Ya3.1 hk s hs
  simp at this;exact this e
 constructor
 ·rintro ((h1 | h1) | h1)
  ·exact .inl ⟨Yax h1,hne s (Yax h1)⟩
  ·exact .inr ⟨h1,rfl⟩
  ·exact .inl ⟨YaW h1,hne s (YaW h1)⟩
 ·rintro (⟨h1,_⟩ | ⟨h1,_⟩)
  ·rw [← YY (lowK TxD.id t.id l) l,YH] at h1
   rcases h1 with h1 | h1
   ·exact .inl (.inl h1)
   ·exact .inr h1
  ·exact .inl (.inr h1)
theorem ZqX {l:List TxD} {t:TxD} (h:ZeH TxD.id l) (hk:isK TxD.id t.id l=true):ZeH TxD.id (l.set (lowK TxD.id t.id l) t) ∧ ∀ s,s ∈ l.set (lowK TxD.id t.id l) t ↔ (s ∈ l∧s.id≠t.id)∨(s=t∧true=true):=by
 rw [← ZhP (ZV.1 h) hk]
 refine ⟨ZV.2 (Zdd (ZV.1 h)),fun s=>?_⟩
 constructor
 ·intro hs
  rcases Zfs hs with ⟨rfl,_⟩ | h1
  ·exact .inr ⟨rfl,rfl⟩
  ·exact .inl h1
 ·have key:∀ (l:List TxD) (d:Bool),((s ∈ l∧s.id≠t.id)∨(s=t∧d=false))→s ∈ putGR TxD.id t l d:=by
   intro l
   induction l with
   | nil=>
    rintro d (⟨h1,_⟩ | ⟨rfl,h1⟩)
    ·cases h1
    ·subst h1;simp [putGR]
   | cons x l ih=>
    intro d hx
    rw [putGR,YH,YH]
    rcases hx with ⟨h1,h2⟩ | ⟨rfl,h1⟩
    ·rcases Yp.1 h1 with rfl | h1
     ·exact .inl (.inr (by rw [Yb h2];simp))
     ·exact .inr (ih _ (.inl ⟨h1,h2⟩))
    ·by_cases hA:s.id≤x.id
     ·exact .inl (.inl (by rw [Yg ⟨h1,hA⟩];simp))
     ·exact .inr (ih _ (.inr ⟨rfl,by rw [h1];simp;omega⟩))
  rintro (h1 | ⟨h1,_⟩)
  ·exact key l false (.inl h1)
  ·exact key l false (.inr ⟨h1,rfl⟩)
theorem ZrE {t:TxD} {v:ZcM} (h:v ∈ ZaC t):v.tx≠t.id:=by
 have key:∀ (l:List OpD) (out:List ZcM),(∀ v ∈ out,v.tx≠t.id) → ∀ v ∈ l.foldl (Zbe t.id) out,v.tx≠t.id:=by
  intro l
  induction l with
  | nil=>intro out h;exact h
  | cons o l ih=>
   intro out h
   refine ih _ fun v hv=>?_
   unfold Zbe at hv
   split at hv
   ·rename_i hc
    rcases YH.1 hv with hv | hv
    ·exact h v hv
    ·have e:v=ofO o:=by simpa using hv
     have hn:=hc.1
     unfold Zh2 at hn
     simp at hn
     rw [e]
     unfold ofO
     rw [Yg hn.1.1]
     exact hn.2
   ·exact h v hv
 exact key _ _ (fun v hv=>by cases hv) v h
theorem Zmi {g:Zw} {v:ZcM} (h:Zgx g v=true) (hz:¬ (v.tx=0∧v.nth=0)):isK TxD.id v.tx g.txs=true∧1≤v.nth:=by
 unfold Zgx at h
 rw [Yb hz,Yx,Yx,Zew] at h
 exact ⟨h.1,by simpa using h.2.1⟩
theorem Zsv {g:Zw} {t x:TxD} {v:ZcM} (h:Zhm g t=false) (hx:x ∈ g.txs) (hn:x.id≠t.id) (hv:v ∈ ZaC x) (e:v.tx=t.id):v.nth≤(wcnt t.ops v.key:Int):=by
 have h1:=Ya3.1 h x hx
 unfold Zlc at h1
 rw [YA hn,Ybv] at h1
 have h2:=Ya3.1 Wj v hv
 unfold ZnX at h2
 simp [e] at h2
 omega
theorem ZkT {g:Zw} {t:TxD} (hs:Za8 g) (h:(ZbH g t).2=0):ZG (ZbH g t).1:=by
 unfold ZbH at h ⊢
 split at h
 ·rename_i h1;exact absurd h h1
 ·rename_i h1
  split at h
  ·simp at h
  ·rename_i h2
   obtain ⟨hr,hrt,hik,hnd,_⟩:=Zsy We (YS.1 h1)
   rw [Yb h1,Yb h2]
   obtain ⟨m1,m2⟩:=Zq5 (ZaF hr).1 hik
   refine ZfY (b:=true) hr hs.2 m1 ?_ m2 (fun _=>⟨hrt,hnd⟩) (fun h=>by cases h) fun x _ v _ e hv hz=>?_
   ·have:=hr.1
    rw [Yc,Yc,Yk,YN];simp;omega
   ·have:=(Zmi hv hz).1
    rw [e,hik] at this;cases this
theorem Zl2 {g:Zw} {t:TxD} (hs:Za8 g) (h:(ZcK g t).2=0):ZG (ZcK g t).1:=by
 unfold ZcK at h ⊢
 split at h
 ·rename_i h1;exact absurd h h1
 ·rename_i h1
  split at h
  ·simp at h
  ·rename_i h2
   obtain ⟨hr,hrt,hik,hnd,_⟩:=Zsy We (YS.1 h1)
   rw [Yb h1,Yb h2]
   obtain ⟨m1,m2⟩:=ZqX (ZaF hr).1 hik
   refine ZfY (b:=true) hr hs.2 m1 (by rw [YR];exact hr.1) m2 (fun _=>⟨hrt,hnd⟩) (fun h=>by cases h) fun x hx v hv e _ _=>⟨rfl,?_⟩
   rcases (m2 x).1 hx with ⟨h3,h4⟩ | ⟨rfl,_⟩
   ·exact Zsv Wk h3 h4 hv e
   ·exact absurd e (ZrE hv)
theorem Zk3 {g:Zw} {id:Int} (hs:Za8 g) (h:(Zbu g id).2=0):ZG (Zbu g id).1:=by
 unfold Zbu at h ⊢
 split at h
 ·simp at h
 ·rename_i h1
  split at h
  ·simp at h
  ·rename_i h2
   split at h
   ·simp at h
   ·rename_i h3
    have hr:=YS.1 h1
    have hik:isK TxD.id id g.txs=true:=Wk
    have hri:=(ZaF hr).1
    rw [Yb h1,Yb h2,Yb h3,← Zid (ZV.1 hri) hik]
    refine ZfY (b:=false) hr hs.2 (ZV.2 ((ZV.1 hri).filter _)) (YT (YJ _ _) hr.1) (fun s=>?_) (fun h=>by cases h) (fun _=>rfl) fun x hx v hv e hg hz=>?_
    ·rw [YV];simp [Zey]
    ·rw [YV] at hx
     have h5:=Zsv (t:=Zey id) Wc hx.1 (by simpa [Zey] using hx.2) hv e
     have h6:=(Zmi hg hz).2
     have h7:wcnt (Zey id).ops v.key=0:=rfl
     rw [h7] at h5
     omega
theorem Zf2 {g:Zw} {key:Int} {rule:List Int→List Int×Int} (hp:∀ l,(rule l).2=0→(rule l).1.Perm l) (h:(ZbV g key rule).2=0):ZG (ZbV g key rule).1:=by
 by_cases hr:ZG g
 ·by_cases hg:getO g.orders key = []
  ·rw [Zpl hr hg] at h;simp at h
  ·by_cases h3:(rule (getO g.orders key)).2=0
   ·have hpp:=hp _ h3
    have hne:(rule (getO g.orders key)).1≠[]:=fun e=>hg (by rw [e] at hpp;exact hpp.symm.eq_nil)
    rw [Zo3 hr hg h3 hne,Yq hne]
    obtain ⟨h1,h2,h4,h5,h6,h7⟩:=Zfe.1 hr
    refine Zfe.2 ⟨h1,h2,fun t ht=>?_,ZV.2 (Zdd (ZV.1 h5)),fun o ho=>?_,fun k=>?_⟩
    ·obtain ⟨g1,g2⟩:=h4 t ht
     exact ⟨g1,g2⟩
    ·rcases Zfs ho with ⟨rfl,_⟩ | ⟨g1,_⟩
     ·exact hne
     ·exact h6 o g1
    ·show (getO (putGR OrdD.key _ g.orders false) k).Perm _
     rw [Zm7 (ZV.1 h5)]
     by_cases e:k=key
     ·subst e
      rw [Yg rfl]
      exact hpp.trans (h7 k)
     ·rw [Yb e];exact h7 k
   ·rw [Zo9 hr hg h3] at h;exact absurd h h3
 ·rw [ZpM hr] at h;simp at h
theorem Zpu {o:OrdD} (l:List Int) (h:(Zi5 o l).2=0):(Zi5 o l).1.Perm l:=by
 unfold Zi5 at h ⊢
 split at h
 ·rename_i hp;rw [Yg hp];exact hp.symm
 ·simp at h
theorem Zrm {g:Zw} {e:EdD} (hs:Za8 g) (h:(doH g e).2=0):ZG (doH g e).1:=by
 unfold doH at h ⊢
 by_cases k0:e.kind=0
 ·rw [Yg k0] at h ⊢;exact ZkT hs h
 ·rw [Yb k0] at h ⊢
  by_cases k1:e.kind=1
  ·rw [Yg k1] at h ⊢;exact Zk3 hs h
  ·rw [Yb k1] at h ⊢
   by_cases k2:e.kind=2
   ·rw [Yg k2] at h ⊢;exact Zl2 hs h
   ·rw [Yb k2] at h ⊢
    by_cases k3:e.kind=3
    ·rw [Yg k3] at h ⊢;exact Zf2 Zpu h
    ·rw [Yb k3] at h ⊢
     by_cases k4:e.kind=4
     ·rw [Yg k4] at h ⊢;exact Zf2 (rule:=fun l=>ZcB l e.t.id e.place) (fun l h=>Zj7 h) h
     ·rw [Yb k4] at h;simp at h
structure ZeO where
 kind:Int
 e:EdD
 d:ZK
 n:Int
 deriving Inhabited
def Zbd (x:ZeO):List PV:=[.int .i64 x.kind,.int .i64 x.e.kind,.int .i64 x.e.t.id,.bool x.e.t.done,.sl rOp x.e.t.ops,.int .i64 x.e.o.key,.sl Zo x.e.o.txs,.int .i64 x.e.place,.sl rTx x.d.was,.sl rTx x.d.now,.sl Zp x.d.old,.sl Zp x.d.new,.int .i64 x.n]
def Zbn (g:Zw) (x:ZeO):ZK:=if x.kind=3 then x.d else if (doH g x.e).2≠0 then noD else (ofD g (doH g x.e).1).1
def ZfC (x:ZeO):Prop:=Zfu x.e∧Ze4 x.d
instance (x:ZeO):Decidable (ZfC x):=by unfold ZfC;exact inferInstance
def Zhl (l:List ZeO):Prop:=l.length≤24 ∧ ∀ x ∈ l,ZfC x
instance (l:List ZeO):Decidable (Zhl l):=by unfold Zhl;exact inferInstance
def ZdQ (n:Nat) (g:Zw):Prop:=(g.txs.length≤12*n ∧ ∀ t ∈ g.txs,t.ops.length≤24)∧g.orders.length≤24*n ∧ ∀ o ∈ g.orders,o.txs.length≤24+n
theorem ZdQ.small {n:Nat} {g:Zw} (h:ZdQ n g) (hn:n≤25):Za8 g:=by
 obtain ⟨⟨h1,h2⟩,h3,h4⟩:=h
 exact ⟨⟨ow,fun t ht=>by have:=h2 t ht;omega⟩,ow,fun o ho=>by have:=h4 o ho;omega⟩
theorem ZdQ.up {n:Nat} {g:Zw} (h:ZdQ n g):ZdQ (n+1) g:=⟨⟨by have:=h.1.1;omega,h.1.2⟩,by have:=h.2.1;omega,fun o ho=>by have:=h.2.2 o ho;omega⟩
theorem ZdQ.none {n:Nat} : ZdQ n Zbq:=⟨⟨by simp [Zbq],fun t ht=>by cases ht⟩,by simp [Zbq],fun o ho=>by cases ho⟩
theorem ZlI {a c:Nat} {t:TxD} {os:List OrdD} (ht:t.ops.length≤24) (h1:os.length≤a) (h2:∀ o ∈ os,o.txs.length≤c):(settleO t os).length≤a+24 ∧ ∀ o ∈ settleO t os,o.txs.length≤c+1:=by
 have hk:=ZdD t
 have hl:(Zeu t os (Zai t)).length≤os.length+(Zai t).length:=by
  unfold Zeu
  split
  ·have key:∀ (ks:List Int) (os:List OrdD),(ks.foldl Zjz os).length≤os.length+ks.length:=by
    intro ks
    induction ks with
    | nil=>intro os;simp
    | cons k ks ih=>intro os;have h1:=ih (Zjz os k);have h2:=Zm4 os k;rw [Yas,Yl];omega
   exact key _ _
  ·omega
 unfold settleO
 refine ⟨YT (YJ _ _) (by rw [YO];omega),fun o ho=>?_⟩
 obtain ⟨o',ho',e⟩:=YG.1 (YV.1 ho).1
 have hlen:o'.txs.length≤c:=by
  rcases ZpF ho' with h | h
  ·exact h2 o' h
  ·rw [h];simp
 rw [← e]
 unfold Zsu
 show (if _ then _ else _:List Int).length≤_
 split
 ·unfold ZgH;split
  ·omega
  ·simp;omega
 ·unfold ZbN
  exact YT (YJ _ _) ow
theorem Zhh {n:Nat} {g:Zw} {key:Int} {rule:List Int→List Int×Int} (hr:∀ l,(rule l).2=0→(rule l).1.length≤l.length) (h:ZdQ n g):ZdQ n (ZbV g key rule).1:=by
 unfold ZbV
 split
 ·exact ZdQ.none
 ·split
  ·exact ZdQ.none
  ·split
   ·exact ZdQ.none
   ·rename_i h1 h2 h3
    refine ⟨h.1,by show (List.set _ _ _).length≤_;rw [YR];exact h.2.1,fun o ho=>?_⟩
    rcases List.mem_or_eq_of_mem_set ho with h4 | h4
    ·exact h.2.2 o h4
    ·have hk:isK OrdD.key key g.orders=true:=Wk
     have hlt:=(Zjr (ZaF (YS.1 h1)).2 hk).1
     have:=hr _ (YS.1 h3)
     have:=h.2.2 _ (ZP hlt)
     rw [h4];show (rule _).1.length≤24+n;omega
theorem ZdQ.doH {n:Nat} {g:Zw} {e:EdD} (h:ZdQ n g) (he:Zfu e):ZdQ (n+1) (Go.Proofs.YtfecljadegkmdaaGreat.doH g e).1:=by
 have hset:∀ t:TxD,t.ops.length≤24 → ∀ txs:List TxD,txs.length≤12*(n+1)→(∀ t ∈ txs,t.ops.length≤24)→ZdQ (n+1) ⟨txs,settleO t g.orders⟩:=fun t ht txs h1 h2=>by
  obtain ⟨h3,h4⟩:=ZlI ht h.2.1 h.2.2
  exact ⟨⟨h1,h2⟩,by show (settleO t g.orders).length≤_;omega,fun o ho=>by have:=h4 o ho;omega⟩
 unfold Go.Proofs.YtfecljadegkmdaaGreat.doH
 split
 ·unfold ZbH
  split
  ·exact ZdQ.none
  ·split
   ·exact ZdQ.none
   ·refine hset _ he.1 _ ?_ fun t ht=>?_
    ·have:=h.1.1;rw [Yc,Yc,Yk,YN];simp;omega
    ·rw [YH,YH] at ht
     rcases ht with (ht | ht) | ht
     ·exact h.1.2 t (Yax ht)
     ·rw [Yr.1 ht];exact he.1
     ·exact h.1.2 t (YaW ht)
 ·split
  ·unfold Zbu
   split
   ·exact ZdQ.none
   ·split
    ·exact ZdQ.none
    ·split
     ·exact ZdQ.none
     ·refine hset _ (by simp [Zey]) _ ?_ fun t ht=>?_
      ·have:=h.1.1;rw [Yc,Yk,YN];omega
      ·rw [YH] at ht
       rcases ht with ht | ht
       ·exact h.1.2 t (Yax ht)
       ·exact h.1.2 t (YaW ht)
  ·split
   ·unfold ZcK
    split
    ·exact ZdQ.none
    ·split
     ·exact ZdQ.none
     ·refine hset _ he.1 _ ?_ fun t ht=>?_
      ·have:=h.1.1;rw [YR];omega
      ·rcases List.mem_or_eq_of_mem_set ht with ht | ht
       ·exact h.1.2 t ht
       ·rw [ht];exact he.1
   ·split
    ·refine (Zhh (fun l h0=>?_) h).up
     unfold Zi5 at h0 ⊢
     split at h0
     ·rename_i hp;rw [Yg hp,hp.length_eq];exact YE _
     ·simp at h0
    ·split
     ·exact (Zhh (fun l h0=>by show (ZcB l _ _).1.length≤_;exact ZoL _ _ _) h).up
     ·exact ZdQ.none
theorem ZgQ {g:Zw} (h:ZcE g):(∀ t ∈ g.txs,t.ops.length≤24) ∧ ∀ o ∈ g.orders,o.txs.length≤24:=by
 refine ⟨fun t ht=>?_,fun o ho=>?_⟩
 ·obtain ⟨j,hj,rfl⟩:=YL ht
  have:=h.2.2.1 j hj
  rwa [Zu hj] at this
 ·obtain ⟨j,hj,rfl⟩:=YL ho
  have:=h.2.2.2 j hj
  rwa [Zu hj] at this
theorem ZdQ.turn {n:Nat} {g:Zw} {d:ZK} (h:ZdQ n g) (hd:Ze4 d):ZdQ (n+1) (Zca g d):=by
 have h1:=ZgQ hd.2
 have h2:d.now.length≤12:=hd.2.1
 have h3:d.new.length≤24:=hd.2.2.1
 have h4:=Zgv (κ:=TxD.id) (l:=g.txs) (was:=d.was) (now:=d.now)
 have h5:=Zgv (κ:=OrdD.key) (l:=g.orders) (was:=d.old) (now:=d.new)
 refine ⟨⟨by have:=h.1.1;show (Zc8 _ _ _ _).length≤_;omega,fun t ht=>?_⟩,by have:=h.2.1;show (Zc8 _ _ _ _).length≤_;omega,fun o ho=>?_⟩
 ·rcases Zd4.1 ht with ⟨h6,_⟩ | h6
  ·exact h.1.2 t h6
  ·exact h1.1 t h6
 ·rcases Zd4.1 ho with ⟨h6,_⟩ | h6
  ·have:=h.2.2 o h6;omega
  ·have:=h1.2 o h6;omega
theorem Ze4.smallD {d:ZK} (h:Ze4 d):Zf9 d:=by
 have key:∀ {g:Zw},ZcE g→Za8 g:=fun {g} hg=>by
  have h1:=ZgQ hg
  exact ⟨⟨by have:=hg.1;omega,fun t ht=>by have:=h1.1 t ht;omega⟩,by have:=hg.2.1;omega,fun o ho=>by have:=h1.2 o ho;omega⟩
 exact ⟨key h.1,key h.2⟩
structure Zje (g:Zw) (n:Nat) (m:ZK):Prop where
 sm:ZbG g m
 fit:(ZE g m).2=0→ZdQ (n+1) (ZE g m).1∧ZG (ZE g m).1
 now:m.now.length≤400
 new:m.new.length≤700
 ops:∀ t ∈ m.now,t.ops.length≤24
 len:∀ o ∈ m.new,o.txs.length≤60
theorem ZhQ {n:Nat} {g:Zw} {m:ZK} (h:ZdQ n g) (hn:n≤24) (hm:Ze4 m):Zje g n m:=by
 have h1:=ZgQ hm.2
 have h2:m.now.length≤12:=hm.2.1
 have h3:m.new.length≤24:=hm.2.2.1
 exact ⟨⟨h.small ow,hm.smallD,(h.turn hm).small ow⟩,fun h0=>by
  obtain ⟨_,_,h4,h5⟩:=Zby h0
  rw [h5];exact ⟨h.turn hm,h4⟩,ow,ow,h1.1,fun o ho=>by have:=h1.2 o ho;omega⟩
theorem Znu {n:Nat} {g:Zw} {x:ZeO} (h:ZdQ n g) (hr:ZG g) (hn:n≤24) (hx:ZfC x):Zje g n (Zbn g x):=by
 unfold Zbn
 split
 ·exact ZhQ h hn hx.2
 ·split
  ·exact ZhQ h hn We
  ·rename_i h0
   have h0:(doH g x.e).2=0:=YS.1 h0
   have hf:=h.doH hx.1
   have hr2:=Zrm (h.small ow) h0
   have ha:=ZiW hr hr2
   have hz:(ZE g (ofD g (doH g x.e).1).1).2=0:=by rw [ha]
   have ht:Zca g (ofD g (doH g x.e).1).1=(doH g x.e).1:=by rw [← (Zby hz).2.2.2,ha]
   have hs1:=h.small ow
   have hs2:=hf.small ow
   have e:(ofD g (doH g x.e).1).1 = ⟨Zaa TxD.id g.txs (doH g x.e).1.txs,Zaa TxD.id (doH g x.e).1.txs g.txs,Zaa OrdD.key g.orders (doH g x.e).1.orders,Zaa OrdD.key (doH g x.e).1.orders g.orders⟩:=by
    unfold ofD;rw [Yg ⟨hr,hr2⟩]
   refine ⟨⟨hs1,by rw [e];exact ⟨⟨hs1.1.less,hs1.2.less⟩,hs2.1.less,hs2.2.less⟩,by rw [ht];exact hs2⟩,fun _=>by rw [ha];exact ⟨hf,hr2⟩,?_,?_,?_,?_⟩
   ·rw [e];have h1:=Zb7 (κ:=TxD.id) (doH g x.e).1.txs g.txs;have h2:=hf.1.1;show (Zaa _ _ _).length≤_;omega
   ·rw [e];have h1:=Zb7 (κ:=OrdD.key) (doH g x.e).1.orders g.orders;have h2:=hf.2.1;show (Zaa _ _ _).length≤_;omega
   ·rw [e];exact fun t ht=>hf.1.2 t (ZdN ht)
   ·rw [e];exact fun o ho=>by have:=hf.2.2 o (ZdN ho);omega
structure ZbF (A:StA) (i:Nat):Prop where
 ok:Zaz A
 right:ZG (hiA A)
 fit:ZdQ i (hiA A)
 snaps:∀ x ∈ A.snaps,ZdQ i (histA A.all A.seqs x.2)∧ZG (histA A.all A.seqs x.2)
 all:A.all.length≤400*i
 seqs:A.seqs.length≤700*i
 next:A.next≤i
 snl:A.snaps.length≤i
 ops:∀ t ∈ A.all,t.ops.length≤24
 len:∀ l ∈ A.seqs,l.length≤60
theorem ZbF.start:ZbF Zg3 0:=⟨Zaz.zero,Zjw,ZdQ.none,fun x hx=>(by cases hx),YE _,YE _,Yau _,YE _,fun t ht=>(by cases ht),fun l hl=>(by cases hl)⟩
theorem ZbF.up {A:StA} {i:Nat} (h:ZbF A i):ZbF A (i+1):=⟨h.ok,h.right,h.fit.up,fun x hx=>⟨(h.snaps x hx).1.up,(h.snaps x hx).2⟩,by have:=h.all;omega,by have:=h.seqs;omega,by have:=h.next;omega,by have:=h.snl;omega,h.ops,h.len⟩
theorem ZbF.fitS {A:StA} {i:Nat} (h:ZbF A i) (hi:i≤25):ZbR A:=⟨by have:=h.next;omega,by have:=h.snl;omega,by have:=h.all;omega,by have:=h.seqs;omega,fun l hl=>by have:=h.len l hl;omega,fun t ht=>by have:=h.ops t ht;omega⟩
theorem ZbF.dsm {A:StA} {i:Nat} (h:ZbF A i) (hi:i≤25):DSm (Za5 A):=⟨h.fit.small hi,fun x hx=>by
 obtain ⟨y,hy,rfl⟩:=YG.1 hx
 exact (h.snaps y hy).1.small hi,by have:=h.snl;show (A.snaps.map _).length≤_;rw [YO];omega⟩
theorem ZbF.doFit {A:StA} {i:Nat} {m:ZK} (h:ZbF A i) (hi:i≤24) (hm:Zje (hiA A) i m):ZlU A m:=⟨h.fitS ow,by have:=h.all;have:=hm.now;omega,by have:=h.seqs;have:=hm.new;omega,fun t ht=>by have:=hm.ops t ht;omega,fun o ho=>by have:=hm.len o ho;omega⟩
theorem ZbF.doS {A:StA} {i:Nat} {m:ZK} (h:ZbF A i) (hi:i≤24) (hm:Zje (hiA A) i m):ZbF (doA A m).1 (i+1):=by
 have hok:=h.ok.done m
 unfold doA at hok ⊢
 by_cases h1:(ZE (hiA A) m).2≠0
 ·rw [Yg h1];exact h.up
 ·rw [Yb h1] at hok ⊢
  by_cases h2:ZaT A - A.now.size+(sizeH (ZE (hiA A) m).1:Nat) > 10000
  ·rw [Yg h2];exact h.up
  ·rw [Yb h2] at hok ⊢
   have h0:=YS.1 h1
   have hh:=Zjj h.ok h0 ((sizeH (ZE (hiA A) m).1:Nat):Int)
   have hf:=hm.fit h0
   refine ⟨hok,by show ZG (histA _ _ _);rw [hh];exact hf.2,by show ZdQ _ (histA _ _ _);rw [hh];exact hf.1,fun x hx=>?_,?_,?_,by have:=h.next;show A.next≤_;omega,by have:=h.snl;show A.snaps.length≤_;omega,fun t ht=>?_,fun l hl=>?_⟩
   ·have hx:x ∈ A.snaps:=hx
    show ZdQ _ (histA (A.all++m.now) (A.seqs++_) x.2)∧ZG (histA (A.all++m.now) (A.seqs++_) x.2)
    rw [Zed (h.ok.oks x hx).1]
    exact ⟨(h.snaps x hx).1.up,(h.snaps x hx).2⟩
   ·show (A.all++m.now).length≤_
    rw [Yc];have:=h.all;have:=hm.now;omega
   ·show (A.seqs++m.new.map OrdD.txs).length≤_
    rw [Yc,YO];have:=h.seqs;have:=hm.new;omega
   ·rcases YH.1 ht with ht | ht
    ·exact h.ops t ht
    ·exact hm.ops t ht
   ·rcases YH.1 hl with hl | hl
    ·exact h.len l hl
    ·obtain ⟨o,ho,rfl⟩:=YG.1 hl
     exact hm.len o ho
theorem ZbF.keepS {A:StA} {i:Nat} (h:ZbF A i):ZbF (ZbZ A).1 (i+1):=by
 have hok:=h.ok.keep
 unfold ZbZ at hok ⊢
 split
 ·exact h.up
 ·rename_i h1
  rw [Yb h1] at hok
  refine ⟨hok,h.right,h.fit.up,fun x hx=>?_,by have:=h.all;show A.all.length≤_;omega,by have:=h.seqs;show A.seqs.length≤_;omega,by have:=h.next;show A.next+1≤_;omega,by show (A.snaps ++ [_]).length≤_;rw [Yc];have:=h.snl;simp;omega,h.ops,h.len⟩
  rcases YH.1 hx with hx | hx
  ·exact ⟨(h.snaps x hx).1.up,(h.snaps x hx).2⟩
  ·rw [Yr.1 hx];exact ⟨h.fit.up,h.right⟩
theorem ZbF.backS {A:StA} {i:Nat} (h:ZbF A i) (n:Int):ZbF (Zcf A n).1 (i+1):=by
 have hok:=h.ok.back n
 unfold Zcf at hok ⊢
 cases hx:ZcQ A n with
 | none=>exact h.up
 | some x=>
  rw [hx] at hok
  dsimp only at hok ⊢
  split
  ·exact h.up
  ·rename_i h1
   rw [Yb h1] at hok
   have hs:=h.snaps x (ZbC hx).1
   have hu:=h.up
   exact ⟨hok,hs.2,hs.1.up,hu.snaps,hu.all,hu.seqs,hu.next,hu.snl,h.ops,h.len⟩
theorem ZbF.dropS {A:StA} {i:Nat} (h:ZbF A i) (n:Int):ZbF (ZcI A n).1 (i+1):=by
 have hok:=h.ok.drop n
 unfold ZcI at hok ⊢
 cases hx:ZcQ A n with
 | none=>exact h.up
 | some x=>
  rw [hx] at hok
  have hu:=h.up
  exact ⟨hok,h.right,h.fit.up,fun y hy=>hu.snaps y (YV.1 hy).1,hu.all,hu.seqs,hu.next,YT (YJ _ _) hu.snl,h.ops,h.len⟩
theorem Zi9 (g:Zw) (x:ZeO) (hs:Za8 g) (he:Zfu x.e) (hs2:Za8 (doH g x.e).1):FnP prog 24 [.agg (Zi g),.agg (Zbd x)] (.agg (ZC (Zbn g x))):=by
 refine FnP.mk func24 Z ntmps24 Z fun B a w F V hfr O=>Ya ?_
 refine rS O (qx 101 r1 (qx 102 r1 (qf (oH [.slice none 0 0,.slice none 0 0,.slice none 0 0,.slice none 0 0] 103) trivial qz qZ))) V Jj QJ fun τ O=>?_
 have O:=XI
 generalize τ 2=v2,τ 3=v3,τ 4=v4 at O
 refine Za (Ya (Ya (rZ O (qg 0 102 r1 r1 (qa 102 r1 r1 (qf (o_eql .t qi) r1 qz qZ))) V [11,4,3,2] QJ fun O=>?_)))
 refine Zb O Z (fun hc0=>?_) (fun hc0=>?_)
 ·have hg:Zbn g x=x.d:=Yg Wz
  refine Ya (rZ O (qg 8 102 r1 r1 (qf (oL true 4 102 .adr) r1 r1 (qs 4 103 r2 r1 qZ))) V Jj QJ fun O=>(Yh (Zd ?_)))
  refine ZU hfr O Z (.cl 103 true 4 Z Z .nil) (.one KG)
 have h3:¬ x.kind=3:=Wz
 refine Yd (Za (Ya (rS O (qe 2 101 r1 r1 (qg 1 102 r1 r1 (qf (oL true 7 102 .adr) r1 r1 (qf (oP (Zts g x.e hs he) func30 (Args.two (.pagg .t) (.pagg .t))) r2 qz (qR rr (qf (o_extract .t Z) r1 qz (qf (o_extract .t Z) r1 qz (qf (oH [.slice none 0 0,.slice none 0 0] 104) trivial qz (qf (oA 2 104 .same (.conv .t .agg)) r2 r1 (qO rr qZ)))))))))) V Xb0 QN fun τ O=>?_)))
 have O:=Xe
 generalize τ 5=v5 at O
 refine Za (Ya (Ya (rZ O (qR rr (qf (o_neq .t qi) r1 qz qZ)) V [22,5,4,2] QN fun O=>?_)))
 refine Zb O Z (fun hc1=>?_) (fun hc1=>?_)
 ·have hg:Zbn g x=noD:=by unfold Zbn;rw [Yb h3,Yg WE]
  refine Ya (rZ O (qf (oB [] [.slice none 0 0,.slice none 0 0,.slice none 0 0,.slice none 0 0] [(0,1),(1,1),(2,1),(3,1)] .nil) trivial qz (qs 4 103 r2 r1 qZ)) V [5,4,2] QN fun O=>(Yh (Zd ?_)))
  refine ZU hfr O Z (.cl 103 true 4 Z Z .nil) (.one KG)
 have hg:Zbn g x=(ofD g (doH g x.e).1).1:=by unfold Zbn;rw [Yb h3,Yb WE]
 refine Yd (Za (Ya (rS O (qe 2 101 r1 r1 (qe 2 104 r1 r1 (qf (oP (Zuf g (doH g x.e).1 hs hs2) func66 (Args.two (.pagg .t) (.pagg .t))) r2 qz (qR rr (qf (o_extract .t Z) r1 qz (qf (o_extract .t Z) r1 qz (qf (oH [.slice none 0 0,.slice none 0 0,.slice none 0 0,.slice none 0 0] 105) trivial qz (qf (oA 4 105 .same (.conv .t .agg)) r2 r1 (qO rr qZ))))))))) V [7,4] J8 fun τ O=>?_)))
 have O:=Xe
 generalize τ 7=v7 at O
 refine Za (Ya (rZ O (qe 4 105 r1 r1 (qs 4 103 r2 r1 qZ)) V [4] J8 fun O=>Yh ?_))
 refine ZU hfr O Z (.cl 103 true 4 Z Z .nil) (.one KG)
theorem Zpa (l:List ZeO):FnP prog 8 [.sl Zbd l] (.bool (decide (Zhl l))):=by
 refine FnP.mk func8 Z ntmps8 Z fun B a w F V hfr O=>?_
 have hll:=Sat.lenSl O (i:=0) rfl
 refine Ya (rZ O qB V Ju [0] fun O=>(Ya (Ya ?_)))
 refine rZ O (qR rr (qu underlying22 r1 (qf (o_gtr .t qi) r1 qz qZ))) V [7,2,0] [0] fun O=>?_
 refine Zb O Z (fun hc0=>?_) (fun hc0=>?_)
 ·have hg:false=decide (Zhl l):=(Yq fun h9=>by have:=h9.1;simp at hc0;omega).symm
  refine Ya (rZ O qB V Ju [0] fun O=>(Yh (Zd ?_)))
  refine Zx hfr O Z Z Z (.bool hg)
 have hl0:l.length≤24:=WI
 refine Yd (Za (Ya (Ya (rZ O (qR rr (qu underlying22 r1 (qJ qZ))) V XaX [0] fun O=>Ye ?_))))
 refine Zh (σ:=(Nat)) [2,8,9] [0] (fun s=>[(10,.pv (.int .i64 (s:Int)))]) (fun s=>[]) (fun s=>s≤l.length∧(∀ q,q<s→ZfC (Nn l q))) (fun s=>l.length - s) (0) O ⟨rfl,rfl,rfl,rfl,tv⟩ ⟨rfl,tv⟩ ⟨Yo _,fun q hq=>absurd hq (YI q)⟩ ?_
 clear O;intro i a w F hC O
 have hC:=X3
 obtain ⟨F,O⟩:=O.nM XaX [0]
 have O:=X2
 obtain ⟨hi,hq⟩:=hC
 refine Ya (rZ O (qL r2) V [11,10,9,8,2] [0] fun O=>Ya ?_)
 refine Zb O Z (fun hc1=>?_) (fun hc1=>?_)
 ·have hil:i<l.length:=WH
  refine Yd (Za (Ya (Ye (Ya (rS O (qy 13 underlying22 r2 (qf (oR true 13 .t) r1 qz (qf (oH [.int .i64 0,.int .i64 0,.int .i64 0,.bool false,.slice none 0 0,.int .i64 0,.slice none 0 0,.int .i64 0,.slice none 0 0,.slice none 0 0,.slice none 0 0,.slice none 0 0,.int .i64 0] 101) trivial qz (qS 13 101 r2 r1 qZ)))) V DL QK fun τ O=>?_)))))
  have O:=Xe
  generalize τ 4=v4 at O
  try simp only [Yf] at O
  refine Za (Ya (rZ O (qg 1 101 r1 r1 (qf (oL true 7 101 .adr) r1 r1 (qf (oP (Zrc (Nn l i).e) func47 (Args.one (.pagg .t))) r1 qz (qf (ZW .t) r1 qz (qR rr (qv 8 101 Z r2 r1 (qk Z (fun h=>oL true 4 101 (.w h .adr)) r2 r1 (qk Z (fun h=>oP (Zrx (Nn l i).d) func48 (Args.one (.pagg (.w h)))) r2 qz (qk Z (fun h=>ZW (.w h)) r2 qz (qf (ZaB .t .t) r2 qz qZ)))))))))) V [23,10,9,8,2] QK fun O=>?_))
  refine Zb O Z (fun hc2=>?_) (fun hc2=>?_)
  ·have hbx:¬ ZfC (Nn l i):=by have h8:=hc2;intro h9;simp [h9.1,h9.2] at h8
   have hg:false=decide (Zhl l):=(Yq fun h9=>hbx (h9.2 _ (ZP hil))).symm
   refine Ya (rZ O qB V XaX QK fun O=>(Yh (Zl (Zd (Zd (Zl (Zd ?_)))))))
   refine Zx hfr O Z Z Z (.bool hg)
  have hne:ZfC (Nn l i):=by have h8:=hc2;simp at h8;exact h8
  refine Yd (Zf (Za (rZ O (qp r1 (qR rr qZ)) V XaX QK fun O=>?_)))
  replace O:=O.eI 10 i
  obtain ⟨F,O⟩:=O.nM [9,8,2,10] [0]
  exact ⟨(i+1),F,⟨ow,(fun q h9=>by rcases Yw (YC h9) with h8 | h8;exact hq q h8;rw [h8];exact hne)⟩,O,ow⟩
 have hil:i=l.length:=WH
 have hg:true=decide (Zhl l):=(YA ⟨hl0,fun x hx=>by obtain ⟨j,hj,rfl⟩:=YL hx;have:=hq j ow;rwa [Zu hj] at this⟩).symm
 refine Ym (Ze (Ze (Zk (Za (Ya (rZ O qB V [2] [0] fun O=>Yh ?_))))))
 refine Zx hfr O Z Z Z (.bool hg)
structure Zu6 (A:StA) (i:Nat) (K:List Zgg):Prop where
 p:ZbF A i
 kept:∀ x ∈ K,∃ y,ZcQ A x.n=some y∧histA A.all A.seqs y.2=x.h
 klen:K.length≤i
 sz:∀ y ∈ A.snaps,y.2.size≤324∨y.2.size=A.now.size
structure Zvj (A:StA) (K:List Zgg):Prop where
 ok:Zaz A
 fit:ZbR A
 kept:∀ x ∈ K,∃ y,ZcQ A x.n=some y∧histA A.all A.seqs y.2=x.h
 room:∀ y ∈ A.snaps,ZaT A - A.now.size+y.2.size≤10000
def ZbO (A:StA) (x:ZeO):StA:=if x.kind=0∨x.kind=1∨x.kind=2∨x.kind=3 then (doA A (Zbn (hiA A) x)).1 else if x.kind=4 then (ZbZ A).1 else if x.kind=5 then (Zcf A x.n).1 else if x.kind=6 then (ZcI A x.n).1 else A
theorem ZbF.step {A:StA} {i:Nat} {x:ZeO} (h:ZbF A i) (hi:i≤24) (hx:ZfC x):ZbF (ZbO A x) (i+1):=by
 unfold ZbO
 split
 ·exact h.doS hi (Znu h.fit h.right hi hx)
 ·split
  ·exact h.keepS
  ·split
   ·exact h.backS _
   ·split
    ·exact h.dropS _
    ·exact h.up
theorem Zj1 (l:List TxD):FnP prog 242 [.sl rTx l] (.bool (decide (ZZ TxD.id l))):=by
 refine FnP.mk func242 Z ntmps242 Z fun B a w F V hfr O=>?_
 have hxl:=Sat.lenSl O (i:=0) rfl
 refine Ya (rZ O qB V Ju [0] fun O=>(Ya (Ya ?_)))
 refine rZ O (qR rr (qu YbR r1 (qJ qZ))) V D1 [0] fun O=>Ye ?_
 refine Zh (σ:=(Nat)) [0,2,5] [0] (fun s=>[(6,.pv (.int .i64 (s:Int)))]) (fun s=>[]) (fun s=>s≤l.length∧(∀ q,q+1<s→TxD.id (Nn l q)<TxD.id (Nn l (q+1)))) (fun s=>l.length - s) (0) O ⟨rfl,rfl,rfl,rfl,tv⟩ ⟨rfl,tv⟩ ⟨Yo _,(fun q hq=>absurd hq (YI _))⟩ ?_
 clear O;intro i a w F hC O
 have hC:=X3
 obtain ⟨F,O⟩:=O.nM D1 [0]
 have O:=X2
 obtain ⟨hi,hq⟩:=hC
 refine Ya (rZ O (qL r2) V [7,6,5,2,0] [0] fun O=>Ya ?_)
 refine Zb O Z (fun hc0=>?_) (fun hc0=>?_)
 ·have hil:i<l.length:=WI
  refine Yd (Za (Ya (Ye (Ya (rZ O (qR rr (qO rr qZ)) V [6,5,3,2,0] [0] fun O=>Ya ?_)))))
  refine Zr O (qR rr (qf (o_gtr .t qi) r1 qz (qR rr (qm Z Z Z Z (qm Z Z Z Z (qk Z (fun h=>o_sub (.w h) qi) r2 qz (qk Z (fun h=>Zah (sz:=3) (.mk YbR kr) Wt (.w h) (.w h) KH KH) r3 qz (qk Z (fun h=>oG 0 (.w h)) r2 qz (qk Z (fun h=>oR false 1 (.w h)) r2 qz (qm Z Z Z Z (qm Z Z Z Z (qk Z (fun h=>Zah (sz:=3) (.mk YbR kr) Wt (.w h) (.w h) ow ow) r3 qz (qk Z (fun h=>oG 0 (.w h)) r2 qz (qk Z (fun h=>oR false 1 (.w h)) r2 qz (qk Z (fun h=>Zcb (.w h) (.w h)) r3 qz (qf (ZF .t .t) r2 qz qZ)))))))))))))))) V [24,6,5,2,0] [0] Z Z fun a w F O=>?_
  have O:=Xf
  try simp only [Yf] at O
  refine Za (Zb O Z (fun hc1=>?_) (fun hc1=>?_))
  ·have h9:0<i∧TxD.id (Nn l i)≤TxD.id (Nn l (IntKind.wrap .i64 ((i:Int) - 1)).toNat):=WE
   rw [show IntKind.wrap .i64 ((i:Int) - 1)=((i - 1:Nat):Int) by rw [Zj ow];omega,Yf] at h9
   have hg:false=decide (ZZ TxD.id l):=(Yq fun e=>by have:=Zgn e (i:=i - 1) ow;rw [show i - 1+1=i by omega] at this;omega).symm
   refine Ya (rZ O qB V D1 [0] fun O=>(Yh (Zl (Zd (Zd (Zl (Zd ?_)))))))
   refine Zx hfr O Z Z Z (.bool hg)
  have hne:0<i→TxD.id (Nn l (i - 1))<TxD.id (Nn l i):=fun h0=>by have h9:¬ (0<i∧TxD.id (Nn l i)≤TxD.id (Nn l (IntKind.wrap .i64 ((i:Int) - 1)).toNat)):=WE;rw [show IntKind.wrap .i64 ((i:Int) - 1)=((i - 1:Nat):Int) by rw [Zj ow];omega,Yf] at h9;exact Int.not_le.1 fun e=>h9 ⟨h0,e⟩
  refine Yd (Zf (Za (rZ O (qp r1 (qR rr qZ)) V D1 [0] fun O=>?_)))
  replace O:=O.eI 6 i
  obtain ⟨F,O⟩:=O.nM [5,2,0,6] [0]
  exact ⟨(i+1),F,⟨ow,(fun q h1=>by rcases Yw (YC h1) with h8 | h8;exact hq q h8;have h7:q=i - 1:=ow;subst h7;rw [show i - 1+1=i by omega];exact hne ow)⟩,O,ow⟩
 have hil:i=l.length:=WI
 have hg:true=decide (ZZ TxD.id l):=(YA (Zd5 fun q h1=>hq q ow)).symm
 refine Ym (Ze (Ze (Zk (Za (Ya (rZ O qB V [2] [0] fun O=>Yh ?_))))))
 refine Zx hfr O Z Z Z (.bool hg)
theorem Zkf (l:List OrdD):FnP prog 243 [.sl Zp l] (.bool (decide (ZZ OrdD.key l))):=by
 refine FnP.mk func243 Z ntmps243 Z fun B a w F V hfr O=>?_
 have hxl:=Sat.lenSl O (i:=0) rfl
 refine Ya (rZ O qB V Ju [0] fun O=>(Ya (Ya ?_)))
 refine rZ O (qR rr (qu YbS r1 (qJ qZ))) V D1 [0] fun O=>Ye ?_
 refine Zh (σ:=(Nat)) [0,2,5] [0] (fun s=>[(6,.pv (.int .i64 (s:Int)))]) (fun s=>[]) (fun s=>s≤l.length∧(∀ q,q+1<s→OrdD.key (Nn l q)<OrdD.key (Nn l (q+1)))) (fun s=>l.length - s) (0) O ⟨rfl,rfl,rfl,rfl,tv⟩ ⟨rfl,tv⟩ ⟨Yo _,(fun q hq=>absurd hq (YI _))⟩ ?_
 clear O;intro i a w F hC O
 have hC:=X3
 obtain ⟨F,O⟩:=O.nM D1 [0]
 have O:=X2
 obtain ⟨hi,hq⟩:=hC
 refine Ya (rZ O (qL r2) V [7,6,5,2,0] [0] fun O=>Ya ?_)
 refine Zb O Z (fun hc0=>?_) (fun hc0=>?_)
 ·have hil:i<l.length:=WI
  refine Yd (Za (Ya (Ye (Ya (rZ O (qR rr (qO rr qZ)) V [6,5,3,2,0] [0] fun O=>Ya ?_)))))
  refine Zr O (qR rr (qf (o_gtr .t qi) r1 qz (qR rr (qm Z Z Z Z (qm Z Z Z Z (qk Z (fun h=>o_sub (.w h) qi) r2 qz (qk Z (fun h=>Zah (sz:=2) (.mk YbS kr) Wt (.w h) (.w h) KH KH) r3 qz (qk Z (fun h=>oG 0 (.w h)) r2 qz (qk Z (fun h=>oR false 1 (.w h)) r2 qz (qm Z Z Z Z (qm Z Z Z Z (qk Z (fun h=>Zah (sz:=2) (.mk YbS kr) Wt (.w h) (.w h) ow ow) r3 qz (qk Z (fun h=>oG 0 (.w h)) r2 qz (qk Z (fun h=>oR false 1 (.w h)) r2 qz (qk Z (fun h=>Zcb (.w h) (.w h)) r3 qz (qf (ZF .t .t) r2 qz qZ)))))))))))))))) V [24,6,5,2,0] [0] Z Z fun a w F O=>?_
  have O:=Xf
  try simp only [Yf] at O
  refine Za (Zb O Z (fun hc1=>?_) (fun hc1=>?_))
  ·have h9:0<i∧OrdD.key (Nn l i)≤OrdD.key (Nn l (IntKind.wrap .i64 ((i:Int) - 1)).toNat):=WE
   rw [show IntKind.wrap .i64 ((i:Int) - 1)=((i - 1:Nat):Int) by rw [Zj ow];omega,Yf] at h9
   have hg:false=decide (ZZ OrdD.key l):=(Yq fun e=>by have:=Zgn e (i:=i - 1) ow;rw [show i - 1+1=i by omega] at this;omega).symm
   refine Ya (rZ O qB V D1 [0] fun O=>(Yh (Zl (Zd (Zd (Zl (Zd ?_)))))))
   refine Zx hfr O Z Z Z (.bool hg)
  have hne:0<i→OrdD.key (Nn l (i - 1))<OrdD.key (Nn l i):=fun h0=>by have h9:¬ (0<i∧OrdD.key (Nn l i)≤OrdD.key (Nn l (IntKind.wrap .i64 ((i:Int) - 1)).toNat)):=WE;rw [show IntKind.wrap .i64 ((i:Int) - 1)=((i - 1:Nat):Int) by rw [Zj ow];omega,Yf] at h9;exact Int.not_le.1 fun e=>h9 ⟨h0,e⟩
  refine Yd (Zf (Za (rZ O (qp r1 (qR rr qZ)) V D1 [0] fun O=>?_)))
  replace O:=O.eI 6 i
  obtain ⟨F,O⟩:=O.nM [5,2,0,6] [0]
  exact ⟨(i+1),F,⟨ow,(fun q h1=>by rcases Yw (YC h1) with h8 | h8;exact hq q h8;have h7:q=i - 1:=ow;subst h7;rw [show i - 1+1=i by omega];exact hne ow)⟩,O,ow⟩
 have hil:i=l.length:=WI
 have hg:true=decide (ZZ OrdD.key l):=(YA (Zd5 fun q h1=>hq q ow)).symm
 refine Ym (Ze (Ze (Zk (Za (Ya (rZ O qB V [2] [0] fun O=>Yh ?_))))))
 refine Zx hfr O Z Z Z (.bool hg)
theorem Zpk (d:ZK):FnP prog 168 [.agg (ZC d)] (.bool (decide (Zcy d))):=by
 refine FnP.mk func168 Z ntmps168 Z fun B a w F V hfr O=>Ya ?_
 refine rS O (qx 101 r1 qB) V J5 QK fun τ O=>?_
 have O:=Xq
 generalize τ 1=v1 at O
 refine Za (Ya (rZ O (qg 0 101 r1 r1 (qa 101 r1 r1 (qf (oP (Zj1 d.was) func242 (Args.one .t)) r1 qz (qR rr (qv 1 101 Z r2 r1 (qw 101 Z r2 r1 (qk Z (fun h=>oP (Zj1 d.now) func242 (Args.one (.w h))) r2 qz (qf (ZF .t .t) r2 qz (qR rr (qv 2 101 Z r2 r1 (qw 101 Z r2 r1 (qk Z (fun h=>oP (Zkf d.old) func243 (Args.one (.w h))) r2 qz (qf (ZF .t .t) r2 qz (qR rr (qv 3 101 Z r2 r1 (qw 101 Z r2 r1 (qk Z (fun h=>oP (Zkf d.new) func243 (Args.one (.w h))) r2 qz (qf (ZF .t .t) r2 qz (qO rr qZ))))))))))))))))))) V [2] QK fun O=>Yh ?_))
 refine Zx hfr O Z Z Z (.bool (Zih d))
section
variable {α:Type} {κ:α→Int}
theorem Zhi:∀ (was l:List α),was.foldl (fun l t=>l.filter fun x=>!decide (κ x=κ t)) l=l.filter fun x=>(ZH κ was (κ x)).isNone
 | [],l=>by
  rw [List.foldl_nil,Y8,Yba]
  exact fun x _=>rfl
 | t :: was,l=>by
  rw [Yas,Zhi was,List.filter_filter]
  refine List.filter_congr fun x _=>?_
  unfold ZH
  rw [YbI]
  by_cases h:κ t=κ x
  ·rw [show decide (κ t=κ x)=true by simp [h]];simp [h]
  ·rw [show decide (κ t=κ x)=false by simp [h],show decide (κ x=κ t)=false by simp [Ne.symm h]];simp
theorem ZnD {t:α} {l:List α} (hs:ZZ κ l) (hk:isK κ (κ t) l=false):(putGR κ t l false).Perm (t :: l):=by
 rw [Ze3 hs hk,Yt]
 refine List.perm_middle.trans ?_
 show (t :: (l.take _++l.drop _)).Perm _
 rw [YY]
theorem Zt2 {k:Int} {l:List α} (h:∀ x ∈ l,κ x≠k):isK κ k l=false:=by
 unfold isK
 rw [Ya3]
 intro x hx
 simpa using h x hx
theorem Zmo:∀ (now l:List α),ZZ κ l→Unl κ (l++now)→now.foldl (fun l t=>putGR κ t l false) l=Zak κ (l++now)
 | [],l,h,_=>by rw [List.foldl_nil,YF];exact ZcJ (Ybf _) h
 | t :: now,l,h,hu=>by
  have hu':=Y4.1 hu
  have hn:∀ x ∈ l,κ x≠κ t:=fun x hx=>hu'.2.2 x hx t Yan
  have hp:=ZnD h (Zt2 hn)
  have hp2:(putGR κ t l false++now).Perm (l++t :: now):=(YaZ now hp).trans List.perm_middle.symm
  rw [Yas,Zmo now _ (Zdd h) (hu.perm hp2.symm)]
  exact Zer hp2 hu
def Zba (κ:α→Int) (was l:List α):List α:=was.foldl (fun l t=>l.filter fun x=>!decide (κ x=κ t)) l
def Zei (κ:α→Int) (now l:List α):List α:=now.foldl (fun l t=>putGR κ t l false) l
theorem ZhV [Inhabited α] {was l:List α} {i:Nat} (h:i<was.length):Zba κ (was.take (i+1)) l=(Zba κ (was.take i) l).filter fun x=>!decide (κ x=κ (Nn was i)):=by
 unfold Zba
 rw [ZN h,YaC];rfl
theorem Zh3 [Inhabited α] {now l:List α} {i:Nat} (h:i<now.length):Zei κ (now.take (i+1)) l=putGR κ (Nn now i) (Zei κ (now.take i) l) false:=by
 unfold Zei
 rw [ZN h,YaC];rfl
theorem Zeh (was l:List α):(Zba κ was l).length≤l.length:=by
 unfold Zba
 rw [Zhi];exact YJ _ _
theorem ZhO:∀ (now l:List α),(Zei κ now l).length≤l.length+now.length
 | [],l=>by simp [Zei]
 | t :: now,l=>by
  have h1:=ZhO now (putGR κ t l false)
  have h2:(putGR κ t l false).length≤l.length+1:=ZcU l false
  show (Zei κ now (putGR κ t l false)).length≤_
  rw [Yl];omega
def ZiO (κ:α→Int) (l was now:List α):List α:=Zei κ now (Zba κ was l)
theorem Ziu [DecidableEq α] {l was now:List α} (hl:ZZ κ l) (hn:ZZ κ now) (hf:ZaZ κ l was now=true):ZiO κ l was now=Zc8 κ l was now:=by
 unfold ZiO Zei Zba
 rw [Zhi,Zmo _ _ (hl.sublist Ybm) (Zgl hl.unl hn.unl hf)];rfl
end
theorem Zrb (l:List TxD) (n:Int) (hll:l.length≤1000000):FnP prog 170 [.sl rTx l,.int .i64 n] (.tup [.sl rTx (l.filter fun x=>!decide (TxD.id x=n)),.any]):=by
 refine FnP.mk func170 Z ntmps170 Z fun B a w F V hfr O=>Ya ?_
 refine rZ O (qC qB) V J6 [0] fun O=>Ya ?_
 refine rZ O (qC qZ) V Xa4 [0] fun O=>(Ya (Ya ?_))
 refine rZ O (qR rr (qu YbR r1 (qJ qZ))) V Gk [0] fun O=>Ye ?_
 replace O:=O.fresh 50 rfl
 replace O:=O.turn 50 Z (Zas (T:=36) (sz:=3) (R:=rTx))
 refine Zh (σ:=(Nat)×(Value)×(List TxD)) [0,1,4,5,9,10] [0] (fun s=>[(11,.pv (.int .i64 (s.1:Int))),(6,.pv (.is s.2.1))]) (fun s=>[(50,.ob (.val s.2.1) (ZM 36 3 rTx s.2.2))]) (fun s=>s.1≤l.length∧(s.2.2=((l.take s.1).filter fun x=>!decide (TxD.id x=n)))) (fun s=>l.length - s.1) ((0),(.slice none 0 0),([])) O ⟨rfl,rfl,rfl,rfl,rfl,rfl,rfl,rfl,tv⟩ ⟨rfl,rfl,tv⟩ ⟨Yo _,rfl⟩ ?_
 clear O;intro s a w F hC O
 obtain ⟨i,v,out⟩:=s
 have hC:=X3
 obtain ⟨F,O⟩:=O.nM Gk QU
 have O:=X2
 obtain ⟨hi,hq⟩:=hC
 have hol:out.length≤i:=KV
 refine Ya (rZ O (qL r2) V [12,11,10,9,6,5,4,1,0] QU fun O=>Ya ?_)
 refine Zb O Z (fun hc0=>?_) (fun hc0=>?_)
 ·have hil:i<l.length:=WI
  refine Yd (Za (Ya (Ye (Ya (rS O (qy 3 YbR r2 (qf (oR true 3 .t) r1 qz (qf (oH [.int .i64 0,.bool false,.slice none 0 0] 101) trivial qz (qS 3 101 r2 r1 qZ)))) V [11,10,9,8,6,5,4,1,0] QQ fun τ O=>?_)))))
  have O:=X0
  generalize τ 8=v8 at O
  try simp only [Yf] at O
  refine Za (Ya (rZ O (qg 0 101 r1 r1 (qa 101 r1 r1 (qR rr (qf (o_neq .t .t) r2 qz qZ)))) V [18,11,10,9,8,6,5,4,1,0] QQ fun O=>?_))
  refine Zb O Z (fun hc1=>?_) (fun hc1=>?_)
  ·have h9:¬ TxD.id (Nn l i)=n:=WE
   have hst9:out ++ [(Nn l i)] = ((l.take (i+1)).filter fun x=>!decide (TxD.id x=n)):=by rw [hq,Z6 hil,Yg KI]
   refine rS O (qR rr (qe 3 101 r1 r1 (qf (o_buildSliceE (sz:=3) (zs:=[.int .i64 0,.bool false,.slice none 0 0]) (r:=[(0,.tmp 20)]) (l:=[_,_,_]) YbR kr kr kr kr Z Z (.agg Z .t kr kr .nil) Z) r1 qz (qf (o_append (sz:=3) (bs:=40) 50 (.mk' YbR kr kr) Wt .is (.arr (l':=[(Nn l i)]) .t) Wx We) ⟨rfl,rfl,tv⟩ ⟨rfl,tv⟩ (qO rr qZ))))) V Gk QQ fun τ O=>?_
   have O:=X0
   generalize τ 22=v22 at O
   refine Zf (Za (rZ O (qp r1 (qR rr qZ)) V Gk QQ fun O=>?_))
   replace O:=O.eI 11 i
   obtain ⟨F,O⟩:=O.nM [10,9,5,4,1,0,6,11] JI
   exact ⟨((i+1),_,_),F,⟨ow,hst9⟩,O,ow⟩
  have h9:TxD.id (Nn l i)=n:=WE
  have hst9:out=((l.take (i+1)).filter fun x=>!decide (TxD.id x=n)):=Qz
  refine Yd (Zf (Za (rZ O (qp r1 (qR rr qZ)) V Gk QQ fun O=>?_)))
  replace O:=O.eI 11 i
  obtain ⟨F,O⟩:=O.nM [10,9,5,4,1,0,6,11] JI
  exact ⟨((i+1),_,_),F,⟨ow,hst9⟩,O,ow⟩
 have hil:i=l.length:=WI
 have hg:out=l.filter fun x=>!decide (TxD.id x=n):=Q8
 refine Ym (Ze (Ze (Zk (Za (Ya (rZ O (qR rr (qR rr (qf (Zam 50 YbR .is) r1 r1 (qR rr (qu YbR r1 (qf (ZaR .t .t) r2 qz (qO rr (qO rr qZ)))))))) V Jf QU fun O=>Yh ?_))))))
 obtain ⟨F,O⟩:=O.give 50 4 Z rfl
 refine ZU hfr O Z (.tmp Z (.tmp Z .nil)) (.two (.sl Wr) .any)
theorem ZlD (l:List OrdD) (n:Int) (hll:l.length≤1000000):FnP prog 172 [.sl Zp l,.int .i64 n] (.sl Zp (l.filter fun x=>!decide (OrdD.key x=n))):=by
 refine FnP.mk func172 Z ntmps172 Z fun B a w F V hfr O=>Ya ?_
 refine rZ O (qC qZ) V J0 [0] fun O=>Ya ?_
 refine rZ O (qC qZ) V J6 [0] fun O=>(Ya (Ya ?_))
 refine rZ O (qR rr (qu YbS r1 (qJ qZ))) V QY [0] fun O=>Ye ?_
 replace O:=O.fresh 50 rfl
 replace O:=O.turn 50 Z (Zas (T:=39) (sz:=2) (R:=Zp))
 refine Zh (σ:=(Nat)×(Value)×(List OrdD)) [1,4,8,9] [0] (fun s=>[(10,.pv (.int .i64 (s.1:Int))),(5,.pv (.is s.2.1))]) (fun s=>[(50,.ob (.val s.2.1) (ZM 39 2 Zp s.2.2))]) (fun s=>s.1≤l.length∧(s.2.2=((l.take s.1).filter fun x=>!decide (OrdD.key x=n)))) (fun s=>l.length - s.1) ((0),(.slice none 0 0),([])) O ⟨rfl,rfl,rfl,rfl,rfl,rfl,tv⟩ ⟨rfl,rfl,tv⟩ ⟨Yo _,rfl⟩ ?_
 clear O;intro s a w F hC O
 obtain ⟨i,v,out⟩:=s
 have hC:=X3
 obtain ⟨F,O⟩:=O.nM QY QU
 have O:=X2
 obtain ⟨hi,hq⟩:=hC
 have hol:out.length≤i:=KV
 refine Ya (rZ O (qL r2) V Gu QU fun O=>Ya ?_)
 refine Zb O Z (fun hc0=>?_) (fun hc0=>?_)
 ·have hil:i<l.length:=WI
  refine Yd (Za (Ya (Ye (Ya (rS O (qy 2 YbS r2 (qf (oR true 2 .t) r1 qz (qf (oH [.int .i64 0,.slice none 0 0] 101) trivial qz (qS 2 101 r2 r1 qZ)))) V Gz QQ fun τ O=>?_)))))
  have O:=X0
  generalize τ 7=v7 at O
  try simp only [Yf] at O
  refine Za (Ya (rZ O (qg 0 101 r1 r1 (qa 101 r1 r1 (qR rr (qf (o_neq .t .t) r2 qz qZ)))) V [17,10,9,8,7,5,4,1] QQ fun O=>?_))
  refine Zb O Z (fun hc1=>?_) (fun hc1=>?_)
  ·have h9:¬ OrdD.key (Nn l i)=n:=WE
   have hst9:out ++ [(Nn l i)] = ((l.take (i+1)).filter fun x=>!decide (OrdD.key x=n)):=by rw [hq,Z6 hil,Yg KI]
   refine rS O (qR rr (qe 2 101 r1 r1 (qf (o_buildSliceE (sz:=2) (zs:=[.int .i64 0,.slice none 0 0]) (r:=[(0,.tmp 19)]) (l:=[_,_]) YbS kr kr kr kr Z Z (.agg Z .t kr kr .nil) Z) r1 qz (qf (o_append (sz:=2) (bs:=32) 50 (.mk' YbS kr kr) Wt .is (.arr (l':=[(Nn l i)]) .t) Wx We) ⟨rfl,rfl,tv⟩ ⟨rfl,tv⟩ (qO rr qZ))))) V QY QQ fun τ O=>?_
   have O:=X0
   generalize τ 21=v21 at O
   refine Zf (Za (rZ O (qp r1 (qR rr qZ)) V QY QQ fun O=>?_))
   replace O:=O.eI 10 i
   obtain ⟨F,O⟩:=O.nM JX JI
   exact ⟨((i+1),_,_),F,⟨ow,hst9⟩,O,ow⟩
  have h9:OrdD.key (Nn l i)=n:=WE
  have hst9:out=((l.take (i+1)).filter fun x=>!decide (OrdD.key x=n)):=Qz
  refine Yd (Zf (Za (rZ O (qp r1 (qR rr qZ)) V QY QQ fun O=>?_)))
  replace O:=O.eI 10 i
  obtain ⟨F,O⟩:=O.nM JX JI
  exact ⟨((i+1),_,_),F,⟨ow,hst9⟩,O,ow⟩
 have hil:i=l.length:=WI
 have hg:out=l.filter fun x=>!decide (OrdD.key x=n):=Q8
 refine Ym (Ze (Ze (Zk (Za (Ya (rZ O (qR rr (qO rr qZ)) V [4] QU fun O=>Yh ?_))))))
 obtain ⟨F,O⟩:=O.give 50 4 Z rfl
 refine Zx hfr O Z Z Z (.sl Wr)
theorem Zth (l:List TxD) (t:TxD) (hl:l.length≤1000000):FnP prog 171 [.sl rTx l,.agg (rTx t)] (.sl rTx (putGR TxD.id t l false)):=by
 refine FnP.mk func171 Z ntmps171 Z fun B a w F V hfr O=>Ya ?_
 refine rS O (qx 101 r1 (qC qZ)) V DC QK fun τ O=>?_
 have O:=X1
 generalize τ 3=v3 at O
 refine Za (Ya (rZ O (qC qZ) V Gq QK fun O=>Ya ?_))
 refine rZ O qB V Xa5 QK fun O=>(Ya (Ya ?_))
 refine rZ O (qR rr (qu YbR r1 (qJ qZ))) V QT QK fun O=>Ye ?_
 replace O:=O.fresh 50 rfl
 replace O:=O.turn 50 Z (Zas (T:=36) (sz:=3) (R:=rTx))
 refine Zh (σ:=(Nat)×(Bool)×(Value)×(List TxD)) [3,4,9,10] [0,101] (fun s=>[(11,.pv (.int .i64 (s.1:Int))),(6,.pv (.bool s.2.1)),(5,.pv (.is s.2.2.1))]) (fun s=>[(50,.ob (.val s.2.2.1) (ZM 36 3 rTx s.2.2.2))]) (fun s=>s.1≤l.length∧(s.2.2.2++putGR TxD.id t (l.drop s.1) s.2.1=putGR TxD.id t l false)) (fun s=>l.length - s.1) ((0),(false),(.slice none 0 0),([])) O ⟨rfl,rfl,rfl,rfl,rfl,rfl,rfl,tv⟩ ⟨rfl,rfl,rfl,tv⟩ ⟨Yo _,rfl⟩ ?_
 clear O;intro s a w F hC O
 obtain ⟨i,d,v,out⟩:=s
 have hC:=X3
 obtain ⟨F,O⟩:=O.nM QT QQ
 have O:=X2
 obtain ⟨hi,hq⟩:=hC
 have hol:=Yai List.length hq
 rw [Yc] at hol
 have htl:(putGR TxD.id t l false).length≤l.length+1:=ZcU l _
 refine Ya (rZ O (qL r2) V DN QQ fun O=>Ya ?_)
 refine Zb O Z (fun hc0=>?_) (fun hc0=>?_)
 ·have hil:i<l.length:=WI
  refine Yd (Za (Ya (Ye (Ya (rS O (qy 3 YbR r2 (qf (oR true 3 .t) r1 qz (qf (oH [.int .i64 0,.bool false,.slice none 0 0] 102) trivial qz (qS 3 102 r2 r1 qZ)))) V Ji QM fun τ O=>?_)))))
  have O:=X0
  generalize τ 8=v8 at O
  try simp only [Yf] at O
  refine Za (Ya (Ya (rZ O (qR rr (qf (ZW .t) r1 qz (qR rr (qv 0 102 Z r2 r1 (qw 102 Z r2 r1 (qv 0 101 Z r2 r1 (qw 101 Z r2 r1 (qk Z (fun h=>Zcb (.w h) (.w h)) r3 qz (qf (ZF .t .t) r2 qz qZ))))))))) V Dj QM fun O=>?_)))
  refine Zb O Z (fun hc1=>?_) (fun hc1=>?_)
  ·have hA:d=false∧TxD.id t≤TxD.id (Nn l i):=WE
   refine Ya (rS O (qR rr (qe 3 101 r1 r1 (qf (o_buildSliceE (sz:=3) (zs:=[.int .i64 0,.bool false,.slice none 0 0]) (r:=[(0,.tmp 25)]) (l:=[_,_,_]) YbR kr kr kr kr Z Z (.agg Z .t kr kr .nil) Z) r1 qz (qf (o_append (sz:=3) (bs:=40) 50 (.mk' YbR kr kr) Wt .is (.arr (l':=[t]) .t) Wx We) ⟨rfl,rfl,tv⟩ ⟨rfl,tv⟩ (qO rr qZ))))) V Ji QM fun τ O=>?_)
   have O:=X0
   generalize τ 27=v27 at O
   refine Za (rZ O qB V Ji QM fun O=>Ya ?_)
   refine rZ O (qg 0 102 r1 r1 (qa 102 r1 r1 (qg 0 101 r1 r1 (qa 101 r1 r1 (qf (o_neq .t .t) r2 qz qZ))))) V JJ QM fun O=>?_
   refine Zb O Z (fun hc2=>?_) (fun hc2=>?_)
   ·have hBq:¬ TxD.id (Nn l i)=TxD.id t:=WD
    refine rS O (qR rr (qe 3 102 r1 r1 (qf (o_buildSliceE (sz:=3) (zs:=[.int .i64 0,.bool false,.slice none 0 0]) (r:=[(0,.tmp 34)]) (l:=[_,_,_]) YbR kr kr kr kr Z Z (.agg Z .t kr kr .nil) Z) r1 qz (qf (o_append (sz:=3) (bs:=40) 50 (.mk' YbR kr kr) Wt .is (.arr (l':=[(Nn l i)]) .t) Wx We) ⟨rfl,rfl,tv⟩ ⟨rfl,tv⟩ (qO rr qZ))))) V QT QM fun τ O=>?_
    have O:=X0
    generalize τ 36=v36 at O
    refine Zf (Za (rZ O (qp r1 (qR rr qZ)) V QT QM fun O=>?_))
    replace O:=O.eI 11 i
    obtain ⟨F,O⟩:=O.nM Ja J9
    exact ⟨((i+1),_,_,_),F,⟨ow,Ks⟩,O,ow⟩
   have hBq:TxD.id (Nn l i)=TxD.id t:=WD
   refine Yd (Zf (Za (rZ O (qp r1 (qR rr qZ)) V QT QM fun O=>?_)))
   replace O:=O.eI 11 i
   obtain ⟨F,O⟩:=O.nM Ja J9
   exact ⟨((i+1),_,_,_),F,⟨ow,Ks⟩,O,ow⟩
  have hA:¬ (d=false∧TxD.id t≤TxD.id (Nn l i)):=KS
  refine Yd (Za (Ya (rZ O (qg 0 102 r1 r1 (qa 102 r1 r1 (qg 0 101 r1 r1 (qa 101 r1 r1 (qf (o_neq .t .t) r2 qz qZ))))) V JJ QM fun O=>?_)))
  refine Zb O Z (fun hc3=>?_) (fun hc3=>?_)
  ·have hBq:¬ TxD.id (Nn l i)=TxD.id t:=WS
   refine rS O (qR rr (qe 3 102 r1 r1 (qf (o_buildSliceE (sz:=3) (zs:=[.int .i64 0,.bool false,.slice none 0 0]) (r:=[(0,.tmp 34)]) (l:=[_,_,_]) YbR kr kr kr kr Z Z (.agg Z .t kr kr .nil) Z) r1 qz (qf (o_append (sz:=3) (bs:=40) 50 (.mk' YbR kr kr) Wt .is (.arr (l':=[(Nn l i)]) .t) Wx We) ⟨rfl,rfl,tv⟩ ⟨rfl,tv⟩ (qO rr qZ))))) V QT QM fun τ O=>?_
   have O:=X0
   generalize τ 36=v36 at O
   refine Zf (Za (rZ O (qp r1 (qR rr qZ)) V QT QM fun O=>?_))
   replace O:=O.eI 11 i
   obtain ⟨F,O⟩:=O.nM Ja J9
   exact ⟨((i+1),_,_,_),F,⟨ow,Ks⟩,O,ow⟩
  have hBq:TxD.id (Nn l i)=TxD.id t:=WS
  refine Yd (Zf (Za (rZ O (qp r1 (qR rr qZ)) V QT QM fun O=>?_)))
  replace O:=O.eI 11 i
  obtain ⟨F,O⟩:=O.nM Ja J9
  exact ⟨((i+1),_,_,_),F,⟨ow,Ks⟩,O,ow⟩
 have hil:i=l.length:=WI
 refine Ym (Ze (Ze (Zk (Za (Ya (Ya (rZ O (qR rr (qf (ZW .t) r1 qz qZ)) V [39,5,4,3] QQ fun O=>?_)))))))
 refine Zb O Z (fun hc4=>?_) (fun hc4=>?_)
 ·have hfin:out ++ [t] = putGR TxD.id t l false:=KN
  refine rS O (qR rr (qe 3 101 r1 r1 (qf (o_buildSliceE (sz:=3) (zs:=[.int .i64 0,.bool false,.slice none 0 0]) (r:=[(0,.tmp 41)]) (l:=[_,_,_]) YbR kr kr kr kr Z Z (.agg Z .t kr kr .nil) Z) r1 qz (qf (o_append (sz:=3) (bs:=40) 50 (.mk' YbR kr kr) Wt .is (.arr (l':=[t]) .t) Wx We) ⟨rfl,rfl,tv⟩ ⟨rfl,tv⟩ (qO rr qZ))))) V Jf QQ fun τ O=>?_
  have O:=X0
  generalize τ 43=v43 at O
  refine Za (Ya (rZ O (qR rr (qO rr qZ)) V [4] QQ fun O=>Yh ?_))
  obtain ⟨F,O⟩:=O.give 50 4 Z rfl
  refine Zx hfr O Z Z Z (.sl hfin)
 have hfin:out=putGR TxD.id t l false:=KO
 refine Yd (Za (Ya (rZ O (qR rr (qO rr qZ)) V [4] QQ fun O=>Yh ?_)))
 obtain ⟨F,O⟩:=O.give 50 4 Z rfl
 refine Zx hfr O Z Z Z (.sl hfin)
theorem ZkK (l:List OrdD) (t:OrdD) (hl:l.length≤1000000):FnP prog 173 [.sl Zp l,.agg (Zp t)] (.sl Zp (putGR OrdD.key t l false)):=by
 refine FnP.mk func173 Z ntmps173 Z fun B a w F V hfr O=>Ya ?_
 refine rS O (qx 101 r1 (qC qZ)) V DC QK fun τ O=>?_
 have O:=X1
 generalize τ 3=v3 at O
 refine Za (Ya (rZ O (qC qZ) V Gq QK fun O=>Ya ?_))
 refine rZ O qB V Xa5 QK fun O=>(Ya (Ya ?_))
 refine rZ O (qR rr (qu YbS r1 (qJ qZ))) V QT QK fun O=>Ye ?_
 replace O:=O.fresh 50 rfl
 replace O:=O.turn 50 Z (Zas (T:=39) (sz:=2) (R:=Zp))
 refine Zh (σ:=(Nat)×(Bool)×(Value)×(List OrdD)) [3,4,9,10] [0,101] (fun s=>[(11,.pv (.int .i64 (s.1:Int))),(6,.pv (.bool s.2.1)),(5,.pv (.is s.2.2.1))]) (fun s=>[(50,.ob (.val s.2.2.1) (ZM 39 2 Zp s.2.2.2))]) (fun s=>s.1≤l.length∧(s.2.2.2++putGR OrdD.key t (l.drop s.1) s.2.1=putGR OrdD.key t l false)) (fun s=>l.length - s.1) ((0),(false),(.slice none 0 0),([])) O ⟨rfl,rfl,rfl,rfl,rfl,rfl,rfl,tv⟩ ⟨rfl,rfl,rfl,tv⟩ ⟨Yo _,rfl⟩ ?_
 clear O;intro s a w F hC O
 obtain ⟨i,d,v,out⟩:=s
 have hC:=X3
 obtain ⟨F,O⟩:=O.nM QT QQ
 have O:=X2
 obtain ⟨hi,hq⟩:=hC
 have hol:=Yai List.length hq
 rw [Yc] at hol
 have htl:(putGR OrdD.key t l false).length≤l.length+1:=ZcU l _
 refine Ya (rZ O (qL r2) V DN QQ fun O=>Ya ?_)
 refine Zb O Z (fun hc0=>?_) (fun hc0=>?_)
 ·have hil:i<l.length:=WI
  refine Yd (Za (Ya (Ye (Ya (rS O (qy 2 YbS r2 (qf (oR true 2 .t) r1 qz (qf (oH [.int .i64 0,.slice none 0 0] 102) trivial qz (qS 2 102 r2 r1 qZ)))) V Ji QM fun τ O=>?_)))))
  have O:=X0
  generalize τ 8=v8 at O
  try simp only [Yf] at O
  refine Za (Ya (Ya (rZ O (qR rr (qf (ZW .t) r1 qz (qR rr (qv 0 102 Z r2 r1 (qw 102 Z r2 r1 (qv 0 101 Z r2 r1 (qw 101 Z r2 r1 (qk Z (fun h=>Zcb (.w h) (.w h)) r3 qz (qf (ZF .t .t) r2 qz qZ))))))))) V Dj QM fun O=>?_)))
  refine Zb O Z (fun hc1=>?_) (fun hc1=>?_)
  ·have hA:d=false∧OrdD.key t≤OrdD.key (Nn l i):=WE
   refine Ya (rS O (qR rr (qe 2 101 r1 r1 (qf (o_buildSliceE (sz:=2) (zs:=[.int .i64 0,.slice none 0 0]) (r:=[(0,.tmp 25)]) (l:=[_,_]) YbS kr kr kr kr Z Z (.agg Z .t kr kr .nil) Z) r1 qz (qf (o_append (sz:=2) (bs:=32) 50 (.mk' YbS kr kr) Wt .is (.arr (l':=[t]) .t) Wx We) ⟨rfl,rfl,tv⟩ ⟨rfl,tv⟩ (qO rr qZ))))) V Ji QM fun τ O=>?_)
   have O:=X0
   generalize τ 27=v27 at O
   refine Za (rZ O qB V Ji QM fun O=>Ya ?_)
   refine rZ O (qg 0 102 r1 r1 (qa 102 r1 r1 (qg 0 101 r1 r1 (qa 101 r1 r1 (qf (o_neq .t .t) r2 qz qZ))))) V JJ QM fun O=>?_
   refine Zb O Z (fun hc2=>?_) (fun hc2=>?_)
   ·have hBq:¬ OrdD.key (Nn l i)=OrdD.key t:=WD
    refine rS O (qR rr (qe 2 102 r1 r1 (qf (o_buildSliceE (sz:=2) (zs:=[.int .i64 0,.slice none 0 0]) (r:=[(0,.tmp 34)]) (l:=[_,_]) YbS kr kr kr kr Z Z (.agg Z .t kr kr .nil) Z) r1 qz (qf (o_append (sz:=2) (bs:=32) 50 (.mk' YbS kr kr) Wt .is (.arr (l':=[(Nn l i)]) .t) Wx We) ⟨rfl,rfl,tv⟩ ⟨rfl,tv⟩ (qO rr qZ))))) V QT QM fun τ O=>?_
    have O:=X0
    generalize τ 36=v36 at O
    refine Zf (Za (rZ O (qp r1 (qR rr qZ)) V QT QM fun O=>?_))
    replace O:=O.eI 11 i
    obtain ⟨F,O⟩:=O.nM Ja J9
    exact ⟨((i+1),_,_,_),F,⟨ow,Ks⟩,O,ow⟩
   have hBq:OrdD.key (Nn l i)=OrdD.key t:=WD
   refine Yd (Zf (Za (rZ O (qp r1 (qR rr qZ)) V QT QM fun O=>?_)))
   replace O:=O.eI 11 i
   obtain ⟨F,O⟩:=O.nM Ja J9
   exact ⟨((i+1),_,_,_),F,⟨ow,Ks⟩,O,ow⟩
  have hA:¬ (d=false∧OrdD.key t≤OrdD.key (Nn l i)):=KS
  refine Yd (Za (Ya (rZ O (qg 0 102 r1 r1 (qa 102 r1 r1 (qg 0 101 r1 r1 (qa 101 r1 r1 (qf (o_neq .t .t) r2 qz qZ))))) V JJ QM fun O=>?_)))
  refine Zb O Z (fun hc3=>?_) (fun hc3=>?_)
  ·have hBq:¬ OrdD.key (Nn l i)=OrdD.key t:=WS
   refine rS O (qR rr (qe 2 102 r1 r1 (qf (o_buildSliceE (sz:=2) (zs:=[.int .i64 0,.slice none 0 0]) (r:=[(0,.tmp 34)]) (l:=[_,_]) YbS kr kr kr kr Z Z (.agg Z .t kr kr .nil) Z) r1 qz (qf (o_append (sz:=2) (bs:=32) 50 (.mk' YbS kr kr) Wt .is (.arr (l':=[(Nn l i)]) .t) Wx We) ⟨rfl,rfl,tv⟩ ⟨rfl,tv⟩ (qO rr qZ))))) V QT QM fun τ O=>?_
   have O:=X0
   generalize τ 36=v36 at O
   refine Zf (Za (rZ O (qp r1 (qR rr qZ)) V QT QM fun O=>?_))
   replace O:=O.eI 11 i
   obtain ⟨F,O⟩:=O.nM Ja J9
   exact ⟨((i+1),_,_,_),F,⟨ow,Ks⟩,O,ow⟩
  have hBq:OrdD.key (Nn l i)=OrdD.key t:=WS
  refine Yd (Zf (Za (rZ O (qp r1 (qR rr qZ)) V QT QM fun O=>?_)))
  replace O:=O.eI 11 i
  obtain ⟨F,O⟩:=O.nM Ja J9
  exact ⟨((i+1),_,_,_),F,⟨ow,Ks⟩,O,ow⟩
 have hil:i=l.length:=WI
 refine Ym (Ze (Ze (Zk (Za (Ya (Ya (rZ O (qR rr (qf (ZW .t) r1 qz qZ)) V [39,5,4,3] QQ fun O=>?_)))))))
 refine Zb O Z (fun hc4=>?_) (fun hc4=>?_)
 ·have hfin:out ++ [t] = putGR OrdD.key t l false:=KN
  refine rS O (qR rr (qe 2 101 r1 r1 (qf (o_buildSliceE (sz:=2) (zs:=[.int .i64 0,.slice none 0 0]) (r:=[(0,.tmp 41)]) (l:=[_,_]) YbS kr kr kr kr Z Z (.agg Z .t kr kr .nil) Z) r1 qz (qf (o_append (sz:=2) (bs:=32) 50 (.mk' YbS kr kr) Wt .is (.arr (l':=[t]) .t) Wx We) ⟨rfl,rfl,tv⟩ ⟨rfl,tv⟩ (qO rr qZ))))) V Jf QQ fun τ O=>?_
  have O:=X0
  generalize τ 43=v43 at O
  refine Za (Ya (rZ O (qR rr (qO rr qZ)) V [4] QQ fun O=>Yh ?_))
  obtain ⟨F,O⟩:=O.give 50 4 Z rfl
  refine Zx hfr O Z Z Z (.sl hfin)
 have hfin:out=putGR OrdD.key t l false:=KO
 refine Yd (Za (Ya (rZ O (qR rr (qO rr qZ)) V [4] QQ fun O=>Yh ?_)))
 obtain ⟨F,O⟩:=O.give 50 4 Z rfl
 refine Zx hfr O Z Z Z (.sl hfin)
theorem Zrj (g:Zw) (d:ZK) (hs:Za8 g) (hd:Zf9 d):FnP prog 169 [.agg (Zi g),.agg (ZC d)] (.bool (Zcm g d)):=by
 refine FnP.mk func169 Z ntmps169 Z fun B a w F V hfr O=>Ya ?_
 refine rS O (qx 101 r1 (qx 102 r1 qB)) V Jj QI fun τ O=>?_
 have O:=Xq
 generalize τ 2=v2,τ 3=v3 at O
 refine Za (Ya (Ya (rZ O (qg 0 102 r1 r1 (qa 102 r1 r1 (qg 0 101 r1 r1 (qa 101 r1 r1 (qf (oP (Zhu d.was g.txs (by have:=hd.1.1.1;dsimp only at this;omega) hs.1) func129 (Args.two .t .t)) r2 qz (qu YbR r1 (qf (o_gtr .t qi) r1 qz (qR rr (qv 2 102 Z r2 r1 (qw 102 Z r2 r1 (qv 1 101 Z r2 r1 (qw 101 Z r2 r1 (qk Z (fun h=>oP (ZgR d.old g.orders (by have:=hd.1.2.1;dsimp only at this;omega)) func130 (Args.two (.w h) (.w h))) r3 qz (qk Z (fun h=>Zbp YbS (.w h)) r2 qz (qk Z (fun h=>o_gtr (.w h) qi) r2 qz (qf (ZaB .t .t) r2 qz qZ)))))))))))))))) V [32,4,3,2] QI fun O=>?_)))
 refine Zb O Z (fun hc0=>?_) (fun hc0=>?_)
 ·have hg:false=Zcm g d:=by
    have h9:=hc0
    unfold Zcm ZaZ
    by_cases e1:Zaa TxD.id d.was g.txs = []
    ·by_cases e2:Zaa OrdD.key d.old g.orders = []
     ·rw [e1,e2] at h9;simp at h9
     ·rw [Yq e2,YbA,Bool.and_false]
    ·rw [Yq e1,YbA,YbA]
  refine Ya (rZ O qB V Jj QI fun O=>(Yh (Zd ?_)))
  refine Zx hfr O Z Z Z (.bool hg)
 have hl0:Zaa TxD.id d.was g.txs = []∧Zaa OrdD.key d.old g.orders = []:=by
   have h9:=hc0
   refine ⟨Y3 fun e=>?_,Y3 fun e=>?_⟩ <;> have h7:=Yaz.2 e <;> simp at h9 <;> simp [h9] at h7
 have hn1:d.now.length≤1000:=hd.2.1.1
 have hn2:d.new.length≤1000:=hd.2.2.1
 refine Yd (Za (Ya (Ya (rZ O (qg 1 102 r1 r1 (qa 102 r1 r1 (qu YbR r1 (qJ qZ)))) V Dv QI fun O=>Ye ?_))))
 refine Zh (σ:=(Nat)) [2,3,4,34,35] [0,101,102] (fun s=>[(36,.pv (.int .i64 (s:Int)))]) (fun s=>[]) (fun s=>s≤d.now.length∧(∀ q,q<s→((ZH TxD.id g.txs (TxD.id (Nn d.now q))).isSome && !(ZH TxD.id d.was (TxD.id (Nn d.now q))).isSome)=false)) (fun s=>d.now.length - s) (0) O ⟨rfl,rfl,rfl,rfl,rfl,rfl,tv⟩ ⟨rfl,rfl,rfl,tv⟩ ⟨Yo _,fun q hq=>absurd hq (YI q)⟩ ?_
 clear O;intro i a w F hC O
 have hC:=X3
 obtain ⟨F,O⟩:=O.nM Dv QI
 have O:=X2
 obtain ⟨hi,hq⟩:=hC
 refine Ya (rZ O (qL r2) V [37,36,35,34,4,3,2] QI fun O=>Ya ?_)
 refine Zb O Z (fun hc1=>?_) (fun hc1=>?_)
 ·have hil:i<d.now.length:=WH
  refine Yd (Za (Ya (Ye (Ya (rS O (qy 3 YbR r2 (qf (oR true 3 .t) r1 qz (qf (oH [.int .i64 0,.bool false,.slice none 0 0] 103) trivial qz (qS 3 103 r2 r1 qZ)))) V [36,35,34,6,4,3,2] QJ fun τ O=>?_)))))
  have O:=X5
  generalize τ 6=v6 at O
  try simp only [Yf] at O
  refine Za (Ya (rS O (qg 0 101 r1 r1 (qa 101 r1 r1 (qg 0 103 r1 r1 (qa 103 r1 r1 (qf (oP (Zpi g.txs (Nn d.now i).id hs.1) func193 (Args.two .t .t)) r2 qz (qR rr (qf (o_extract .t Z) r1 qz (qf (o_extract .t Z) r1 qz (qf (oH [.int .i64 0,.bool false,.slice none 0 0] 104) trivial qz (qf (oA 3 104 .same (.conv .t .agg)) r2 r1 (qO rr qZ))))))))))) V [36,35,34,8,6,4,3,2] QN fun τ O=>?_))
  have O:=X5
  generalize τ 7=v7 at O
  refine Za (Ya (rS O (qg 0 102 r1 r1 (qa 102 r1 r1 (qg 0 103 r1 r1 (qa 103 r1 r1 (qf (oP (Zpi d.was (Nn d.now i).id hd.1.1) func193 (Args.two .t .t)) r2 qz (qR rr (qf (o_extract .t Z) r1 qz (qf (o_extract .t Z) r1 qz (qf (oH [.int .i64 0,.bool false,.slice none 0 0] 105) trivial qz (qf (oA 3 105 .same (.conv .t .agg)) r2 r1 (qO rr qZ))))))))))) V [36,35,34,10,8,4,3,2] J8 fun τ O=>?_))
  have O:=X5
  generalize τ 9=v9 at O
  refine Za (Ya (rZ O (qR rr (qR rr (qm Z Z Z Z (qk Z (fun h=>ZW (.w h)) r2 qz (qf (ZF .t .t) r2 qz qZ))))) V [60,36,35,34,4,3,2] J8 fun O=>?_))
  refine Zb O Z (fun hc2=>?_) (fun hc2=>?_)
  ·have h9:((ZH TxD.id g.txs (TxD.id (Nn d.now i))).isSome && !(ZH TxD.id d.was (TxD.id (Nn d.now i))).isSome)=true:=hc2
   have hbd:(d.now.all fun x=>!((ZH TxD.id g.txs (TxD.id x)).isSome && !(ZH TxD.id d.was (TxD.id x)).isSome))=false:=Ybx.2 ⟨_,ZP hil,by rw [h9];simp⟩
   have hg:false=Zcm g d:=by unfold Zcm ZaZ;rw [hbd];simp
   refine Ya (rZ O qB V Dv J8 fun O=>(Yh (Zl (Zd (Zd (Zl (Zd ?_)))))))
   refine Zx hfr O Z Z Z (.bool hg)
  have hne:((ZH TxD.id g.txs (TxD.id (Nn d.now i))).isSome && !(ZH TxD.id d.was (TxD.id (Nn d.now i))).isSome)=false:=hc2
  refine Yd (Zf (Za (rZ O (qp r1 (qR rr qZ)) V Dv J8 fun O=>?_)))
  replace O:=O.eI 36 i
  obtain ⟨F,O⟩:=O.nM [35,34,4,3,2,36] QI
  exact ⟨(i+1),F,⟨ow,(fun q h9=>by rcases Yw (YC h9) with h8 | h8;exact hq q h8;rw [h8];exact hne)⟩,O,ow⟩
 have hil:i=d.now.length:=WH
 have ha1:(d.now.all fun x=>!((ZH TxD.id g.txs (TxD.id x)).isSome && !(ZH TxD.id d.was (TxD.id x)).isSome))=true:=by
   rw [Yam]
   intro z hz
   obtain ⟨q,hq1,e⟩:=YL hz
   have h9:=hq q ow
   rw [Zu hq1,e] at h9
   rw [h9];rfl
 refine Ym (Ze (Ze (Zk (Za (Ya (Ya (rZ O (qg 3 102 r1 r1 (qa 102 r1 r1 (qu YbS r1 (qJ qZ)))) V Dw QI fun O=>Ye ?_)))))))
 refine Zh (σ:=(Nat)) [2,3,4,63,64] [0,101,102] (fun s=>[(65,.pv (.int .i64 (s:Int)))]) (fun s=>[]) (fun s=>s≤d.new.length∧(∀ q,q<s→((ZH OrdD.key g.orders (OrdD.key (Nn d.new q))).isSome && !(ZH OrdD.key d.old (OrdD.key (Nn d.new q))).isSome)=false)) (fun s=>d.new.length - s) (0) O ⟨rfl,rfl,rfl,rfl,rfl,rfl,tv⟩ ⟨rfl,rfl,rfl,tv⟩ ⟨Yo _,fun q hq=>absurd hq (YI q)⟩ ?_
 clear O;intro i a w F hC O
 have hC:=X3
 obtain ⟨F,O⟩:=O.nM Dw QI
 have O:=X2
 obtain ⟨hi,hq⟩:=hC
 refine Ya (rZ O (qL r2) V [66,65,64,63,4,3,2] QI fun O=>Ya ?_)
 refine Zb O Z (fun hc3=>?_) (fun hc3=>?_)
 ·have hil:i<d.new.length:=WV
  refine Yd (Za (Ya (Ye (Ya (rS O (qy 2 YbS r2 (qf (oR true 2 .t) r1 qz (qf (oH [.int .i64 0,.slice none 0 0] 106) trivial qz (qS 2 106 r2 r1 qZ)))) V [65,64,63,12,4,3,2] [106,102,101,0] fun τ O=>?_)))))
  have O:=X5
  generalize τ 12=v12 at O
  try simp only [Yf] at O
  refine Za (Ya (rS O (qg 1 101 r1 r1 (qa 101 r1 r1 (qg 0 106 r1 r1 (qa 106 r1 r1 (qf (oP (ZlW g.orders (Nn d.new i).key) func194 (Args.two .t .t)) r2 qz (qR rr (qf (o_extract .t Z) r1 qz (qf (o_extract .t Z) r1 qz (qf (oH [.int .i64 0,.slice none 0 0] 107) trivial qz (qf (oA 2 107 .same (.conv .t .agg)) r2 r1 (qO rr qZ))))))))))) V [65,64,63,14,12,4,3,2] [107,106,102,101,0] fun τ O=>?_))
  have O:=X5
  generalize τ 13=v13 at O
  refine Za (Ya (rS O (qg 2 102 r1 r1 (qa 102 r1 r1 (qg 0 106 r1 r1 (qa 106 r1 r1 (qf (oP (ZlW d.old (Nn d.new i).key) func194 (Args.two .t .t)) r2 qz (qR rr (qf (o_extract .t Z) r1 qz (qf (o_extract .t Z) r1 qz (qf (oH [.int .i64 0,.slice none 0 0] 108) trivial qz (qf (oA 2 108 .same (.conv .t .agg)) r2 r1 (qO rr qZ))))))))))) V [65,64,63,16,14,4,3,2] Gp fun τ O=>?_))
  have O:=X5
  generalize τ 15=v15 at O
  refine Za (Ya (rZ O (qR rr (qR rr (qm Z Z Z Z (qk Z (fun h=>ZW (.w h)) r2 qz (qf (ZF .t .t) r2 qz qZ))))) V [89,65,64,63,4,3,2] Gp fun O=>?_))
  refine Zb O Z (fun hc4=>?_) (fun hc4=>?_)
  ·have h9:((ZH OrdD.key g.orders (OrdD.key (Nn d.new i))).isSome && !(ZH OrdD.key d.old (OrdD.key (Nn d.new i))).isSome)=true:=hc4
   have hbd:(d.new.all fun x=>!((ZH OrdD.key g.orders (OrdD.key x)).isSome && !(ZH OrdD.key d.old (OrdD.key x)).isSome))=false:=Ybx.2 ⟨_,ZP hil,by rw [h9];simp⟩
   have hg:false=Zcm g d:=by unfold Zcm ZaZ;rw [hbd];simp
   refine Ya (rZ O qB V Dw Gp fun O=>(Yh (Zl (Zd (Zd (Zl (Zd ?_)))))))
   refine Zx hfr O Z Z Z (.bool hg)
  have hne:((ZH OrdD.key g.orders (OrdD.key (Nn d.new i))).isSome && !(ZH OrdD.key d.old (OrdD.key (Nn d.new i))).isSome)=false:=hc4
  refine Yd (Zf (Za (rZ O (qp r1 (qR rr qZ)) V Dw Gp fun O=>?_)))
  replace O:=O.eI 65 i
  obtain ⟨F,O⟩:=O.nM [64,63,4,3,2,65] QI
  exact ⟨(i+1),F,⟨ow,(fun q h9=>by rcases Yw (YC h9) with h8 | h8;exact hq q h8;rw [h8];exact hne)⟩,O,ow⟩
 have hil:i=d.new.length:=WV
 have ha2:(d.new.all fun x=>!((ZH OrdD.key g.orders (OrdD.key x)).isSome && !(ZH OrdD.key d.old (OrdD.key x)).isSome))=true:=by
   rw [Yam]
   intro z hz
   obtain ⟨q,hq1,e⟩:=YL hz
   have h9:=hq q ow
   rw [Zu hq1,e] at h9
   rw [h9];rfl
 have hg:true=Zcm g d:=by unfold Zcm ZaZ;rw [YA hl0.1,YA hl0.2,ha1,ha2];rfl
 refine Ym (Ze (Ze (Zk (Za (Ya (rZ O qB V [4] QI fun O=>Yh ?_))))))
 refine Zx hfr O Z Z Z (.bool hg)
theorem Zua {x:Bool} (h:(!x)=true):x=false:=by cases x;rfl;cases h
theorem Zuv {x:Bool} (h:(!x)=false):x=true:=by cases x;cases h;rfl
theorem Zpx (g:Zw) (d:ZK) (hsd:ZbG g d):FnP prog 105 [.agg (Zi g),.agg (ZC d)] (.tup [.agg (Zi (ZE g d).1),.int .i64 (ZE g d).2]):=by
 refine FnP.mk func105 Z ntmps105 Z fun B a w F V hfr O=>?_
 have hn1:d.was.length≤1000:=hsd.2.1.1.1.1
 have hn2:d.now.length≤1000:=hsd.2.1.2.1.1
 have hn3:d.old.length≤1000:=hsd.2.1.1.2.1
 have hn4:d.new.length≤1000:=hsd.2.1.2.2.1
 have hg1:g.txs.length≤1000:=hsd.1.1.1
 have hg2:g.orders.length≤1000:=hsd.1.2.1
 refine Ya (rS O (qx 101 r1 (qx 102 r1 (qf (oH [.slice none 0 0,.slice none 0 0] 103) trivial qz (qI qZ)))) V J3 QJ fun τ O=>?_)
 have O:=Xq
 generalize τ 2=v2,τ 3=v3,τ 4=v4 at O
 refine Za (Ya (Ya (rZ O (qe 2 101 r1 r1 (qf (oP (ZaW g hsd.1) func128 (Args.one (.pagg .t))) r1 qz (qf (ZW .t) r1 qz (qR rr (qk Z (fun h=>oL true 4 102 .is) r2 r1 (qk Z (fun h=>oP (Zpk d) func168 (Args.one (.pagg (.w h)))) r2 qz (qk Z (fun h=>ZW (.w h)) r2 qz (qf (ZaB .t .t) r2 qz qZ)))))))) V [24,5,4,3,2] QJ fun O=>?_)))
 refine Zb O Z (fun hc0=>?_) (fun hc0=>?_)
 ·have h9:(!decide (ZG g) || !decide (Zcy d))=true:=hc0
  have hg:ZE g d=(noH,5):=by unfold ZE;rw [Yg Ko]
  refine Ya (rZ O (qf (oB [] [.slice none 0 0,.slice none 0 0] [(0,1),(1,1)] .nil) trivial qz (qs 2 103 r2 r1 (qI qZ))) V J3 QJ fun O=>(Yh (Zd ?_)))
  refine ZU hfr O Z (.cl 103 true 2 Z Z (.tmp Z .nil)) (.two Kp (.int Wr))
 have h9:(!decide (ZG g) || !decide (Zcy d))=false:=hc0
 have hr:ZG g∧Zcy d:=KI
 refine Yd (Za (Ya (Ya (rZ O (qe 2 101 r1 r1 (qe 4 102 r1 r1 (qf (oP (Zrj g d hsd.1 hsd.2.1) func169 (Args.two (.pagg .t) (.pagg .t))) r2 qz (qf (ZW .t) r1 qz qZ)))) V [29,5,4,3,2] QJ fun O=>?_))))
 refine Zb O Z (fun hc1=>?_) (fun hc1=>?_)
 ·have hfd:Zcm g d=false:=Zua hc1
  have hg:ZE g d=(noH,17):=by unfold ZE;rw [Yb WP,Yg hfd]
  refine Ya (rZ O (qf (oB [] [.slice none 0 0,.slice none 0 0] [(0,1),(1,1)] .nil) trivial qz (qs 2 103 r2 r1 (qI qZ))) V J3 QJ fun O=>(Yh (Zd ?_)))
  refine ZU hfr O Z (.cl 103 true 2 Z Z (.tmp Z .nil)) (.two Kp (.int Wr))
 have hft:Zcm g d=true:=Zuv hc1
 have hfd:¬ Zcm g d=false:=by rw [hft];simp
 have hf2:ZaZ TxD.id g.txs d.was d.now=true∧ZaZ OrdD.key g.orders d.old d.new=true:=by unfold Zcm at hft;rwa [Yx] at hft
 have hdt:=Ziu hr.1.rise.1 hr.2.2.1 hf2.1
 have hdo:=Ziu hr.1.rise.2 hr.2.2.2.2 hf2.2
 refine Yd (Za (Ya (rS O (qe 2 101 r1 r1 (qf (oH [.slice none 0 0,.slice none 0 0] 104) trivial qz (qS 2 104 r2 r1 qZ))) V [6,5,4,3] QN fun τ O=>?_)))
 have O:=X5
 generalize τ 6=v6 at O
 refine Za (Ya (Ya (rZ O (qg 0 102 r1 r1 (qa 102 r1 r1 (qu YbR r1 (qJ qZ)))) V D2 QN fun O=>Ye ?_)))
 refine Zh (σ:=(Nat)) [3,4,5,6,33,34] [0,101,102,103] (fun s=>[(35,.pv (.int .i64 (s:Int)))]) (fun s=>[(104,.pt (.val v6) 30 [.pv (.sl rTx (Zba TxD.id (d.was.take s) g.txs)),.pv (.sl Zp g.orders)])]) (fun s=>s≤d.was.length∧(True)) (fun s=>d.was.length - s) (0) O ⟨rfl,rfl,rfl,rfl,rfl,rfl,rfl,tv⟩ ⟨rfl,rfl,rfl,rfl,rfl,tv⟩ ⟨Yo _,tv⟩ ?_
 clear O;intro i a w F hC O
 have hC:=X3
 obtain ⟨F,O⟩:=O.nM D2 QN
 have O:=X2
 obtain ⟨hi,hq⟩:=hC
 refine Ya (rZ O (qL r2) V [36,35,34,33,6,5,4,3] QN fun O=>Ya ?_)
 refine Zb O Z (fun hc2=>?_) (fun hc2=>?_)
 ·have hil:i<d.was.length:=KM
  refine Yd (Za (Ya (Ye (Ya (rS O (qy 3 YbR r2 (qf (oR true 3 .t) r1 qz (qf (oH [.int .i64 0,.bool false,.slice none 0 0] 105) trivial qz (qS 3 105 r2 r1 qZ)))) V [35,34,33,8,6,5,4,3] J8 fun τ O=>?_)))))
  have O:=X5
  generalize τ 8=v8 at O
  try simp only [Yf] at O
  refine Za (Ya (rZ O (qg 0 104 r1 r1 (qa 104 r1 r1 (qg 0 105 r1 r1 (qa 105 r1 r1 (qf (oP (Zrb (Zba TxD.id (d.was.take i) g.txs) (Nn d.was i).id (by have:=Zeh (κ:=TxD.id) (d.was.take i) g.txs;omega)) func170 (Args.two .t .t)) r2 qz (qR rr (qf (o_extract .t Z) r1 qz (qf (o_extract .t Z) r1 qz (qO rr (qO rr qZ)))))))))) V [35,34,33,9,6,5,4,3] J8 fun O=>?_))
  refine Zg O (qR rr (qg 0 104 r1 r1 (qf (ZbI 104 .adr .t Zaf kr kr) r2 r1 qZ))) V D2 J8 Z Z fun a w F O=>Zf (Za ?_)
  refine rZ O (qp r1 (qR rr qZ)) V D2 J8 fun O=>?_
  replace O:=O.turn 104 Z (r':=.pt (.val v6) 30 [.pv (.sl rTx (Zba TxD.id (d.was.take (i+1)) g.txs)),.pv (.sl Zp g.orders)]) (fun _ _ _ _ h=>by rw [ZhV hil];exact h)
  replace O:=O.eI 35 i
  obtain ⟨F,O⟩:=O.nM [34,33,6,5,4,3,35] GN
  exact ⟨(i+1),F,⟨ow,tv⟩,O,ow⟩
 have hil:i=d.was.length:=KM
 rw [hil,Yy] at O
 refine Ym (Ze (Ze (Zk (Za (Ya (Ya (rZ O (qg 1 102 r1 r1 (qa 102 r1 r1 (qu YbR r1 (qJ qZ)))) V D3 QN fun O=>Ye ?_)))))))
 refine Zh (σ:=(Nat)) [3,4,5,6,51,52] [0,101,102,103] (fun s=>[(53,.pv (.int .i64 (s:Int)))]) (fun s=>[(104,.pt (.val v6) 30 [.pv (.sl rTx (Zei TxD.id (d.now.take s) (Zba TxD.id d.was g.txs))),.pv (.sl Zp g.orders)])]) (fun s=>s≤d.now.length∧(True)) (fun s=>d.now.length - s) (0) O ⟨rfl,rfl,rfl,rfl,rfl,rfl,rfl,tv⟩ ⟨rfl,rfl,rfl,rfl,rfl,tv⟩ ⟨Yo _,tv⟩ ?_
 clear O;intro i a w F hC O
 have hC:=X3
 obtain ⟨F,O⟩:=O.nM D3 QN
 have O:=X2
 obtain ⟨hi,hq⟩:=hC
 refine Ya (rZ O (qL r2) V [54,53,52,51,6,5,4,3] QN fun O=>Ya ?_)
 refine Zb O Z (fun hc3=>?_) (fun hc3=>?_)
 ·have hil:i<d.now.length:=WV
  refine Yd (Za (Ya (Ye (Ya (rS O (qy 3 YbR r2 (qf (oR true 3 .t) r1 qz (qf (oH [.int .i64 0,.bool false,.slice none 0 0] 106) trivial qz (qS 3 106 r2 r1 qZ)))) V [53,52,51,12,6,5,4,3] D8 fun τ O=>?_)))))
  have O:=X5
  generalize τ 12=v12 at O
  try simp only [Yf] at O
  refine Za (Zg O (qg 0 104 r1 r1 (qa 104 r1 r1 (qe 3 106 r1 r1 (qf (oP (Zth (Zei TxD.id (d.now.take i) (Zba TxD.id d.was g.txs)) (Nn d.now i) (by have:=ZhO (κ:=TxD.id) (d.now.take i) (Zba TxD.id d.was g.txs);have:=Zeh (κ:=TxD.id) d.was g.txs;rw [Yk] at *;omega)) func171 (Args.two .t (.pagg .t))) r2 qz (qg 0 104 r1 r1 (qf (ZbI 104 .adr .t Zaf kr kr) r2 r1 qZ)))))) V D3 D8 Z Z fun a w F O=>Zf (Za ?_))
  refine rZ O (qp r1 (qR rr qZ)) V D3 D8 fun O=>?_
  replace O:=O.turn 104 Z (r':=.pt (.val v6) 30 [.pv (.sl rTx (Zei TxD.id (d.now.take (i+1)) (Zba TxD.id d.was g.txs))),.pv (.sl Zp g.orders)]) (fun _ _ _ _ h=>by rw [Zh3 hil];exact h)
  replace O:=O.eI 53 i
  obtain ⟨F,O⟩:=O.nM [52,51,6,5,4,3,53] GN
  exact ⟨(i+1),F,⟨ow,tv⟩,O,ow⟩
 have hil:i=d.now.length:=WV
 rw [hil,Yy] at O
 rw [show Zei TxD.id d.now (Zba TxD.id d.was g.txs)=ZiO TxD.id g.txs d.was d.now from rfl,hdt] at O
 refine Ym (Ze (Ze (Zk (Za (Ya (Ya (rZ O (qg 2 102 r1 r1 (qa 102 r1 r1 (qu YbS r1 (qJ qZ)))) V D4 QN fun O=>Ye ?_)))))))
 refine Zh (σ:=(Nat)) [3,4,5,6,64,65] [0,101,102,103] (fun s=>[(66,.pv (.int .i64 (s:Int)))]) (fun s=>[(104,.pt (.val v6) 30 [.pv (.sl rTx (Zc8 TxD.id g.txs d.was d.now)),.pv (.sl Zp (Zba OrdD.key (d.old.take s) g.orders))])]) (fun s=>s≤d.old.length∧(True)) (fun s=>d.old.length - s) (0) O ⟨rfl,rfl,rfl,rfl,rfl,rfl,rfl,tv⟩ ⟨rfl,rfl,rfl,rfl,rfl,tv⟩ ⟨Yo _,tv⟩ ?_
 clear O;intro i a w F hC O
 have hC:=X3
 obtain ⟨F,O⟩:=O.nM D4 QN
 have O:=X2
 obtain ⟨hi,hq⟩:=hC
 refine Ya (rZ O (qL r2) V [67,66,65,64,6,5,4,3] QN fun O=>Ya ?_)
 refine Zb O Z (fun hc4=>?_) (fun hc4=>?_)
 ·have hil:i<d.old.length:=Qb
  refine Yd (Za (Ya (Ye (Ya (rS O (qy 2 YbS r2 (qf (oR true 2 .t) r1 qz (qf (oH [.int .i64 0,.slice none 0 0] 107) trivial qz (qS 2 107 r2 r1 qZ)))) V [66,65,64,14,6,5,4,3] D9 fun τ O=>?_)))))
  have O:=X5
  generalize τ 14=v14 at O
  try simp only [Yf] at O
  refine Za (Zg O (qg 1 104 r1 r1 (qa 104 r1 r1 (qg 0 107 r1 r1 (qa 107 r1 r1 (qf (oP (ZlD (Zba OrdD.key (d.old.take i) g.orders) (Nn d.old i).key (by have:=Zeh (κ:=OrdD.key) (d.old.take i) g.orders;omega)) func172 (Args.two .t .t)) r2 qz (qg 1 104 r1 r1 (qf (ZbI 104 .adr .t Zaf kr kr) r2 r1 qZ))))))) V D4 D9 Z Z fun a w F O=>Zf (Za ?_))
  refine rZ O (qp r1 (qR rr qZ)) V D4 D9 fun O=>?_
  replace O:=O.turn 104 Z (r':=.pt (.val v6) 30 [.pv (.sl rTx (Zc8 TxD.id g.txs d.was d.now)),.pv (.sl Zp (Zba OrdD.key (d.old.take (i+1)) g.orders))]) (fun _ _ _ _ h=>by rw [ZhV hil];exact h)
  replace O:=O.eI 66 i
  obtain ⟨F,O⟩:=O.nM [65,64,6,5,4,3,66] GN
  exact ⟨(i+1),F,⟨ow,tv⟩,O,ow⟩
 have hil:i=d.old.length:=Qb
 rw [hil,Yy] at O
 refine Ym (Ze (Ze (Zk (Za (Ya (Ya (rZ O (qg 3 102 r1 r1 (qa 102 r1 r1 (qu YbS r1 (qJ qZ)))) V Dx QN fun O=>Ye ?_)))))))
 refine Zh (σ:=(Nat)) [4,5,6,78,79] [0,101,102,103] (fun s=>[(80,.pv (.int .i64 (s:Int)))]) (fun s=>[(104,.pt (.val v6) 30 [.pv (.sl rTx (Zc8 TxD.id g.txs d.was d.now)),.pv (.sl Zp (Zei OrdD.key (d.new.take s) (Zba OrdD.key d.old g.orders)))])]) (fun s=>s≤d.new.length∧(True)) (fun s=>d.new.length - s) (0) O ⟨rfl,rfl,rfl,rfl,rfl,rfl,tv⟩ ⟨rfl,rfl,rfl,rfl,rfl,tv⟩ ⟨Yo _,tv⟩ ?_
 clear O;intro i a w F hC O
 have hC:=X3
 obtain ⟨F,O⟩:=O.nM Dx QN
 have O:=X2
 obtain ⟨hi,hq⟩:=hC
 refine Ya (rZ O (qL r2) V [81,80,79,78,6,5,4] QN fun O=>Ya ?_)
 refine Zb O Z (fun hc5=>?_) (fun hc5=>?_)
 ·have hil:i<d.new.length:=Qa
  refine Yd (Za (Ya (Ye (Ya (rS O (qy 2 YbS r2 (qf (oR true 2 .t) r1 qz (qf (oH [.int .i64 0,.slice none 0 0] 108) trivial qz (qS 2 108 r2 r1 qZ)))) V [80,79,78,16,6,5,4] Da fun τ O=>?_)))))
  have O:=X5
  generalize τ 16=v16 at O
  try simp only [Yf] at O
  refine Za (Zg O (qg 1 104 r1 r1 (qa 104 r1 r1 (qe 2 108 r1 r1 (qf (oP (ZkK (Zei OrdD.key (d.new.take i) (Zba OrdD.key d.old g.orders)) (Nn d.new i) (by have:=ZhO (κ:=OrdD.key) (d.new.take i) (Zba OrdD.key d.old g.orders);have:=Zeh (κ:=OrdD.key) d.old g.orders;rw [Yk] at *;omega)) func173 (Args.two .t (.pagg .t))) r2 qz (qg 1 104 r1 r1 (qf (ZbI 104 .adr .t Zaf kr kr) r2 r1 qZ)))))) V Dx Da Z Z fun a w F O=>Zf (Za ?_))
  refine rZ O (qp r1 (qR rr qZ)) V Dx Da fun O=>?_
  replace O:=O.turn 104 Z (r':=.pt (.val v6) 30 [.pv (.sl rTx (Zc8 TxD.id g.txs d.was d.now)),.pv (.sl Zp (Zei OrdD.key (d.new.take (i+1)) (Zba OrdD.key d.old g.orders)))]) (fun _ _ _ _ h=>by rw [Zh3 hil];exact h)
  replace O:=O.eI 80 i
  obtain ⟨F,O⟩:=O.nM [79,78,6,5,4,80] GN
  exact ⟨(i+1),F,⟨ow,tv⟩,O,ow⟩
 have hil:i=d.new.length:=Qa
 rw [hil,Yy] at O
 rw [show Zei OrdD.key d.new (Zba OrdD.key d.old g.orders)=ZiO OrdD.key g.orders d.old d.new from rfl,hdo] at O
 refine Ym (Ze (Ze (Zk (Za (Ya (Ya (rZ O (qe 2 104 r1 r1 (qf (oP (ZaW (Zca g d) hsd.turn) func128 (Args.one (.pagg .t))) r1 qz (qf (ZW .t) r1 qz qZ))) V [92,6,5,4] QN fun O=>?_)))))))
 refine Zb O Z (fun hc6=>?_) (fun hc6=>?_)
 ·have hr2:¬ ZG (Zca g d):=Qt
  have hg:ZE g d=(noH,8):=by unfold ZE;rw [Yb WP,Yb hfd,Yb hr2]
  refine Ya (rZ O (qf (oB [] [.slice none 0 0,.slice none 0 0] [(0,1),(1,1)] .nil) trivial qz (qs 2 103 r2 r1 (qI qZ))) V Xas QN fun O=>(Yh (Zd ?_)))
  refine ZU hfr O Z (.cl 103 true 2 Z Z (.tmp Z .nil)) (.two Kp (.int Wr))
 have hr2:ZG (Zca g d):=Qt
 have hg:ZE g d=(Zca g d,0):=by unfold ZE;rw [Yb WP,Yb hfd,Yg hr2]
 refine Yd (Za (Ya (rZ O (qe 2 104 r1 r1 (qs 2 103 r2 r1 (qI qZ))) V Jf QN fun O=>Yh ?_)))
 refine ZU hfr O Z (.cl 103 true 2 Z Z (.tmp Z .nil)) (.two Kp (.int Wr))
theorem ZmB (h:Zw) (hs:Za8 h):FnP prog 58 [.agg (Zi h)] (.int .i64 ((sizeH h:Nat):Int)):=by
 refine FnP.mk func58 Z ntmps58 Z fun B a w F V hfr O=>?_
 have hl1:=hs.1.1
 have hl2:=hs.2.1
 refine Ya (rS O (qx 101 r1 (qI qZ)) V J5 QK fun τ O=>?_)
 have O:=X1
 generalize τ 1=v1 at O
 refine Za (Ya (rZ O (qg 0 101 r1 r1 (qa 101 r1 r1 (qu YbR r1 (qg 1 101 r1 r1 (qa 101 r1 r1 (qu YbS r1 (qf (o_add .t .t) r2 qz (qO rr qZ)))))))) V Gh QK fun O=>(Ya (Ya ?_))))
 refine rZ O (qg 1 101 r1 r1 (qa 101 r1 r1 (qu YbS r1 (qJ qZ)))) V G0 QK fun O=>Ye ?_
 replace O:=O.ent (i:=3) (s':=.pv (.int .i64 ((h.txs.length+h.orders.length+Zbj (h.orders.take 0):Nat):Int))) Z (.int (by rw [Zj ow];simp [Zbj]))
 refine Zh (σ:=(Nat)) [2,14,15] [0,101] (fun s=>[(16,.pv (.int .i64 (s:Int))),(3,.pv (.int .i64 ((h.txs.length+h.orders.length+Zbj (h.orders.take s):Nat):Int)))]) (fun s=>[]) (fun s=>s≤h.orders.length∧(Zbj (h.orders.take s)≤1000*s)) (fun s=>h.orders.length - s) (0) O ⟨rfl,rfl,rfl,rfl,rfl,tv⟩ ⟨rfl,rfl,tv⟩ ⟨Yo _,(by simp [Zbj])⟩ ?_
 clear O;intro i a w F hC O
 have hC:=X3
 obtain ⟨F,O⟩:=O.nM G0 QK
 have O:=X2
 obtain ⟨hi,hq⟩:=hC
 refine Ya (rZ O (qL r2) V [17,16,15,14,3,2] QK fun O=>Ya ?_)
 refine Zb O Z (fun hc0=>?_) (fun hc0=>?_)
 ·have hil:i<h.orders.length:=WI
  have hx9:=hs.2.2 _ (ZP hil)
  have hq2:Zbj (h.orders.take (i+1))≤1000*(i+1):=by rw [sizeO_next hil];omega
  refine Yd (Za (Ya (Ye (Ya (rS O (qy 2 YbS r2 (qf (oR true 2 .t) r1 qz (qf (oH [.int .i64 0,.slice none 0 0] 102) trivial qz (qS 2 102 r2 r1 qZ)))) V [16,15,14,5,3,2] QI fun τ O=>?_)))))
  have O:=X0
  generalize τ 5=v5 at O
  try simp only [Yf] at O
  refine Za (Zg O (qR rr (qg 1 102 r1 r1 (qa 102 r1 r1 (qu YbT r1 (qf (o_add .t .t) r2 qz (qO rr qZ)))))) V G0 QI Z Z fun a w F O=>Zf (Za ?_))
  refine rZ O (qp r1 (qR rr qZ)) V G0 QI fun O=>?_
  replace O:=O.eI 16 i
  replace O:=O.ent (i:=3) (s':=.pv (.int .i64 ((h.txs.length+h.orders.length+Zbj (h.orders.take (i+1)):Nat):Int))) Z (.int (by rw [Zj ow,sizeO_next hil];omega))
  obtain ⟨F,O⟩:=O.nM [15,14,2,3,16] QK
  exact ⟨(i+1),F,⟨ow,hq2⟩,O,ow⟩
 have hil:i=h.orders.length:=WI
 refine Ym (Ze (Ze (Zk (Za (Ya (rZ O (qR rr (qO rr qZ)) V [2] QK fun O=>Yh ?_))))))
 refine Zx hfr O Z Z Z (.int (by unfold sizeH;rw [hil,Yy]))
theorem ZjF (D:Zho) (hd:DSm D):FnP prog 16 [.agg (Zbk D)] (.int .i64 (Zel D)):=by
 refine FnP.mk func16 Z ntmps16 Z fun B a w F V hfr O=>?_
 have hdl:=hd.len
 refine Ya (rS O (qx 101 r1 (qI qZ)) V J5 QK fun τ O=>?_)
 have O:=Xl
 generalize τ 1=v1 at O
 refine Za (Ya (rZ O (qg 0 101 r1 r1 (qf (oL true 2 101 .adr) r1 r1 (qf (oP (ZmB D.h hd.h) func58 (Args.one (.pagg .t))) r1 qz (qO rr qZ)))) V Gh QK fun O=>(Ya (Ya ?_))))
 refine rZ O (qg 2 101 r1 r1 (qa 101 r1 r1 (qu YbY r1 (qJ qZ)))) V JY QK fun O=>Ye ?_
 replace O:=O.ent (i:=3) (s':=.pv (.int .i64 (Ze0 D 0))) Z (.int (by unfold Ze0;simp))
 refine Zh (σ:=(Nat)) [2,10,11] [0,101] (fun s=>[(12,.pv (.int .i64 (s:Int))),(3,.pv (.int .i64 (Ze0 D s)))]) (fun s=>[]) (fun s=>s≤D.l.length∧(True)) (fun s=>D.l.length - s) (0) O ⟨rfl,rfl,rfl,rfl,rfl,tv⟩ ⟨rfl,rfl,tv⟩ ⟨Yo _,tv⟩ ?_
 clear O;intro i a w F hC O
 have hC:=X3
 obtain ⟨F,O⟩:=O.nM JY QK
 have O:=X2
 obtain ⟨hi,hq⟩:=hC
 have hbd:=ZrU hd i hi
 refine Ya (rZ O (qL r2) V [13,12,11,10,3,2] QK fun O=>Ya ?_)
 refine Zb O Z (fun hc0=>?_) (fun hc0=>?_)
 ·have hil:i<D.l.length:=WI
  refine Yd (Za (Ya (Ye (Ya (rS O (qy 3 YbY r2 (qf (oR true 3 .t) r1 qz (qf (oH [.int .i64 0,.slice none 0 0,.slice none 0 0] 102) trivial qz (qS 3 102 r2 r1 qZ)))) V [12,11,10,5,3,2] QI fun τ O=>?_)))))
  have O:=X9
  generalize τ 5=v5 at O
  try simp only [Yf] at O
  refine Za (Zg O (qR rr (qg 1 102 r1 r1 (qf (oL true 2 102 .adr) r1 r1 (qf (oP (ZmB (Nn D.l i).h (hd.l _ (ZP hil))) func58 (Args.one (.pagg .t))) r1 qz (qf (o_add .t .t) r2 qz (qO rr qZ)))))) V JY QI Z Z fun a w F O=>Zf (Za ?_))
  refine rZ O (qp r1 (qR rr qZ)) V JY QI fun O=>?_
  replace O:=O.eI 12 i
  replace O:=O.ent (i:=3) (s':=.pv (.int .i64 (Ze0 D (i+1)))) Z (.int (by have h9:=(hd.l _ (ZP hil)).size;rw [ZiB hil,Zj ow]))
  obtain ⟨F,O⟩:=O.nM [11,10,2,3,12] QK
  exact ⟨(i+1),F,⟨ow,tv⟩,O,ow⟩
 have hil:i=D.l.length:=WI
 refine Ym (Ze (Ze (Zk (Za (Ya (rZ O (qR rr (qO rr qZ)) V [2] QK fun O=>Yh ?_))))))
 refine Zx hfr O Z Z Z (.int (by rw [hil];rfl))
theorem Zmx (D:Zho) (h:Zw) (hd:DSm D) (hh:Za8 h):FnP prog 106 [.agg (Zbk D),.agg (Zi h)] (.tup [.agg (Zbk (ZdR D h).1),.int .i64 (ZdR D h).2]):=by
 refine FnP.mk func106 Z ntmps106 Z fun B a w F V hfr O=>Ya ?_
 refine rS O (qx 101 r1 (qx 102 r1 (qf (oH [.slice none 0 0,.slice none 0 0,.slice none 0 0,.int .i64 0] 103) trivial qz (qI qZ)))) V J3 QJ fun τ O=>?_
 have O:=Xl
 generalize τ 2=v2,τ 3=v3,τ 4=v4 at O
 refine Za (Ya (rS O (qe 4 101 r1 r1 (qf (oH [.slice none 0 0,.slice none 0 0,.slice none 0 0,.int .i64 0] 104) trivial qz (qS 4 104 r2 r1 qZ))) V Xa6 QN fun τ O=>?_))
 have O:=X9
 generalize τ 6=v6 at O
 refine Za (Ya (rZ O (qe 2 102 r1 r1 (qg 0 104 r1 r1 (qf (oA 2 104 .adr .t) r2 r1 qZ))) V Xb0 QN fun O=>(Ya (Ya ?_))))
 refine rZ O (qe 4 104 r1 r1 (qf (oP (ZjF ⟨h,D.l,D.next⟩ ⟨hh,hd.l,hd.len⟩) func16 (Args.one (.pagg .t))) r1 qz (qf (o_gtr .t qi) r1 qz qZ))) V [12,6,5,4,2] QN fun O=>?_
 refine Zb O Z (fun hc0=>?_) (fun hc0=>?_)
 ·have hg:ZdR D h=(D,2):=Yg Wz
  refine Ya (rZ O (qe 4 101 r1 r1 (qs 4 103 r2 r1 (qI qZ))) V Xas QN fun O=>(Yh (Zd ?_)))
  refine ZU hfr O Z (.cl 103 true 4 Z Z (.tmp Z .nil)) (.two KJ (.int Wr))
 have hg:ZdR D h=(⟨h,D.l,D.next⟩,0):=Yb Wz
 refine Yd (Za (Ya (rZ O (qe 4 104 r1 r1 (qs 4 103 r2 r1 (qI qZ))) V Jf QN fun O=>Yh ?_)))
 refine ZU hfr O Z (.cl 103 true 4 Z Z (.tmp Z .nil)) (.two KJ (.int Wr))
theorem ZtJ (D:Zho) (d:ZK) (hd:DSm D) (hsd:ZbG D.h d):FnP prog 49 [.agg (Zbk D),.agg (ZC d)] (.tup [.agg (Zbk (do15 D d).1),.int .i64 (do15 D d).2]):=by
 refine FnP.mk func49 Z ntmps49 Z fun B a w F V hfr O=>Ya ?_
 refine rS O (qx 101 r1 (qx 102 r1 (qf (oH [.slice none 0 0,.slice none 0 0,.slice none 0 0,.int .i64 0] 103) trivial qz (qI qZ)))) V J3 QJ fun τ O=>?_
 have O:=Xl
 generalize τ 2=v2,τ 3=v3,τ 4=v4 at O
 refine Za (Ya (rS O (qg 0 101 r1 r1 (qf (oL true 2 101 .adr) r1 r1 (qe 4 102 r1 r1 (qf (oP (Zpx D.h d hsd) func105 (Args.two (.pagg .t) (.pagg .t))) r2 qz (qR rr (qf (o_extract .t Z) r1 qz (qf (o_extract .t Z) r1 qz (qf (oH [.slice none 0 0,.slice none 0 0] 104) trivial qz (qf (oA 2 104 .same (.conv .t .agg)) r2 r1 (qO rr qZ)))))))))) V [7,6,5,4,2] QN fun τ O=>?_))
 have O:=X9
 generalize τ 6=v6 at O
 refine Za (Ya (Ya (rZ O (qR rr (qf (o_neq .t qi) r1 qz qZ)) V [16,7,6,5,4,2] QN fun O=>?_)))
 refine Zb O Z (fun hc0=>?_) (fun hc0=>?_)
 ·have hne:(ZE D.h d).2≠0:=Wz
  have hg:do15 D d=(D,(ZE D.h d).2):=Yg hne
  refine Ya (rZ O (qe 4 101 r1 r1 (qR rr (qs 4 103 r2 r1 (qO rr qZ)))) V Xb0 QN fun O=>(Yh (Zd ?_)))
  refine ZU hfr O Z (.cl 103 true 4 Z Z (.tmp Z .nil)) (.two KJ (.int Wr))
 have h0:(ZE D.h d).2=0:=Wz
 have hg:do15 D d=ZdR D (ZE D.h d).1:=Yb ow
 refine Yd (Za (Ya (rZ O (qe 4 101 r1 r1 (qe 2 104 r1 r1 (qf (oP (Zmx D (ZE D.h d).1 hd (by rw [(Zby h0).2.2.2];exact hsd.2.2)) func106 (Args.two (.pagg .t) (.pagg .t))) r2 qz (qf (o_extract .t Z) r1 qz (qf (o_extract .t Z) r1 qz (qf (oA 4 103 .is (.conv .t .agg)) r2 r1 (qO rr qZ))))))) V Jf QN fun O=>Yh ?_)))
 refine ZU hfr O Z (.cl 103 true 4 Z Z (.tmp Z .nil)) (.two KJ (.int Wr))
theorem ZrQ (D:Zho) (hd:DSm D) (hl9:D.l.length<1000) (hn9:0≤D.next∧D.next≤100000):FnP prog 50 [.agg (Zbk D)] (.tup [.agg (Zbk (ZhE D).1),.int .i64 (ZhE D).2.1,.int .i64 (ZhE D).2.2]):=by
 refine FnP.mk func50 Z ntmps50 Z fun B a w F V hfr O=>Ya ?_
 refine rS O (qx 101 r1 (qf (oH [.slice none 0 0,.slice none 0 0,.slice none 0 0,.int .i64 0] 102) trivial qz (qI (qI qZ)))) V XaL QI fun τ O=>?_
 have O:=Xl
 generalize τ 1=v1,τ 2=v2 at O
 refine Za (Ya (rS O (qe 4 101 r1 r1 (qf (oH [.slice none 0 0,.slice none 0 0,.slice none 0 0,.int .i64 0] 103) trivial qz (qS 4 103 r2 r1 qZ))) V Jk QJ fun τ O=>?_))
 have O:=X9
 generalize τ 5=v5 at O
 refine Za (Ya (rT O (qf (ZaI (R:=Zaw) (sz:=3) 104 YbY kr) trivial qz (qg 2 101 r1 r1 (qa 101 r1 r1 (qf (o_append (sz:=3) (bs:=56) 104 (.mk' YbY kr kr) Wt .same (.sl .t) WW We) ⟨rfl,rfl,tv⟩ ⟨rfl,tv⟩ (qg 3 101 r1 r1 (qa 101 r1 r1 (qg 0 101 r1 r1 (qf (oL true 2 101 .adr) r1 r1 (qf (oB [(0,.tmp 12),(1,.tmp 14)] [.int .i64 0,.slice none 0 0,.slice none 0 0] [(0,1),(1,2)] (.one Z .t one_int kr (.agg Z .t kr kr .nil))) r2 qz (qf (o_buildSliceE (sz:=3) (zs:=[.int .i64 0,.slice none 0 0,.slice none 0 0]) (r:=[(0,.tmp 15)]) (l:=[_,_,_]) YbY kr kr kr kr Z Z (.agg Z .t kr kr .nil) Z) r1 qz (qf (o_append (sz:=3) (bs:=56) 104 (.mk' YbY kr kr) Wt .same (.arr (l':=[(⟨D.next,D.h⟩:Zgg)]) .t) (by simp only [Yl,Yn,Yc];omega) We) ⟨rfl,rfl,tv⟩ ⟨rfl,tv⟩ (qg 2 103 r1 r1 (qf (Zbo 103 .adr kr kr) r2 r1 qZ))))))))))))) V Jk QN fun τ O=>?_))
 have O:=X9
 generalize τ 17=v17 at O
 obtain ⟨F,O⟩:=O.giveCell 104 103 2 Z Z Z Z rfl
 have O:=XX
 obtain ⟨F,O⟩:=O.nM Jk QJ
 refine Za (Ya (Ya (rZ O (qe 4 103 r1 r1 (qf (oP (ZjF ⟨D.h,(D.l ++ [(⟨D.next,D.h⟩:Zgg)]),D.next⟩ ⟨hd.h,fun x hx=>by rcases YH.1 hx with h9 | h9;exact hd.l x h9;rw [Yr.1 h9];exact hd.h,by rw [Yc];simp;omega⟩) func16 (Args.one (.pagg .t))) r1 qz (qf (o_gtr .t qi) r1 qz qZ))) V [21,5,4,3,2,1] QJ fun O=>?_)))
 refine Zb O Z (fun hc0=>?_) (fun hc0=>?_)
 ·have hg:ZhE D=(D,0,2):=Yg Wz
  refine Ya (rZ O (qe 4 101 r1 r1 (qs 4 102 r2 r1 (qI (qI qZ)))) V Jk QJ fun O=>(Yh (Zd ?_)))
  refine ZU hfr O Z (.cl 102 true 4 Z Z (.tmp Z (.tmp Z .nil))) (.three (by rw [hg];first | exact .aggU Z Z) (.int Wr) (.int Wr))
 have hg:ZhE D=(⟨D.h,(D.l ++ [(⟨D.next,D.h⟩:Zgg)]),D.next+1⟩,D.next,0):=Yb Wz
 refine Yd (Za (Ya (Zg O (qg 3 103 r1 r1 (qa 103 r1 r1 (qp r1 (qg 3 103 r1 r1 (qf (ZbI 103 .adr .t one_int kr kr) r2 r1 qZ))))) V Jk QJ Z Z fun a w F O=>?_)))
 rw [Zj (show -9223372036854775808≤D.next+1∧D.next+1≤9223372036854775807 by omega)] at O
 refine Za (Ya (Zr O (qe 4 103 r1 r1 (qg 3 101 r1 r1 (qa 101 r1 r1 (qs 4 102 r2 r1 (qO rr (qI qZ)))))) V Jj QJ Z Z fun a w F O=>?_))
 try dsimp only [List.map,Zc,xL,xM,Nat.reduceAdd,xD,xE,xT,xU,xC,xN,zCF,ldSF,rRt,rSq,Zt,rTx,Zp,Zi,Zo,rOp,Zbk,Zaw,ZC] at O
 refine Za (Yh (ZU hfr O Z (.cl 102 true 4 Z Z (.tmp Z (.tmp Z .nil))) (.three (by rw [hg];first | exact .aggU Z Z) (.int Wr) (.int Wr))))
theorem ZrV (D:Zho) (n:Int) (hd:DSm D):FnP prog 51 [.agg (Zbk D),.int .i64 n] (.tup [.agg (Zbk (Zga D n).1),.int .i64 (Zga D n).2]):=by
 refine FnP.mk func51 Z ntmps51 Z fun B a w F V hfr O=>?_
 have hdl:=hd.len
 refine Ya (rS O (qx 101 r1 (qf (oH [.slice none 0 0,.slice none 0 0,.slice none 0 0,.int .i64 0] 102) trivial qz (qI qZ))) V Js QI fun τ O=>?_)
 have O:=Xl
 generalize τ 2=v2,τ 4=v4 at O
 refine Za (Ya (Ya (rZ O (qg 2 101 r1 r1 (qa 101 r1 r1 (qu YbY r1 (qJ qZ)))) V Df QI fun O=>Ye ?_)))
 refine Zh (σ:=(Nat)) [1,2,4,5,9,10] [0,101,102] (fun s=>[(11,.pv (.int .i64 (s:Int)))]) (fun s=>[]) (fun s=>s≤D.l.length∧(∀ k,k<s→(Nn D.l k).n≠n)) (fun s=>D.l.length - s) (0) O ⟨rfl,rfl,rfl,rfl,rfl,rfl,rfl,tv⟩ ⟨rfl,rfl,rfl,tv⟩ ⟨Yo _,fun k hk=>absurd hk (YI k)⟩ ?_
 clear O;intro i a w F hC O
 have hC:=X3
 obtain ⟨F,O⟩:=O.nM Df QI
 have O:=X2
 obtain ⟨hi,hq⟩:=hC
 refine Ya (rZ O (qL r2) V [12,11,10,9,5,4,2,1] QI fun O=>Ya ?_)
 refine Zb O Z (fun hc0=>?_) (fun hc0=>?_)
 ·have hil:i<D.l.length:=WI
  refine Yd (Za (Ya (Ye (Ya (rS O (qy 3 YbY r2 (qf (oR true 3 .t) r1 qz (qf (oH [.int .i64 0,.slice none 0 0,.slice none 0 0] 103) trivial qz (qS 3 103 r2 r1 qZ)))) V [11,10,9,7,5,4,2,1] QJ fun τ O=>?_)))))
  have O:=X9
  generalize τ 7=v7 at O
  try simp only [Yf] at O
  refine Za (Ya (rZ O (qg 0 103 r1 r1 (qa 103 r1 r1 (qR rr (qf (o_eql .t .t) r2 qz qZ)))) V [18,11,10,9,7,5,4,2,1] QJ fun O=>?_))
  refine Zb O Z (fun hc1=>?_) (fun hc1=>?_)
  ·have hg:Zga D n=ZdR D (Nn D.l i).h:=by unfold Zga;rw [Zs9 hil WE hq]
   refine Ya (rZ O (qe 4 101 r1 r1 (qg 1 103 r1 r1 (qf (oL true 2 103 .adr) r1 r1 (qf (oP (Zmx D (Nn D.l i).h hd (hd.l _ (ZP hil))) func106 (Args.two (.pagg .t) (.pagg .t))) r2 qz (qf (o_extract .t Z) r1 qz (qf (o_extract .t Z) r1 qz (qf (oA 4 102 .is (.conv .t .agg)) r2 r1 (qO rr qZ)))))))) V Df QJ fun O=>(Yh (Zl (Zd (Zd (Zl (Zd ?_)))))))
   refine ZU hfr O Z (.cl 102 true 4 Z Z (.tmp Z .nil)) (.two KJ (.int Wr))
  have hne:(Nn D.l i).n≠n:=WE
  refine Yd (Zf (Za (rZ O (qp r1 (qR rr qZ)) V Df QJ fun O=>?_)))
  replace O:=O.eI 11 i
  obtain ⟨F,O⟩:=O.nM [10,9,5,4,2,1,11] QI
  exact ⟨(i+1),F,⟨ow,(fun k hk=>by rcases Yw (YC hk) with h9 | h9;exact hq k h9;rw [h9];exact hne)⟩,O,ow⟩
 have hil:i=D.l.length:=WI
 have hg:Zga D n=(D,3):=by unfold Zga;rw [Zqe WZ]
 refine Ym (Ze (Ze (Zk (Za (Ya (rZ O (qe 4 101 r1 r1 (qs 4 102 r2 r1 (qI qZ))) V Jf QI fun O=>Yh ?_))))))
 refine ZU hfr O Z (.cl 102 true 4 Z Z (.tmp Z .nil)) (.two KJ (.int Wr))
theorem Zry (D:Zho) (n:Int) (hd:DSm D):FnP prog 52 [.agg (Zbk D),.int .i64 n] (.tup [.agg (Zbk (ZiI D n).1),.int .i64 (ZiI D n).2]):=by
 refine FnP.mk func52 Z ntmps52 Z fun B a w F V hfr O=>?_
 have hdl:=hd.len
 refine Ya (rS O (qx 101 r1 (qf (oH [.slice none 0 0,.slice none 0 0,.slice none 0 0,.int .i64 0] 102) trivial qz (qI qZ))) V Js QI fun τ O=>?_)
 have O:=Xl
 generalize τ 2=v2,τ 4=v4 at O
 refine Za (Ya (rZ O (qC qZ) V GM QI fun O=>(Ya (Ya ?_))))
 refine rZ O (qg 2 101 r1 r1 (qa 101 r1 r1 (qu YbY r1 (qJ qZ)))) V Ge QI fun O=>Ye ?_
 replace O:=O.fresh 50 rfl
 replace O:=O.turn 50 Z (Zas (T:=64) (sz:=3) (R:=Zaw))
 refine Zh (σ:=(Nat)×(Value)×(List Zgg)) [1,2,4,5,10,11] [0,101,102] (fun s=>[(12,.pv (.int .i64 (s.1:Int))),(6,.pv (.is s.2.1))]) (fun s=>[(50,.ob (.val s.2.1) (ZM 64 3 Zaw s.2.2))]) (fun s=>s.1≤D.l.length∧(s.2.2=((D.l.take s.1).filter fun x=>!decide (x.n=n)))) (fun s=>D.l.length - s.1) ((0),(.slice none 0 0),([])) O ⟨rfl,rfl,rfl,rfl,rfl,rfl,rfl,rfl,tv⟩ ⟨rfl,rfl,rfl,rfl,tv⟩ ⟨Yo _,rfl⟩ ?_
 clear O;intro s a w F hC O
 obtain ⟨i,v,out⟩:=s
 have hC:=X3
 obtain ⟨F,O⟩:=O.nM Ge QM
 have O:=X2
 obtain ⟨hi,hq⟩:=hC
 have hol:out.length≤i:=KV
 refine Ya (rZ O (qL r2) V XaJ QM fun O=>Ya ?_)
 refine Zb O Z (fun hc0=>?_) (fun hc0=>?_)
 ·have hil:i<D.l.length:=WI
  refine Yd (Za (Ya (Ye (Ya (rS O (qy 3 YbY r2 (qf (oR true 3 .t) r1 qz (qf (oH [.int .i64 0,.slice none 0 0,.slice none 0 0] 103) trivial qz (qS 3 103 r2 r1 qZ)))) V [12,11,10,8,6,5,4,2,1] J1 fun τ O=>?_)))))
  have O:=X9
  generalize τ 8=v8 at O
  try simp only [Yf] at O
  refine Za (Ya (rZ O (qg 0 103 r1 r1 (qa 103 r1 r1 (qR rr (qf (o_neq .t .t) r2 qz qZ)))) V [19,12,11,10,8,6,5,4,2,1] J1 fun O=>?_))
  refine Zb O Z (fun hc1=>?_) (fun hc1=>?_)
  ·have h9:¬ (Nn D.l i).n=n:=WE
   have hst9:out ++ [(Nn D.l i)] = ((D.l.take (i+1)).filter fun x=>!decide (x.n=n)):=by rw [hq,Z6 hil,Yg KI]
   refine rS O (qR rr (qe 3 103 r1 r1 (qf (o_buildSliceE (sz:=3) (zs:=[.int .i64 0,.slice none 0 0,.slice none 0 0]) (r:=[(0,.tmp 21)]) (l:=[_,_,_]) YbY kr kr kr kr Z Z (.agg Z .t kr kr .nil) Z) r1 qz (qf (o_append (sz:=3) (bs:=56) 50 (.mk' YbY kr kr) Wt .is (.arr (l':=[(Nn D.l i)]) .t) Wx We) ⟨rfl,rfl,tv⟩ ⟨rfl,tv⟩ (qO rr qZ))))) V Ge J1 fun τ O=>?_
   have O:=X9
   generalize τ 23=v23 at O
   refine Zf (Za (rZ O (qp r1 (qR rr qZ)) V Ge J1 fun O=>?_))
   replace O:=O.eI 12 i
   obtain ⟨F,O⟩:=O.nM [11,10,5,4,2,1,6,12] [102,101,0,50]
   exact ⟨((i+1),_,_),F,⟨ow,hst9⟩,O,ow⟩
  have h9:(Nn D.l i).n=n:=WE
  have hst9:out=((D.l.take (i+1)).filter fun x=>!decide (x.n=n)):=Qz
  refine Yd (Zf (Za (rZ O (qp r1 (qR rr qZ)) V Ge J1 fun O=>?_)))
  replace O:=O.eI 12 i
  obtain ⟨F,O⟩:=O.nM [11,10,5,4,2,1,6,12] [102,101,0,50]
  exact ⟨((i+1),_,_),F,⟨ow,hst9⟩,O,ow⟩
 have hil:i=D.l.length:=WI
 have hga:out=(D.l.filter fun x=>!decide (x.n=n)):=Q8
 refine Ym (Ze (Ze (Zk (Za (Ya (Ya ?_))))))
 obtain ⟨F,O⟩:=O.give 50 6 Z rfl
 obtain ⟨F,O⟩:=O.nM XaJ QI
 rw [hga] at O
 refine rZ O (qR rr (qu YbY r1 (qg 2 101 r1 r1 (qa 101 r1 r1 (qu YbY r1 (qf (o_eql .t .t) r2 qz qZ)))))) V [30,6,5,4,2] QI fun O=>?_
 refine Zb O Z (fun hc2=>?_) (fun hc2=>?_)
 ·have hlt9:=YJ (fun x:Zgg=>!decide (x.n=n)) D.l
  have hg:ZiI D n=(D,3):=Yg (by have h8:=hc2;simp only [Yj] at h8;omega)
  refine Ya (rZ O (qe 4 101 r1 r1 (qs 4 102 r2 r1 (qI qZ))) V Xb0 QI fun O=>(Yh (Zd ?_)))
  refine ZU hfr O Z (.cl 102 true 4 Z Z (.tmp Z .nil)) (.two KJ (.int Wr))
 have hg:ZiI D n=(⟨D.h,(D.l.filter fun x=>!decide (x.n=n)),D.next⟩,0):=Yb (by have h8:=hc2;simp only [Yi] at h8;omega)
 refine Yd (Za (Ya (rZ O (qR rr (qg 2 101 r1 r1 (qf (ZbI 101 .adr .t Zaf kr kr) r2 r1 qZ))) V [5,4,2] QI fun O=>Ya ?_)))
 refine rZ O (qe 4 101 r1 r1 (qs 4 102 r2 r1 (qI qZ))) V Jf QI fun O=>Yh ?_
 refine ZU hfr O Z (.cl 102 true 4 Z Z (.tmp Z .nil)) (.two KJ (.int Wr))
theorem Zjk {A:StA} (hok:Zaz A) (d:ZK) (hd:DSm (Za5 A)) (hsd:ZbG (hiA A) d):FnP prog 49 [.agg (Zbk (Za5 A)),.agg (ZC d)] (.tup [.agg (Zbk (Za5 (doA A d).1)),.int .i64 (doA A d).2]):=by have k:=ZtJ (Za5 A) d hd hsd;rw [Zub hok] at k;exact k
theorem Zo5 {A:StA} (hok:Zaz A) (hd:DSm (Za5 A)) (hl:(Za5 A).l.length<1000) (hn:0≤A.next∧A.next≤100000):FnP prog 50 [.agg (Zbk (Za5 A))] (.tup [.agg (Zbk (Za5 (ZbZ A).1)),.int .i64 (ZbZ A).2.1,.int .i64 (ZbZ A).2.2]):=by have k:=ZrQ (Za5 A) hd hl hn;rw [ZrW hok] at k;exact k
theorem ZpO {A:StA} (hok:Zaz A) (hd:DSm (Za5 A)) (n:Int):FnP prog 51 [.agg (Zbk (Za5 A)),.int .i64 n] (.tup [.agg (Zbk (Za5 (Zcf A n).1)),.int .i64 (Zcf A n).2]):=by have k:=ZrV (Za5 A) n hd;rw [Zq4 hok] at k;exact k
theorem Zo7 {A:StA} (hok:Zaz A) (hd:DSm (Za5 A)) (n:Int):FnP prog 52 [.agg (Zbk (Za5 A)),.int .i64 n] (.tup [.agg (Zbk (Za5 (ZcI A n).1)),.int .i64 (ZcI A n).2]):=by have k:=Zry (Za5 A) n hd;rw [Zru hok] at k;exact k
theorem ZoW {A:StA} (hok:Zaz A) (hd:DSm (Za5 A)):FnP prog 16 [.agg (Zbk (Za5 A))] (.int .i64 (ZaT A)):=by have k:=ZjF (Za5 A) hd;rw [Zjl hok] at k;exact k
theorem ZtA (b:Nat) (A:StA) (hok:Zaz A) (hf:ZbR A) (id:Int):FnG prog 11 1 [.is (.pointer (some ⟨b,0,none⟩)),.int .i64 id] [ZO (.pointer (some ⟨b,0,none⟩)) A] (.tup [.agg (rTx ((ZaV (hiA A).txs id).getD zeroT)),.bool (ZaV (hiA A).txs id).isSome]) (fun _=>[ZO (.pointer (some ⟨b,0,none⟩)) A]):=by have k:=Zss b A hok hf id;rw [Zq0 hok] at k;exact k
theorem Zog (b:Nat) (A:StA) (hok:Zaz A) (hf:ZbR A) (key:Int):FnG prog 19 1 [.is (.pointer (some ⟨b,0,none⟩)),.int .i64 key] [ZO (.pointer (some ⟨b,0,none⟩)) A] (.sl Zo (getO (hiA A).orders key)) (fun _=>[ZO (.pointer (some ⟨b,0,none⟩)) A]):=by have k:=ZkU b A hok hf key;rw [ZnM] at k;exact k
theorem ZtP (b:Nat) (A:StA) (i:Nat) (x:ZeO) (hp:ZbF A i) (hi:i≤24) (hlx:ZfC x):FnG prog 10 1 [.is (.pointer (some ⟨b,0,none⟩)),.agg (Zbk (Za5 A)),.agg (Zbd x)] [ZO (.pointer (some ⟨b,0,none⟩)) A] (.tup [.agg (Zbk (Za5 (ZbO A x))),.bool true]) (fun _=>[ZO (.pointer (some ⟨b,0,none⟩)) (ZbO A x)]):=by
 refine FnG.mk func10 Z ntmps10 Z kr fun B F0 a w F V hG O=>?_
 have hfs:=hp.fitS ow
 have hds:=hp.dsm ow
 have hM9:=Znu hp.fit hp.right hi hlx
 have hdl:(Za5 A).l.length<1000:=by have h9:=hp.snl;show (A.snaps.map _).length<1000;rw [YO];omega
 refine Ya (rS O (qx 101 r1 (qx 102 r1 (qf (oH [.slice none 0 0,.slice none 0 0,.slice none 0 0,.int .i64 0] 103) trivial qz qB))) V [7,6,5,4,0] QZ fun τ O=>?_)
 try dsimp only [RS.sub,SF.sub,CF.sub,csub,Anc.sub,List.map,zCF,rRt,rSq,Zt,rTx,Zp,Zi,Zo,rOp,Zbk,Zaw,ZC,Zbd,rEd,Za5] at O
 generalize τ 4=v4,τ 5=v5,τ 6=v6 at O
 refine Za (Ya (Ya (rZ O (qg 0 102 r1 r1 (qa 102 r1 r1 qZ)) V [21,7,6,5,4,0] QZ fun O=>(Ye (Ya (Ya ?_))))))
 refine rZ O (qf (o_eql .t qi) r1 qz (qO rr qZ)) V Dg QZ fun O=>?_
 refine Zb O Z (fun hc0=>?_) (fun hc0=>?_)
 ·have hkd:=Yv hc0
  refine Yd (Za (Zb O Z (fun hc1=>?_) (fun hc1=>?_)))
  ·have hkd:=Yv hc1
   refine Ya (rS O (qg 0 101 r1 r1 (qf (oL true 2 101 .adr) r1 r1 (qe 13 102 r1 r1 (qf (oP (Zi9 (hiA A) x (hp.fit.small ow) hlx.1 ((hp.fit.doH hlx.1).small ow)) func24 (Args.two (.pagg .t) (.pagg .t))) r2 qz (qf (oH [.slice none 0 0,.slice none 0 0,.slice none 0 0,.slice none 0 0] 104) trivial qz (qf (oA 4 104 .same (.conv .t .agg)) r2 r1 qZ)))))) V XaR [104,103,102,101,1,0] fun τ O=>?_)
   have O:=X4
   generalize τ 8=v8 at O
   refine Za (Ya (rS O (qe 4 101 r1 r1 (qe 4 104 r1 r1 (qf (oP (Zjk hp.ok (Zbn (hiA A) x) hds hM9.sm) func49 (Args.two (.pagg .t) (.pagg .t))) r2 qz (qR rr (qf (o_extract .t Z) r1 qz (qf (o_extract .t Z) r1 qz (qf (oH [.slice none 0 0,.slice none 0 0,.slice none 0 0,.int .i64 0] 105) trivial qz (qf (oA 4 105 .same (.conv .t .agg)) r2 r1 (qO rr qZ))))))))) V Dy GP fun τ O=>?_))
   have O:=X4
   generalize τ 9=v9 at O
   refine Za (Ya (Zr O (qe 4 105 r1 r1 (qR rr (qe 4 104 r1 r1 (qf (o_callG1 1 (ZkF b A (Zbn (hiA A) x) hp.ok (hp.doFit hi hM9) hM9.sm) func23 Z kr (Args.two .t (.pagg .t))) r2 r1 (qR rr (qf (o_eql .t .t) r2 qz (qs 4 103 r2 r1 (qO rr qZ)))))))) V Gi GP Z Z fun a w F O=>?_))
   have O:=Xh
   refine Za (Yh (Zl (Zd ?_)))
   have hg:ZbO A x=(doA A (Zbn (hiA A) x)).1:=Qw
   replace O:=O.turn 1 Z (r':=RS.hp (ZO (.pointer (some ⟨b,0,none⟩)) (ZbO A x))) (fun _ _ _ _ h=>by rw [hg];exact h)
   obtain ⟨F,O⟩:=O.nM Gi GP
   refine Zz hG O Z (.cl 103 true 4 Z Z (.tmp Z .nil)) (.two KK (.bool W5)) rfl
  exact Bool.noConfusion (hc0.symm.trans hc1)
 have hkn:=YW hc0
 refine Ya (rZ O (qf (o_eql .t qi) r1 qz (qO rr qZ)) V Dg QZ fun O=>?_)
 refine Zb O Z (fun hc2=>?_) (fun hc2=>?_)
 ·have hkd:=Yv hc2
  refine Yd (Za (Zb O Z (fun hc3=>?_) (fun hc3=>?_)))
  ·have hkd:=Yv hc3
   refine Ya (rS O (qg 0 101 r1 r1 (qf (oL true 2 101 .adr) r1 r1 (qe 13 102 r1 r1 (qf (oP (Zi9 (hiA A) x (hp.fit.small ow) hlx.1 ((hp.fit.doH hlx.1).small ow)) func24 (Args.two (.pagg .t) (.pagg .t))) r2 qz (qf (oH [.slice none 0 0,.slice none 0 0,.slice none 0 0,.slice none 0 0] 106) trivial qz (qf (oA 4 106 .same (.conv .t .agg)) r2 r1 qZ)))))) V XaR [106,103,102,101,1,0] fun τ O=>?_)
   have O:=X4
   generalize τ 8=v8 at O
   refine Za (Ya (rS O (qe 4 101 r1 r1 (qe 4 106 r1 r1 (qf (oP (Zjk hp.ok (Zbn (hiA A) x) hds hM9.sm) func49 (Args.two (.pagg .t) (.pagg .t))) r2 qz (qR rr (qf (o_extract .t Z) r1 qz (qf (o_extract .t Z) r1 qz (qf (oH [.slice none 0 0,.slice none 0 0,.slice none 0 0,.int .i64 0] 107) trivial qz (qf (oA 4 107 .same (.conv .t .agg)) r2 r1 (qO rr qZ))))))))) V Dy GQ fun τ O=>?_))
   have O:=X4
   generalize τ 9=v9 at O
   refine Za (Ya (Zr O (qe 4 107 r1 r1 (qR rr (qe 4 106 r1 r1 (qf (o_callG1 1 (ZkF b A (Zbn (hiA A) x) hp.ok (hp.doFit hi hM9) hM9.sm) func23 Z kr (Args.two .t (.pagg .t))) r2 r1 (qR rr (qf (o_eql .t .t) r2 qz (qs 4 103 r2 r1 (qO rr qZ)))))))) V Gi GQ Z Z fun a w F O=>?_))
   have O:=Xh
   refine Za (Yh (Zl (Zd ?_)))
   have hg:ZbO A x=(doA A (Zbn (hiA A) x)).1:=Qw
   replace O:=O.turn 1 Z (r':=RS.hp (ZO (.pointer (some ⟨b,0,none⟩)) (ZbO A x))) (fun _ _ _ _ h=>by rw [hg];exact h)
   obtain ⟨F,O⟩:=O.nM Gi GQ
   refine Zz hG O Z (.cl 103 true 4 Z Z (.tmp Z .nil)) (.two KK (.bool W5)) rfl
  exact Bool.noConfusion (hc2.symm.trans hc3)
 have hkn:=YW hc2
 refine Ya (rZ O (qf (o_eql .t qi) r1 qz (qO rr qZ)) V Dg QZ fun O=>?_)
 refine Zb O Z (fun hc4=>?_) (fun hc4=>?_)
 ·have hkd:=Yv hc4
  refine Yd (Za (Zb O Z (fun hc5=>?_) (fun hc5=>?_)))
  ·have hkd:=Yv hc5
   refine Ya (rS O (qg 0 101 r1 r1 (qf (oL true 2 101 .adr) r1 r1 (qe 13 102 r1 r1 (qf (oP (Zi9 (hiA A) x (hp.fit.small ow) hlx.1 ((hp.fit.doH hlx.1).small ow)) func24 (Args.two (.pagg .t) (.pagg .t))) r2 qz (qf (oH [.slice none 0 0,.slice none 0 0,.slice none 0 0,.slice none 0 0] 108) trivial qz (qf (oA 4 108 .same (.conv .t .agg)) r2 r1 qZ)))))) V XaR [108,103,102,101,1,0] fun τ O=>?_)
   have O:=X4
   generalize τ 8=v8 at O
   refine Za (Ya (rS O (qe 4 101 r1 r1 (qe 4 108 r1 r1 (qf (oP (Zjk hp.ok (Zbn (hiA A) x) hds hM9.sm) func49 (Args.two (.pagg .t) (.pagg .t))) r2 qz (qR rr (qf (o_extract .t Z) r1 qz (qf (o_extract .t Z) r1 qz (qf (oH [.slice none 0 0,.slice none 0 0,.slice none 0 0,.int .i64 0] 109) trivial qz (qf (oA 4 109 .same (.conv .t .agg)) r2 r1 (qO rr qZ))))))))) V Dy GS fun τ O=>?_))
   have O:=X4
   generalize τ 9=v9 at O
   refine Za (Ya (Zr O (qe 4 109 r1 r1 (qR rr (qe 4 108 r1 r1 (qf (o_callG1 1 (ZkF b A (Zbn (hiA A) x) hp.ok (hp.doFit hi hM9) hM9.sm) func23 Z kr (Args.two .t (.pagg .t))) r2 r1 (qR rr (qf (o_eql .t .t) r2 qz (qs 4 103 r2 r1 (qO rr qZ)))))))) V Gi GS Z Z fun a w F O=>?_))
   have O:=Xh
   refine Za (Yh (Zl (Zd ?_)))
   have hg:ZbO A x=(doA A (Zbn (hiA A) x)).1:=Qw
   replace O:=O.turn 1 Z (r':=RS.hp (ZO (.pointer (some ⟨b,0,none⟩)) (ZbO A x))) (fun _ _ _ _ h=>by rw [hg];exact h)
   obtain ⟨F,O⟩:=O.nM Gi GS
   refine Zz hG O Z (.cl 103 true 4 Z Z (.tmp Z .nil)) (.two KK (.bool W5)) rfl
  exact Bool.noConfusion (hc4.symm.trans hc5)
 have hkn:=YW hc4
 refine rZ O (qf (o_eql .t qi) r1 qz (qO rr qZ)) V Dg QZ fun O=>?_
 refine Zb O Z (fun hc6=>?_) (fun hc6=>?_)
 ·have hkd:=Yv hc6
  refine Ya (rS O (qg 0 101 r1 r1 (qf (oL true 2 101 .adr) r1 r1 (qe 13 102 r1 r1 (qf (oP (Zi9 (hiA A) x (hp.fit.small ow) hlx.1 ((hp.fit.doH hlx.1).small ow)) func24 (Args.two (.pagg .t) (.pagg .t))) r2 qz (qf (oH [.slice none 0 0,.slice none 0 0,.slice none 0 0,.slice none 0 0] 110) trivial qz (qf (oA 4 110 .same (.conv .t .agg)) r2 r1 qZ)))))) V XaR [110,103,102,101,1,0] fun τ O=>?_)
  have O:=X4
  generalize τ 8=v8 at O
  refine Za (Ya (rS O (qe 4 101 r1 r1 (qe 4 110 r1 r1 (qf (oP (Zjk hp.ok (Zbn (hiA A) x) hds hM9.sm) func49 (Args.two (.pagg .t) (.pagg .t))) r2 qz (qR rr (qf (o_extract .t Z) r1 qz (qf (o_extract .t Z) r1 qz (qf (oH [.slice none 0 0,.slice none 0 0,.slice none 0 0,.int .i64 0] 111) trivial qz (qf (oA 4 111 .same (.conv .t .agg)) r2 r1 (qO rr qZ))))))))) V Dy GT fun τ O=>?_))
  have O:=X4
  generalize τ 9=v9 at O
  refine Za (Ya (Zr O (qe 4 111 r1 r1 (qR rr (qe 4 110 r1 r1 (qf (o_callG1 1 (ZkF b A (Zbn (hiA A) x) hp.ok (hp.doFit hi hM9) hM9.sm) func23 Z kr (Args.two .t (.pagg .t))) r2 r1 (qR rr (qf (o_eql .t .t) r2 qz (qs 4 103 r2 r1 (qO rr qZ)))))))) V Gi GT Z Z fun a w F O=>?_))
  have O:=Xh
  refine Za (Yh (Zl (Zd ?_)))
  have hg:ZbO A x=(doA A (Zbn (hiA A) x)).1:=Qw
  replace O:=O.turn 1 Z (r':=RS.hp (ZO (.pointer (some ⟨b,0,none⟩)) (ZbO A x))) (fun _ _ _ _ h=>by rw [hg];exact h)
  obtain ⟨F,O⟩:=O.nM Gi GT
  refine Zz hG O Z (.cl 103 true 4 Z Z (.tmp Z .nil)) (.two KK (.bool W5)) rfl
 have hkn:=YW hc6
 refine Ya (rZ O (qf (o_eql .t qi) r1 qz (qO rr qZ)) V [43,21,7,6,5,4,0] QZ fun O=>?_)
 refine Zb O Z (fun hc7=>?_) (fun hc7=>?_)
 ·have hkd:=Yv hc7
  refine Ya (rS O (qe 4 101 r1 r1 (qf (oP (Zo5 hp.ok hds hdl (by have:=hp.ok.next;have:=hp.next;omega)) func50 (Args.one (.pagg .t))) r1 qz (qR rr (qf (o_extract .t Z) r1 qz (qf (o_extract .t Z) r1 qz (qf (o_extract .t Z) r1 qz (qf (oH [.slice none 0 0,.slice none 0 0,.slice none 0 0,.int .i64 0] 112) trivial qz (qf (oA 4 112 .same (.conv .t .agg)) r2 r1 (qO rr (qO rr qZ)))))))))) V [13,12,11,7,6,4,0] Gy fun τ O=>?_)
  have O:=X4
  generalize τ 11=v11 at O
  refine Za (Ya (rZ O (qR rr (qf (o_callG1 1 (Zmy b A hp.ok hfs) func21 Z kr (Args.one .t)) r1 r1 (qR rr (qf (o_extract .t Z) r1 qz (qf (o_extract .t Z) r1 qz (qO rr (qO rr qZ))))))) V [15,14,13,12,11,7,6,4] Gy fun O=>Ya ?_))
  refine rZ O (qe 4 112 r1 r1 (qR rr (qR rr (qf (o_eql .t .t) r2 qz (qR rr (qm Z Z Z Z (qm Z Z Z Z (qk Z (fun h=>o_eql (.w h) (.w h)) r3 qz (qf (ZF .t .t) r2 qz (qs 4 103 r2 r1 (qO rr qZ))))))))))) V Gi Gy fun O=>(Yh (Zl (Zd ?_)))
  have hg:ZbO A x=(ZbZ A).1:=by unfold ZbO;rw [Yb ow,Yg ow]
  replace O:=O.turn 1 Z (r':=RS.hp (ZO (.pointer (some ⟨b,0,none⟩)) (ZbO A x))) (fun _ _ _ _ h=>by rw [hg];exact h)
  obtain ⟨F,O⟩:=O.nM Gi Gy
  refine Zz hG O Z (.cl 103 true 4 Z Z (.tmp Z .nil)) (.two KK (.bool W5)) rfl
 have hkn:=YW hc7
 refine Ya (rZ O (qf (o_eql .t qi) r1 qz (qO rr qZ)) V [65,21,7,6,5,4,0] QZ fun O=>?_)
 refine Zb O Z (fun hc8=>?_) (fun hc8=>?_)
 ·have hkd:=Yv hc8
  refine Ya (rS O (qe 4 101 r1 r1 (qg 12 102 r1 r1 (qa 102 r1 r1 (qf (oP (ZpO hp.ok hds x.n) func51 (Args.two (.pagg .t) .t)) r2 qz (qR rr (qf (o_extract .t Z) r1 qz (qf (o_extract .t Z) r1 qz (qf (oH [.slice none 0 0,.slice none 0 0,.slice none 0 0,.int .i64 0] 113) trivial qz (qf (oA 4 113 .same (.conv .t .agg)) r2 r1 (qO rr qZ)))))))))) V [17,16,7,6,5,4,0] DE fun τ O=>?_)
  have O:=X4
  generalize τ 16=v16 at O
  refine Za (Ya (Zr O (qe 4 113 r1 r1 (qR rr (qg 12 102 r1 r1 (qa 102 r1 r1 (qf (o_callG1 1 (Zmc b A hp.ok hfs x.n) func25 Z kr (Args.two .t .t)) r2 r1 (qR rr (qf (o_eql .t .t) r2 qz (qs 4 103 r2 r1 (qO rr qZ))))))))) V Gi DE Z Z fun a w F O=>?_))
  have O:=Xh
  refine Za (Yh (Zl (Zd ?_)))
  have hg:ZbO A x=(Zcf A x.n).1:=by unfold ZbO;rw [Yb ow,Yb ow,Yg ow]
  replace O:=O.turn 1 Z (r':=RS.hp (ZO (.pointer (some ⟨b,0,none⟩)) (ZbO A x))) (fun _ _ _ _ h=>by rw [hg];exact h)
  obtain ⟨F,O⟩:=O.nM Gi DE
  refine Zz hG O Z (.cl 103 true 4 Z Z (.tmp Z .nil)) (.two KK (.bool W5)) rfl
 have hkn:=YW hc8
 refine Ya (rZ O (qf (o_eql .t qi) r1 qz (qO rr qZ)) V [81,7,6,5,4,0] QZ fun O=>?_)
 refine Zb O Z (fun hc9=>?_) (fun hc9=>?_)
 ·have hkd:=Yv hc9
  refine Ya (rS O (qe 4 101 r1 r1 (qg 12 102 r1 r1 (qa 102 r1 r1 (qf (oP (Zo7 hp.ok hds x.n) func52 (Args.two (.pagg .t) .t)) r2 qz (qR rr (qf (o_extract .t Z) r1 qz (qf (o_extract .t Z) r1 qz (qf (oH [.slice none 0 0,.slice none 0 0,.slice none 0 0,.int .i64 0] 114) trivial qz (qf (oA 4 114 .same (.conv .t .agg)) r2 r1 (qO rr qZ)))))))))) V [19,18,7,6,5,4,0] DF fun τ O=>?_)
  have O:=X4
  generalize τ 18=v18 at O
  refine Za (Ya (Zr O (qe 4 114 r1 r1 (qR rr (qg 12 102 r1 r1 (qa 102 r1 r1 (qf (o_callG1 1 (Zmr b A hp.ok hfs x.n) func26 Z kr (Args.two .t .t)) r2 r1 (qR rr (qf (o_eql .t .t) r2 qz (qs 4 103 r2 r1 (qO rr qZ))))))))) V Gi DF Z Z fun a w F O=>?_))
  have O:=Xh
  refine Za (Yh (Zl (Zd ?_)))
  have hg:ZbO A x=(ZcI A x.n).1:=by unfold ZbO;rw [Yb ow,Yb ow,Yb ow,Yg ow]
  replace O:=O.turn 1 Z (r':=RS.hp (ZO (.pointer (some ⟨b,0,none⟩)) (ZbO A x))) (fun _ _ _ _ h=>by rw [hg];exact h)
  obtain ⟨F,O⟩:=O.nM Gi DF
  refine Zz hG O Z (.cl 103 true 4 Z Z (.tmp Z .nil)) (.two KK (.bool W5)) rfl
 have hkn:=YW hc9
 refine Yd (Zf (Za (Ya (rZ O (qe 4 101 r1 r1 (qs 4 103 r2 r1 qB)) V XaK QZ fun O=>Yh ?_))))
 have hg:ZbO A x=A:=by unfold ZbO;rw [Yb ow,Yb ow,Yb ow,Yb ow]
 replace O:=O.turn 1 Z (r':=RS.hp (ZO (.pointer (some ⟨b,0,none⟩)) (ZbO A x))) (fun _ _ _ _ h=>by rw [hg];exact h)
 obtain ⟨F,O⟩:=O.nM XaK QZ
 refine Zz hG O Z (.cl 103 true 4 Z Z (.tmp Z .nil)) (.two KK (.bool W5)) rfl
end Go.Proofs.YtfecljadegkmdaaGreat
