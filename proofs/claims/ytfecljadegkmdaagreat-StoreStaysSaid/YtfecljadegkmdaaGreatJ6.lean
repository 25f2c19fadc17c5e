/- Laws and walks. No condition beyond what each says. -/
import Derived.Test.YtfecljadegkmdaaGreatJ5
namespace Go.Proofs.YtfecljadegkmdaaGreat
open Go Go.Gm Tryz
set_option linter.unusedVariables false
set_option linter.unusedSimpArgs false
set_option maxHeartbeats 4000000
set_option maxRecDepth 8000
instance (d:ZK):Decidable (Zhg d):=by unfold Zhg;exact inferInstance
theorem ZmO:ZG (⟨[(⟨1,true,[⟨false,5,0,0⟩]⟩:TxD)],[⟨5,[1]⟩]⟩:Zx):=by decide +kernel
theorem Zjl:ZG (⟨[],[]⟩:Zx):=by decide +kernel
theorem lx1:ofD (⟨[],[]⟩:Zx) (⟨[(⟨1,true,[⟨false,5,0,0⟩]⟩:TxD)],[⟨5,[1]⟩]⟩:Zx)=((⟨[],[(⟨1,true,[⟨false,5,0,0⟩]⟩:TxD)],[],[⟨5,[1]⟩]⟩:ZK),0):=by decide +kernel
theorem lx1i:ofD (⟨[(⟨1,true,[⟨false,5,0,0⟩]⟩:TxD)],[⟨5,[1]⟩]⟩:Zx) (⟨[],[]⟩:Zx)=((⟨[(⟨1,true,[⟨false,5,0,0⟩]⟩:TxD)],[],[⟨5,[1]⟩],[]⟩:ZK),0):=by decide +kernel
theorem lx2:ZN (⟨[],[]⟩:Zx) (⟨[],[(⟨1,true,[⟨false,5,0,0⟩]⟩:TxD)],[],[⟨5,[1]⟩]⟩:ZK)=((⟨[(⟨1,true,[⟨false,5,0,0⟩]⟩:TxD)],[⟨5,[1]⟩]⟩:Zx),0):=by have h:=ZiV Zjl ZmO;rwa [lx1] at h
theorem lx3:ZN (⟨[(⟨1,true,[⟨false,5,0,0⟩]⟩:TxD)],[⟨5,[1]⟩]⟩:Zx) (⟨[],[(⟨1,true,[⟨false,5,0,0⟩]⟩:TxD)],[],[⟨5,[1]⟩]⟩:ZK)=((⟨[],[]⟩:Zx),17):=by decide +kernel
theorem lx4:ZN (⟨[(⟨1,true,[⟨false,5,0,0⟩]⟩:TxD)],[⟨5,[1]⟩]⟩:Zx) (inv (⟨[],[(⟨1,true,[⟨false,5,0,0⟩]⟩:TxD)],[],[⟨5,[1]⟩]⟩:ZK))=((⟨[],[]⟩:Zx),0):=by have h:=ZiV ZmO Zjl;rwa [lx1i] at h
theorem lxs2:Zcu (⟨[],[]⟩:Zx) (⟨[],[(⟨1,true,[⟨false,5,0,0⟩]⟩:TxD)],[],[⟨5,[1]⟩]⟩:ZK):=.of (by decide) (by decide) (by decide) (by decide)
theorem lxs3:Zcu (⟨[(⟨1,true,[⟨false,5,0,0⟩]⟩:TxD)],[⟨5,[1]⟩]⟩:Zx) (⟨[],[(⟨1,true,[⟨false,5,0,0⟩]⟩:TxD)],[],[⟨5,[1]⟩]⟩:ZK):=.of (by decide) (by decide) (by decide) (by decide)
theorem lxs4:Zcu (⟨[(⟨1,true,[⟨false,5,0,0⟩]⟩:TxD)],[⟨5,[1]⟩]⟩:Zx) (inv (⟨[],[(⟨1,true,[⟨false,5,0,0⟩]⟩:TxD)],[],[⟨5,[1]⟩]⟩:ZK)):=.of (by decide) (by decide) (by decide) (by decide)
theorem Zlk:Zlh [(⟨1,true,[⟨false,5,0,0⟩]⟩:TxD)] [[1]] (⟨[⟨1,0⟩],[⟨5,0⟩],3⟩:RtA):=⟨YaF _ _,YaF _ _,fun p hp=>by rw [Yn] at hp;subst hp;decide,fun p hp=>by rw [Yn] at hp;subst hp;decide⟩
theorem ZtK:Zlh [(⟨1,true,[⟨false,5,0,0⟩]⟩:TxD)] [[1]] (⟨[],[],0⟩:RtA):=⟨List.Pairwise.nil,List.Pairwise.nil,fun p hp=>(by cases hp),fun p hp=>(by cases hp)⟩
theorem Zto:ZaJ (⟨(⟨[⟨1,0⟩],[⟨5,0⟩],3⟩:RtA),[],0,[(⟨1,true,[⟨false,5,0,0⟩]⟩:TxD)],[[1]]⟩:StA):=⟨Zlk,fun x hx=>(by cases hx),List.Pairwise.nil,rfl,fun x hx=>(by cases hx),by decide,by decide⟩
theorem Ztr:ZaJ (⟨(⟨[⟨1,0⟩],[⟨5,0⟩],3⟩:RtA),[],1,[(⟨1,true,[⟨false,5,0,0⟩]⟩:TxD)],[[1]]⟩:StA):=⟨Zlk,fun x hx=>(by cases hx),List.Pairwise.nil,rfl,fun x hx=>(by cases hx),by decide,by decide⟩
theorem ZrR:ZaJ (⟨(⟨[⟨1,0⟩],[⟨5,0⟩],3⟩:RtA),[(0,(⟨[⟨1,0⟩],[⟨5,0⟩],3⟩:RtA))],1,[(⟨1,true,[⟨false,5,0,0⟩]⟩:TxD)],[[1]]⟩:StA):=⟨Zlk,fun x hx=>(by rw [Yn] at hx;subst hx;exact ⟨Zlk,by decide,by decide⟩),YaF _ _,rfl,fun x hx=>(by rw [Yn] at hx;subst hx;rfl),by decide,by decide⟩
theorem ZsA:ZaJ (⟨(⟨[],[],0⟩:RtA),[(0,(⟨[⟨1,0⟩],[⟨5,0⟩],3⟩:RtA))],1,[(⟨1,true,[⟨false,5,0,0⟩]⟩:TxD)],[[1]]⟩:StA):=⟨ZtK,fun x hx=>(by rw [Yn] at hx;subst hx;exact ⟨Zlk,by decide,by decide⟩),YaF _ _,rfl,fun x hx=>(by rw [Yn] at hx;subst hx;rfl),by decide,by decide⟩
theorem Zsk:ZaJ (⟨(⟨[⟨1,0⟩],[⟨5,0⟩],3⟩:RtA),[(1,(⟨[⟨1,0⟩],[⟨5,0⟩],3⟩:RtA))],2,[(⟨1,true,[⟨false,5,0,0⟩]⟩:TxD)],[[1]]⟩:StA):=⟨Zlk,fun x hx=>(by rw [Yn] at hx;subst hx;exact ⟨Zlk,by decide,by decide⟩),YaF _ _,rfl,fun x hx=>(by rw [Yn] at hx;subst hx;rfl),by decide,by decide⟩
theorem sl1:doA Zf5 (⟨[],[(⟨1,true,[⟨false,5,0,0⟩]⟩:TxD)],[],[⟨5,[1]⟩]⟩:ZK)=((⟨(⟨[⟨1,0⟩],[⟨5,0⟩],3⟩:RtA),[],0,[(⟨1,true,[⟨false,5,0,0⟩]⟩:TxD)],[[1]]⟩:StA),0):=by
 unfold doA
 rw [show hiA Zf5=(⟨[],[]⟩:Zx) from rfl,lx2,Yb (by decide),Yb (by decide)];rfl
theorem sl2:doA (⟨(⟨[⟨1,0⟩],[⟨5,0⟩],3⟩:RtA),[],0,[(⟨1,true,[⟨false,5,0,0⟩]⟩:TxD)],[[1]]⟩:StA) (⟨[],[(⟨1,true,[⟨false,5,0,0⟩]⟩:TxD)],[],[⟨5,[1]⟩]⟩:ZK)=((⟨(⟨[⟨1,0⟩],[⟨5,0⟩],3⟩:RtA),[],0,[(⟨1,true,[⟨false,5,0,0⟩]⟩:TxD)],[[1]]⟩:StA),17):=by
 unfold doA
 rw [show hiA (⟨(⟨[⟨1,0⟩],[⟨5,0⟩],3⟩:RtA),[],0,[(⟨1,true,[⟨false,5,0,0⟩]⟩:TxD)],[[1]]⟩:StA)=(⟨[(⟨1,true,[⟨false,5,0,0⟩]⟩:TxD)],[⟨5,[1]⟩]⟩:Zx) from rfl,lx3,Yf (by decide)]
theorem sl3:ZbF (⟨(⟨[⟨1,0⟩],[⟨5,0⟩],3⟩:RtA),[],0,[(⟨1,true,[⟨false,5,0,0⟩]⟩:TxD)],[[1]]⟩:StA)=((⟨(⟨[⟨1,0⟩],[⟨5,0⟩],3⟩:RtA),[(0,(⟨[⟨1,0⟩],[⟨5,0⟩],3⟩:RtA))],1,[(⟨1,true,[⟨false,5,0,0⟩]⟩:TxD)],[[1]]⟩:StA),0,0):=by unfold ZbF;rw [Yb (by decide)];rfl
theorem sl4:doA (⟨(⟨[⟨1,0⟩],[⟨5,0⟩],3⟩:RtA),[(0,(⟨[⟨1,0⟩],[⟨5,0⟩],3⟩:RtA))],1,[(⟨1,true,[⟨false,5,0,0⟩]⟩:TxD)],[[1]]⟩:StA) (⟨[(⟨1,true,[⟨false,5,0,0⟩]⟩:TxD)],[],[⟨5,[1]⟩],[]⟩:ZK)=((⟨(⟨[],[],0⟩:RtA),[(0,(⟨[⟨1,0⟩],[⟨5,0⟩],3⟩:RtA))],1,[(⟨1,true,[⟨false,5,0,0⟩]⟩:TxD)],[[1]]⟩:StA),0):=by
 unfold doA
 rw [show hiA (⟨(⟨[⟨1,0⟩],[⟨5,0⟩],3⟩:RtA),[(0,(⟨[⟨1,0⟩],[⟨5,0⟩],3⟩:RtA))],1,[(⟨1,true,[⟨false,5,0,0⟩]⟩:TxD)],[[1]]⟩:StA)=(⟨[(⟨1,true,[⟨false,5,0,0⟩]⟩:TxD)],[⟨5,[1]⟩]⟩:Zx) from rfl,show ZN (⟨[(⟨1,true,[⟨false,5,0,0⟩]⟩:TxD)],[⟨5,[1]⟩]⟩:Zx) (⟨[(⟨1,true,[⟨false,5,0,0⟩]⟩:TxD)],[],[⟨5,[1]⟩],[]⟩:ZK)=((⟨[],[]⟩:Zx),0) from lx4,Yb (by decide),Yb (by decide)];rfl
theorem sl5:Zdf (⟨(⟨[],[],0⟩:RtA),[(0,(⟨[⟨1,0⟩],[⟨5,0⟩],3⟩:RtA))],1,[(⟨1,true,[⟨false,5,0,0⟩]⟩:TxD)],[[1]]⟩:StA) 1=((⟨(⟨[],[],0⟩:RtA),[(0,(⟨[⟨1,0⟩],[⟨5,0⟩],3⟩:RtA))],1,[(⟨1,true,[⟨false,5,0,0⟩]⟩:TxD)],[[1]]⟩:StA),3):=rfl
theorem sl6:Zdf (⟨(⟨[],[],0⟩:RtA),[(0,(⟨[⟨1,0⟩],[⟨5,0⟩],3⟩:RtA))],1,[(⟨1,true,[⟨false,5,0,0⟩]⟩:TxD)],[[1]]⟩:StA) 0=((⟨(⟨[⟨1,0⟩],[⟨5,0⟩],3⟩:RtA),[(0,(⟨[⟨1,0⟩],[⟨5,0⟩],3⟩:RtA))],1,[(⟨1,true,[⟨false,5,0,0⟩]⟩:TxD)],[[1]]⟩:StA),0):=rfl
theorem sl7:ZfP (⟨(⟨[⟨1,0⟩],[⟨5,0⟩],3⟩:RtA),[(0,(⟨[⟨1,0⟩],[⟨5,0⟩],3⟩:RtA))],1,[(⟨1,true,[⟨false,5,0,0⟩]⟩:TxD)],[[1]]⟩:StA) 0=((⟨(⟨[⟨1,0⟩],[⟨5,0⟩],3⟩:RtA),[],1,[(⟨1,true,[⟨false,5,0,0⟩]⟩:TxD)],[[1]]⟩:StA),0):=rfl
theorem sl8:ZfP (⟨(⟨[⟨1,0⟩],[⟨5,0⟩],3⟩:RtA),[],1,[(⟨1,true,[⟨false,5,0,0⟩]⟩:TxD)],[[1]]⟩:StA) 0=((⟨(⟨[⟨1,0⟩],[⟨5,0⟩],3⟩:RtA),[],1,[(⟨1,true,[⟨false,5,0,0⟩]⟩:TxD)],[[1]]⟩:StA),3):=rfl
theorem sl9:ZbF (⟨(⟨[⟨1,0⟩],[⟨5,0⟩],3⟩:RtA),[],1,[(⟨1,true,[⟨false,5,0,0⟩]⟩:TxD)],[[1]]⟩:StA)=((⟨(⟨[⟨1,0⟩],[⟨5,0⟩],3⟩:RtA),[(1,(⟨[⟨1,0⟩],[⟨5,0⟩],3⟩:RtA))],2,[(⟨1,true,[⟨false,5,0,0⟩]⟩:TxD)],[[1]]⟩:StA),1,0):=by unfold ZbF;rw [Yb (by decide)];rfl
theorem Zjg (b:Nat) {A A2:StA} {d:ZK} {w:Int} (h:doA A d=(A2,w)) (hok:ZaJ A) (hdf:ZkY A d) (hsd:Zcu (hiA A) d):FnG prog 23 1 [.is (.pointer (some ⟨b,0,none⟩)),.agg (Zaa d)] [ZX (.pointer (some ⟨b,0,none⟩)) A] (.int .i64 w) (fun _=>[ZX (.pointer (some ⟨b,0,none⟩)) A2]):=by have k:=ZrG b A d hok hdf hsd;rw [h] at k;exact k
theorem Zis (b:Nat) {A A2:StA} {n w:Int} (h:ZbF A=(A2,n,w)) (hok:ZaJ A) (hf:Zb1 A):FnG prog 21 1 [.is (.pointer (some ⟨b,0,none⟩))] [ZX (.pointer (some ⟨b,0,none⟩)) A] (.tup [.int .i64 n,.int .i64 w]) (fun _=>[ZX (.pointer (some ⟨b,0,none⟩)) A2]):=by have k:=Zmg b A hok hf;rw [h] at k;exact k
theorem ZfL (b:Nat) {A A2:StA} {n w:Int} (h:Zdf A n=(A2,w)) (hok:ZaJ A) (hf:Zb1 A):FnG prog 25 1 [.is (.pointer (some ⟨b,0,none⟩)),.int .i64 n] [ZX (.pointer (some ⟨b,0,none⟩)) A] (.int .i64 w) (fun _=>[ZX (.pointer (some ⟨b,0,none⟩)) A2]):=by have k:=Zrc b A hok hf n;rw [h] at k;exact k
theorem ZhZ (b:Nat) {A A2:StA} {n w:Int} (h:ZfP A n=(A2,w)) (hok:ZaJ A) (hf:Zb1 A):FnG prog 26 1 [.is (.pointer (some ⟨b,0,none⟩)),.int .i64 n] [ZX (.pointer (some ⟨b,0,none⟩)) A] (.int .i64 w) (fun _=>[ZX (.pointer (some ⟨b,0,none⟩)) A2]):=by have k:=ZqK b A hok hf n;rw [h] at k;exact k
theorem ZnP (b:Nat) {A:StA} {w:Int} (h:Za2 A=w) (hok:ZaJ A) (hf:Zb1 A):FnG prog 15 1 [.is (.pointer (some ⟨b,0,none⟩))] [ZX (.pointer (some ⟨b,0,none⟩)) A] (.int .i64 w) (fun _=>[ZX (.pointer (some ⟨b,0,none⟩)) A]):=by have k:=Zrr b A hok hf;rw [h] at k;exact k
theorem Zfv (b:Nat) {A:StA} {g:Zx} (h:hiA A=g) (hok:ZaJ A) (hf:Zb1 A):FnG prog 14 1 [.is (.pointer (some ⟨b,0,none⟩))] [ZX (.pointer (some ⟨b,0,none⟩)) A] (.agg (Zl g)) (fun _=>[ZX (.pointer (some ⟨b,0,none⟩)) A]):=by have k:=Zgk b A hok hf;rw [h] at k;exact k
theorem ZnI  : FnP prog 21 [.is (.pointer none)] (.tup [.int .i64 0,.int .i64 17]):=by
 refine FnP.mk func21 Z ntmps21 Z fun B a w F V hfr O=>Ya ?_
 refine rZ O (qI (qI qZ)) V [3,2,0] [0] fun O=>(Ya (Ye (Ya ?_)))
 refine rZ O (qR rr (qf (Zab _ YbT Z .t) r1 qz (qO rr qZ))) V [5,3,2,0] [0] fun O=>?_
 refine Zc O Z (fun hc0=>?_) (fun hc0=>?_)
 ·refine Ya (rZ O (qI (qI qZ)) V [3,2,0] [0] fun O=>(Yh (Zr (Zf ?_))))
  refine Z3 hfr O Z (.tmp Z (.tmp Z .nil)) (.two .refl .refl)
 simp at hc0
theorem Znd (n:Int):FnP prog 25 [.is (.pointer none),.int .i64 n] (.int .i64 3):=by
 refine FnP.mk func25 Z ntmps25 Z fun B a w F V hfr O=>Ya ?_
 refine rZ O (qI qZ) V [4,1,0] [0] fun O=>(Ya (Ya ?_))
 refine rZ O (qR rr (qf (Zab _ YbT Z .t) r1 qz qZ)) V [8,4,1,0] [0] fun O=>?_
 refine Zc O Z (fun hc0=>?_) (fun hc0=>?_)
 ·refine Ya (rZ O (qI qZ) V [4,1,0] [0] fun O=>(Yh (Zf ?_)))
  refine ZB hfr O Z Z Z .refl
 simp at hc0
theorem Zny  : FnP prog 15 [.is (.pointer none)] (.int .i64 0):=by
 refine FnP.mk func15 Z ntmps15 Z fun B a w F V hfr O=>Ya ?_
 refine rZ O (qI qZ) V [2,0] [0] fun O=>(Ya (Ya ?_))
 refine rZ O (qR rr (qf (Zab _ YbT Z .t) r1 qz qZ)) V [7,2,0] [0] fun O=>?_
 refine Zc O Z (fun hc0=>?_) (fun hc0=>?_)
 ·refine Ya (rZ O (qI qZ) V [2,0] [0] fun O=>(Yh (Zf ?_)))
  refine ZB hfr O Z Z Z .refl
 simp at hc0
theorem Zq1 (d:ZK):FnP prog 23 [.is (.pointer none),.agg (Zaa d)] (.int .i64 17):=by
 refine FnP.mk func23 Z ntmps23 Z fun B a w F V hfr O=>Ya ?_
 refine Zb O (qx 101 r1 (qI qZ)) V [4,3,0] [101,0] (fun _=>rfl) (fun _=>rfl) fun τ a w F O=>?_
 try dsimp only [RS.sub,SF.sub,CF.sub,csub,Anc.sub,List.map,zCF,rRt,rSq,ZC,rTx,Zv,Zl,Zs,rOp] at O
 generalize τ 3=v3 at O
 refine Za (Ya (Ya (rZ O (qR rr (qf (Zab _ YbT Z .t) r1 qz qZ)) V [19,4,3,0] [101,0] fun O=>?_)))
 refine Zc O Z (fun hc0=>?_) (fun hc0=>?_)
 ·refine Ya (rZ O (qI qZ) V [4,3,0] [101,0] fun O=>(Yh (Zf ?_)))
  refine ZB hfr O Z Z Z .refl
 simp at hc0
theorem Zm6  : FnP prog 14 [.is (.pointer none)] (.agg (Zl (⟨[],[]⟩:Zx))):=by
 refine FnP.mk func14 Z ntmps14 Z fun B a w F V hfr O=>Ya ?_
 refine Zb O (qf (oH [.slice none 0 0,.slice none 0 0] 101) trivial qz qZ) V [2,0] [101,0] (fun _=>rfl) (fun _=>rfl) fun τ a w F O=>?_
 try dsimp only [RS.sub,SF.sub,CF.sub,csub,Anc.sub,List.map,zCF,rRt,rSq,ZC,rTx,Zv,Zl,Zs,rOp] at O
 generalize τ 2=v2 at O
 refine Za (Ya (Zb O (qf (oH [.slice none 0 0,.slice none 0 0] 102) trivial qz qZ) V [3,2,0] [102,101,0] (fun _=>rfl) (fun _=>rfl) fun τ a w F O=>?_))
 try dsimp only [RS.sub,SF.sub,CF.sub,csub,Anc.sub,List.map,zCF,rRt,rSq,ZC,rTx,Zv,Zl,Zs,rOp] at O
 generalize τ 3=v3 at O
 refine Za (Ya (Ya (rZ O (qR rr (qf (Zab _ YbT Z .t) r1 qz qZ)) V [9,3,2,0] [102,101,0] fun O=>?_)))
 refine Zc O Z (fun hc0=>?_) (fun hc0=>?_)
 ·refine Ya (rZ O (qe 2 102 r1 r1 (qs 2 101 r2 r1 qZ)) V [3,2,0] [102,101,0] fun O=>(Yh (Zf ?_)))
  refine Z3 hfr O Z (.cl 101 true 2 Z Z .nil) (.one (.aggLe Z ⟨.nilSl,.nilSl,tv⟩))
 simp at hc0
theorem doT1_ok {A:StA} (hk:ZaJ A) (d:ZK) (z:Int):∀ i,i≤d.was.length→DoOk A (rT1 A d z i) (sizeH (hiA A)):=by
 intro i
 induction i with
 | zero=>intro _;exact DoOk.start hk z
 | succ i ih=>intro hi;rw [rT1_next ow];exact (ih ow).delT _
theorem doT2_ok {A:StA} (hk:ZaJ A) (d:ZK) (z:Int):∀ i,i≤d.now.length→DoOk (stT A d i) (rT2 A d z i) (sizeH (hiA A)+i):=by
 intro i
 induction i with
 | zero=>intro _;rw [stT_zero,← rT_join rfl];exact doT1_ok hk d z _ (YA _)
 | succ i ih=>intro hi;exact (ih ow).nextT ow
theorem doO1_ok {A:StA} (hk:ZaJ A) (d:ZK) (z:Int):∀ i,i≤d.old.length→DoOk (stO A d 0) (rO1 A d z i) (sizeH (hiA A)+d.now.length):=by
 intro i
 induction i with
 | zero=>intro _;rw [← stTO_join rfl,← rTO_join rfl];exact doT2_ok hk d z _ (YA _)
 | succ i ih=>intro hi;rw [rO1_next ow];exact (ih ow).delO _
theorem ZrS {A:StA} (hk:ZaJ A) (d:ZK) (z:Int):∀ i,i≤d.new.length → ∃ y,DoOk (stO A d i) (rO2 A d z i) y:=by
 intro i
 induction i with
 | zero=>intro _;rw [← rO_join rfl];exact ⟨_,doO1_ok hk d z _ (YA _)⟩
 | succ i ih=>intro hi;obtain ⟨y,hy⟩:=ih ow;exact ⟨_,hy.nextO ow⟩
theorem ZaJ.done {A:StA} (hk:ZaJ A) (d:ZK):ZaJ (Go.Proofs.YtfecljadegkmdaaGreat.doA A d).1:=hk.doA d fun z _=>by
 obtain ⟨y,hy⟩:=ZrS hk d z _ (YA _)
 have:=hy.rok
 rw [ZoC rfl,Zmf rfl] at this
 exact this
structure ZfQ where
 n:Int
 h:Zx
 deriving Inhabited
structure Zt5 where
 h:Zx
 l:List ZfQ
 next:Int
def ZcH (x:ZfQ):List PV:=[.int .i64 x.n,.sl rTx x.h.txs,.sl Zv x.h.orders]
def ZoY (D:Zt5):List PV:=[.sl rTx D.h.txs,.sl Zv D.h.orders,.sl ZcH D.l,.int .i64 D.next]
structure DSm (D:Zt5):Prop where
 h:Zbb D.h
 l:∀ x ∈ D.l,Zbb x.h
 len:D.l.length≤1000
theorem Zbb.size {g:Zx} (h:Zbb g):sizeH g≤2000000:=by
 have h1:=h.1.1
 have h2:=h.2.1
 have h3:=Zi3 h.2.2
 unfold sizeH;omega
theorem Zs8 (l:List TxD) (n:Int) (hs:ZaW l):FnP prog 193 [.sl rTx l,.int .i64 n] (.tup [.agg (rTx ((ZL TxD.id l n).getD zeroT)),.bool (ZL TxD.id l n).isSome]):=by
 refine FnP.mk func193 Z ntmps193 Z fun B a w F V hfr O=>Ya ?_
 refine Zb O (qf (oH [.int .i64 0,.bool false,.slice none 0 0] 101) trivial qz qB) V [5,4,1,0] [101,0] (fun _=>rfl) (fun _=>rfl) fun τ a w F O=>?_
 try dsimp only [RS.sub,SF.sub,CF.sub,csub,Anc.sub,List.map,zCF,Zl,rTx,Zv,ZY,Zs,rOp] at O
 generalize τ 4=v4 at O
 refine Za (Ya (rZ O (qR rr (qf (oB [(0,.tmp 6)] [.slice none 0 0,.slice none 0 0] [(0,1),(1,1)] (.one Z .t Zas kr .nil)) r1 qz (qR rr (qf (oP (ZdQ ⟨l,[]⟩ n hs) func12 (Args.two (.conv (.pagg .t) (Ent.paggLe (l:=[.sl rTx l,.is (.slice none 0 0)]) (l':=Zl ⟨l,[]⟩) ⟨Zay.refl,Zay.nilSl,tv⟩)) .t)) r2 qz (qf (o_extract .t Z) r1 qz (qf (o_extract .t Z) r1 qz (qf (oA 3 101 .is (.conv .t .agg)) r2 r1 (qO rr qZ)))))))) V [5,4] [101,0] fun O=>Yh ?_))
 refine Z3 hfr O Z (.cl 101 true 3 Z Z (.tmp Z .nil)) (.two (.aggU Z Z) (.bool Z))
theorem Zss (l:List OrdD) (n:Int):FnP prog 194 [.sl Zv l,.int .i64 n] (.tup [.agg (Zv ((ZL OrdD.key l n).getD Zhl)),.bool (ZL OrdD.key l n).isSome]):=by
 refine FnP.mk func194 Z ntmps194 Z fun B a w F V hfr O=>?_
 have hxl:=Sat.lenSl O (i:=0) rfl
 refine Ya (Zb O (qf (oH [.int .i64 0,.slice none 0 0] 101) trivial qz qB) V [5,4,1,0] [101,0] (fun _=>rfl) (fun _=>rfl) fun τ a w F O=>?_)
 try dsimp only [RS.sub,SF.sub,CF.sub,csub,Anc.sub,List.map,zCF,Zl,rTx,Zv,ZY,Zs,rOp] at O
 generalize τ 4=v4 at O
 refine Za (Ya (Ya (rZ O (qR rr (qu YbQ r1 (qJ qZ))) V [10,9,8,5,4,1] [101,0] fun O=>Ye ?_)))
 refine Zk (σ:=(Nat)) [1,4,5,8,9] [0,101] (fun s=>[(10,.pv (.int .i64 (s:Int)))]) (fun s=>[]) (fun s=>s≤l.length∧(∀ k,k<s→OrdD.key (Nn l k)≠n)) (fun s=>l.length - s) (0) O ⟨rfl,rfl,rfl,rfl,rfl,rfl,tv⟩ ⟨rfl,rfl,tv⟩ ⟨Yt _,fun k hk=>absurd hk (YJ k)⟩ ?_
 clear O;intro i a w F hC O
 try dsimp only at hC
 obtain ⟨F,O⟩:=O.nM [10,9,8,5,4,1] [101,0]
 try dsimp only at O
 obtain ⟨hi,hq⟩:=hC
 refine Ya (rZ O (qL r2) V [11,10,9,8,5,4,1] [101,0] fun O=>Ya ?_)
 refine Zc O Z (fun hc0=>?_) (fun hc0=>?_)
 ·have hil:i<l.length:=by simp at hc0;omega
  refine Yd (Za (Ya (Ye (Ya (Zb O (qy 2 YbQ r2 (qf (oR true 2 .t) r1 qz (qf (oH [.int .i64 0,.slice none 0 0] 102) trivial qz (qS 2 102 r2 r1 qZ)))) V [10,9,8,7,5,4,1] [102,101,0] (fun _=>rfl) (fun _=>rfl) fun τ a w F O=>?_)))))
  try dsimp only [RS.sub,SF.sub,CF.sub,csub,Anc.sub,List.map,Zd,xL,xM,Nat.reduceAdd,xD,xE,xT,xU,xC,xN,zCF,ldSF,Zl,rTx,Zv,ZY,Zs,rOp] at O
  generalize τ 7=v7 at O
  try simp only [Yg] at O
  refine Za (Ya (rZ O (qg 0 102 r1 r1 (qa 102 r1 r1 (qR rr (qf (o_eql .t .t) r2 qz qZ)))) V [17,10,9,8,7,5,4,1] [102,101,0] fun O=>?_))
  refine Zc O Z (fun hc1=>?_) (fun hc1=>?_)
  ·have hg:ZL OrdD.key l n=some (Nn l i):=ZiN hil (by simpa using hc1) hq
   refine Ya (rZ O (qe 2 102 r1 r1 (qs 2 101 r2 r1 qB)) V [10,9,8,5,4,1] [102,101,0] fun O=>(Yh (Zr (Zf (Zf (Zr (Zf ?_)))))))
   refine Z3 hfr O Z (.cl 101 true 2 Z Z (.tmp Z .nil)) (.two (by rw [hg];first | exact .aggU Z Z | exact .aggLe Z ⟨.refl,.nilSl,tv⟩) (.bool (by rw [hg];rfl)))
  have hne:OrdD.key (Nn l i)≠n:=by simpa using hc1
  refine Yd (Zi (Za (rZ O (qp r1 (qR rr qZ)) V [10,9,8,5,4,1] [102,101,0] fun O=>?_)))
  replace O:=O.ent (i:=10) (s':=.pv (.int .i64 ((i+1:Nat):Int))) Z (.int (Ze ow))
  obtain ⟨F,O⟩:=O.nM [9,8,5,4,1,10] [101,0]
  exact ⟨(i+1),F,⟨by omega,(fun k hk=>by rcases Yy (YD hk) with h9 | h9;exact hq k h9;rw [h9];exact hne)⟩,O,by omega⟩
 have hil:i=l.length:=by simp at hc0;omega
 have hg:ZL OrdD.key l n=none:=ZfM (by rw [← hil];exact hq)
 refine Ym (Zg (Zg (Zo (Za (Ya (rZ O (qf (oB [] [.int .i64 0,.slice none 0 0] [(0,1),(1,1)] .nil) trivial qz (qs 2 101 r2 r1 qB)) V [5,4] [101,0] fun O=>Yh ?_))))))
 refine Z3 hfr O Z (.cl 101 true 2 Z Z (.tmp Z .nil)) (.two (by rw [hg];first | exact .aggU Z Z | exact .aggLe Z ⟨.refl,.nilSl,tv⟩) (.bool (by rw [hg];rfl)))
theorem ZjS (c d:List TxD) (hll:c.length≤1000000) (hsd:ZaW d):FnP prog 129 [.sl rTx c,.sl rTx d] (.sl rTx (Zag TxD.id c d)):=by
 refine FnP.mk func129 Z ntmps129 Z fun B a w F V hfr O=>Ya ?_
 refine rZ O (qC qZ) V [4,1,0] [0] fun O=>Ya ?_
 refine rZ O (qC qZ) V [5,4,1,0] [0] fun O=>(Ya (Ya ?_))
 refine rZ O (qR rr (qu YbP r1 (qJ qZ))) V [12,11,10,5,4,1] [0] fun O=>Ye ?_
 replace O:=O.fresh 50 rfl
 replace O:=O.turn 50 Z (ZaC (T:=36) (sz:=3) (R:=rTx))
 refine Zk (σ:=(Nat)×(Value)×(List TxD)) [1,4,10,11] [0] (fun s=>[(12,.pv (.int .i64 (s.1:Int))),(5,.pv (.is s.2.1))]) (fun s=>[(50,.ob (.val s.2.1) (ZO 36 3 rTx s.2.2))]) (fun s=>s.1≤c.length∧(s.2.2=Zag TxD.id (c.take s.1) d)) (fun s=>c.length - s.1) ((0),(.slice none 0 0),([])) O ⟨rfl,rfl,rfl,rfl,rfl,rfl,tv⟩ ⟨rfl,rfl,tv⟩ ⟨Yt _,rfl⟩ ?_
 clear O;intro s a w F hC O
 obtain ⟨i,v,out⟩:=s
 try dsimp only at hC
 obtain ⟨F,O⟩:=O.nM [12,11,10,5,4,1] [50,0]
 try dsimp only at O
 obtain ⟨hi,hq⟩:=hC
 have hol:out.length≤i:=by rw [hq];exact YW (Zb2 _ _) (by rw [Yk];omega)
 refine Ya (rZ O (qL r2) V [13,12,11,10,5,4,1] [50,0] fun O=>Ya ?_)
 refine Zc O Z (fun hc0=>?_) (fun hc0=>?_)
 ·have hil:i<c.length:=by simp at hc0;omega
  have hcd:(!(ZL TxD.id d (TxD.id (Nn c i))).isSome || !decide ((Nn c i)=(ZL TxD.id d (TxD.id (Nn c i))).getD zeroT))=decide ((ZL TxD.id d (TxD.id (Nn c i)))≠some (Nn c i)):=by cases hsk:(ZL TxD.id d (TxD.id (Nn c i))) with | none=>simp | some z=>rw [Y6];simp;exact YbF ⟨Eq.symm,Eq.symm⟩
  refine Yd (Za (Ya (Ye (Ya (Zb O (qy 3 YbP r2 (qf (oR true 3 .t) r1 qz (qf (oH [.int .i64 0,.bool false,.slice none 0 0] 101) trivial qz (qS 3 101 r2 r1 qZ)))) V [12,11,10,7,5,4,1] [101,50,0] (fun _=>rfl) (fun _=>rfl) fun τ a w F O=>?_)))))
  try dsimp only [RS.sub,SF.sub,CF.sub,csub,Anc.sub,List.map,Zd,xL,xM,Nat.reduceAdd,xD,xE,xT,xU,xC,xN,zCF,ldSF,Zl,rTx,Zv,ZY,Zs,rOp] at O
  generalize τ 7=v7 at O
  try simp only [Yg] at O
  refine Za (Ya (Zb O (qR rr (qg 0 101 r1 r1 (qa 101 r1 r1 (qf (oP (Zs8 d (TxD.id (Nn c i)) hsd) func193 (Args.two .t .t)) r2 qz (qR rr (qf (o_extract .t Z) r1 qz (qf (o_extract .t Z) r1 qz (qf (oH [.int .i64 0,.bool false,.slice none 0 0] 102) trivial qz (qf (oA 3 102 .same (.conv .t .agg)) r2 r1 (qO rr qZ)))))))))) V [12,11,10,9,8,7,5,4,1] [102,101,50,0] (fun _=>rfl) (fun _=>rfl) fun τ a w F O=>?_))
  try dsimp only [RS.sub,SF.sub,CF.sub,csub,Anc.sub,List.map,Zd,xL,xM,Nat.reduceAdd,xD,xE,xT,xU,xC,xN,zCF,ldSF,Zl,rTx,Zv,ZY,Zs,rOp] at O
  generalize τ 8=v8 at O
  refine Za (Ya (rZ O (qR rr (qf (Z1 .t) r1 qz (qR rr (qk Z (fun h=>oL true 3 101 .is) r2 r1 (qk Z (fun h=>oL true 3 102 .is) r2 r1 (qk Z (fun h=>oP (Zlb (Nn c i) ((ZL TxD.id d (TxD.id (Nn c i))).getD zeroT)) func17 (Args.two (.pagg (.w h)) (.pagg (.w h)))) r3 qz (qk Z (fun h=>Z1 (.w h)) r2 qz (qf (ZaM .t .t) r2 qz qZ)))))))) V [30,12,11,10,7,5,4,1] [102,101,50,0] fun O=>?_))
  refine Zc O Z (fun hc1=>?_) (fun hc1=>?_)
  ·have h9:(!(ZL TxD.id d (TxD.id (Nn c i))).isSome || !decide ((Nn c i)=(ZL TxD.id d (TxD.id (Nn c i))).getD zeroT))=true:=hc1
   rw [hcd] at h9
   have hst9:out ++ [(Nn c i)] = Zag TxD.id (c.take (i+1)) d:=by rw [hq];unfold Zag;rw [Zau hil,Yf h9]
   refine Zb O (qR rr (qe 3 101 r1 r1 (qf (Zn (sz:=3) (zs:=[.int .i64 0,.bool false,.slice none 0 0]) (r:=[(0,.tmp 32)]) (l:=[_,_,_]) YbP kr kr kr kr Z Z (.agg Z .t kr kr .nil) Z) r1 qz (qf (o_append (sz:=3) (bs:=40) 50 (.mk' YbP kr kr) (by intro x;rfl) .is (.arr (l':=[(Nn c i)]) .t) (by simp only [Yc,Yl,Yq];omega) (by decide)) ⟨rfl,rfl,tv⟩ ⟨rfl,tv⟩ (qO rr qZ))))) V [12,11,10,5,4,1] [102,101,50,0] (fun _=>rfl) (fun _=>rfl) fun τ a w F O=>?_
   try dsimp only [RS.sub,SF.sub,CF.sub,csub,Anc.sub,List.map,Zd,xL,xM,Nat.reduceAdd,xD,xE,xT,xU,xC,xN,zCF,ldSF,Zl,rTx,Zv,ZY,Zs,rOp] at O
   generalize τ 34=v34 at O
   refine Zi (Za (rZ O (qp r1 (qR rr qZ)) V [12,11,10,5,4,1] [102,101,50,0] fun O=>?_))
   replace O:=O.ent (i:=12) (s':=.pv (.int .i64 ((i+1:Nat):Int))) Z (.int (Ze ow))
   obtain ⟨F,O⟩:=O.nM [11,10,4,1,5,12] [0,50]
   exact ⟨((i+1),_,_),F,⟨by omega,hst9⟩,O,by omega⟩
  have h9:(!(ZL TxD.id d (TxD.id (Nn c i))).isSome || !decide ((Nn c i)=(ZL TxD.id d (TxD.id (Nn c i))).getD zeroT))=false:=hc1
  rw [hcd] at h9
  have hst9:out=Zag TxD.id (c.take (i+1)) d:=by rw [hq];unfold Zag;rw [Zau hil,Yb (by rw [h9];simp),YF]
  refine Yd (Zi (Za (rZ O (qp r1 (qR rr qZ)) V [12,11,10,5,4,1] [102,101,50,0] fun O=>?_)))
  replace O:=O.ent (i:=12) (s':=.pv (.int .i64 ((i+1:Nat):Int))) Z (.int (Ze ow))
  obtain ⟨F,O⟩:=O.nM [11,10,4,1,5,12] [0,50]
  exact ⟨((i+1),_,_),F,⟨by omega,hst9⟩,O,by omega⟩
 have hil:i=c.length:=by simp at hc0;omega
 have hg:out=Zag TxD.id c d:=by rw [hq,hil,YE]
 refine Ym (Zg (Zg (Zo (Za (Ya (rZ O (qR rr (qO rr qZ)) V [4] [50,0] fun O=>Yh ?_))))))
 obtain ⟨F,O⟩:=O.give 50 4 Z rfl
 refine ZB hfr O Z Z Z (.sl (by rw [hg]))
theorem Zjw (c d:List OrdD) (hll:c.length≤1000000):FnP prog 130 [.sl Zv c,.sl Zv d] (.sl Zv (Zag OrdD.key c d)):=by
 refine FnP.mk func130 Z ntmps130 Z fun B a w F V hfr O=>Ya ?_
 refine rZ O (qC qZ) V [4,1,0] [0] fun O=>Ya ?_
 refine rZ O (qC qZ) V [5,4,1,0] [0] fun O=>(Ya (Ya ?_))
 refine rZ O (qR rr (qu YbQ r1 (qJ qZ))) V [12,11,10,5,4,1] [0] fun O=>Ye ?_
 replace O:=O.fresh 50 rfl
 replace O:=O.turn 50 Z (ZaC (T:=39) (sz:=2) (R:=Zv))
 refine Zk (σ:=(Nat)×(Value)×(List OrdD)) [1,4,10,11] [0] (fun s=>[(12,.pv (.int .i64 (s.1:Int))),(5,.pv (.is s.2.1))]) (fun s=>[(50,.ob (.val s.2.1) (ZO 39 2 Zv s.2.2))]) (fun s=>s.1≤c.length∧(s.2.2=Zag OrdD.key (c.take s.1) d)) (fun s=>c.length - s.1) ((0),(.slice none 0 0),([])) O ⟨rfl,rfl,rfl,rfl,rfl,rfl,tv⟩ ⟨rfl,rfl,tv⟩ ⟨Yt _,rfl⟩ ?_
 clear O;intro s a w F hC O
 obtain ⟨i,v,out⟩:=s
 try dsimp only at hC
 obtain ⟨F,O⟩:=O.nM [12,11,10,5,4,1] [50,0]
 try dsimp only at O
 obtain ⟨hi,hq⟩:=hC
 have hol:out.length≤i:=by rw [hq];exact YW (Zb2 _ _) (by rw [Yk];omega)
 refine Ya (rZ O (qL r2) V [13,12,11,10,5,4,1] [50,0] fun O=>Ya ?_)
 refine Zc O Z (fun hc0=>?_) (fun hc0=>?_)
 ·have hil:i<c.length:=by simp at hc0;omega
  have hcd:(!(ZL OrdD.key d (OrdD.key (Nn c i))).isSome || !decide ((Nn c i)=(ZL OrdD.key d (OrdD.key (Nn c i))).getD Zhl))=decide ((ZL OrdD.key d (OrdD.key (Nn c i)))≠some (Nn c i)):=by cases hsk:(ZL OrdD.key d (OrdD.key (Nn c i))) with | none=>simp | some z=>rw [Y6];simp;exact YbF ⟨Eq.symm,Eq.symm⟩
  refine Yd (Za (Ya (Ye (Ya (Zb O (qy 2 YbQ r2 (qf (oR true 2 .t) r1 qz (qf (oH [.int .i64 0,.slice none 0 0] 101) trivial qz (qS 2 101 r2 r1 qZ)))) V [12,11,10,7,5,4,1] [101,50,0] (fun _=>rfl) (fun _=>rfl) fun τ a w F O=>?_)))))
  try dsimp only [RS.sub,SF.sub,CF.sub,csub,Anc.sub,List.map,Zd,xL,xM,Nat.reduceAdd,xD,xE,xT,xU,xC,xN,zCF,ldSF,Zl,rTx,Zv,ZY,Zs,rOp] at O
  generalize τ 7=v7 at O
  try simp only [Yg] at O
  refine Za (Ya (Zb O (qR rr (qg 0 101 r1 r1 (qa 101 r1 r1 (qf (oP (Zss d (OrdD.key (Nn c i))) func194 (Args.two .t .t)) r2 qz (qR rr (qf (o_extract .t Z) r1 qz (qf (o_extract .t Z) r1 qz (qf (oH [.int .i64 0,.slice none 0 0] 102) trivial qz (qf (oA 2 102 .same (.conv .t .agg)) r2 r1 (qO rr qZ)))))))))) V [12,11,10,9,8,7,5,4,1] [102,101,50,0] (fun _=>rfl) (fun _=>rfl) fun τ a w F O=>?_))
  try dsimp only [RS.sub,SF.sub,CF.sub,csub,Anc.sub,List.map,Zd,xL,xM,Nat.reduceAdd,xD,xE,xT,xU,xC,xN,zCF,ldSF,Zl,rTx,Zv,ZY,Zs,rOp] at O
  generalize τ 8=v8 at O
  refine Za (Ya (rZ O (qR rr (qf (Z1 .t) r1 qz (qR rr (qk Z (fun h=>oL true 2 101 .is) r2 r1 (qk Z (fun h=>oL true 2 102 .is) r2 r1 (qk Z (fun h=>oP (ZhJ (Nn c i) ((ZL OrdD.key d (OrdD.key (Nn c i))).getD Zhl)) func55 (Args.two (.pagg (.w h)) (.pagg (.w h)))) r3 qz (qk Z (fun h=>Z1 (.w h)) r2 qz (qf (ZaM .t .t) r2 qz qZ)))))))) V [30,12,11,10,7,5,4,1] [102,101,50,0] fun O=>?_))
  refine Zc O Z (fun hc1=>?_) (fun hc1=>?_)
  ·have h9:(!(ZL OrdD.key d (OrdD.key (Nn c i))).isSome || !decide ((Nn c i)=(ZL OrdD.key d (OrdD.key (Nn c i))).getD Zhl))=true:=hc1
   rw [hcd] at h9
   have hst9:out ++ [(Nn c i)] = Zag OrdD.key (c.take (i+1)) d:=by rw [hq];unfold Zag;rw [Zau hil,Yf h9]
   refine Zb O (qR rr (qe 2 101 r1 r1 (qf (Zn (sz:=2) (zs:=[.int .i64 0,.slice none 0 0]) (r:=[(0,.tmp 32)]) (l:=[_,_]) YbQ kr kr kr kr Z Z (.agg Z .t kr kr .nil) Z) r1 qz (qf (o_append (sz:=2) (bs:=32) 50 (.mk' YbQ kr kr) (by intro x;rfl) .is (.arr (l':=[(Nn c i)]) .t) (by simp only [Yc,Yl,Yq];omega) (by decide)) ⟨rfl,rfl,tv⟩ ⟨rfl,tv⟩ (qO rr qZ))))) V [12,11,10,5,4,1] [102,101,50,0] (fun _=>rfl) (fun _=>rfl) fun τ a w F O=>?_
   try dsimp only [RS.sub,SF.sub,CF.sub,csub,Anc.sub,List.map,Zd,xL,xM,Nat.reduceAdd,xD,xE,xT,xU,xC,xN,zCF,ldSF,Zl,rTx,Zv,ZY,Zs,rOp] at O
   generalize τ 34=v34 at O
   refine Zi (Za (rZ O (qp r1 (qR rr qZ)) V [12,11,10,5,4,1] [102,101,50,0] fun O=>?_))
   replace O:=O.ent (i:=12) (s':=.pv (.int .i64 ((i+1:Nat):Int))) Z (.int (Ze ow))
   obtain ⟨F,O⟩:=O.nM [11,10,4,1,5,12] [0,50]
   exact ⟨((i+1),_,_),F,⟨by omega,hst9⟩,O,by omega⟩
  have h9:(!(ZL OrdD.key d (OrdD.key (Nn c i))).isSome || !decide ((Nn c i)=(ZL OrdD.key d (OrdD.key (Nn c i))).getD Zhl))=false:=hc1
  rw [hcd] at h9
  have hst9:out=Zag OrdD.key (c.take (i+1)) d:=by rw [hq];unfold Zag;rw [Zau hil,Yb (by rw [h9];simp),YF]
  refine Yd (Zi (Za (rZ O (qp r1 (qR rr qZ)) V [12,11,10,5,4,1] [102,101,50,0] fun O=>?_)))
  replace O:=O.ent (i:=12) (s':=.pv (.int .i64 ((i+1:Nat):Int))) Z (.int (Ze ow))
  obtain ⟨F,O⟩:=O.nM [11,10,4,1,5,12] [0,50]
  exact ⟨((i+1),_,_),F,⟨by omega,hst9⟩,O,by omega⟩
 have hil:i=c.length:=by simp at hc0;omega
 have hg:out=Zag OrdD.key c d:=by rw [hq,hil,YE]
 refine Ym (Zg (Zg (Zo (Za (Ya (rZ O (qR rr (qO rr qZ)) V [4] [50,0] fun O=>Yh ?_))))))
 obtain ⟨F,O⟩:=O.give 50 4 Z rfl
 refine ZB hfr O Z Z Z (.sl (by rw [hg]))
theorem Ztz (g1 g2:Zx) (h1:Zbb g1) (h2:Zbb g2):FnP prog 66 [.agg (Zl g1),.agg (Zl g2)] (.tup [.agg (Zaa (ofD g1 g2).1),.int .i64 (ofD g1 g2).2]):=by
 refine FnP.mk func66 Z ntmps66 Z fun B a w F V hfr O=>Ya ?_
 refine Zb O (qx 101 r1 (qx 102 r1 (qf (oH [.slice none 0 0,.slice none 0 0,.slice none 0 0,.slice none 0 0] 103) trivial qz (qI qZ)))) V [5,4,3,2] [103,102,101,0] (fun _=>rfl) (fun _=>rfl) fun τ a w F O=>?_
 try dsimp only [RS.sub,SF.sub,CF.sub,csub,Anc.sub,List.map,zCF,Zl,rTx,Zv,ZY,Zs,rOp,Zaa] at O
 generalize τ 2=v2,τ 3=v3,τ 4=v4 at O
 refine Za (Ya (Ya (rZ O (qe 2 101 r1 r1 (qf (oP (Zbg g1 h1) func128 (Args.one (.pagg .t))) r1 qz (qf (Z1 .t) r1 qz (qR rr (qk Z (fun h=>oL true 2 102 .is) r2 r1 (qk Z (fun h=>oP (Zbg g2 h2) func128 (Args.one (.pagg (.w h)))) r2 qz (qk Z (fun h=>Z1 (.w h)) r2 qz (qf (ZaM .t .t) r2 qz qZ)))))))) V [13,5,4,3,2] [103,102,101,0] fun O=>?_)))
 refine Zc O Z (fun hc0=>?_) (fun hc0=>?_)
 ·have h9:(!decide (ZG g1) || !decide (ZG g2))=true:=hc0
  have hg:ofD g1 g2=(noD,5):=by unfold ofD;rw [Yb (by rintro ⟨e1,e2⟩;rw [YI e1,YI e2] at h9;cases h9)]
  refine Ya (rZ O (qf (oB [] [.slice none 0 0,.slice none 0 0,.slice none 0 0,.slice none 0 0] [(0,1),(1,1),(2,1),(3,1)] .nil) trivial qz (qs 4 103 r2 r1 (qI qZ))) V [5,4,3,2] [103,102,101,0] fun O=>(Yh (Zf ?_)))
  refine Z3 hfr O Z (.cl 103 true 4 Z Z (.tmp Z .nil)) (.two (by rw [hg];first | exact .aggU Z Z | exact .aggLe Z Zrz) (.int (by rw [hg])))
 have h9:(!decide (ZG g1) || !decide (ZG g2))=false:=hc0
 have hr:ZG g1∧ZG g2:=by simpa using h9
 have hg:ofD g1 g2=(Zuk g1 g2,0):=by unfold ofD;rw [Yf hr];rfl
 refine Yd (Za (Ya (Zu O (qg 0 101 r1 r1 (qa 101 r1 r1 (qg 0 102 r1 r1 (qa 102 r1 r1 (qf (oP (ZjS g1.txs g2.txs (by have:=h1.1.1;omega) h2.1) func129 (Args.two .t .t)) r2 qz (qg 0 102 r1 r1 (qa 102 r1 r1 (qg 0 101 r1 r1 (qa 101 r1 r1 (qf (oP (ZjS g2.txs g1.txs (by have:=h2.1.1;omega) h1.1) func129 (Args.two .t .t)) r2 qz (qg 1 101 r1 r1 (qa 101 r1 r1 (qg 1 102 r1 r1 (qa 102 r1 r1 (qf (oP (Zjw g1.orders g2.orders (by have:=h1.2.1;omega)) func130 (Args.two .t .t)) r2 qz (qg 1 102 r1 r1 (qa 102 r1 r1 (qg 1 101 r1 r1 (qa 101 r1 r1 (qf (oP (Zjw g2.orders g1.orders (by have:=h2.2.1;omega)) func130 (Args.two .t .t)) r2 qz (qf (oB [(0,.tmp 19),(1,.tmp 24),(2,.tmp 29),(3,.tmp 34)] [.slice none 0 0,.slice none 0 0,.slice none 0 0,.slice none 0 0] [(0,1),(1,1),(2,1),(3,1)] (.one Z .t Zas kr (.one Z .t Zas kr (.one Z .t Zas kr (.one Z .t Zas kr .nil))))) r4 qz (qs 4 103 r2 r1 (qI qZ))))))))))))))))))))))) V [5,4] [103,102,101,0] Z Z fun a w F O=>?_)))
 try dsimp only [List.map,Zd,xL,xM,Nat.reduceAdd,xD,xE,xT,xU,xC,xN,zCF,ldSF,Zl,rTx,Zv,ZY,Zs,rOp,Zaa] at O
 refine Za (Yh (Z3 hfr O Z (.cl 103 true 4 Z Z (.tmp Z .nil)) (.two (by rw [hg];first | exact .aggU Z Z | exact .aggLe Z Zrz) (.int (by rw [hg])))))
theorem ZhI {l:List TxD} {k x:Int} : x ∈ Zad l k ↔ ∃ t ∈ l,t.id=x∧t.done=true∧0<wcnt t.ops k:=by
 unfold Zad
 rw [YC]
 constructor
 ·rintro ⟨t,ht,e⟩
  rw [YT] at ht
  simp at ht
  exact ⟨t,ht.1,e,ht.2.1,ht.2.2⟩
 ·rintro ⟨t,ht,e,h1,h2⟩
  exact ⟨t,by rw [YT];simp [ht,h1,h2],e⟩
theorem ZeW {l:List TxD} (h:ZeA TxD.id l) (k:Int):(Zad l k).Nodup:=by
 unfold Zad
 have h1:(l.map TxD.id).Nodup:=(YaP.2 (ZT.1 h)).imp fun h=>Int.ne_of_lt h
 exact (h1.sublist ((List.filter_sublist).map _))
theorem ZiR {l:List TxD} (h:ZeA TxD.id l) {t:TxD} (ht:t ∈ l):Zbk l t.id=some t:=by
 have h:=ZT.1 h
 induction l with
 | nil=>cases ht
 | cons x l ih=>
  rw [Yx] at h
  unfold Zbk
  rw [List.find?_cons]
  rcases Yo.1 ht with rfl | ht
  ·simp
  ·have:=h.1 t ht
   rw [show decide (x.id=t.id)=false by simp;omega]
   exact ih (ZT.2 h.2) ht h.2
theorem ZqZ {l:List TxD} {id:Int} (h:∀ t ∈ l,t.id≠id):Zbk l id=none:=by
 unfold Zbk
 exact YaS.2 fun t ht=>by simpa using h t ht
theorem ZdT {g:Zx} : ZG g ↔ g.txs.length≤4096∧ZeA TxD.id g.txs∧(∀ t ∈ g.txs,Zaf t=0∧Za3 g t=true)∧ZeA OrdD.key g.orders∧NE g.orders ∧ ∀ k,(getO g.orders k).Perm (Zad g.txs k):=by
 constructor
 ·intro h
  obtain ⟨r1',r2'⟩:=ZaF h
  have hne:=Zd7 h
  have h2:=(Zdb g).2 h.2.2
  refine ⟨h.1,r1',fun t ht=>?_,r2',hne,fun k=>?_⟩
  ·obtain ⟨j,hj,e⟩:=YH ht
   have:=(h.2.1 j hj).2
   rwa [Zy hj,e] at this
  ·by_cases hk:getO g.orders k = []
   ·rw [hk]
    have hw:Zad g.txs k = []:=by
     refine Yae fun hw=>?_
     obtain ⟨j,hj,e⟩:=YH (ZdI.2 hw)
     have hjo:j<g.orders.length:=by rw [h.2.2.1];exact hj
     have h3:=(h.2.2.2 j hjo).1
     rw [Zy hj,e] at h3
     have h4:=Zd4 (ZT.1 r2') (ZU hjo)
     rw [h3,hk] at h4
     exact hne _ (ZU hjo) h4.symm
    rw [hw]
   ·have hm:=Zg2 hk
    obtain ⟨j,hj,e⟩:=YH hm
    have:=(h2.2 j hj).2.2
    rw [Zy hj,e] at this
    exact this
 ·rintro ⟨h1,h2,h3,h4,h5,h6⟩
  have hk:g.orders.map OrdD.key=ZaY g.txs:=by
   refine ZfO (YaP.2 (ZT.1 h4)) (Zbd _).1 fun k=>?_
   rw [ZdI,YC]
   constructor
   ·rintro ⟨o,ho,rfl⟩ e
    have:=h6 o.key
    rw [e,Zd4 (ZT.1 h4) ho] at this
    exact h5 o ho this.eq_nil
   ·intro e
    have:getO g.orders k≠[]:=fun e2=>by
     have:=h6 k
     rw [e2] at this
     exact e this.symm.eq_nil
    exact ⟨_,Zg2 this,rfl⟩
  have hlen:g.orders.length=(ZaY g.txs).length:=by rw [← hk,YP]
  refine ⟨h1,fun i hi=>?_,(Zdb g).1 ⟨hlen,fun i hi=>?_⟩⟩
  ·obtain ⟨g1,g2⟩:=h3 _ (ZU hi)
   exact ⟨fun h0=>h2 (i - 1) i ow hi,g1,g2⟩
  ·refine ⟨fun h0=>h4 (i - 1) i ow hi,h5 _ (ZU hi),?_⟩
   have:=h6 (Nn g.orders i).key
   rwa [Zd4 (ZT.1 h4) (ZU hi)] at this
theorem ZpP {t:TxD} {l:List Int} {k x:Int} : x ∈ Zea t l k ↔ (x ∈ l∧x≠t.id)∨(x=t.id∧t.done=true∧0<wcnt t.ops k):=by
 unfold Zea
 by_cases h:t.done=true∧0<wcnt t.ops k
 ·rw [Yf h]
  unfold Zhr
  split
  ·rename_i hi
   constructor
   ·intro hx
    by_cases e:x=t.id
    ·exact .inr ⟨e,h⟩
    ·exact .inl ⟨hx,e⟩
   ·rintro (⟨hx,_⟩ | ⟨rfl,_⟩)
    ·exact hx
    ·exact hi
  ·rename_i hi
   rw [YB,Yn]
   constructor
   ·rintro (hx | hx)
    ·exact .inl ⟨hx,fun e=>hi (e ▸ hx)⟩
    ·exact .inr ⟨hx,h⟩
   ·rintro (⟨hx,_⟩ | ⟨e,_⟩)
    ·exact .inl hx
    ·exact .inr e
 ·rw [Yb h]
  unfold Zbx
  rw [YT,Yj]
  exact ⟨fun h1=>.inl h1,fun h1=>h1.elim id fun h2=>absurd h2.2 h⟩
theorem Zk9 {t:TxD} {l:List Int} (h:l.Nodup) (k:Int):(Zea t l k).Nodup:=by
 unfold Zea
 split
 ·unfold Zhr
  split
  ·exact h
  ·rename_i hi
   rw [List.nodup_append]
   exact ⟨h,by simp,fun a ha b hb=>by rw [Yn] at hb;subst hb;exact fun e=>hi (e ▸ ha)⟩
 ·exact h.filter _
theorem Zfu {g:Zx} {t:TxD} {b:Bool} {l:List TxD} (hR:ZG g) (hs:ZbG g.orders) (hr:ZeA TxD.id l) (hl:l.length≤4096) (hM:∀ s,s ∈ l ↔ (s ∈ g.txs∧s.id≠t.id)∨(s=t∧b=true))
  (ht:b=true→Zaf t=0∧Za3 g t=true) (hb:b=false→t.done=false)
  (hu:∀ x ∈ l,∀ v ∈ ZaB x,v.tx=t.id→Zgc g v=true→¬ (v.tx=0∧v.nth=0)→b=true∧v.nth≤(wcnt t.ops v.key:Int)):ZG ⟨l,settleO t g.orders⟩:=by
 obtain ⟨h1,h2,h3,h4,h5,h6⟩:=ZdT.1 hR
 obtain ⟨s1,s2⟩:=Zgs (t:=t) h4 hs
 have hhas:∀ x ∈ l,∀ v ∈ ZaB x,Zgc g v=true→Zgc ⟨l,settleO t g.orders⟩ v=true:=by
  intro x hx v hv hg
  by_cases hz:v.tx=0∧v.nth=0
  ·unfold Zgc at hg ⊢
   rw [Yf hz] at hg ⊢
   exact hg
  ·have hu2:=hu x hx v hv
   unfold Zgc at hg hu2 ⊢
   rw [Yb hz] at hg hu2 ⊢
   by_cases e:v.tx=t.id
   ·obtain ⟨b1,b2⟩:=hu2 e hg hz
    have hm:t ∈ l:=(hM t).2 (.inr ⟨rfl,b1⟩)
    have hf:=ZiR hr hm
    simp only [Yv,Yj] at hg ⊢
    show _∧_
    rw [e,hf]
    exact ⟨rfl,hg.2.1,b2⟩
   ·have hf:Zbk l v.tx=Zbk g.txs v.tx:=by
     cases hc:Zbk g.txs v.tx with
     | none=>
      refine ZqZ fun s hsl es=>?_
      rcases (hM s).1 hsl with ⟨m1,m2⟩ | ⟨rfl,_⟩
      ·have:=ZiR h2 m1
       rw [es,hc] at this;cases this
      ·exact e es.symm
     | some s=>
      obtain ⟨m1,m2⟩:=findT_mem hc
      have hm:s ∈ l:=(hM s).2 (.inl ⟨m1,by rw [m2];exact e⟩)
      have:=ZiR hr hm
      rwa [m2] at this
    show (((Zbk l v.tx).isSome && _):Bool)=true
    rw [hf];exact hg
 refine ZdT.2 ⟨hl,hr,fun x hx=>?_,ZT.2 s1,s2,fun k=>?_⟩
 ·have hx2:Zaf x=0∧Za3 g x=true:=by
   rcases (hM x).1 hx with ⟨m1,_⟩ | ⟨rfl,b1⟩
   ·exact h3 x m1
   ·exact ht b1
  refine ⟨hx2.1,?_⟩
  have h7:=hx2.2
  unfold Za3 at h7 ⊢
  rw [Yau] at h7 ⊢
  exact fun v hv=>hhas x hx v hv (h7 v hv)
 ·rw [Zie h4 k]
  have hn:(getO g.orders k).Nodup:=(h6 k).symm.nodup (ZeW h2 k)
  refine (List.perm_ext_iff_of_nodup (Zk9 hn k) (ZeW hr k)).2 fun x=>?_
  rw [ZpP,ZhI,(h6 k).mem_iff,ZhI]
  constructor
  ·rintro (⟨⟨s,m1,m2,m3,m4⟩,m5⟩ | ⟨rfl,m3,m4⟩)
   ·exact ⟨s,(hM s).2 (.inl ⟨m1,by rw [m2];exact m5⟩),m2,m3,m4⟩
   ·refine ⟨t,(hM t).2 (.inr ⟨rfl,?_⟩),rfl,m3,m4⟩
    cases b with
    | true=>rfl
    | false=>rw [hb rfl] at m3;cases m3
  ·rintro ⟨s,m1,m2,m3,m4⟩
   rcases (hM s).1 m1 with ⟨m5,m6⟩ | ⟨rfl,_⟩
   ·exact .inl ⟨⟨s,m5,m2,m3,m4⟩,by rw [← m2];exact m6⟩
   ·exact .inr ⟨m2.symm,m3,m4⟩
theorem Zq3 {l:List TxD} {t:TxD} (h:ZeA TxD.id l) (hk:isK TxD.id t.id l=false):ZeA TxD.id (l.take (lowK TxD.id t.id l) ++ [t] ++ l.drop (lowK TxD.id t.id l)) ∧ ∀ s,s ∈ l.take (lowK TxD.id t.id l) ++ [t] ++ l.drop (lowK TxD.id t.id l) ↔ (s ∈ l∧s.id≠t.id)∨(s=t∧true=true):=by
 rw [← Zhi (ZT.1 h) hk]
 refine ⟨ZT.2 (Zd8 (ZT.1 h)),fun s=>?_⟩
 rw [Zhi (ZT.1 h) hk,YB,YB,Yn]
 have hne:∀ s ∈ l,s.id≠t.id:=fun s hs e=>by
  have:=Ya5.1 hk s hs
  simp at this;exact this e
 constructor
 ·rintro ((h1 | h1) | h1)
  ·exact .inl ⟨Yat h1,hne s (Yat h1)⟩
  ·exact .inr ⟨h1,rfl⟩
  ·exact .inl ⟨YaU h1,hne s (YaU h1)⟩
 ·rintro (⟨h1,_⟩ | ⟨h1,_⟩)
  ·rw [← YX (lowK TxD.id t.id l) l,YB] at h1
   rcases h1 with h1 | h1
   ·exact .inl (.inl h1)
   ·exact .inr h1
  ·exact .inl (.inr h1)
theorem Zqm {l:List TxD} {t:TxD} (h:ZeA TxD.id l) (hk:isK TxD.id t.id l=true):ZeA TxD.id (l.set (lowK TxD.id t.id l) t) ∧ ∀ s,s ∈ l.set (lowK TxD.id t.id l) t ↔ (s ∈ l∧s.id≠t.id)∨(s=t∧true=true):=by
 rw [← Zhp (ZT.1 h) hk]
 refine ⟨ZT.2 (Zd8 (ZT.1 h)),fun s=>?_⟩
 constructor
 ·intro hs
  rcases ZeM hs with ⟨rfl,_⟩ | h1
  ·exact .inr ⟨rfl,rfl⟩
  ·exact .inl h1
 ·have key:∀ (l:List TxD) (d:Bool),((s ∈ l∧s.id≠t.id)∨(s=t∧d=false))→s ∈ putGR TxD.id t l d:=by
   intro l
   induction l with
   | nil=>
    rintro d (⟨h1,_⟩ | ⟨rfl,h1⟩)
    ·cases h1
    ·subst h1;simp [putGR]
   | cons x l ih=>
    intro d hx
    rw [putGR,YB,YB]
    rcases hx with ⟨h1,h2⟩ | ⟨rfl,h1⟩
    ·rcases Yo.1 h1 with rfl | h1
     ·exact .inl (.inr (by rw [Yb h2];simp))
     ·exact .inr (ih _ (.inl ⟨h1,h2⟩))
    ·by_cases hA:s.id≤x.id
     ·exact .inl (.inl (by rw [Yf ⟨h1,hA⟩];simp))
     ·exact .inr (ih _ (.inr ⟨rfl,by rw [h1];simp;omega⟩))
  rintro (h1 | ⟨h1,_⟩)
  ·exact key l false (.inl h1)
  ·exact key l false (.inr ⟨h1,rfl⟩)
theorem Zqp {t:TxD} {v:ZcF} (h:v ∈ ZaB t):v.tx≠t.id:=by
 have key:∀ (l:List OpD) (out:List ZcF),(∀ v ∈ out,v.tx≠t.id) → ∀ v ∈ l.foldl (Za8 t.id) out,v.tx≠t.id:=by
  intro l
  induction l with
  | nil=>intro out h;exact h
  | cons o l ih=>
   intro out h
   refine ih _ fun v hv=>?_
   unfold Za8 at hv
   split at hv
   ·rename_i hc
    rcases YB.1 hv with hv | hv
    ·exact h v hv
    ·have e:v=ofO o:=by simpa using hv
     have hn:=hc.1
     unfold ZhQ at hn
     simp at hn
     rw [e]
     unfold ofO
     rw [Yf hn.1.1]
     exact hn.2
   ·exact h v hv
 exact key _ _ (fun v hv=>by cases hv) v h
theorem Zmm {g:Zx} {v:ZcF} (h:Zgc g v=true) (hz:¬ (v.tx=0∧v.nth=0)):isK TxD.id v.tx g.txs=true∧1≤v.nth:=by
 unfold Zgc at h
 rw [Yb hz,Yv,Yv,Zeu] at h
 exact ⟨h.1,by simpa using h.2.1⟩
theorem ZrO {g:Zx} {t x:TxD} {v:ZcF} (h:Zg6 g t=false) (hx:x ∈ g.txs) (hn:x.id≠t.id) (hv:v ∈ ZaB x) (e:v.tx=t.id):v.nth≤(wcnt t.ops v.key:Int):=by
 have h1:=Ya5.1 h x hx
 unfold ZkA at h1
 rw [YI hn,Ybu] at h1
 have h2:=Ya5.1 (by simpa using h1) v hv
 unfold Zm7 at h2
 simp [e] at h2
 omega
theorem Zjx {g:Zx} {t:TxD} (hs:Zbb g) (h:(Zbz g t).2=0):ZG (Zbz g t).1:=by
 unfold Zbz at h ⊢
 split at h
 ·rename_i h1;exact absurd h h1
 ·rename_i h1
  split at h
  ·simp at h
  ·rename_i h2
   obtain ⟨hr,hrt,hik,hnd,_⟩:=ZrC (by decide) (YQ.1 h1)
   rw [Yb h1,Yb h2]
   obtain ⟨m1,m2⟩:=Zq3 (ZaF hr).1 hik
   refine Zfu (b:=true) hr hs.2 m1 ?_ m2 (fun _=>⟨hrt,hnd⟩) (fun h=>by cases h) fun x _ v _ e hv hz=>?_
   ·have:=hr.1
    rw [Yc,Yc,Yk,YK];simp;omega
   ·have:=(Zmm hv hz).1
    rw [e,hik] at this;cases this
theorem ZkZ {g:Zx} {t:TxD} (hs:Zbb g) (h:(ZcA g t).2=0):ZG (ZcA g t).1:=by
 unfold ZcA at h ⊢
 split at h
 ·rename_i h1;exact absurd h h1
 ·rename_i h1
  split at h
  ·simp at h
  ·rename_i h2
   obtain ⟨hr,hrt,hik,hnd,_⟩:=ZrC (by decide) (YQ.1 h1)
   rw [Yb h1,Yb h2]
   obtain ⟨m1,m2⟩:=Zqm (ZaF hr).1 hik
   refine Zfu (b:=true) hr hs.2 m1 (by rw [YN];exact hr.1) m2 (fun _=>⟨hrt,hnd⟩) (fun h=>by cases h) fun x hx v hv e _ _=>⟨rfl,?_⟩
   rcases (m2 x).1 hx with ⟨h3,h4⟩ | ⟨rfl,_⟩
   ·exact ZrO (by simpa using h2) h3 h4 hv e
   ·exact absurd e (Zqp hv)
theorem Zj7 {g:Zx} {id:Int} (hs:Zbb g) (h:(Zbl g id).2=0):ZG (Zbl g id).1:=by
 unfold Zbl at h ⊢
 split at h
 ·simp at h
 ·rename_i h1
  split at h
  ·simp at h
  ·rename_i h2
   split at h
   ·simp at h
   ·rename_i h3
    have hr:=YQ.1 h1
    have hik:isK TxD.id id g.txs=true:=by simpa using h2
    have hri:=(ZaF hr).1
    rw [Yb h1,Yb h2,Yb h3,← ZhU (ZT.1 hri) hik]
    refine Zfu (b:=false) hr hs.2 (ZT.2 ((ZT.1 hri).filter _)) (YW (YR _ _) hr.1) (fun s=>?_) (fun h=>by cases h) (fun _=>rfl) fun x hx v hv e hg hz=>?_
    ·rw [YT];simp [Zey]
    ·rw [YT] at hx
     have h5:=ZrO (t:=Zey id) (by simpa using h3) hx.1 (by simpa [Zey] using hx.2) hv e
     have h6:=(Zmm hg hz).2
     have h7:wcnt (Zey id).ops v.key=0:=rfl
     rw [h7] at h5
     omega
theorem ZfW {g:Zx} {key:Int} {rule:List Int→List Int×Int} (hp:∀ l,(rule l).2=0→(rule l).1.Perm l) (h:(ZbJ g key rule).2=0):ZG (ZbJ g key rule).1:=by
 by_cases hr:ZG g
 ·by_cases hg:getO g.orders key = []
  ·rw [Zpp hr hg] at h;simp at h
  ·by_cases h3:(rule (getO g.orders key)).2=0
   ·have hpp:=hp _ h3
    have hne:(rule (getO g.orders key)).1≠[]:=fun e=>hg (by rw [e] at hpp;exact hpp.symm.eq_nil)
    rw [ZoV hr hg h3 hne,Yu hne]
    obtain ⟨h1,h2,h4,h5,h6,h7⟩:=ZdT.1 hr
    refine ZdT.2 ⟨h1,h2,fun t ht=>?_,ZT.2 (Zd8 (ZT.1 h5)),fun o ho=>?_,fun k=>?_⟩
    ·obtain ⟨g1,g2⟩:=h4 t ht
     exact ⟨g1,g2⟩
    ·rcases ZeM ho with ⟨rfl,_⟩ | ⟨g1,_⟩
     ·exact hne
     ·exact h6 o g1
    ·show (getO (putGR OrdD.key _ g.orders false) k).Perm _
     rw [Zl0 (ZT.1 h5)]
     by_cases e:k=key
     ·subst e
      rw [Yf rfl]
      exact hpp.trans (h7 k)
     ·rw [Yb e];exact h7 k
   ·rw [Zpq hr hg h3] at h;exact absurd h h3
 ·rw [Zp4 hr] at h;simp at h
theorem ZpR {o:OrdD} (l:List Int) (h:(Zi4 o l).2=0):(Zi4 o l).1.Perm l:=by
 unfold Zi4 at h ⊢
 split at h
 ·rename_i hp;rw [Yf hp];exact hp.symm
 ·simp at h
theorem Zqn {g:Zx} {e:EdD} (hs:Zbb g) (h:(doH g e).2=0):ZG (doH g e).1:=by
 unfold doH at h ⊢
 by_cases k0:e.kind=0
 ·rw [Yf k0] at h ⊢;exact Zjx hs h
 ·rw [Yb k0] at h ⊢
  by_cases k1:e.kind=1
  ·rw [Yf k1] at h ⊢;exact Zj7 hs h
  ·rw [Yb k1] at h ⊢
   by_cases k2:e.kind=2
   ·rw [Yf k2] at h ⊢;exact ZkZ hs h
   ·rw [Yb k2] at h ⊢
    by_cases k3:e.kind=3
    ·rw [Yf k3] at h ⊢;exact ZfW ZpR h
    ·rw [Yb k3] at h ⊢
     by_cases k4:e.kind=4
     ·rw [Yf k4] at h ⊢;exact ZfW (rule:=fun l=>Zcp l e.t.id e.place) (fun l h=>ZkL h) h
     ·rw [Yb k4] at h;simp at h
structure Zg8 where
 kind:Int
 e:EdD
 d:ZK
 n:Int
 deriving Inhabited
def Zel (x:Zg8):List PV:=[.int .i64 x.kind,.int .i64 x.e.kind,.int .i64 x.e.t.id,.bool x.e.t.done,.sl rOp x.e.t.ops,.int .i64 x.e.o.key,.sl Zs x.e.o.txs,.int .i64 x.e.place,.sl rTx x.d.was,.sl rTx x.d.now,.sl Zv x.d.old,.sl Zv x.d.new,.int .i64 x.n]
def Zef (g:Zx) (x:Zg8):ZK:=if x.kind=3 then x.d else if (doH g x.e).2≠0 then noD else (ofD g (doH g x.e).1).1
def ZhC (x:Zg8):Prop:=ZeG x.e∧Zfj x.d
instance (x:Zg8):Decidable (ZhC x):=by unfold ZhC;exact inferInstance
def Zgx (l:List Zg8):Prop:=l.length≤24 ∧ ∀ x ∈ l,ZhC x
instance (l:List Zg8):Decidable (Zgx l):=by unfold Zgx;exact inferInstance
def Zdo (n:Nat) (g:Zx):Prop:=(g.txs.length≤12*n ∧ ∀ t ∈ g.txs,t.ops.length≤24)∧g.orders.length≤24*n ∧ ∀ o ∈ g.orders,o.txs.length≤24+n
theorem Zdo.small {n:Nat} {g:Zx} (h:Zdo n g) (hn:n≤25):Zbb g:=by
 obtain ⟨⟨h1,h2⟩,h3,h4⟩:=h
 exact ⟨⟨by omega,fun t ht=>by have:=h2 t ht;omega⟩,by omega,fun o ho=>by have:=h4 o ho;omega⟩
theorem Zdo.up {n:Nat} {g:Zx} (h:Zdo n g):Zdo (n+1) g:=⟨⟨by have:=h.1.1;omega,h.1.2⟩,by have:=h.2.1;omega,fun o ho=>by have:=h.2.2 o ho;omega⟩
theorem Zdo.none {n:Nat} : Zdo n Zbi:=⟨⟨by simp [Zbi],fun t ht=>by cases ht⟩,by simp [Zbi],fun o ho=>by cases ho⟩
theorem Zll {a c:Nat} {t:TxD} {os:List OrdD} (ht:t.ops.length≤24) (h1:os.length≤a) (h2:∀ o ∈ os,o.txs.length≤c):(settleO t os).length≤a+24 ∧ ∀ o ∈ settleO t os,o.txs.length≤c+1:=by
 have hk:=ZdD t
 have hl:(Zeq t os (Zah t)).length≤os.length+(Zah t).length:=by
  unfold Zeq
  split
  ·have key:∀ (ks:List Int) (os:List OrdD),(ks.foldl Zjf os).length≤os.length+ks.length:=by
    intro ks
    induction ks with
    | nil=>intro os;simp
    | cons k ks ih=>intro os;have h1:=ih (Zjf os k);have h2:=ZlX os k;rw [Yaw,Yl];omega
   exact key _ _
  ·omega
 unfold settleO
 refine ⟨YW (YR _ _) (by rw [YP];omega),fun o ho=>?_⟩
 obtain ⟨o',ho',e⟩:=YC.1 (YT.1 ho).1
 have hlen:o'.txs.length≤c:=by
  rcases ZoX ho' with h | h
  ·exact h2 o' h
  ·rw [h];simp
 rw [← e]
 unfold Zrx
 show (if _ then _ else _:List Int).length≤_
 split
 ·unfold Zhr;split
  ·omega
  ·simp;omega
 ·unfold Zbx
  exact YW (YR _ _) ow
theorem Zgv {n:Nat} {g:Zx} {key:Int} {rule:List Int→List Int×Int} (hr:∀ l,(rule l).2=0→(rule l).1.length≤l.length) (h:Zdo n g):Zdo n (ZbJ g key rule).1:=by
 unfold ZbJ
 split
 ·exact Zdo.none
 ·split
  ·exact Zdo.none
  ·split
   ·exact Zdo.none
   ·rename_i h1 h2 h3
    refine ⟨h.1,by show (List.set _ _ _).length≤_;rw [YN];exact h.2.1,fun o ho=>?_⟩
    rcases List.mem_or_eq_of_mem_set ho with h4 | h4
    ·exact h.2.2 o h4
    ·have hk:isK OrdD.key key g.orders=true:=by simpa using h2
     have hlt:=(Zjn (ZaF (YQ.1 h1)).2 hk).1
     have:=hr _ (YQ.1 h3)
     have:=h.2.2 _ (ZU hlt)
     rw [h4];show (rule _).1.length≤24+n;omega
theorem Zdo.doH {n:Nat} {g:Zx} {e:EdD} (h:Zdo n g) (he:ZeG e):Zdo (n+1) (Go.Proofs.YtfecljadegkmdaaGreat.doH g e).1:=by
 have hset:∀ t:TxD,t.ops.length≤24 → ∀ txs:List TxD,txs.length≤12*(n+1)→(∀ t ∈ txs,t.ops.length≤24)→Zdo (n+1) ⟨txs,settleO t g.orders⟩:=fun t ht txs h1 h2=>by
  obtain ⟨h3,h4⟩:=Zll ht h.2.1 h.2.2
  exact ⟨⟨h1,h2⟩,by show (settleO t g.orders).length≤_;omega,fun o ho=>by have:=h4 o ho;omega⟩
 unfold Go.Proofs.YtfecljadegkmdaaGreat.doH
 split
 ·unfold Zbz
  split
  ·exact Zdo.none
  ·split
   ·exact Zdo.none
   ·refine hset _ he.1 _ ?_ fun t ht=>?_
    ·have:=h.1.1;rw [Yc,Yc,Yk,YK];simp;omega
    ·rw [YB,YB] at ht
     rcases ht with (ht | ht) | ht
     ·exact h.1.2 t (Yat ht)
     ·rw [Yn.1 ht];exact he.1
     ·exact h.1.2 t (YaU ht)
 ·split
  ·unfold Zbl
   split
   ·exact Zdo.none
   ·split
    ·exact Zdo.none
    ·split
     ·exact Zdo.none
     ·refine hset _ (by simp [Zey]) _ ?_ fun t ht=>?_
      ·have:=h.1.1;rw [Yc,Yk,YK];omega
      ·rw [YB] at ht
       rcases ht with ht | ht
       ·exact h.1.2 t (Yat ht)
       ·exact h.1.2 t (YaU ht)
  ·split
   ·unfold ZcA
    split
    ·exact Zdo.none
    ·split
     ·exact Zdo.none
     ·refine hset _ he.1 _ ?_ fun t ht=>?_
      ·have:=h.1.1;rw [YN];omega
      ·rcases List.mem_or_eq_of_mem_set ht with ht | ht
       ·exact h.1.2 t ht
       ·rw [ht];exact he.1
   ·split
    ·refine (Zgv (fun l h0=>?_) h).up
     unfold Zi4 at h0 ⊢
     split at h0
     ·rename_i hp;rw [Yf hp,hp.length_eq];exact YA _
     ·simp at h0
    ·split
     ·exact (Zgv (fun l h0=>by show (Zcp l _ _).1.length≤_;exact ZoI _ _ _) h).up
     ·exact Zdo.none
theorem Zhz {g:Zx} (h:ZbH g):(∀ t ∈ g.txs,t.ops.length≤24) ∧ ∀ o ∈ g.orders,o.txs.length≤24:=by
 refine ⟨fun t ht=>?_,fun o ho=>?_⟩
 ·obtain ⟨j,hj,rfl⟩:=YH ht
  have:=h.2.2.1 j hj
  rwa [Zy hj] at this
 ·obtain ⟨j,hj,rfl⟩:=YH ho
  have:=h.2.2.2 j hj
  rwa [Zy hj] at this
theorem Zdo.turn {n:Nat} {g:Zx} {d:ZK} (h:Zdo n g) (hd:Zfj d):Zdo (n+1) (Zcy g d):=by
 have h1:=Zhz hd.2
 have h2:d.now.length≤12:=hd.2.1
 have h3:d.new.length≤24:=hd.2.2.1
 have h4:=Zgp (κ:=TxD.id) (l:=g.txs) (was:=d.was) (now:=d.now)
 have h5:=Zgp (κ:=OrdD.key) (l:=g.orders) (was:=d.old) (now:=d.new)
 refine ⟨⟨by have:=h.1.1;show (Zev _ _ _ _).length≤_;omega,fun t ht=>?_⟩,by have:=h.2.1;show (Zev _ _ _ _).length≤_;omega,fun o ho=>?_⟩
 ·rcases Zd5.1 ht with ⟨h6,_⟩ | h6
  ·exact h.1.2 t h6
  ·exact h1.1 t h6
 ·rcases Zd5.1 ho with ⟨h6,_⟩ | h6
  ·have:=h.2.2 o h6;omega
  ·have:=h1.2 o h6;omega
theorem Zfj.smallD {d:ZK} (h:Zfj d):Zhg d:=by
 have key:∀ {g:Zx},ZbH g→Zbb g:=fun {g} hg=>by
  have h1:=Zhz hg
  exact ⟨⟨by have:=hg.1;omega,fun t ht=>by have:=h1.1 t ht;omega⟩,by have:=hg.2.1;omega,fun o ho=>by have:=h1.2 o ho;omega⟩
 exact ⟨key h.1,key h.2⟩
structure Zhd (g:Zx) (n:Nat) (m:ZK):Prop where
 sm:Zcu g m
 fit:(ZN g m).2=0→Zdo (n+1) (ZN g m).1∧ZG (ZN g m).1
 now:m.now.length≤400
 new:m.new.length≤700
 ops:∀ t ∈ m.now,t.ops.length≤24
 len:∀ o ∈ m.new,o.txs.length≤60
theorem ZgY {n:Nat} {g:Zx} {m:ZK} (h:Zdo n g) (hn:n≤24) (hm:Zfj m):Zhd g n m:=by
 have h1:=Zhz hm.2
 have h2:m.now.length≤12:=hm.2.1
 have h3:m.new.length≤24:=hm.2.2.1
 exact ⟨⟨h.small ow,hm.smallD,(h.turn hm).small ow⟩,fun h0=>by
  obtain ⟨_,_,h4,h5⟩:=ZbQ h0
  rw [h5];exact ⟨h.turn hm,h4⟩,by omega,by omega,h1.1,fun o ho=>by have:=h1.2 o ho;omega⟩
theorem ZqT {n:Nat} {g:Zx} {x:Zg8} (h:Zdo n g) (hr:ZG g) (hn:n≤24) (hx:ZhC x):Zhd g n (Zef g x):=by
 unfold Zef
 split
 ·exact ZgY h hn hx.2
 ·split
  ·exact ZgY h hn (by decide)
  ·rename_i h0
   have h0:(doH g x.e).2=0:=YQ.1 h0
   have hf:=h.doH hx.1
   have hr2:=Zqn (h.small ow) h0
   have ha:=ZiV hr hr2
   have hz:(ZN g (ofD g (doH g x.e).1).1).2=0:=by rw [ha]
   have ht:Zcy g (ofD g (doH g x.e).1).1=(doH g x.e).1:=by rw [← (ZbQ hz).2.2.2,ha]
   have hs1:=h.small ow
   have hs2:=hf.small ow
   have e:(ofD g (doH g x.e).1).1 = ⟨Zag TxD.id g.txs (doH g x.e).1.txs,Zag TxD.id (doH g x.e).1.txs g.txs,Zag OrdD.key g.orders (doH g x.e).1.orders,Zag OrdD.key (doH g x.e).1.orders g.orders⟩:=by
    unfold ofD;rw [Yf ⟨hr,hr2⟩]
   refine ⟨⟨hs1,by rw [e];exact ⟨⟨hs1.1.less,hs1.2.less⟩,hs2.1.less,hs2.2.less⟩,by rw [ht];exact hs2⟩,fun _=>by rw [ha];exact ⟨hf,hr2⟩,?_,?_,?_,?_⟩
   ·rw [e];have h1:=Zb2 (κ:=TxD.id) (doH g x.e).1.txs g.txs;have h2:=hf.1.1;show (Zag _ _ _).length≤_;omega
   ·rw [e];have h1:=Zb2 (κ:=OrdD.key) (doH g x.e).1.orders g.orders;have h2:=hf.2.1;show (Zag _ _ _).length≤_;omega
   ·rw [e];exact fun t ht=>hf.1.2 t (Zds ht)
   ·rw [e];exact fun o ho=>by have:=hf.2.2 o (Zds ho);omega
structure ZdR (A:StA) (i:Nat):Prop where
 ok:ZaJ A
 right:ZG (hiA A)
 fit:Zdo i (hiA A)
 snaps:∀ x ∈ A.snaps,Zdo i (Za4 A.all A.seqs x.2)∧ZG (Za4 A.all A.seqs x.2)
 all:A.all.length≤400*i
 seqs:A.seqs.length≤700*i
 next:A.next≤i
 snl:A.snaps.length≤i
 ops:∀ t ∈ A.all,t.ops.length≤24
 len:∀ l ∈ A.seqs,l.length≤60
theorem ZdR.start:ZdR Zf5 0:=⟨ZaJ.zero,Zjl,Zdo.none,fun x hx=>(by cases hx),YA _,YA _,Yar _,YA _,fun t ht=>(by cases ht),fun l hl=>(by cases hl)⟩
theorem ZdR.up {A:StA} {i:Nat} (h:ZdR A i):ZdR A (i+1):=⟨h.ok,h.right,h.fit.up,fun x hx=>⟨(h.snaps x hx).1.up,(h.snaps x hx).2⟩,by have:=h.all;omega,by have:=h.seqs;omega,by have:=h.next;omega,by have:=h.snl;omega,h.ops,h.len⟩
theorem ZdR.fitS {A:StA} {i:Nat} (h:ZdR A i) (hi:i≤25):Zb1 A:=⟨by have:=h.next;omega,by have:=h.snl;omega,by have:=h.all;omega,by have:=h.seqs;omega,fun l hl=>by have:=h.len l hl;omega,fun t ht=>by have:=h.ops t ht;omega⟩
theorem ZdR.doFit {A:StA} {i:Nat} {m:ZK} (h:ZdR A i) (hi:i≤24) (hm:Zhd (hiA A) i m):ZkY A m:=⟨h.fitS ow,by have:=h.all;have:=hm.now;omega,by have:=h.seqs;have:=hm.new;omega,fun t ht=>by have:=hm.ops t ht;omega,fun o ho=>by have:=hm.len o ho;omega⟩
theorem ZdR.doS {A:StA} {i:Nat} {m:ZK} (h:ZdR A i) (hi:i≤24) (hm:Zhd (hiA A) i m):ZdR (doA A m).1 (i+1):=by
 have hok:=h.ok.done m
 unfold doA at hok ⊢
 by_cases h1:(ZN (hiA A) m).2≠0
 ·rw [Yf h1];exact h.up
 ·rw [Yb h1] at hok ⊢
  by_cases h2:Za2 A - A.now.size+(sizeH (ZN (hiA A) m).1:Nat) > 10000
  ·rw [Yf h2];exact h.up
  ·rw [Yb h2] at hok ⊢
   have h0:=YQ.1 h1
   have hh:=ZmC h.ok h0 ((sizeH (ZN (hiA A) m).1:Nat):Int)
   have hf:=hm.fit h0
   refine ⟨hok,by show ZG (Za4 _ _ _);rw [hh];exact hf.2,by show Zdo _ (Za4 _ _ _);rw [hh];exact hf.1,fun x hx=>?_,?_,?_,by have:=h.next;show A.next≤_;omega,by have:=h.snl;show A.snaps.length≤_;omega,fun t ht=>?_,fun l hl=>?_⟩
   ·have hx:x ∈ A.snaps:=hx
    show Zdo _ (Za4 (A.all++m.now) (A.seqs++_) x.2)∧ZG (Za4 (A.all++m.now) (A.seqs++_) x.2)
    rw [ZdY (h.ok.oks x hx).1]
    exact ⟨(h.snaps x hx).1.up,(h.snaps x hx).2⟩
   ·show (A.all++m.now).length≤_
    rw [Yc];have:=h.all;have:=hm.now;omega
   ·show (A.seqs++m.new.map OrdD.txs).length≤_
    rw [Yc,YP];have:=h.seqs;have:=hm.new;omega
   ·rcases YB.1 ht with ht | ht
    ·exact h.ops t ht
    ·exact hm.ops t ht
   ·rcases YB.1 hl with hl | hl
    ·exact h.len l hl
    ·obtain ⟨o,ho,rfl⟩:=YC.1 hl
     exact hm.len o ho
theorem ZdR.keepS {A:StA} {i:Nat} (h:ZdR A i):ZdR (ZbF A).1 (i+1):=by
 have hok:=h.ok.keep
 unfold ZbF at hok ⊢
 split
 ·exact h.up
 ·rename_i h1
  rw [Yb h1] at hok
  refine ⟨hok,h.right,h.fit.up,fun x hx=>?_,by have:=h.all;show A.all.length≤_;omega,by have:=h.seqs;show A.seqs.length≤_;omega,by have:=h.next;show A.next+1≤_;omega,by show (A.snaps ++ [_]).length≤_;rw [Yc];have:=h.snl;simp;omega,h.ops,h.len⟩
  rcases YB.1 hx with hx | hx
  ·exact ⟨(h.snaps x hx).1.up,(h.snaps x hx).2⟩
  ·rw [Yn.1 hx];exact ⟨h.fit.up,h.right⟩
theorem Zsy (g:Zx) (x:Zg8) (hs:Zbb g) (he:ZeG x.e) (hs2:Zbb (doH g x.e).1):FnP prog 24 [.agg (Zl g),.agg (Zel x)] (.agg (Zaa (Zef g x))):=by
 refine FnP.mk func24 Z ntmps24 Z fun B a w F V hfr O=>Ya ?_
 refine Zb O (qx 101 r1 (qx 102 r1 (qf (oH [.slice none 0 0,.slice none 0 0,.slice none 0 0,.slice none 0 0] 103) trivial qz qZ))) V [4,3,2] [103,102,101,0] (fun _=>rfl) (fun _=>rfl) fun τ a w F O=>?_
 try dsimp only [RS.sub,SF.sub,CF.sub,csub,Anc.sub,List.map,zCF,rRt,rSq,ZC,rTx,Zv,Zl,Zs,rOp,ZoY,ZcH,Zaa,Zel,rEd] at O
 generalize τ 2=v2,τ 3=v3,τ 4=v4 at O
 refine Za (Ya (Ya (rZ O (qg 0 102 r1 r1 (qa 102 r1 r1 (qf (o_eql .t qi) r1 qz qZ))) V [11,4,3,2] [103,102,101,0] fun O=>?_)))
 refine Zc O Z (fun hc0=>?_) (fun hc0=>?_)
 ·have hg:Zef g x=x.d:=Yf (by simpa using hc0)
  refine Ya (rZ O (qg 8 102 r1 r1 (qf (oL true 4 102 .adr) r1 r1 (qs 4 103 r2 r1 qZ))) V [4,3,2] [103,102,101,0] fun O=>(Yh (Zf ?_)))
  refine Z3 hfr O Z (.cl 103 true 4 Z Z .nil) (.one (by rw [hg];first | exact .aggU Z Z | exact .aggLe Z ⟨.nilSl,.nilSl,.nilSl,.nilSl,tv⟩))
 have h3:¬ x.kind=3:=by simpa using hc0
 refine Yd (Za (Ya (Zb O (qe 2 101 r1 r1 (qg 1 102 r1 r1 (qf (oL true 7 102 .adr) r1 r1 (qf (oP (Zsh g x.e hs he) func30 (Args.two (.pagg .t) (.pagg .t))) r2 qz (qR rr (qf (o_extract .t Z) r1 qz (qf (o_extract .t Z) r1 qz (qf (oH [.slice none 0 0,.slice none 0 0] 104) trivial qz (qf (oA 2 104 .same (.conv .t .agg)) r2 r1 (qO rr qZ)))))))))) V [6,5,4,2] [104,103,102,101,0] (fun _=>rfl) (fun _=>rfl) fun τ a w F O=>?_)))
 try dsimp only [RS.sub,SF.sub,CF.sub,csub,Anc.sub,List.map,Zd,xL,xM,Nat.reduceAdd,xD,xE,xT,xU,xC,xN,zCF,ldSF,rRt,rSq,ZC,rTx,Zv,Zl,Zs,rOp,ZoY,ZcH,Zaa,Zel,rEd] at O
 generalize τ 5=v5 at O
 refine Za (Ya (Ya (rZ O (qR rr (qf (o_neq .t qi) r1 qz qZ)) V [22,5,4,2] [104,103,102,101,0] fun O=>?_)))
 refine Zc O Z (fun hc1=>?_) (fun hc1=>?_)
 ·have hg:Zef g x=noD:=by unfold Zef;rw [Yb h3,Yf (by simpa using hc1)]
  refine Ya (rZ O (qf (oB [] [.slice none 0 0,.slice none 0 0,.slice none 0 0,.slice none 0 0] [(0,1),(1,1),(2,1),(3,1)] .nil) trivial qz (qs 4 103 r2 r1 qZ)) V [5,4,2] [104,103,102,101,0] fun O=>(Yh (Zf ?_)))
  refine Z3 hfr O Z (.cl 103 true 4 Z Z .nil) (.one (by rw [hg];first | exact .aggU Z Z | exact .aggLe Z ⟨.nilSl,.nilSl,.nilSl,.nilSl,tv⟩))
 have hg:Zef g x=(ofD g (doH g x.e).1).1:=by unfold Zef;rw [Yb h3,Yb (by simpa using hc1)]
 refine Yd (Za (Ya (Zb O (qe 2 101 r1 r1 (qe 2 104 r1 r1 (qf (oP (Ztz g (doH g x.e).1 hs hs2) func66 (Args.two (.pagg .t) (.pagg .t))) r2 qz (qR rr (qf (o_extract .t Z) r1 qz (qf (o_extract .t Z) r1 qz (qf (oH [.slice none 0 0,.slice none 0 0,.slice none 0 0,.slice none 0 0] 105) trivial qz (qf (oA 4 105 .same (.conv .t .agg)) r2 r1 (qO rr qZ))))))))) V [7,4] [105,104,103,102,101,0] (fun _=>rfl) (fun _=>rfl) fun τ a w F O=>?_)))
 try dsimp only [RS.sub,SF.sub,CF.sub,csub,Anc.sub,List.map,Zd,xL,xM,Nat.reduceAdd,xD,xE,xT,xU,xC,xN,zCF,ldSF,rRt,rSq,ZC,rTx,Zv,Zl,Zs,rOp,ZoY,ZcH,Zaa,Zel,rEd] at O
 generalize τ 7=v7 at O
 refine Za (Ya (rZ O (qe 4 105 r1 r1 (qs 4 103 r2 r1 qZ)) V [4] [105,104,103,102,101,0] fun O=>Yh ?_))
 refine Z3 hfr O Z (.cl 103 true 4 Z Z .nil) (.one (by rw [hg];first | exact .aggU Z Z | exact .aggLe Z ⟨.nilSl,.nilSl,.nilSl,.nilSl,tv⟩))
theorem ZpZ (l:List Zg8):FnP prog 8 [.sl Zel l] (.bool (decide (Zgx l))):=by
 refine FnP.mk func8 Z ntmps8 Z fun B a w F V hfr O=>?_
 have hll:=Sat.lenSl O (i:=0) rfl
 refine Ya (rZ O qB V [2,0] [0] fun O=>(Ya (Ya ?_)))
 refine rZ O (qR rr (qu underlying22 r1 (qf (Zal .t qi) r1 qz qZ))) V [7,2,0] [0] fun O=>?_
 refine Zc O Z (fun hc0=>?_) (fun hc0=>?_)
 ·have hg:false=decide (Zgx l):=(Yu fun h9=>by have:=h9.1;simp at hc0;omega).symm
  refine Ya (rZ O qB V [2,0] [0] fun O=>(Yh (Zf ?_)))
  refine ZB hfr O Z Z Z (.bool hg)
 have hl0:l.length≤24:=by simp at hc0;omega
 refine Yd (Za (Ya (Ya (rZ O (qR rr (qu underlying22 r1 (qJ qZ))) V [10,9,8,2] [0] fun O=>Ye ?_))))
 refine Zk (σ:=(Nat)) [2,8,9] [0] (fun s=>[(10,.pv (.int .i64 (s:Int)))]) (fun s=>[]) (fun s=>s≤l.length∧(∀ q,q<s→ZhC (Nn l q))) (fun s=>l.length - s) (0) O ⟨rfl,rfl,rfl,rfl,tv⟩ ⟨rfl,tv⟩ ⟨Yt _,fun q hq=>absurd hq (YJ q)⟩ ?_
 clear O;intro i a w F hC O
 try dsimp only at hC
 obtain ⟨F,O⟩:=O.nM [10,9,8,2] [0]
 try dsimp only at O
 obtain ⟨hi,hq⟩:=hC
 refine Ya (rZ O (qL r2) V [11,10,9,8,2] [0] fun O=>Ya ?_)
 refine Zc O Z (fun hc1=>?_) (fun hc1=>?_)
 ·have hil:i<l.length:=by simp at hc1;omega
  refine Yd (Za (Ya (Ye (Ya (Zb O (qy 13 underlying22 r2 (qf (oR true 13 .t) r1 qz (qf (oH [.int .i64 0,.int .i64 0,.int .i64 0,.bool false,.slice none 0 0,.int .i64 0,.slice none 0 0,.int .i64 0,.slice none 0 0,.slice none 0 0,.slice none 0 0,.slice none 0 0,.int .i64 0] 101) trivial qz (qS 13 101 r2 r1 qZ)))) V [10,9,8,4,2] [101,0] (fun _=>rfl) (fun _=>rfl) fun τ a w F O=>?_)))))
  try dsimp only [RS.sub,SF.sub,CF.sub,csub,Anc.sub,List.map,Zd,xL,xM,Nat.reduceAdd,xD,xE,xT,xU,xC,xN,zCF,ldSF,rRt,rSq,ZC,rTx,Zv,Zl,Zs,rOp,ZoY,ZcH,Zaa,Zel,rEd] at O
  generalize τ 4=v4 at O
  try simp only [Yg] at O
  refine Za (Ya (rZ O (qg 1 101 r1 r1 (qf (oL true 7 101 .adr) r1 r1 (qf (oP (Zqx (Nn l i).e) func47 (Args.one (.pagg .t))) r1 qz (qf (Z1 .t) r1 qz (qR rr (qv 8 101 Z r2 r1 (qk Z (fun h=>oL true 4 101 (.w h .adr)) r2 r1 (qk Z (fun h=>oP (Zqi (Nn l i).d) func48 (Args.one (.pagg (.w h)))) r2 qz (qk Z (fun h=>Z1 (.w h)) r2 qz (qf (ZaM .t .t) r2 qz qZ)))))))))) V [23,10,9,8,2] [101,0] fun O=>?_))
  refine Zc O Z (fun hc2=>?_) (fun hc2=>?_)
  ·have hbx:¬ ZhC (Nn l i):=by have h8:=hc2;intro h9;simp [h9.1,h9.2] at h8
   have hg:false=decide (Zgx l):=(Yu fun h9=>hbx (h9.2 _ (ZU hil))).symm
   refine Ya (rZ O qB V [10,9,8,2] [101,0] fun O=>(Yh (Zr (Zf (Zf (Zr (Zf ?_)))))))
   refine ZB hfr O Z Z Z (.bool hg)
  have hne:ZhC (Nn l i):=by have h8:=hc2;simp at h8;exact h8
  refine Yd (Zi (Za (rZ O (qp r1 (qR rr qZ)) V [10,9,8,2] [101,0] fun O=>?_)))
  replace O:=O.ent (i:=10) (s':=.pv (.int .i64 ((i+1:Nat):Int))) Z (.int (Ze ow))
  obtain ⟨F,O⟩:=O.nM [9,8,2,10] [0]
  exact ⟨(i+1),F,⟨by omega,(fun q h9=>by rcases Yy (YD h9) with h8 | h8;exact hq q h8;rw [h8];exact hne)⟩,O,by omega⟩
 have hil:i=l.length:=by simp at hc1;omega
 have hg:true=decide (Zgx l):=(YI ⟨hl0,fun x hx=>by obtain ⟨j,hj,rfl⟩:=YH hx;have:=hq j ow;rwa [Zy hj] at this⟩).symm
 refine Ym (Zg (Zg (Zo (Za (Ya (rZ O qB V [2] [0] fun O=>Yh ?_))))))
 refine ZB hfr O Z Z Z (.bool hg)
theorem ZpS {os:List OrdD} (hr:Z5 OrdD.key os) {o:OrdD} (ho:o ∈ os):getO os o.key=o.txs:=by
 unfold getO
 have h:os.find? (fun z=>decide (z.key=o.key))=some o:=by
  cases e:os.find? (fun z=>decide (z.key=o.key)) with
  | none=>
   rw [YaS] at e
   exact absurd (by simp) (e o ho)
  | some z=>
   have h1:=Ybd e
   have h2:=List.find?_some e
   simp only [Yj] at h2
   obtain ⟨i,hi,rfl⟩:=YH h1
   obtain ⟨j,hj,rfl⟩:=YH ho
   have h3:=Y2.1 hr
   rcases Ybg i j with h4 | h4 | h4
   ·have:=h3 i j hi hj h4;omega
   ·subst h4;rfl
   ·have:=h3 j i hj hi h4;omega
 rw [h];rfl
theorem ZnN {g:Zx} (h:ZbH g) (hr:ZG g):sizeH g≤324:=by
 obtain ⟨_,_,_,h4,_,h5⟩:=ZdT.1 hr
 have h1:=h.1
 have h2:=h.2.1
 have h3:ZbS g.orders≤12*g.orders.length:=Zi3 fun o ho=>by
  have h6:=(h5 o.key).length_eq
  rw [ZpS hr.rise.2 ho] at h6
  have h7:=Zb0 g.txs o.key
  omega
 unfold sizeH;omega
structure ZbI (A:StA) (i:Nat) (K:List ZfQ):Prop where
 p:ZdR A i
 kept:∀ x ∈ K,∃ y,ZdE A x.n=some y∧Za4 A.all A.seqs y.2=x.h
 klen:K.length≤i
 sz:∀ y ∈ A.snaps,y.2.size≤324∨y.2.size=A.now.size
theorem ZbI.start:ZbI Zf5 0 []:=⟨ZdR.start,fun x hx=>(by cases hx),YA _,fun y hy=>(by cases hy)⟩
theorem ZbI.up {A:StA} {i:Nat} {K:List ZfQ} (h:ZbI A i K):ZbI A (i+1) K:=⟨h.p.up,h.kept,by have:=h.klen;omega,h.sz⟩
theorem ZbI.keep {A:StA} {i:Nat} {K:List ZfQ} (h:ZbI A i K) (hw:(ZbF A).2.2=0):ZbI (ZbF A).1 (i+1) (K ++ [⟨(ZbF A).2.1,hiA A⟩]):=by
 have hp:=h.p.keepS
 unfold ZbF at hp hw ⊢
 by_cases h1:Za2 A+A.now.size > 10000
 ·rw [Yf h1] at hw;exact absurd hw (by show ¬ (2:Int)=0;decide)
 ·rw [Yb h1] at hp ⊢
  dsimp only at hp ⊢
  refine ⟨hp,fun x hx=>?_,by rw [Yc];have:=h.klen;simp;omega,fun y hy=>?_⟩
  ·rcases YB.1 hx with hx | hx
   ·obtain ⟨y,hy,e⟩:=h.kept x hx
    refine ⟨y,?_,e⟩
    unfold ZdE at hy ⊢
    show (A.snaps ++ [(A.next,A.now)]).find? _=some y
    rw [List.find?_append,hy];rfl
   ·rw [Yn.1 hx]
    refine ⟨(A.next,A.now),?_,rfl⟩
    have hn:ZdE A A.next=none:=by
     unfold ZdE
     rw [YaS]
     intro z hz
     have:=(h.p.ok.oks z hz).2.2
     simp;omega
    unfold ZdE at hn ⊢
    show (A.snaps ++ [(A.next,A.now)]).find? _=_
    rw [List.find?_append,hn]
    simp
  ·rcases YB.1 hy with hy | hy
   ·exact h.sz y hy
   ·rw [Yn.1 hy];exact .inr rfl
theorem ZbI.keepNo {A:StA} {i:Nat} {K:List ZfQ} (h:ZbI A i K) (hw:(ZbF A).2.2≠0):ZbI (ZbF A).1 (i+1) K:=by
 unfold ZbF at hw ⊢
 split
 ·exact h.up
 ·rename_i h1;rw [Yb h1] at hw;exact absurd rfl hw
theorem ZbI.doS {A:StA} {i:Nat} {K:List ZfQ} {m:ZK} (h:ZbI A i K) (hi:i≤24) (hm:Zhd (hiA A) i m) (hl:ZbH (hiA A)):ZbI (doA A m).1 (i+1) K:=by
 have hp:=h.p.doS hi hm
 have hs:=ZnN hl h.p.right
 have hz:=h.p.ok.szn
 unfold doA at hp ⊢
 by_cases h1:(ZN (hiA A) m).2≠0
 ·rw [Yf h1];exact h.up
 ·rw [Yb h1] at hp ⊢
  by_cases h2:Za2 A - A.now.size+(sizeH (ZN (hiA A) m).1:Nat) > 10000
  ·rw [Yf h2];exact h.up
  ·rw [Yb h2] at hp ⊢
   refine ⟨hp,fun x hx=>?_,by have:=h.klen;omega,fun y hy=>.inl ?_⟩
   ·obtain ⟨y,hy,e⟩:=h.kept x hx
    refine ⟨y,hy,?_⟩
    show Za4 (A.all++m.now) (A.seqs++_) y.2=x.h
    rw [ZdY (h.p.ok.oks y (ZbR hy).1).1];exact e
   ·rcases h.sz y hy with h3 | h3
    ·exact h3
    ·unfold hiA at hs
     show y.2.size≤324
     omega
structure ZpW (A:StA) (K:List ZfQ):Prop where
 ok:ZaJ A
 fit:Zb1 A
 kept:∀ x ∈ K,∃ y,ZdE A x.n=some y∧Za4 A.all A.seqs y.2=x.h
 room:∀ y ∈ A.snaps,Za2 A - A.now.size+y.2.size≤10000
theorem ZbI.ends {A:StA} {i:Nat} {K:List ZfQ} (h:ZbI A i K) (hi:i≤24):ZpW A K:=by
 refine ⟨h.p.ok,h.p.fitS ow,h.kept,fun y hy=>?_⟩
 have h1:=h.p.ok.held
 rcases h.sz y hy with h2 | h2
 ·by_cases h3:y.2.size≤A.now.size
  ·omega
  ·have h4:(A.snaps.map fun x=>x.2.size).sum≤A.snaps.length*324:=by
    have key:∀ l:List (Int×RtA),(∀ x ∈ l,x.2.size≤324)→(l.map fun x=>x.2.size).sum≤l.length*324:=by
     intro l
     induction l with
     | nil=>intro _;simp
     | cons x l ih=>
      intro hx
      have h5:=ih fun z hz=>hx z (YM _ hz)
      have h6:=hx x Yap
      rw [YL,YaJ,Yl];omega
    exact key _ fun x hx=>by rcases h.sz x hx with h5 | h5 <;> omega
   have h5:=h.p.snl
   unfold Za2;omega
 ·omega
theorem ZpW.back {A:StA} {K:List ZfQ} (h:ZpW A K) {x:ZfQ} (hx:x ∈ K):∃ B,Zdf A x.n=(B,0)∧ZpW B K∧hiA B=x.h:=by
 obtain ⟨y,hy,e⟩:=h.kept x hx
 have hm:=(ZbR hy).1
 have hr:=h.room y hm
 have hb:Zdf A x.n=(⟨y.2,A.snaps,A.next,A.all,A.seqs⟩,0):=by unfold Zdf;rw [hy];dsimp only;rw [Yb ow]
 have hok:=h.ok.back x.n
 rw [hb] at hok
 refine ⟨_,hb,⟨hok,⟨h.fit.next,h.fit.snaps,h.fit.all,h.fit.seqs,h.fit.len,h.fit.ops⟩,h.kept,fun z hz=>?_⟩,e⟩
 have:=h.room z hz
 unfold Za2 at this ⊢
 show y.2.size+(A.snaps.map fun x=>x.2.size).sum - y.2.size+z.2.size≤10000
 omega
theorem Zrd (b:Nat) {A:StA} {id:Int} {t:TxD} {w:Bool} (h:txA A id=(t,w)) (hok:ZaJ A) (hf:Zb1 A):FnG prog 11 1 [.is (.pointer (some ⟨b,0,none⟩)),.int .i64 id] [ZX (.pointer (some ⟨b,0,none⟩)) A] (.tup [.agg (rTx t),.bool w]) (fun _=>[ZX (.pointer (some ⟨b,0,none⟩)) A]):=by have k:=ZsR b A hok hf id;rw [h] at k;exact k
theorem Zk2 (b:Nat) {A:StA} {key:Int} {l:List Int} (h:Zh9 A key=l) (hok:ZaJ A) (hf:Zb1 A):FnG prog 19 1 [.is (.pointer (some ⟨b,0,none⟩)),.int .i64 key] [ZX (.pointer (some ⟨b,0,none⟩)) A] (.sl Zs l) (fun _=>[ZX (.pointer (some ⟨b,0,none⟩)) A]):=by have k:=Zo0 b A hok hf key;rw [h] at k;exact k
theorem Ent.sure {c:Prop} {s:SF} (h:c):Ent s (.when c s):=fun _ _ _ _ k=>⟨fun _=>k,fun n=>absurd h n⟩
theorem ZoJ  : FnP prog 9 [] (.bool true):=by
 refine FnP.mk func9 Z ntmps9 Z fun B a w F V hfr O=>Ya ?_
 refine rZ O qB V [0] [0] fun O=>Ya ?_
 replace O:=O.fresh 61 rfl
 obtain ⟨F,O⟩:=O.nM [0] [61,0]
 refine Zb O (qf (Zc3 61 (Zpf) func7 Z kr Args.nil PV.ptr_one) qz r1 (qO rr qZ)) V [1,0] [61,0] (fun _=>rfl) (fun _=>rfl) fun τ a w F O=>?_
 try dsimp only [RS.sub,SF.sub,CF.sub,csub,Anc.sub,List.map,rRt,rSq,ZC,rTx,Zv,Zl,Zs,rOp,Zaa] at O
 generalize τ 22=v22 at O
 obtain ⟨_,_,_,ho⟩:=O.obGet 61 rfl
 obtain ⟨b1,rfl⟩:=Zil ho
 clear ho
 replace O:=O.turn 61 Z (r':=RS.hp (ZX (.pointer (some ⟨b1,0,none⟩)) Zf5)) (fun _ _ _ _ h=>h)
 obtain ⟨F,O⟩:=O.nM [1,0] [61,0]
 refine Za (Ya (Ya (rZ O (qR rr (qf (Zab _ YbT Z .t) r1 qz qZ)) V [24,1,0] [61,0] fun O=>?_)))
 refine Zc O Z (fun hc0=>?_) (fun hc0=>?_)
 ·simp at hc0
 refine Yd (Za (Ya (Zb O (qf (oB [(1,_)] [.bool false,.int .i64 0,.int .i64 0,.int .i64 0] [(0,1),(1,1),(2,1),(3,1)] (.one Z qi one_int kr .nil)) trivial qz (qf (Zn (sz:=4) (zs:=[.bool false,.int .i64 0,.int .i64 0,.int .i64 0]) (r:=[(0,.tmp 25)]) (l:=[_,_,_,_]) YbR kr kr kr kr Z Z (.agg Z .t kr kr .nil) Z) r1 qz (qf (oB [(0,_),(1,_),(2,.tmp 26)] [.int .i64 0,.bool false,.slice none 0 0] [(0,1),(1,1),(2,1)] (.one Z qi one_int kr (.one Z .cb Zrh kr (.one Z .t ZiM kr .nil)))) r1 qz (qf (Zn (sz:=3) (zs:=[.int .i64 0,.bool false,.slice none 0 0]) (r:=[(0,.tmp 27)]) (l:=[_,_,_]) YbP kr kr kr kr Z Z (.agg Z .t kr kr .nil) Z) r1 qz (qf (Zn (sz:=1) (zs:=[.int .i64 0]) (r:=[(0,_)]) (l:=[_]) YbO kr kr kr kr Z Z (.one Z qi one_int kr .nil) Z) trivial qz (qf (oB [(0,_),(1,.tmp 29)] [.int .i64 0,.slice none 0 0] [(0,1),(1,1)] (.one Z qi one_int kr (.one Z .t ZiM kr .nil))) r1 qz (qf (Zn (sz:=2) (zs:=[.int .i64 0,.slice none 0 0]) (r:=[(0,.tmp 30)]) (l:=[_,_]) YbQ kr kr kr kr Z Z (.agg Z .t kr kr .nil) Z) r1 qz (qf (oB [(0,.tmp 28),(1,.tmp 31)] [.slice none 0 0,.slice none 0 0] [(0,1),(1,1)] (.one Z .t ZiM kr (.one Z .t ZiM kr .nil))) r2 qz (qf (oH [.slice none 0 0,.slice none 0 0] 101) trivial qz (qS 2 101 r2 r1 qZ)))))))))) V [2,1,0] [101,61,0] (fun _=>rfl) (fun _=>rfl) fun τ a w F O=>?_)))
 try dsimp only [RS.sub,SF.sub,CF.sub,csub,Anc.sub,List.map,Zd,xL,xM,Nat.reduceAdd,xD,xE,xT,xU,xC,xN,zCF,rRt,rSq,ZC,rTx,Zv,Zl,Zs,rOp,Zaa] at O
 generalize τ 2=v2 at O
 replace O:=O.turn 101 Z (r':=RS.pt (.val v2) 30 [.pv (.sl rTx [(⟨1,true,[⟨false,5,0,0⟩]⟩:TxD)]),.pv (.sl Zv [⟨5,[1]⟩])]) (Zt3 Z Z ⟨Zay.arrSl (R:=rTx) (l':=[(⟨1,true,[⟨false,5,0,0⟩]⟩:TxD)]) Z ⟨Zay.refl,Zay.refl,Zay.arrSl (R:=rOp) (l':=([⟨false,5,0,0⟩]:List OpD)) Z ZfC.refl,tv⟩,Zay.arrSl (R:=Zv) (l':=[⟨5,[1]⟩]) Z ⟨Zay.refl,Zay.arrSl (R:=Zs) (l':=[1]) Z ZfC.refl,tv⟩,tv⟩)
 obtain ⟨F,O⟩:=O.nM [2,1,0] [101,61,0]
 refine Za (Ya (Zb O (qg 0 101 r1 r1 (qa 101 r1 r1 (qg 1 101 r1 r1 (qa 101 r1 r1 (qf (oB [(1,.tmp 34),(3,.tmp 36)] [.slice none 0 0,.slice none 0 0,.slice none 0 0,.slice none 0 0] [(0,1),(1,1),(2,1),(3,1)] (.one Z .t Zas kr (.one Z .t Zas kr .nil))) r2 qz (qf (oH [.slice none 0 0,.slice none 0 0,.slice none 0 0,.slice none 0 0] 102) trivial qz (qS 4 102 r2 r1 qZ))))))) V [3,2,1,0] [102,101,61,0] (fun _=>rfl) (fun _=>rfl) fun τ a w F O=>?_))
 try dsimp only [RS.sub,SF.sub,CF.sub,csub,Anc.sub,List.map,Zd,xL,xM,Nat.reduceAdd,xD,xE,xT,xU,xC,xN,zCF,ldSF,rRt,rSq,ZC,rTx,Zv,Zl,Zs,rOp,Zaa] at O
 generalize τ 3=v3 at O
 replace O:=O.turn 102 Z (r':=RS.pt (.val v3) 43 [.pv (.sl rTx []),.pv (.sl rTx [(⟨1,true,[⟨false,5,0,0⟩]⟩:TxD)]),.pv (.sl Zv []),.pv (.sl Zv [⟨5,[1]⟩])]) (Zt3 Z Z ⟨Zay.nilSl,Zay.refl,Zay.nilSl,Zay.refl,tv⟩)
 obtain ⟨F,O⟩:=O.nM [3,2,1,0] [102,101,61,0]
 refine Za (Ya (rZ O (qR rr (qe 4 102 r1 r1 (qf (o_callG1 61 (Zjg b1 sl1 ZaJ.zero ⟨⟨by decide,by decide,by decide,by decide,by decide,by decide⟩,by decide,by decide,by decide,by decide⟩ lxs2) func23 Z kr (Args.two .t (.pagg .t))) r2 r1 (qO rr qZ)))) V [4,3,2,1,0] [102,101,61,0] fun O=>Ya ?_))
 refine rZ O (qR rr (qe 4 102 r1 r1 (qf (o_callG1 61 (Zjg b1 sl2 Zto ⟨⟨by decide,by decide,by decide,by decide,by decide,by decide⟩,by decide,by decide,by decide,by decide⟩ lxs3) func23 Z kr (Args.two .t (.pagg .t))) r2 r1 (qO rr qZ)))) V [5,4,3,2,1,0] [102,101,61,0] fun O=>Ya ?_
 refine rZ O (qR rr (qf (o_callG1 61 (Zis b1 sl3 Zto ⟨by decide,by decide,by decide,by decide,by decide,by decide⟩) func21 Z kr (Args.one .t)) r1 r1 (qR rr (qf (o_extract .t Z) r1 qz (qf (o_extract .t Z) r1 qz (qO rr (qO rr qZ))))))) V [7,6,5,4,3,2,1,0] [102,101,61,0] fun O=>Ya ?_
 refine rZ O (qR rr (qf (o_callG1 61 (ZnP b1 (A:=(⟨(⟨[⟨1,0⟩],[⟨5,0⟩],3⟩:RtA),[(0,(⟨[⟨1,0⟩],[⟨5,0⟩],3⟩:RtA))],1,[(⟨1,true,[⟨false,5,0,0⟩]⟩:TxD)],[[1]]⟩:StA)) (w:=6) (by decide) ZrR ⟨by decide,by decide,by decide,by decide,by decide,by decide⟩) func15 Z kr (Args.one .t)) r1 r1 (qO rr qZ))) V [8,7,6,5,4,3,2,1,0] [102,101,61,0] fun O=>Ya ?_
 refine rZ O (qR rr (qg 0 101 r1 r1 (qa 101 r1 r1 (qg 1 101 r1 r1 (qa 101 r1 r1 (qf (oB [(0,.tmp 53),(2,.tmp 55)] [.slice none 0 0,.slice none 0 0,.slice none 0 0,.slice none 0 0] [(0,1),(1,1),(2,1),(3,1)] (.one Z .t Zas kr (.one Z .t Zas kr .nil))) r2 qz (qf (o_callG1 61 (Zjg b1 sl4 ZrR ⟨⟨by decide,by decide,by decide,by decide,by decide,by decide⟩,by decide,by decide,by decide,by decide⟩ lxs4) func23 Z kr (Args.two .t (.conv (.pagg .t) (Ent.paggLe (l:=[.sl rTx [(⟨1,true,[⟨false,5,0,0⟩]⟩:TxD)],.is (.slice none 0 0),.sl Zv [⟨5,[1]⟩],.is (.slice none 0 0)]) (l':=Zaa (⟨[(⟨1,true,[⟨false,5,0,0⟩]⟩:TxD)],[],[⟨5,[1]⟩],[]⟩:ZK)) ⟨Zay.refl,Zay.nilSl,Zay.refl,Zay.nilSl,tv⟩)))) r2 r1 (qO rr qZ)))))))) V [9,8,7,6,5,4,3,2,1,0] [102,101,61,0] fun O=>Ya ?_
 refine rZ O (qR rr (qf (o_callG1 61 (Zfv b1 (A:=(⟨(⟨[],[],0⟩:RtA),[(0,(⟨[⟨1,0⟩],[⟨5,0⟩],3⟩:RtA))],1,[(⟨1,true,[⟨false,5,0,0⟩]⟩:TxD)],[[1]]⟩:StA)) (g:=(⟨[],[]⟩:Zx)) Z ZsA ⟨by decide,by decide,by decide,by decide,by decide,by decide⟩) func14 Z kr (Args.one .t)) r1 r1 (qf (oB [] [.slice none 0 0,.slice none 0 0] [(0,1),(1,1)] .nil) trivial qz (qf (oP (Zfw (⟨[],[]⟩:Zx) (⟨[],[]⟩:Zx)) func13 (Args.two .t (.conv (.pagg .t) (Ent.paggLe (l:=[.is (.slice none 0 0),.is (.slice none 0 0)]) (l':=Zl (⟨[],[]⟩:Zx)) ⟨Zay.nilSl,Zay.nilSl,tv⟩)))) r2 qz (qO rr qZ))))) V [10,9,8,7,6,5,4,3,2,1,0] [102,101,61,0] fun O=>Ya ?_
 refine rZ O (qR rr (qf (o_callG1 61 (ZfL b1 sl5 ZsA ⟨by decide,by decide,by decide,by decide,by decide,by decide⟩) func25 Z kr (Args.two .t qi)) r1 r1 (qR rr (qf (o_callG1 61 (ZfL b1 sl6 ZsA ⟨by decide,by decide,by decide,by decide,by decide,by decide⟩) func25 Z kr (Args.two .t qi)) r1 r1 (qR rr (qf (o_callG1 61 (ZhZ b1 sl7 ZrR ⟨by decide,by decide,by decide,by decide,by decide,by decide⟩) func26 Z kr (Args.two .t qi)) r1 r1 (qR rr (qf (o_callG1 61 (ZhZ b1 sl8 Ztr ⟨by decide,by decide,by decide,by decide,by decide,by decide⟩) func26 Z kr (Args.two .t qi)) r1 r1 (qO rr (qO rr (qO rr (qO rr qZ)))))))))))) V [14,13,12,11,10,9,8,7,6,5,4,3,2,1,0] [102,101,61,0] fun O=>Ya ?_
 refine rZ O (qR rr (qf (o_callG1 61 (Zis b1 sl9 Ztr ⟨by decide,by decide,by decide,by decide,by decide,by decide⟩) func21 Z kr (Args.one .t)) r1 r1 (qR rr (qf (o_extract .t Z) r1 qz (qf (o_extract .t Z) r1 qz (qO rr (qO rr qZ))))))) V [16,15,14,13,12,11,10,9,8,7,6,5,4,3,2,1,0] [102,101,61,0] fun O=>Ya ?_
 refine Zb O (qR rr (qf (o_callG1 61 (Zrd b1 (A:=(⟨(⟨[⟨1,0⟩],[⟨5,0⟩],3⟩:RtA),[(1,(⟨[⟨1,0⟩],[⟨5,0⟩],3⟩:RtA))],2,[(⟨1,true,[⟨false,5,0,0⟩]⟩:TxD)],[[1]]⟩:StA)) (id:=1) (t:=(⟨1,true,[⟨false,5,0,0⟩]⟩:TxD)) (w:=true) Z Zsk ⟨by decide,by decide,by decide,by decide,by decide,by decide⟩) func11 Z kr (Args.two .t qi)) r1 r1 (qR rr (qf (o_extract .t Z) r1 qz (qf (o_extract .t Z) r1 qz (qf (oH [.int .i64 0,.bool false,.slice none 0 0] 103) trivial qz (qf (oA 3 103 .same (.conv .t .agg)) r2 r1 (qO rr qZ)))))))) V [18,17,16,15,14,13,12,11,10,9,8,7,6,5,4,3,2,1,0] [103,102,101,61,0] (fun _=>rfl) (fun _=>rfl) fun τ a w F O=>?_
 try dsimp only [RS.sub,SF.sub,CF.sub,csub,Anc.sub,List.map,Zd,xL,xM,Nat.reduceAdd,xD,xE,xT,xU,xC,xN,zCF,rRt,rSq,ZC,rTx,Zv,Zl,Zs,rOp,Zaa] at O
 generalize τ 17=v17 at O
 refine Za (Ya (rZ O (qC qZ) V [19,18,17,16,15,14,13,12,11,10,9,8,7,6,5,4,3,2,1,0] [103,102,101,61,0] fun O=>Ya ?_))
 refine rZ O (qR rr (qf (oP (ZnI) func21 (Args.one .t)) r1 qz (qR rr (qf (o_extract .t Z) r1 qz (qf (o_extract .t Z) r1 qz (qO rr (qO rr qZ))))))) V [21,19,18,17,16,15,14,13,12,11,10,9,8,7,6,5,4,3,2,1,0] [103,102,101,61,0] fun O=>Ya ?_
 refine Zu O (qR rr (qf (o_eql .t qi) r1 qz (qR rr (Zq.cons (Zaj.run Z Z ((by decide +kernel)) (ZI .t (by rfl))) r2 qz (Zq.cons (Zaj.run Z Z ((by decide +kernel)) (o_eql .t qi)) r2 qz (qf (ZJ .t (.conv .t (Ent.sure (by decide +kernel)))) r2 qz (qR rr (Zq.cons (Zaj.run Z Z ((by decide +kernel)) (ZI .t (by rfl))) r2 qz (Zq.cons (Zaj.run Z Z ((by decide +kernel)) (o_eql .t qi)) r2 qz (qf (ZJ .t (.conv .t (Ent.sure (by decide +kernel)))) r2 qz (qR rr (Zq.cons (Zaj.run Z Z ((by decide +kernel)) (ZI .t (by rfl))) r2 qz (Zq.cons (Zaj.run Z Z ((by decide +kernel)) (o_eql .t qi)) r2 qz (qf (ZJ .t (.conv .t (Ent.sure (by decide +kernel)))) r2 qz (qR rr (Zq.cons (Zaj.run Z Z ((by decide +kernel)) (ZI .t (by rfl))) r2 qz (Zq.cons (Zaj.run Z Z ((by decide +kernel)) (o_eql .t qi)) r2 qz (qf (ZJ .t (.conv .t (Ent.sure (by decide +kernel)))) r2 qz (qR rr (Zq.cons (Zaj.run Z Z ((by decide +kernel)) (ZI .t (by rfl))) r2 qz (Zq.cons (Zaj.run Z Z ((by decide +kernel)) (o_eql .t qi)) r2 qz (qf (ZJ .t (.conv .t (Ent.sure (by decide +kernel)))) r2 qz (qR rr (Zq.cons (Zaj.run Z Z ((by decide +kernel)) (ZI .t (by rfl))) r2 qz (qf (ZJ .t (.conv .t (Ent.sure (by decide +kernel)))) r2 qz (qR rr (Zq.cons (Zaj.run Z Z ((by decide +kernel)) (ZI .t (by rfl))) r2 qz (Zq.cons (Zaj.run Z Z ((by decide +kernel)) (o_eql .t qi)) r2 qz (qf (ZJ .t (.conv .t (Ent.sure (by decide +kernel)))) r2 qz (qR rr (Zq.cons (Zaj.run Z Z ((by decide +kernel)) (ZI .t (by rfl))) r2 qz (Zq.cons (Zaj.run Z Z ((by decide +kernel)) (o_eql .t qi)) r2 qz (qf (ZJ .t (.conv .t (Ent.sure (by decide +kernel)))) r2 qz (qR rr (Zq.cons (Zaj.run Z Z ((by decide +kernel)) (ZI .t (by rfl))) r2 qz (Zq.cons (Zaj.run Z Z ((by decide +kernel)) (o_eql .t qi)) r2 qz (qf (ZJ .t (.conv .t (Ent.sure (by decide +kernel)))) r2 qz (qR rr (Zq.cons (Zaj.run Z Z ((by decide +kernel)) (ZI .t (by rfl))) r2 qz (Zq.cons (Zaj.run Z Z ((by decide +kernel)) (o_eql .t qi)) r2 qz (qf (ZJ .t (.conv .t (Ent.sure (by decide +kernel)))) r2 qz (qR rr (Zq.cons (Zaj.run Z Z ((by decide +kernel)) (ZI .t (by rfl))) r2 qz (Zq.cons (Zaj.run Z Z ((by decide +kernel)) (o_eql .t qi)) r2 qz (qf (ZJ .t (.conv .t (Ent.sure (by decide +kernel)))) r2 qz (qR rr (Zq.cons (Zaj.run Z Z ((by decide +kernel)) (ZI .t (by rfl))) r2 qz (Zq.cons (Zaj.run Z Z ((by decide +kernel)) (o_eql .t qi)) r2 qz (qf (ZJ .t (.conv .t (Ent.sure (by decide +kernel)))) r2 qz (qR rr (Zq.cons (Zaj.run Z Z ((by decide +kernel)) (ZI .t (by rfl))) r2 qz (qf (ZJ .t (.conv .t (Ent.sure (by decide +kernel)))) r2 qz (qR rr (Zq.cons (Zaj.run Z Z ((by decide +kernel)) (oF 2 103 .is)) r2 r1 (Zq.cons (Zaj.run Z Z ((by decide +kernel)) (oL false 1 103 .adr)) r2 r1 (Zq.cons (Zaj.run Z Z ((by decide +kernel)) (ZbA YbR .t)) r2 qz (Zq.cons (Zaj.run Z Z ((by decide +kernel)) (o_eql .t qi)) r2 qz (qf (ZJ .t (.conv .t (Ent.sure (by decide +kernel)))) r2 qz (qR rr (Zq.cons (Zaj.run Z Z ((by decide +kernel)) (ZI .t (by rfl))) r2 qz (Zq.cons (Zaj.run Z Z ((by decide +kernel)) (o_callG1 61 (Zk2 b1 (A:=(⟨(⟨[⟨1,0⟩],[⟨5,0⟩],3⟩:RtA),[(1,(⟨[⟨1,0⟩],[⟨5,0⟩],3⟩:RtA))],2,[(⟨1,true,[⟨false,5,0,0⟩]⟩:TxD)],[[1]]⟩:StA)) (key:=5) (l:=[1]) Z Zsk ⟨by decide,by decide,by decide,by decide,by decide,by decide⟩) func19 Z kr (Args.two .t qi))) r2 r1 (Zq.cons (Zaj.run Z Z ((by decide +kernel)) (Zn (sz:=1) (zs:=[.int .i64 0]) (r:=[(0,_)]) (l:=[_]) YbO kr kr kr kr Z Z (.one Z qi one_int kr .nil) Z)) r1 qz (Zq.cons (Zaj.run Z Z ((by decide +kernel)) (oP (Zh4 [1] [1]) func18 (Args.two .t (.conv .t (Ent.arrSl (R:=Zs) (l:=[1]) Z))))) r3 qz (qf (ZJ .t (.conv .t (Ent.sure (by decide +kernel)))) r2 qz (qR rr (Zq.cons (Zaj.run Z Z ((by decide +kernel)) (ZI .t (by rfl))) r2 qz (Zq.cons (Zaj.run Z Z ((by decide +kernel)) (o_callG1 61 (Zfv b1 (A:=(⟨(⟨[⟨1,0⟩],[⟨5,0⟩],3⟩:RtA),[(1,(⟨[⟨1,0⟩],[⟨5,0⟩],3⟩:RtA))],2,[(⟨1,true,[⟨false,5,0,0⟩]⟩:TxD)],[[1]]⟩:StA)) (g:=(⟨[(⟨1,true,[⟨false,5,0,0⟩]⟩:TxD)],[⟨5,[1]⟩]⟩:Zx)) Z Zsk ⟨by decide,by decide,by decide,by decide,by decide,by decide⟩) func14 Z kr (Args.one .t))) r2 r1 (Zq.cons (Zaj.run Z Z ((by decide +kernel)) (oL true 2 101 .is)) r2 r1 (Zq.cons (Zaj.run Z Z ((by decide +kernel)) (oP (Zfw (⟨[(⟨1,true,[⟨false,5,0,0⟩]⟩:TxD)],[⟨5,[1]⟩]⟩:Zx) (⟨[(⟨1,true,[⟨false,5,0,0⟩]⟩:TxD)],[⟨5,[1]⟩]⟩:Zx)) func13 (Args.two .t (.pagg .t)))) r3 qz (qf (ZJ .t (.conv .t (Ent.sure (by decide +kernel)))) r2 qz (qR rr (Zq.cons (Zaj.run Z Z ((by decide +kernel)) (ZI .t (by rfl))) r2 qz (Zq.cons (Zaj.run Z Z ((by decide +kernel)) (o_eql .t qi)) r2 qz (qf (ZJ .t (.conv .t (Ent.sure (by decide +kernel)))) r2 qz (qR rr (Zq.cons (Zaj.run Z Z ((by decide +kernel)) (ZI .t (by rfl))) r2 qz (Zq.cons (Zaj.run Z Z ((by decide +kernel)) (oL true 4 102 .is)) r2 r1 (Zq.cons (Zaj.run Z Z ((by decide +kernel)) (oP (Zq1 (⟨[],[(⟨1,true,[⟨false,5,0,0⟩]⟩:TxD)],[],[⟨5,[1]⟩]⟩:ZK)) func23 (Args.two .t (.pagg .t)))) r3 qz (Zq.cons (Zaj.run Z Z ((by decide +kernel)) (o_eql .t qi)) r2 qz (qf (ZJ .t (.conv .t (Ent.sure (by decide +kernel)))) r2 qz (qR rr (Zq.cons (Zaj.run Z Z ((by decide +kernel)) (ZI .t (by rfl))) r2 qz (Zq.cons (Zaj.run Z Z ((by decide +kernel)) (oP (Znd 0) func25 (Args.two .t qi))) r2 qz (Zq.cons (Zaj.run Z Z ((by decide +kernel)) (o_eql .t qi)) r2 qz (qf (ZJ .t (.conv .t (Ent.sure (by decide +kernel)))) r2 qz (qR rr (Zq.cons (Zaj.run Z Z ((by decide +kernel)) (ZI .t (by rfl))) r2 qz (Zq.cons (Zaj.run Z Z ((by decide +kernel)) (oP (Zny) func15 (Args.one .t))) r2 qz (Zq.cons (Zaj.run Z Z ((by decide +kernel)) (o_eql .t qi)) r2 qz (qf (ZJ .t (.conv .t (Ent.sure (by decide +kernel)))) r2 qz (qR rr (Zq.cons (Zaj.run Z Z ((by decide +kernel)) (ZI .t (by rfl))) r2 qz (Zq.cons (Zaj.run Z Z ((by decide +kernel)) (oP (Zm6) func14 (Args.one .t))) r2 qz (Zq.cons (Zaj.run Z Z ((by decide +kernel)) (ZeX (ft:=27) (off:=0) kr kr .t Z)) r2 qz (Zq.cons (Zaj.run Z Z ((by decide +kernel)) (ZbA YbP .t)) r2 qz (Zq.cons (Zaj.run Z Z ((by decide +kernel)) (o_eql .t qi)) r2 qz (qf (ZJ .t (.conv .t (Ent.sure (by decide +kernel)))) r2 qz (qO rr qZ)))))))))))))))))))))))))))))))))))))))))))))))))))))))))))))))))))))))))))))))))))))))))))))))))) V [0] [103,102,101,61,0] Z Z fun a w F O=>?_
 try dsimp only [List.map,Zd,xL,xM,Nat.reduceAdd,xD,xE,xT,xU,xC,xN,zCF,ldSF,rRt,rSq,ZC,rTx,Zv,Zl,Zs,rOp,Zaa] at O
 refine Za (Yh (ZB hfr O Z Z Z (.bool (by decide +kernel))))
theorem Zkg (l:List Zg8):FnP prog 4 [.sl Zel l] (.bool true):=by
 refine FnP.mk func4 Z ntmps4 Z fun B a w F V hfr O=>?_
 have hll:=Sat.lenSl O (i:=0) rfl
 refine Ya (rZ O qB V [2,0] [0] fun O=>(Ya (Ya ?_)))
 refine rZ O (qf (oP (ZoJ) func9 Args.nil) trivial qz (qf (Z1 .t) r1 qz qZ)) V [14,2,0] [0] fun O=>?_
 refine Zc O Z (fun hc0=>?_) (fun hc0=>?_)
 ·simp at hc0
 refine Yd (Za (Ya ?_))
 replace O:=O.fresh 61 rfl
 obtain ⟨F,O⟩:=O.nM [14,2,0] [61,0]
 refine Zb O (qf (Zc3 61 (Zpf) func7 Z kr Args.nil PV.ptr_one) qz r1 (qO rr qZ)) V [3,2,0] [61,0] (fun _=>rfl) (fun _=>rfl) fun τ a w F O=>?_
 try dsimp only [RS.sub,SF.sub,CF.sub,csub,Anc.sub,List.map,rRt,rSq,ZC,rTx,Zv,Zl,Zs,rOp,ZoY,ZcH,Zaa,Zel,rEd,ZcH] at O
 generalize τ 15=v15 at O
 obtain ⟨_,_,_,ho⟩:=O.obGet 61 rfl
 obtain ⟨b1,rfl⟩:=Zil ho
 clear ho
 replace O:=O.turn 61 Z (r':=RS.hp (ZX (.pointer (some ⟨b1,0,none⟩)) Zf5)) (fun _ _ _ _ h=>h)
 obtain ⟨F,O⟩:=O.nM [3,2,0] [61,0]
 refine Za (Ya (Ya (rZ O (qR rr (qf (Zab _ YbT Z .t) r1 qz (qR rr (qm Z Z Z Z (qk Z (fun h=>oP (ZpZ l) func8 (Args.one (.w h))) r2 qz (qk Z (fun h=>Z1 (.w h)) r2 qz (qf (ZaM .t .t) r2 qz qZ))))))) V [22,3,2,0] [61,0] fun O=>?_)))
 refine Zc O Z (fun hc1=>?_) (fun hc1=>?_)
 ·refine Ya (rZ O (qR rr (qf (Zhk _ YbT Z .t) r1 qz (qO rr qZ))) V [3,2,0] [61,0] fun O=>(Yh (Zf ?_)))
  refine ZB hfr O Z Z Z (.bool (by first | rfl | simp))
 have hL:Zgx l:=by have h9:=hc1;simp at h9;exact h9
 have hll9:=hL.1
 refine Yd (Za (Ya (Zb O (qf (oH [.slice none 0 0,.slice none 0 0,.slice none 0 0,.int .i64 0] 101) trivial qz qZ) V [4,3,2,0] [101,61,0] (fun _=>rfl) (fun _=>rfl) fun τ a w F O=>?_)))
 try dsimp only [RS.sub,SF.sub,CF.sub,csub,Anc.sub,List.map,zCF,rRt,rSq,ZC,rTx,Zv,Zl,Zs,rOp,ZoY,ZcH,Zaa,Zel,rEd,ZcH] at O
 generalize τ 4=v4 at O
 replace O:=O.turn 101 Z (r':=RS.pt (.val v4) 33 [.pv (.sl rTx []),.pv (.sl Zv []),.pv (.is (.slice none 0 0)),.pv (.int .i64 0)]) (Zt3 Z Z ⟨Zay.nilSl,Zay.nilSl,Zay.refl,Zay.refl,tv⟩)
 obtain ⟨F,O⟩:=O.nM [4,3,2,0] [101,61,0]
 refine Za (Ya (rZ O (qC qZ) V [5,4,3,2,0] [101,61,0] fun O=>(Ya (Ya ?_))))
 refine rZ O (qR rr (qu underlying22 r1 (qJ qZ))) V [27,26,25,5,4,3,2] [101,61,0] fun O=>Ye ?_
 replace O:=O.fresh 50 rfl
 replace O:=O.turn 50 Z (ZaC (T:=64) (sz:=3) (R:=ZcH))
 refine Zk (σ:=(Nat)×(StA)×(Zx)×(Value)×(List ZfQ)) [2,3,4,25,26] [0] (fun s=>[(27,.pv (.int .i64 (s.1:Int))),(5,.pv (.is s.2.2.2.1))]) (fun s=>[(61,RS.hp (ZX (.pointer (some ⟨b1,0,none⟩)) s.2.1)),(101,.pt (.val v4) 33 [.pv (.sl rTx (Zx.txs s.2.2.1)),.pv (.sl Zv (Zx.orders s.2.2.1)),.pv (.is (.slice none 0 0)),.pv (.int .i64 0)]),(50,.ob (.val s.2.2.2.1) (ZO 64 3 ZcH s.2.2.2.2))]) (fun s=>s.1≤l.length∧(ZbI s.2.1 s.1 s.2.2.2.2)) (fun s=>l.length - s.1) ((0),(Zf5),(⟨[],[]⟩),(.slice none 0 0),([])) O ⟨rfl,rfl,rfl,rfl,rfl,rfl,rfl,tv⟩ ⟨rfl,rfl,rfl,rfl,tv⟩ ⟨Yt _,ZbI.start⟩ ?_
 clear O;intro s a w F hC O
 obtain ⟨i,A9,g9,v,K⟩:=s
 try dsimp only at hC
 obtain ⟨F,O⟩:=O.nM [27,26,25,5,4,3,2] [101,61,50,0]
 try dsimp only at O
 obtain ⟨hi,hq⟩:=hC
 have hfs:=hq.p.fitS ow
 have hkl:=hq.klen
 refine Ya (rZ O (qL r2) V [28,27,26,25,5,4,3,2] [101,61,50,0] fun O=>Ya ?_)
 refine Zc O Z (fun hc2=>?_) (fun hc2=>?_)
 ·have hil:i<l.length:=by simp at hc2;omega
  have hlx:=hL.2 _ (ZU hil)
  have hM9:=ZqT hq.p.fit hq.p.right ow hlx
  refine Yd (Za (Ya (Ye (Ya (Zb O (qy 13 underlying22 r2 (qf (oR true 13 .t) r1 qz (qf (oH [.int .i64 0,.int .i64 0,.int .i64 0,.bool false,.slice none 0 0,.int .i64 0,.slice none 0 0,.int .i64 0,.slice none 0 0,.slice none 0 0,.slice none 0 0,.slice none 0 0,.int .i64 0] 102) trivial qz (qS 13 102 r2 r1 qZ)))) V [27,26,25,7,5,4,3,2] [102,101,61,50,0] (fun _=>rfl) (fun _=>rfl) fun τ a w F O=>?_)))))
  try dsimp only [RS.sub,SF.sub,CF.sub,csub,Anc.sub,List.map,Zd,xL,xM,Nat.reduceAdd,xD,xE,xT,xU,xC,xN,zCF,ldSF,rRt,rSq,ZC,rTx,Zv,Zl,Zs,rOp,ZoY,ZcH,Zaa,Zel,rEd,ZcH] at O
  generalize τ 7=v7 at O
  try simp only [Yg] at O
  refine Za (Ya (Ya (rZ O (qg 0 102 r1 r1 (qa 102 r1 r1 (qf (o_eql .t qi) r1 qz qZ))) V [33,27,26,25,7,5,4,3,2] [102,101,61,50,0] fun O=>?_)))
  refine Zc O Z (fun hc3=>?_) (fun hc3=>?_)
  ·refine Ya (Zb O (qR rr (qf (o_callG1 61 (Zgk b1 A9 hq.p.ok hfs) func14 Z kr (Args.one .t)) r1 r1 (qf (oH [.slice none 0 0,.slice none 0 0] 103) trivial qz (qf (oA 2 103 .same (.conv .t .agg)) r2 r1 qZ)))) V [27,26,25,8,7,5,4,3,2] [103,102,101,61,50,0] (fun _=>rfl) (fun _=>rfl) fun τ a w F O=>?_)
   try dsimp only [RS.sub,SF.sub,CF.sub,csub,Anc.sub,List.map,Zd,xL,xM,Nat.reduceAdd,xD,xE,xT,xU,xC,xN,zCF,rRt,rSq,ZC,rTx,Zv,Zl,Zs,rOp,ZoY,ZcH,Zaa,Zel,rEd,ZcH] at O
   generalize τ 8=v8 at O
   refine Za (Ya (rZ O (qR rr (qf (o_callG1 61 (Zmg b1 A9 hq.p.ok hfs) func21 Z kr (Args.one .t)) r1 r1 (qR rr (qf (o_extract .t Z) r1 qz (qf (o_extract .t Z) r1 qz (qO rr (qO rr qZ))))))) V [27,26,25,10,9,8,7,5,4,3,2] [103,102,101,61,50,0] fun O=>(Ya (Ya ?_))))
   refine rZ O (qR rr (qf (o_eql .t qi) r1 qz qZ)) V [42,27,26,25,9,8,7,5,4,3,2] [103,102,101,61,50,0] fun O=>?_
   refine Zc O Z (fun hc4=>?_) (fun hc4=>?_)
   ·have hw9:=hc4
    refine Zb O (qR rr (qR rr (qe 2 103 r1 r1 (qf (oB [(0,.tmp 44),(1,.tmp 45)] [.int .i64 0,.slice none 0 0,.slice none 0 0] [(0,1),(1,2)] (.one Z .t one_int kr (.agg Z .t kr kr .nil))) r2 qz (qf (Zn (sz:=3) (zs:=[.int .i64 0,.slice none 0 0,.slice none 0 0]) (r:=[(0,.tmp 46)]) (l:=[_,_,_]) underlying31 kr kr kr kr Z Z (.agg Z .t kr kr .nil) Z) r1 qz (qf (o_append (sz:=3) (bs:=56) 50 (.mk' underlying31 kr kr) (by intro x;rfl) .is (.arr (l':=[(⟨(ZbF A9).2.1,hiA A9⟩:ZfQ)]) .t) (by simp only [Yl,Yq];omega) (by decide)) ⟨rfl,rfl,tv⟩ ⟨rfl,tv⟩ (qO rr qZ))))))) V [27,26,25,7,5,4,3,2] [103,102,101,61,50,0] (fun _=>rfl) (fun _=>rfl) fun τ a w F O=>?_
    try dsimp only [RS.sub,SF.sub,CF.sub,csub,Anc.sub,List.map,Zd,xL,xM,Nat.reduceAdd,xD,xE,xT,xU,xC,xN,zCF,ldSF,rRt,rSq,ZC,rTx,Zv,Zl,Zs,rOp,ZoY,ZcH,Zaa,Zel,rEd,ZcH] at O
    generalize τ 48=v48 at O
    refine Za (Ym (Zg (Zo (Za (rZ O (qp r1 (qR rr qZ)) V [27,26,25,5,4,3,2] [103,102,101,61,50,0] fun O=>?_)))))
    replace O:=O.ent (i:=27) (s':=.pv (.int .i64 ((i+1:Nat):Int))) Z (.int (Ze ow))
    obtain ⟨F,O⟩:=O.nM [26,25,4,3,2,5,27] [0,50,101,61]
    exact ⟨((i+1),((ZbF A9).1),(g9),_,_),F,⟨by omega,hq.keep (by simpa using hw9)⟩,O,by omega⟩
   have hw9:=hc4
   refine Yd (Za (Ym (Zg (Zo (Za (rZ O (qp r1 (qR rr qZ)) V [27,26,25,5,4,3,2] [103,102,101,61,50,0] fun O=>?_))))))
   replace O:=O.ent (i:=27) (s':=.pv (.int .i64 ((i+1:Nat):Int))) Z (.int (Ze ow))
   obtain ⟨F,O⟩:=O.nM [26,25,4,3,2,5,27] [0,50,101,61]
   exact ⟨((i+1),((ZbF A9).1),(g9),_,(K)),F,⟨by omega,hq.keepNo (by simpa using hw9)⟩,O,by omega⟩
  refine Yd (Za (Ya (Ya (rZ O (qg 0 102 r1 r1 (qa 102 r1 r1 (qf (Zal .t qi) r1 qz qZ))) V [51,27,26,25,7,5,4,3,2] [102,101,61,50,0] fun O=>?_))))
  refine Zc O Z (fun hc5=>?_) (fun hc5=>?_)
  ·refine Ym (Zg (Zo (Za (rZ O (qp r1 (qR rr qZ)) V [27,26,25,5,4,3,2] [102,101,61,50,0] fun O=>?_))))
   replace O:=O.ent (i:=27) (s':=.pv (.int .i64 ((i+1:Nat):Int))) Z (.int (Ze ow))
   obtain ⟨F,O⟩:=O.nM [26,25,4,3,2,5,27] [0,50,101,61]
   exact ⟨((i+1),(A9),(g9),_,(K)),F,⟨by omega,hq.up⟩,O,by omega⟩
  refine Yd (Za (Ya (rZ O (qR rr (qf (o_callG1 61 (Zgk b1 A9 hq.p.ok hfs) func14 Z kr (Args.one .t)) r1 r1 (qg 0 101 r1 r1 (qf (oA 2 101 .adr (.conv .t .agg)) r2 r1 qZ)))) V [27,26,25,7,5,4,3,2] [102,101,61,50,0] fun O=>(Ya (Ya ?_)))))
  refine rZ O (qg 0 101 r1 r1 (qf (oL true 2 101 .adr) r1 r1 (qf (oP (ZiO (hiA A9)) func22 (Args.one (.pagg .t))) r1 qz (qf (Z1 .t) r1 qz qZ)))) V [58,27,26,25,7,5,4,3,2] [102,101,61,50,0] fun O=>?_
  refine Zc O Z (fun hc6=>?_) (fun hc6=>?_)
  ·refine Ya (rZ O qB V [27,26,25,7,5,4,3,2] [102,101,61,50,0] fun O=>(Yh (Zf (Zr (Zf (Zf (Zr (Zf ?_))))))))
   refine ZB hfr O Z Z Z (.bool (by first | rfl | simp))
  have hlt9:ZbH (hiA A9):=by have h9:=hc6;simp at h9;exact h9
  refine Yd (Za (Zh O (qR rr (qg 0 101 r1 r1 (qf (oL true 2 101 .adr) r1 r1 (qe 13 102 r1 r1 (qf (oP (Zsy (hiA A9) (Nn l i) (hq.p.fit.small ow) hlx.1 ((hq.p.fit.doH hlx.1).small ow)) func24 (Args.two (.pagg .t) (.pagg .t))) r2 qz (qf (o_callG1 61 (ZrG b1 A9 (Zef (hiA A9) (Nn l i)) hq.p.ok (hq.p.doFit ow hM9) hM9.sm) func23 Z kr (Args.two .t .t)) r2 r1 qZ)))))) V [27,26,25,5,4,3,2] [102,101,61,50,0] Z Z fun a w F O=>Zi (Za ?_)))
  refine rZ O (qp r1 (qR rr qZ)) V [27,26,25,5,4,3,2] [102,101,61,50,0] fun O=>?_
  replace O:=O.ent (i:=27) (s':=.pv (.int .i64 ((i+1:Nat):Int))) Z (.int (Ze ow))
  obtain ⟨F,O⟩:=O.nM [26,25,4,3,2,5,27] [0,50,101,61]
  exact ⟨((i+1),((doA A9 (Zef (hiA A9) (Nn l i))).1),(hiA A9),_,(K)),F,⟨by omega,hq.doS ow hM9 hlt9⟩,O,by omega⟩
 have hil:i=l.length:=by simp at hc2;omega
 obtain ⟨F,O⟩:=O.give 50 5 Z rfl
 have hBI:=hq.ends ow
 have hKl:K.length≤24:=by omega
 obtain ⟨F,O⟩:=O.nM [28,27,26,25,5,4,3,2] [101,61,0]
 refine Ym (Zg (Zg (Zo (Za (Ya (Ya (rZ O (qR rr (qu underlying31 r1 (qJ qZ))) V [68,67,66,3,2] [101,61,0] fun O=>Ye ?_)))))))
 refine Zk (σ:=(Nat)×(StA)) [2,3,66,67] [0,101] (fun s=>[(68,.pv (.int .i64 (s.1:Int)))]) (fun s=>[(61,RS.hp (ZX (.pointer (some ⟨b1,0,none⟩)) s.2))]) (fun s=>s.1≤K.length∧(ZpW s.2 K)) (fun s=>K.length - s.1) ((0),(A9)) O ⟨rfl,rfl,rfl,rfl,rfl,tv⟩ ⟨rfl,rfl,rfl,tv⟩ ⟨Yt _,hBI⟩ ?_
 clear O;intro s a w F hC O
 obtain ⟨i,A8⟩:=s
 try dsimp only at hC
 obtain ⟨F,O⟩:=O.nM [68,67,66,3,2] [101,61,0]
 try dsimp only at O
 obtain ⟨hi,hq⟩:=hC
 refine Ya (rZ O (qL r2) V [69,68,67,66,3,2] [101,61,0] fun O=>Ya ?_)
 refine Zc O Z (fun hc7=>?_) (fun hc7=>?_)
 ·have hil:i<K.length:=by simp at hc7;omega
  obtain ⟨A7,hB7,hI7,hh7⟩:=hq.back (ZU hil)
  refine Yd (Za (Ya (Ye (Ya (Zb O (qy 3 underlying31 r2 (qf (oR true 3 .t) r1 qz (qf (oH [.int .i64 0,.slice none 0 0,.slice none 0 0] 104) trivial qz (qS 3 104 r2 r1 qZ)))) V [68,67,66,12,3,2] [104,101,61,0] (fun _=>rfl) (fun _=>rfl) fun τ a w F O=>?_)))))
  try dsimp only [RS.sub,SF.sub,CF.sub,csub,Anc.sub,List.map,Zd,xL,xM,Nat.reduceAdd,xD,xE,xT,xU,xC,xN,zCF,ldSF,rRt,rSq,ZC,rTx,Zv,Zl,Zs,rOp,ZoY,ZcH,Zaa,Zel,rEd,ZcH] at O
  generalize τ 12=v12 at O
  try simp only [Yg] at O
  refine Za (Ya (Zu O (qR rr (qg 0 104 r1 r1 (qa 104 r1 r1 (qf (o_callG1 61 (ZfL b1 hB7 hq.ok hq.fit) func25 Z kr (Args.two .t .t)) r2 r1 (qf (o_neq .t qi) r1 qz (qR rr (Zq.cons (Zaj.run Z Z ((by rfl)) (ZI .t (by rfl))) r2 qz (Zq.cons (Zaj.run Z Z ((by rfl)) (o_callG1 61 (Zfv b1 hh7 hI7.ok hI7.fit) func14 Z kr (Args.one .t))) r2 r1 (Zq.cons (Zaj.run Z Z ((by rfl)) (oF 1 104 .is)) r2 r1 (Zq.cons (Zaj.run Z Z ((by rfl)) (oL true 2 104 .adr)) r2 r1 (Zq.cons (Zaj.run Z Z ((by rfl)) (oP (Zfw (Nn K i).h (Nn K i).h) func13 (Args.two .t (.pagg .t)))) r3 qz (Zq.cons (Zaj.run Z Z ((by rfl)) (Z1 .t)) r2 qz (qf (ZaM .t (.conv .t (Ent.sure (by rfl)))) r2 qz qZ))))))))))))) V [84,68,67,66,3,2] [104,101,61,0] Z Z fun a w F O=>?_))
  try dsimp only [List.map,xD,xE,xT,xU,ldSF,rRt,rSq,ZC,rTx,Zv,Zl,Zs,rOp,ZoY,ZcH,Zaa,Zel,rEd,ZcH] at O
  refine Za (Zc O Z (fun hc8=>?_) (fun hc8=>?_))
  ·simp at hc8
  refine Yd (Zi (Za (rZ O (qp r1 (qR rr qZ)) V [68,67,66,3,2] [104,101,61,0] fun O=>?_)))
  replace O:=O.ent (i:=68) (s':=.pv (.int .i64 ((i+1:Nat):Int))) Z (.int (Ze ow))
  obtain ⟨F,O⟩:=O.nM [67,66,3,2,68] [101,0,61]
  exact ⟨((i+1),(A7)),F,⟨by omega,hI7⟩,O,by omega⟩
 have hil:i=K.length:=by simp at hc7;omega
 refine Ym (Zg (Zg (Zo (Za (Ya (rZ O qB V [2] [101,61,0] fun O=>Yh ?_))))))
 refine ZB hfr O Z Z Z (.bool (by first | rfl | simp))
end Go.Proofs.YtfecljadegkmdaaGreat
