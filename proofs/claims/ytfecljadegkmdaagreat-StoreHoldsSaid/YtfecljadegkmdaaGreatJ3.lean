/- Laws and walks. No condition beyond what each says. -/
import Derived.Test.YtfecljadegkmdaaGreatJ2
import Derived.Test.YtfecljadegkmdaaGreatLibE
namespace Go.Proofs.YtfecljadegkmdaaGreat
open Go Go.Gm Tryz
set_option linter.unusedVariables false
set_option linter.unusedSimpArgs false
set_option maxHeartbeats 4000000
set_option maxRecDepth 8000
theorem ZgE (v:Zc9):((!(decide (v.tx=0) && decide (v.nth=0)) && ((!idB v.tx || decide (v.nth<1)) || decide (4095<v.nth))) || !idB v.key) = !Zct v:=by
 unfold Zct
 by_cases h:v.tx=0
 ·rw [Yd h,YX h]
  have hi:idB v.tx=false:=by rw [h];rfl
  rw [hi]
  cases decide (v.nth=0) <;> cases idB v.key <;> simp
 ·rw [Yc h,YK h,Zlg,Zmd 4095]
  cases idB v.tx <;> cases idB v.key <;> cases decide (1≤v.nth) <;> cases decide (v.nth≤4095) <;> rfl
theorem ZmH (v:Zc9):FnP prog 215 [.agg (Zaq v)] (.tup [.int .u64 (Zok v).1,.int .i64 (Zok v).2]):=by
 refine FnP.mk func215 Z ntmps215 Z fun B a w F V hfr O=>Ya ?_
 refine Zb O (qx 101 r1 (qI (qI qZ))) V [3,2,1] [101,0] (fun _=>rfl) (fun _=>rfl) fun τ a w F O=>?_
 try dsimp only [RS.sub,SF.sub,CF.sub,csub,Anc.sub,List.map,zCF] at O
 generalize τ 1=v1 at O
 refine Za (Ya (rZ O (qg 0 101 r1 r1 (qa 101 r1 r1 (qf (o_eql .t qi) r1 qz (qR rr (qv 2 101 Z r2 r1 (qw 101 Z r2 r1 (qk Z (fun h=>o_eql (.w h) qi) r2 qz (qf (ZT .t .t) r2 qz (qO rr qZ))))))))) V [4,3,2,1] [101,0] fun O=>(Ya (Ya ?_))))
 refine Zf O (qR rr (qf (ZaA .t) r1 qz (qR rr (qv 0 101 Z r2 r1 (qw 101 Z r2 r1 (qk Z (fun h=>oP (ZqJ _) func259 (Args.one (.w h))) r2 qz (qk Z (fun h=>ZaA (.w h)) r2 qz (qk Z (fun h=>oM (.w h)) r2 qz (Zh.cons (Z2.cond2 Z Z (fun h=>Zu (off:=2) 101 .is kr (by rfl))) r2 r1 (Zh.cons (Z2.cond2 Z Z (fun h=>Zaf (ag:=false) (sz:=1) 101 (.w h .adr) kr kr kr (by rfl))) r2 r1 (Zh.cons (Z2.cond2 Z Z (fun h=>ZaG (.w h) qi)) r2 qz (qk Z (fun h=>ZaQ (.w h) (.wc h)) r3 qz (qk Z (fun h=>oM (.w h)) r2 qz (Zh.cons (Z2.cond2 Z Z (fun h=>Zu (off:=2) 101 .is kr (by rfl))) r2 r1 (Zh.cons (Z2.cond2 Z Z (fun h=>Zaf (ag:=false) (sz:=1) 101 (.w h .adr) kr kr kr (by rfl))) r2 r1 (Zh.cons (Z2.cond2 Z Z (fun h=>Zas (.w h) qi)) r2 qz (qk Z (fun h=>ZaQ (.w h) (.wc h)) r3 qz (qf (ZT .t .t) r2 qz (qR rr (qv 1 101 Z r2 r1 (qw 101 Z r2 r1 (qk Z (fun h=>oP (ZqJ _) func259 (Args.one (.w h))) r2 qz (qk Z (fun h=>ZaA (.w h)) r2 qz (qf (ZaQ .t .t) r2 qz qZ)))))))))))))))))))))))) V [36,3,2,1] [101,0] Z Z fun a w F O=>?_
 try dsimp only [List.map,xD,xE,xT,xU,ldSF] at O
 refine Za (Zd O Z (fun hc0=>?_) (fun hc0=>?_))
 ·rw [ZgE] at hc0
  have hr:Zct v=false:=by simpa using hc0
  have hg:Zok v=(0,1):=by unfold Zok;rw [hr];rfl
  refine Ya (rZ O (qI (qI qZ)) V [3,2,1] [101,0] fun O=>(Yi (Zk ?_)))
  refine Za4 hfr O Z (.tmp Z (.tmp Z .nil)) (.two (.int (by rw [hg];try exact Zju hr)) (.int (by rw [hg])))
 rw [ZgE] at hc0
 have hr:Zct v=true:=by simpa using hc0
 have hg:Zok v=(Zqf v,0):=Yd hr
 refine Yf (Za (Ya (rZ O (qg 0 101 r1 r1 (qa 101 r1 r1 (qf (ZaK underlying262 kr .t) r1 qz (qf (ZpJ .t qi (by decide)) r1 qz (qg 1 101 r1 r1 (qa 101 r1 r1 (qf (ZaK underlying262 kr .t) r1 qz (qf (ZqA .t .t) r2 qz (qf (ZpJ .t qi (by decide)) r1 qz (qg 2 101 r1 r1 (qa 101 r1 r1 (qf (ZaK underlying262 kr .t) r1 qz (qf (ZqA .t .t) r2 qz (qO rr (qI qZ))))))))))))))) V [3,2] [0] fun O=>Yi ?_)))
 refine Za4 hfr O Z (.tmp Z (.tmp Z .nil)) (.two (.int (by rw [hg];try exact Zju hr)) (.int (by rw [hg])))
def Zcr (o:OpD):Bool:=if o.read=true then Zct ⟨o.tx,o.key,o.nth⟩ else (idB o.key && decide (o.tx=0)) && decide (o.nth=0)
def ofO (o:OpD):Zc9:=if o.read=true then ⟨o.tx,o.key,o.nth⟩ else noV
def ZcI (o:OpD):Int:=if Zcr o=true then 0 else 1
theorem ZmB {o:OpD} (h:Zcr o=true):(1≤o.key∧o.key≤1048575)∧(0≤o.tx∧o.tx≤1048575)∧(0≤o.nth∧o.nth≤4095):=by
 unfold Zcr at h
 split at h
 ·unfold Zct at h
  dsimp only at h
  split at h <;> simp only [Yu,Yj,Zi7] at h <;> omega
 ·simp only [Yu,Yj,Zi7] at h
  omega
theorem ZgJ {o:OpD} (h:o.read=true):Zcr o=Zct (ofO o):=by unfold Zcr ofO;rw [Yd h,Yd h]
theorem ZfX {o:OpD} (h:o.read=false):Zcr o=((idB o.key && decide (o.tx=0)) && decide (o.nth=0)):=by unfold Zcr;rw [Yc (by rw [h];decide)]
theorem ZkC (v:Zc9):(Zok v).2=if Zct v=true then 0 else 1:=by unfold Zok;split <;> rfl
theorem Zos (o:OpD):FnP prog 148 [.agg (rOp o)] (.agg (Zaq (ofO o))):=by
 refine FnP.mk func148 Z ntmps148 Z fun B a w F V hfr O=>Ya ?_
 refine Zb O (qx 101 r1 (qf (oH [.int .i64 0,.int .i64 0,.int .i64 0] 102) trivial qz qZ)) V [2,1] [102,101,0] (fun _=>rfl) (fun _=>rfl) fun τ a w F O=>?_
 try dsimp only [RS.sub,SF.sub,CF.sub,csub,Anc.sub,List.map,zCF] at O
 generalize τ 1=v1,τ 2=v2 at O
 refine Za (Ya (Ya (rZ O (qg 0 101 r1 r1 (qa 101 r1 r1 (qf (ZaA .t) r1 qz qZ))) V [5,2,1] [102,101,0] fun O=>?_)))
 refine Zd O Z (fun hc0=>?_) (fun hc0=>?_)
 ·have hr:o.read=false:=by simpa using hc0
  refine Ya (rZ O (qf (oB [] [.int .i64 0,.int .i64 0,.int .i64 0] [(0,1),(1,1),(2,1)] .nil) trivial qz (qs 3 102 r2 r1 qZ)) V [2,1] [102,101,0] fun O=>(Yi (Zk ?_)))
  refine Za4 hfr O Z (.cl 102 true 3 Z Z .nil) (.one (.aggU Z (by unfold ofO;rw [hr];rfl)))
 have hr:o.read=true:=by simpa using hc0
 refine Yf (Za (Ya (rZ O (qg 2 101 r1 r1 (qa 101 r1 r1 (qg 1 101 r1 r1 (qa 101 r1 r1 (qg 3 101 r1 r1 (qa 101 r1 r1 (qf (oB [(0,.tmp 8),(1,.tmp 10),(2,.tmp 12)] [.int .i64 0,.int .i64 0,.int .i64 0] [(0,1),(1,1),(2,1)] (.one Z .t one_int kr (.one Z .t one_int kr (.one Z .t one_int kr .nil)))) r3 qz (qs 3 102 r2 r1 qZ)))))))) V [2] [102,101,0] fun O=>Yi ?_)))
 refine Za4 hfr O Z (.cl 102 true 3 Z Z .nil) (.one (.aggU Z (by unfold ofO;rw [hr];rfl)))
theorem Zlo (o:OpD):FnP prog 149 [.agg (rOp o)] (.int .i64 (ZcI o)):=by
 refine FnP.mk func149 Z ntmps149 Z fun B a w F V hfr O=>Ya ?_
 refine Zb O (qx 101 r1 (qI qZ)) V [2,1] [101,0] (fun _=>rfl) (fun _=>rfl) fun τ a w F O=>?_
 try dsimp only [RS.sub,SF.sub,CF.sub,csub,Anc.sub,List.map,zCF] at O
 generalize τ 1=v1 at O
 refine Za (Ya (Ya (rZ O (qg 0 101 r1 r1 (qa 101 r1 r1 qZ)) V [6,2,1] [101,0] fun O=>?_)))
 refine Zd O Z (fun hc0=>?_) (fun hc0=>?_)
 ·have hg:(Zok (ofO o)).2=ZcI o:=by rw [ZkC];unfold ZcI;rw [ZgJ hc0]
  refine Ya (rZ O (qe 4 101 r1 r1 (qf (oP (Zos o) func148 (Args.one (.pagg .t))) r1 qz (qf (oP (ZmH (ofO o)) func215 (Args.one .t)) r1 qz (qR rr (qf (o_extract .t Z) r1 qz (qf (o_extract .t Z) r1 qz (qO rr (qO rr qZ)))))))) V [4,2,1] [101,0] fun O=>Ya ?_)
  refine rZ O (qR rr (qO rr qZ)) V [2,1] [101,0] fun O=>(Yi (Zk ?_))
  refine ZP hfr O Z Z Z (.int hg)
 have hr:o.read=false:=hc0
 refine Yf (Za (Ya (Ya (rZ O (qe 4 101 r1 r1 (qg 1 101 r1 r1 (qa 101 r1 r1 (qf (oB [(1,.tmp 16)] [.bool false,.int .i64 0,.int .i64 0,.int .i64 0] [(0,1),(1,1),(2,1),(3,1)] (.one Z .t one_int kr .nil)) r1 qz (qf (Zm6 (ks:=[false,true,true,true]) kr .t .t (.bool (.int (.int (.int .nil))))) r2 qz (qR rr (qv 1 101 Z r2 r1 (qw 101 Z r2 r1 (qk Z (fun h=>ZaG (.w h) qi) r2 qz (qf (ZaQ .t .t) r2 qz (qR rr (qv 1 101 Z r2 r1 (qw 101 Z r2 r1 (qk Z (fun h=>Zas (.w h) qi) r2 qz (qf (ZaQ .t .t) r2 qz qZ))))))))))))))) V [28,2] [101,0] fun O=>?_))))
 refine Zd O Z (fun hc1=>?_) (fun hc1=>?_)
 ·have hg:(1:Int)=ZcI o:=by
    unfold ZcI
    rw [Yc]
    rw [ZfX hr]
    simp [hr,idB] at hc1 ⊢
    omega
  refine Ya (rZ O (qI qZ) V [2] [101,0] fun O=>(Yi (Zk ?_)))
  refine ZP hfr O Z Z Z (.int hg)
 have hg:(0:Int)=ZcI o:=by
   unfold ZcI
   rw [Yd]
   rw [ZfX hr]
   simp [hr,idB] at hc1 ⊢
   omega
 refine Yf (Za (Ya (rZ O (qI qZ) V [2] [101,0] fun O=>Yi ?_)))
 refine ZP hfr O Z Z Z (.int hg)
theorem Zpe (t : TxD) (hl : t.ops.length ≤ 1000000) (p : OpD → Bool) (f : FuncId) (fn : Func) (cps : List PV) (hf : prog.funcs[f]? = some fn) (hb : fn.body.isSome = true) (hnn : (fn.name == "runtime.NumGoroutine") = false) (hw : ∀ x, FnP prog f (.agg (rOp x) :: cps) (.bool (p x))) : FnP prog 144 [.agg (rTx t), .clos f cps] (.sl ZG (ZeH ((t.ops.filter p).map OpD.key))) := by
 refine FnP.mk func144 Z ntmps144 Z fun B a w F V hfr O=>Ya ?_
 refine Zb O (qx 101 r1 (qC qZ)) V [4,2,1] [101,0] (fun _=>rfl) (fun _=>rfl) fun τ a w F O=>?_
 try dsimp only [RS.sub,SF.sub,CF.sub,csub,Anc.sub,List.map,zCF,ZG,rOp,rTx] at O
 generalize τ 2=v2 at O
 refine Za (Ya (rZ O (qC qZ) V [5,4,2,1] [101,0] fun O=>(Ya (Ya ?_))))
 refine rZ O (qg 2 101 r1 r1 (qa 101 r1 r1 (qu Ybz r1 (qJ qZ)))) V [11,10,9,5,4,1] [101,0] fun O=>Ye ?_
 replace O:=O.fresh 50 rfl
 replace O:=O.turn 50 Z (ZaI (T:=3) (sz:=1) (R:=ZG))
 refine Zo (σ:=(Nat)×(Value)×(List Int)) [1,4,9,10] [0,101] (fun s=>[(11,.pv (.int .i64 (s.1:Int))),(5,.pv (.is s.2.1))]) (fun s=>[(50,.ob (.val s.2.1) (ZJ 3 1 ZG s.2.2))]) (fun s=>s.1≤t.ops.length∧(s.2.2=(((t.ops.take s.1).filter p).map OpD.key))) (fun s=>t.ops.length - s.1) ((0),(.slice none 0 0),([])) O ⟨rfl,rfl,rfl,rfl,rfl,rfl,tv⟩ ⟨rfl,rfl,rfl,tv⟩ ⟨Yz _,rfl⟩ ?_
 clear O;intro s a w F hC O
 obtain ⟨i,v,out⟩:=s
 try dsimp only at hC
 obtain ⟨F,O⟩:=O.nM [11,10,9,5,4,1] [101,50,0]
 try dsimp only at O
 obtain ⟨hi,hq⟩:=hC
 have hol:out.length≤i:=by rw [hq,YF];exact Yac (Yaa _ _) (by rw [Yk];omega)
 refine Ya (rZ O (qL r2) V [12,11,10,9,5,4,1] [101,50,0] fun O=>Ya ?_)
 refine Zd O Z (fun hc0=>?_) (fun hc0=>?_)
 ·skip
  have hil:i<t.ops.length:=by simp at hc0;omega
  refine Yf (Za (Ya (Ye (Ya (Zb O (qy 4 Ybz r2 (qf (oR true 4 .t) r1 qz (qf (oH [.bool false,.int .i64 0,.int .i64 0,.int .i64 0] 102) trivial qz (qS 4 102 r2 r1 qZ)))) V [11,10,9,7,5,4,1] [102,101,50,0] (fun _=>rfl) (fun _=>rfl) fun τ a w F O=>?_)))))
  try dsimp only [RS.sub,SF.sub,CF.sub,csub,Anc.sub,List.map,Ze,xL,xM,Nat.reduceAdd,xD,xE,xT,xU,xC,xN,zCF,ldSF,ZG,rOp,rTx] at O
  generalize τ 7=v7 at O
  try simp only [Yg] at O
  refine Za (Ya (rZ O (qR rr (qe 4 102 r1 r1 (qf (o_callClosP (avs:=[.agg (rOp (Nn t.ops i))]) .t (hw (Nn t.ops i)) hf hb hnn (Args.one (.pagg .t))) r2 qz qZ))) V [17,11,10,9,7,5,4,1] [102,101,50,0] fun O=>?_))
  refine Zd O Z (fun hc1=>?_) (fun hc1=>?_)
  ·skip
   have hBq:p (Nn t.ops i)=true:=by simpa using hc1
   refine Zb O (qR rr (qg 1 102 r1 r1 (qa 102 r1 r1 (qf (Zy (sz:=1) (zs:=[.int .i64 0]) (r:=[(0,.tmp 20)]) (l:=[_]) Yby kr kr kr kr Z Z (.one Z .t one_int kr .nil) Z) r1 qz (qf (Z1 (sz:=1) (bs:=8) 50 (.mk' Yby kr kr) (by intro x;rfl) .is (.arr (l':=[(Nn t.ops i).key]) .t) (by simp only [Yb,Yp,Yx,Yk,YT];omega) (by decide)) ⟨rfl,rfl,tv⟩ ⟨rfl,tv⟩ (qO rr qZ)))))) V [11,10,9,5,4,1] [102,101,50,0] (fun _=>rfl) (fun _=>rfl) fun τ a w F O=>?_
   try dsimp only [RS.sub,SF.sub,CF.sub,csub,Anc.sub,List.map,Ze,xL,xM,Nat.reduceAdd,xD,xE,xT,xU,xC,xN,zCF,ldSF,ZG,rOp,rTx] at O
   generalize τ 22=v22 at O
   refine Zm (Za (rZ O (qp r1 (qR rr qZ)) V [11,10,9,5,4,1] [102,101,50,0] fun O=>?_))
   replace O:=O.ent (i:=11) (s':=.pv (.int .i64 ((i+1:Nat):Int))) Z (.int (Zl ow))
   obtain ⟨F,O⟩:=O.nM [10,9,4,1,5,11] [101,0,50]
   exact ⟨((i+1),_,_),F,⟨by omega,(by rw [Z9 hil,YaJ,YL,← hq];simp [hBq])⟩,O,by omega⟩
  have hBq:p (Nn t.ops i)=false:=by simpa using hc1
  refine Yf (Zm (Za (rZ O (qp r1 (qR rr qZ)) V [11,10,9,5,4,1] [102,101,50,0] fun O=>?_)))
  replace O:=O.ent (i:=11) (s':=.pv (.int .i64 ((i+1:Nat):Int))) Z (.int (Zl ow))
  obtain ⟨F,O⟩:=O.nM [10,9,4,1,5,11] [101,0,50]
  exact ⟨((i+1),_,_),F,⟨by omega,(by rw [Z9 hil,YaJ,YL,← hq];simp [hBq])⟩,O,by omega⟩
 have hil:i=t.ops.length:=by simp at hc0;omega
 refine Yr (Zj (Zj (Zv (Za (Ya (rZ O (qR rr (qf (ZQ 50 (Zkl _ out ow) func92 Z kr (Args.one .t)) r1 r1 qZ)) V [5,4] [101,50,0] fun O=>Ya ?_))))))
 refine Zb O (qR rr (qf (ZkM 50 (ZoF _ _ (by rw [List.length_mergeSort];omega)) func212 Z kr (Args.one .t) ZeB) r1 r1 (qO rr qZ))) V [4] [101,50,0] (fun _=>rfl) (fun _=>rfl) fun τ a w F O=>?_
 try dsimp only [RS.sub,SF.sub,CF.sub,csub,Anc.sub,List.map,ZG,rOp,rTx] at O
 generalize τ 27=v27 at O
 refine Za (Yi ?_)
 obtain ⟨F,O⟩:=O.give 50 4 Z rfl
 refine ZP hfr O Z Z Z (.sl (by rw [ZgA,Zi0,hq,hil,YM]))
theorem ZhV (l:List Int):(ZeH l).length≤l.length:=by
 have key:∀ (l acc:List Int),(l.foldl ZkH acc).length≤acc.length+l.length:=fun l=>by
  induction l with
  | nil=>intro acc;simp
  | cons x l ih=>
   intro acc
   have h1:=ih (ZkH acc x)
   have h2:(ZkH acc x).length≤acc.length+1:=ZhP acc false
   rw [Ybc,Yp];omega
 have:=key l []
 simpa [ZeH] using this
theorem Ent.fnClos {f:FuncId} : Ent (.pv (.is (.func (.func f) #[] #[]))) (.pv (.clos f [])):=fun τ w y v h=>⟨[],h.1,tv⟩
theorem ZoS (o:OpD):FnP prog 145 [.agg (rOp o)] (.bool (!o.read)):=by
 refine FnP.mk func145 Z ntmps145 Z fun B a w F V hfr O=>Ya ?_
 refine Zb O (qx 101 r1 qB) V [2,1] [101,0] (fun _=>rfl) (fun _=>rfl) fun τ a w F O=>?_
 try dsimp only [RS.sub,SF.sub,CF.sub,csub,Anc.sub,List.map,zCF,rOp] at O
 generalize τ 1=v1 at O
 refine Za (Ya (rZ O (qg 0 101 r1 r1 (qa 101 r1 r1 (qf (ZaA .t) r1 qz (qO rr qZ)))) V [2] [0] fun O=>Yi ?_))
 refine ZP hfr O Z Z Z (.bool Z)
theorem Zo7 (t:TxD) (hl:t.ops.length≤1000000):FnP prog 82 [.agg (rTx t)] (.sl ZG (ZeH ((t.ops.filter fun o=>!o.read).map OpD.key))):=by
 refine FnP.mk func82 Z ntmps82 Z fun B a w F V hfr O=>Ya ?_
 refine Zb O (qx 101 r1 (qC qZ)) V [2,1] [101,0] (fun _=>rfl) (fun _=>rfl) fun τ a w F O=>?_
 try dsimp only [RS.sub,SF.sub,CF.sub,csub,Anc.sub,List.map,zCF,rTx,ZG] at O
 generalize τ 1=v1 at O
 refine Za (Ya (rZ O (qe 3 101 r1 r1 (qf (oP (Zpe t hl (fun o=>!o.read) 145 f145 [] func145 Z kr (fun o=>ZoS o)) func144 (Args.two (.pagg .t) (.conv .f (Ent.fnClos)))) r1 qz (qO rr qZ))) V [2] [0] fun O=>Yi ?_))
 refine ZP hfr O Z Z Z (.sl Z)
theorem Zms (t:TxD) (n:Int) (hl:t.ops.length≤1000000):FnP prog 87 [.agg (rTx t),.int .i64 n] (.int .i64 (((t.ops.filter fun o=>!o.read && decide (o.key=n)).length:Nat):Int)):=by
 refine FnP.mk func87 Z ntmps87 Z fun B a w F V hfr O=>?_
 have hll:t.ops.length≤1000000:=hl
 refine Ya (Zb O (qx 101 r1 (qI qZ)) V [4,2,1] [101,0] (fun _=>rfl) (fun _=>rfl) fun τ a w F O=>?_)
 try dsimp only [RS.sub,SF.sub,CF.sub,csub,Anc.sub,List.map,zCF,ZG,rOp,rTx] at O
 generalize τ 2=v2 at O
 refine Za (Ya (rZ O (qI qZ) V [5,4,2,1] [101,0] fun O=>(Ya (Ya ?_))))
 refine rZ O (qg 2 101 r1 r1 (qa 101 r1 r1 (qu Ybz r1 (qJ qZ)))) V [11,10,9,5,4,1] [0] fun O=>Ye ?_
 refine Zo (σ:=(Nat)) [1,4,9,10] [0] (fun s=>[(11,.pv (.int .i64 (s:Int))),(5,.pv (.int .i64 ((((t.ops.take s).filter fun o=>!o.read && decide (o.key=n)).length:Nat):Int)))]) (fun s=>[]) (fun s=>s≤t.ops.length∧(True)) (fun s=>t.ops.length - s) (0) O ⟨rfl,rfl,rfl,rfl,rfl,rfl,tv⟩ ⟨rfl,tv⟩ ⟨Yz _,tv⟩ ?_
 clear O;intro i a w F hC O
 try dsimp only at hC
 obtain ⟨F,O⟩:=O.nM [11,10,9,5,4,1] [0]
 try dsimp only at O
 obtain ⟨hi,hq⟩:=hC
 refine Ya (rZ O (qL r2) V [12,11,10,9,5,4,1] [0] fun O=>Ya ?_)
 refine Zd O Z (fun hc0=>?_) (fun hc0=>?_)
 ·have hil:i<t.ops.length:=by simp at hc0;omega
  refine Yf (Za (Ya (Ye (Ya (Zb O (qy 4 Ybz r2 (qf (oR true 4 .t) r1 qz (qf (oH [.bool false,.int .i64 0,.int .i64 0,.int .i64 0] 102) trivial qz (qS 4 102 r2 r1 qZ)))) V [11,10,9,7,5,4,1] [102,0] (fun _=>rfl) (fun _=>rfl) fun τ a w F O=>?_)))))
  try dsimp only [RS.sub,SF.sub,CF.sub,csub,Anc.sub,List.map,Ze,xL,xM,Nat.reduceAdd,xD,xE,xT,xU,xC,xN,zCF,ldSF,ZG,rOp,rTx] at O
  generalize τ 7=v7 at O
  try simp only [Yg] at O
  refine Za (Ya (rZ O (qg 0 102 r1 r1 (qa 102 r1 r1 (qf (ZaA .t) r1 qz (qR rr (qv 1 102 Z r2 r1 (qw 102 Z r2 r1 (qm Z Z Z Z (qk Z (fun h=>o_eql (.w h) (.w h)) r3 qz (qf (ZT .t .t) r2 qz qZ))))))))) V [23,11,10,9,5,4,1] [0] fun O=>?_))
  refine Zd O Z (fun hc1=>?_) (fun hc1=>?_)
  ·have hstp:((t.ops.take (i+1)).filter fun o=>!o.read && decide (o.key=n))=((t.ops.take i).filter fun o=>!o.read && decide (o.key=n))++(if (!(Nn t.ops i).read && decide ((Nn t.ops i).key=n))=true then [(Nn t.ops i)] else []):=by rw [Z9 hil,YaJ];simp only [Yau,List.filter_nil]
   have hle:((t.ops.take i).filter fun o=>!o.read && decide (o.key=n)).length≤i:=Yac (Yaa _ _) (by rw [Yk];omega)
   have hBq:(!(Nn t.ops i).read && decide ((Nn t.ops i).key=n))=true:=hc1
   have hcc:IntKind.wrap .i64 (((((t.ops.take i).filter fun o=>!o.read && decide (o.key=n)).length:Nat):Int)+1)=((((t.ops.take (i+1)).filter fun o=>!o.read && decide (o.key=n)).length:Nat):Int):=by rw [hstp,Yd hBq,Yb,Zc ow];simp
   refine Zf O (qR rr (qp r1 (qO rr qZ))) V [11,10,9,5,4,1] [0] Z Z fun a w F O=>Zm (Za ?_)
   refine rZ O (qp r1 (qR rr qZ)) V [11,10,9,5,4,1] [0] fun O=>?_
   replace O:=O.ent (i:=11) (s':=.pv (.int .i64 ((i+1:Nat):Int))) Z (.int (Zl ow))
   replace O:=O.ent (i:=5) (s':=.pv (.int .i64 ((((t.ops.take (i+1)).filter fun o=>!o.read && decide (o.key=n)).length:Nat):Int))) Z (.int hcc)
   obtain ⟨F,O⟩:=O.nM [10,9,4,1,5,11] [0]
   exact ⟨(i+1),F,⟨by omega,tv⟩,O,by omega⟩
  have hstp:((t.ops.take (i+1)).filter fun o=>!o.read && decide (o.key=n))=((t.ops.take i).filter fun o=>!o.read && decide (o.key=n))++(if (!(Nn t.ops i).read && decide ((Nn t.ops i).key=n))=true then [(Nn t.ops i)] else []):=by rw [Z9 hil,YaJ];simp only [Yau,List.filter_nil]
  have hle:((t.ops.take i).filter fun o=>!o.read && decide (o.key=n)).length≤i:=Yac (Yaa _ _) (by rw [Yk];omega)
  have hBq:(!(Nn t.ops i).read && decide ((Nn t.ops i).key=n))=false:=hc1
  have hcc:((((t.ops.take i).filter fun o=>!o.read && decide (o.key=n)).length:Nat):Int)=((((t.ops.take (i+1)).filter fun o=>!o.read && decide (o.key=n)).length:Nat):Int):=by rw [hstp,Yc (by rw [hBq];simp),YD]
  refine Yf (Zm (Za (rZ O (qp r1 (qR rr qZ)) V [11,10,9,5,4,1] [0] fun O=>?_)))
  replace O:=O.ent (i:=11) (s':=.pv (.int .i64 ((i+1:Nat):Int))) Z (.int (Zl ow))
  replace O:=O.ent (i:=5) (s':=.pv (.int .i64 ((((t.ops.take (i+1)).filter fun o=>!o.read && decide (o.key=n)).length:Nat):Int))) Z (.int hcc)
  obtain ⟨F,O⟩:=O.nM [10,9,4,1,5,11] [0]
  exact ⟨(i+1),F,⟨by omega,tv⟩,O,by omega⟩
 have hil:i=t.ops.length:=by simp at hc0;omega
 refine Yr (Zj (Zj (Zv (Za (Ya (rZ O (qR rr (qO rr qZ)) V [4] [0] fun O=>Yi ?_))))))
 refine ZP hfr O Z Z Z (.int (by rw [hil,YM]))
def wcnt (l:List OpD) (k:Int):Nat:=(l.filter fun o=>!o.read && decide (o.key=k)).length
theorem ZhN {l:List OpD} {i:Nat} (h:i<l.length) (k:Int):wcnt (l.take (i+1)) k=wcnt (l.take i) k+if (Nn l i).read=false∧(Nn l i).key=k then 1 else 0:=by
 unfold wcnt
 rw [Z9 h,YaJ,Yb]
 congr 1
 by_cases h1:(Nn l i).read=false∧(Nn l i).key=k
 ·rw [Yd h1];simp [h1.1,h1.2]
 ·rw [Yc h1]
  have:(!(Nn l i).read && decide ((Nn l i).key=k))=false:=by
   cases hr:(Nn l i).read with
   | true=>rfl
   | false=>simp;exact fun e=>h1 ⟨hr,e⟩
  simp [this]
theorem Zpf (l:List OpD) (i:Nat) (k:Int):wcnt (l.take i) k≤i:=Yac (Yaa _ _) (by rw [Yk];omega)
def Zbf (id:Int):List OpD→List OpD→Int
 | _,[]=>0
 | s,o :: r=>if Zcr o=false then 1 else if o.read=true∧o.tx=id∧(wcnt s o.key:Int)<o.nth then 6 else Zbf id (s ++ [o]) r
def ZcA (t:TxD):Int:=if ¬ (1≤t.id∧t.id≤1048575) then 1 else if 4095<t.ops.length then 9 else Zbf t.id [] t.ops
theorem Zc7 {id:Int} {l:List OpD} {i:Nat} (h:i<l.length):Zbf id (l.take i) (l.drop i)=if Zcr (Nn l i)=false then 1 else if (Nn l i).read=true∧(Nn l i).tx=id∧(wcnt (l.take i) (Nn l i).key:Int)<(Nn l i).nth then 6 else Zbf id (l.take (i+1)) (l.drop (i+1)):=by
 rw [Zks h,Zbf,Z9 h]
theorem Zi9 {id:Int} {l:List OpD} {i:Nat} (h:i=l.length):Zbf id (l.take i) (l.drop i)=0:=by rw [h,List.drop_length];rfl
def ZlO (id:Int) (o:OpD):Bool:=(o.read && !decide (o.tx=0)) && !decide (o.tx=id)
def Zbz (id:Int) (out:List Zc9) (o:OpD):List Zc9:=if ZlO id o=true∧ofO o ∉ out then out ++ [ofO o] else out
def Zdf (id:Int) (l:List OpD):List Zc9:=l.foldl (Zbz id) []
def Zlx (t:TxD):List Zc9:=Zdf t.id t.ops
theorem ZiY {id:Int} {l:List OpD} {i:Nat} (h:i<l.length):Zdf id (l.take (i+1))=Zbz id (Zdf id (l.take i)) (Nn l i):=by
 unfold Zdf
 rw [Z9 h,List.foldl_append]
 rfl
theorem Zie (id:Int) (out:List Zc9) (o:OpD):(Zbz id out o).length≤out.length+1:=by
 unfold Zbz
 split <;> simp
theorem Zkx (id:Int) (l:List OpD) (i:Nat):(Zdf id (l.take i)).length≤i:=by
 have key:∀ (l:List OpD) (out:List Zc9),(l.foldl (Zbz id) out).length≤out.length+l.length:=by
  intro l
  induction l with
  | nil=>intro out;simp
  | cons x l ih=>
   intro out
   have h1:=ih (Zbz id out x)
   have h2:=Zie id out x
   rw [Ybc,Yp];omega
 have:=key (l.take i) []
 rw [Yk] at this
 unfold Zdf
 simp at this ⊢
 omega
structure Zbk where
 key:Int
 nth:Int
 deriving DecidableEq,Inhabited
def Zbt (p:Zbk):List Int:=[p.key,p.nth]
def Zde (v:Zc9):List Int:=[v.tx,v.key,v.nth]
def Zce (es:List (GE Zbk Int)) (s:List OpD):Prop:=∀ k n,0≤n→(gGet (⟨k,n⟩:Zbk) es).getD 0=if n=0 then (wcnt s k:Int) else if n≤wcnt s k then 1 else 0
theorem ZlQ:Zce [] []:=fun k n h=>by
 show (0:Int)=_
 have:wcnt [] k=0:=rfl
 rw [this]
 split
 ·rfl
 ·rw [Yc (by simp;omega)]
theorem Zml {es:List (GE Zbk Int)} {l:List OpD} {i:Nat} (h:Zce es (l.take i)) (hi:i<l.length) (hr:(Nn l i).read=true):Zce es (l.take (i+1)):=fun k n hn=>by
 rw [h k n hn,ZhN hi,Yc (c:=(Nn l i).read=false∧(Nn l i).key=k) (by simp [hr]),Ybb]
theorem ZmU {es es2:List (GE Zbk Int)} {l:List OpD} {i:Nat} {c:Int} (h:Zce es (l.take i)) (hi:i<l.length) (hr:(Nn l i).read=false) (hc:c=(wcnt (l.take i) (Nn l i).key:Int)+1)
  (he:∀ p,(gGet p es2).getD 0=if p = ⟨(Nn l i).key,c⟩ then 1 else if p = ⟨(Nn l i).key,0⟩ then c else (gGet p es).getD 0):Zce es2 (l.take (i+1)):=fun k n hn=>by
 have hk:=h k n hn
 rw [he,hk,ZhN hi]
 by_cases e:(Nn l i).key=k
 ·rw [Yd (c:=(Nn l i).read=false∧_) ⟨hr,e⟩]
  rw [e] at hc
  rw [e]
  by_cases e2:n=c
  ·subst e2
   rw [Yd rfl,Yc ow,Yd ow]
  ·rw [Yc (by simp [e2])]
   by_cases e3:n=0
   ·subst e3
    rw [Yd rfl,Yd rfl,hc];simp
   ·rw [Yc (by simp [e3]),Yc e3,Yc e3]
    by_cases e4:n≤(wcnt (l.take i) k:Int)
    ·rw [Yd e4,Yd ow]
    ·rw [Yc e4,Yc ow]
 ·rw [Yc (c:=(Nn l i).read=false∧_) (by simp [e]),Ybb,Yc (by simp;exact fun h=>absurd h.symm e),Yc (by simp;exact fun h=>absurd h.symm e)]
def Zd9 (es:List (GE Zc9 Int)) (i:Nat) (out:List Zc9):Prop:=∀ v,0≤(gGet v es).getD 0∧(gGet v es).getD 0≤i∧(0<(gGet v es).getD 0 ↔ v ∈ out)
theorem ZnN:Zd9 [] 0 []:=fun v=>⟨Yak _,Yak _,by show (0:Int)<0 ↔ _;simp⟩
theorem ZnM {es:List (GE Zc9 Int)} {i:Nat} {out:List Zc9} (h:Zd9 es i out):Zd9 es (i+1) out:=fun v=>⟨(h v).1,by have:=(h v).2.1;omega,(h v).2.2⟩
theorem Znc {es es2:List (GE Zc9 Int)} {i:Nat} {out:List Zc9} {v:Zc9} (h:Zd9 es i out) (he:∀ u,(gGet u es2).getD 0=if u=v then (gGet v es).getD 0+1 else (gGet u es).getD 0):Zd9 es2 (i+1) (if v ∈ out then out else out ++ [v]):=fun u=>by
 have h1:=h u
 have h2:=h v
 rw [he u]
 by_cases e:u=v
 ·subst e
  rw [Yd rfl]
  refine ⟨by omega,by omega,?_⟩
  constructor
  ·intro _;split <;> simp_all
  ·intro _;omega
 ·rw [Yc e]
  refine ⟨by omega,by omega,?_⟩
  rw [h1.2.2]
  split
  ·rfl
  ·simp [e]
theorem Zgy {κ:Type} [DecidableEq κ] {k p:κ} {x:Int} (s:List (GE κ Int)×Nat):(gGet p (gSet k x (gEns 0 k s).1)).getD 0=if p=k then x else (gGet p s.1).getD 0:=by
 rw [Zkw];split <;> rfl
theorem Zne {κ:Type} [DecidableEq κ] {k p:κ} {x:Int} (s:List (GE κ Int)×Nat):(gGet p (gPut k x s).1).getD 0=if p=k then x else (gGet p s.1).getD 0:=by
 rw [ZdU];split <;> rfl
theorem Zfe:Zli prog 215 (fun k=>∀ x ∈ Zbt k,inR .i64 x) (kvS Zbt):=ZfM (n:=2) (fun _=>rfl) (fun a b h=>by cases a;cases b;simpa [Zbt] using h) kr
theorem Zlm:Zli prog 146 (fun k=>∀ x ∈ Zde k,inR .i64 x) (kvS Zde):=ZfM (n:=3) (fun _=>rfl) (fun a b h=>by cases a;cases b;simpa [Zde] using h) kr
theorem ZhC {es:List (GE Zbk Int)} {s:List OpD} {o:OpD} {id:Int} (h:Zce es s) (hk:Zcr o=true) (hr:o.read=true) (hid:1≤id):(o.tx=id∧(gGet (⟨o.key,o.nth⟩:Zbk) es).getD 0=0) ↔ (o.read=true∧o.tx=id∧(wcnt s o.key:Int)<o.nth):=by
 have hb:=ZmB hk
 have h1:=h o.key o.nth ow
 constructor
 ·rintro ⟨e1,e2⟩
  refine ⟨hr,e1,?_⟩
  have hn:1≤o.nth:=by
   rw [ZgJ hr] at hk
   unfold ofO at hk
   rw [Yd hr] at hk
   unfold Zct at hk
   rw [Yc (show ¬ o.tx=0 by omega)] at hk
   simp at hk
   omega
  rw [e2,Yc ow] at h1
  split at h1
  ·cases h1
  ·omega
 ·rintro ⟨_,e1,e2⟩
  refine ⟨e1,?_⟩
  rw [h1,Yc ow,Yc ow]
theorem ZmC (t:TxD):FnP prog 85 [.agg (rTx t)] (.int .i64 (ZcA t)):=by
 refine FnP.mk func85 Z ntmps85 Z fun B a w F V hfr O=>Ya ?_
 refine Zb O (qx 101 r1 (qI qZ)) V [2,1] [101,0] (fun _=>rfl) (fun _=>rfl) fun τ a w F O=>?_
 try dsimp only [RS.sub,SF.sub,CF.sub,csub,Anc.sub,List.map,zCF,ZG,rOp,rTx] at O
 generalize τ 1=v1 at O
 refine Za (Ya (Ye (Ya (rZ O (qg 0 101 r1 r1 (qa 101 r1 r1 (qf (ZaG .t qi) r1 qz (qR rr (qv 0 101 Z r2 r1 (qw 101 Z r2 r1 (qk Z (fun h=>Zas (.w h) qi) r2 qz (qf (ZaQ .t .t) r2 qz (qO rr qZ))))))))) V [7,2,1] [101,0] fun O=>?_))))
 refine Zd O Z (fun hc0=>?_) (fun hc0=>?_)
 ·have hg:1=ZcA t:=by unfold ZcA;rw [Yd (by simp at hc0;omega)]
  refine Ya (rZ O (qI qZ) V [2,1] [101,0] fun O=>(Yi (ZC (Zk ?_))))
  refine ZP hfr O Z Z Z (.int hg)
 have hid:1≤t.id∧t.id≤1048575:=by simp at hc0;omega
 refine Ya (rZ O (qg 2 101 r1 r1 (qa 101 r1 r1 (qu Ybz r1 (qf (Zas .t qi) r1 qz (qO rr qZ))))) V [16,2,1] [101,0] fun O=>?_)
 refine Zd O Z (fun hc1=>?_) (fun hc1=>?_)
 ·have hg:9=ZcA t:=by unfold ZcA;rw [Yc ow,Yd (by simp at hc1;omega)]
  refine Ya (rZ O (qI qZ) V [2,1] [101,0] fun O=>(Yi (ZC (Zk ?_))))
  refine ZP hfr O Z Z Z (.int hg)
 have hlen:t.ops.length≤4095:=by simp at hc1;omega
 have hT:ZcA t=Zbf t.id [] t.ops:=by unfold ZcA;rw [Yc ow,Yc ow]
 refine Yf (Zm (Za (Ya (Zb O (qf (Zb7 (ek:=(fun n:Int=>PV.int .i64 n)) (ok:=(fun k=>∀ x ∈ Zbt k,inR .i64 x)) (kv:=(kvS Zbt)) 102) trivial qz (qO rr qZ)) V [3,2,1] [102,101,0] (fun _=>rfl) (fun _=>rfl) fun τ a w F O=>?_))))
 try dsimp only [RS.sub,SF.sub,CF.sub,csub,Anc.sub,List.map,Ze,xL,xM,Nat.reduceAdd,xD,xE,xT,xU,xC,xN,zCF,ZG,rOp,rTx] at O
 generalize τ 21=v21 at O
 refine Za (Ya (Ya (rZ O (qg 2 101 r1 r1 (qa 101 r1 r1 (qu Ybz r1 (qJ qZ)))) V [25,24,23,3,2,1] [102,101,0] fun O=>Ye ?_)))
 refine Zo (σ:=(Nat)×(List (GE Zbk Int))×(Nat)) [1,2,3,23,24] [0,101] (fun s=>[(25,.pv (.int .i64 (s.1:Int)))]) (fun s=>[(102,.ob (.val v21) (mapG (fun n:Int=>PV.int .i64 n) (fun k=>∀ x ∈ Zbt k,inR .i64 x) (kvS Zbt) s.2.1 s.2.2))]) (fun s=>s.1≤t.ops.length∧(Zbf t.id [] t.ops=Zbf t.id (t.ops.take s.1) (t.ops.drop s.1)∧Zce s.2.1 (t.ops.take s.1))) (fun s=>t.ops.length - s.1) ((0),([]),(0)) O ⟨rfl,rfl,rfl,rfl,rfl,rfl,tv⟩ ⟨rfl,rfl,rfl,tv⟩ ⟨Yz _,⟨rfl,ZlQ⟩⟩ ?_
 clear O;intro s a w F hC O
 obtain ⟨i,es,ck⟩:=s
 try dsimp only at hC
 obtain ⟨F,O⟩:=O.nM [25,24,23,3,2,1] [102,101,0]
 try dsimp only at O
 obtain ⟨hi,hq⟩:=hC
 obtain ⟨hrt,hsp⟩:=hq
 have hwl:=fun k=>Zpf t.ops i k
 refine Ya (rZ O (qL r2) V [26,25,24,23,3,2,1] [102,101,0] fun O=>Ya ?_)
 refine Zd O Z (fun hc2=>?_) (fun hc2=>?_)
 ·have hil:i<t.ops.length:=by simp at hc2;omega
  refine Yf (Za (Ya (Ye (Ya (Zb O (qy 4 Ybz r2 (qf (oR true 4 .t) r1 qz (qf (oH [.bool false,.int .i64 0,.int .i64 0,.int .i64 0] 103) trivial qz (qS 4 103 r2 r1 qZ)))) V [25,24,23,5,3,2,1] [103,102,101,0] (fun _=>rfl) (fun _=>rfl) fun τ a w F O=>?_)))))
  try dsimp only [RS.sub,SF.sub,CF.sub,csub,Anc.sub,List.map,Ze,xL,xM,Nat.reduceAdd,xD,xE,xT,xU,xC,xN,zCF,ldSF,ZG,rOp,rTx] at O
  generalize τ 5=v5 at O
  try simp only [Yg] at O
  refine Za (Ya (Ya (rZ O (qe 4 103 r1 r1 (qf (oP (Zlo (Nn t.ops i)) func149 (Args.one (.pagg .t))) r1 qz (qO rr qZ))) V [25,24,23,6,5,3,2,1] [103,102,101,0] fun O=>Ya ?_)))
  refine rZ O (qR rr (qf (o_neq .t qi) r1 qz qZ)) V [32,25,24,23,6,5,3,2,1] [103,102,101,0] fun O=>?_
  refine Zd O Z (fun hc3=>?_) (fun hc3=>?_)
  ·have hk:Zcr (Nn t.ops i)=false:=by unfold ZcI at hc3;simpa using hc3
   have hg:ZcI (Nn t.ops i)=ZcA t:=by rw [hT,hrt,Zc7 hil,Yd hk];unfold ZcI;rw [hk];rfl
   refine Ya (rZ O (qR rr (qO rr qZ)) V [25,24,23,5,3,2,1] [103,102,101,0] fun O=>(Yi (Zk (ZC (Zk (Zk (ZC (Zk ?_))))))))
   refine ZP hfr O Z Z Z (.int hg)
  have hk:Zcr (Nn t.ops i)=true:=by unfold ZcI at hc3;simpa using hc3
  refine Yf (Za (Ya (Ya (rZ O (qg 0 103 r1 r1 (qa 103 r1 r1 (qf (ZaA .t) r1 qz qZ))) V [36,25,24,23,5,3,2,1] [103,102,101,0] fun O=>?_))))
  refine Zd O Z (fun hc4=>?_) (fun hc4=>?_)
  ·have hr:(Nn t.ops i).read=false:=by simpa using hc4
   have hm0:=hsp (Nn t.ops i).key 0 (Yak _)
   rw [Yd rfl] at hm0
   have hwc:IntKind.wrap .i64 (((gGet (⟨(Nn t.ops i).key,0⟩:Zbk) es).getD 0)+1)=(wcnt (t.ops.take i) (Nn t.ops i).key:Int)+1:=by rw [hm0];exact Zc (by have:=hwl (Nn t.ops i).key;omega)
   refine Ya ?_
   replace O:=O.turnZ 102 (0) (⟨(Nn t.ops i).key,0⟩:Zbk) rfl
   refine Zfx 102 8 (m1:=1) (m2:=2) kr O kr (qR rr (qg 1 103 r1 r1 (qa 103 r1 r1 (qf (oB [(0,.tmp 39),(1,_)] [.int .i64 0,.int .i64 0] [(0,1),(1,1)] (.one Z .t one_int kr (.one Z qi one_int kr .nil))) r1 qz (qf (Zhv (ek:=(fun n:Int=>PV.int .i64 n)) (z0:=(0)) 102 underlying212 Zfe kr (fun _ _=>⟨rfl,Zf0⟩) .is (ZX.agg (enc:=Zbt) (k:=(⟨(Nn t.ops i).key,0⟩:Zbk)) (.pagg .t) Z)) r2 r1 (qp r1 (qf (Zfk (ek:=(fun n:Int=>PV.int .i64 n)) (z0:=(0)) 102 underlying212 Zfe kr (fun _ _=>⟨rfl,Zf0⟩) .is (ZX.agg (enc:=Zbt) (k:=(⟨(Nn t.ops i).key,0⟩:Zbk)) (.pagg .t) Z) (by intros;first | rfl | simp [Anc.v,upd])) r2 r1 (qf (o_extract .t Z) r1 qz (qf (ZdE 102 (ZfL _ _ _) .is .t .t) r3 r1 qZ))))))))) kr kr kr Z Z Z (fun _ _ _ _ h=>.inr h) (by rw [V];kernel_rfl) fun a w F O=>?_
   obtain ⟨F,O⟩:=O.nM [25,24,23,5,3,2,1] [103,102,101,0]
   try dsimp only [List.map,Ze,xL,xM,Nat.reduceAdd,xD,xE,xT,xU,xC,xN,zCF,ldSF,ZG,rOp,rTx] at O
   obtain ⟨es1,he1⟩:∃ z,z=gSet (⟨(Nn t.ops i).key,0⟩:Zbk) (IntKind.wrap .i64 (((gGet (⟨(Nn t.ops i).key,0⟩:Zbk) es).getD 0)+1)) (gEns 0 (⟨(Nn t.ops i).key,0⟩:Zbk) (es,ck)).1:=⟨_,rfl⟩
   obtain ⟨ck1,hc1⟩:∃ z,z=(gEns 0 (⟨(Nn t.ops i).key,0⟩:Zbk) (es,ck)).2:=⟨_,rfl⟩
   rw [← he1,← hc1] at O
   refine Za (Ya (Zq O (qR rr (qg 1 103 r1 r1 (qa 103 r1 r1 (qR rr (qg 1 103 r1 r1 (qa 103 r1 r1 (qf (oB [(0,.tmp 50),(1,_)] [.int .i64 0,.int .i64 0] [(0,1),(1,1)] (.one Z .t one_int kr (.one Z qi one_int kr .nil))) r1 qz (qf (Zaw (ek:=(fun n:Int=>PV.int .i64 n)) (z0:=(0)) 102 underlying212 Zfe kr (fun _ _=>⟨rfl,Zf0⟩) .is (ZX.agg (enc:=Zbt) (k:=(⟨(Nn t.ops i).key,0⟩:Zbk)) (.pagg .t) Z)) r2 r1 (qf (oB [(0,.tmp 47),(1,.tmp 52)] [.int .i64 0,.int .i64 0] [(0,1),(1,1)] (.one Z .t one_int kr (.one Z .t one_int kr .nil))) r2 qz (qf (Za3 (ek:=(fun n:Int=>PV.int .i64 n)) 102 underlying212 Zfe .is (ZX.agg (enc:=Zbt) (k:=(⟨(Nn t.ops i).key,(gGet (⟨(Nn t.ops i).key,0⟩:Zbk) es1).getD 0⟩:Zbk)) (.pagg .t) Z) qi) r2 r1 qZ)))))))))) V [25,24,23,5,3,2,1] [103,102,101,0] Z Z fun a w F O=>?_))
   try dsimp only [List.map,Ze,xL,xM,Nat.reduceAdd,xD,xE,xT,xU,xC,xN,zCF,ldSF,ZG,rOp,rTx] at O
   have hv1:∀ p,(gGet p es1).getD 0=if p=(⟨(Nn t.ops i).key,0⟩:Zbk) then (wcnt (t.ops.take i) (Nn t.ops i).key:Int)+1 else (gGet p es).getD 0:=fun p=>by rw [he1,Zgy,hwc]
   obtain ⟨es2,he2⟩:∃ z,z=(gPut (⟨(Nn t.ops i).key,(gGet (⟨(Nn t.ops i).key,0⟩:Zbk) es1).getD 0⟩:Zbk) 1 (es1,ck1)).1:=⟨_,rfl⟩
   obtain ⟨ck2,hc2⟩:∃ z,z=(gPut (⟨(Nn t.ops i).key,(gGet (⟨(Nn t.ops i).key,0⟩:Zbk) es1).getD 0⟩:Zbk) 1 (es1,ck1)).2:=⟨_,rfl⟩
   rw [← he2,← hc2] at O
   have hR2:Zbf t.id [] t.ops=Zbf t.id (t.ops.take (i+1)) (t.ops.drop (i+1))∧Zce es2 (t.ops.take (i+1)):=⟨by rw [hrt,Zc7 hil,Yc (by rw [hk];decide),Yc (by rw [hr];simp)],ZmU hsp hil hr rfl (fun p=>by rw [he2,Zne];dsimp only;rw [hv1,hv1,Yd rfl])⟩
   refine Za (Yr (Zj (Zv (Za (rZ O (qp r1 (qR rr qZ)) V [25,24,23,3,2,1] [103,102,101,0] fun O=>?_)))))
   replace O:=O.ent (i:=25) (s':=.pv (.int .i64 ((i+1:Nat):Int))) Z (.int (Zl ow))
   obtain ⟨F,O⟩:=O.nM [24,23,3,2,1,25] [101,0,102]
   exact ⟨((i+1),(es2),(ck2)),F,⟨by omega,hR2⟩,O,by omega⟩
  have hr:(Nn t.ops i).read=true:=by simpa using hc4
  refine Yf (Za (Ya (rZ O (qg 2 103 r1 r1 (qa 103 r1 r1 (qg 0 101 r1 r1 (qa 101 r1 r1 (qf (o_eql .t .t) r2 qz (qR rr (qm Z Z Z Z (qv 1 103 Z r2 r1 (qw 103 Z r2 r1 (qv 3 103 Z r2 r1 (qw 103 Z r2 r1 (qk Z (fun h=>ZcF (r:=[(0,.tmp 62),(1,.tmp 64)]) (zs:=[.int .i64 0,.int .i64 0]) (pl:=[(0,1),(1,1)]) kr kr (.one Z (.w h) one_int kr (.one Z (.w h) one_int kr .nil)) (by rfl)) r3 qz (qk Z (fun h=>Zaw (ek:=(fun n:Int=>PV.int .i64 n)) (z0:=(0)) 102 underlying212 Zfe kr (fun _ _=>⟨rfl,Zf0⟩) (.w h .is) (ZX.agg (enc:=Zbt) (k:=(⟨(Nn t.ops i).key,(Nn t.ops i).nth⟩:Zbk)) (.pagg (.w h)) Z)) r3 r1 (qk Z (fun h=>o_eql (.w h) qi) r2 qz (qf (ZT .t .t) r2 qz qZ))))))))))))))) V [68,25,24,23,3,2,1] [103,102,101,0] fun O=>?_)))
  refine Zd O Z (fun hc5=>?_) (fun hc5=>?_)
  ·have hg:6=ZcA t:=by rw [hT,hrt,Zc7 hil,Yc (by rw [hk];decide),Yd ((ZhC hsp hk hr hid.1).1 (by simpa using hc5))]
   refine Ya (rZ O (qI qZ) V [25,24,23,3,2,1] [103,102,101,0] fun O=>(Yi (ZC (Zk (Zk (ZC (Zk ?_)))))))
   refine ZP hfr O Z Z Z (.int hg)
  have hno:=fun h9=>(by simpa using hc5:¬ ((Nn t.ops i).tx=t.id∧(gGet (⟨(Nn t.ops i).key,(Nn t.ops i).nth⟩:Zbk) es).getD 0=0)) ((ZhC hsp hk hr hid.1).2 h9)
  obtain ⟨es2,he2⟩:∃ z,z=es:=⟨_,rfl⟩
  obtain ⟨ck2,hc2⟩:∃ z,z=ck:=⟨_,rfl⟩
  have hR2:Zbf t.id [] t.ops=Zbf t.id (t.ops.take (i+1)) (t.ops.drop (i+1))∧Zce es2 (t.ops.take (i+1)):=⟨by rw [hrt,Zc7 hil,Yc (by rw [hk];decide),Yc hno],by rw [he2];exact Zml hsp hil hr⟩
  rw [← he2,← hc2] at O
  refine Yf (Zm (Za (rZ O (qp r1 (qR rr qZ)) V [25,24,23,3,2,1] [103,102,101,0] fun O=>?_)))
  replace O:=O.ent (i:=25) (s':=.pv (.int .i64 ((i+1:Nat):Int))) Z (.int (Zl ow))
  obtain ⟨F,O⟩:=O.nM [24,23,3,2,1,25] [101,0,102]
  exact ⟨((i+1),(es2),(ck2)),F,⟨by omega,hR2⟩,O,by omega⟩
 have hil:i=t.ops.length:=by simp at hc2;omega
 have hg:0=ZcA t:=by rw [hT,hrt,Zi9 hil]
 refine Yr (Zj (Zj (Zv (Za (Ya (rZ O (qI qZ) V [2] [102,101,0] fun O=>Yi ?_))))))
 refine ZP hfr O Z Z Z (.int hg)
theorem ZmO (t:TxD) (hl:t.ops.length≤1000000):FnP prog 84 [.agg (rTx t)] (.sl Zaq (Zlx t)):=by
 refine FnP.mk func84 Z ntmps84 Z fun B a w F V hfr O=>Ya ?_
 refine Zb O (qx 101 r1 (qC qZ)) V [2,1] [101,0] (fun _=>rfl) (fun _=>rfl) fun τ a w F O=>?_
 try dsimp only [RS.sub,SF.sub,CF.sub,csub,Anc.sub,List.map,zCF,ZG,rOp,rTx,Zaq] at O
 generalize τ 1=v1 at O
 refine Za (Ya (rZ O (qC qZ) V [3,2,1] [101,0] fun O=>Ya ?_))
 refine Zb O (qf (Zb7 (ek:=(fun n:Int=>PV.int .i64 n)) (ok:=(fun k=>∀ x ∈ Zde k,inR .i64 x)) (kv:=(kvS Zde)) 102) trivial qz (qO rr qZ)) V [4,3,2,1] [102,101,0] (fun _=>rfl) (fun _=>rfl) fun τ a w F O=>?_
 try dsimp only [RS.sub,SF.sub,CF.sub,csub,Anc.sub,List.map,Ze,xL,xM,Nat.reduceAdd,xD,xE,xT,xU,xC,xN,zCF,ZG,rOp,rTx,Zaq] at O
 generalize τ 8=v8 at O
 refine Za (Ya (Ya (rZ O (qg 2 101 r1 r1 (qa 101 r1 r1 (qu Ybz r1 (qJ qZ)))) V [12,11,10,4,3,2,1] [102,101,0] fun O=>Ye ?_)))
 replace O:=O.fresh 50 rfl
 replace O:=O.turn 50 Z (ZaI (T:=146) (sz:=3) (R:=Zaq))
 refine Zo (σ:=(Nat)×(List (GE Zc9 Int))×(Nat)×(Value)×(List Zc9)) [1,2,4,10,11] [0,101] (fun s=>[(12,.pv (.int .i64 (s.1:Int))),(3,.pv (.is s.2.2.2.1))]) (fun s=>[(102,.ob (.val v8) (mapG (fun n:Int=>PV.int .i64 n) (fun k=>∀ x ∈ Zde k,inR .i64 x) (kvS Zde) s.2.1 s.2.2.1)),(50,.ob (.val s.2.2.2.1) (ZJ 146 3 Zaq s.2.2.2.2))]) (fun s=>s.1≤t.ops.length∧(s.2.2.2.2=Zdf t.id (t.ops.take s.1)∧Zd9 s.2.1 s.1 s.2.2.2.2)) (fun s=>t.ops.length - s.1) ((0),([]),(0),(.slice none 0 0),([])) O ⟨rfl,rfl,rfl,rfl,rfl,rfl,rfl,tv⟩ ⟨rfl,rfl,rfl,rfl,tv⟩ ⟨Yz _,⟨rfl,ZnN⟩⟩ ?_
 clear O;intro s a w F hC O
 obtain ⟨i,es,ck,v,out⟩:=s
 try dsimp only at hC
 obtain ⟨F,O⟩:=O.nM [12,11,10,4,3,2,1] [102,101,50,0]
 try dsimp only at O
 obtain ⟨hi,hq⟩:=hC
 obtain ⟨hou,hvi⟩:=hq
 have hol:out.length≤i:=by rw [hou];exact Zkx _ _ _
 have hst:=fun hil:i<t.ops.length=>ZiY (id:=t.id) hil
 refine Ya (rZ O (qL r2) V [13,12,11,10,4,3,2,1] [102,101,50,0] fun O=>Ya ?_)
 refine Zd O Z (fun hc0=>?_) (fun hc0=>?_)
 ·have hil:i<t.ops.length:=by simp at hc0;omega
  refine Yf (Za (Ya (Ye (Ya (Zb O (qy 4 Ybz r2 (qf (oR true 4 .t) r1 qz (qf (oH [.bool false,.int .i64 0,.int .i64 0,.int .i64 0] 103) trivial qz (qS 4 103 r2 r1 qZ)))) V [12,11,10,6,4,3,2,1] [103,102,101,50,0] (fun _=>rfl) (fun _=>rfl) fun τ a w F O=>?_)))))
  try dsimp only [RS.sub,SF.sub,CF.sub,csub,Anc.sub,List.map,Ze,xL,xM,Nat.reduceAdd,xD,xE,xT,xU,xC,xN,zCF,ldSF,ZG,rOp,rTx,Zaq] at O
  generalize τ 6=v6 at O
  try simp only [Yg] at O
  refine Za (Ya (Zb O (qe 4 103 r1 r1 (qf (oP (Zos (Nn t.ops i)) func148 (Args.one (.pagg .t))) r1 qz (qf (oH [.int .i64 0,.int .i64 0,.int .i64 0] 104) trivial qz (qf (oA 3 104 .same (.conv .t .agg)) r2 r1 qZ)))) V [12,11,10,7,6,4,3,2,1] [104,103,102,101,50,0] (fun _=>rfl) (fun _=>rfl) fun τ a w F O=>?_))
  try dsimp only [RS.sub,SF.sub,CF.sub,csub,Anc.sub,List.map,Ze,xL,xM,Nat.reduceAdd,xD,xE,xT,xU,xC,xN,zCF,ldSF,ZG,rOp,rTx,Zaq] at O
  generalize τ 7=v7 at O
  refine Za (Ya (Ya (rZ O (qg 0 103 r1 r1 (qa 103 r1 r1 (qf (ZaA .t) r1 qz (qR rr (qv 0 104 Z r2 r1 (qw 104 Z r2 r1 (qk Z (fun h=>o_eql (.w h) qi) r2 qz (qf (ZaQ .t .t) r2 qz (qR rr (qv 0 104 Z r2 r1 (qw 104 Z r2 r1 (qv 0 101 Z r2 r1 (qw 101 Z r2 r1 (qk Z (fun h=>o_eql (.w h) (.w h)) r3 qz (qf (ZaQ .t .t) r2 qz qZ))))))))))))))) V [32,12,11,10,7,4,3,2,1] [104,103,102,101,50,0] fun O=>?_)))
  refine Zd O Z (fun hc1=>?_) (fun hc1=>?_)
  ·have hno:ZlO t.id (Nn t.ops i)=false:=by unfold ZlO;unfold ofO at hc1;cases hr:(Nn t.ops i).read <;> simp [hr] at hc1 ⊢;omega
   obtain ⟨es2,he2⟩:∃ z,z=es:=⟨_,rfl⟩
   obtain ⟨ck2,hc2⟩:∃ z,z=ck:=⟨_,rfl⟩
   obtain ⟨out2,ho2⟩:∃ z,z=out:=⟨_,rfl⟩
   have hR2:out2=Zdf t.id (t.ops.take (i+1))∧Zd9 es2 (i+1) out2:=⟨by rw [ho2,hou,hst hil];unfold Zbz;rw [Yc (by rw [hno];simp)],by rw [he2,ho2];exact ZnM hvi⟩
   rw [← he2,← hc2,← ho2] at O
   refine Yr (Zj (Zv (Za (rZ O (qp r1 (qR rr qZ)) V [12,11,10,4,3,2,1] [103,102,101,50,0] fun O=>?_))))
   replace O:=O.ent (i:=12) (s':=.pv (.int .i64 ((i+1:Nat):Int))) Z (.int (Zl ow))
   obtain ⟨F,O⟩:=O.nM [11,10,4,2,1,3,12] [101,0,50,102]
   exact ⟨((i+1),(es2),(ck2),_,(out2)),F,⟨by omega,hR2⟩,O,by omega⟩
  have hyes:ZlO t.id (Nn t.ops i)=true:=by unfold ZlO;unfold ofO at hc1;cases hr:(Nn t.ops i).read <;> simp [hr] at hc1 ⊢;exact hc1
  have hvr:=hvi (ofO (Nn t.ops i))
  have hw1:IntKind.wrap .i64 (((gGet (ofO (Nn t.ops i)) es).getD 0)+1)=((gGet (ofO (Nn t.ops i)) es).getD 0)+1:=Zc (by have:=Sat.lenSl O (i:=10) rfl;omega)
  refine Yf (Za (Ya ?_))
  replace O:=O.turnZ 102 (0) (ofO (Nn t.ops i)) rfl
  refine Zfx 102 6 (m1:=1) (m2:=2) kr O kr (qR rr (qe 3 104 r1 r1 (qf (Zhv (ek:=(fun n:Int=>PV.int .i64 n)) (z0:=(0)) 102 underlying210 Zlm kr (fun _ _=>⟨rfl,Zf0⟩) .is (ZX.agg (enc:=Zde) (k:=(ofO (Nn t.ops i))) (.pagg .t) Z)) r2 r1 (qp r1 (qf (Zfk (ek:=(fun n:Int=>PV.int .i64 n)) (z0:=(0)) 102 underlying210 Zlm kr (fun _ _=>⟨rfl,Zf0⟩) .is (ZX.agg (enc:=Zde) (k:=(ofO (Nn t.ops i))) (.pagg .t) Z) (by intros;first | rfl | simp [Anc.v,upd])) r2 r1 (qf (o_extract .t Z) r1 qz (qf (ZdE 102 (ZfL _ _ _) .is .t .t) r3 r1 qZ))))))) kr kr kr Z Z Z (fun _ _ _ _ h=>.inr h) (by rw [V];kernel_rfl) fun a w F O=>?_
  obtain ⟨F,O⟩:=O.nM [12,11,10,7,4,3,2,1] [104,103,102,101,50,0]
  try dsimp only [List.map,xD,xE,xT,xU,ldSF,ZG,rOp,rTx,Zaq] at O
  obtain ⟨es2,he2⟩:∃ z,z=gSet (ofO (Nn t.ops i)) (IntKind.wrap .i64 (((gGet (ofO (Nn t.ops i)) es).getD 0)+1)) (gEns 0 (ofO (Nn t.ops i)) (es,ck)).1:=⟨_,rfl⟩
  obtain ⟨ck2,hc2⟩:∃ z,z=(gEns 0 (ofO (Nn t.ops i)) (es,ck)).2:=⟨_,rfl⟩
  rw [← he2,← hc2] at O
  have hvv:∀ u,(gGet u es2).getD 0=if u=(ofO (Nn t.ops i)) then ((gGet (ofO (Nn t.ops i)) es).getD 0)+1 else (gGet u es).getD 0:=fun u=>by rw [he2,Zgy,hw1]
  have hmv:(gGet (ofO (Nn t.ops i)) es2).getD 0=((gGet (ofO (Nn t.ops i)) es).getD 0)+1:=by rw [hvv,Yd rfl]
  have hvs:=Znc hvi hvv
  refine Za (Ya (rZ O (qR rr (qe 3 104 r1 r1 (qf (Zaw (ek:=(fun n:Int=>PV.int .i64 n)) (z0:=(0)) 102 underlying210 Zlm kr (fun _ _=>⟨rfl,Zf0⟩) .is (ZX.agg (enc:=Zde) (k:=(ofO (Nn t.ops i))) (.pagg .t) Z)) r2 r1 (qf (o_eql .t qi) r1 qz qZ)))) V [42,12,11,10,7,4,3,2,1] [104,103,102,101,50,0] fun O=>?_))
  refine Zd O Z (fun hc2=>?_) (fun hc2=>?_)
  ·have hnm:(ofO (Nn t.ops i)) ∉ out:=by rw [← hvr.2.2];rw [hmv] at hc2;simp at hc2;omega
   obtain ⟨out2,ho2⟩:∃ z,z=out ++ [(ofO (Nn t.ops i))]:=⟨_,rfl⟩
   have hR2:out2=Zdf t.id (t.ops.take (i+1))∧Zd9 es2 (i+1) out2:=⟨by rw [ho2,hst hil];unfold Zbz;rw [Yd ⟨hyes,by rw [← hou];exact hnm⟩,← hou],by have:=hvs;rw [Yc hnm] at this;rw [ho2];exact this⟩
   refine Zb O (qR rr (qe 3 104 r1 r1 (qf (Zy (sz:=3) (zs:=[.int .i64 0,.int .i64 0,.int .i64 0]) (r:=[(0,.tmp 44)]) (l:=[_,_,_]) underlying81 kr kr kr kr Z Z (.agg Z .t kr kr .nil) Z) r1 qz (qf (Z1 (sz:=3) (bs:=24) 50 (.mk' underlying81 kr kr) (by intro x;rfl) .is (.arr (l':=[_]) .t) (by simp only [Yb,Yp,Yx,Yk,YT];omega) (by decide)) ⟨rfl,rfl,tv⟩ ⟨rfl,tv⟩ (qO rr qZ))))) V [12,11,10,4,3,2,1] [103,102,101,50,0] (fun _=>rfl) (fun _=>rfl) fun τ a w F O=>?_
   try dsimp only [RS.sub,SF.sub,CF.sub,csub,Anc.sub,List.map,Ze,xL,xM,Nat.reduceAdd,xD,xE,xT,xU,xC,xN,zCF,ldSF,ZG,rOp,rTx,Zaq] at O
   generalize τ 46=v46 at O
   rw [← ho2] at O
   refine Zm (Za (rZ O (qp r1 (qR rr qZ)) V [12,11,10,4,3,2,1] [103,102,101,50,0] fun O=>?_))
   replace O:=O.ent (i:=12) (s':=.pv (.int .i64 ((i+1:Nat):Int))) Z (.int (Zl ow))
   obtain ⟨F,O⟩:=O.nM [11,10,4,2,1,3,12] [101,0,50,102]
   exact ⟨((i+1),(es2),(ck2),_,(out2)),F,⟨by omega,hR2⟩,O,by omega⟩
  have hnm:(ofO (Nn t.ops i)) ∈ out:=by rw [← hvr.2.2];rw [hmv] at hc2;simp at hc2;omega
  obtain ⟨out2,ho2⟩:∃ z,z=out:=⟨_,rfl⟩
  have hR2:out2=Zdf t.id (t.ops.take (i+1))∧Zd9 es2 (i+1) out2:=⟨by rw [ho2,hst hil];unfold Zbz;rw [Yc (by rw [← hou];simp [hnm])];exact hou,by have:=hvs;rw [Yd hnm] at this;rw [ho2];exact this⟩
  rw [← ho2] at O
  refine Yf (Zm (Za (rZ O (qp r1 (qR rr qZ)) V [12,11,10,4,3,2,1] [103,102,101,50,0] fun O=>?_)))
  replace O:=O.ent (i:=12) (s':=.pv (.int .i64 ((i+1:Nat):Int))) Z (.int (Zl ow))
  obtain ⟨F,O⟩:=O.nM [11,10,4,2,1,3,12] [101,0,50,102]
  exact ⟨((i+1),(es2),(ck2),_,(out2)),F,⟨by omega,hR2⟩,O,by omega⟩
 have hil:i=t.ops.length:=by simp at hc0;omega
 refine Yr (Zj (Zj (Zv (Za (Ya (rZ O (qR rr (qO rr qZ)) V [2] [102,101,50,0] fun O=>Yi ?_))))))
 obtain ⟨F,O⟩:=O.give 50 2 Z rfl
 refine ZP hfr O Z Z Z (.sl (by rw [hou,hil,YM];rfl))
theorem Zmt (x y:List Int):FnP prog 93 [.sl ZG x,.sl ZG y] (.bool (decide (x=y))):=by
 refine FnP.mk func93 Z ntmps93 Z fun B a w F V hfr O=>?_
 have hxl:=Sat.lenSl O (i:=0) rfl
 refine Ya (rZ O qB V [4,1,0] [0] fun O=>(Ya (Ya ?_)))
 refine rZ O (qR rr (qu Yby r1 (qR rr (qu Yby r1 (qf (o_neq .t .t) r2 qz qZ))))) V [10,4,1,0] [0] fun O=>?_
 refine Zd O Z (fun hc0=>?_) (fun hc0=>?_)
 ·have hg:false=decide (x=y):=by
    rw [Yab,Yh]
    intro h
    subst h
    simp at hc0
  refine Ya (rZ O qB V [4,1,0] [0] fun O=>(Yi (Zk ?_)))
  refine ZP hfr O Z Z Z (.bool hg)
 have hl:x.length=y.length:=by simp at hc0;omega
 refine Yf (Za (Ya (Ya (rZ O (qR rr (qu Yby r1 (qJ qZ))) V [13,12,4,1,0] [0] fun O=>Ye ?_))))
 obtain ⟨F,O⟩:=O.nM [13,12,1,0] [0]
 refine Zbx (σ:=Nat) (fun s=>(⟨[(0,.pv (.sl ZG x)),(1,.pv (.sl ZG y)),(12,.pv (.int .i64 x.length)),(13,.pv (.int .i64 s))],[(0,frame B)]⟩:En)) (fun s=>s≤x.length ∧ ∀ j,j<s→Nn x j=Nn y j) (fun s=>x.length - s) 0 O ⟨Yz _,fun j hj=>absurd hj (YR j)⟩ ?_
 clear O;intro i a w F hC O
 try dsimp only at hC
 try dsimp only at O
 obtain ⟨hi,hq⟩:=hC
 refine Ya (rZ O (qL r2) V [14,13,12,1,0] [0] fun O=>Ya ?_)
 refine Zd O Z (fun hc1=>?_) (fun hc1=>?_)
 ·have hil:i<x.length:=by simp at hc1;omega
  refine Yf (Za (Ya (Ye (Ya (rZ O (qR rr (qO rr qZ)) V [13,12,5,1,0] [0] fun O=>Ya ?_)))))
  refine Zq O (qR rr (qR rr (qy 1 Yby r2 (qf (oR false 1 .t) r1 qz (qR rr (qR rr (qy 1 Yby r2 (qf (oR false 1 .t) r1 qz (qf (o_neq .t .t) r2 qz qZ))))))))) V [24,13,12,1,0] [0] Z Z fun a w F O=>?_
  try dsimp only [List.map,xD,xE,xT,xU,ldSF] at O
  refine Za (Zd O Z (fun hc2=>?_) (fun hc2=>?_))
  ·have hg:false=decide (x=y):=by
     rw [Yab,Yh]
     intro h
     subst h
     simp at hc2
   refine Ya (rZ O qB V [13,12,4,1,0] [0] fun O=>(Yi (ZC (Zk (Zk (ZC (Zk ?_)))))))
   refine ZP hfr O Z Z Z (.bool hg)
  rw [Yg] at hc2
  have hqi:Nn x i=Nn y i:=by simpa using hc2
  refine Yf (Zm (Za (rZ O (qp r1 (qR rr qZ)) V [13,12,1,0] [0] fun O=>?_)))
  replace O:=O.ent (i:=13) (s':=.pv (.int .i64 ((i+1:Nat):Int))) Z (.int (Zl ow))
  obtain ⟨F,O⟩:=O.nM [13,12,1,0] [0]
  exact ⟨i+1,F,⟨by omega,fun j hj=>by rcases YG (YN hj) with h | h;exact hq j h;rw [h];exact hqi⟩,O,by omega⟩
 have hg:true=decide (x=y):=by
   rw [Yab,Yj]
   exact ZaD hl fun j hj=>hq j (by simp at hc1;omega)
 refine Yr (Zj (Zj (Zv (Za (Ya (rZ O qB V [4] [0] fun O=>Yi ?_))))))
 refine ZP hfr O Z Z Z (.bool hg)
theorem ZoB (x y:List Int):FnP prog 143 [.sl ZG x,.sl ZG y] (.bool (decide (x=y))):=by
 refine FnP.mk func143 Z ntmps143 Z fun B a w F V hfr O=>Ya ?_
 refine rZ O qB V [4,1,0] [0] fun O=>Ya ?_
 refine rZ O (qR rr (qR rr (qf (oP (Zmt x y) func93 (Args.two .t .t)) r2 qz (qO rr qZ)))) V [4] [0] fun O=>Yi ?_
 refine ZP hfr O Z Z Z .refl
theorem Zpt (x y:List Int) (hx:x.length≤1000000) (hy:y.length≤1000000):FnP prog 37 [.sl ZG x,.sl ZG y] (.bool (decide (x.Perm y))):=by
 refine FnP.mk func37 Z ntmps37 Z fun B a w F V hfr O=>Ya ?_
 refine rZ O qB V [4,1,0] [0] fun O=>Ya ?_
 replace O:=O.fresh 101 rfl
 replace O:=O.fresh 102 rfl
 refine Zb O (qR rr (qf (Zck 101 (Zj7 x hx) func91 Z kr (Args.one .t) ZeB) r1 r1 (qR rr (qf (Zck 102 (Zj7 y hy) func91 Z kr (Args.one .t) ZeB) r1 r1 (qO rr (qO rr qZ)))))) V [6,5,4] [102,101,0] (fun _=>rfl) (fun _=>rfl) fun τ a w F O=>?_
 try dsimp only [RS.sub,SF.sub,CF.sub,csub,Anc.sub,List.map,ZG] at O
 generalize τ 8=v8,τ 10=v10 at O
 refine Za (Ya (rZ O (qR rr (qf (ZQ 101 (Zkl _ x hx) func92 Z kr (Args.one .t)) r1 r1 qZ)) V [6,5,4] [102,101,0] fun O=>Ya ?_))
 refine rZ O (qR rr (qf (ZQ 102 (Zkl _ y hy) func92 Z kr (Args.one .t)) r1 r1 qZ)) V [6,5,4] [102,101,0] fun O=>Ya ?_
 refine rZ O (qR rr (qR rr (qf (OpC.lendRow 102 [16] (OpC.lendRow 101 [15] (oP (Zmt _ _) func93 (Args.two .t .t)) ⟨rfl,tv,tv⟩ (.pv (fun _ _ _ _ h=>h)) trivial (by rfl)) ⟨tv,rfl,tv⟩ (.pv (fun _ _ _ _ h=>h)) trivial (by rfl)) r2 r2 (qO rr qZ)))) V [4] [102,101,0] fun O=>Yi ?_
 refine ZP hfr O Z Z Z (.bool (by rw [decide_eq_decide];exact ZlK))
theorem Zo9 {u v:Zr} : (decide (u.key=v.key) && decide (u.txs=v.txs))=decide (u=v):=by
 cases u;cases v
 rw [Yap]
 simp
def zeroT:TxD:=⟨0,false,[]⟩
def Zca (l:List TxD):Prop:=l.length≤1000 ∧ ∀ t ∈ l,t.ops.length≤1000
def Zgc (l:List Zr):Prop:=l.length≤1000 ∧ ∀ o ∈ l,o.txs.length≤1000
def Zel (h:ZS):Prop:=Zca h.txs∧Zgc h.orders
theorem Zca.at {l:List TxD} (h:Zca l) {i:Nat} (hi:i<l.length):(Nn l i).ops.length≤1000:=h.2 _ (Z8 hi)
theorem Zgc.at {l:List Zr} (h:Zgc l) {i:Nat} (hi:i<l.length):(Nn l i).txs.length≤1000:=h.2 _ (Z8 hi)
def ZdR (l:List TxD) (id:Int):Option TxD:=l.find? fun t=>decide (t.id=id)
theorem ZnC {l:List TxD} {id:Int} {i:Nat} (hi:i<l.length) (h:(Nn l i).id=id) (hq:∀ k,k<i→(Nn l k).id≠id):ZdR l id=some (Nn l i):=by
 unfold ZdR
 rw [List.find?_eq_some_iff_getElem]
 refine ⟨by simpa using h,i,hi,(ZE hi).symm,fun j hj=>?_⟩
 have:=hq j hj
 rw [ZE ow] at this
 simpa using this
theorem ZkS {l:List TxD} {id:Int} (hq:∀ k,k<l.length→(Nn l k).id≠id):ZdR l id=none:=by
 unfold ZdR
 rw [List.find?_eq_none]
 intro x hx
 obtain ⟨k,hk,e⟩:=Y6 hx
 have:=hq k hk
 rw [ZE hk,e] at this
 simpa using this
theorem findT_mem {l:List TxD} {id:Int} {t:TxD} (h:ZdR l id=some t):t ∈ l∧t.id=id:=⟨List.mem_of_find?_eq_some h,by have:=List.find?_some h;simpa using this⟩
def Zor (h:ZS) (v:Zc9):Bool:=if v.tx=0∧v.nth=0 then decide (1≤v.key∧v.key≤1048575) else (ZdR h.txs v.tx).isSome && (decide (1≤v.nth) && decide (v.nth≤(wcnt ((ZdR h.txs v.tx).getD zeroT).ops v.key:Int)))
def Zop (h:ZS) (t:TxD):Bool:=(Zlx t).all (Zor h)
def ZbJ (t:TxD):List Int:=ZeH ((t.ops.filter fun o=>!o.read).map OpD.key)
theorem Zd2 {t:TxD} {k:Int} : k ∈ ZbJ t ↔ 0<wcnt t.ops k:=by
 unfold ZbJ
 rw [(ZbO _).2,Yv]
 unfold wcnt
 rw [List.length_pos_iff_exists_mem]
 constructor
 ·rintro ⟨o,ho,e⟩
  rw [Y3] at ho
  exact ⟨o,by rw [Y3];exact ⟨ho.1,by simp [e];simpa using ho.2⟩⟩
 ·rintro ⟨o,ho⟩
  rw [Y3] at ho
  simp at ho
  exact ⟨o,by rw [Y3];simp [ho.1,ho.2.1],ho.2.2⟩
theorem Zh9 (t:TxD):(ZbJ t).length≤t.ops.length:=Yac (ZhV _) (by rw [YF];exact Yaa _ _)
def Zav (l:List TxD) (k:Int):List Int:=(l.filter fun t=>t.done && decide (0<wcnt t.ops k)).map TxD.id
theorem Zez (l:List TxD) (k:Int):(Zav l k).length≤l.length:=by unfold Zav;rw [YF];exact Yaa _ _
theorem ZdF {l:List TxD} {i:Nat} (hi:i<l.length) (k:Int):Zav (l.take (i+1)) k=Zav (l.take i) k++if (Nn l i).done=true∧0<wcnt (Nn l i).ops k then [(Nn l i).id] else []:=by
 unfold Zav
 rw [Z9 hi,YaJ,YL]
 congr 1
 by_cases h:(Nn l i).done=true∧0<wcnt (Nn l i).ops k
 ·rw [Yd h,YaH (by simp [h.1,h.2])];rfl
 ·rw [Yc h,YaI (by simp;intro e;exact Nat.eq_zero_of_not_pos fun e2=>h ⟨e,e2⟩)];rfl
def ZcM (l:List TxD):List Int:=ZeH ((l.filter fun t=>t.done).flatMap ZbJ)
theorem ZnP {l:List TxD} (h:Zca l) (i:Nat):(ZcM (l.take i)).length≤1000*i:=by
 unfold ZcM
 refine Yac (ZhV _) ?_
 have key:∀ l:List TxD,(∀ t ∈ l,t.ops.length≤1000)→((l.filter fun t=>t.done).flatMap ZbJ).length≤1000*l.length:=by
  intro l
  induction l with
  | nil=>intro _;simp
  | cons t l ih=>
   intro h
   have h1:=ih fun x hx=>h x (by simp [hx])
   have h2:=h t (by simp)
   have h3:=Zh9 t
   by_cases hd:t.done=true
   ·rw [YaH (by simpa using hd),Yaw,Yb,Yp]
    omega
   ·rw [YaI (by simpa using hd),Yp]
    omega
 have h1:=key (l.take i) fun t ht=>h.2 t (YaZ ht)
 have h2:(l.take i).length≤i:=by rw [Yk];omega
 exact Yac h1 (Nat.mul_le_mul_left _ h2)
theorem Zm0 {l:List TxD} (h:Zca l):(ZcM l).length≤1000000:=by
 have h1:=ZnP h l.length
 rw [YM] at h1
 have:=h.1
 omega
theorem Zfw {l:List TxD} {k:Int} : k ∈ ZcM l ↔ Zav l k≠[]:=by
 unfold ZcM
 rw [(ZbO _).2,List.mem_flatMap]
 unfold Zav
 rw [ne_eq,List.map_eq_nil_iff,List.filter_eq_nil_iff]
 constructor
 ·rintro ⟨t,ht,hk⟩ hn
  rw [Y3] at ht
  have:=hn t ht.1
  simp [ht.2] at this
  have:=Zd2.1 hk
  simp_all
 ·intro hn
  simp only [Classical.not_forall] at hn
  obtain ⟨t,ht,h2⟩:=hn
  simp at h2
  exact ⟨t,by rw [Y3];exact ⟨ht,by simpa using h2.1⟩,Zd2.2 (Nat.pos_of_ne_zero h2.2)⟩
def Znb (h:ZS) (i:Nat):Prop:=(0<i→(Nn h.txs (i - 1)).id<(Nn h.txs i).id)∧ZcA (Nn h.txs i)=0∧Zop h (Nn h.txs i)=true
instance (h:ZS) (i:Nat):Decidable (Znb h i):=by unfold Znb;exact inferInstance
def ZnL (h:ZS) (i:Nat):Prop:=(Nn h.orders i).key=Nn (ZcM h.txs) i∧(Nn h.orders i).txs.Perm (Zav h.txs (Nn h.orders i).key)
instance (h:ZS) (i:Nat):Decidable (ZnL h i):=by unfold ZnL;exact inferInstance
def Zat (h:ZS):Prop:=h.txs.length≤4096∧(∀ i,i<h.txs.length→Znb h i)∧h.orders.length=(ZcM h.txs).length ∧ ∀ i,i<h.orders.length→ZnL h i
instance (h:ZS):Decidable (Zat h):=by unfold Zat;exact inferInstance
def ZfE (h:ZS) (i:Nat):Prop:=(0<i→(Nn h.orders (i - 1)).key<(Nn h.orders i).key)∧(Nn h.orders i).txs≠[]∧(Nn h.orders i).txs.Perm (Zav h.txs (Nn h.orders i).key)
theorem Zmy:∀ {l:List Int},(∀ i,i<l.length→0<i→Nn l (i - 1)<Nn l i)→Zke l
 | [],_=>List.Pairwise.nil
 | [x],_=>by simp
 | x :: y :: l,h=>by
  have ih:=Zmy (l:=y :: l) fun i hi h0=>by
   have:=h (i+1) (by simpa using hi) ow
   obtain ⟨j,rfl⟩:∃ j,i=j+1:=⟨i - 1,by omega⟩
   have hj:j<l.length:=by simpa using hi
   rw [ZE (l:=x :: y :: l) (by simp;omega),ZE (l:=x :: y :: l) (by simp;omega)] at this
   rw [ZE (l:=y :: l) (by simp;omega),ZE (l:=y :: l) (by simp;omega)]
   exact this
  have h1:=h 1 (by simp) ow
  rw [ZE (by simp),ZE (by simp)] at h1
  simp at h1
  have ih2:=YI.1 ih
  refine YI.2 ⟨fun z hz=>?_,ih⟩
  rcases Yo.1 hz with rfl | hz
  ·exact h1
  ·have:=ih2.1 z hz;omega
theorem ZoR {l:List Int} (h:Zke l) {i:Nat} (hi:i<l.length) (h0:0<i):Nn l (i - 1)<Nn l i:=by
 rw [ZE hi,ZE ow]
 exact Y4.1 h (i - 1) i ow hi ow
theorem Zjb:∀ {b a:List Int},Zke a→Zke b→(∀ x ∈ a,x ∈ b)→a.length≤b.length∧(a.length=b.length→a=b)
 | [],a,_,_,h=>by
  have:a = []:=List.eq_nil_iff_forall_not_mem.2 fun x hx=>by cases h x hx
  subst this;simp
 | y :: b,[],_,_,_=>⟨by simp,fun h=>by simp at h⟩
 | y :: b,x :: a,ha,hb,h=>by
  have ha':=YI.1 ha
  have hb':=YI.1 hb
  by_cases e:x=y
  ·subst e
   have ih:=Zjb (b:=b) (a:=a) ha'.2 hb'.2 fun z hz=>by
    rcases Yo.1 (h z (by simp [hz])) with e | e
    ·have:=ha'.1 z hz;omega
    ·exact e
   exact ⟨by simp;exact ih.1,fun hl=>by rw [ih.2 (by simpa using hl)]⟩
  ·have hx:y<x:=by
    rcases Yo.1 (h x (by simp)) with e2 | e2
    ·exact absurd e2 e
    ·exact hb'.1 x e2
   have ih:=Zjb (b:=b) (a:=x :: a) ha hb'.2 fun z hz=>by
    rcases Yo.1 (h z hz) with e2 | e2
    ·rcases Yo.1 hz with e3 | e3
     ·omega
     ·have:=ha'.1 z e3;omega
    ·exact e2
   exact ⟨by have:=ih.1;simp at this ⊢;omega,fun hl=>by have:=ih.1;simp at this hl;omega⟩
theorem ZiL {α β:Type} [Inhabited α] [Inhabited β] {f:α→β} {l:List α} {i:Nat} (h:i<l.length):Nn (l.map f) i=f (Nn l i):=by
 rw [ZE (by simpa using h),ZE h];simp
theorem Zhe (h:ZS):(h.orders.length=(ZcM h.txs).length ∧ ∀ i,i<h.orders.length→ZfE h i) ↔ (h.orders.length=(ZcM h.txs).length ∧ ∀ i,i<h.orders.length→ZnL h i):=by
 have hK:Zke (ZcM h.txs):=(ZbO _).1
 constructor
 ·rintro ⟨hl,hq⟩
  refine ⟨hl,?_⟩
  have hO:Zke (h.orders.map Zr.key):=Zmy fun i hi h0=>by
   have hi':i<h.orders.length:=by simpa using hi
   rw [ZiL ow,ZiL hi']
   exact (hq i hi').1 h0
  have hsub:∀ x ∈ h.orders.map Zr.key,x ∈ ZcM h.txs:=fun x hx=>by
   obtain ⟨o,ho,rfl⟩:=Yv.1 hx
   obtain ⟨k,hk,e⟩:=Y6 ho
   have:=hq k hk
   unfold ZfE at this
   rw [ZE hk,e] at this
   rw [Zfw]
   intro e2
   rw [e2] at this
   exact this.2.1 (List.Perm.eq_nil this.2.2)
  have he:=(Zjb hO hK hsub).2 (by simpa using hl)
  intro i hi
  refine ⟨?_,(hq i hi).2.2⟩
  rw [← he,ZiL hi]
 ·rintro ⟨hl,hq⟩
  refine ⟨hl,fun i hi=>?_⟩
  have hin:(Nn h.orders i).key ∈ ZcM h.txs:=by rw [(hq i hi).1];exact Z8 ow
  refine ⟨fun h0=>?_,fun e=>?_,(hq i hi).2⟩
  ·rw [(hq i hi).1,(hq (i - 1) ow).1]
   exact ZoR hK ow h0
  ·have:=(hq i hi).2
   rw [e] at this
   exact Zfw.1 hin this.symm.eq_nil
theorem Zf3 {h:ZS} (hb:4096<h.txs.length):false=decide (Zat h):=(YK fun hr=>by have:=hr.1;omega).symm
theorem Zik {h:ZS} {i:Nat} (hi:i<h.txs.length) (hb:¬ Znb h i):false=decide (Zat h):=(YK fun hr=>hb (hr.2.1 i hi)).symm
theorem Zg6 {h:ZS} (hb:h.orders.length≠(ZcM h.txs).length):false=decide (Zat h):=(YK fun hr=>hb hr.2.2.1).symm
theorem Zf1 {h:ZS} {i:Nat} (hi:i<h.orders.length) (hb:¬ ZfE h i):false=decide (Zat h):=(YK fun hr=>hb (((Zhe h).2 hr.2.2).2 i hi)).symm
theorem Zi4 {h:ZS} (h1:h.txs.length≤4096) (h2:∀ i,i<h.txs.length→Znb h i) (h3:h.orders.length=(ZcM h.txs).length) (h4:∀ i,i<h.orders.length→ZfE h i):true=decide (Zat h):=(YX ⟨h1,h2,(Zhe h).1 ⟨h3,h4⟩⟩).symm
def ZoH (l:List Int):Option (List Int):=if l = [] then none else some l
theorem Zkn (l:List Int):(ZoH l).getD [] = l:=by
 unfold ZoH
 split
 ·rename_i h;rw [h];rfl
 ·rfl
def WrL (es:List (GE Int (List Int))) (l:List TxD):Prop:=GNd es ∧ ∀ k,gGet k es=ZoH (Zav l k)
def WrV (es:List (GE Int (Value×List Int))) (l:List TxD) (id:Int) (ks:List Int):Prop:=GNd es ∧ ∀ k,(gGet k es).map (·.2)=ZoH (Zav l k++if k ∈ ks then [id] else [])
theorem ZoZ {id:Int} : WrV [] [] id []:=⟨by simp [GNd],fun k=>by simp [gGet,Zav,ZoH]⟩
theorem Zny {es:List (GE Int (Value×List Int))} {l:List TxD} {id:Int} (h:WrV es l id []):WrL (ZeF es) l:=⟨by unfold GNd;rw [ZiT];exact h.1,fun k=>by rw [Zgm,h.2];simp⟩
theorem Znz {es:List (GE Int (Value×List Int))} {l:List TxD} {id id':Int} (h:WrV es l id []):WrV es l id' []:=⟨h.1,fun k=>by rw [h.2];simp⟩
theorem Zpk {es:List (GE Int (Value×List Int))} {l:List TxD} {i:Nat} {id:Int} (h:WrV es (l.take i) id []) (hi:i<l.length) (hd:(Nn l i).done=false):WrV es (l.take (i+1)) id []:=⟨h.1,fun k=>by rw [h.2,ZdF hi];simp [hd]⟩
theorem ZoY {es:List (GE Int (Value×List Int))} {l:List TxD} {i:Nat} {id:Int} (h:WrV es (l.take i) (Nn l i).id (ZbJ (Nn l i))) (hi:i<l.length) (hd:(Nn l i).done=true):WrV es (l.take (i+1)) id []:=⟨h.1,fun k=>by
 rw [h.2,ZdF hi]
 congr 1
 simp only [Yat,Yn,YD]
 congr 1
 by_cases hk:k ∈ ZbJ (Nn l i)
 ·rw [Yd hk,Yd ⟨hd,Zd2.1 hk⟩]
 ·rw [Yc hk,Yc fun h9=>hk (Zd2.2 h9.2)]⟩
theorem Zox {es:List (GE Int (Value×List Int))} {l:List TxD} {id:Int} {ks:List Int} {j:Nat} (h:WrV es l id (ks.take j)) (hn:ks.Nodup) (hj:j<ks.length):((gGet (Nn ks j) es).getD ZgW).2=Zav l (Nn ks j):=by
 have h1:=h.2 (Nn ks j)
 have hni:Nn ks j ∉ ks.take j:=fun hm=>by
  rw [ZE hj] at hm
  obtain ⟨k,hk,e⟩:=Y6 hm
  rw [Yk] at hk
  rw [Ya2] at e
  have h3:=Y4.1 hn k j ow hj ow
  exact h3 e
 rw [Yc hni,YD] at h1
 have h2:=Zkn (Zav l (Nn ks j))
 rw [← h1] at h2
 rw [← h2]
 cases gGet (Nn ks j) es <;> rfl
theorem ZoQ {es:List (GE Int (Value×List Int))} {l:List TxD} {id:Int} {ks:List Int} {j ck:Nat} {v:Value} (h:WrV es l id (ks.take j)) (hn:ks.Nodup) (hj:j<ks.length):WrV (gPut (Nn ks j) (v,((gGet (Nn ks j) es).getD ZgW).2 ++ [id]) (es,ck)).1 l id (ks.take (j+1)):=⟨GNd.put h.1,fun k=>by
 rw [ZdU,Zox h hn hj,Z9 hj]
 by_cases e:k=Nn ks j
 ·subst e
  rw [Yd rfl,Yd (by simp)]
  simp [ZoH]
 ·rw [Yc e,h.2]
  simp [e]⟩
theorem ZpK {es:List (GE Int (List Int))} {l:List TxD} (h:WrL es l) (k:Int):(gGet k es).getD [] = Zav l k:=by rw [h.2,Zkn]
theorem ZpL {es:List (GE Int (List Int))} {l:List TxD} (h:WrL es l):es.length=(ZcM l).length:=by
 have h1:(es.map (·.key)).Perm (ZcM l):=by
  refine (List.perm_ext_iff_of_nodup h.1 ((ZbO _).1.imp fun h=>Int.ne_of_lt h)).2 fun k=>?_
  rw [← Zci,h.2,show (k ∈ ZeH ((l.filter fun t=>t.done).flatMap ZbJ)) ↔ Zav l k≠[] from Zfw]
  unfold ZoH
  split <;> simp_all
 simpa using h1.length_eq
theorem Ze3 (t:TxD):(ZbJ t).Nodup:=(ZbO _).1.imp fun h=>Int.ne_of_lt h
theorem Zp1 {α:Type} {R:α→List PV} {w:World} {y:Ys} : (PV.sl R ([]:List α)).p (.slice none 0 0) w y:=⟨none,0,rfl,Yw _,by unfold maxLen;omega,.inl rfl⟩
def Zcw (x y:Int):Int:=if x<y then -1 else if y<x then 1 else 0
theorem ZaR {x y:Int} : Zcw x y<0 ↔ x<y:=by unfold Zcw;split <;> (try split) <;> omega
theorem Zqw {x:Int} (h:0≤x∧x≤18446744073709551615):IntKind.wrap .u64 x=x:=ZgO ⟨by simp [IntKind.min,IntKind.signed,IntKind.bits];omega,by simp [IntKind.max,IntKind.signed,IntKind.bits];omega⟩
theorem ZcE {i j:Nat} (h:i+j≤2000000):IntKind.wrap .i64 ((IntKind.wrap .u64 (IntKind.wrap .i64 ((i:Int)+(j:Int)))).fdiv (2 ^ min (1:Int).toNat (IntKind.bits .u64)))=(((i+j) / 2:Nat):Int):=by
 rw [Zc (x:=(i:Int)+(j:Int)) ow,Zqw ow,show (2:Int) ^ min (1:Int).toNat (IntKind.bits .u64)=2 by decide,Int.fdiv_eq_ediv_of_nonneg _ (by decide),Zc ow]
 omega
theorem ZjV (x:Int):FnP prog 175 [.int .i64 x] (.bool false):=by
 refine FnP.mk func175 Z ntmps175 Z fun B a w F V hfr O=>Ya ?_
 refine rZ O qB V [2,0] [0] fun O=>Ya ?_
 refine rZ O (qR rr (qR rr (qf (o_neq .t .t) r2 qz (qO rr qZ)))) V [2] [0] fun O=>Yi ?_
 refine ZP hfr O Z Z Z (.bool (by simp))
theorem Zon (x y:Int):FnP prog 108 [.int .i64 x,.int .i64 y] (.int .i64 (Zcw x y)):=by
 refine FnP.mk func108 Z ntmps108 Z fun B a w F V hfr O=>Ya ?_
 refine rZ O (qI qZ) V [4,1,0] [0] fun O=>Ya ?_
 refine rZ O (qR rr (qf (oP (ZjV x) func175 (Args.one .t)) r1 qz (qO rr qZ))) V [5,4,1,0] [0] fun O=>Ya ?_
 refine rZ O (qR rr (qf (oP (ZjV y) func175 (Args.one .t)) r1 qz (qO rr qZ))) V [6,5,4,1,0] [0] fun O=>(Ya (Ya ?_))
 refine rZ O (qR rr qZ) V [11,6,4,1,0] [0] fun O=>?_
 refine Zd O Z (fun hc0=>?_) (fun hc0=>?_)
 ·simp at hc0
 refine Yf (Za (Ya (Ya (rZ O (qR rr qZ) V [13,4,1,0] [0] fun O=>?_))))
 refine Zd O Z (fun hc1=>?_) (fun hc1=>?_)
 ·simp at hc1
 refine Yf (Za (Ya (Ya (rZ O (qR rr (qR rr (qL r2))) V [16,4,1,0] [0] fun O=>?_))))
 refine Zd O Z (fun hc2=>?_) (fun hc2=>?_)
 ·have hg:(-1:Int)=Zcw x y:=by unfold Zcw;rw [Yd (by simpa using hc2)]
  refine Ya (rZ O (qI qZ) V [4,1,0] [0] fun O=>(Yi (Zk ?_)))
  refine ZP hfr O Z Z Z (.int hg)
 have h1:¬ x<y:=by simpa using hc2
 refine Yf (Za (Ya (Ya (rZ O (qR rr (qR rr (qf (Zas .t .t) r2 qz qZ))) V [19,4] [0] fun O=>?_))))
 refine Zd O Z (fun hc3=>?_) (fun hc3=>?_)
 ·have hg:(1:Int)=Zcw x y:=by unfold Zcw;rw [Yc h1,Yd (by simpa using hc3)]
  refine Ya (rZ O (qI qZ) V [4] [0] fun O=>(Yi (Zk ?_)))
  refine ZP hfr O Z Z Z (.int hg)
 have hg:(0:Int)=Zcw x y:=by unfold Zcw;rw [Yc h1,Yc (by simpa using hc3)]
 refine Yf (Za (Ya (rZ O (qI qZ) V [4] [0] fun O=>Yi ?_)))
 refine ZP hfr O Z Z Z (.int hg)
end Go.Proofs.YtfecljadegkmdaaGreat
