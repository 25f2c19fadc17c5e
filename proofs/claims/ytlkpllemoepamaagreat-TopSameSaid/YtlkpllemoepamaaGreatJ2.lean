/- Texts put together. No condition beyond those that each theorem says. -/
import Derived.Test.YtlkpllemoepamaaGreatJ1
import Derived.Test.YtlkpllemoepamaaGreatJ0
import Derived.Test.YtlkpllemoepamaaGreatLibG
namespace Go.Proofs.YtlkpllemoepamaaGreat
open Go Go.Gm Tryz
set_option linter.unusedVariables false
set_option linter.unusedSimpArgs false
set_option maxHeartbeats 4000000
set_option maxRecDepth 8000
def ZcC (o:OpD):Bool:=if o.read=true then ZcD ⟨o.tx,o.key,o.nth⟩ else (idB o.key && decide (o.tx=0)) && decide (o.nth=0)
def ofO (o:OpD):Zcg:=if o.read=true then ⟨o.tx,o.key,o.nth⟩ else noV
def ZcO (o:OpD):Int:=if ZcC o=true then 0 else 1
theorem Zn7 {o:OpD} (h:ZcC o=true):(1≤o.key∧o.key≤1048575)∧(0≤o.tx∧o.tx≤1048575)∧(0≤o.nth∧o.nth≤4095):=by
 unfold ZcC at h
 split at h
 ·unfold ZcD at h
  dsimp only at h
  split at h <;> simp only [Yx,Yq,ZjP] at h <;> omega
 ·simp only [Yx,Yq,ZjP] at h
  omega
theorem Zg1 {o:OpD} (h:o.read=true):ZcC o=ZcD (ofO o):=by unfold ZcC ofO;rw [Yf h,Yf h]
theorem ZfE {o:OpD} (h:o.read=false):ZcC o=((idB o.key && decide (o.tx=0)) && decide (o.nth=0)):=by unfold ZcC;rw [Yc (by rw [h];decide)]
theorem Zl7 (v:Zcg):(ZsC v).2=if ZcD v=true then 0 else 1:=by unfold ZsC;split <;> rfl
theorem Zlp (o:OpD):FnP prog 120 [.agg (rOp o)] (.agg (ZS (ofO o))):=by
 refine FnP.mk func120 rfl ntmps120 rfl fun B a w F V hfr G=>Ya ?_
 refine Zb G (qx 101 r1 (qf (oH [.int .i64 0,.int .i64 0,.int .i64 0] 102) trivial qz qZ)) V [2,1] [102,101,0] (fun _=>rfl) (fun _=>rfl) fun τ a w F G=>?_
 try dsimp only [RS.sub,SF.sub,CF.sub,csub,Anc.sub,List.map,zCF] at G
 generalize τ 1=v1 at G
 generalize τ 2=v2 at G
 refine Za (Ya (Ya (rZ G (qg 0 101 r1 r1 (qa 101 r1 r1 (qf (o_not .t) r1 qz qZ))) V [5,2,1] [102,101,0] fun G=>?_)))
 refine Zc G rfl (fun hc0=>?_) (fun hc0=>?_)
 ·have hr:o.read=false:=by simpa using hc0
  refine Ya (rZ G (qf (oB [] [.int .i64 0,.int .i64 0,.int .i64 0] [(0,1),(1,1),(2,1)] .nil) trivial qz (qs 3 102 r2 r1 qZ)) V [2,1] [102,101,0] fun G=>(Yh (Zk ?_)))
  refine Z2 hfr G rfl (.cl 102 true 3 rfl rfl .nil) (.one (.aggU rfl (by unfold ofO;rw [hr];rfl)))
 have hr:o.read=true:=by simpa using hc0
 refine Ye (Za (Ya (rZ G (qg 2 101 r1 r1 (qa 101 r1 r1 (qg 1 101 r1 r1 (qa 101 r1 r1 (qg 3 101 r1 r1 (qa 101 r1 r1 (qf (oB [(0,.tmp 8),(1,.tmp 10),(2,.tmp 12)] [.int .i64 0,.int .i64 0,.int .i64 0] [(0,1),(1,1),(2,1)] (.one rfl .t one_int kr (.one rfl .t one_int kr (.one rfl .t one_int kr .nil)))) r3 qz (qs 3 102 r2 r1 qZ)))))))) V [2] [102,101,0] fun G=>Yh ?_)))
 refine Z2 hfr G rfl (.cl 102 true 3 rfl rfl .nil) (.one (.aggU rfl (by unfold ofO;rw [hr];rfl)))
theorem Zn5 (o:OpD):FnP prog 86 [.agg (rOp o)] (.int .i64 (ZcO o)):=by
 refine FnP.mk func86 rfl ntmps86 rfl fun B a w F V hfr G=>Ya ?_
 refine Zb G (qx 101 r1 (qI qZ)) V [2,1] [101,0] (fun _=>rfl) (fun _=>rfl) fun τ a w F G=>?_
 try dsimp only [RS.sub,SF.sub,CF.sub,csub,Anc.sub,List.map,zCF] at G
 generalize τ 1=v1 at G
 refine Za (Ya (Ya (rZ G (qg 0 101 r1 r1 (qa 101 r1 r1 qZ)) V [6,2,1] [101,0] fun G=>?_)))
 refine Zc G rfl (fun hc0=>?_) (fun hc0=>?_)
 ·have hg:(ZsC (ofO o)).2=ZcO o:=by rw [Zl7];unfold ZcO;rw [Zg1 hc0]
  refine Ya (rZ G (qe 4 101 r1 r1 (qf (oP (Zlp o) func120 (Args.one (.pagg .t))) r1 qz (qf (oP (ZpA (ofO o)) func137 (Args.one .t)) r1 qz (qR rr (qf (Zh .t rfl) r1 qz (qf (Zh .t rfl) r1 qz (qO rr (qO rr qZ)))))))) V [4,2,1] [101,0] fun G=>Ya ?_)
  refine rZ G (qR rr (qO rr qZ)) V [2,1] [101,0] fun G=>(Yh (Zk ?_))
  refine Zo hfr G rfl rfl rfl (.int hg)
 have hr:o.read=false:=hc0
 refine Ye (Za (Ya (Ya (rZ G (qe 4 101 r1 r1 (qg 1 101 r1 r1 (qa 101 r1 r1 (qf (oB [(1,.tmp 16)] [.bool false,.int .i64 0,.int .i64 0,.int .i64 0] [(0,1),(1,1),(2,1),(3,1)] (.one rfl .t one_int kr .nil)) r1 qz (qf (o_neqS (ks:=[false,true,true,true]) kr .t .t (.bool (.int (.int (.int .nil))))) r2 qz (qR rr (qv 1 101 rfl r2 r1 (qw 101 rfl r2 r1 (qk rfl (fun h=>Zay (.w h) qi) r2 qz (qf (Zam .t .t) r2 qz (qR rr (qv 1 101 rfl r2 r1 (qw 101 rfl r2 r1 (qk rfl (fun h=>ZaU (.w h) qi) r2 qz (qf (Zam .t .t) r2 qz qZ))))))))))))))) V [28,2] [101,0] fun G=>?_))))
 refine Zc G rfl (fun hc1=>?_) (fun hc1=>?_)
 ·have hg:(1:Int)=ZcO o:=by
    unfold ZcO
    rw [Yc]
    rw [ZfE hr]
    simp [hr,idB] at hc1 ⊢
    omega
  refine Ya (rZ G (qI qZ) V [2] [101,0] fun G=>(Yh (Zk ?_)))
  refine Zo hfr G rfl rfl rfl (.int hg)
 have hg:(0:Int)=ZcO o:=by
   unfold ZcO
   rw [Yf]
   rw [ZfE hr]
   simp [hr,idB] at hc1 ⊢
   omega
 refine Ye (Za (Ya (rZ G (qI qZ) V [2] [101,0] fun G=>Yh ?_)))
 refine Zo hfr G rfl rfl rfl (.int hg)
theorem Ztj (t : TxD) (hl : t.ops.length ≤ 1000000) (p : OpD → Bool) (f : FuncId) (fn : Func) (cps : List PV) (hf : prog.funcs[f]? = some fn) (hb : fn.body.isSome = true) (hnn : (fn.name == "runtime.NumGoroutine") = false) (hw : ∀ x, FnP prog f (.agg (rOp x) :: cps) (.bool (p x))) : FnP prog 139 [.agg (rTx t), .clos f cps] (.sl rInt (Zbq ((t.ops.filter p).map OpD.key))) := by
 refine FnP.mk func139 rfl ntmps139 rfl fun B a w F V hfr G=>Ya ?_
 refine Zb G (qx 101 r1 (qC qZ)) V [4,2,1] [101,0] (fun _=>rfl) (fun _=>rfl) fun τ a w F G=>?_
 try dsimp only [RS.sub,SF.sub,CF.sub,csub,Anc.sub,List.map,zCF,rInt,rOp,rTx] at G
 generalize τ 2=v2 at G
 refine Za (Ya (rZ G (qC qZ) V [5,4,2,1] [101,0] fun G=>(Ya (Ya ?_))))
 refine rZ G (qg 2 101 r1 r1 (qa 101 r1 r1 (qu underlying28 r1 (qJ qZ)))) V [11,10,9,5,4,1] [101,0] fun G=>Yg ?_
 replace G:=G.fresh 50 rfl
 replace G:=G.turn 50 rfl (ZaA (T:=3) (sz:=1) (R:=rInt))
 refine Zl (σ:=(Nat)×(Value)×(List Int)) [1,4,9,10] [0,101] (fun s=>[(11,.pv (.int .i64 (s.1:Int))),(5,.pv (.is s.2.1))]) (fun s=>[(50,.ob (.val s.2.1) (ZA 3 1 rInt s.2.2))]) (fun s=>s.1≤t.ops.length∧(s.2.2=(((t.ops.take s.1).filter p).map OpD.key))) (fun s=>t.ops.length - s.1) ((0),(.slice none 0 0),([])) G ⟨rfl,rfl,rfl,rfl,rfl,rfl,tv⟩ ⟨rfl,rfl,rfl,tv⟩ ⟨Yv _,rfl⟩ ?_
 clear G;intro s a w F hC G
 obtain ⟨i,v,out⟩:=s
 try dsimp only at hC
 obtain ⟨F,G⟩:=G.nM [11,10,9,5,4,1] [101,50,0]
 try dsimp only at G
 obtain ⟨hi,hq⟩:=hC
 have hol:out.length≤i:=by rw [hq,YM];exact Y5 (Yai _ _) (by rw [Yj];omega)
 refine Ya (rZ G (qL r2) V [12,11,10,9,5,4,1] [101,50,0] fun G=>Ya ?_)
 refine Zc G rfl (fun hc0=>?_) (fun hc0=>?_)
 ·skip
  have hil:i<t.ops.length:=by simp at hc0;omega
  refine Ye (Za (Ya (Yg (Ya (Zb G (qy 4 underlying28 r2 (qf (oR true 4 .t) r1 qz (qf (oH [.bool false,.int .i64 0,.int .i64 0,.int .i64 0] 102) trivial qz (qS 4 102 r2 r1 qZ)))) V [11,10,9,7,5,4,1] [102,101,50,0] (fun _=>rfl) (fun _=>rfl) fun τ a w F G=>?_)))))
  try dsimp only [RS.sub,SF.sub,CF.sub,csub,Anc.sub,List.map,Ze,xL,xM,Nat.reduceAdd,xD,xE,xT,xU,xC,xN,zCF,ldSF,rInt,rOp,rTx] at G
  generalize τ 7=v7 at G
  try simp only [Yb] at G
  refine Za (Ya (rZ G (qR rr (qe 4 102 r1 r1 (qf (ZN (avs:=[.agg (rOp (Nn t.ops i))]) .t (hw (Nn t.ops i)) hf hb hnn (Args.one (.pagg .t))) r2 qz qZ))) V [17,11,10,9,7,5,4,1] [102,101,50,0] fun G=>?_))
  refine Zc G rfl (fun hc1=>?_) (fun hc1=>?_)
  ·skip
   have hBq:p (Nn t.ops i)=true:=by simpa using hc1
   refine Zb G (qR rr (qg 1 102 r1 r1 (qa 102 r1 r1 (qf (o_buildSliceE (sz:=1) (zs:=[.int .i64 0]) (r:=[(0,.tmp 20)]) (l:=[_]) underlying45 kr kr kr kr rfl rfl (.one rfl .t one_int kr .nil) rfl) r1 qz (qf (ZW (sz:=1) (bs:=8) 50 (.mk' underlying45 kr kr) (by intro x;rfl) .is (.arr (l':=[(Nn t.ops i).key]) .t) (by simp only [Yd,Yl,Yy,Yj,YH];omega) (by decide)) ⟨rfl,rfl,tv⟩ ⟨rfl,tv⟩ (qO rr qZ)))))) V [11,10,9,5,4,1] [102,101,50,0] (fun _=>rfl) (fun _=>rfl) fun τ a w F G=>?_
   try dsimp only [RS.sub,SF.sub,CF.sub,csub,Anc.sub,List.map,Ze,xL,xM,Nat.reduceAdd,xD,xE,xT,xU,xC,xN,zCF,ldSF,rInt,rOp,rTx] at G
   generalize τ 22=v22 at G
   refine Zj (Za (rZ G (qp r1 (qR rr qZ)) V [11,10,9,5,4,1] [102,101,50,0] fun G=>?_))
   replace G:=G.ent (i:=11) (s':=.pv (.int .i64 ((i+1:Nat):Int))) rfl (.int (Zd ow))
   obtain ⟨F,G⟩:=G.nM [10,9,4,1,5,11] [101,0,50]
   exact ⟨((i+1),_,_),F,⟨by omega,(by rw [Zr hil,Yae,YQ,← hq];simp [hBq])⟩,G,by omega⟩
  have hBq:p (Nn t.ops i)=false:=by simpa using hc1
  refine Ye (Zj (Za (rZ G (qp r1 (qR rr qZ)) V [11,10,9,5,4,1] [102,101,50,0] fun G=>?_)))
  replace G:=G.ent (i:=11) (s':=.pv (.int .i64 ((i+1:Nat):Int))) rfl (.int (Zd ow))
  obtain ⟨F,G⟩:=G.nM [10,9,4,1,5,11] [101,0,50]
  exact ⟨((i+1),_,_),F,⟨by omega,(by rw [Zr hil,Yae,YQ,← hq];simp [hBq])⟩,G,by omega⟩
 have hil:i=t.ops.length:=by simp at hc0;omega
 refine Yw (Zi (Zi (Zn (Za (Ya (rZ G (qR rr (qf (Zbf 50 (Zjq _ out ow) func92 rfl kr (Args.one .t)) r1 r1 qZ)) V [5,4] [101,50,0] fun G=>Ya ?_))))))
 refine Zb G (qR rr (qf (o_callRowN 50 (Zj2 _ _ (by rw [Ybr];omega)) func179 rfl kr (Args.one .t) pvOne1) r1 r1 (qO rr qZ))) V [4] [101,50,0] (fun _=>rfl) (fun _=>rfl) fun τ a w F G=>?_
 try dsimp only [RS.sub,SF.sub,CF.sub,csub,Anc.sub,List.map,rInt,rOp,rTx] at G
 generalize τ 27=v27 at G
 refine Za (Yh ?_)
 obtain ⟨F,G⟩:=G.give 50 4 rfl rfl
 refine Zo hfr G rfl rfl rfl (.sl (by rw [Zc2,Zdq,hq,hil,YD]))
theorem Zf4 (l:List Int):(Zbq l).length≤l.length:=by
 have key:∀ (l acc:List Int),(l.foldl ZlM acc).length≤acc.length+l.length:=fun l=>by
  induction l with
  | nil=>intro acc;simp
  | cons x l ih=>
   intro acc
   have h1:=ih (ZlM acc x)
   have h2:(ZlM acc x).length≤acc.length+1:=Zi5 acc false
   rw [YaE,Yl];omega
 have:=key l []
 simpa [Zbq] using this
theorem Ent.fnClos {f:FuncId} : Ent (.pv (.is (.func (.func f) #[] #[]))) (.pv (.clos f [])):=fun τ w y v h=>⟨[],h.1,tv⟩
theorem ZtL (o:OpD):FnP prog 140 [.agg (rOp o)] (.bool (!o.read)):=by
 refine FnP.mk func140 rfl ntmps140 rfl fun B a w F V hfr G=>Ya ?_
 refine Zb G (qx 101 r1 qB) V [2,1] [101,0] (fun _=>rfl) (fun _=>rfl) fun τ a w F G=>?_
 try dsimp only [RS.sub,SF.sub,CF.sub,csub,Anc.sub,List.map,zCF,rOp] at G
 generalize τ 1=v1 at G
 refine Za (Ya (rZ G (qg 0 101 r1 r1 (qa 101 r1 r1 (qf (o_not .t) r1 qz (qO rr qZ)))) V [2] [0] fun G=>Yh ?_))
 refine Zo hfr G rfl rfl rfl (.bool rfl)
theorem Zth (t:TxD) (hl:t.ops.length≤1000000):FnP prog 91 [.agg (rTx t)] (.sl rInt (Zbq ((t.ops.filter fun o=>!o.read).map OpD.key))):=by
 refine FnP.mk func91 rfl ntmps91 rfl fun B a w F V hfr G=>Ya ?_
 refine Zb G (qx 101 r1 (qC qZ)) V [2,1] [101,0] (fun _=>rfl) (fun _=>rfl) fun τ a w F G=>?_
 try dsimp only [RS.sub,SF.sub,CF.sub,csub,Anc.sub,List.map,zCF,rTx,rInt] at G
 generalize τ 1=v1 at G
 refine Za (Ya (rZ G (qe 3 101 r1 r1 (qf (oP (Ztj t hl (fun o=>!o.read) 140 f140 [] func140 rfl kr (fun o=>ZtL o)) func139 (Args.two (.pagg .t) (.conv .f (Ent.fnClos)))) r1 qz (qO rr qZ))) V [2] [0] fun G=>Yh ?_))
 refine Zo hfr G rfl rfl rfl (.sl rfl)
theorem Zft (t:TxD) (n:Int) (hl:t.ops.length≤1000000):FnP prog 29 [.agg (rTx t),.int .i64 n] (.int .i64 (((t.ops.filter fun o=>!o.read && decide (o.key=n)).length:Nat):Int)):=by
 refine FnP.mk func29 rfl ntmps29 rfl fun B a w F V hfr G=>?_
 have hll:t.ops.length≤1000000:=hl
 refine Ya (Zb G (qx 101 r1 (qI qZ)) V [4,2,1] [101,0] (fun _=>rfl) (fun _=>rfl) fun τ a w F G=>?_)
 try dsimp only [RS.sub,SF.sub,CF.sub,csub,Anc.sub,List.map,zCF,rInt,rOp,rTx] at G
 generalize τ 2=v2 at G
 refine Za (Ya (rZ G (qI qZ) V [5,4,2,1] [101,0] fun G=>(Ya (Ya ?_))))
 refine rZ G (qg 2 101 r1 r1 (qa 101 r1 r1 (qu underlying28 r1 (qJ qZ)))) V [11,10,9,5,4,1] [0] fun G=>Yg ?_
 refine Zl (σ:=(Nat)) [1,4,9,10] [0] (fun s=>[(11,.pv (.int .i64 (s:Int))),(5,.pv (.int .i64 ((((t.ops.take s).filter fun o=>!o.read && decide (o.key=n)).length:Nat):Int)))]) (fun s=>[]) (fun s=>s≤t.ops.length∧(True)) (fun s=>t.ops.length - s) (0) G ⟨rfl,rfl,rfl,rfl,rfl,rfl,tv⟩ ⟨rfl,tv⟩ ⟨Yv _,tv⟩ ?_
 clear G;intro i a w F hC G
 try dsimp only at hC
 obtain ⟨F,G⟩:=G.nM [11,10,9,5,4,1] [0]
 try dsimp only at G
 obtain ⟨hi,hq⟩:=hC
 refine Ya (rZ G (qL r2) V [12,11,10,9,5,4,1] [0] fun G=>Ya ?_)
 refine Zc G rfl (fun hc0=>?_) (fun hc0=>?_)
 ·have hil:i<t.ops.length:=by simp at hc0;omega
  refine Ye (Za (Ya (Yg (Ya (Zb G (qy 4 underlying28 r2 (qf (oR true 4 .t) r1 qz (qf (oH [.bool false,.int .i64 0,.int .i64 0,.int .i64 0] 102) trivial qz (qS 4 102 r2 r1 qZ)))) V [11,10,9,7,5,4,1] [102,0] (fun _=>rfl) (fun _=>rfl) fun τ a w F G=>?_)))))
  try dsimp only [RS.sub,SF.sub,CF.sub,csub,Anc.sub,List.map,Ze,xL,xM,Nat.reduceAdd,xD,xE,xT,xU,xC,xN,zCF,ldSF,rInt,rOp,rTx] at G
  generalize τ 7=v7 at G
  try simp only [Yb] at G
  refine Za (Ya (rZ G (qg 0 102 r1 r1 (qa 102 r1 r1 (qf (o_not .t) r1 qz (qR rr (qv 1 102 rfl r2 r1 (qw 102 rfl r2 r1 (qm rfl rfl rfl rfl (qk rfl (fun h=>o_eql (.w h) (.w h)) r3 qz (qf (ZD .t .t) r2 qz qZ))))))))) V [23,11,10,9,5,4,1] [0] fun G=>?_))
  refine Zc G rfl (fun hc1=>?_) (fun hc1=>?_)
  ·have hstp:((t.ops.take (i+1)).filter fun o=>!o.read && decide (o.key=n))=((t.ops.take i).filter fun o=>!o.read && decide (o.key=n))++(if (!(Nn t.ops i).read && decide ((Nn t.ops i).key=n))=true then [(Nn t.ops i)] else []):=by rw [Zr hil,Yae];simp only [List.filter_cons,List.filter_nil]
   have hle:((t.ops.take i).filter fun o=>!o.read && decide (o.key=n)).length≤i:=Y5 (Yai _ _) (by rw [Yj];omega)
   have hBq:(!(Nn t.ops i).read && decide ((Nn t.ops i).key=n))=true:=hc1
   have hcc:IntKind.wrap .i64 (((((t.ops.take i).filter fun o=>!o.read && decide (o.key=n)).length:Nat):Int)+1)=((((t.ops.take (i+1)).filter fun o=>!o.read && decide (o.key=n)).length:Nat):Int):=by rw [hstp,Yf hBq,Yd,Zy ow];simp
   refine Zf G (qR rr (qp r1 (qO rr qZ))) V [11,10,9,5,4,1] [0] rfl rfl fun a w F G=>Zj (Za ?_)
   refine rZ G (qp r1 (qR rr qZ)) V [11,10,9,5,4,1] [0] fun G=>?_
   replace G:=G.ent (i:=11) (s':=.pv (.int .i64 ((i+1:Nat):Int))) rfl (.int (Zd ow))
   replace G:=G.ent (i:=5) (s':=.pv (.int .i64 ((((t.ops.take (i+1)).filter fun o=>!o.read && decide (o.key=n)).length:Nat):Int))) rfl (.int hcc)
   obtain ⟨F,G⟩:=G.nM [10,9,4,1,5,11] [0]
   exact ⟨(i+1),F,⟨by omega,tv⟩,G,by omega⟩
  have hstp:((t.ops.take (i+1)).filter fun o=>!o.read && decide (o.key=n))=((t.ops.take i).filter fun o=>!o.read && decide (o.key=n))++(if (!(Nn t.ops i).read && decide ((Nn t.ops i).key=n))=true then [(Nn t.ops i)] else []):=by rw [Zr hil,Yae];simp only [List.filter_cons,List.filter_nil]
  have hle:((t.ops.take i).filter fun o=>!o.read && decide (o.key=n)).length≤i:=Y5 (Yai _ _) (by rw [Yj];omega)
  have hBq:(!(Nn t.ops i).read && decide ((Nn t.ops i).key=n))=false:=hc1
  have hcc:((((t.ops.take i).filter fun o=>!o.read && decide (o.key=n)).length:Nat):Int)=((((t.ops.take (i+1)).filter fun o=>!o.read && decide (o.key=n)).length:Nat):Int):=by rw [hstp,Yc (by rw [hBq];simp),YP]
  refine Ye (Zj (Za (rZ G (qp r1 (qR rr qZ)) V [11,10,9,5,4,1] [0] fun G=>?_)))
  replace G:=G.ent (i:=11) (s':=.pv (.int .i64 ((i+1:Nat):Int))) rfl (.int (Zd ow))
  replace G:=G.ent (i:=5) (s':=.pv (.int .i64 ((((t.ops.take (i+1)).filter fun o=>!o.read && decide (o.key=n)).length:Nat):Int))) rfl (.int hcc)
  obtain ⟨F,G⟩:=G.nM [10,9,4,1,5,11] [0]
  exact ⟨(i+1),F,⟨by omega,tv⟩,G,by omega⟩
 have hil:i=t.ops.length:=by simp at hc0;omega
 refine Yw (Zi (Zi (Zn (Za (Ya (rZ G (qR rr (qO rr qZ)) V [4] [0] fun G=>Yh ?_))))))
 refine Zo hfr G rfl rfl rfl (.int (by rw [hil,YD]))
def wcnt (l:List OpD) (k:Int):Nat:=(l.filter fun o=>!o.read && decide (o.key=k)).length
theorem Zio {l:List OpD} {i:Nat} (h:i<l.length) (k:Int):wcnt (l.take (i+1)) k=wcnt (l.take i) k+if (Nn l i).read=false∧(Nn l i).key=k then 1 else 0:=by
 unfold wcnt
 rw [Zr h,Yae,Yd]
 congr 1
 by_cases h1:(Nn l i).read=false∧(Nn l i).key=k
 ·rw [Yf h1];simp [h1.1,h1.2]
 ·rw [Yc h1]
  have:(!(Nn l i).read && decide ((Nn l i).key=k))=false:=by
   cases hr:(Nn l i).read with
   | true=>rfl
   | false=>simp;exact fun e=>h1 ⟨hr,e⟩
  simp [this]
theorem Ztw (l:List OpD) (i:Nat) (k:Int):wcnt (l.take i) k≤i:=Y5 (Yai _ _) (by rw [Yj];omega)
def Za6 (id:Int):List OpD→List OpD→Int
 | _,[]=>0
 | s,o :: r=>if ZcC o=false then 1 else if o.read=true∧o.tx=id∧(wcnt s o.key:Int)<o.nth then 6 else Za6 id (s ++ [o]) r
def ZbV (t:TxD):Int:=if ¬ (1≤t.id∧t.id≤1048575) then 1 else if 4095<t.ops.length then 9 else Za6 t.id [] t.ops
theorem Zc0 {id:Int} {l:List OpD} {i:Nat} (h:i<l.length):Za6 id (l.take i) (l.drop i)=if ZcC (Nn l i)=false then 1 else if (Nn l i).read=true∧(Nn l i).tx=id∧(wcnt (l.take i) (Nn l i).key:Int)<(Nn l i).nth then 6 else Za6 id (l.take (i+1)) (l.drop (i+1)):=by
 rw [ZrW h,Za6,Zr h]
theorem ZjL {id:Int} {l:List OpD} {i:Nat} (h:i=l.length):Za6 id (l.take i) (l.drop i)=0:=by rw [h,List.drop_length];rfl
def ZhH (id:Int) (o:OpD):Bool:=(o.read && !decide (o.tx=0)) && !decide (o.tx=id)
def Zbr (id:Int) (out:List Zcg) (o:OpD):List Zcg:=if ZhH id o=true∧ofO o ∉ out then out ++ [ofO o] else out
def Zdi (id:Int) (l:List OpD):List Zcg:=l.foldl (Zbr id) []
def ZpK (t:TxD):List Zcg:=Zdi t.id t.ops
theorem ZjZ {id:Int} {l:List OpD} {i:Nat} (h:i<l.length):Zdi id (l.take (i+1))=Zbr id (Zdi id (l.take i)) (Nn l i):=by
 unfold Zdi
 rw [Zr h,YaF]
 rfl
theorem Zjw (id:Int) (out:List Zcg) (o:OpD):(Zbr id out o).length≤out.length+1:=by
 unfold Zbr
 split <;> simp
theorem Zmb (id:Int) (l:List OpD) (i:Nat):(Zdi id (l.take i)).length≤i:=by
 have key:∀ (l:List OpD) (out:List Zcg),(l.foldl (Zbr id) out).length≤out.length+l.length:=by
  intro l
  induction l with
  | nil=>intro out;simp
  | cons x l ih=>
   intro out
   have h1:=ih (Zbr id out x)
   have h2:=Zjw id out x
   rw [YaE,Yl];omega
 have:=key (l.take i) []
 rw [Yj] at this
 unfold Zdi
 simp at this ⊢
 omega
structure Zbe where
 key:Int
 nth:Int
 deriving DecidableEq,Inhabited
def Zbj (p:Zbe):List Int:=[p.key,p.nth]
def Zdh (v:Zcg):List Int:=[v.tx,v.key,v.nth]
def Zci (es:List (GE Zbe Int)) (s:List OpD):Prop:=∀ k n,0≤n→(gGet (⟨k,n⟩:Zbe) es).getD 0=if n=0 then (wcnt s k:Int) else if n≤wcnt s k then 1 else 0
theorem Zo5:Zci [] []:=fun k n h=>by
 show (0:Int)=_
 have:wcnt [] k=0:=rfl
 rw [this]
 split
 ·rfl
 ·rw [Yc (by simp;omega)]
theorem ZpE {es:List (GE Zbe Int)} {l:List OpD} {i:Nat} (h:Zci es (l.take i)) (hi:i<l.length) (hr:(Nn l i).read=true):Zci es (l.take (i+1)):=fun k n hn=>by
 rw [h k n hn,Zio hi,Yc (c:=(Nn l i).read=false∧(Nn l i).key=k) (by simp [hr]),Ybd]
theorem ZoA {es es2:List (GE Zbe Int)} {l:List OpD} {i:Nat} {c:Int} (h:Zci es (l.take i)) (hi:i<l.length) (hr:(Nn l i).read=false) (hc:c=(wcnt (l.take i) (Nn l i).key:Int)+1)
  (he:∀ p,(gGet p es2).getD 0=if p = ⟨(Nn l i).key,c⟩ then 1 else if p = ⟨(Nn l i).key,0⟩ then c else (gGet p es).getD 0):Zci es2 (l.take (i+1)):=fun k n hn=>by
 have hk:=h k n hn
 rw [he,hk,Zio hi]
 by_cases e:(Nn l i).key=k
 ·rw [Yf (c:=(Nn l i).read=false∧_) ⟨hr,e⟩]
  rw [e] at hc
  rw [e]
  by_cases e2:n=c
  ·subst e2
   rw [Yf rfl,Yc ow,Yf ow]
  ·rw [Yc (by simp [e2])]
   by_cases e3:n=0
   ·subst e3
    rw [Yf rfl,Yf rfl,hc];simp
   ·rw [Yc (by simp [e3]),Yc e3,Yc e3]
    by_cases e4:n≤(wcnt (l.take i) k:Int)
    ·rw [Yf e4,Yf ow]
    ·rw [Yc e4,Yc ow]
 ·rw [Yc (c:=(Nn l i).read=false∧_) (by simp [e]),Ybd,Yc (by simp;exact fun h=>absurd h.symm e),Yc (by simp;exact fun h=>absurd h.symm e)]
def Zd3 (es:List (GE Zcg Int)) (i:Nat) (out:List Zcg):Prop:=∀ v,0≤(gGet v es).getD 0∧(gGet v es).getD 0≤i∧(0<(gGet v es).getD 0 ↔ v ∈ out)
theorem Zra:Zd3 [] 0 []:=fun v=>⟨Yao _,Yao _,by show (0:Int)<0 ↔ _;simp⟩
theorem ZqH {es:List (GE Zcg Int)} {i:Nat} {out:List Zcg} (h:Zd3 es i out):Zd3 es (i+1) out:=fun v=>⟨(h v).1,by have:=(h v).2.1;omega,(h v).2.2⟩
theorem Zq7 {es es2:List (GE Zcg Int)} {i:Nat} {out:List Zcg} {v:Zcg} (h:Zd3 es i out) (he:∀ u,(gGet u es2).getD 0=if u=v then (gGet v es).getD 0+1 else (gGet u es).getD 0):Zd3 es2 (i+1) (if v ∈ out then out else out ++ [v]):=fun u=>by
 have h1:=h u
 have h2:=h v
 rw [he u]
 by_cases e:u=v
 ·subst e
  rw [Yf rfl]
  refine ⟨by omega,by omega,?_⟩
  constructor
  ·intro _;split <;> simp_all
  ·intro _;omega
 ·rw [Yc e]
  refine ⟨by omega,by omega,?_⟩
  rw [h1.2.2]
  split
  ·rfl
  ·simp [e]
theorem ZgK {κ:Type} [DecidableEq κ] {k p:κ} {x:Int} (s:List (GE κ Int)×Nat):(gGet p (gSet k x (gEns 0 k s).1)).getD 0=if p=k then x else (gGet p s.1).getD 0:=by
 rw [Zc8];split <;> rfl
theorem ZqZ {κ:Type} [DecidableEq κ] {k p:κ} {x:Int} (s:List (GE κ Int)×Nat):(gGet p (gPut k x s).1).getD 0=if p=k then x else (gGet p s.1).getD 0:=by
 rw [Zc1];split <;> rfl
theorem Zfx:ZmW prog 137 (fun k=>∀ x ∈ Zbj k,inR .i64 x) (kvS Zbj):=Zdl (n:=2) (fun _=>rfl) (fun a b h=>by cases a;cases b;simpa [Zbj] using h) kr
theorem Zpe:ZmW prog 33 (fun k=>∀ x ∈ Zdh k,inR .i64 x) (kvS Zdh):=Zdl (n:=3) (fun _=>rfl) (fun a b h=>by cases a;cases b;simpa [Zdh] using h) kr
theorem ZiD {es:List (GE Zbe Int)} {s:List OpD} {o:OpD} {id:Int} (h:Zci es s) (hk:ZcC o=true) (hr:o.read=true) (hid:1≤id):(o.tx=id∧(gGet (⟨o.key,o.nth⟩:Zbe) es).getD 0=0) ↔ (o.read=true∧o.tx=id∧(wcnt s o.key:Int)<o.nth):=by
 have hb:=Zn7 hk
 have h1:=h o.key o.nth ow
 constructor
 ·rintro ⟨e1,e2⟩
  refine ⟨hr,e1,?_⟩
  have hn:1≤o.nth:=by
   rw [Zg1 hr] at hk
   unfold ofO at hk
   rw [Yf hr] at hk
   unfold ZcD at hk
   rw [Yc (show ¬ o.tx=0 by omega)] at hk
   simp at hk
   omega
  rw [e2,Yc ow] at h1
  split at h1
  ·cases h1
  ·omega
 ·rintro ⟨_,e1,e2⟩
  refine ⟨e1,?_⟩
  rw [h1,Yc ow,Yc ow]
theorem Zm6 (t:TxD):FnP prog 44 [.agg (rTx t)] (.int .i64 (ZbV t)):=by
 refine FnP.mk func44 rfl ntmps44 rfl fun B a w F V hfr G=>Ya ?_
 refine Zb G (qx 101 r1 (qI qZ)) V [2,1] [101,0] (fun _=>rfl) (fun _=>rfl) fun τ a w F G=>?_
 try dsimp only [RS.sub,SF.sub,CF.sub,csub,Anc.sub,List.map,zCF,rInt,rOp,rTx] at G
 generalize τ 1=v1 at G
 refine Za (Ya (Yg (Ya (rZ G (qg 0 101 r1 r1 (qa 101 r1 r1 (qf (Zay .t qi) r1 qz (qR rr (qv 0 101 rfl r2 r1 (qw 101 rfl r2 r1 (qk rfl (fun h=>ZaU (.w h) qi) r2 qz (qf (Zam .t .t) r2 qz (qO rr qZ))))))))) V [7,2,1] [101,0] fun G=>?_))))
 refine Zc G rfl (fun hc0=>?_) (fun hc0=>?_)
 ·have hg:1=ZbV t:=by unfold ZbV;rw [Yf (by simp at hc0;omega)]
  refine Ya (rZ G (qI qZ) V [2,1] [101,0] fun G=>(Yh (Zu (Zk ?_))))
  refine Zo hfr G rfl rfl rfl (.int hg)
 have hid:1≤t.id∧t.id≤1048575:=by simp at hc0;omega
 refine Ya (rZ G (qg 2 101 r1 r1 (qa 101 r1 r1 (qu underlying28 r1 (qf (ZaU .t qi) r1 qz (qO rr qZ))))) V [16,2,1] [101,0] fun G=>?_)
 refine Zc G rfl (fun hc1=>?_) (fun hc1=>?_)
 ·have hg:9=ZbV t:=by unfold ZbV;rw [Yc ow,Yf (by simp at hc1;omega)]
  refine Ya (rZ G (qI qZ) V [2,1] [101,0] fun G=>(Yh (Zu (Zk ?_))))
  refine Zo hfr G rfl rfl rfl (.int hg)
 have hlen:t.ops.length≤4095:=by simp at hc1;omega
 have hT:ZbV t=Za6 t.id [] t.ops:=by unfold ZbV;rw [Yc ow,Yc ow]
 refine Ye (Zj (Za (Ya (Zb G (qf (ZaR (ek:=(fun n:Int=>PV.int .i64 n)) (ok:=(fun k=>∀ x ∈ Zbj k,inR .i64 x)) (kv:=(kvS Zbj)) 102) trivial qz (qO rr qZ)) V [3,2,1] [102,101,0] (fun _=>rfl) (fun _=>rfl) fun τ a w F G=>?_))))
 try dsimp only [RS.sub,SF.sub,CF.sub,csub,Anc.sub,List.map,Ze,xL,xM,Nat.reduceAdd,xD,xE,xT,xU,xC,xN,zCF,rInt,rOp,rTx] at G
 generalize τ 21=v21 at G
 refine Za (Ya (Ya (rZ G (qg 2 101 r1 r1 (qa 101 r1 r1 (qu underlying28 r1 (qJ qZ)))) V [25,24,23,3,2,1] [102,101,0] fun G=>Yg ?_)))
 refine Zl (σ:=(Nat)×(List (GE Zbe Int))×(Nat)) [1,2,3,23,24] [0,101] (fun s=>[(25,.pv (.int .i64 (s.1:Int)))]) (fun s=>[(102,.ob (.val v21) (ZbA (fun n:Int=>PV.int .i64 n) (fun k=>∀ x ∈ Zbj k,inR .i64 x) (kvS Zbj) s.2.1 s.2.2))]) (fun s=>s.1≤t.ops.length∧(Za6 t.id [] t.ops=Za6 t.id (t.ops.take s.1) (t.ops.drop s.1)∧Zci s.2.1 (t.ops.take s.1))) (fun s=>t.ops.length - s.1) ((0),([]),(0)) G ⟨rfl,rfl,rfl,rfl,rfl,rfl,tv⟩ ⟨rfl,rfl,rfl,tv⟩ ⟨Yv _,⟨rfl,Zo5⟩⟩ ?_
 clear G;intro s a w F hC G
 obtain ⟨i,es,ck⟩:=s
 try dsimp only at hC
 obtain ⟨F,G⟩:=G.nM [25,24,23,3,2,1] [102,101,0]
 try dsimp only at G
 obtain ⟨hi,hq⟩:=hC
 obtain ⟨hrt,hsp⟩:=hq
 have hwl:=fun k=>Ztw t.ops i k
 refine Ya (rZ G (qL r2) V [26,25,24,23,3,2,1] [102,101,0] fun G=>Ya ?_)
 refine Zc G rfl (fun hc2=>?_) (fun hc2=>?_)
 ·have hil:i<t.ops.length:=by simp at hc2;omega
  refine Ye (Za (Ya (Yg (Ya (Zb G (qy 4 underlying28 r2 (qf (oR true 4 .t) r1 qz (qf (oH [.bool false,.int .i64 0,.int .i64 0,.int .i64 0] 103) trivial qz (qS 4 103 r2 r1 qZ)))) V [25,24,23,5,3,2,1] [103,102,101,0] (fun _=>rfl) (fun _=>rfl) fun τ a w F G=>?_)))))
  try dsimp only [RS.sub,SF.sub,CF.sub,csub,Anc.sub,List.map,Ze,xL,xM,Nat.reduceAdd,xD,xE,xT,xU,xC,xN,zCF,ldSF,rInt,rOp,rTx] at G
  generalize τ 5=v5 at G
  try simp only [Yb] at G
  refine Za (Ya (Ya (rZ G (qe 4 103 r1 r1 (qf (oP (Zn5 (Nn t.ops i)) func86 (Args.one (.pagg .t))) r1 qz (qO rr qZ))) V [25,24,23,6,5,3,2,1] [103,102,101,0] fun G=>Ya ?_)))
  refine rZ G (qR rr (qf (o_neq .t qi) r1 qz qZ)) V [32,25,24,23,6,5,3,2,1] [103,102,101,0] fun G=>?_
  refine Zc G rfl (fun hc3=>?_) (fun hc3=>?_)
  ·have hk:ZcC (Nn t.ops i)=false:=by unfold ZcO at hc3;simpa using hc3
   have hg:ZcO (Nn t.ops i)=ZbV t:=by rw [hT,hrt,Zc0 hil,Yf hk];unfold ZcO;rw [hk];rfl
   refine Ya (rZ G (qR rr (qO rr qZ)) V [25,24,23,5,3,2,1] [103,102,101,0] fun G=>(Yh (Zk (Zu (Zk (Zk (Zu (Zk ?_))))))))
   refine Zo hfr G rfl rfl rfl (.int hg)
  have hk:ZcC (Nn t.ops i)=true:=by unfold ZcO at hc3;simpa using hc3
  refine Ye (Za (Ya (Ya (rZ G (qg 0 103 r1 r1 (qa 103 r1 r1 (qf (o_not .t) r1 qz qZ))) V [36,25,24,23,5,3,2,1] [103,102,101,0] fun G=>?_))))
  refine Zc G rfl (fun hc4=>?_) (fun hc4=>?_)
  ·have hr:(Nn t.ops i).read=false:=by simpa using hc4
   have hm0:=hsp (Nn t.ops i).key 0 (Yao _)
   rw [Yf rfl] at hm0
   have hwc:IntKind.wrap .i64 (((gGet (⟨(Nn t.ops i).key,0⟩:Zbe) es).getD 0)+1)=(wcnt (t.ops.take i) (Nn t.ops i).key:Int)+1:=by rw [hm0];exact Zy (by have:=hwl (Nn t.ops i).key;omega)
   refine Ya ?_
   replace G:=G.turnZ 102 (0) (⟨(Nn t.ops i).key,0⟩:Zbe) rfl
   refine Za8 102 8 (m1:=1) (m2:=2) kr G kr (qR rr (qg 1 103 r1 r1 (qa 103 r1 r1 (qf (oB [(0,.tmp 39),(1,_)] [.int .i64 0,.int .i64 0] [(0,1),(1,1)] (.one rfl .t one_int kr (.one rfl qi one_int kr .nil))) r1 qz (qf (Zb6 (ek:=(fun n:Int=>PV.int .i64 n)) (z0:=(0)) 102 underlying134 Zfx kr (fun _ _=>⟨rfl,Zdj⟩) .is (ZI.agg (enc:=Zbj) (k:=(⟨(Nn t.ops i).key,0⟩:Zbe)) (.pagg .t) rfl)) r2 r1 (qp r1 (qf (Za9 (ek:=(fun n:Int=>PV.int .i64 n)) (z0:=(0)) 102 underlying134 Zfx kr (fun _ _=>⟨rfl,Zdj⟩) .is (ZI.agg (enc:=Zbj) (k:=(⟨(Nn t.ops i).key,0⟩:Zbe)) (.pagg .t) rfl) (by intros;first | rfl | simp [Anc.v,upd])) r2 r1 (qf (Zh .t rfl) r1 qz (qf (ZaK 102 (ZbB _ _ _) .is .t .t) r3 r1 qZ))))))))) kr kr kr rfl rfl rfl (fun _ _ _ _ h=>.inr h) (by rw [V];kernel_rfl) fun a w F G=>?_
   obtain ⟨F,G⟩:=G.nM [25,24,23,5,3,2,1] [103,102,101,0]
   try dsimp only [List.map,Ze,xL,xM,Nat.reduceAdd,xD,xE,xT,xU,xC,xN,zCF,ldSF,rInt,rOp,rTx] at G
   obtain ⟨es1,he1⟩:∃ z,z=gSet (⟨(Nn t.ops i).key,0⟩:Zbe) (IntKind.wrap .i64 (((gGet (⟨(Nn t.ops i).key,0⟩:Zbe) es).getD 0)+1)) (gEns 0 (⟨(Nn t.ops i).key,0⟩:Zbe) (es,ck)).1:=⟨_,rfl⟩
   obtain ⟨ck1,hc1⟩:∃ z,z=(gEns 0 (⟨(Nn t.ops i).key,0⟩:Zbe) (es,ck)).2:=⟨_,rfl⟩
   rw [← he1,← hc1] at G
   refine Za (Ya (Zx G (qR rr (qg 1 103 r1 r1 (qa 103 r1 r1 (qR rr (qg 1 103 r1 r1 (qa 103 r1 r1 (qf (oB [(0,.tmp 50),(1,_)] [.int .i64 0,.int .i64 0] [(0,1),(1,1)] (.one rfl .t one_int kr (.one rfl qi one_int kr .nil))) r1 qz (qf (Zap (ek:=(fun n:Int=>PV.int .i64 n)) (z0:=(0)) 102 underlying134 Zfx kr (fun _ _=>⟨rfl,Zdj⟩) .is (ZI.agg (enc:=Zbj) (k:=(⟨(Nn t.ops i).key,0⟩:Zbe)) (.pagg .t) rfl)) r2 r1 (qf (oB [(0,.tmp 47),(1,.tmp 52)] [.int .i64 0,.int .i64 0] [(0,1),(1,1)] (.one rfl .t one_int kr (.one rfl .t one_int kr .nil))) r2 qz (qf (o_mapUpdateG (ek:=(fun n:Int=>PV.int .i64 n)) 102 underlying134 Zfx .is (ZI.agg (enc:=Zbj) (k:=(⟨(Nn t.ops i).key,(gGet (⟨(Nn t.ops i).key,0⟩:Zbe) es1).getD 0⟩:Zbe)) (.pagg .t) rfl) qi) r2 r1 qZ)))))))))) V [25,24,23,5,3,2,1] [103,102,101,0] rfl rfl fun a w F G=>?_))
   try dsimp only [List.map,Ze,xL,xM,Nat.reduceAdd,xD,xE,xT,xU,xC,xN,zCF,ldSF,rInt,rOp,rTx] at G
   have hv1:∀ p,(gGet p es1).getD 0=if p=(⟨(Nn t.ops i).key,0⟩:Zbe) then (wcnt (t.ops.take i) (Nn t.ops i).key:Int)+1 else (gGet p es).getD 0:=fun p=>by rw [he1,ZgK,hwc]
   obtain ⟨es2,he2⟩:∃ z,z=(gPut (⟨(Nn t.ops i).key,(gGet (⟨(Nn t.ops i).key,0⟩:Zbe) es1).getD 0⟩:Zbe) 1 (es1,ck1)).1:=⟨_,rfl⟩
   obtain ⟨ck2,hc2⟩:∃ z,z=(gPut (⟨(Nn t.ops i).key,(gGet (⟨(Nn t.ops i).key,0⟩:Zbe) es1).getD 0⟩:Zbe) 1 (es1,ck1)).2:=⟨_,rfl⟩
   rw [← he2,← hc2] at G
   have hR2:Za6 t.id [] t.ops=Za6 t.id (t.ops.take (i+1)) (t.ops.drop (i+1))∧Zci es2 (t.ops.take (i+1)):=⟨by rw [hrt,Zc0 hil,Yc (by rw [hk];decide),Yc (by rw [hr];simp)],ZoA hsp hil hr rfl (fun p=>by rw [he2,ZqZ];dsimp only;rw [hv1,hv1,Yf rfl])⟩
   refine Za (Yw (Zi (Zn (Za (rZ G (qp r1 (qR rr qZ)) V [25,24,23,3,2,1] [103,102,101,0] fun G=>?_)))))
   replace G:=G.ent (i:=25) (s':=.pv (.int .i64 ((i+1:Nat):Int))) rfl (.int (Zd ow))
   obtain ⟨F,G⟩:=G.nM [24,23,3,2,1,25] [101,0,102]
   exact ⟨((i+1),(es2),(ck2)),F,⟨by omega,hR2⟩,G,by omega⟩
  have hr:(Nn t.ops i).read=true:=by simpa using hc4
  refine Ye (Za (Ya (rZ G (qg 2 103 r1 r1 (qa 103 r1 r1 (qg 0 101 r1 r1 (qa 101 r1 r1 (qf (o_eql .t .t) r2 qz (qR rr (qm rfl rfl rfl rfl (qv 1 103 rfl r2 r1 (qw 103 rfl r2 r1 (qv 3 103 rfl r2 r1 (qw 103 rfl r2 r1 (qk rfl (fun h=>Zkc (r:=[(0,.tmp 62),(1,.tmp 64)]) (zs:=[.int .i64 0,.int .i64 0]) (pl:=[(0,1),(1,1)]) kr kr (.one rfl (.w h) one_int kr (.one rfl (.w h) one_int kr .nil)) (by rfl)) r3 qz (qk rfl (fun h=>Zap (ek:=(fun n:Int=>PV.int .i64 n)) (z0:=(0)) 102 underlying134 Zfx kr (fun _ _=>⟨rfl,Zdj⟩) (.w h .is) (ZI.agg (enc:=Zbj) (k:=(⟨(Nn t.ops i).key,(Nn t.ops i).nth⟩:Zbe)) (.pagg (.w h)) rfl)) r3 r1 (qk rfl (fun h=>o_eql (.w h) qi) r2 qz (qf (ZD .t .t) r2 qz qZ))))))))))))))) V [68,25,24,23,3,2,1] [103,102,101,0] fun G=>?_)))
  refine Zc G rfl (fun hc5=>?_) (fun hc5=>?_)
  ·have hg:6=ZbV t:=by rw [hT,hrt,Zc0 hil,Yc (by rw [hk];decide),Yf ((ZiD hsp hk hr hid.1).1 (by simpa using hc5))]
   refine Ya (rZ G (qI qZ) V [25,24,23,3,2,1] [103,102,101,0] fun G=>(Yh (Zu (Zk (Zk (Zu (Zk ?_)))))))
   refine Zo hfr G rfl rfl rfl (.int hg)
  have hno:=fun h9=>(by simpa using hc5:¬ ((Nn t.ops i).tx=t.id∧(gGet (⟨(Nn t.ops i).key,(Nn t.ops i).nth⟩:Zbe) es).getD 0=0)) ((ZiD hsp hk hr hid.1).2 h9)
  obtain ⟨es2,he2⟩:∃ z,z=es:=⟨_,rfl⟩
  obtain ⟨ck2,hc2⟩:∃ z,z=ck:=⟨_,rfl⟩
  have hR2:Za6 t.id [] t.ops=Za6 t.id (t.ops.take (i+1)) (t.ops.drop (i+1))∧Zci es2 (t.ops.take (i+1)):=⟨by rw [hrt,Zc0 hil,Yc (by rw [hk];decide),Yc hno],by rw [he2];exact ZpE hsp hil hr⟩
  rw [← he2,← hc2] at G
  refine Ye (Zj (Za (rZ G (qp r1 (qR rr qZ)) V [25,24,23,3,2,1] [103,102,101,0] fun G=>?_)))
  replace G:=G.ent (i:=25) (s':=.pv (.int .i64 ((i+1:Nat):Int))) rfl (.int (Zd ow))
  obtain ⟨F,G⟩:=G.nM [24,23,3,2,1,25] [101,0,102]
  exact ⟨((i+1),(es2),(ck2)),F,⟨by omega,hR2⟩,G,by omega⟩
 have hil:i=t.ops.length:=by simp at hc2;omega
 have hg:0=ZbV t:=by rw [hT,hrt,ZjL hil]
 refine Yw (Zi (Zi (Zn (Za (Ya (rZ G (qI qZ) V [2] [102,101,0] fun G=>Yh ?_))))))
 refine Zo hfr G rfl rfl rfl (.int hg)
theorem ZoR (t:TxD) (hl:t.ops.length≤1000000):FnP prog 88 [.agg (rTx t)] (.sl ZS (ZpK t)):=by
 refine FnP.mk func88 rfl ntmps88 rfl fun B a w F V hfr G=>Ya ?_
 refine Zb G (qx 101 r1 (qC qZ)) V [2,1] [101,0] (fun _=>rfl) (fun _=>rfl) fun τ a w F G=>?_
 try dsimp only [RS.sub,SF.sub,CF.sub,csub,Anc.sub,List.map,zCF,rInt,rOp,rTx,ZS] at G
 generalize τ 1=v1 at G
 refine Za (Ya (rZ G (qC qZ) V [3,2,1] [101,0] fun G=>Ya ?_))
 refine Zb G (qf (ZaR (ek:=(fun n:Int=>PV.int .i64 n)) (ok:=(fun k=>∀ x ∈ Zdh k,inR .i64 x)) (kv:=(kvS Zdh)) 102) trivial qz (qO rr qZ)) V [4,3,2,1] [102,101,0] (fun _=>rfl) (fun _=>rfl) fun τ a w F G=>?_
 try dsimp only [RS.sub,SF.sub,CF.sub,csub,Anc.sub,List.map,Ze,xL,xM,Nat.reduceAdd,xD,xE,xT,xU,xC,xN,zCF,rInt,rOp,rTx,ZS] at G
 generalize τ 8=v8 at G
 refine Za (Ya (Ya (rZ G (qg 2 101 r1 r1 (qa 101 r1 r1 (qu underlying28 r1 (qJ qZ)))) V [12,11,10,4,3,2,1] [102,101,0] fun G=>Yg ?_)))
 replace G:=G.fresh 50 rfl
 replace G:=G.turn 50 rfl (ZaA (T:=33) (sz:=3) (R:=ZS))
 refine Zl (σ:=(Nat)×(List (GE Zcg Int))×(Nat)×(Value)×(List Zcg)) [1,2,4,10,11] [0,101] (fun s=>[(12,.pv (.int .i64 (s.1:Int))),(3,.pv (.is s.2.2.2.1))]) (fun s=>[(102,.ob (.val v8) (ZbA (fun n:Int=>PV.int .i64 n) (fun k=>∀ x ∈ Zdh k,inR .i64 x) (kvS Zdh) s.2.1 s.2.2.1)),(50,.ob (.val s.2.2.2.1) (ZA 33 3 ZS s.2.2.2.2))]) (fun s=>s.1≤t.ops.length∧(s.2.2.2.2=Zdi t.id (t.ops.take s.1)∧Zd3 s.2.1 s.1 s.2.2.2.2)) (fun s=>t.ops.length - s.1) ((0),([]),(0),(.slice none 0 0),([])) G ⟨rfl,rfl,rfl,rfl,rfl,rfl,rfl,tv⟩ ⟨rfl,rfl,rfl,rfl,tv⟩ ⟨Yv _,⟨rfl,Zra⟩⟩ ?_
 clear G;intro s a w F hC G
 obtain ⟨i,es,ck,v,out⟩:=s
 try dsimp only at hC
 obtain ⟨F,G⟩:=G.nM [12,11,10,4,3,2,1] [102,101,50,0]
 try dsimp only at G
 obtain ⟨hi,hq⟩:=hC
 obtain ⟨hou,hvi⟩:=hq
 have hol:out.length≤i:=by rw [hou];exact Zmb _ _ _
 have hst:=fun hil:i<t.ops.length=>ZjZ (id:=t.id) hil
 refine Ya (rZ G (qL r2) V [13,12,11,10,4,3,2,1] [102,101,50,0] fun G=>Ya ?_)
 refine Zc G rfl (fun hc0=>?_) (fun hc0=>?_)
 ·have hil:i<t.ops.length:=by simp at hc0;omega
  refine Ye (Za (Ya (Yg (Ya (Zb G (qy 4 underlying28 r2 (qf (oR true 4 .t) r1 qz (qf (oH [.bool false,.int .i64 0,.int .i64 0,.int .i64 0] 103) trivial qz (qS 4 103 r2 r1 qZ)))) V [12,11,10,6,4,3,2,1] [103,102,101,50,0] (fun _=>rfl) (fun _=>rfl) fun τ a w F G=>?_)))))
  try dsimp only [RS.sub,SF.sub,CF.sub,csub,Anc.sub,List.map,Ze,xL,xM,Nat.reduceAdd,xD,xE,xT,xU,xC,xN,zCF,ldSF,rInt,rOp,rTx,ZS] at G
  generalize τ 6=v6 at G
  try simp only [Yb] at G
  refine Za (Ya (Zb G (qe 4 103 r1 r1 (qf (oP (Zlp (Nn t.ops i)) func120 (Args.one (.pagg .t))) r1 qz (qf (oH [.int .i64 0,.int .i64 0,.int .i64 0] 104) trivial qz (qf (oA 3 104 .same (.conv .t .agg)) r2 r1 qZ)))) V [12,11,10,7,6,4,3,2,1] [104,103,102,101,50,0] (fun _=>rfl) (fun _=>rfl) fun τ a w F G=>?_))
  try dsimp only [RS.sub,SF.sub,CF.sub,csub,Anc.sub,List.map,Ze,xL,xM,Nat.reduceAdd,xD,xE,xT,xU,xC,xN,zCF,ldSF,rInt,rOp,rTx,ZS] at G
  generalize τ 7=v7 at G
  refine Za (Ya (Ya (rZ G (qg 0 103 r1 r1 (qa 103 r1 r1 (qf (o_not .t) r1 qz (qR rr (qv 0 104 rfl r2 r1 (qw 104 rfl r2 r1 (qk rfl (fun h=>o_eql (.w h) qi) r2 qz (qf (Zam .t .t) r2 qz (qR rr (qv 0 104 rfl r2 r1 (qw 104 rfl r2 r1 (qv 0 101 rfl r2 r1 (qw 101 rfl r2 r1 (qk rfl (fun h=>o_eql (.w h) (.w h)) r3 qz (qf (Zam .t .t) r2 qz qZ))))))))))))))) V [32,12,11,10,7,4,3,2,1] [104,103,102,101,50,0] fun G=>?_)))
  refine Zc G rfl (fun hc1=>?_) (fun hc1=>?_)
  ·have hno:ZhH t.id (Nn t.ops i)=false:=by unfold ZhH;unfold ofO at hc1;cases hr:(Nn t.ops i).read <;> simp [hr] at hc1 ⊢;omega
   obtain ⟨es2,he2⟩:∃ z,z=es:=⟨_,rfl⟩
   obtain ⟨ck2,hc2⟩:∃ z,z=ck:=⟨_,rfl⟩
   obtain ⟨out2,ho2⟩:∃ z,z=out:=⟨_,rfl⟩
   have hR2:out2=Zdi t.id (t.ops.take (i+1))∧Zd3 es2 (i+1) out2:=⟨by rw [ho2,hou,hst hil];unfold Zbr;rw [Yc (by rw [hno];simp)],by rw [he2,ho2];exact ZqH hvi⟩
   rw [← he2,← hc2,← ho2] at G
   refine Yw (Zi (Zn (Za (rZ G (qp r1 (qR rr qZ)) V [12,11,10,4,3,2,1] [103,102,101,50,0] fun G=>?_))))
   replace G:=G.ent (i:=12) (s':=.pv (.int .i64 ((i+1:Nat):Int))) rfl (.int (Zd ow))
   obtain ⟨F,G⟩:=G.nM [11,10,4,2,1,3,12] [101,0,50,102]
   exact ⟨((i+1),(es2),(ck2),_,(out2)),F,⟨by omega,hR2⟩,G,by omega⟩
  have hyes:ZhH t.id (Nn t.ops i)=true:=by unfold ZhH;unfold ofO at hc1;cases hr:(Nn t.ops i).read <;> simp [hr] at hc1 ⊢;exact hc1
  have hvr:=hvi (ofO (Nn t.ops i))
  have hw1:IntKind.wrap .i64 (((gGet (ofO (Nn t.ops i)) es).getD 0)+1)=((gGet (ofO (Nn t.ops i)) es).getD 0)+1:=Zy (by have:=Sat.lenSl G (i:=10) rfl;omega)
  refine Ye (Za (Ya ?_))
  replace G:=G.turnZ 102 (0) (ofO (Nn t.ops i)) rfl
  refine Za8 102 6 (m1:=1) (m2:=2) kr G kr (qR rr (qe 3 104 r1 r1 (qf (Zb6 (ek:=(fun n:Int=>PV.int .i64 n)) (z0:=(0)) 102 underlying200 Zpe kr (fun _ _=>⟨rfl,Zdj⟩) .is (ZI.agg (enc:=Zdh) (k:=(ofO (Nn t.ops i))) (.pagg .t) rfl)) r2 r1 (qp r1 (qf (Za9 (ek:=(fun n:Int=>PV.int .i64 n)) (z0:=(0)) 102 underlying200 Zpe kr (fun _ _=>⟨rfl,Zdj⟩) .is (ZI.agg (enc:=Zdh) (k:=(ofO (Nn t.ops i))) (.pagg .t) rfl) (by intros;first | rfl | simp [Anc.v,upd])) r2 r1 (qf (Zh .t rfl) r1 qz (qf (ZaK 102 (ZbB _ _ _) .is .t .t) r3 r1 qZ))))))) kr kr kr rfl rfl rfl (fun _ _ _ _ h=>.inr h) (by rw [V];kernel_rfl) fun a w F G=>?_
  obtain ⟨F,G⟩:=G.nM [12,11,10,7,4,3,2,1] [104,103,102,101,50,0]
  try dsimp only [List.map,xD,xE,xT,xU,ldSF,rInt,rOp,rTx,ZS] at G
  obtain ⟨es2,he2⟩:∃ z,z=gSet (ofO (Nn t.ops i)) (IntKind.wrap .i64 (((gGet (ofO (Nn t.ops i)) es).getD 0)+1)) (gEns 0 (ofO (Nn t.ops i)) (es,ck)).1:=⟨_,rfl⟩
  obtain ⟨ck2,hc2⟩:∃ z,z=(gEns 0 (ofO (Nn t.ops i)) (es,ck)).2:=⟨_,rfl⟩
  rw [← he2,← hc2] at G
  have hvv:∀ u,(gGet u es2).getD 0=if u=(ofO (Nn t.ops i)) then ((gGet (ofO (Nn t.ops i)) es).getD 0)+1 else (gGet u es).getD 0:=fun u=>by rw [he2,ZgK,hw1]
  have hmv:(gGet (ofO (Nn t.ops i)) es2).getD 0=((gGet (ofO (Nn t.ops i)) es).getD 0)+1:=by rw [hvv,Yf rfl]
  have hvs:=Zq7 hvi hvv
  refine Za (Ya (rZ G (qR rr (qe 3 104 r1 r1 (qf (Zap (ek:=(fun n:Int=>PV.int .i64 n)) (z0:=(0)) 102 underlying200 Zpe kr (fun _ _=>⟨rfl,Zdj⟩) .is (ZI.agg (enc:=Zdh) (k:=(ofO (Nn t.ops i))) (.pagg .t) rfl)) r2 r1 (qf (o_eql .t qi) r1 qz qZ)))) V [42,12,11,10,7,4,3,2,1] [104,103,102,101,50,0] fun G=>?_))
  refine Zc G rfl (fun hc2=>?_) (fun hc2=>?_)
  ·have hnm:(ofO (Nn t.ops i)) ∉ out:=by rw [← hvr.2.2];rw [hmv] at hc2;simp at hc2;omega
   obtain ⟨out2,ho2⟩:∃ z,z=out ++ [(ofO (Nn t.ops i))]:=⟨_,rfl⟩
   have hR2:out2=Zdi t.id (t.ops.take (i+1))∧Zd3 es2 (i+1) out2:=⟨by rw [ho2,hst hil];unfold Zbr;rw [Yf ⟨hyes,by rw [← hou];exact hnm⟩,← hou],by have:=hvs;rw [Yc hnm] at this;rw [ho2];exact this⟩
   refine Zb G (qR rr (qe 3 104 r1 r1 (qf (o_buildSliceE (sz:=3) (zs:=[.int .i64 0,.int .i64 0,.int .i64 0]) (r:=[(0,.tmp 44)]) (l:=[_,_,_]) underlying139 kr kr kr kr rfl rfl (.agg rfl .t kr kr .nil) rfl) r1 qz (qf (ZW (sz:=3) (bs:=24) 50 (.mk' underlying139 kr kr) (by intro x;rfl) .is (.arr (l':=[_]) .t) (by simp only [Yd,Yl,Yy,Yj,YH];omega) (by decide)) ⟨rfl,rfl,tv⟩ ⟨rfl,tv⟩ (qO rr qZ))))) V [12,11,10,4,3,2,1] [103,102,101,50,0] (fun _=>rfl) (fun _=>rfl) fun τ a w F G=>?_
   try dsimp only [RS.sub,SF.sub,CF.sub,csub,Anc.sub,List.map,Ze,xL,xM,Nat.reduceAdd,xD,xE,xT,xU,xC,xN,zCF,ldSF,rInt,rOp,rTx,ZS] at G
   generalize τ 46=v46 at G
   rw [← ho2] at G
   refine Zj (Za (rZ G (qp r1 (qR rr qZ)) V [12,11,10,4,3,2,1] [103,102,101,50,0] fun G=>?_))
   replace G:=G.ent (i:=12) (s':=.pv (.int .i64 ((i+1:Nat):Int))) rfl (.int (Zd ow))
   obtain ⟨F,G⟩:=G.nM [11,10,4,2,1,3,12] [101,0,50,102]
   exact ⟨((i+1),(es2),(ck2),_,(out2)),F,⟨by omega,hR2⟩,G,by omega⟩
  have hnm:(ofO (Nn t.ops i)) ∈ out:=by rw [← hvr.2.2];rw [hmv] at hc2;simp at hc2;omega
  obtain ⟨out2,ho2⟩:∃ z,z=out:=⟨_,rfl⟩
  have hR2:out2=Zdi t.id (t.ops.take (i+1))∧Zd3 es2 (i+1) out2:=⟨by rw [ho2,hst hil];unfold Zbr;rw [Yc (by rw [← hou];simp [hnm])];exact hou,by have:=hvs;rw [Yf hnm] at this;rw [ho2];exact this⟩
  rw [← ho2] at G
  refine Ye (Zj (Za (rZ G (qp r1 (qR rr qZ)) V [12,11,10,4,3,2,1] [103,102,101,50,0] fun G=>?_)))
  replace G:=G.ent (i:=12) (s':=.pv (.int .i64 ((i+1:Nat):Int))) rfl (.int (Zd ow))
  obtain ⟨F,G⟩:=G.nM [11,10,4,2,1,3,12] [101,0,50,102]
  exact ⟨((i+1),(es2),(ck2),_,(out2)),F,⟨by omega,hR2⟩,G,by omega⟩
 have hil:i=t.ops.length:=by simp at hc0;omega
 refine Yw (Zi (Zi (Zn (Za (Ya (rZ G (qR rr (qO rr qZ)) V [2] [102,101,50,0] fun G=>Yh ?_))))))
 obtain ⟨F,G⟩:=G.give 50 2 rfl rfl
 refine Zo hfr G rfl rfl rfl (.sl (by rw [hou,hil,YD];rfl))
theorem Zpi (l:List Int) (v:Int):FnP prog 39 [.sl rInt l,.int .i64 v] (.int .i64 (ZZ v l)):=by
 refine FnP.mk func39 rfl ntmps39 rfl fun B a w F V hfr G=>?_
 have hll:=Sat.lenSl G (i:=0) rfl
 refine Ya (rZ G (qI qZ) V [4,1,0] [0] fun G=>(Ya (Ya ?_)))
 refine rZ G (qR rr (qu underlying45 r1 (qJ qZ))) V [8,7,4,1,0] [0] fun G=>Yg ?_
 refine Zl (σ:=(Nat)) [0,1,4,7] [0] (fun s=>[(8,.pv (.int .i64 (s:Int)))]) (fun s=>[]) (fun s=>s≤l.length∧(∀ k,k<s→Nn l k≠v)) (fun s=>l.length - s) (0) G ⟨rfl,rfl,rfl,rfl,rfl,tv⟩ ⟨rfl,tv⟩ ⟨Yv _,fun k hk=>absurd hk (YX k)⟩ ?_
 clear G;intro i a w F hC G
 try dsimp only at hC
 obtain ⟨F,G⟩:=G.nM [8,7,4,1,0] [0]
 try dsimp only at G
 obtain ⟨hi,hq⟩:=hC
 refine Ya (rZ G (qL r2) V [9,8,7,4,1,0] [0] fun G=>Ya ?_)
 refine Zc G rfl (fun hc0=>?_) (fun hc0=>?_)
 ·have hil:i<l.length:=by simp at hc0;omega
  refine Ye (Za (Ya (Yg (Ya (rZ G (qR rr (qO rr qZ)) V [8,7,5,4,1,0] [0] fun G=>Ya ?_)))))
  refine Zf G (qR rr (qR rr (qR rr (qy 1 underlying45 r2 (qf (oR false 1 .t) r1 qz (qf (o_eql .t .t) r2 qz qZ)))))) V [16,8,7,5,4,1,0] [0] rfl rfl fun a w F G=>?_
  try simp only [Yb] at G
  refine Za (Zc G rfl (fun hc1=>?_) (fun hc1=>?_))
  ·have hg:(i:Int)=ZZ v l:=(Zhk hil (by simp at hc1;omega) hq).symm
   refine Ya (rZ G (qR rr (qO rr qZ)) V [8,7,4,1,0] [0] fun G=>(Yh (Zu (Zk (Zk (Zu (Zk ?_)))))))
   refine Zo hfr G rfl rfl rfl (.int hg)
  have hne:Nn l i≠v:=by simp at hc1;omega
  refine Ye (Zj (Za (rZ G (qp r1 (qR rr qZ)) V [8,7,4,1,0] [0] fun G=>?_)))
  replace G:=G.ent (i:=8) (s':=.pv (.int .i64 ((i+1:Nat):Int))) rfl (.int (Zd ow))
  obtain ⟨F,G⟩:=G.nM [7,4,1,0,8] [0]
  exact ⟨(i+1),F,⟨by omega,(fun k hk=>by rcases YS (YY hk) with h | h;exact hq k h;rw [h];exact hne)⟩,G,by omega⟩
 have hil:i=l.length:=by simp at hc0;omega
 have hg : -1=ZZ v l:=(ZdU fun k hk=>hq k (by simp at hc0;omega)).symm
 refine Yw (Zi (Zi (Zn (Za (Ya (rZ G (qI qZ) V [4] [0] fun G=>Yh ?_))))))
 refine Zo hfr G rfl rfl rfl (.int hg)
theorem ZpI (l:List Int) (v:Int):FnP prog 23 [.sl rInt l,.int .i64 v] (.int .i64 (ZZ v l)):=by
 refine FnP.mk func23 rfl ntmps23 rfl fun B a w F V hfr G=>?_
 have hll:=Sat.lenSl G (i:=0) rfl
 refine Ya (rZ G (qI qZ) V [4,1,0] [0] fun G=>(Ya (Ya ?_)))
 refine rZ G (qR rr (qu underlying45 r1 (qJ qZ))) V [9,8,7,4,1] [0] fun G=>Yg ?_
 refine Zl (σ:=(Nat)) [1,4,7,8] [0] (fun s=>[(9,.pv (.int .i64 (s:Int)))]) (fun s=>[]) (fun s=>s≤l.length∧(∀ k,k<s→Nn l k≠v)) (fun s=>l.length - s) (0) G ⟨rfl,rfl,rfl,rfl,rfl,tv⟩ ⟨rfl,tv⟩ ⟨Yv _,fun k hk=>absurd hk (YX k)⟩ ?_
 clear G;intro i a w F hC G
 try dsimp only at hC
 obtain ⟨F,G⟩:=G.nM [9,8,7,4,1] [0]
 try dsimp only at G
 obtain ⟨hi,hq⟩:=hC
 refine Ya (rZ G (qL r2) V [10,9,8,7,4,1] [0] fun G=>Ya ?_)
 refine Zc G rfl (fun hc0=>?_) (fun hc0=>?_)
 ·have hil:i<l.length:=by simp at hc0;omega
  refine Ye (Za (Ya (Yg (Ya (Zf G (qR rr (qy 1 underlying45 r2 (qf (oR false 1 .t) r1 qz (qO rr (qO rr qZ))))) V [9,8,7,6,5,4,1] [0] rfl rfl fun a w F G=>?_)))))
  try simp only [Yb] at G
  refine Za (Ya (rZ G (qR rr (qR rr (qf (o_eql .t .t) r2 qz qZ))) V [16,9,8,7,5,4,1] [0] fun G=>?_))
  refine Zc G rfl (fun hc1=>?_) (fun hc1=>?_)
  ·have hg:(i:Int)=ZZ v l:=(Zhk hil (by simp at hc1;omega) hq).symm
   refine Ya (rZ G (qR rr (qO rr qZ)) V [9,8,7,4,1] [0] fun G=>(Yh (Zu (Zk (Zk (Zu (Zk ?_)))))))
   refine Zo hfr G rfl rfl rfl (.int hg)
  have hne:Nn l i≠v:=by simp at hc1;omega
  refine Ye (Zj (Za (rZ G (qp r1 (qR rr qZ)) V [9,8,7,4,1] [0] fun G=>?_)))
  replace G:=G.ent (i:=9) (s':=.pv (.int .i64 ((i+1:Nat):Int))) rfl (.int (Zd ow))
  obtain ⟨F,G⟩:=G.nM [8,7,4,1,9] [0]
  exact ⟨(i+1),F,⟨by omega,(fun k hk=>by rcases YS (YY hk) with h | h;exact hq k h;rw [h];exact hne)⟩,G,by omega⟩
 have hil:i=l.length:=by simp at hc0;omega
 have hg : -1=ZZ v l:=(ZdU fun k hk=>hq k (by simp at hc0;omega)).symm
 refine Yw (Zi (Zi (Zn (Za (Ya (rZ G (qI qZ) V [4] [0] fun G=>Yh ?_))))))
 refine Zo hfr G rfl rfl rfl (.int hg)
theorem ZoO (x y:List Int):FnP prog 93 [.sl rInt x,.sl rInt y] (.bool (decide (x=y))):=by
 refine FnP.mk func93 rfl ntmps93 rfl fun B a w F V hfr G=>?_
 have hxl:=Sat.lenSl G (i:=0) rfl
 refine Ya (rZ G qB V [4,1,0] [0] fun G=>(Ya (Ya ?_)))
 refine rZ G (qR rr (qu underlying45 r1 (qR rr (qu underlying45 r1 (qf (o_neq .t .t) r2 qz qZ))))) V [10,4,1,0] [0] fun G=>?_
 refine Zc G rfl (fun hc0=>?_) (fun hc0=>?_)
 ·have hg:false=decide (x=y):=by
    rw [Yaj,Yz]
    intro h
    subst h
    simp at hc0
  refine Ya (rZ G qB V [4,1,0] [0] fun G=>(Yh (Zk ?_)))
  refine Zo hfr G rfl rfl rfl (.bool hg)
 have hl:x.length=y.length:=by simp at hc0;omega
 refine Ye (Za (Ya (Ya (rZ G (qR rr (qu underlying45 r1 (qJ qZ))) V [13,12,4,1,0] [0] fun G=>Yg ?_))))
 obtain ⟨F,G⟩:=G.nM [13,12,1,0] [0]
 refine Za2 (σ:=Nat) (fun s=>(⟨[(0,.pv (.sl rInt x)),(1,.pv (.sl rInt y)),(12,.pv (.int .i64 x.length)),(13,.pv (.int .i64 s))],[(0,frame B)]⟩:En)) (fun s=>s≤x.length ∧ ∀ j,j<s→Nn x j=Nn y j) (fun s=>x.length - s) 0 G ⟨Yv _,fun j hj=>absurd hj (YX j)⟩ ?_
 clear G;intro i a w F hC G
 try dsimp only at hC
 try dsimp only at G
 obtain ⟨hi,hq⟩:=hC
 refine Ya (rZ G (qL r2) V [14,13,12,1,0] [0] fun G=>Ya ?_)
 refine Zc G rfl (fun hc1=>?_) (fun hc1=>?_)
 ·have hil:i<x.length:=by simp at hc1;omega
  refine Ye (Za (Ya (Yg (Ya (rZ G (qR rr (qO rr qZ)) V [13,12,5,1,0] [0] fun G=>Ya ?_)))))
  refine Zx G (qR rr (qR rr (qy 1 underlying45 r2 (qf (oR false 1 .t) r1 qz (qR rr (qR rr (qy 1 underlying45 r2 (qf (oR false 1 .t) r1 qz (qf (o_neq .t .t) r2 qz qZ))))))))) V [24,13,12,1,0] [0] rfl rfl fun a w F G=>?_
  try dsimp only [List.map,xD,xE,xT,xU,ldSF] at G
  refine Za (Zc G rfl (fun hc2=>?_) (fun hc2=>?_))
  ·have hg:false=decide (x=y):=by
     rw [Yaj,Yz]
     intro h
     subst h
     simp at hc2
   refine Ya (rZ G qB V [13,12,4,1,0] [0] fun G=>(Yh (Zu (Zk (Zk (Zu (Zk ?_)))))))
   refine Zo hfr G rfl rfl rfl (.bool hg)
  rw [Yb] at hc2
  have hqi:Nn x i=Nn y i:=by simpa using hc2
  refine Ye (Zj (Za (rZ G (qp r1 (qR rr qZ)) V [13,12,1,0] [0] fun G=>?_)))
  replace G:=G.ent (i:=13) (s':=.pv (.int .i64 ((i+1:Nat):Int))) rfl (.int (Zd ow))
  obtain ⟨F,G⟩:=G.nM [13,12,1,0] [0]
  exact ⟨i+1,F,⟨by omega,fun j hj=>by rcases YS (YY hj) with h | h;exact hq j h;rw [h];exact hqi⟩,G,by omega⟩
 have hg:true=decide (x=y):=by
   rw [Yaj,Yq]
   exact Zan hl fun j hj=>hq j (by simp at hc1;omega)
 refine Yw (Zi (Zi (Zn (Za (Ya (rZ G qB V [4] [0] fun G=>Yh ?_))))))
 refine Zo hfr G rfl rfl rfl (.bool hg)
theorem Zt7 (x y:List Int):FnP prog 58 [.sl rInt x,.sl rInt y] (.bool (decide (x=y))):=by
 refine FnP.mk func58 rfl ntmps58 rfl fun B a w F V hfr G=>Ya ?_
 refine rZ G qB V [4,1,0] [0] fun G=>Ya ?_
 refine rZ G (qR rr (qR rr (qf (oP (ZoO x y) func93 (Args.two .t .t)) r2 qz (qO rr qZ)))) V [4] [0] fun G=>Yh ?_
 refine Zo hfr G rfl rfl rfl .refl
theorem Zu4 (x y:List Int) (hx:x.length≤1000000) (hy:y.length≤1000000):FnP prog 47 [.sl rInt x,.sl rInt y] (.bool (decide (x.Perm y))):=by
 refine FnP.mk func47 rfl ntmps47 rfl fun B a w F V hfr G=>Ya ?_
 refine rZ G qB V [4,1,0] [0] fun G=>Ya ?_
 replace G:=G.fresh 101 rfl
 replace G:=G.fresh 102 rfl
 refine Zb G (qR rr (qf (Zav 101 (Zho x hx) func42 rfl kr (Args.one .t) pvOne1) r1 r1 (qR rr (qf (Zav 102 (Zho y hy) func42 rfl kr (Args.one .t) pvOne1) r1 r1 (qO rr (qO rr qZ)))))) V [6,5,4] [102,101,0] (fun _=>rfl) (fun _=>rfl) fun τ a w F G=>?_
 try dsimp only [RS.sub,SF.sub,CF.sub,csub,Anc.sub,List.map,rInt] at G
 generalize τ 8=v8 at G
 generalize τ 10=v10 at G
 refine Za (Ya (rZ G (qR rr (qf (Zbf 101 (Zjq _ x hx) func92 rfl kr (Args.one .t)) r1 r1 qZ)) V [6,5,4] [102,101,0] fun G=>Ya ?_))
 refine rZ G (qR rr (qf (Zbf 102 (Zjq _ y hy) func92 rfl kr (Args.one .t)) r1 r1 qZ)) V [6,5,4] [102,101,0] fun G=>Ya ?_
 refine rZ G (qR rr (qR rr (qf (OpC.lendRow 102 [16] (OpC.lendRow 101 [15] (oP (ZoO _ _) func93 (Args.two .t .t)) ⟨rfl,tv,tv⟩ (.pv (fun _ _ _ _ h=>h)) trivial (by rfl)) ⟨tv,rfl,tv⟩ (.pv (fun _ _ _ _ h=>h)) trivial (by rfl)) r2 r2 (qO rr qZ)))) V [4] [102,101,0] fun G=>Yh ?_
 refine Zo hfr G rfl rfl rfl (.bool (by rw [decide_eq_decide];exact Zo2))
end Go.Proofs.YtlkpllemoepamaaGreat
