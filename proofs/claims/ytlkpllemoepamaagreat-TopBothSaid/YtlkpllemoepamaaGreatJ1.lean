/- Laws and walks. No condition beyond what each says. -/
import Derived.Test.YtlkpllemoepamaaGreatJ0
namespace Go.Proofs.YtlkpllemoepamaaGreat
open Go Go.Gm Tryz
set_option linter.unusedVariables false
set_option linter.unusedSimpArgs false
set_option maxHeartbeats 4000000
set_option maxRecDepth 8000
theorem ZsK (t : TxD) (hl : t.ops.length ≤ 1000000) (p : OpD → Bool) (f : FuncId) (fn : Func) (cps : List PV) (hf : prog.funcs[f]? = some fn) (hb : fn.body.isSome = true) (hnn : (fn.name == "runtime.NumGoroutine") = false) (hw : ∀ x, FnP prog f (.agg (rOp x) :: cps) (.bool (p x))) : FnP prog 139 [.agg (rTx t), .clos f cps] (.sl Zn (Zbu ((t.ops.filter p).map OpD.key))) := by
 refine FnP.mk func139 rfl ntmps139 rfl fun B a w F Z hfr G=>Ya ?_
 refine Zb G (qx 101 r1 (qC qZ)) Z [4,2,1] [101,0] (fun _=>rfl) (fun _=>rfl) fun τ a w F G=>?_
 try dsimp only [RS.sub,SF.sub,CF.sub,csub,Anc.sub,List.map,zCF,Zn,rOp,rTx] at G
 generalize τ 2=v2 at G
 refine Za (Ya (rZ G (qC qZ) Z [5,4,2,1] [101,0] fun G=>(Ya (Ya ?_))))
 refine rZ G (qg 2 101 r1 r1 (qa 101 r1 r1 (qu Yb2 r1 (qJ qZ)))) Z [11,10,9,5,4,1] [101,0] fun G=>Yg ?_
 replace G:=G.fresh 50 rfl
 replace G:=G.turn 50 rfl (Zas (T:=3) (sz:=1) (R:=Zn))
 refine Zm (σ:=(Nat)×(Value)×(List Int)) [1,4,9,10] [0,101] (fun s=>[(11,.pv (.int .i64 (s.1:Int))),(5,.pv (.is s.2.1))]) (fun s=>[(50,.ob (.val s.2.1) (ZC 3 1 Zn s.2.2))]) (fun s=>s.1≤t.ops.length∧(s.2.2=(((t.ops.take s.1).filter p).map OpD.key))) (fun s=>t.ops.length - s.1) ((0),(.slice none 0 0),([])) G ⟨rfl,rfl,rfl,rfl,rfl,rfl,tv⟩ ⟨rfl,rfl,rfl,tv⟩ ⟨Yx _,rfl⟩ ?_
 clear G;intro s a w F hC G
 obtain ⟨i,v,out⟩:=s
 try dsimp only at hC
 obtain ⟨F,G⟩:=G.nM [11,10,9,5,4,1] [101,50,0]
 try dsimp only at G
 obtain ⟨hi,hq⟩:=hC
 have hol:out.length≤i:=by rw [hq,YC];exact Y6 (Y8 _ _) (by rw [Yj];omega)
 refine Ya (rZ G (qL r2) Z [12,11,10,9,5,4,1] [101,50,0] fun G=>Ya ?_)
 refine Zc G rfl (fun hc0=>?_) (fun hc0=>?_)
 ·skip
  have hil:i<t.ops.length:=by simp at hc0;omega
  refine Yf (Za (Ya (Yg (Ya (Zb G (qy 4 Yb2 r2 (qf (oR true 4 .t) r1 qz (qf (oH [.bool false,.int .i64 0,.int .i64 0,.int .i64 0] 102) trivial qz (qS 4 102 r2 r1 qZ)))) Z [11,10,9,7,5,4,1] [102,101,50,0] (fun _=>rfl) (fun _=>rfl) fun τ a w F G=>?_)))))
  try dsimp only [RS.sub,SF.sub,CF.sub,csub,Anc.sub,List.map,Ze,xL,xM,Nat.reduceAdd,xD,xE,xT,xU,xC,xN,zCF,ldSF,Zn,rOp,rTx] at G
  generalize τ 7=v7 at G
  try simp only [Yd] at G
  refine Za (Ya (rZ G (qR rr (qe 4 102 r1 r1 (qf (Z6 (avs:=[.agg (rOp (Nn t.ops i))]) .t (hw (Nn t.ops i)) hf hb hnn (Args.one (.pagg .t))) r2 qz qZ))) Z [17,11,10,9,7,5,4,1] [102,101,50,0] fun G=>?_))
  refine Zc G rfl (fun hc1=>?_) (fun hc1=>?_)
  ·skip
   have hBq:p (Nn t.ops i)=true:=by simpa using hc1
   refine Zb G (qR rr (qg 1 102 r1 r1 (qa 102 r1 r1 (qf (o_buildSliceE (sz:=1) (zs:=[.int .i64 0]) (r:=[(0,.tmp 20)]) (l:=[_]) Yb0 kr kr kr kr rfl rfl (.one rfl .t one_int kr .nil) rfl) r1 qz (qf (o_append (sz:=1) (bs:=8) 50 (.mk' Yb0 kr kr) (by intro x;rfl) .is (.arr (l':=[(Nn t.ops i).key]) .t) (by simp only [Yc,Yk,Yv,Yj,YL];omega) (by decide)) ⟨rfl,rfl,tv⟩ ⟨rfl,tv⟩ (qO rr qZ)))))) Z [11,10,9,5,4,1] [102,101,50,0] (fun _=>rfl) (fun _=>rfl) fun τ a w F G=>?_
   try dsimp only [RS.sub,SF.sub,CF.sub,csub,Anc.sub,List.map,Ze,xL,xM,Nat.reduceAdd,xD,xE,xT,xU,xC,xN,zCF,ldSF,Zn,rOp,rTx] at G
   generalize τ 22=v22 at G
   refine Zj (Za (rZ G (qp r1 (qR rr qZ)) Z [11,10,9,5,4,1] [102,101,50,0] fun G=>?_))
   replace G:=G.ent (i:=11) (s':=.pv (.int .i64 ((i+1:Nat):Int))) rfl (.int (Zd ow))
   obtain ⟨F,G⟩:=G.nM [10,9,4,1,5,11] [101,0,50]
   exact ⟨((i+1),_,_),F,⟨by omega,(by rw [Zs hil,Yae,YJ,← hq];simp [hBq])⟩,G,by omega⟩
  have hBq:p (Nn t.ops i)=false:=by simpa using hc1
  refine Yf (Zj (Za (rZ G (qp r1 (qR rr qZ)) Z [11,10,9,5,4,1] [102,101,50,0] fun G=>?_)))
  replace G:=G.ent (i:=11) (s':=.pv (.int .i64 ((i+1:Nat):Int))) rfl (.int (Zd ow))
  obtain ⟨F,G⟩:=G.nM [10,9,4,1,5,11] [101,0,50]
  exact ⟨((i+1),_,_),F,⟨by omega,(by rw [Zs hil,Yae,YJ,← hq];simp [hBq])⟩,G,by omega⟩
 have hil:i=t.ops.length:=by simp at hc0;omega
 refine Yz (Zh (Zh (Zr (Za (Ya (rZ G (qR rr (qf (Zbe 50 (ZiC _ out ow) func92 rfl kr (Args.one .t)) r1 r1 qZ)) Z [5,4] [101,50,0] fun G=>Ya ?_))))))
 refine Zb G (qR rr (qf (o_callRowN 50 (Zjo _ _ (by rw [Ybl];omega)) func179 rfl kr (Args.one .t) pvOne1) r1 r1 (qO rr qZ))) Z [4] [101,50,0] (fun _=>rfl) (fun _=>rfl) fun τ a w F G=>?_
 try dsimp only [RS.sub,SF.sub,CF.sub,csub,Anc.sub,List.map,Zn,rOp,rTx] at G
 generalize τ 27=v27 at G
 refine Za (Yh ?_)
 obtain ⟨F,G⟩:=G.give 50 4 rfl rfl
 refine Zv hfr G rfl rfl rfl (.sl (by rw [ZcY,Zdl,hq,hil,YD]))
theorem ZfU (l:List Int):(Zbu l).length≤l.length:=by
 have key:∀ (l acc:List Int),(l.foldl Zk9 acc).length≤acc.length+l.length:=fun l=>by
  induction l with
  | nil=>intro acc;simp
  | cons x l ih=>
   intro acc
   have h1:=ih (Zk9 acc x)
   have h2:(Zk9 acc x).length≤acc.length+1:=ZhO acc false
   rw [Yal,Yk];omega
 have:=key l []
 simpa [Zbu] using this
theorem Ent.fnClos {f:FuncId} : Ent (.pv (.is (.func (.func f) #[] #[]))) (.pv (.clos f [])):=fun τ w y v h=>⟨[],h.1,tv⟩
theorem Zsp (o:OpD):FnP prog 140 [.agg (rOp o)] (.bool (!o.read)):=by
 refine FnP.mk func140 rfl ntmps140 rfl fun B a w F Z hfr G=>Ya ?_
 refine Zb G (qx 101 r1 qB) Z [2,1] [101,0] (fun _=>rfl) (fun _=>rfl) fun τ a w F G=>?_
 try dsimp only [RS.sub,SF.sub,CF.sub,csub,Anc.sub,List.map,zCF,rOp] at G
 generalize τ 1=v1 at G
 refine Za (Ya (rZ G (qg 0 101 r1 r1 (qa 101 r1 r1 (qf (o_not .t) r1 qz (qO rr qZ)))) Z [2] [0] fun G=>Yh ?_))
 refine Zv hfr G rfl rfl rfl (.bool rfl)
theorem Zri (t:TxD) (hl:t.ops.length≤1000000):FnP prog 91 [.agg (rTx t)] (.sl Zn (Zbu ((t.ops.filter fun o=>!o.read).map OpD.key))):=by
 refine FnP.mk func91 rfl ntmps91 rfl fun B a w F Z hfr G=>Ya ?_
 refine Zb G (qx 101 r1 (qC qZ)) Z [2,1] [101,0] (fun _=>rfl) (fun _=>rfl) fun τ a w F G=>?_
 try dsimp only [RS.sub,SF.sub,CF.sub,csub,Anc.sub,List.map,zCF,rTx,Zn] at G
 generalize τ 1=v1 at G
 refine Za (Ya (rZ G (qe 3 101 r1 r1 (qf (oP (ZsK t hl (fun o=>!o.read) 140 f140 [] func140 rfl kr (fun o=>Zsp o)) func139 (Args.two (.pagg .t) (.conv .f (Ent.fnClos)))) r1 qz (qO rr qZ))) Z [2] [0] fun G=>Yh ?_))
 refine Zv hfr G rfl rfl rfl (.sl rfl)
theorem Zfg (t:TxD) (n:Int) (hl:t.ops.length≤1000000):FnP prog 29 [.agg (rTx t),.int .i64 n] (.int .i64 (((t.ops.filter fun o=>!o.read && decide (o.key=n)).length:Nat):Int)):=by
 refine FnP.mk func29 rfl ntmps29 rfl fun B a w F Z hfr G=>?_
 have hll:t.ops.length≤1000000:=hl
 refine Ya (Zb G (qx 101 r1 (qI qZ)) Z [4,2,1] [101,0] (fun _=>rfl) (fun _=>rfl) fun τ a w F G=>?_)
 try dsimp only [RS.sub,SF.sub,CF.sub,csub,Anc.sub,List.map,zCF,Zn,rOp,rTx] at G
 generalize τ 2=v2 at G
 refine Za (Ya (rZ G (qI qZ) Z [5,4,2,1] [101,0] fun G=>(Ya (Ya ?_))))
 refine rZ G (qg 2 101 r1 r1 (qa 101 r1 r1 (qu Yb2 r1 (qJ qZ)))) Z [11,10,9,5,4,1] [0] fun G=>Yg ?_
 refine Zm (σ:=(Nat)) [1,4,9,10] [0] (fun s=>[(11,.pv (.int .i64 (s:Int))),(5,.pv (.int .i64 ((((t.ops.take s).filter fun o=>!o.read && decide (o.key=n)).length:Nat):Int)))]) (fun s=>[]) (fun s=>s≤t.ops.length∧(True)) (fun s=>t.ops.length - s) (0) G ⟨rfl,rfl,rfl,rfl,rfl,rfl,tv⟩ ⟨rfl,tv⟩ ⟨Yx _,tv⟩ ?_
 clear G;intro i a w F hC G
 try dsimp only at hC
 obtain ⟨F,G⟩:=G.nM [11,10,9,5,4,1] [0]
 try dsimp only at G
 obtain ⟨hi,hq⟩:=hC
 refine Ya (rZ G (qL r2) Z [12,11,10,9,5,4,1] [0] fun G=>Ya ?_)
 refine Zc G rfl (fun hc0=>?_) (fun hc0=>?_)
 ·have hil:i<t.ops.length:=by simp at hc0;omega
  refine Yf (Za (Ya (Yg (Ya (Zb G (qy 4 Yb2 r2 (qf (oR true 4 .t) r1 qz (qf (oH [.bool false,.int .i64 0,.int .i64 0,.int .i64 0] 102) trivial qz (qS 4 102 r2 r1 qZ)))) Z [11,10,9,7,5,4,1] [102,0] (fun _=>rfl) (fun _=>rfl) fun τ a w F G=>?_)))))
  try dsimp only [RS.sub,SF.sub,CF.sub,csub,Anc.sub,List.map,Ze,xL,xM,Nat.reduceAdd,xD,xE,xT,xU,xC,xN,zCF,ldSF,Zn,rOp,rTx] at G
  generalize τ 7=v7 at G
  try simp only [Yd] at G
  refine Za (Ya (rZ G (qg 0 102 r1 r1 (qa 102 r1 r1 (qf (o_not .t) r1 qz (qR rr (qv 1 102 rfl r2 r1 (qw 102 rfl r2 r1 (qm rfl rfl rfl rfl (qk rfl (fun h=>o_eql (.w h) (.w h)) r3 qz (qf (ZH .t .t) r2 qz qZ))))))))) Z [23,11,10,9,5,4,1] [0] fun G=>?_))
  refine Zc G rfl (fun hc1=>?_) (fun hc1=>?_)
  ·have hstp:((t.ops.take (i+1)).filter fun o=>!o.read && decide (o.key=n))=((t.ops.take i).filter fun o=>!o.read && decide (o.key=n))++(if (!(Nn t.ops i).read && decide ((Nn t.ops i).key=n))=true then [(Nn t.ops i)] else []):=by rw [Zs hil,Yae];simp only [YbJ,List.filter_nil]
   have hle:((t.ops.take i).filter fun o=>!o.read && decide (o.key=n)).length≤i:=Y6 (Y8 _ _) (by rw [Yj];omega)
   have hBq:(!(Nn t.ops i).read && decide ((Nn t.ops i).key=n))=true:=hc1
   have hcc:IntKind.wrap .i64 (((((t.ops.take i).filter fun o=>!o.read && decide (o.key=n)).length:Nat):Int)+1)=((((t.ops.take (i+1)).filter fun o=>!o.read && decide (o.key=n)).length:Nat):Int):=by rw [hstp,Ye hBq,Yc,Zz ow];simp
   refine Zg G (qR rr (qp r1 (qO rr qZ))) Z [11,10,9,5,4,1] [0] rfl rfl fun a w F G=>Zj (Za ?_)
   refine rZ G (qp r1 (qR rr qZ)) Z [11,10,9,5,4,1] [0] fun G=>?_
   replace G:=G.ent (i:=11) (s':=.pv (.int .i64 ((i+1:Nat):Int))) rfl (.int (Zd ow))
   replace G:=G.ent (i:=5) (s':=.pv (.int .i64 ((((t.ops.take (i+1)).filter fun o=>!o.read && decide (o.key=n)).length:Nat):Int))) rfl (.int hcc)
   obtain ⟨F,G⟩:=G.nM [10,9,4,1,5,11] [0]
   exact ⟨(i+1),F,⟨by omega,tv⟩,G,by omega⟩
  have hstp:((t.ops.take (i+1)).filter fun o=>!o.read && decide (o.key=n))=((t.ops.take i).filter fun o=>!o.read && decide (o.key=n))++(if (!(Nn t.ops i).read && decide ((Nn t.ops i).key=n))=true then [(Nn t.ops i)] else []):=by rw [Zs hil,Yae];simp only [YbJ,List.filter_nil]
  have hle:((t.ops.take i).filter fun o=>!o.read && decide (o.key=n)).length≤i:=Y6 (Y8 _ _) (by rw [Yj];omega)
  have hBq:(!(Nn t.ops i).read && decide ((Nn t.ops i).key=n))=false:=hc1
  have hcc:((((t.ops.take i).filter fun o=>!o.read && decide (o.key=n)).length:Nat):Int)=((((t.ops.take (i+1)).filter fun o=>!o.read && decide (o.key=n)).length:Nat):Int):=by rw [hstp,Yb (by rw [hBq];simp),YM]
  refine Yf (Zj (Za (rZ G (qp r1 (qR rr qZ)) Z [11,10,9,5,4,1] [0] fun G=>?_)))
  replace G:=G.ent (i:=11) (s':=.pv (.int .i64 ((i+1:Nat):Int))) rfl (.int (Zd ow))
  replace G:=G.ent (i:=5) (s':=.pv (.int .i64 ((((t.ops.take (i+1)).filter fun o=>!o.read && decide (o.key=n)).length:Nat):Int))) rfl (.int hcc)
  obtain ⟨F,G⟩:=G.nM [10,9,4,1,5,11] [0]
  exact ⟨(i+1),F,⟨by omega,tv⟩,G,by omega⟩
 have hil:i=t.ops.length:=by simp at hc0;omega
 refine Yz (Zh (Zh (Zr (Za (Ya (rZ G (qR rr (qO rr qZ)) Z [4] [0] fun G=>Yh ?_))))))
 refine Zv hfr G rfl rfl rfl (.int (by rw [hil,YD]))
def wcnt (l:List OpD) (k:Int):Nat:=(l.filter fun o=>!o.read && decide (o.key=k)).length
theorem Zh1 {l:List OpD} {i:Nat} (h:i<l.length) (k:Int):wcnt (l.take (i+1)) k=wcnt (l.take i) k+if (Nn l i).read=false∧(Nn l i).key=k then 1 else 0:=by
 unfold wcnt
 rw [Zs h,Yae,Yc]
 congr 1
 by_cases h1:(Nn l i).read=false∧(Nn l i).key=k
 ·rw [Ye h1];simp [h1.1,h1.2]
 ·rw [Yb h1]
  have:(!(Nn l i).read && decide ((Nn l i).key=k))=false:=by
   cases hr:(Nn l i).read with
   | true=>rfl
   | false=>simp;exact fun e=>h1 ⟨hr,e⟩
  simp [this]
theorem Zsn (l:List OpD) (i:Nat) (k:Int):wcnt (l.take i) k≤i:=Y6 (Y8 _ _) (by rw [Yj];omega)
def Zai (id:Int):List OpD→List OpD→Int
 | _,[]=>0
 | s,o :: r=>if ZaA o=false then 1 else if o.read=true∧o.tx=id∧(wcnt s o.key:Int)<o.nth then 6 else Zai id (s ++ [o]) r
def ZaE (t:TxD):Int:=if ¬ (1≤t.id∧t.id≤1048575) then 1 else if 4095<t.ops.length then 9 else Zai t.id [] t.ops
theorem ZcU {id:Int} {l:List OpD} {i:Nat} (h:i<l.length):Zai id (l.take i) (l.drop i)=if ZaA (Nn l i)=false then 1 else if (Nn l i).read=true∧(Nn l i).tx=id∧(wcnt (l.take i) (Nn l i).key:Int)<(Nn l i).nth then 6 else Zai id (l.take (i+1)) (l.drop (i+1)):=by
 rw [Zqr h,Zai,Zs h]
theorem Zjn {id:Int} {l:List OpD} {i:Nat} (h:i=l.length):Zai id (l.take i) (l.drop i)=0:=by rw [h,List.drop_length];rfl
def ZaY (id:Int) (o:OpD):Bool:=(o.read && !decide (o.tx=0)) && !decide (o.tx=id)
def ZY (id:Int) (out:List Zbh) (o:OpD):List Zbh:=if ZaY id o=true∧ofO o ∉ out then out ++ [ofO o] else out
def Zc9 (id:Int) (l:List OpD):List Zbh:=l.foldl (ZY id) []
def Zek (t:TxD):List Zbh:=Zc9 t.id t.ops
theorem Zjc {id:Int} {l:List OpD} {i:Nat} (h:i<l.length):Zc9 id (l.take (i+1))=ZY id (Zc9 id (l.take i)) (Nn l i):=by
 unfold Zc9
 rw [Zs h,Ybp]
 rfl
theorem ZiD (id:Int) (out:List Zbh) (o:OpD):(ZY id out o).length≤out.length+1:=by
 unfold ZY
 split <;> simp
theorem Zlu (id:Int) (l:List OpD) (i:Nat):(Zc9 id (l.take i)).length≤i:=by
 have key:∀ (l:List OpD) (out:List Zbh),(l.foldl (ZY id) out).length≤out.length+l.length:=by
  intro l
  induction l with
  | nil=>intro out;simp
  | cons x l ih=>
   intro out
   have h1:=ih (ZY id out x)
   have h2:=ZiD id out x
   rw [Yal,Yk];omega
 have:=key (l.take i) []
 rw [Yj] at this
 unfold Zc9
 simp at this ⊢
 omega
structure Zbd where
 key:Int
 nth:Int
 deriving DecidableEq,Inhabited
def Zbi (p:Zbd):List Int:=[p.key,p.nth]
def Zc6 (v:Zbh):List Int:=[v.tx,v.key,v.nth]
def Zb7 (es:List (GE Zbd Int)) (s:List OpD):Prop:=∀ k n,0≤n→(gGet (⟨k,n⟩:Zbd) es).getD 0=if n=0 then (wcnt s k:Int) else if n≤wcnt s k then 1 else 0
theorem Zot:Zb7 [] []:=fun k n h=>by
 show (0:Int)=_
 have:wcnt [] k=0:=rfl
 rw [this]
 split
 ·rfl
 ·rw [Yb (by simp;omega)]
theorem ZnR {es:List (GE Zbd Int)} {l:List OpD} {i:Nat} (h:Zb7 es (l.take i)) (hi:i<l.length) (hr:(Nn l i).read=true):Zb7 es (l.take (i+1)):=fun k n hn=>by
 rw [h k n hn,Zh1 hi,Yb (c:=(Nn l i).read=false∧(Nn l i).key=k) (by simp [hr]),Ybq]
theorem Zmn {es es2:List (GE Zbd Int)} {l:List OpD} {i:Nat} {c:Int} (h:Zb7 es (l.take i)) (hi:i<l.length) (hr:(Nn l i).read=false) (hc:c=(wcnt (l.take i) (Nn l i).key:Int)+1)
  (he:∀ p,(gGet p es2).getD 0=if p = ⟨(Nn l i).key,c⟩ then 1 else if p = ⟨(Nn l i).key,0⟩ then c else (gGet p es).getD 0):Zb7 es2 (l.take (i+1)):=fun k n hn=>by
 have hk:=h k n hn
 rw [he,hk,Zh1 hi]
 by_cases e:(Nn l i).key=k
 ·rw [Ye (c:=(Nn l i).read=false∧_) ⟨hr,e⟩]
  rw [e] at hc
  rw [e]
  by_cases e2:n=c
  ·subst e2
   rw [Ye rfl,Yb ow,Ye ow]
  ·rw [Yb (by simp [e2])]
   by_cases e3:n=0
   ·subst e3
    rw [Ye rfl,Ye rfl,hc];simp
   ·rw [Yb (by simp [e3]),Yb e3,Yb e3]
    by_cases e4:n≤(wcnt (l.take i) k:Int)
    ·rw [Ye e4,Ye ow]
    ·rw [Yb e4,Yb ow]
 ·rw [Yb (c:=(Nn l i).read=false∧_) (by simp [e]),Ybq,Yb (by simp;exact fun h=>absurd h.symm e),Yb (by simp;exact fun h=>absurd h.symm e)]
def Zdv (es:List (GE Zbh Int)) (i:Nat) (out:List Zbh):Prop:=∀ v,0≤(gGet v es).getD 0∧(gGet v es).getD 0≤i∧(0<(gGet v es).getD 0 ↔ v ∈ out)
theorem Zqf:Zdv [] 0 []:=fun v=>⟨Yam _,Yam _,by show (0:Int)<0 ↔ _;simp⟩
theorem Zpm {es:List (GE Zbh Int)} {i:Nat} {out:List Zbh} (h:Zdv es i out):Zdv es (i+1) out:=fun v=>⟨(h v).1,by have:=(h v).2.1;omega,(h v).2.2⟩
theorem Zpl {es es2:List (GE Zbh Int)} {i:Nat} {out:List Zbh} {v:Zbh} (h:Zdv es i out) (he:∀ u,(gGet u es2).getD 0=if u=v then (gGet v es).getD 0+1 else (gGet u es).getD 0):Zdv es2 (i+1) (if v ∈ out then out else out ++ [v]):=fun u=>by
 have h1:=h u
 have h2:=h v
 rw [he u]
 by_cases e:u=v
 ·subst e
  rw [Ye rfl]
  refine ⟨by omega,by omega,?_⟩
  constructor
  ·intro _;split <;> simp_all
  ·intro _;omega
 ·rw [Yb e]
  refine ⟨by omega,by omega,?_⟩
  rw [h1.2.2]
  split
  ·rfl
  ·simp [e]
theorem ZgO {κ:Type} [DecidableEq κ] {k p:κ} {x:Int} (s:List (GE κ Int)×Nat):(gGet p (gSet k x (gEns 0 k s).1)).getD 0=if p=k then x else (gGet p s.1).getD 0:=by
 rw [Zc1];split <;> rfl
theorem ZpK {κ:Type} [DecidableEq κ] {k p:κ} {x:Int} (s:List (GE κ Int)×Nat):(gGet p (gPut k x s).1).getD 0=if p=k then x else (gGet p s.1).getD 0:=by
 rw [ZcQ];split <;> rfl
theorem ZfN:Zmm prog 137 (fun k=>∀ x ∈ Zbi k,inR .i64 x) (kvS Zbi):=Zdr (n:=2) (fun _=>rfl) (fun a b h=>by cases a;cases b;simpa [Zbi] using h) kr
theorem ZmM:Zmm prog 33 (fun k=>∀ x ∈ Zc6 k,inR .i64 x) (kvS Zc6):=Zdr (n:=3) (fun _=>rfl) (fun a b h=>by cases a;cases b;simpa [Zc6] using h) kr
theorem Zi0 {es:List (GE Zbd Int)} {s:List OpD} {o:OpD} {id:Int} (h:Zb7 es s) (hk:ZaA o=true) (hr:o.read=true) (hid:1≤id):(o.tx=id∧(gGet (⟨o.key,o.nth⟩:Zbd) es).getD 0=0) ↔ (o.read=true∧o.tx=id∧(wcnt s o.key:Int)<o.nth):=by
 have hb:=ZcB hk
 have h1:=h o.key o.nth ow
 constructor
 ·rintro ⟨e1,e2⟩
  refine ⟨hr,e1,?_⟩
  have hn:1≤o.nth:=by
   rw [Zgy hr] at hk
   unfold ofO at hk
   rw [Ye hr] at hk
   unfold Zb1 at hk
   rw [Yb (show ¬ o.tx=0 by omega)] at hk
   simp at hk
   omega
  rw [e2,Yb ow] at h1
  split at h1
  ·cases h1
  ·omega
 ·rintro ⟨_,e1,e2⟩
  refine ⟨e1,?_⟩
  rw [h1,Yb ow,Yb ow]
theorem Zm6 (t:TxD):FnP prog 44 [.agg (rTx t)] (.int .i64 (ZaE t)):=by
 refine FnP.mk func44 rfl ntmps44 rfl fun B a w F Z hfr G=>Ya ?_
 refine Zb G (qx 101 r1 (qI qZ)) Z [2,1] [101,0] (fun _=>rfl) (fun _=>rfl) fun τ a w F G=>?_
 try dsimp only [RS.sub,SF.sub,CF.sub,csub,Anc.sub,List.map,zCF,Zn,rOp,rTx] at G
 generalize τ 1=v1 at G
 refine Za (Ya (Yg (Ya (rZ G (qg 0 101 r1 r1 (qa 101 r1 r1 (qf (Zar .t qi) r1 qz (qR rr (qv 0 101 rfl r2 r1 (qw 101 rfl r2 r1 (qk rfl (fun h=>Za3 (.w h) qi) r2 qz (qf (Zaa .t .t) r2 qz (qO rr qZ))))))))) Z [7,2,1] [101,0] fun G=>?_))))
 refine Zc G rfl (fun hc0=>?_) (fun hc0=>?_)
 ·have hg:1=ZaE t:=by unfold ZaE;rw [Ye (by simp at hc0;omega)]
  refine Ya (rZ G (qI qZ) Z [2,1] [101,0] fun G=>(Yh (Zx (Zl ?_))))
  refine Zv hfr G rfl rfl rfl (.int hg)
 have hid:1≤t.id∧t.id≤1048575:=by simp at hc0;omega
 refine Ya (rZ G (qg 2 101 r1 r1 (qa 101 r1 r1 (qu Yb2 r1 (qf (Za3 .t qi) r1 qz (qO rr qZ))))) Z [16,2,1] [101,0] fun G=>?_)
 refine Zc G rfl (fun hc1=>?_) (fun hc1=>?_)
 ·have hg:9=ZaE t:=by unfold ZaE;rw [Yb ow,Ye (by simp at hc1;omega)]
  refine Ya (rZ G (qI qZ) Z [2,1] [101,0] fun G=>(Yh (Zx (Zl ?_))))
  refine Zv hfr G rfl rfl rfl (.int hg)
 have hlen:t.ops.length≤4095:=by simp at hc1;omega
 have hT:ZaE t=Zai t.id [] t.ops:=by unfold ZaE;rw [Yb ow,Yb ow]
 refine Yf (Zj (Za (Ya (Zb G (qf (ZaO (ek:=(fun n:Int=>PV.int .i64 n)) (ok:=(fun k=>∀ x ∈ Zbi k,inR .i64 x)) (kv:=(kvS Zbi)) 102) trivial qz (qO rr qZ)) Z [3,2,1] [102,101,0] (fun _=>rfl) (fun _=>rfl) fun τ a w F G=>?_))))
 try dsimp only [RS.sub,SF.sub,CF.sub,csub,Anc.sub,List.map,Ze,xL,xM,Nat.reduceAdd,xD,xE,xT,xU,xC,xN,zCF,Zn,rOp,rTx] at G
 generalize τ 21=v21 at G
 refine Za (Ya (Ya (rZ G (qg 2 101 r1 r1 (qa 101 r1 r1 (qu Yb2 r1 (qJ qZ)))) Z [25,24,23,3,2,1] [102,101,0] fun G=>Yg ?_)))
 refine Zm (σ:=(Nat)×(List (GE Zbd Int))×(Nat)) [1,2,3,23,24] [0,101] (fun s=>[(25,.pv (.int .i64 (s.1:Int)))]) (fun s=>[(102,.ob (.val v21) (Zbv (fun n:Int=>PV.int .i64 n) (fun k=>∀ x ∈ Zbi k,inR .i64 x) (kvS Zbi) s.2.1 s.2.2))]) (fun s=>s.1≤t.ops.length∧(Zai t.id [] t.ops=Zai t.id (t.ops.take s.1) (t.ops.drop s.1)∧Zb7 s.2.1 (t.ops.take s.1))) (fun s=>t.ops.length - s.1) ((0),([]),(0)) G ⟨rfl,rfl,rfl,rfl,rfl,rfl,tv⟩ ⟨rfl,rfl,rfl,tv⟩ ⟨Yx _,⟨rfl,Zot⟩⟩ ?_
 clear G;intro s a w F hC G
 obtain ⟨i,es,ck⟩:=s
 try dsimp only at hC
 obtain ⟨F,G⟩:=G.nM [25,24,23,3,2,1] [102,101,0]
 try dsimp only at G
 obtain ⟨hi,hq⟩:=hC
 obtain ⟨hrt,hsp⟩:=hq
 have hwl:=fun k=>Zsn t.ops i k
 refine Ya (rZ G (qL r2) Z [26,25,24,23,3,2,1] [102,101,0] fun G=>Ya ?_)
 refine Zc G rfl (fun hc2=>?_) (fun hc2=>?_)
 ·have hil:i<t.ops.length:=by simp at hc2;omega
  refine Yf (Za (Ya (Yg (Ya (Zb G (qy 4 Yb2 r2 (qf (oR true 4 .t) r1 qz (qf (oH [.bool false,.int .i64 0,.int .i64 0,.int .i64 0] 103) trivial qz (qS 4 103 r2 r1 qZ)))) Z [25,24,23,5,3,2,1] [103,102,101,0] (fun _=>rfl) (fun _=>rfl) fun τ a w F G=>?_)))))
  try dsimp only [RS.sub,SF.sub,CF.sub,csub,Anc.sub,List.map,Ze,xL,xM,Nat.reduceAdd,xD,xE,xT,xU,xC,xN,zCF,ldSF,Zn,rOp,rTx] at G
  generalize τ 5=v5 at G
  try simp only [Yd] at G
  refine Za (Ya (Ya (rZ G (qe 4 103 r1 r1 (qf (oP (Zor (Nn t.ops i)) func86 (Args.one (.pagg .t))) r1 qz (qO rr qZ))) Z [25,24,23,6,5,3,2,1] [103,102,101,0] fun G=>Ya ?_)))
  refine rZ G (qR rr (qf (o_neq .t qi) r1 qz qZ)) Z [32,25,24,23,6,5,3,2,1] [103,102,101,0] fun G=>?_
  refine Zc G rfl (fun hc3=>?_) (fun hc3=>?_)
  ·have hk:ZaA (Nn t.ops i)=false:=by unfold ZcJ at hc3;simpa using hc3
   have hg:ZcJ (Nn t.ops i)=ZaE t:=by rw [hT,hrt,ZcU hil,Ye hk];unfold ZcJ;rw [hk];rfl
   refine Ya (rZ G (qR rr (qO rr qZ)) Z [25,24,23,5,3,2,1] [103,102,101,0] fun G=>(Yh (Zl (Zx (Zl (Zl (Zx (Zl ?_))))))))
   refine Zv hfr G rfl rfl rfl (.int hg)
  have hk:ZaA (Nn t.ops i)=true:=by unfold ZcJ at hc3;simpa using hc3
  refine Yf (Za (Ya (Ya (rZ G (qg 0 103 r1 r1 (qa 103 r1 r1 (qf (o_not .t) r1 qz qZ))) Z [36,25,24,23,5,3,2,1] [103,102,101,0] fun G=>?_))))
  refine Zc G rfl (fun hc4=>?_) (fun hc4=>?_)
  ·have hr:(Nn t.ops i).read=false:=by simpa using hc4
   have hm0:=hsp (Nn t.ops i).key 0 (Yam _)
   rw [Ye rfl] at hm0
   have hwc:IntKind.wrap .i64 (((gGet (⟨(Nn t.ops i).key,0⟩:Zbd) es).getD 0)+1)=(wcnt (t.ops.take i) (Nn t.ops i).key:Int)+1:=by rw [hm0];exact Zz (by have:=hwl (Nn t.ops i).key;omega)
   refine Ya ?_
   replace G:=G.turnZ 102 (0) (⟨(Nn t.ops i).key,0⟩:Zbd) rfl
   refine Za6 102 8 (m1:=1) (m2:=2) kr G kr (qR rr (qg 1 103 r1 r1 (qa 103 r1 r1 (qf (oB [(0,.tmp 39),(1,_)] [.int .i64 0,.int .i64 0] [(0,1),(1,1)] (.one rfl .t one_int kr (.one rfl qi one_int kr .nil))) r1 qz (qf (ZbZ (ek:=(fun n:Int=>PV.int .i64 n)) (z0:=(0)) 102 underlying134 ZfN kr (fun _ _=>⟨rfl,Zdj⟩) .is (ZI.agg (enc:=Zbi) (k:=(⟨(Nn t.ops i).key,0⟩:Zbd)) (.pagg .t) rfl)) r2 r1 (qp r1 (qf (Za5 (ek:=(fun n:Int=>PV.int .i64 n)) (z0:=(0)) 102 underlying134 ZfN kr (fun _ _=>⟨rfl,Zdj⟩) .is (ZI.agg (enc:=Zbi) (k:=(⟨(Nn t.ops i).key,0⟩:Zbd)) (.pagg .t) rfl) (by intros;first | rfl | simp [Anc.v,upd])) r2 r1 (qf (Zi .t rfl) r1 qz (qf (Zaz 102 (Zbz _ _ _) .is .t .t) r3 r1 qZ))))))))) kr kr kr rfl rfl rfl (fun _ _ _ _ h=>.inr h) (by rw [Z];kernel_rfl) fun a w F G=>?_
   obtain ⟨F,G⟩:=G.nM [25,24,23,5,3,2,1] [103,102,101,0]
   try dsimp only [List.map,Ze,xL,xM,Nat.reduceAdd,xD,xE,xT,xU,xC,xN,zCF,ldSF,Zn,rOp,rTx] at G
   obtain ⟨es1,he1⟩:∃ z,z=gSet (⟨(Nn t.ops i).key,0⟩:Zbd) (IntKind.wrap .i64 (((gGet (⟨(Nn t.ops i).key,0⟩:Zbd) es).getD 0)+1)) (gEns 0 (⟨(Nn t.ops i).key,0⟩:Zbd) (es,ck)).1:=⟨_,rfl⟩
   obtain ⟨ck1,hc1⟩:∃ z,z=(gEns 0 (⟨(Nn t.ops i).key,0⟩:Zbd) (es,ck)).2:=⟨_,rfl⟩
   rw [← he1,← hc1] at G
   refine Za (Ya (ZB G (qR rr (qg 1 103 r1 r1 (qa 103 r1 r1 (qR rr (qg 1 103 r1 r1 (qa 103 r1 r1 (qf (oB [(0,.tmp 50),(1,_)] [.int .i64 0,.int .i64 0] [(0,1),(1,1)] (.one rfl .t one_int kr (.one rfl qi one_int kr .nil))) r1 qz (qf (Zah (ek:=(fun n:Int=>PV.int .i64 n)) (z0:=(0)) 102 underlying134 ZfN kr (fun _ _=>⟨rfl,Zdj⟩) .is (ZI.agg (enc:=Zbi) (k:=(⟨(Nn t.ops i).key,0⟩:Zbd)) (.pagg .t) rfl)) r2 r1 (qf (oB [(0,.tmp 47),(1,.tmp 52)] [.int .i64 0,.int .i64 0] [(0,1),(1,1)] (.one rfl .t one_int kr (.one rfl .t one_int kr .nil))) r2 qz (qf (o_mapUpdateG (ek:=(fun n:Int=>PV.int .i64 n)) 102 underlying134 ZfN .is (ZI.agg (enc:=Zbi) (k:=(⟨(Nn t.ops i).key,(gGet (⟨(Nn t.ops i).key,0⟩:Zbd) es1).getD 0⟩:Zbd)) (.pagg .t) rfl) qi) r2 r1 qZ)))))))))) Z [25,24,23,5,3,2,1] [103,102,101,0] rfl rfl fun a w F G=>?_))
   try dsimp only [List.map,Ze,xL,xM,Nat.reduceAdd,xD,xE,xT,xU,xC,xN,zCF,ldSF,Zn,rOp,rTx] at G
   have hv1:∀ p,(gGet p es1).getD 0=if p=(⟨(Nn t.ops i).key,0⟩:Zbd) then (wcnt (t.ops.take i) (Nn t.ops i).key:Int)+1 else (gGet p es).getD 0:=fun p=>by rw [he1,ZgO,hwc]
   obtain ⟨es2,he2⟩:∃ z,z=(gPut (⟨(Nn t.ops i).key,(gGet (⟨(Nn t.ops i).key,0⟩:Zbd) es1).getD 0⟩:Zbd) 1 (es1,ck1)).1:=⟨_,rfl⟩
   obtain ⟨ck2,hc2⟩:∃ z,z=(gPut (⟨(Nn t.ops i).key,(gGet (⟨(Nn t.ops i).key,0⟩:Zbd) es1).getD 0⟩:Zbd) 1 (es1,ck1)).2:=⟨_,rfl⟩
   rw [← he2,← hc2] at G
   have hR2:Zai t.id [] t.ops=Zai t.id (t.ops.take (i+1)) (t.ops.drop (i+1))∧Zb7 es2 (t.ops.take (i+1)):=⟨by rw [hrt,ZcU hil,Yb (by rw [hk];decide),Yb (by rw [hr];simp)],Zmn hsp hil hr rfl (fun p=>by rw [he2,ZpK];dsimp only;rw [hv1,hv1,Ye rfl])⟩
   refine Za (Yz (Zh (Zr (Za (rZ G (qp r1 (qR rr qZ)) Z [25,24,23,3,2,1] [103,102,101,0] fun G=>?_)))))
   replace G:=G.ent (i:=25) (s':=.pv (.int .i64 ((i+1:Nat):Int))) rfl (.int (Zd ow))
   obtain ⟨F,G⟩:=G.nM [24,23,3,2,1,25] [101,0,102]
   exact ⟨((i+1),(es2),(ck2)),F,⟨by omega,hR2⟩,G,by omega⟩
  have hr:(Nn t.ops i).read=true:=by simpa using hc4
  refine Yf (Za (Ya (rZ G (qg 2 103 r1 r1 (qa 103 r1 r1 (qg 0 101 r1 r1 (qa 101 r1 r1 (qf (o_eql .t .t) r2 qz (qR rr (qm rfl rfl rfl rfl (qv 1 103 rfl r2 r1 (qw 103 rfl r2 r1 (qv 3 103 rfl r2 r1 (qw 103 rfl r2 r1 (qk rfl (fun h=>Zi9 (r:=[(0,.tmp 62),(1,.tmp 64)]) (zs:=[.int .i64 0,.int .i64 0]) (pl:=[(0,1),(1,1)]) kr kr (.one rfl (.w h) one_int kr (.one rfl (.w h) one_int kr .nil)) (by rfl)) r3 qz (qk rfl (fun h=>Zah (ek:=(fun n:Int=>PV.int .i64 n)) (z0:=(0)) 102 underlying134 ZfN kr (fun _ _=>⟨rfl,Zdj⟩) (.w h .is) (ZI.agg (enc:=Zbi) (k:=(⟨(Nn t.ops i).key,(Nn t.ops i).nth⟩:Zbd)) (.pagg (.w h)) rfl)) r3 r1 (qk rfl (fun h=>o_eql (.w h) qi) r2 qz (qf (ZH .t .t) r2 qz qZ))))))))))))))) Z [68,25,24,23,3,2,1] [103,102,101,0] fun G=>?_)))
  refine Zc G rfl (fun hc5=>?_) (fun hc5=>?_)
  ·have hg:6=ZaE t:=by rw [hT,hrt,ZcU hil,Yb (by rw [hk];decide),Ye ((Zi0 hsp hk hr hid.1).1 (by simpa using hc5))]
   refine Ya (rZ G (qI qZ) Z [25,24,23,3,2,1] [103,102,101,0] fun G=>(Yh (Zx (Zl (Zl (Zx (Zl ?_)))))))
   refine Zv hfr G rfl rfl rfl (.int hg)
  have hno:=fun h9=>(by simpa using hc5:¬ ((Nn t.ops i).tx=t.id∧(gGet (⟨(Nn t.ops i).key,(Nn t.ops i).nth⟩:Zbd) es).getD 0=0)) ((Zi0 hsp hk hr hid.1).2 h9)
  obtain ⟨es2,he2⟩:∃ z,z=es:=⟨_,rfl⟩
  obtain ⟨ck2,hc2⟩:∃ z,z=ck:=⟨_,rfl⟩
  have hR2:Zai t.id [] t.ops=Zai t.id (t.ops.take (i+1)) (t.ops.drop (i+1))∧Zb7 es2 (t.ops.take (i+1)):=⟨by rw [hrt,ZcU hil,Yb (by rw [hk];decide),Yb hno],by rw [he2];exact ZnR hsp hil hr⟩
  rw [← he2,← hc2] at G
  refine Yf (Zj (Za (rZ G (qp r1 (qR rr qZ)) Z [25,24,23,3,2,1] [103,102,101,0] fun G=>?_)))
  replace G:=G.ent (i:=25) (s':=.pv (.int .i64 ((i+1:Nat):Int))) rfl (.int (Zd ow))
  obtain ⟨F,G⟩:=G.nM [24,23,3,2,1,25] [101,0,102]
  exact ⟨((i+1),(es2),(ck2)),F,⟨by omega,hR2⟩,G,by omega⟩
 have hil:i=t.ops.length:=by simp at hc2;omega
 have hg:0=ZaE t:=by rw [hT,hrt,Zjn hil]
 refine Yz (Zh (Zh (Zr (Za (Ya (rZ G (qI qZ) Z [2] [102,101,0] fun G=>Yh ?_))))))
 refine Zv hfr G rfl rfl rfl (.int hg)
theorem Zn4 (t:TxD) (hl:t.ops.length≤1000000):FnP prog 88 [.agg (rTx t)] (.sl ZN (Zek t)):=by
 refine FnP.mk func88 rfl ntmps88 rfl fun B a w F Z hfr G=>Ya ?_
 refine Zb G (qx 101 r1 (qC qZ)) Z [2,1] [101,0] (fun _=>rfl) (fun _=>rfl) fun τ a w F G=>?_
 try dsimp only [RS.sub,SF.sub,CF.sub,csub,Anc.sub,List.map,zCF,Zn,rOp,rTx,ZN] at G
 generalize τ 1=v1 at G
 refine Za (Ya (rZ G (qC qZ) Z [3,2,1] [101,0] fun G=>Ya ?_))
 refine Zb G (qf (ZaO (ek:=(fun n:Int=>PV.int .i64 n)) (ok:=(fun k=>∀ x ∈ Zc6 k,inR .i64 x)) (kv:=(kvS Zc6)) 102) trivial qz (qO rr qZ)) Z [4,3,2,1] [102,101,0] (fun _=>rfl) (fun _=>rfl) fun τ a w F G=>?_
 try dsimp only [RS.sub,SF.sub,CF.sub,csub,Anc.sub,List.map,Ze,xL,xM,Nat.reduceAdd,xD,xE,xT,xU,xC,xN,zCF,Zn,rOp,rTx,ZN] at G
 generalize τ 8=v8 at G
 refine Za (Ya (Ya (rZ G (qg 2 101 r1 r1 (qa 101 r1 r1 (qu Yb2 r1 (qJ qZ)))) Z [12,11,10,4,3,2,1] [102,101,0] fun G=>Yg ?_)))
 replace G:=G.fresh 50 rfl
 replace G:=G.turn 50 rfl (Zas (T:=33) (sz:=3) (R:=ZN))
 refine Zm (σ:=(Nat)×(List (GE Zbh Int))×(Nat)×(Value)×(List Zbh)) [1,2,4,10,11] [0,101] (fun s=>[(12,.pv (.int .i64 (s.1:Int))),(3,.pv (.is s.2.2.2.1))]) (fun s=>[(102,.ob (.val v8) (Zbv (fun n:Int=>PV.int .i64 n) (fun k=>∀ x ∈ Zc6 k,inR .i64 x) (kvS Zc6) s.2.1 s.2.2.1)),(50,.ob (.val s.2.2.2.1) (ZC 33 3 ZN s.2.2.2.2))]) (fun s=>s.1≤t.ops.length∧(s.2.2.2.2=Zc9 t.id (t.ops.take s.1)∧Zdv s.2.1 s.1 s.2.2.2.2)) (fun s=>t.ops.length - s.1) ((0),([]),(0),(.slice none 0 0),([])) G ⟨rfl,rfl,rfl,rfl,rfl,rfl,rfl,tv⟩ ⟨rfl,rfl,rfl,rfl,tv⟩ ⟨Yx _,⟨rfl,Zqf⟩⟩ ?_
 clear G;intro s a w F hC G
 obtain ⟨i,es,ck,v,out⟩:=s
 try dsimp only at hC
 obtain ⟨F,G⟩:=G.nM [12,11,10,4,3,2,1] [102,101,50,0]
 try dsimp only at G
 obtain ⟨hi,hq⟩:=hC
 obtain ⟨hou,hvi⟩:=hq
 have hol:out.length≤i:=by rw [hou];exact Zlu _ _ _
 have hst:=fun hil:i<t.ops.length=>Zjc (id:=t.id) hil
 refine Ya (rZ G (qL r2) Z [13,12,11,10,4,3,2,1] [102,101,50,0] fun G=>Ya ?_)
 refine Zc G rfl (fun hc0=>?_) (fun hc0=>?_)
 ·have hil:i<t.ops.length:=by simp at hc0;omega
  refine Yf (Za (Ya (Yg (Ya (Zb G (qy 4 Yb2 r2 (qf (oR true 4 .t) r1 qz (qf (oH [.bool false,.int .i64 0,.int .i64 0,.int .i64 0] 103) trivial qz (qS 4 103 r2 r1 qZ)))) Z [12,11,10,6,4,3,2,1] [103,102,101,50,0] (fun _=>rfl) (fun _=>rfl) fun τ a w F G=>?_)))))
  try dsimp only [RS.sub,SF.sub,CF.sub,csub,Anc.sub,List.map,Ze,xL,xM,Nat.reduceAdd,xD,xE,xT,xU,xC,xN,zCF,ldSF,Zn,rOp,rTx,ZN] at G
  generalize τ 6=v6 at G
  try simp only [Yd] at G
  refine Za (Ya (Zb G (qe 4 103 r1 r1 (qf (oP (ZkZ (Nn t.ops i)) func120 (Args.one (.pagg .t))) r1 qz (qf (oH [.int .i64 0,.int .i64 0,.int .i64 0] 104) trivial qz (qf (oA 3 104 .same (.conv .t .agg)) r2 r1 qZ)))) Z [12,11,10,7,6,4,3,2,1] [104,103,102,101,50,0] (fun _=>rfl) (fun _=>rfl) fun τ a w F G=>?_))
  try dsimp only [RS.sub,SF.sub,CF.sub,csub,Anc.sub,List.map,Ze,xL,xM,Nat.reduceAdd,xD,xE,xT,xU,xC,xN,zCF,ldSF,Zn,rOp,rTx,ZN] at G
  generalize τ 7=v7 at G
  refine Za (Ya (Ya (rZ G (qg 0 103 r1 r1 (qa 103 r1 r1 (qf (o_not .t) r1 qz (qR rr (qv 0 104 rfl r2 r1 (qw 104 rfl r2 r1 (qk rfl (fun h=>o_eql (.w h) qi) r2 qz (qf (Zaa .t .t) r2 qz (qR rr (qv 0 104 rfl r2 r1 (qw 104 rfl r2 r1 (qv 0 101 rfl r2 r1 (qw 101 rfl r2 r1 (qk rfl (fun h=>o_eql (.w h) (.w h)) r3 qz (qf (Zaa .t .t) r2 qz qZ))))))))))))))) Z [32,12,11,10,7,4,3,2,1] [104,103,102,101,50,0] fun G=>?_)))
  refine Zc G rfl (fun hc1=>?_) (fun hc1=>?_)
  ·have hno:ZaY t.id (Nn t.ops i)=false:=by unfold ZaY;unfold ofO at hc1;cases hr:(Nn t.ops i).read <;> simp [hr] at hc1 ⊢;omega
   obtain ⟨es2,he2⟩:∃ z,z=es:=⟨_,rfl⟩
   obtain ⟨ck2,hc2⟩:∃ z,z=ck:=⟨_,rfl⟩
   obtain ⟨out2,ho2⟩:∃ z,z=out:=⟨_,rfl⟩
   have hR2:out2=Zc9 t.id (t.ops.take (i+1))∧Zdv es2 (i+1) out2:=⟨by rw [ho2,hou,hst hil];unfold ZY;rw [Yb (by rw [hno];simp)],by rw [he2,ho2];exact Zpm hvi⟩
   rw [← he2,← hc2,← ho2] at G
   refine Yz (Zh (Zr (Za (rZ G (qp r1 (qR rr qZ)) Z [12,11,10,4,3,2,1] [103,102,101,50,0] fun G=>?_))))
   replace G:=G.ent (i:=12) (s':=.pv (.int .i64 ((i+1:Nat):Int))) rfl (.int (Zd ow))
   obtain ⟨F,G⟩:=G.nM [11,10,4,2,1,3,12] [101,0,50,102]
   exact ⟨((i+1),(es2),(ck2),_,(out2)),F,⟨by omega,hR2⟩,G,by omega⟩
  have hyes:ZaY t.id (Nn t.ops i)=true:=by unfold ZaY;unfold ofO at hc1;cases hr:(Nn t.ops i).read <;> simp [hr] at hc1 ⊢;exact hc1
  have hvr:=hvi (ofO (Nn t.ops i))
  have hw1:IntKind.wrap .i64 (((gGet (ofO (Nn t.ops i)) es).getD 0)+1)=((gGet (ofO (Nn t.ops i)) es).getD 0)+1:=Zz (by have:=Sat.lenSl G (i:=10) rfl;omega)
  refine Yf (Za (Ya ?_))
  replace G:=G.turnZ 102 (0) (ofO (Nn t.ops i)) rfl
  refine Za6 102 6 (m1:=1) (m2:=2) kr G kr (qR rr (qe 3 104 r1 r1 (qf (ZbZ (ek:=(fun n:Int=>PV.int .i64 n)) (z0:=(0)) 102 underlying200 ZmM kr (fun _ _=>⟨rfl,Zdj⟩) .is (ZI.agg (enc:=Zc6) (k:=(ofO (Nn t.ops i))) (.pagg .t) rfl)) r2 r1 (qp r1 (qf (Za5 (ek:=(fun n:Int=>PV.int .i64 n)) (z0:=(0)) 102 underlying200 ZmM kr (fun _ _=>⟨rfl,Zdj⟩) .is (ZI.agg (enc:=Zc6) (k:=(ofO (Nn t.ops i))) (.pagg .t) rfl) (by intros;first | rfl | simp [Anc.v,upd])) r2 r1 (qf (Zi .t rfl) r1 qz (qf (Zaz 102 (Zbz _ _ _) .is .t .t) r3 r1 qZ))))))) kr kr kr rfl rfl rfl (fun _ _ _ _ h=>.inr h) (by rw [Z];kernel_rfl) fun a w F G=>?_
  obtain ⟨F,G⟩:=G.nM [12,11,10,7,4,3,2,1] [104,103,102,101,50,0]
  try dsimp only [List.map,xD,xE,xT,xU,ldSF,Zn,rOp,rTx,ZN] at G
  obtain ⟨es2,he2⟩:∃ z,z=gSet (ofO (Nn t.ops i)) (IntKind.wrap .i64 (((gGet (ofO (Nn t.ops i)) es).getD 0)+1)) (gEns 0 (ofO (Nn t.ops i)) (es,ck)).1:=⟨_,rfl⟩
  obtain ⟨ck2,hc2⟩:∃ z,z=(gEns 0 (ofO (Nn t.ops i)) (es,ck)).2:=⟨_,rfl⟩
  rw [← he2,← hc2] at G
  have hvv:∀ u,(gGet u es2).getD 0=if u=(ofO (Nn t.ops i)) then ((gGet (ofO (Nn t.ops i)) es).getD 0)+1 else (gGet u es).getD 0:=fun u=>by rw [he2,ZgO,hw1]
  have hmv:(gGet (ofO (Nn t.ops i)) es2).getD 0=((gGet (ofO (Nn t.ops i)) es).getD 0)+1:=by rw [hvv,Ye rfl]
  have hvs:=Zpl hvi hvv
  refine Za (Ya (rZ G (qR rr (qe 3 104 r1 r1 (qf (Zah (ek:=(fun n:Int=>PV.int .i64 n)) (z0:=(0)) 102 underlying200 ZmM kr (fun _ _=>⟨rfl,Zdj⟩) .is (ZI.agg (enc:=Zc6) (k:=(ofO (Nn t.ops i))) (.pagg .t) rfl)) r2 r1 (qf (o_eql .t qi) r1 qz qZ)))) Z [42,12,11,10,7,4,3,2,1] [104,103,102,101,50,0] fun G=>?_))
  refine Zc G rfl (fun hc2=>?_) (fun hc2=>?_)
  ·have hnm:(ofO (Nn t.ops i)) ∉ out:=by rw [← hvr.2.2];rw [hmv] at hc2;simp at hc2;omega
   obtain ⟨out2,ho2⟩:∃ z,z=out ++ [(ofO (Nn t.ops i))]:=⟨_,rfl⟩
   have hR2:out2=Zc9 t.id (t.ops.take (i+1))∧Zdv es2 (i+1) out2:=⟨by rw [ho2,hst hil];unfold ZY;rw [Ye ⟨hyes,by rw [← hou];exact hnm⟩,← hou],by have:=hvs;rw [Yb hnm] at this;rw [ho2];exact this⟩
   refine Zb G (qR rr (qe 3 104 r1 r1 (qf (o_buildSliceE (sz:=3) (zs:=[.int .i64 0,.int .i64 0,.int .i64 0]) (r:=[(0,.tmp 44)]) (l:=[_,_,_]) underlying139 kr kr kr kr rfl rfl (.agg rfl .t kr kr .nil) rfl) r1 qz (qf (o_append (sz:=3) (bs:=24) 50 (.mk' underlying139 kr kr) (by intro x;rfl) .is (.arr (l':=[_]) .t) (by simp only [Yc,Yk,Yv,Yj,YL];omega) (by decide)) ⟨rfl,rfl,tv⟩ ⟨rfl,tv⟩ (qO rr qZ))))) Z [12,11,10,4,3,2,1] [103,102,101,50,0] (fun _=>rfl) (fun _=>rfl) fun τ a w F G=>?_
   try dsimp only [RS.sub,SF.sub,CF.sub,csub,Anc.sub,List.map,Ze,xL,xM,Nat.reduceAdd,xD,xE,xT,xU,xC,xN,zCF,ldSF,Zn,rOp,rTx,ZN] at G
   generalize τ 46=v46 at G
   rw [← ho2] at G
   refine Zj (Za (rZ G (qp r1 (qR rr qZ)) Z [12,11,10,4,3,2,1] [103,102,101,50,0] fun G=>?_))
   replace G:=G.ent (i:=12) (s':=.pv (.int .i64 ((i+1:Nat):Int))) rfl (.int (Zd ow))
   obtain ⟨F,G⟩:=G.nM [11,10,4,2,1,3,12] [101,0,50,102]
   exact ⟨((i+1),(es2),(ck2),_,(out2)),F,⟨by omega,hR2⟩,G,by omega⟩
  have hnm:(ofO (Nn t.ops i)) ∈ out:=by rw [← hvr.2.2];rw [hmv] at hc2;simp at hc2;omega
  obtain ⟨out2,ho2⟩:∃ z,z=out:=⟨_,rfl⟩
  have hR2:out2=Zc9 t.id (t.ops.take (i+1))∧Zdv es2 (i+1) out2:=⟨by rw [ho2,hst hil];unfold ZY;rw [Yb (by rw [← hou];simp [hnm])];exact hou,by have:=hvs;rw [Ye hnm] at this;rw [ho2];exact this⟩
  rw [← ho2] at G
  refine Yf (Zj (Za (rZ G (qp r1 (qR rr qZ)) Z [12,11,10,4,3,2,1] [103,102,101,50,0] fun G=>?_)))
  replace G:=G.ent (i:=12) (s':=.pv (.int .i64 ((i+1:Nat):Int))) rfl (.int (Zd ow))
  obtain ⟨F,G⟩:=G.nM [11,10,4,2,1,3,12] [101,0,50,102]
  exact ⟨((i+1),(es2),(ck2),_,(out2)),F,⟨by omega,hR2⟩,G,by omega⟩
 have hil:i=t.ops.length:=by simp at hc0;omega
 refine Yz (Zh (Zh (Zr (Za (Ya (rZ G (qR rr (qO rr qZ)) Z [2] [102,101,50,0] fun G=>Yh ?_))))))
 obtain ⟨F,G⟩:=G.give 50 2 rfl rfl
 refine Zv hfr G rfl rfl rfl (.sl (by rw [hou,hil,YD];rfl))
theorem Zsf (l:List Int) (v:Int):FnP prog 39 [.sl Zn l,.int .i64 v] (.int .i64 (Zc7 v l)):=by
 refine FnP.mk func39 rfl ntmps39 rfl fun B a w F Z hfr G=>?_
 have hll:=Sat.lenSl G (i:=0) rfl
 refine Ya (rZ G (qI qZ) Z [4,1,0] [0] fun G=>(Ya (Ya ?_)))
 refine rZ G (qR rr (qu Yb0 r1 (qJ qZ))) Z [8,7,4,1,0] [0] fun G=>Yg ?_
 refine Zm (σ:=(Nat)) [0,1,4,7] [0] (fun s=>[(8,.pv (.int .i64 (s:Int)))]) (fun s=>[]) (fun s=>s≤l.length∧(∀ k,k<s→Nn l k≠v)) (fun s=>l.length - s) (0) G ⟨rfl,rfl,rfl,rfl,rfl,tv⟩ ⟨rfl,tv⟩ ⟨Yx _,fun k hk=>absurd hk (Y3 k)⟩ ?_
 clear G;intro i a w F hC G
 try dsimp only at hC
 obtain ⟨F,G⟩:=G.nM [8,7,4,1,0] [0]
 try dsimp only at G
 obtain ⟨hi,hq⟩:=hC
 refine Ya (rZ G (qL r2) Z [9,8,7,4,1,0] [0] fun G=>Ya ?_)
 refine Zc G rfl (fun hc0=>?_) (fun hc0=>?_)
 ·have hil:i<l.length:=by simp at hc0;omega
  refine Yf (Za (Ya (Yg (Ya (rZ G (qR rr (qO rr qZ)) Z [8,7,5,4,1,0] [0] fun G=>Ya ?_)))))
  refine Zg G (qR rr (qR rr (qR rr (qy 1 Yb0 r2 (qf (oR false 1 .t) r1 qz (qf (o_eql .t .t) r2 qz qZ)))))) Z [16,8,7,5,4,1,0] [0] rfl rfl fun a w F G=>?_
  try simp only [Yd] at G
  refine Za (Zc G rfl (fun hc1=>?_) (fun hc1=>?_))
  ·have hg:(i:Int)=Zc7 v l:=(Zn6 hil (by simp at hc1;omega) hq).symm
   refine Ya (rZ G (qR rr (qO rr qZ)) Z [8,7,4,1,0] [0] fun G=>(Yh (Zx (Zl (Zl (Zx (Zl ?_)))))))
   refine Zv hfr G rfl rfl rfl (.int hg)
  have hne:Nn l i≠v:=by simp at hc1;omega
  refine Yf (Zj (Za (rZ G (qp r1 (qR rr qZ)) Z [8,7,4,1,0] [0] fun G=>?_)))
  replace G:=G.ent (i:=8) (s':=.pv (.int .i64 ((i+1:Nat):Int))) rfl (.int (Zd ow))
  obtain ⟨F,G⟩:=G.nM [7,4,1,0,8] [0]
  exact ⟨(i+1),F,⟨by omega,(fun k hk=>by rcases YZ (Y5 hk) with h | h;exact hq k h;rw [h];exact hne)⟩,G,by omega⟩
 have hil:i=l.length:=by simp at hc0;omega
 have hg : -1=Zc7 v l:=(Zfw fun k hk=>hq k (by simp at hc0;omega)).symm
 refine Yz (Zh (Zh (Zr (Za (Ya (rZ G (qI qZ) Z [4] [0] fun G=>Yh ?_))))))
 refine Zv hfr G rfl rfl rfl (.int hg)
theorem Zrs (x y:List Int):FnP prog 93 [.sl Zn x,.sl Zn y] (.bool (decide (x=y))):=by
 refine FnP.mk func93 rfl ntmps93 rfl fun B a w F Z hfr G=>?_
 have hxl:=Sat.lenSl G (i:=0) rfl
 refine Ya (rZ G qB Z [4,1,0] [0] fun G=>(Ya (Ya ?_)))
 refine rZ G (qR rr (qu Yb0 r1 (qR rr (qu Yb0 r1 (qf (o_neq .t .t) r2 qz qZ))))) Z [10,4,1,0] [0] fun G=>?_
 refine Zc G rfl (fun hc0=>?_) (fun hc0=>?_)
 ·have hg:false=decide (x=y):=by
    rw [Yan,YA]
    intro h
    subst h
    simp at hc0
  refine Ya (rZ G qB Z [4,1,0] [0] fun G=>(Yh (Zl ?_)))
  refine Zv hfr G rfl rfl rfl (.bool hg)
 have hl:x.length=y.length:=by simp at hc0;omega
 refine Yf (Za (Ya (Ya (rZ G (qR rr (qu Yb0 r1 (qJ qZ))) Z [13,12,4,1,0] [0] fun G=>Yg ?_))))
 obtain ⟨F,G⟩:=G.nM [13,12,1,0] [0]
 refine Za9 (σ:=Nat) (fun s=>(⟨[(0,.pv (.sl Zn x)),(1,.pv (.sl Zn y)),(12,.pv (.int .i64 x.length)),(13,.pv (.int .i64 s))],[(0,frame B)]⟩:En)) (fun s=>s≤x.length ∧ ∀ j,j<s→Nn x j=Nn y j) (fun s=>x.length - s) 0 G ⟨Yx _,fun j hj=>absurd hj (Y3 j)⟩ ?_
 clear G;intro i a w F hC G
 try dsimp only at hC
 try dsimp only at G
 obtain ⟨hi,hq⟩:=hC
 refine Ya (rZ G (qL r2) Z [14,13,12,1,0] [0] fun G=>Ya ?_)
 refine Zc G rfl (fun hc1=>?_) (fun hc1=>?_)
 ·have hil:i<x.length:=by simp at hc1;omega
  refine Yf (Za (Ya (Yg (Ya (rZ G (qR rr (qO rr qZ)) Z [13,12,5,1,0] [0] fun G=>Ya ?_)))))
  refine ZB G (qR rr (qR rr (qy 1 Yb0 r2 (qf (oR false 1 .t) r1 qz (qR rr (qR rr (qy 1 Yb0 r2 (qf (oR false 1 .t) r1 qz (qf (o_neq .t .t) r2 qz qZ))))))))) Z [24,13,12,1,0] [0] rfl rfl fun a w F G=>?_
  try dsimp only [List.map,xD,xE,xT,xU,ldSF] at G
  refine Za (Zc G rfl (fun hc2=>?_) (fun hc2=>?_))
  ·have hg:false=decide (x=y):=by
     rw [Yan,YA]
     intro h
     subst h
     simp at hc2
   refine Ya (rZ G qB Z [13,12,4,1,0] [0] fun G=>(Yh (Zx (Zl (Zl (Zx (Zl ?_)))))))
   refine Zv hfr G rfl rfl rfl (.bool hg)
  rw [Yd] at hc2
  have hqi:Nn x i=Nn y i:=by simpa using hc2
  refine Yf (Zj (Za (rZ G (qp r1 (qR rr qZ)) Z [13,12,1,0] [0] fun G=>?_)))
  replace G:=G.ent (i:=13) (s':=.pv (.int .i64 ((i+1:Nat):Int))) rfl (.int (Zd ow))
  obtain ⟨F,G⟩:=G.nM [13,12,1,0] [0]
  exact ⟨i+1,F,⟨by omega,fun j hj=>by rcases YZ (Y5 hj) with h | h;exact hq j h;rw [h];exact hqi⟩,G,by omega⟩
 have hg:true=decide (x=y):=by
   rw [Yan,Yp]
   exact ZaJ hl fun j hj=>hq j (by simp at hc1;omega)
 refine Yz (Zh (Zh (Zr (Za (Ya (rZ G qB Z [4] [0] fun G=>Yh ?_))))))
 refine Zv hfr G rfl rfl rfl (.bool hg)
theorem Zth (x y:List Int) (hx:x.length≤1000000) (hy:y.length≤1000000):FnP prog 47 [.sl Zn x,.sl Zn y] (.bool (decide (x.Perm y))):=by
 refine FnP.mk func47 rfl ntmps47 rfl fun B a w F Z hfr G=>Ya ?_
 refine rZ G qB Z [4,1,0] [0] fun G=>Ya ?_
 replace G:=G.fresh 101 rfl
 replace G:=G.fresh 102 rfl
 refine Zb G (qR rr (qf (ZaM 101 (ZkR x hx) func42 rfl kr (Args.one .t) pvOne1) r1 r1 (qR rr (qf (ZaM 102 (ZkR y hy) func42 rfl kr (Args.one .t) pvOne1) r1 r1 (qO rr (qO rr qZ)))))) Z [6,5,4] [102,101,0] (fun _=>rfl) (fun _=>rfl) fun τ a w F G=>?_
 try dsimp only [RS.sub,SF.sub,CF.sub,csub,Anc.sub,List.map,Zn] at G
 generalize τ 8=v8,τ 10=v10 at G
 refine Za (Ya (rZ G (qR rr (qf (Zbe 101 (ZiC _ x hx) func92 rfl kr (Args.one .t)) r1 r1 qZ)) Z [6,5,4] [102,101,0] fun G=>Ya ?_))
 refine rZ G (qR rr (qf (Zbe 102 (ZiC _ y hy) func92 rfl kr (Args.one .t)) r1 r1 qZ)) Z [6,5,4] [102,101,0] fun G=>Ya ?_
 refine rZ G (qR rr (qR rr (qf (OpC.lendRow 102 [16] (OpC.lendRow 101 [15] (oP (Zrs _ _) func93 (Args.two .t .t)) ⟨rfl,tv,tv⟩ (.pv (fun _ _ _ _ h=>h)) trivial (by rfl)) ⟨tv,rfl,tv⟩ (.pv (fun _ _ _ _ h=>h)) trivial (by rfl)) r2 r2 (qO rr qZ)))) Z [4] [102,101,0] fun G=>Yh ?_
 refine Zv hfr G rfl rfl rfl (.bool (by rw [Yak];exact Zoa))
def zeroT:TxD:=⟨0,false,[]⟩
def ZaN (l:List TxD):Prop:=l.length≤1000 ∧ ∀ t ∈ l,t.ops.length≤1000
def Zgl (l:List OrdD):Prop:=l.length≤4000 ∧ ∀ o ∈ l,o.txs.length≤1000
def ZbR (h:Zo):Prop:=ZaN h.txs∧Zgl h.orders
theorem ZaN.at {l:List TxD} (h:ZaN l) {i:Nat} (hi:i<l.length):(Nn l i).ops.length≤1000:=h.2 _ (nth_mem hi)
theorem Zgl.at {l:List OrdD} (h:Zgl l) {i:Nat} (hi:i<l.length):(Nn l i).txs.length≤1000:=h.2 _ (nth_mem hi)
def ZJ (l:List TxD) (id:Int):Option TxD:=l.find? fun t=>decide (t.id=id)
theorem ZpO {l:List TxD} {id:Int} {i:Nat} (hi:i<l.length) (h:(Nn l i).id=id) (hq:∀ k,k<i→(Nn l k).id≠id):ZJ l id=some (Nn l i):=by
 unfold ZJ
 rw [List.find?_eq_some_iff_getElem]
 refine ⟨by simpa using h,i,hi,(nth_eq hi).symm,fun j hj=>?_⟩
 have:=hq j hj
 rw [nth_eq ow] at this
 simpa using this
theorem ZlR {l:List TxD} {id:Int} (hq:∀ k,k<l.length→(Nn l k).id≠id):ZJ l id=none:=by
 unfold ZJ
 rw [YaQ]
 intro x hx
 obtain ⟨k,hk,e⟩:=YH hx
 have:=hq k hk
 rw [nth_eq hk,e] at this
 simpa using this
theorem findT_mem {l:List TxD} {id:Int} {t:TxD} (h:ZJ l id=some t):t ∈ l∧t.id=id:=⟨List.mem_of_find?_eq_some h,by have:=List.find?_some h;simpa using this⟩
def Zi4 (h:Zo) (v:Zbh):Bool:=if v.tx=0∧v.nth=0 then decide (1≤v.key∧v.key≤1048575) else (ZJ h.txs v.tx).isSome && (decide (1≤v.nth) && decide (v.nth≤(wcnt ((ZJ h.txs v.tx).getD zeroT).ops v.key:Int)))
def Zc8 (h:Zo) (t:TxD):Bool:=(Zek t).all (Zi4 h)
def ZaW (t:TxD):List Int:=Zbu ((t.ops.filter fun o=>!o.read).map OpD.key)
theorem ZdM {t:TxD} {k:Int} : k ∈ ZaW t ↔ 0<wcnt t.ops k:=by
 unfold ZaW
 rw [(ZL _).2,Yu]
 unfold wcnt
 rw [List.length_pos_iff_exists_mem]
 constructor
 ·rintro ⟨o,ho,e⟩
  rw [YN] at ho
  exact ⟨o,by rw [YN];exact ⟨ho.1,by simp [e];simpa using ho.2⟩⟩
 ·rintro ⟨o,ho⟩
  rw [YN] at ho
  simp at ho
  exact ⟨o,by rw [YN];simp [ho.1,ho.2.1],ho.2.2⟩
theorem ZeU (t:TxD):(ZaW t).length≤t.ops.length:=Y6 (ZfU _) (by rw [YC];exact Y8 _ _)
def ZG (l:List TxD) (k:Int):List Int:=(l.filter fun t=>t.done && decide (0<wcnt t.ops k)).map TxD.id
theorem Zen (l:List TxD) (k:Int):(ZG l k).length≤l.length:=by unfold ZG;rw [YC];exact Y8 _ _
theorem Zdy {l:List TxD} {i:Nat} (hi:i<l.length) (k:Int):ZG (l.take (i+1)) k=ZG (l.take i) k++if (Nn l i).done=true∧0<wcnt (Nn l i).ops k then [(Nn l i).id] else []:=by
 unfold ZG
 rw [Zs hi,Yae,YJ]
 congr 1
 by_cases h:(Nn l i).done=true∧0<wcnt (Nn l i).ops k
 ·rw [Ye h,Yab (by simp [h.1,h.2])];rfl
 ·rw [Yb h,Yag (by simp;intro e;exact Nat.eq_zero_of_not_pos fun e2=>h ⟨e,e2⟩)];rfl
def Za4 (l:List TxD):List Int:=Zbu ((l.filter fun t=>t.done).flatMap ZaW)
theorem Zp5 {l:List TxD} (h:ZaN l) (i:Nat):(Za4 (l.take i)).length≤1000*i:=by
 unfold Za4
 refine Y6 (ZfU _) ?_
 have key:∀ l:List TxD,(∀ t ∈ l,t.ops.length≤1000)→((l.filter fun t=>t.done).flatMap ZaW).length≤1000*l.length:=by
  intro l
  induction l with
  | nil=>intro _;simp
  | cons t l ih=>
   intro h
   have h1:=ih fun x hx=>h x (by simp [hx])
   have h2:=h t (by simp)
   have h3:=ZeU t
   by_cases hd:t.done=true
   ·rw [Yab (by simpa using hd),YV,Yc,Yk]
    omega
   ·rw [Yag (by simpa using hd),Yk]
    omega
 have h1:=key (l.take i) fun t ht=>h.2 t (Yap ht)
 have h2:(l.take i).length≤i:=by rw [Yj];omega
 exact Y6 h1 (Ybh _ h2)
theorem Zm4 {l:List TxD} (h:ZaN l):(Za4 l).length≤1000000:=by
 have h1:=Zp5 h l.length
 rw [YD] at h1
 have:=h.1
 omega
theorem ZcO {l:List TxD} {k:Int} : k ∈ Za4 l ↔ ZG l k≠[]:=by
 unfold Za4
 rw [(ZL _).2,Yaq]
 unfold ZG
 rw [ne_eq,List.map_eq_nil_iff,YaW]
 constructor
 ·rintro ⟨t,ht,hk⟩ hn
  rw [YN] at ht
  have:=hn t ht.1
  simp [ht.2] at this
  have:=ZdM.1 hk
  simp_all
 ·intro hn
  simp only [Classical.not_forall] at hn
  obtain ⟨t,ht,h2⟩:=hn
  simp at h2
  exact ⟨t,by rw [YN];exact ⟨ht,by simpa using h2.1⟩,ZdM.2 (Nat.pos_of_ne_zero h2.2)⟩
def Zmi (h:Zo) (i:Nat):Prop:=(0<i→(Nn h.txs (i - 1)).id<(Nn h.txs i).id)∧ZaE (Nn h.txs i)=0∧Zc8 h (Nn h.txs i)=true
instance (h:Zo) (i:Nat):Decidable (Zmi h i):=by unfold Zmi;exact inferInstance
def Zpt (h:Zo) (i:Nat):Prop:=(Nn h.orders i).key=Nn (Za4 h.txs) i∧(Nn h.orders i).txs.Perm (ZG h.txs (Nn h.orders i).key)
instance (h:Zo) (i:Nat):Decidable (Zpt h i):=by unfold Zpt;exact inferInstance
def ZO (h:Zo):Prop:=h.txs.length≤4096∧(∀ i,i<h.txs.length→Zmi h i)∧h.orders.length=(Za4 h.txs).length ∧ ∀ i,i<h.orders.length→Zpt h i
instance (h:Zo):Decidable (ZO h):=by unfold ZO;exact inferInstance
def Zfz (h:Zo) (i:Nat):Prop:=(0<i→(Nn h.orders (i - 1)).key<(Nn h.orders i).key)∧(Nn h.orders i).txs≠[]∧(Nn h.orders i).txs.Perm (ZG h.txs (Nn h.orders i).key)
theorem Zfi:∀ {l:List Int},(∀ i,i<l.length→0<i→Nn l (i - 1)<Nn l i)→Zdm l
 | [],_=>List.Pairwise.nil
 | [x],_=>by simp
 | x :: y :: l,h=>by
  have ih:=Zfi (l:=y :: l) fun i hi h0=>by
   have:=h (i+1) (by simpa using hi) ow
   obtain ⟨j,rfl⟩:∃ j,i=j+1:=⟨i - 1,by omega⟩
   have hj:j<l.length:=by simpa using hi
   rw [nth_eq (l:=x :: y :: l) (by simp;omega),nth_eq (l:=x :: y :: l) (by simp;omega)] at this
   rw [nth_eq (l:=y :: l) (by simp;omega),nth_eq (l:=y :: l) (by simp;omega)]
   exact this
  have h1:=h 1 (by simp) ow
  rw [nth_eq (by simp),nth_eq (by simp)] at h1
  simp at h1
  have ih2:=Yr.1 ih
  refine Yr.2 ⟨fun z hz=>?_,ih⟩
  rcases Yl.1 hz with rfl | hz
  ·exact h1
  ·have:=ih2.1 z hz;omega
theorem Zrb {l:List Int} (h:Zdm l) {i:Nat} (hi:i<l.length) (h0:0<i):Nn l (i - 1)<Nn l i:=by
 rw [nth_eq hi,nth_eq ow]
 exact Yaz.1 h (i - 1) i ow hi ow
theorem ZjK:∀ {b a:List Int},Zdm a→Zdm b→(∀ x ∈ a,x ∈ b)→a.length≤b.length∧(a.length=b.length→a=b)
 | [],a,_,_,h=>by
  have:a = []:=List.eq_nil_iff_forall_not_mem.2 fun x hx=>by cases h x hx
  subst this;simp
 | y :: b,[],_,_,_=>⟨by simp,fun h=>by simp at h⟩
 | y :: b,x :: a,ha,hb,h=>by
  have ha':=Yr.1 ha
  have hb':=Yr.1 hb
  by_cases e:x=y
  ·subst e
   have ih:=ZjK (b:=b) (a:=a) ha'.2 hb'.2 fun z hz=>by
    rcases Yl.1 (h z (by simp [hz])) with e | e
    ·have:=ha'.1 z hz;omega
    ·exact e
   exact ⟨by simp;exact ih.1,fun hl=>by rw [ih.2 (by simpa using hl)]⟩
  ·have hx:y<x:=by
    rcases Yl.1 (h x (by simp)) with e2 | e2
    ·exact absurd e2 e
    ·exact hb'.1 x e2
   have ih:=ZjK (b:=b) (a:=x :: a) ha hb'.2 fun z hz=>by
    rcases Yl.1 (h z hz) with e2 | e2
    ·rcases Yl.1 hz with e3 | e3
     ·omega
     ·have:=ha'.1 z e3;omega
    ·exact e2
   exact ⟨by have:=ih.1;simp at this ⊢;omega,fun hl=>by have:=ih.1;simp at this hl;omega⟩
theorem ZaH {α β:Type} [Inhabited α] [Inhabited β] {f:α→β} {l:List α} {i:Nat} (h:i<l.length):Nn (l.map f) i=f (Nn l i):=by
 rw [nth_eq (by simpa using h),nth_eq h];simp
theorem ZcT (h:Zo):(h.orders.length=(Za4 h.txs).length ∧ ∀ i,i<h.orders.length→Zfz h i) ↔ (h.orders.length=(Za4 h.txs).length ∧ ∀ i,i<h.orders.length→Zpt h i):=by
 have hK:Zdm (Za4 h.txs):=(ZL _).1
 constructor
 ·rintro ⟨hl,hq⟩
  refine ⟨hl,?_⟩
  have hO:Zdm (h.orders.map OrdD.key):=Zfi fun i hi h0=>by
   have hi':i<h.orders.length:=by simpa using hi
   rw [ZaH ow,ZaH hi']
   exact (hq i hi').1 h0
  have hsub:∀ x ∈ h.orders.map OrdD.key,x ∈ Za4 h.txs:=fun x hx=>by
   obtain ⟨o,ho,rfl⟩:=Yu.1 hx
   obtain ⟨k,hk,e⟩:=YH ho
   have:=hq k hk
   unfold Zfz at this
   rw [nth_eq hk,e] at this
   rw [ZcO]
   intro e2
   rw [e2] at this
   exact this.2.1 (List.Perm.eq_nil this.2.2)
  have he:=(ZjK hO hK hsub).2 (by simpa using hl)
  intro i hi
  refine ⟨?_,(hq i hi).2.2⟩
  rw [← he,ZaH hi]
 ·rintro ⟨hl,hq⟩
  refine ⟨hl,fun i hi=>?_⟩
  have hin:(Nn h.orders i).key ∈ Za4 h.txs:=by rw [(hq i hi).1];exact nth_mem ow
  refine ⟨fun h0=>?_,fun e=>?_,(hq i hi).2⟩
  ·rw [(hq i hi).1,(hq (i - 1) ow).1]
   exact Zrb hK ow h0
  ·have:=(hq i hi).2
   rw [e] at this
   exact ZcO.1 hin this.symm.eq_nil
theorem Zf5 {h:Zo} (hb:4096<h.txs.length):false=decide (ZO h):=(YF fun hr=>by have:=hr.1;omega).symm
theorem ZhK {h:Zo} {i:Nat} (hi:i<h.txs.length) (hb:¬ Zmi h i):false=decide (ZO h):=(YF fun hr=>hb (hr.2.1 i hi)).symm
theorem Zhy {h:Zo} (hb:h.orders.length≠(Za4 h.txs).length):false=decide (ZO h):=(YF fun hr=>hb hr.2.2.1).symm
theorem Zf2 {h:Zo} {i:Nat} (hi:i<h.orders.length) (hb:¬ Zfz h i):false=decide (ZO h):=(YF fun hr=>hb (((ZcT h).2 hr.2.2).2 i hi)).symm
theorem Zjm {h:Zo} (h1:h.txs.length≤4096) (h2:∀ i,i<h.txs.length→Zmi h i) (h3:h.orders.length=(Za4 h.txs).length) (h4:∀ i,i<h.orders.length→Zfz h i):true=decide (ZO h):=(Yaa ⟨h1,h2,(ZcT h).1 ⟨h3,h4⟩⟩).symm
def Zr7 (l:List Int):Option (List Int):=if l = [] then none else some l
theorem Zj6 (l:List Int):(Zr7 l).getD [] = l:=by
 unfold Zr7
 split
 ·rename_i h;rw [h];rfl
 ·rfl
def WrL (es:List (GE Int (List Int))) (l:List TxD):Prop:=GNd es ∧ ∀ k,gGet k es=Zr7 (ZG l k)
def WrV (es:List (GE Int (Value×List Int))) (l:List TxD) (id:Int) (ks:List Int):Prop:=GNd es ∧ ∀ k,(gGet k es).map (·.2)=Zr7 (ZG l k++if k ∈ ks then [id] else [])
theorem ZsE {id:Int} : WrV [] [] id []:=⟨by simp [GNd],fun k=>by simp [gGet,ZG,Zr7]⟩
theorem Zpv {es:List (GE Int (Value×List Int))} {l:List TxD} {id:Int} (h:WrV es l id []):WrL (Zeh es) l:=⟨by unfold GNd;rw [Zjx];exact h.1,fun k=>by rw [Zgp,h.2];simp⟩
theorem Zo2 {es:List (GE Int (Value×List Int))} {l:List TxD} {id id':Int} (h:WrV es l id []):WrV es l id' []:=⟨h.1,fun k=>by rw [h.2];simp⟩
theorem Zsq {es:List (GE Int (Value×List Int))} {l:List TxD} {i:Nat} {id:Int} (h:WrV es (l.take i) id []) (hi:i<l.length) (hd:(Nn l i).done=false):WrV es (l.take (i+1)) id []:=⟨h.1,fun k=>by rw [h.2,Zdy hi];simp [hd]⟩
theorem ZrY {es:List (GE Int (Value×List Int))} {l:List TxD} {i:Nat} {id:Int} (h:WrV es (l.take i) (Nn l i).id (ZaW (Nn l i))) (hi:i<l.length) (hd:(Nn l i).done=true):WrV es (l.take (i+1)) id []:=⟨h.1,fun k=>by
 rw [h.2,Zdy hi]
 congr 1
 simp only [YbH,Ym,YM]
 congr 1
 by_cases hk:k ∈ ZaW (Nn l i)
 ·rw [Ye hk,Ye ⟨hd,ZdM.1 hk⟩]
 ·rw [Yb hk,Yb fun h9=>hk (ZdM.2 h9.2)]⟩
theorem Zq9 {es:List (GE Int (Value×List Int))} {l:List TxD} {id:Int} {ks:List Int} {j:Nat} (h:WrV es l id (ks.take j)) (hn:ks.Nodup) (hj:j<ks.length):((gGet (Nn ks j) es).getD ZgW).2=ZG l (Nn ks j):=by
 have h1:=h.2 (Nn ks j)
 have hni:Nn ks j ∉ ks.take j:=fun hm=>by
  rw [nth_eq hj] at hm
  obtain ⟨k,hk,e⟩:=YH hm
  rw [Yj] at hk
  rw [List.getElem_take] at e
  have h3:=Yaz.1 hn k j ow hj ow
  exact h3 e
 rw [Yb hni,YM] at h1
 have h2:=Zj6 (ZG l (Nn ks j))
 rw [← h1] at h2
 rw [← h2]
 cases gGet (Nn ks j) es <;> rfl
theorem ZrH {es:List (GE Int (Value×List Int))} {l:List TxD} {id:Int} {ks:List Int} {j ck:Nat} {v:Value} (h:WrV es l id (ks.take j)) (hn:ks.Nodup) (hj:j<ks.length):WrV (gPut (Nn ks j) (v,((gGet (Nn ks j) es).getD ZgW).2 ++ [id]) (es,ck)).1 l id (ks.take (j+1)):=⟨GNd.put h.1,fun k=>by
 rw [ZcQ,Zq9 h hn hj,Zs hj]
 by_cases e:k=Nn ks j
 ·subst e
  rw [Ye rfl,Ye (by simp)]
  simp [Zr7]
 ·rw [Yb e,h.2]
  simp [e]⟩
theorem Zs9 {es:List (GE Int (List Int))} {l:List TxD} (h:WrL es l) (k:Int):(gGet k es).getD [] = ZG l k:=by rw [h.2,Zj6]
theorem Ztl {es:List (GE Int (List Int))} {l:List TxD} (h:WrL es l):es.length=(Za4 l).length:=by
 have h1:(es.map (·.key)).Perm (Za4 l):=by
  refine (List.perm_ext_iff_of_nodup h.1 ((ZL _).1.imp fun h=>Int.ne_of_lt h)).2 fun k=>?_
  rw [← Zey,h.2,show (k ∈ Zbu ((l.filter fun t=>t.done).flatMap ZaW)) ↔ ZG l k≠[] from ZcO]
  unfold Zr7
  split <;> simp_all
 simpa using h1.length_eq
theorem Zfe (t:TxD):(ZaW t).Nodup:=(ZL _).1.imp fun h=>Int.ne_of_lt h
theorem Zq7 {α:Type} {R:α→List PV} {w:World} {y:Ys} : (PV.sl R ([]:List α)).p (.slice none 0 0) w y:=⟨none,0,rfl,YO _,by unfold maxLen;omega,.inl rfl⟩
theorem Zqg (t:TxD) (hl:t.ops.length≤1000000):FnP prog 62 [.agg (rTx t)] (.agg (rTx t)):=by
 refine FnP.mk func62 rfl ntmps62 rfl fun B a w F Z hfr G=>Ya ?_
 refine Zb G (qx 101 r1 (qf (oH [.int .i64 0,.bool false,.slice none 0 0] 102) trivial qz qZ)) Z [2,1] [102,101,0] (fun _=>rfl) (fun _=>rfl) fun τ a w F G=>?_
 try dsimp only [RS.sub,SF.sub,CF.sub,csub,Anc.sub,List.map,zCF,Zu,rTx,ZP,ZN,Zn,rOp] at G
 generalize τ 1=v1,τ 2=v2 at G
 refine Za (Ya ?_)
 replace G:=G.fresh 103 rfl
 refine Zb G (qg 2 101 r1 r1 (qa 101 r1 r1 (qf (ZaM 103 (ZpC t.ops hl) func102 rfl kr (Args.one .t) pvOne1) r1 r1 (qg 2 101 r1 r1 (qf (ZaL 101 .adr kr kr) r2 r1 qZ))))) Z [2,1] [103,102,101,0] (fun _=>rfl) (fun _=>rfl) fun τ a w F G=>?_
 try dsimp only [RS.sub,SF.sub,CF.sub,csub,Anc.sub,List.map,Ze,xL,xM,Nat.reduceAdd,xD,xE,xT,xU,xC,xN,zCF,ldSF,Zu,rTx,ZP,ZN,Zn,rOp] at G
 generalize τ 5=v5 at G
 obtain ⟨F,G⟩:=G.giveCell 103 101 2 rfl rfl rfl rfl rfl
 try dsimp only [List.set] at G
 obtain ⟨F,G⟩:=G.nM [2,1] [102,101,0]
 refine Za (Ya (rZ G (qe 3 101 r1 r1 (qs 3 102 r2 r1 qZ)) Z [2] [102,101,0] fun G=>Yh ?_))
 refine Zae hfr G rfl (.cl 102 true 3 rfl rfl .nil) (.one (.aggU rfl rfl))
theorem ZqK (g:Zo) (id:Int) (hs:ZaN g.txs):FnP prog 28 [.agg (Zu g),.int .i64 id] (.tup [.agg (rTx ((ZJ g.txs id).getD zeroT)),.bool (ZJ g.txs id).isSome]):=by
 refine FnP.mk func28 rfl ntmps28 rfl fun B a w F Z hfr G=>?_
 have hsl:=hs.1
 refine Ya (Zb G (qx 101 r1 (qf (oH [.int .i64 0,.bool false,.slice none 0 0] 102) trivial qz qB)) Z [5,4,2,1] [102,101,0] (fun _=>rfl) (fun _=>rfl) fun τ a w F G=>?_)
 try dsimp only [RS.sub,SF.sub,CF.sub,csub,Anc.sub,List.map,zCF,Zu,rTx,ZP,ZN,Zn,rOp] at G
 generalize τ 2=v2,τ 4=v4 at G
 refine Za (Ya (Ya (rZ G (qg 0 101 r1 r1 (qa 101 r1 r1 (qu Yb3 r1 (qJ qZ)))) Z [11,10,9,5,4,1] [102,101,0] fun G=>Yg ?_)))
 refine Zm (σ:=(Nat)) [1,4,5,9,10] [0,101,102] (fun s=>[(11,.pv (.int .i64 (s:Int)))]) (fun s=>[]) (fun s=>s≤g.txs.length∧(∀ k,k<s→(Nn g.txs k).id≠id)) (fun s=>g.txs.length - s) (0) G ⟨rfl,rfl,rfl,rfl,rfl,rfl,tv⟩ ⟨rfl,rfl,rfl,tv⟩ ⟨Yx _,fun k hk=>absurd hk (Y3 k)⟩ ?_
 clear G;intro i a w F hC G
 try dsimp only at hC
 obtain ⟨F,G⟩:=G.nM [11,10,9,5,4,1] [102,101,0]
 try dsimp only at G
 obtain ⟨hi,hq⟩:=hC
 refine Ya (rZ G (qL r2) Z [12,11,10,9,5,4,1] [102,101,0] fun G=>Ya ?_)
 refine Zc G rfl (fun hc0=>?_) (fun hc0=>?_)
 ·have hil:i<g.txs.length:=by simp at hc0;omega
  refine Yf (Za (Ya (Yg (Ya (Zb G (qy 3 Yb3 r2 (qf (oR true 3 .t) r1 qz (qf (oH [.int .i64 0,.bool false,.slice none 0 0] 103) trivial qz (qS 3 103 r2 r1 qZ)))) Z [11,10,9,7,5,4,1] [103,102,101,0] (fun _=>rfl) (fun _=>rfl) fun τ a w F G=>?_)))))
  try dsimp only [RS.sub,SF.sub,CF.sub,csub,Anc.sub,List.map,Ze,xL,xM,Nat.reduceAdd,xD,xE,xT,xU,xC,xN,zCF,ldSF,Zu,rTx,ZP,ZN,Zn,rOp] at G
  generalize τ 7=v7 at G
  try simp only [Yd] at G
  refine Za (Ya (rZ G (qg 0 103 r1 r1 (qa 103 r1 r1 (qR rr (qf (o_eql .t .t) r2 qz qZ)))) Z [18,11,10,9,7,5,4,1] [103,102,101,0] fun G=>?_))
  refine Zc G rfl (fun hc1=>?_) (fun hc1=>?_)
  ·have hg:ZJ g.txs id=some (Nn g.txs i):=ZpO hil (by simpa using hc1) hq
   refine Ya (rZ G (qe 3 103 r1 r1 (qf (oP (Zqg (Nn g.txs i) (by have:=hs.at hil;omega)) func62 (Args.one (.pagg .t))) r1 qz (qf (oA 3 102 .is (.conv .t .agg)) r2 r1 qB))) Z [11,10,9,5,4,1] [103,102,101,0] fun G=>(Yh (Zx (Zl (Zl (Zx (Zl ?_)))))))
   refine Zae hfr G rfl (.cl 102 true 3 rfl rfl (.tmp rfl .nil)) (.two (by rw [hg];first | exact .aggU rfl rfl | exact .aggLe rfl ⟨.refl,.refl,.nilSl,tv⟩) (.bool (by rw [hg];rfl)))
  have hne:(Nn g.txs i).id≠id:=by simpa using hc1
  refine Yf (Zj (Za (rZ G (qp r1 (qR rr qZ)) Z [11,10,9,5,4,1] [103,102,101,0] fun G=>?_)))
  replace G:=G.ent (i:=11) (s':=.pv (.int .i64 ((i+1:Nat):Int))) rfl (.int (Zd ow))
  obtain ⟨F,G⟩:=G.nM [10,9,5,4,1,11] [102,101,0]
  exact ⟨(i+1),F,⟨by omega,(fun k hk=>by rcases YZ (Y5 hk) with h9 | h9;exact hq k h9;rw [h9];exact hne)⟩,G,by omega⟩
 have hil:i=g.txs.length:=by simp at hc0;omega
 have hg:ZJ g.txs id=none:=ZlR (by rw [← hil];exact hq)
 refine Yz (Zh (Zh (Zr (Za (Ya (rZ G (qf (oB [] [.int .i64 0,.bool false,.slice none 0 0] [(0,1),(1,1),(2,1)] .nil) trivial qz (qs 3 102 r2 r1 qB)) Z [5,4] [102,101,0] fun G=>Yh ?_))))))
 refine Zae hfr G rfl (.cl 102 true 3 rfl rfl (.tmp rfl .nil)) (.two (by rw [hg];first | exact .aggU rfl rfl | exact .aggLe rfl ⟨.refl,.refl,.nilSl,tv⟩) (.bool (by rw [hg];rfl)))
theorem ZtT (g:Zo) (v:Zbh) (hs:ZaN g.txs):FnP prog 90 [.agg (Zu g),.agg (ZN v)] (.bool (Zi4 g v)):=by
 refine FnP.mk func90 rfl ntmps90 rfl fun B a w F Z hfr G=>Ya ?_
 refine Zb G (qx 101 r1 (qx 102 r1 qB)) Z [4,3,2] [102,101,0] (fun _=>rfl) (fun _=>rfl) fun τ a w F G=>?_
 try dsimp only [RS.sub,SF.sub,CF.sub,csub,Anc.sub,List.map,zCF,Zu,rTx,ZP,ZN,Zn,rOp] at G
 generalize τ 2=v2,τ 3=v3 at G
 refine Za (Ya (Ya (rZ G (qg 0 102 r1 r1 (qa 102 r1 r1 (qf (o_eql .t qi) r1 qz (qR rr (qv 2 102 rfl r2 r1 (qw 102 rfl r2 r1 (qk rfl (fun h=>o_eql (.w h) qi) r2 qz (qf (ZH .t .t) r2 qz qZ)))))))) Z [14,4,3,2] [102,101,0] fun G=>?_)))
 refine Zc G rfl (fun hc0=>?_) (fun hc0=>?_)
 ·have h0:(v.tx=0∧v.nth=0):=by simpa using hc0
  have hu:Zi4 g v=decide (1≤v.key∧v.key≤1048575):=by unfold Zi4;rw [Ye h0]
  refine Ya (rZ G (qg 1 102 r1 r1 (qa 102 r1 r1 (qf (ZbE .t qi) r1 qz (qR rr (qv 1 102 rfl r2 r1 (qw 102 rfl r2 r1 (qk rfl (fun h=>Zlf (.w h) qi) r2 qz (qf (ZH .t .t) r2 qz (qO rr qZ))))))))) Z [4,3,2] [102,101,0] fun G=>(Yh (Zl ?_)))
  refine Zv hfr G rfl rfl rfl (.bool (by first | (rw [hu,YbO];done) | (rw [hu];unfold idB;rw [YbO];done) | (unfold Zi4 wcnt;rw [Yb h0,Bool.and_assoc])))
 have h0:¬ (v.tx=0∧v.nth=0):=by simpa using hc0
 have hfl:((ZJ g.txs v.tx).getD zeroT).ops.length≤1000:=by cases hf:ZJ g.txs v.tx with | none=>simp [zeroT] | some t=>exact hs.2 _ (findT_mem hf).1
 refine Yf (Za (Ya (Zb G (qe 2 101 r1 r1 (qg 0 102 r1 r1 (qa 102 r1 r1 (qf (oP (ZqK g v.tx hs) func28 (Args.two (.pagg .t) .t)) r2 qz (qR rr (qf (Zi .t rfl) r1 qz (qf (Zi .t rfl) r1 qz (qf (oH [.int .i64 0,.bool false,.slice none 0 0] 103) trivial qz (qf (oA 3 103 .same (.conv .t .agg)) r2 r1 (qO rr qZ)))))))))) Z [6,5,4,3] [103,102,101,0] (fun _=>rfl) (fun _=>rfl) fun τ a w F G=>?_)))
 try dsimp only [RS.sub,SF.sub,CF.sub,csub,Anc.sub,List.map,Ze,xL,xM,Nat.reduceAdd,xD,xE,xT,xU,xC,xN,zCF,ldSF,Zu,rTx,ZP,ZN,Zn,rOp] at G
 generalize τ 5=v5 at G
 refine Za (Ya (ZB G (qR rr (qR rr (qv 2 102 rfl r2 r1 (qw 102 rfl r2 r1 (qk rfl (fun h=>ZbE (.w h) qi) r2 qz (qf (ZH .t .t) r2 qz (qR rr (qk rfl (fun h=>oL true 3 103 .is) r2 r1 (qv 1 102 rfl r2 r1 (qw 102 rfl r2 r1 (qk rfl (fun h=>oP (Zfg ((ZJ g.txs v.tx).getD zeroT) v.key ow) func29 (Args.two (.pagg (.w h)) (.w h))) r3 qz (qv 2 102 rfl r2 r1 (qw 102 rfl r2 r1 (qk rfl (fun h=>ZbE (.w h) (.w h)) r3 qz (qf (ZH .t .t) r2 qz (qO rr qZ)))))))))))))))) Z [4] [103,102,101,0] rfl rfl fun a w F G=>?_))
 try dsimp only [List.map,xD,xE,xT,xU,ldSF,Zu,rTx,ZP,ZN,Zn,rOp] at G
 refine Za (Yh (Zv hfr G rfl rfl rfl (.bool (by first | (rw [hu,YbO];done) | (rw [hu];unfold idB;rw [YbO];done) | (unfold Zi4 wcnt;rw [Yb h0,Bool.and_assoc])))))
theorem Zou {α:Type} [Inhabited α] {p:α→Bool} {l:List α} : decide (0≤Z4 p l)=l.any p:=by
 rcases ZbO p l with ⟨h1,h2⟩ | ⟨i,h1,h2,h3,h4⟩
 ·rw [h1,Yan,show decide ((0:Int) ≤ -1)=false by decide,List.any_eq_false]
  intro x hx
  obtain ⟨k,hk,e⟩:=YH hx
  have:=h2 k hk
  rw [nth_eq hk,e] at this
  simp [this]
 ·rw [h1,show decide ((0:Int)≤(i:Int))=true by simp,Yan,YaU]
  exact ⟨_,nth_mem h2,h3⟩
theorem ZrE {α:Type} {p:α→Bool} {l:List α} : (!l.any fun v=>!p v)=l.all p:=by
 induction l with
 | nil=>rfl
 | cons x l ih=>rw [YbP,List.all_cons,← ih];cases p x <;> simp
theorem Zso (l : List Zbh) (p : Zbh → Bool) (f : FuncId) (fn : Func) (cps : List PV) (hf : prog.funcs[f]? = some fn) (hb : fn.body.isSome = true) (hnn : (fn.name == "runtime.NumGoroutine") = false) (hw : ∀ x, FnP prog f (.agg (ZN x) :: cps) (.bool (p x))) : FnP prog 138 [.sl ZN l, .clos f cps] (.int .i64 (Z4 p l)) := by
 refine FnP.mk func138 rfl ntmps138 rfl fun B a w F Z hfr G=>?_
 have hll:=Sat.lenSl G (i:=0) rfl
 refine Ya (rZ G (qI qZ) Z [4,1,0] [0] fun G=>(Ya (Ya ?_)))
 refine rZ G (qR rr (qu underlying139 r1 (qJ qZ))) Z [8,7,4,1,0] [0] fun G=>Yg ?_
 refine Zm (σ:=(Nat)) [0,1,4,7] [0] (fun s=>[(8,.pv (.int .i64 (s:Int)))]) (fun s=>[]) (fun s=>s≤l.length∧(∀ k,k<s→p (Nn l k)=false)) (fun s=>l.length - s) (0) G ⟨rfl,rfl,rfl,rfl,rfl,tv⟩ ⟨rfl,tv⟩ ⟨Yx _,fun k hk=>absurd hk (Y3 k)⟩ ?_
 clear G;intro i a w F hC G
 try dsimp only at hC
 obtain ⟨F,G⟩:=G.nM [8,7,4,1,0] [0]
 try dsimp only at G
 obtain ⟨hi,hq⟩:=hC
 refine Ya (rZ G (qL r2) Z [9,8,7,4,1,0] [0] fun G=>Ya ?_)
 refine Zc G rfl (fun hc0=>?_) (fun hc0=>?_)
 ·skip
  have hil:i<l.length:=by simp at hc0;omega
  refine Yf (Za (Ya (Yg (Ya (rZ G (qR rr (qO rr qZ)) Z [8,7,5,4,1,0] [0] fun G=>Ya ?_)))))
  refine Zg G (qR rr (qR rr (qR rr (qy 3 underlying139 r2 (qf (oR true 3 .t) r1 qz (qf (Z6 (avs:=[.agg (ZN (Nn l i))]) .t (hw (Nn l i)) hf hb hnn (Args.one (.pagg .t))) r2 qz qZ)))))) Z [16,8,7,5,4,1,0] [0] rfl rfl fun a w F G=>?_
  try simp only [Yd] at G
  refine Za (Zc G rfl (fun hc1=>?_) (fun hc1=>?_))
  ·skip
   have hg:(i:Int)=Z4 p l:=(ZdV hil hc1 hq).symm
   refine Ya (rZ G (qR rr (qO rr qZ)) Z [8,7,4,1,0] [0] fun G=>(Yh (Zx (Zl (Zl (Zx (Zl ?_)))))))
   refine Zv hfr G rfl rfl rfl (.int hg)
  have hne:p (Nn l i)=false:=hc1
  refine Yf (Zj (Za (rZ G (qp r1 (qR rr qZ)) Z [8,7,4,1,0] [0] fun G=>?_)))
  replace G:=G.ent (i:=8) (s':=.pv (.int .i64 ((i+1:Nat):Int))) rfl (.int (Zd ow))
  obtain ⟨F,G⟩:=G.nM [7,4,1,0,8] [0]
  exact ⟨(i+1),F,⟨by omega,(fun k hk=>by rcases YZ (Y5 hk) with h | h;exact hq k h;rw [h];exact hne)⟩,G,by omega⟩
 have hil:i=l.length:=by simp at hc0;omega
 have hg : -1=Z4 p l:=(Zcv fun k hk=>hq k (by simp at hc0;omega)).symm
 refine Yz (Zh (Zh (Zr (Za (Ya (rZ G (qI qZ) Z [4] [0] fun G=>Yh ?_))))))
 refine Zv hfr G rfl rfl rfl (.int hg)
theorem ZrB (l : List Zbh) (p : Zbh → Bool) (f : FuncId) (fn : Func) (cps : List PV) (hf : prog.funcs[f]? = some fn) (hb : fn.body.isSome = true) (hnn : (fn.name == "runtime.NumGoroutine") = false) (hw : ∀ x, FnP prog f (.agg (ZN x) :: cps) (.bool (p x))) : FnP prog 87 [.sl ZN l, .clos f cps] (.bool (l.any p)) := by
 refine FnP.mk func87 rfl ntmps87 rfl fun B a w F Z hfr G=>Ya ?_
 refine rZ G qB Z [4,1,0] [0] fun G=>Ya ?_
 refine rZ G (qR rr (qR rr (qf (oP (Zso l p f fn cps hf hb hnn hw) func138 (Args.two .t .t)) r2 qz (qf (ZbE .t qi) r1 qz (qO rr qZ))))) Z [4] [0] fun G=>Yh ?_
 refine Zv hfr G rfl rfl rfl (.bool (by rw [Zou]))
theorem Zmq (v:Zbh) (g:Zo) (hs:ZaN g.txs):FnP prog 89 [.agg (ZN v),.ref (Zu g)] (.bool (!Zi4 g v)):=by
 refine FnP.mk func89 rfl ntmps89 rfl fun B a w F Z hfr G=>Ya ?_
 refine Zb G (qx 101 r1 qB) Z [3,2,1] [101,0] (fun _=>rfl) (fun _=>rfl) fun τ a w F G=>?_
 try dsimp only [RS.sub,SF.sub,CF.sub,csub,Anc.sub,List.map,zCF,Zu,rTx,ZP,ZN,Zn,rOp] at G
 generalize τ 2=v2 at G
 refine Za (Ya (rZ G (qf (oR true 2 .t) r1 qz (qe 3 101 r1 r1 (qf (oP (ZtT g v hs) func90 (Args.two (.pagg .t) (.pagg .t))) r2 qz (qf (o_not .t) r1 qz (qO rr qZ))))) Z [3] [101,0] fun G=>Yh ?_))
 refine Zv hfr G rfl rfl rfl .refl
theorem ZqD (g:Zo) (t:TxD) (hs:ZaN g.txs) (ht:t.ops.length≤1000):FnP prog 45 [.agg (Zu g),.agg (rTx t)] (.bool (Zc8 g t)):=by
 refine FnP.mk func45 rfl ntmps45 rfl fun B a w F Z hfr G=>Ya ?_
 refine Zb G (qx 101 r1 (qx 102 r1 qB)) Z [4,3,2] [102,101,0] (fun _=>rfl) (fun _=>rfl) fun τ a w F G=>?_
 try dsimp only [RS.sub,SF.sub,CF.sub,csub,Anc.sub,List.map,zCF,Zu,rTx,ZP,ZN,Zn,rOp] at G
 generalize τ 2=v2,τ 3=v3 at G
 refine Za (Ya (Zbp 2 G kr (cG rfl (oL true 3 102 .is) r1 r1 (cG rfl (oP (Zn4 t ow) func88 (Args.one (.pagg .t))) r1 trivial Zak.nil)) kr (by rw [Z];kernel_rfl) fun a w F G=>?_))
 obtain ⟨F,G⟩:=G.nM [6,4,2] [102,101,0]
 try dsimp only [List.map,xD,xE,xT,xU,ldSF,Zu,rTx,ZP,ZN,Zn,rOp] at G
 obtain ⟨F,G⟩:=G.giveRef 101 2 rfl rfl rfl
 obtain ⟨F,G⟩:=G.nM [6,4,2] [102,0]
 try dsimp only [Go.Gm.unCF] at G
 refine Zb5 G kr (cG rfl (Zbo (Args.one .t)) r1 trivial (cG rfl (oP (ZrB (Zek t) (fun v=>!Zi4 g v) 89 f89 [.ref (Zu g)] func89 rfl kr (fun v=>Zmq v g hs)) func87 (Args.two .t .t)) r2 trivial (cG rfl (o_not .t) r1 trivial (cG rfl (oN .t) r1 trivial Zak.nil)))) kr (by rw [Z];kernel_rfl) fun a w F G=>?_
 obtain ⟨F,G⟩:=G.nM [4] [102,0]
 try dsimp only [Zu,rTx,ZP,ZN,Zn,rOp] at G
 refine Za (Yh (Zv hfr G rfl rfl rfl (.bool (by rw [ZrE];rfl))))
theorem Znv (g:Zo) (hs:ZaN g.txs):FnG prog 46 1 [.agg (Zu g)] [.star []] (PV.one) (fun v=>[HP.ex fun s:List (GE Int (List Int))×Nat=>HP.and (WrL s.1 g.txs) (Zbv (fun l:List Int=>PV.sl Zn l) (fun _=>True) (fun n:Int=>Value.int .i64 n) s.1 s.2 v)]):=by
 refine FnG.mk func46 rfl ntmps46 rfl kr fun B F0 a w F Z hG G=>?_
 have hsl:=hs.1
 obtain ⟨F,G⟩:=G.nM [0] [0]
 refine Ya (Zb G (qx 101 r1 (qC qZ)) Z [2,1] [101,0] (fun _=>rfl) (fun _=>rfl) fun τ a w F G=>?_)
 try dsimp only [RS.sub,SF.sub,CF.sub,csub,Anc.sub,List.map,zCF,Zu,rTx,ZP,ZN,Zn,rOp] at G
 generalize τ 1=v1 at G
 refine Za (Ya (Zb G (qf (ZaO (ek:=(fun p:Value×List Int=>PV.is p.1)) (ok:=(fun _=>True)) (kv:=(fun n:Int=>Value.int .i64 n)) 102) trivial qz (qO rr qZ)) Z [3,2,1] [102,101,0] (fun _=>rfl) (fun _=>rfl) fun τ a w F G=>?_))
 try dsimp only [RS.sub,SF.sub,CF.sub,csub,Anc.sub,List.map,Ze,xL,xM,Nat.reduceAdd,xD,xE,xT,xU,xC,xN,zCF,Zu,rTx,ZP,ZN,Zn,rOp] at G
 generalize τ 8=v8 at G
 replace G:=G.fresh 60 rfl
 replace G:=G.turn 60 rfl (r':=Zqw 3 1 Zn ([]:List (GE Int (Value×List Int)))) (fun _ _ _ _ h=>h)
 obtain ⟨F,G⟩:=G.nM [3,2,1] [102,101,60,0]
 refine Za (Ya (Ya (rZ G (qg 0 101 r1 r1 (qa 101 r1 r1 (qu Yb3 r1 (qJ qZ)))) Z [12,11,10,3,2] [102,101,60,0] fun G=>Yg ?_)))
 refine Zm (σ:=(Nat)×(List (GE Int (Value×List Int)))×(Nat)) [2,3,10,11] [0,101] (fun s=>[(12,.pv (.int .i64 (s.1:Int)))]) (fun s=>[(102,.ob (.val v8) (Zbv (fun p:Value×List Int=>PV.is p.1) (fun _=>True) (fun n:Int=>Value.int .i64 n) s.2.1 s.2.2)),(60,Zqw 3 1 Zn s.2.1)]) (fun s=>s.1≤g.txs.length∧(WrV s.2.1 (g.txs.take s.1) 0 [])) (fun s=>g.txs.length - s.1) ((0),([]),(0)) G ⟨rfl,rfl,rfl,rfl,rfl,tv⟩ ⟨rfl,rfl,rfl,rfl,tv⟩ ⟨Yx _,ZsE⟩ ?_
 clear G;intro s a w F hC G
 obtain ⟨i,es,ck⟩:=s
 try dsimp only at hC
 obtain ⟨F,G⟩:=G.nM [12,11,10,3,2] [102,101,60,0]
 try dsimp only at G
 obtain ⟨hi,hq⟩:=hC
 have hxl:=fun hil:i<g.txs.length=>hs.at hil
 refine Ya (rZ G (qL r2) Z [13,12,11,10,3,2] [102,101,60,0] fun G=>Ya ?_)
 refine Zc G rfl (fun hc0=>?_) (fun hc0=>?_)
 ·have hil:i<g.txs.length:=by simp at hc0;omega
  have hio:=hil
  have hw0:=hq
  have htl:=hxl hil
  have hkt:=ZeU (Nn g.txs i)
  have hsl:=hs.1
  refine Yf (Za (Ya (Yg (Ya (Zb G (qy 3 Yb3 r2 (qf (oR true 3 .t) r1 qz (qf (oH [.int .i64 0,.bool false,.slice none 0 0] 103) trivial qz (qS 3 103 r2 r1 qZ)))) Z [12,11,10,5,3,2] [103,102,101,60,0] (fun _=>rfl) (fun _=>rfl) fun τ a w F G=>?_)))))
  try dsimp only [RS.sub,SF.sub,CF.sub,csub,Anc.sub,List.map,Ze,xL,xM,Nat.reduceAdd,xD,xE,xT,xU,xC,xN,zCF,ldSF,Zu,rTx,ZP,ZN,Zn,rOp] at G
  generalize τ 5=v5 at G
  try simp only [Yd] at G
  refine Za (Ya (Ya (rZ G (qg 1 103 r1 r1 (qa 103 r1 r1 (qf (o_not .t) r1 qz qZ))) Z [18,12,11,10,5,3,2] [103,102,101,60,0] fun G=>?_)))
  refine Zc G rfl (fun hc1=>?_) (fun hc1=>?_)
  ·have hdn:(Nn g.txs i).done=false:=by simpa using hc1
   obtain ⟨es2,he2⟩:∃ z,z=es:=⟨_,rfl⟩
   obtain ⟨ck2,hc2⟩:∃ z,z=ck:=⟨_,rfl⟩
   have hR2:WrV es2 (g.txs.take (i+1)) 0 []:=by rw [he2];exact Zsq hw0 hio hdn
   rw [← he2,← hc2] at G
   refine Yz (Zh (Zr (Za (rZ G (qp r1 (qR rr qZ)) Z [12,11,10,3,2] [103,102,101,60,0] fun G=>?_))))
   replace G:=G.ent (i:=12) (s':=.pv (.int .i64 ((i+1:Nat):Int))) rfl (.int (Zd ow))
   obtain ⟨F,G⟩:=G.nM [11,10,3,2,12] [101,0,60,102]
   exact ⟨((i+1),(es2),(ck2)),F,⟨by omega,hR2⟩,G,by omega⟩
  have hdn:(Nn g.txs i).done=true:=by simpa using hc1
  refine Yf (Za (Ya (Zg G (qe 3 103 r1 r1 (qf (oP (Zri (Nn g.txs i) (by have:=hxl hio;omega)) func91 (Args.one (.pagg .t))) r1 qz (qu Yb0 r1 (qJ qZ)))) Z [22,21,20,12,11,10,5,3,2] [103,102,101,60,0] rfl rfl fun a w F G=>?_)))
  rw [show Zbu (((Nn g.txs i).ops.filter fun o=>!o.read).map OpD.key)=ZaW (Nn g.txs i) from rfl] at G
  refine Za (Yg (Zm (σ:=(Nat)×(List (GE Int (Value×List Int)))×(Nat)) [2,3,5,10,11,12,20,21] [0,101,103] (fun s=>[(22,.pv (.int .i64 (s.1:Int)))]) (fun s=>[(102,.ob (.val v8) (Zbv (fun p:Value×List Int=>PV.is p.1) (fun _=>True) (fun n:Int=>Value.int .i64 n) s.2.1 s.2.2)),(60,Zqw 3 1 Zn s.2.1)]) (fun s=>s.1≤(ZaW (Nn g.txs i)).length∧(WrV s.2.1 (g.txs.take i) (Nn g.txs i).id ((ZaW (Nn g.txs i)).take s.1))) (fun s=>(ZaW (Nn g.txs i)).length - s.1) ((0),(es),(ck)) G ⟨rfl,rfl,rfl,rfl,rfl,rfl,rfl,rfl,rfl,tv⟩ ⟨rfl,rfl,rfl,rfl,rfl,tv⟩ ⟨Yx _,(by simpa using Zo2 hw0)⟩ ?_))
  clear G;intro s a w F hC G
  obtain ⟨j,es,ck⟩:=s
  try dsimp only at hC
  obtain ⟨F,G⟩:=G.nM [22,21,20,12,11,10,5,3,2] [103,102,101,60,0]
  try dsimp only at G
  obtain ⟨hi,hq⟩:=hC
  refine Ya (rZ G (qL r2) Z [23,22,21,20,12,11,10,5,3,2] [103,102,101,60,0] fun G=>Ya ?_)
  refine Zc G rfl (fun hc2=>?_) (fun hc2=>?_)
  ·have hil:j<(ZaW (Nn g.txs i)).length:=by simp at hc2;omega
   have hwo:=Zq9 hq (Zfe _) hil
   have hwn:=Zen (g.txs.take i) (Nn (ZaW (Nn g.txs i)) j)
   rw [Yj] at hwn
   rw [← hwo] at hwn
   refine Yf (Za (Ya (Yg (Ya (Zg G (qy 1 Yb0 r2 (qf (oR false 1 .t) r1 qz (qO rr qZ))) Z [22,21,20,12,11,10,7,5,3,2] [103,102,101,60,0] rfl rfl fun a w F G=>?_)))))
   try simp only [Yd] at G
   refine Za (Zbp 5 G kr (cG rfl (oM .t) r1 trivial (cG rfl (oM .t) r1 trivial (cG rfl (oM .t) r1 trivial (cG rfl (oM .t) r1 trivial (cG rfl (Zah (ek:=(fun p:Value×List Int=>PV.is p.1)) (z0:=ZgW) 102 underlying83 (Zcj Yb9) kr (fun _ _=>⟨rfl,rfl⟩) .is (ZI.int .t rfl)) r2 r1 Zak.nil))))) kr (by rw [Z];kernel_rfl) fun a w F G=>?_)
   obtain ⟨F,G⟩:=G.nM [30,27,26,22,21,20,12,11,10,5,3,2] [103,102,101,60,0]
   try dsimp only [Zu,rTx,ZP,ZN,Zn,rOp] at G
   obtain ⟨F,G⟩:=G.takeKey (T:=3) (sz:=1) (R:=Zn) 60 61 (Nn (ZaW (Nn g.txs i)) j) rfl rfl
   obtain ⟨F,G⟩:=G.nM [30,27,26,22,21,20,12,11,10,5,3,2] [103,102,101,61,60,0]
   refine ZhT 4 G kr (cG rfl (oF 0 103 .is) r1 r1 (cG rfl (oL false 1 103 .adr) r1 r1 (cG rfl (o_buildSliceE (sz:=1) (zs:=[.int .i64 0]) (r:=[(0,.tmp 32)]) (l:=[_]) Yb0 kr kr kr kr rfl rfl (.one rfl .t one_int kr .nil) rfl) r1 trivial (cG rfl (o_append (sz:=1) (bs:=8) 61 (.mk' Yb0 kr kr) (by intro x;rfl) .is (.arr (l':=[_]) .t) (by simp only [Yc,Yk,Yv];omega) (by decide)) ⟨rfl,rfl,tv⟩ ⟨rfl,tv⟩ Zak.nil)))) kr (by rw [Z];kernel_rfl) fun a w F G=>?_
   replace G:=G.sub
   obtain ⟨F,G⟩:=G.nM [34,27,26,22,21,20,12,11,10,5,3,2] [103,102,101,61,60,0]
   try dsimp only [RS.sub,SF.sub,CF.sub,csub,Anc.sub,List.map,Ze,xL,xM,Nat.reduceAdd,xD,xE,xT,xU,xC,xN,zCF,ldSF,Zu,rTx,ZP,ZN,Zn,rOp] at G
   generalize Act.tau a 34=v34 at G
   refine Zb5 G kr (cG rfl (o_mapUpdateG (ek:=(fun p:Value×List Int=>PV.is p.1)) (v:=((v34,((gGet (Nn (ZaW (Nn g.txs i)) j) es).getD ZgW).2 ++ [(Nn g.txs i).id]):Value×List Int)) 102 underlying83 (Zcj Yb9) .is (ZI.int .t rfl) .t) r3 r1 Zak.nil) kr (by rw [Z];kernel_rfl) fun a w F G=>?_
   obtain ⟨F,G⟩:=G.nM [22,21,20,12,11,10,5,3,2] [103,102,101,61,60,0]
   try dsimp only [Zu,rTx,ZP,ZN,Zn,rOp] at G
   refine Zj (Za (rZ G (qp r1 (qR rr qZ)) Z [22,21,20,12,11,10,5,3,2] [103,102,101,61,60,0] fun G=>?_))
   obtain ⟨F,G⟩:=G.putKey (T:=3) (sz:=1) (R:=Zn) 60 61 (Nn (ZaW (Nn g.txs i)) j) ck rfl rfl rfl
   replace G:=G.ent (i:=22) (s':=.pv (.int .i64 ((j+1:Nat):Int))) rfl (.int (Zd ow))
   obtain ⟨F,G⟩:=G.nM [21,20,12,11,10,5,3,2,22] [103,101,0,60,102]
   exact ⟨((j+1),((gPut (Nn (ZaW (Nn g.txs i)) j) (v34,((gGet (Nn (ZaW (Nn g.txs i)) j) es).getD ZgW).2 ++ [(Nn g.txs i).id]) (es,ck)).1),((gPut (Nn (ZaW (Nn g.txs i)) j) (v34,((gGet (Nn (ZaW (Nn g.txs i)) j) es).getD ZgW).2 ++ [(Nn g.txs i).id]) (es,ck)).2)),F,⟨by omega,ZrH hq (Zfe _) hil⟩,G,by omega⟩
  have hil:j=(ZaW (Nn g.txs i)).length:=by simp at hc2;omega
  obtain ⟨es2,he2⟩:∃ z,z=es:=⟨_,rfl⟩
  obtain ⟨ck2,hc2⟩:∃ z,z=ck:=⟨_,rfl⟩
  rw [hil,YD] at hq
  have hR2:WrV es2 (g.txs.take (i+1)) 0 []:=by rw [he2];exact ZrY hq hio hdn
  rw [← he2,← hc2] at G
  refine Yz (Zh (Zh (Zr (Zj (Za (rZ G (qp r1 (qR rr qZ)) Z [12,11,10,3,2] [103,102,101,60,0] fun G=>?_))))))
  replace G:=G.ent (i:=12) (s':=.pv (.int .i64 ((i+1:Nat):Int))) rfl (.int (Zd ow))
  obtain ⟨F,G⟩:=G.nM [11,10,3,2,12] [101,0,60,102]
  exact ⟨((i+1),(es2),(ck2)),F,⟨by omega,hR2⟩,G,by omega⟩
 have hil:i=g.txs.length:=by simp at hc0;omega
 have hwl:=Zpv hq
 rw [hil,YD] at hwl
 refine Yz (Zh (Zh (Zr (Za (Ya (rZ G (qR rr (qO rr qZ)) Z [2] [102,101,60,0] fun G=>Yh ?_))))))
 obtain ⟨F,G⟩:=G.giveMap 102 60 rfl rfl rfl
 obtain ⟨F,G⟩:=G.rename 102 1 rfl rfl
 have G:=G.turn 1 rfl (r':=RS.hp (HP.ex fun s:List (GE Int (List Int))×Nat=>HP.and (WrL s.1 g.txs) (Zbv (fun l:List Int=>PV.sl Zn l) (fun _=>True) (fun n:Int=>Value.int .i64 n) s.1 s.2 v8))) (fun _ _ _ _ h=>⟨(Zeh es,ck),hwl,h⟩)
 refine Zab (h':=fun v=>HP.ex fun s:List (GE Int (List Int))×Nat=>HP.and (WrL s.1 g.txs) (Zbv (fun l:List Int=>PV.sl Zn l) (fun _=>True) (fun n:Int=>Value.int .i64 n) s.1 s.2 v)) hG G rfl (.tmp rfl .nil) (.one .one) rfl
theorem ZsG (l:List Int) (tx:Int):FnP prog 15 [.sl Zn l,.int .i64 tx] (.tup [.int .i64 (ZdK l tx).1,.bool (ZdK l tx).2]):=by
 refine FnP.mk func15 rfl ntmps15 rfl fun B a w F Z hfr G=>?_
 have hll:=Sat.lenSl G (i:=0) rfl
 have hxr:=Zgr tx l
 have hxw:IntKind.wrap .i64 (Zc7 tx l+1)=Zc7 tx l+1:=Zz ow
 have hxv:IntKind.wrap .i64 (Zc7 tx l - 1)=Zc7 tx l - 1:=Zz ow
 refine Ya (rZ G (qI qB) Z [5,4,1,0] [0] fun G=>Ya ?_)
 refine rZ G (qI qZ) Z [6,5,4,1,0] [0] fun G=>(Ya (Ya ?_))
 refine rZ G (qR rr (qf (o_neq .t qi) r1 qz qZ)) Z [8,6,5,4,1,0] [0] fun G=>?_
 refine Zc G rfl (fun hc0=>?_) (fun hc0=>?_)
 ·have ht:tx≠0:=by simpa using hc0
  refine Ya (rZ G (qR rr (qR rr (qf (oP (Zsf l tx) func39 (Args.two .t .t)) r2 qz (qp r1 (qO rr qZ))))) Z [6,5,4,0] [0] fun G=>Ya ?_)
  refine rZ G (qR rr (qf (o_eql .t qi) r1 qz qZ)) Z [14,6,5,4,0] [0] fun G=>?_
  refine Zc G rfl (fun hc1=>?_) (fun hc1=>?_)
  ·have hix:Zc7 tx l<0:=by simp [hxw] at hc1;omega
   have hg:ZdK l tx=(0,false):=by unfold ZdK;rw [Ye ⟨ht,hix⟩]
   refine Ya (rZ G (qI qB) Z [6,5,4,0] [0] fun G=>(Yh (Zl ?_)))
   refine Zae hfr G rfl (.tmp rfl (.tmp rfl .nil)) (.two (.int (by rw [hg];first | done | rfl | (rw [hxw];done) | (rw [hxv];done) | (rw [show IntKind.wrap .i64 (-1+1)=0 by decide];done))) (.bool (by rw [hg])))
  have hix:0≤Zc7 tx l:=by simp [hxw] at hc1;omega
  refine Yf (Za (Ya (Ya (rZ G (qR rr (qR rr (qu Yb0 r1 (qf (o_eql .t .t) r2 qz qZ)))) Z [18,6,5,4,0] [0] fun G=>?_))))
  refine Zc G rfl (fun hc2=>?_) (fun hc2=>?_)
  ·have hlx:=hc2
   first | rw [hxw] at hlx | skip
   have hg:ZdK l tx=(0,false):=by unfold ZdK;first | (rw [Yb ow,Yb ht,Ye (by simp at hlx;omega)];done) | (rw [Yb ow,Ye ht,Ye (by simp at hlx;omega)])
   refine Ya (rZ G (qI qB) Z [6,5,4,0] [0] fun G=>(Yh (Zl ?_)))
   refine Zae hfr G rfl (.tmp rfl (.tmp rfl .nil)) (.two (.int (by rw [hg];first | done | rfl | (rw [hxw];done) | (rw [hxv];done) | (rw [show IntKind.wrap .i64 (-1+1)=0 by decide];done))) (.bool (by rw [hg])))
  have hlx:=hc2
  first | rw [hxw] at hlx | skip
  have hln:=Yaf (l:=l)
  have hlx2:=hlx
  simp at hlx
  have hg:ZdK l tx=(Nn l (if tx=0 then 0 else Zc7 tx l+1).toNat,true):=by unfold ZdK;first | (rw [Yb ow,Yb ht,Yb ht,Yb ow];done) | (rw [Yb ow,Ye ht,Ye ht,Yb (by first | omega | (intro h0;have:l.length=0:=by omega;simp_all))];rfl)
  first | rw [Yb ht] at hg | rw [Ye ht] at hg
  try (have hl1:0<l.length:=by rcases Nat.eq_zero_or_pos l.length with h0 | h0;simp_all;exact h0)
  refine Yf (Za (Ya (Zg G (qR rr (qR rr (qf (o_indexAddr_sl (sz:=1) (.mk Yb0 kr) (by intro x;rfl) .t .t (by first | omega | (rw [hxw];omega)) (by first | omega | (rw [hxw];omega))) r2 qz (qf (oR false 1 .t) r1 qz (qO rr qB))))) Z [5,4] [0] rfl rfl fun a w F G=>?_)))
  try simp only [Yd] at G
  refine Za (Yh (Zae hfr G rfl (.tmp rfl (.tmp rfl .nil)) (.two (.int (by rw [hg];first | done | rfl | (rw [hxw];done) | (rw [hxv];done) | (rw [show IntKind.wrap .i64 (-1+1)=0 by decide];done))) (.bool (by rw [hg])))))
 have ht:tx=0:=by simpa using hc0
 refine Yf (Za (Ya (Ya (rZ G (qR rr (qR rr (qu Yb0 r1 (qf (o_eql .t .t) r2 qz qZ)))) Z [18,6,5,4,0] [0] fun G=>?_))))
 refine Zc G rfl (fun hc3=>?_) (fun hc3=>?_)
 ·have hlx:=hc3
  first | rw [hxw] at hlx | skip
  have hg:ZdK l tx=(0,false):=by unfold ZdK;first | (rw [Yb ow,Yb ht,Ye (by simp at hlx;omega)];done) | (rw [Yb ow,Ye ht,Ye (by simp at hlx;omega)])
  refine Ya (rZ G (qI qB) Z [6,5,4,0] [0] fun G=>(Yh (Zl ?_)))
  refine Zae hfr G rfl (.tmp rfl (.tmp rfl .nil)) (.two (.int (by rw [hg];first | done | rfl | (rw [hxw];done) | (rw [hxv];done) | (rw [show IntKind.wrap .i64 (-1+1)=0 by decide];done))) (.bool (by rw [hg])))
 have hlx:=hc3
 first | rw [hxw] at hlx | skip
 have hln:=Yaf (l:=l)
 have hlx2:=hlx
 simp at hlx
 have hg:ZdK l tx=(Nn l (if tx=0 then 0 else Zc7 tx l+1).toNat,true):=by unfold ZdK;first | (rw [Yb ow,Yb ht,Yb ht,Yb ow];done) | (rw [Yb ow,Ye ht,Ye ht,Yb (by first | omega | (intro h0;have:l.length=0:=by omega;simp_all))];rfl)
 first | rw [Yb ht] at hg | rw [Ye ht] at hg
 try (have hl1:0<l.length:=by rcases Nat.eq_zero_or_pos l.length with h0 | h0;simp_all;exact h0)
 refine Yf (Za (Ya (Zg G (qR rr (qR rr (qf (o_indexAddr_sl (sz:=1) (.mk Yb0 kr) (by intro x;rfl) .t .t (by first | omega | (rw [hxw];omega)) (by first | omega | (rw [hxw];omega))) r2 qz (qf (oR false 1 .t) r1 qz (qO rr qB))))) Z [5,4] [0] rfl rfl fun a w F G=>?_)))
 try simp only [Yd] at G
 refine Za (Yh (Zae hfr G rfl (.tmp rfl (.tmp rfl .nil)) (.two (.int (by rw [hg];first | done | rfl | (rw [hxw];done) | (rw [hxv];done) | (rw [show IntKind.wrap .i64 (-1+1)=0 by decide];done))) (.bool (by rw [hg])))))
end Go.Proofs.YtlkpllemoepamaaGreat
