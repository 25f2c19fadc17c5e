/- Texts put together. No condition beyond those that each theorem says. -/
import Derived.Test.YtlkpllemoepamaaGreatJ1
import Derived.Test.YtlkpllemoepamaaGreatLibG
namespace Go.Proofs.YtlkpllemoepamaaGreat
open Go Go.Gm Tryz
set_option linter.unusedVariables false
set_option linter.unusedSimpArgs false
set_option maxHeartbeats 4000000
set_option maxRecDepth 8000
def wcnt (l:List OpD) (k:Int):Nat:=(l.filter fun o=>!o.read && decide (o.key=k)).length
theorem Zi3 {l:List OpD} {i:Nat} (h:i<l.length) (k:Int):wcnt (l.take (i+1)) k=wcnt (l.take i) k+if (Nn l i).read=false∧(Nn l i).key=k then 1 else 0:=by
 unfold wcnt
 rw [Zp h,Yaa,Yd]
 congr 1
 by_cases h1:(Nn l i).read=false∧(Nn l i).key=k
 ·rw [Yf h1];simp [h1.1,h1.2]
 ·rw [Yc h1]
  have:(!(Nn l i).read && decide ((Nn l i).key=k))=false:=by
   cases hr:(Nn l i).read with
   | true=>rfl
   | false=>simp;exact fun e=>h1 ⟨hr,e⟩
  simp [this]
theorem ZtC (l:List OpD) (i:Nat) (k:Int):wcnt (l.take i) k≤i:=Y1 (Yac _ _) (by rw [Yi];omega)
def Zbe (id:Int):List OpD→List OpD→Int
 | _,[]=>0
 | s,o :: r=>if ZcL o=false then 1 else if o.read=true∧o.tx=id∧(wcnt s o.key:Int)<o.nth then 6 else Zbe id (s ++ [o]) r
def ZaI (t:TxD):Int:=if ¬ (1≤t.id∧t.id≤1048575) then 1 else if 4095<t.ops.length then 9 else Zbe t.id [] t.ops
theorem Zdn {id:Int} {l:List OpD} {i:Nat} (h:i<l.length):Zbe id (l.take i) (l.drop i)=if ZcL (Nn l i)=false then 1 else if (Nn l i).read=true∧(Nn l i).tx=id∧(wcnt (l.take i) (Nn l i).key:Int)<(Nn l i).nth then 6 else Zbe id (l.take (i+1)) (l.drop (i+1)):=by
 rw [Zr8 h,Zbe,Zp h]
theorem Zkx {id:Int} {l:List OpD} {i:Nat} (h:i=l.length):Zbe id (l.take i) (l.drop i)=0:=by rw [h,List.drop_length];rfl
def Zds (id:Int) (o:OpD):Bool:=(o.read && !decide (o.tx=0)) && !decide (o.tx=id)
def ZaY (id:Int) (out:List Zb0) (o:OpD):List Zb0:=if Zds id o=true∧ofO o ∉ out then out ++ [ofO o] else out
def Zdy (id:Int) (l:List OpD):List Zb0:=l.foldl (ZaY id) []
def Zf1 (t:TxD):List Zb0:=Zdy t.id t.ops
theorem ZkN {id:Int} {l:List OpD} {i:Nat} (h:i<l.length):Zdy id (l.take (i+1))=ZaY id (Zdy id (l.take i)) (Nn l i):=by
 unfold Zdy
 rw [Zp h,Yat]
 rfl
theorem ZiV (id:Int) (out:List Zb0) (o:OpD):(ZaY id out o).length≤out.length+1:=by
 unfold ZaY
 split <;> simp
theorem ZmP (id:Int) (l:List OpD) (i:Nat):(Zdy id (l.take i)).length≤i:=by
 have key:∀ (l:List OpD) (out:List Zb0),(l.foldl (ZaY id) out).length≤out.length+l.length:=by
  intro l
  induction l with
  | nil=>intro out;simp
  | cons x l ih=>
   intro out
   have h1:=ih (ZaY id out x)
   have h2:=ZiV id out x
   rw [Yan,Yl];omega
 have:=key (l.take i) []
 rw [Yi] at this
 unfold Zdy
 simp at this ⊢
 omega
structure Zbh where
 key:Int
 nth:Int
 deriving DecidableEq,Inhabited
def Zbp (p:Zbh):List Int:=[p.key,p.nth]
def Zdx (v:Zb0):List Int:=[v.tx,v.key,v.nth]
def ZcE (es:List (GE Zbh Int)) (s:List OpD):Prop:=∀ k n,0≤n→(gGet (⟨k,n⟩:Zbh) es).getD 0=if n=0 then (wcnt s k:Int) else if n≤wcnt s k then 1 else 0
theorem Zo5:ZcE [] []:=fun k n h=>by
 show (0:Int)=_
 have:wcnt [] k=0:=rfl
 rw [this]
 split
 ·rfl
 ·rw [Yc (by simp;omega)]
theorem ZnH {es:List (GE Zbh Int)} {l:List OpD} {i:Nat} (h:ZcE es (l.take i)) (hi:i<l.length) (hr:(Nn l i).read=true):ZcE es (l.take (i+1)):=fun k n hn=>by
 rw [h k n hn,Zi3 hi,Yc (c:=(Nn l i).read=false∧(Nn l i).key=k) (by simp [hr]),Ybr]
theorem ZpW {es es2:List (GE Zbh Int)} {l:List OpD} {i:Nat} {c:Int} (h:ZcE es (l.take i)) (hi:i<l.length) (hr:(Nn l i).read=false) (hc:c=(wcnt (l.take i) (Nn l i).key:Int)+1)
  (he:∀ p,(gGet p es2).getD 0=if p = ⟨(Nn l i).key,c⟩ then 1 else if p = ⟨(Nn l i).key,0⟩ then c else (gGet p es).getD 0):ZcE es2 (l.take (i+1)):=fun k n hn=>by
 have hk:=h k n hn
 rw [he,hk,Zi3 hi]
 by_cases e:(Nn l i).key=k
 ·rw [Yf (c:=(Nn l i).read=false∧_) ⟨hr,e⟩]
  rw [e] at hc
  rw [e]
  by_cases e2:n=c
  ·subst e2
   rw [Yf rfl,Yc ow,Yf ow]
  ·rw [Yc (by simp [e2])]
   by_cases e3:n=0
   ·subst e3
    rw [Yf rfl,Yf rfl,hc];simp
   ·rw [Yc (by simp [e3]),Yc e3,Yc e3]
    by_cases e4:n≤(wcnt (l.take i) k:Int)
    ·rw [Yf e4,Yf ow]
    ·rw [Yc e4,Yc ow]
 ·rw [Yc (c:=(Nn l i).read=false∧_) (by simp [e]),Ybr,Yc (by simp;exact fun h=>absurd h.symm e),Yc (by simp;exact fun h=>absurd h.symm e)]
def ZdZ (es:List (GE Zb0 Int)) (i:Nat) (out:List Zb0):Prop:=∀ v,0≤(gGet v es).getD 0∧(gGet v es).getD 0≤i∧(0<(gGet v es).getD 0 ↔ v ∈ out)
theorem Zrh:ZdZ [] 0 []:=fun v=>⟨Yao _,Yao _,by show (0:Int)<0 ↔ _;simp⟩
theorem ZrS {es:List (GE Zb0 Int)} {i:Nat} {out:List Zb0} (h:ZdZ es i out):ZdZ es (i+1) out:=fun v=>⟨(h v).1,by have:=(h v).2.1;omega,(h v).2.2⟩
theorem Zse {es es2:List (GE Zb0 Int)} {i:Nat} {out:List Zb0} {v:Zb0} (h:ZdZ es i out) (he:∀ u,(gGet u es2).getD 0=if u=v then (gGet v es).getD 0+1 else (gGet u es).getD 0):ZdZ es2 (i+1) (if v ∈ out then out else out ++ [v]):=fun u=>by
 have h1:=h u
 have h2:=h v
 rw [he u]
 by_cases e:u=v
 ·subst e
  rw [Yf rfl]
  refine ⟨by omega,by omega,?_⟩
  constructor
  ·intro _;split <;> simp_all
  ·intro _;omega
 ·rw [Yc e]
  refine ⟨by omega,by omega,?_⟩
  rw [h1.2.2]
  split
  ·rfl
  ·simp [e]
theorem Zhn {κ:Type} [DecidableEq κ] {k p:κ} {x:Int} (s:List (GE κ Int)×Nat):(gGet p (gSet k x (gEns 0 k s).1)).getD 0=if p=k then x else (gGet p s.1).getD 0:=by
 rw [Zdi];split <;> rfl
theorem Zrs {κ:Type} [DecidableEq κ] {k p:κ} {x:Int} (s:List (GE κ Int)×Nat):(gGet p (gPut k x s).1).getD 0=if p=k then x else (gGet p s.1).getD 0:=by
 rw [Zdo];split <;> rfl
theorem Zf5:ZnD prog 137 (fun k=>∀ x ∈ Zbp k,inR .i64 x) (kvS Zbp):=ZdE (n:=2) (fun _=>rfl) (fun a b h=>by cases a;cases b;simpa [Zbp] using h) kr
theorem Zpl:ZnD prog 33 (fun k=>∀ x ∈ Zdx k,inR .i64 x) (kvS Zdx):=ZdE (n:=3) (fun _=>rfl) (fun a b h=>by cases a;cases b;simpa [Zdx] using h) kr
theorem ZiL {es:List (GE Zbh Int)} {s:List OpD} {o:OpD} {id:Int} (h:ZcE es s) (hk:ZcL o=true) (hr:o.read=true) (hid:1≤id):(o.tx=id∧(gGet (⟨o.key,o.nth⟩:Zbh) es).getD 0=0) ↔ (o.read=true∧o.tx=id∧(wcnt s o.key:Int)<o.nth):=by
 have hb:=Zpm hk
 have h1:=h o.key o.nth ow
 constructor
 ·rintro ⟨e1,e2⟩
  refine ⟨hr,e1,?_⟩
  have hn:1≤o.nth:=by
   rw [ZgP hr] at hk
   unfold ofO at hk
   rw [Yf hr] at hk
   unfold ZcK at hk
   rw [Yc (show ¬ o.tx=0 by omega)] at hk
   simp at hk
   omega
  rw [e2,Yc ow] at h1
  split at h1
  ·cases h1
  ·omega
 ·rintro ⟨_,e1,e2⟩
  refine ⟨e1,?_⟩
  rw [h1,Yc ow,Yc ow]
theorem ZiU (t:TxD):FnP prog 44 [.agg (rTx t)] (.int .i64 (ZaI t)):=by
 refine FnP.mk func44 rfl ntmps44 rfl fun B a w F V hfr G=>Ya ?_
 refine Zb G (qx 101 r1 (qI qZ)) V [2,1] [101,0] (fun _=>rfl) (fun _=>rfl) fun τ a w F G=>?_
 try dsimp only [RS.sub,SF.sub,CF.sub,csub,Anc.sub,List.map,zCF,Zn,rOp,rTx] at G
 generalize τ 1=v1 at G
 refine Za (Ya (Yg (Ya (rZ G (qg 0 101 r1 r1 (qa 101 r1 r1 (qf (ZaA .t qi) r1 qz (qR rr (qv 0 101 rfl r2 r1 (qw 101 rfl r2 r1 (qk rfl (fun h=>ZaP (.w h) qi) r2 qz (qf (Zal .t .t) r2 qz (qO rr qZ))))))))) V [7,2,1] [101,0] fun G=>?_))))
 refine Zc G rfl (fun hc0=>?_) (fun hc0=>?_)
 ·have hg:1=ZaI t:=by unfold ZaI;rw [Yf (by simp at hc0;omega)]
  refine Ya (rZ G (qI qZ) V [2,1] [101,0] fun G=>(Yh (ZA (Zk ?_))))
  refine Zs hfr G rfl rfl rfl (.int hg)
 have hid:1≤t.id∧t.id≤1048575:=by simp at hc0;omega
 refine Ya (rZ G (qg 2 101 r1 r1 (qa 101 r1 r1 (qu Yci r1 (qf (ZaP .t qi) r1 qz (qO rr qZ))))) V [16,2,1] [101,0] fun G=>?_)
 refine Zc G rfl (fun hc1=>?_) (fun hc1=>?_)
 ·have hg:9=ZaI t:=by unfold ZaI;rw [Yc ow,Yf (by simp at hc1;omega)]
  refine Ya (rZ G (qI qZ) V [2,1] [101,0] fun G=>(Yh (ZA (Zk ?_))))
  refine Zs hfr G rfl rfl rfl (.int hg)
 have hlen:t.ops.length≤4095:=by simp at hc1;omega
 have hT:ZaI t=Zbe t.id [] t.ops:=by unfold ZaI;rw [Yc ow,Yc ow]
 refine Ye (Zi (Za (Ya (Zb G (qf (Za0 (ek:=(fun n:Int=>PV.int .i64 n)) (ok:=(fun k=>∀ x ∈ Zbp k,inR .i64 x)) (kv:=(kvS Zbp)) 102) trivial qz (qO rr qZ)) V [3,2,1] [102,101,0] (fun _=>rfl) (fun _=>rfl) fun τ a w F G=>?_))))
 try dsimp only [RS.sub,SF.sub,CF.sub,csub,Anc.sub,List.map,Zf,xL,xM,Nat.reduceAdd,xD,xE,xT,xU,xC,xN,zCF,Zn,rOp,rTx] at G
 generalize τ 21=v21 at G
 refine Za (Ya (Ya (rZ G (qg 2 101 r1 r1 (qa 101 r1 r1 (qu Yci r1 (qJ qZ)))) V [25,24,23,3,2,1] [102,101,0] fun G=>Yg ?_)))
 refine Zl (σ:=(Nat)×(List (GE Zbh Int))×(Nat)) [1,2,3,23,24] [0,101] (fun s=>[(25,.pv (.int .i64 (s.1:Int)))]) (fun s=>[(102,.ob (.val v21) (ZbF (fun n:Int=>PV.int .i64 n) (fun k=>∀ x ∈ Zbp k,inR .i64 x) (kvS Zbp) s.2.1 s.2.2))]) (fun s=>s.1≤t.ops.length∧(Zbe t.id [] t.ops=Zbe t.id (t.ops.take s.1) (t.ops.drop s.1)∧ZcE s.2.1 (t.ops.take s.1))) (fun s=>t.ops.length - s.1) ((0),([]),(0)) G ⟨rfl,rfl,rfl,rfl,rfl,rfl,tv⟩ ⟨rfl,rfl,rfl,tv⟩ ⟨Yx _,⟨rfl,Zo5⟩⟩ ?_
 clear G;intro s a w F hC G
 obtain ⟨i,es,ck⟩:=s
 try dsimp only at hC
 obtain ⟨F,G⟩:=G.nM [25,24,23,3,2,1] [102,101,0]
 try dsimp only at G
 obtain ⟨hi,hq⟩:=hC
 obtain ⟨hrt,hsp⟩:=hq
 have hwl:=fun k=>ZtC t.ops i k
 refine Ya (rZ G (qL r2) V [26,25,24,23,3,2,1] [102,101,0] fun G=>Ya ?_)
 refine Zc G rfl (fun hc2=>?_) (fun hc2=>?_)
 ·have hil:i<t.ops.length:=by simp at hc2;omega
  refine Ye (Za (Ya (Yg (Ya (Zb G (qy 4 Yci r2 (qf (oR true 4 .t) r1 qz (qf (oH [.bool false,.int .i64 0,.int .i64 0,.int .i64 0] 103) trivial qz (qS 4 103 r2 r1 qZ)))) V [25,24,23,5,3,2,1] [103,102,101,0] (fun _=>rfl) (fun _=>rfl) fun τ a w F G=>?_)))))
  try dsimp only [RS.sub,SF.sub,CF.sub,csub,Anc.sub,List.map,Zf,xL,xM,Nat.reduceAdd,xD,xE,xT,xU,xC,xN,zCF,ldSF,Zn,rOp,rTx] at G
  generalize τ 5=v5 at G
  try simp only [Yb] at G
  refine Za (Ya (Ya (rZ G (qe 4 103 r1 r1 (qf (oP (ZnO (Nn t.ops i)) func86 (Args.one (.pagg .t))) r1 qz (qO rr qZ))) V [25,24,23,6,5,3,2,1] [103,102,101,0] fun G=>Ya ?_)))
  refine rZ G (qR rr (qf (o_neq .t qi) r1 qz qZ)) V [32,25,24,23,6,5,3,2,1] [103,102,101,0] fun G=>?_
  refine Zc G rfl (fun hc3=>?_) (fun hc3=>?_)
  ·have hk:ZcL (Nn t.ops i)=false:=by unfold ZcU at hc3;simpa using hc3
   have hg:ZcU (Nn t.ops i)=ZaI t:=by rw [hT,hrt,Zdn hil,Yf hk];unfold ZcU;rw [hk];rfl
   refine Ya (rZ G (qR rr (qO rr qZ)) V [25,24,23,5,3,2,1] [103,102,101,0] fun G=>(Yh (Zk (ZA (Zk (Zk (ZA (Zk ?_))))))))
   refine Zs hfr G rfl rfl rfl (.int hg)
  have hk:ZcL (Nn t.ops i)=true:=by unfold ZcU at hc3;simpa using hc3
  refine Ye (Za (Ya (Ya (rZ G (qg 0 103 r1 r1 (qa 103 r1 r1 (qf (o_not .t) r1 qz qZ))) V [36,25,24,23,5,3,2,1] [103,102,101,0] fun G=>?_))))
  refine Zc G rfl (fun hc4=>?_) (fun hc4=>?_)
  ·have hr:(Nn t.ops i).read=false:=by simpa using hc4
   have hm0:=hsp (Nn t.ops i).key 0 (Yao _)
   rw [Yf rfl] at hm0
   have hwc:IntKind.wrap .i64 (((gGet (⟨(Nn t.ops i).key,0⟩:Zbh) es).getD 0)+1)=(wcnt (t.ops.take i) (Nn t.ops i).key:Int)+1:=by rw [hm0];exact Zz (by have:=hwl (Nn t.ops i).key;omega)
   refine Ya ?_
   replace G:=G.turnZ 102 (0) (⟨(Nn t.ops i).key,0⟩:Zbh) rfl
   refine Zbc 102 8 (m1:=1) (m2:=2) kr G kr (qR rr (qg 1 103 r1 r1 (qa 103 r1 r1 (qf (oB [(0,.tmp 39),(1,_)] [.int .i64 0,.int .i64 0] [(0,1),(1,1)] (.one rfl .t one_int kr (.one rfl qi one_int kr .nil))) r1 qz (qf (Zce (ek:=(fun n:Int=>PV.int .i64 n)) (z0:=(0)) 102 underlying134 Zf5 kr (fun _ _=>⟨rfl,ZcS⟩) .is (ZL.agg (enc:=Zbp) (k:=(⟨(Nn t.ops i).key,0⟩:Zbh)) (.pagg .t) rfl)) r2 r1 (qp r1 (qf (Zba (ek:=(fun n:Int=>PV.int .i64 n)) (z0:=(0)) 102 underlying134 Zf5 kr (fun _ _=>⟨rfl,ZcS⟩) .is (ZL.agg (enc:=Zbp) (k:=(⟨(Nn t.ops i).key,0⟩:Zbh)) (.pagg .t) rfl) (by intros;first | rfl | simp [Anc.v,upd])) r2 r1 (qf (Zh .t rfl) r1 qz (qf (ZaM 102 (ZbC _ _ _) .is .t .t) r3 r1 qZ))))))))) kr kr kr rfl rfl rfl (fun _ _ _ _ h=>.inr h) (by rw [V];kernel_rfl) fun a w F G=>?_
   obtain ⟨F,G⟩:=G.nM [25,24,23,5,3,2,1] [103,102,101,0]
   try dsimp only [List.map,Zf,xL,xM,Nat.reduceAdd,xD,xE,xT,xU,xC,xN,zCF,ldSF,Zn,rOp,rTx] at G
   obtain ⟨es1,he1⟩:∃ z,z=gSet (⟨(Nn t.ops i).key,0⟩:Zbh) (IntKind.wrap .i64 (((gGet (⟨(Nn t.ops i).key,0⟩:Zbh) es).getD 0)+1)) (gEns 0 (⟨(Nn t.ops i).key,0⟩:Zbh) (es,ck)).1:=⟨_,rfl⟩
   obtain ⟨ck1,hc1⟩:∃ z,z=(gEns 0 (⟨(Nn t.ops i).key,0⟩:Zbh) (es,ck)).2:=⟨_,rfl⟩
   rw [← he1,← hc1] at G
   refine Za (Ya (Zv G (qR rr (qg 1 103 r1 r1 (qa 103 r1 r1 (qR rr (qg 1 103 r1 r1 (qa 103 r1 r1 (qf (oB [(0,.tmp 50),(1,_)] [.int .i64 0,.int .i64 0] [(0,1),(1,1)] (.one rfl .t one_int kr (.one rfl qi one_int kr .nil))) r1 qz (qf (Zap (ek:=(fun n:Int=>PV.int .i64 n)) (z0:=(0)) 102 underlying134 Zf5 kr (fun _ _=>⟨rfl,ZcS⟩) .is (ZL.agg (enc:=Zbp) (k:=(⟨(Nn t.ops i).key,0⟩:Zbh)) (.pagg .t) rfl)) r2 r1 (qf (oB [(0,.tmp 47),(1,.tmp 52)] [.int .i64 0,.int .i64 0] [(0,1),(1,1)] (.one rfl .t one_int kr (.one rfl .t one_int kr .nil))) r2 qz (qf (o_mapUpdateG (ek:=(fun n:Int=>PV.int .i64 n)) 102 underlying134 Zf5 .is (ZL.agg (enc:=Zbp) (k:=(⟨(Nn t.ops i).key,(gGet (⟨(Nn t.ops i).key,0⟩:Zbh) es1).getD 0⟩:Zbh)) (.pagg .t) rfl) qi) r2 r1 qZ)))))))))) V [25,24,23,5,3,2,1] [103,102,101,0] rfl rfl fun a w F G=>?_))
   try dsimp only [List.map,Zf,xL,xM,Nat.reduceAdd,xD,xE,xT,xU,xC,xN,zCF,ldSF,Zn,rOp,rTx] at G
   have hv1:∀ p,(gGet p es1).getD 0=if p=(⟨(Nn t.ops i).key,0⟩:Zbh) then (wcnt (t.ops.take i) (Nn t.ops i).key:Int)+1 else (gGet p es).getD 0:=fun p=>by rw [he1,Zhn,hwc]
   obtain ⟨es2,he2⟩:∃ z,z=(gPut (⟨(Nn t.ops i).key,(gGet (⟨(Nn t.ops i).key,0⟩:Zbh) es1).getD 0⟩:Zbh) 1 (es1,ck1)).1:=⟨_,rfl⟩
   obtain ⟨ck2,hc2⟩:∃ z,z=(gPut (⟨(Nn t.ops i).key,(gGet (⟨(Nn t.ops i).key,0⟩:Zbh) es1).getD 0⟩:Zbh) 1 (es1,ck1)).2:=⟨_,rfl⟩
   rw [← he2,← hc2] at G
   have hR2:Zbe t.id [] t.ops=Zbe t.id (t.ops.take (i+1)) (t.ops.drop (i+1))∧ZcE es2 (t.ops.take (i+1)):=⟨by rw [hrt,Zdn hil,Yc (by rw [hk];decide),Yc (by rw [hr];simp)],ZpW hsp hil hr rfl (fun p=>by rw [he2,Zrs];dsimp only;rw [hv1,hv1,Yf rfl])⟩
   refine Za (Yw (Zj (Zo (Za (rZ G (qp r1 (qR rr qZ)) V [25,24,23,3,2,1] [103,102,101,0] fun G=>?_)))))
   replace G:=G.ent (i:=25) (s':=.pv (.int .i64 ((i+1:Nat):Int))) rfl (.int (Zd ow))
   obtain ⟨F,G⟩:=G.nM [24,23,3,2,1,25] [101,0,102]
   exact ⟨((i+1),(es2),(ck2)),F,⟨by omega,hR2⟩,G,by omega⟩
  have hr:(Nn t.ops i).read=true:=by simpa using hc4
  refine Ye (Za (Ya (rZ G (qg 2 103 r1 r1 (qa 103 r1 r1 (qg 0 101 r1 r1 (qa 101 r1 r1 (qf (o_eql .t .t) r2 qz (qR rr (qm rfl rfl rfl rfl (qv 1 103 rfl r2 r1 (qw 103 rfl r2 r1 (qv 3 103 rfl r2 r1 (qw 103 rfl r2 r1 (qk rfl (fun h=>ZkA (r:=[(0,.tmp 62),(1,.tmp 64)]) (zs:=[.int .i64 0,.int .i64 0]) (pl:=[(0,1),(1,1)]) kr kr (.one rfl (.w h) one_int kr (.one rfl (.w h) one_int kr .nil)) (by rfl)) r3 qz (qk rfl (fun h=>Zap (ek:=(fun n:Int=>PV.int .i64 n)) (z0:=(0)) 102 underlying134 Zf5 kr (fun _ _=>⟨rfl,ZcS⟩) (.w h .is) (ZL.agg (enc:=Zbp) (k:=(⟨(Nn t.ops i).key,(Nn t.ops i).nth⟩:Zbh)) (.pagg (.w h)) rfl)) r3 r1 (qk rfl (fun h=>o_eql (.w h) qi) r2 qz (qf (ZE .t .t) r2 qz qZ))))))))))))))) V [68,25,24,23,3,2,1] [103,102,101,0] fun G=>?_)))
  refine Zc G rfl (fun hc5=>?_) (fun hc5=>?_)
  ·have hg:6=ZaI t:=by rw [hT,hrt,Zdn hil,Yc (by rw [hk];decide),Yf ((ZiL hsp hk hr hid.1).1 (by simpa using hc5))]
   refine Ya (rZ G (qI qZ) V [25,24,23,3,2,1] [103,102,101,0] fun G=>(Yh (ZA (Zk (Zk (ZA (Zk ?_)))))))
   refine Zs hfr G rfl rfl rfl (.int hg)
  have hno:=fun h9=>(by simpa using hc5:¬ ((Nn t.ops i).tx=t.id∧(gGet (⟨(Nn t.ops i).key,(Nn t.ops i).nth⟩:Zbh) es).getD 0=0)) ((ZiL hsp hk hr hid.1).2 h9)
  obtain ⟨es2,he2⟩:∃ z,z=es:=⟨_,rfl⟩
  obtain ⟨ck2,hc2⟩:∃ z,z=ck:=⟨_,rfl⟩
  have hR2:Zbe t.id [] t.ops=Zbe t.id (t.ops.take (i+1)) (t.ops.drop (i+1))∧ZcE es2 (t.ops.take (i+1)):=⟨by rw [hrt,Zdn hil,Yc (by rw [hk];decide),Yc hno],by rw [he2];exact ZnH hsp hil hr⟩
  rw [← he2,← hc2] at G
  refine Ye (Zi (Za (rZ G (qp r1 (qR rr qZ)) V [25,24,23,3,2,1] [103,102,101,0] fun G=>?_)))
  replace G:=G.ent (i:=25) (s':=.pv (.int .i64 ((i+1:Nat):Int))) rfl (.int (Zd ow))
  obtain ⟨F,G⟩:=G.nM [24,23,3,2,1,25] [101,0,102]
  exact ⟨((i+1),(es2),(ck2)),F,⟨by omega,hR2⟩,G,by omega⟩
 have hil:i=t.ops.length:=by simp at hc2;omega
 have hg:0=ZaI t:=by rw [hT,hrt,Zkx hil]
 refine Yw (Zj (Zj (Zo (Za (Ya (rZ G (qI qZ) V [2] [102,101,0] fun G=>Yh ?_))))))
 refine Zs hfr G rfl rfl rfl (.int hg)
theorem ZnF (t:TxD) (hl:t.ops.length≤1000000):FnP prog 88 [.agg (rTx t)] (.sl ZT (Zf1 t)):=by
 refine FnP.mk func88 rfl ntmps88 rfl fun B a w F V hfr G=>Ya ?_
 refine Zb G (qx 101 r1 (qC qZ)) V [2,1] [101,0] (fun _=>rfl) (fun _=>rfl) fun τ a w F G=>?_
 try dsimp only [RS.sub,SF.sub,CF.sub,csub,Anc.sub,List.map,zCF,Zn,rOp,rTx,ZT] at G
 generalize τ 1=v1 at G
 refine Za (Ya (rZ G (qC qZ) V [3,2,1] [101,0] fun G=>Ya ?_))
 refine Zb G (qf (Za0 (ek:=(fun n:Int=>PV.int .i64 n)) (ok:=(fun k=>∀ x ∈ Zdx k,inR .i64 x)) (kv:=(kvS Zdx)) 102) trivial qz (qO rr qZ)) V [4,3,2,1] [102,101,0] (fun _=>rfl) (fun _=>rfl) fun τ a w F G=>?_
 try dsimp only [RS.sub,SF.sub,CF.sub,csub,Anc.sub,List.map,Zf,xL,xM,Nat.reduceAdd,xD,xE,xT,xU,xC,xN,zCF,Zn,rOp,rTx,ZT] at G
 generalize τ 8=v8 at G
 refine Za (Ya (Ya (rZ G (qg 2 101 r1 r1 (qa 101 r1 r1 (qu Yci r1 (qJ qZ)))) V [12,11,10,4,3,2,1] [102,101,0] fun G=>Yg ?_)))
 replace G:=G.fresh 50 rfl
 replace G:=G.turn 50 rfl (ZaE (T:=33) (sz:=3) (R:=ZT))
 refine Zl (σ:=(Nat)×(List (GE Zb0 Int))×(Nat)×(Value)×(List Zb0)) [1,2,4,10,11] [0,101] (fun s=>[(12,.pv (.int .i64 (s.1:Int))),(3,.pv (.is s.2.2.2.1))]) (fun s=>[(102,.ob (.val v8) (ZbF (fun n:Int=>PV.int .i64 n) (fun k=>∀ x ∈ Zdx k,inR .i64 x) (kvS Zdx) s.2.1 s.2.2.1)),(50,.ob (.val s.2.2.2.1) (Zy 33 3 ZT s.2.2.2.2))]) (fun s=>s.1≤t.ops.length∧(s.2.2.2.2=Zdy t.id (t.ops.take s.1)∧ZdZ s.2.1 s.1 s.2.2.2.2)) (fun s=>t.ops.length - s.1) ((0),([]),(0),(.slice none 0 0),([])) G ⟨rfl,rfl,rfl,rfl,rfl,rfl,rfl,tv⟩ ⟨rfl,rfl,rfl,rfl,tv⟩ ⟨Yx _,⟨rfl,Zrh⟩⟩ ?_
 clear G;intro s a w F hC G
 obtain ⟨i,es,ck,v,out⟩:=s
 try dsimp only at hC
 obtain ⟨F,G⟩:=G.nM [12,11,10,4,3,2,1] [102,101,50,0]
 try dsimp only at G
 obtain ⟨hi,hq⟩:=hC
 obtain ⟨hou,hvi⟩:=hq
 have hol:out.length≤i:=by rw [hou];exact ZmP _ _ _
 have hst:=fun hil:i<t.ops.length=>ZkN (id:=t.id) hil
 refine Ya (rZ G (qL r2) V [13,12,11,10,4,3,2,1] [102,101,50,0] fun G=>Ya ?_)
 refine Zc G rfl (fun hc0=>?_) (fun hc0=>?_)
 ·have hil:i<t.ops.length:=by simp at hc0;omega
  refine Ye (Za (Ya (Yg (Ya (Zb G (qy 4 Yci r2 (qf (oR true 4 .t) r1 qz (qf (oH [.bool false,.int .i64 0,.int .i64 0,.int .i64 0] 103) trivial qz (qS 4 103 r2 r1 qZ)))) V [12,11,10,6,4,3,2,1] [103,102,101,50,0] (fun _=>rfl) (fun _=>rfl) fun τ a w F G=>?_)))))
  try dsimp only [RS.sub,SF.sub,CF.sub,csub,Anc.sub,List.map,Zf,xL,xM,Nat.reduceAdd,xD,xE,xT,xU,xC,xN,zCF,ldSF,Zn,rOp,rTx,ZT] at G
  generalize τ 6=v6 at G
  try simp only [Yb] at G
  refine Za (Ya (Zb G (qe 4 103 r1 r1 (qf (oP (ZlS (Nn t.ops i)) func120 (Args.one (.pagg .t))) r1 qz (qf (oH [.int .i64 0,.int .i64 0,.int .i64 0] 104) trivial qz (qf (oA 3 104 .same (.conv .t .agg)) r2 r1 qZ)))) V [12,11,10,7,6,4,3,2,1] [104,103,102,101,50,0] (fun _=>rfl) (fun _=>rfl) fun τ a w F G=>?_))
  try dsimp only [RS.sub,SF.sub,CF.sub,csub,Anc.sub,List.map,Zf,xL,xM,Nat.reduceAdd,xD,xE,xT,xU,xC,xN,zCF,ldSF,Zn,rOp,rTx,ZT] at G
  generalize τ 7=v7 at G
  refine Za (Ya (Ya (rZ G (qg 0 103 r1 r1 (qa 103 r1 r1 (qf (o_not .t) r1 qz (qR rr (qv 0 104 rfl r2 r1 (qw 104 rfl r2 r1 (qk rfl (fun h=>o_eql (.w h) qi) r2 qz (qf (Zal .t .t) r2 qz (qR rr (qv 0 104 rfl r2 r1 (qw 104 rfl r2 r1 (qv 0 101 rfl r2 r1 (qw 101 rfl r2 r1 (qk rfl (fun h=>o_eql (.w h) (.w h)) r3 qz (qf (Zal .t .t) r2 qz qZ))))))))))))))) V [32,12,11,10,7,4,3,2,1] [104,103,102,101,50,0] fun G=>?_)))
  refine Zc G rfl (fun hc1=>?_) (fun hc1=>?_)
  ·have hno:Zds t.id (Nn t.ops i)=false:=by unfold Zds;unfold ofO at hc1;cases hr:(Nn t.ops i).read <;> simp [hr] at hc1 ⊢;omega
   obtain ⟨es2,he2⟩:∃ z,z=es:=⟨_,rfl⟩
   obtain ⟨ck2,hc2⟩:∃ z,z=ck:=⟨_,rfl⟩
   obtain ⟨out2,ho2⟩:∃ z,z=out:=⟨_,rfl⟩
   have hR2:out2=Zdy t.id (t.ops.take (i+1))∧ZdZ es2 (i+1) out2:=⟨by rw [ho2,hou,hst hil];unfold ZaY;rw [Yc (by rw [hno];simp)],by rw [he2,ho2];exact ZrS hvi⟩
   rw [← he2,← hc2,← ho2] at G
   refine Yw (Zj (Zo (Za (rZ G (qp r1 (qR rr qZ)) V [12,11,10,4,3,2,1] [103,102,101,50,0] fun G=>?_))))
   replace G:=G.ent (i:=12) (s':=.pv (.int .i64 ((i+1:Nat):Int))) rfl (.int (Zd ow))
   obtain ⟨F,G⟩:=G.nM [11,10,4,2,1,3,12] [101,0,50,102]
   exact ⟨((i+1),(es2),(ck2),_,(out2)),F,⟨by omega,hR2⟩,G,by omega⟩
  have hyes:Zds t.id (Nn t.ops i)=true:=by unfold Zds;unfold ofO at hc1;cases hr:(Nn t.ops i).read <;> simp [hr] at hc1 ⊢;exact hc1
  have hvr:=hvi (ofO (Nn t.ops i))
  have hw1:IntKind.wrap .i64 (((gGet (ofO (Nn t.ops i)) es).getD 0)+1)=((gGet (ofO (Nn t.ops i)) es).getD 0)+1:=Zz (by have:=Sat.lenSl G (i:=10) rfl;omega)
  refine Ye (Za (Ya ?_))
  replace G:=G.turnZ 102 (0) (ofO (Nn t.ops i)) rfl
  refine Zbc 102 6 (m1:=1) (m2:=2) kr G kr (qR rr (qe 3 104 r1 r1 (qf (Zce (ek:=(fun n:Int=>PV.int .i64 n)) (z0:=(0)) 102 underlying200 Zpl kr (fun _ _=>⟨rfl,ZcS⟩) .is (ZL.agg (enc:=Zdx) (k:=(ofO (Nn t.ops i))) (.pagg .t) rfl)) r2 r1 (qp r1 (qf (Zba (ek:=(fun n:Int=>PV.int .i64 n)) (z0:=(0)) 102 underlying200 Zpl kr (fun _ _=>⟨rfl,ZcS⟩) .is (ZL.agg (enc:=Zdx) (k:=(ofO (Nn t.ops i))) (.pagg .t) rfl) (by intros;first | rfl | simp [Anc.v,upd])) r2 r1 (qf (Zh .t rfl) r1 qz (qf (ZaM 102 (ZbC _ _ _) .is .t .t) r3 r1 qZ))))))) kr kr kr rfl rfl rfl (fun _ _ _ _ h=>.inr h) (by rw [V];kernel_rfl) fun a w F G=>?_
  obtain ⟨F,G⟩:=G.nM [12,11,10,7,4,3,2,1] [104,103,102,101,50,0]
  try dsimp only [List.map,xD,xE,xT,xU,ldSF,Zn,rOp,rTx,ZT] at G
  obtain ⟨es2,he2⟩:∃ z,z=gSet (ofO (Nn t.ops i)) (IntKind.wrap .i64 (((gGet (ofO (Nn t.ops i)) es).getD 0)+1)) (gEns 0 (ofO (Nn t.ops i)) (es,ck)).1:=⟨_,rfl⟩
  obtain ⟨ck2,hc2⟩:∃ z,z=(gEns 0 (ofO (Nn t.ops i)) (es,ck)).2:=⟨_,rfl⟩
  rw [← he2,← hc2] at G
  have hvv:∀ u,(gGet u es2).getD 0=if u=(ofO (Nn t.ops i)) then ((gGet (ofO (Nn t.ops i)) es).getD 0)+1 else (gGet u es).getD 0:=fun u=>by rw [he2,Zhn,hw1]
  have hmv:(gGet (ofO (Nn t.ops i)) es2).getD 0=((gGet (ofO (Nn t.ops i)) es).getD 0)+1:=by rw [hvv,Yf rfl]
  have hvs:=Zse hvi hvv
  refine Za (Ya (rZ G (qR rr (qe 3 104 r1 r1 (qf (Zap (ek:=(fun n:Int=>PV.int .i64 n)) (z0:=(0)) 102 underlying200 Zpl kr (fun _ _=>⟨rfl,ZcS⟩) .is (ZL.agg (enc:=Zdx) (k:=(ofO (Nn t.ops i))) (.pagg .t) rfl)) r2 r1 (qf (o_eql .t qi) r1 qz qZ)))) V [42,12,11,10,7,4,3,2,1] [104,103,102,101,50,0] fun G=>?_))
  refine Zc G rfl (fun hc2=>?_) (fun hc2=>?_)
  ·have hnm:(ofO (Nn t.ops i)) ∉ out:=by rw [← hvr.2.2];rw [hmv] at hc2;simp at hc2;omega
   obtain ⟨out2,ho2⟩:∃ z,z=out ++ [(ofO (Nn t.ops i))]:=⟨_,rfl⟩
   have hR2:out2=Zdy t.id (t.ops.take (i+1))∧ZdZ es2 (i+1) out2:=⟨by rw [ho2,hst hil];unfold ZaY;rw [Yf ⟨hyes,by rw [← hou];exact hnm⟩,← hou],by have:=hvs;rw [Yc hnm] at this;rw [ho2];exact this⟩
   refine Zb G (qR rr (qe 3 104 r1 r1 (qf (o_buildSliceE (sz:=3) (zs:=[.int .i64 0,.int .i64 0,.int .i64 0]) (r:=[(0,.tmp 44)]) (l:=[_,_,_]) underlying139 kr kr kr kr rfl rfl (.agg rfl .t kr kr .nil) rfl) r1 qz (qf (ZR (sz:=3) (bs:=24) 50 (.mk' underlying139 kr kr) (by intro x;rfl) .is (.arr (l':=[_]) .t) (by simp only [Yd,Yl,Yy,Yi,YE];omega) (by decide)) ⟨rfl,rfl,tv⟩ ⟨rfl,tv⟩ (qO rr qZ))))) V [12,11,10,4,3,2,1] [103,102,101,50,0] (fun _=>rfl) (fun _=>rfl) fun τ a w F G=>?_
   try dsimp only [RS.sub,SF.sub,CF.sub,csub,Anc.sub,List.map,Zf,xL,xM,Nat.reduceAdd,xD,xE,xT,xU,xC,xN,zCF,ldSF,Zn,rOp,rTx,ZT] at G
   generalize τ 46=v46 at G
   rw [← ho2] at G
   refine Zi (Za (rZ G (qp r1 (qR rr qZ)) V [12,11,10,4,3,2,1] [103,102,101,50,0] fun G=>?_))
   replace G:=G.ent (i:=12) (s':=.pv (.int .i64 ((i+1:Nat):Int))) rfl (.int (Zd ow))
   obtain ⟨F,G⟩:=G.nM [11,10,4,2,1,3,12] [101,0,50,102]
   exact ⟨((i+1),(es2),(ck2),_,(out2)),F,⟨by omega,hR2⟩,G,by omega⟩
  have hnm:(ofO (Nn t.ops i)) ∈ out:=by rw [← hvr.2.2];rw [hmv] at hc2;simp at hc2;omega
  obtain ⟨out2,ho2⟩:∃ z,z=out:=⟨_,rfl⟩
  have hR2:out2=Zdy t.id (t.ops.take (i+1))∧ZdZ es2 (i+1) out2:=⟨by rw [ho2,hst hil];unfold ZaY;rw [Yc (by rw [← hou];simp [hnm])];exact hou,by have:=hvs;rw [Yf hnm] at this;rw [ho2];exact this⟩
  rw [← ho2] at G
  refine Ye (Zi (Za (rZ G (qp r1 (qR rr qZ)) V [12,11,10,4,3,2,1] [103,102,101,50,0] fun G=>?_)))
  replace G:=G.ent (i:=12) (s':=.pv (.int .i64 ((i+1:Nat):Int))) rfl (.int (Zd ow))
  obtain ⟨F,G⟩:=G.nM [11,10,4,2,1,3,12] [101,0,50,102]
  exact ⟨((i+1),(es2),(ck2),_,(out2)),F,⟨by omega,hR2⟩,G,by omega⟩
 have hil:i=t.ops.length:=by simp at hc0;omega
 refine Yw (Zj (Zj (Zo (Za (Ya (rZ G (qR rr (qO rr qZ)) V [2] [102,101,50,0] fun G=>Yh ?_))))))
 obtain ⟨F,G⟩:=G.give 50 2 rfl rfl
 refine Zs hfr G rfl rfl rfl (.sl (by rw [hou,hil,YA];rfl))
theorem ZpH (l:List Int) (v:Int):FnP prog 39 [.sl Zn l,.int .i64 v] (.int .i64 (ZaC v l)):=by
 refine FnP.mk func39 rfl ntmps39 rfl fun B a w F V hfr G=>?_
 have hll:=Sat.lenSl G (i:=0) rfl
 refine Ya (rZ G (qI qZ) V [4,1,0] [0] fun G=>(Ya (Ya ?_)))
 refine rZ G (qR rr (qu Ycd r1 (qJ qZ))) V [8,7,4,1,0] [0] fun G=>Yg ?_
 refine Zl (σ:=(Nat)) [0,1,4,7] [0] (fun s=>[(8,.pv (.int .i64 (s:Int)))]) (fun s=>[]) (fun s=>s≤l.length∧(∀ k,k<s→Nn l k≠v)) (fun s=>l.length - s) (0) G ⟨rfl,rfl,rfl,rfl,rfl,tv⟩ ⟨rfl,tv⟩ ⟨Yx _,fun k hk=>absurd hk (Y2 k)⟩ ?_
 clear G;intro i a w F hC G
 try dsimp only at hC
 obtain ⟨F,G⟩:=G.nM [8,7,4,1,0] [0]
 try dsimp only at G
 obtain ⟨hi,hq⟩:=hC
 refine Ya (rZ G (qL r2) V [9,8,7,4,1,0] [0] fun G=>Ya ?_)
 refine Zc G rfl (fun hc0=>?_) (fun hc0=>?_)
 ·have hil:i<l.length:=by simp at hc0;omega
  refine Ye (Za (Ya (Yg (Ya (rZ G (qR rr (qO rr qZ)) V [8,7,5,4,1,0] [0] fun G=>Ya ?_)))))
  refine Ze G (qR rr (qR rr (qR rr (qy 1 Ycd r2 (qf (oR false 1 .t) r1 qz (qf (o_eql .t .t) r2 qz qZ)))))) V [16,8,7,5,4,1,0] [0] rfl rfl fun a w F G=>?_
  try simp only [Yb] at G
  refine Za (Zc G rfl (fun hc1=>?_) (fun hc1=>?_))
  ·have hg:(i:Int)=ZaC v l:=(ZnY hil (by simp at hc1;omega) hq).symm
   refine Ya (rZ G (qR rr (qO rr qZ)) V [8,7,4,1,0] [0] fun G=>(Yh (ZA (Zk (Zk (ZA (Zk ?_)))))))
   refine Zs hfr G rfl rfl rfl (.int hg)
  have hne:Nn l i≠v:=by simp at hc1;omega
  refine Ye (Zi (Za (rZ G (qp r1 (qR rr qZ)) V [8,7,4,1,0] [0] fun G=>?_)))
  replace G:=G.ent (i:=8) (s':=.pv (.int .i64 ((i+1:Nat):Int))) rfl (.int (Zd ow))
  obtain ⟨F,G⟩:=G.nM [7,4,1,0,8] [0]
  exact ⟨(i+1),F,⟨by omega,(fun k hk=>by rcases Y0 (Y7 hk) with h | h;exact hq k h;rw [h];exact hne)⟩,G,by omega⟩
 have hil:i=l.length:=by simp at hc0;omega
 have hg : -1=ZaC v l:=(Zgc fun k hk=>hq k (by simp at hc0;omega)).symm
 refine Yw (Zj (Zj (Zo (Za (Ya (rZ G (qI qZ) V [4] [0] fun G=>Yh ?_))))))
 refine Zs hfr G rfl rfl rfl (.int hg)
theorem Zm4 (l:List Int) (v:Int):FnP prog 148 [.sl Zn l,.int .i64 v] (.bool (decide (v ∈ l))):=by
 refine FnP.mk func148 rfl ntmps148 rfl fun B a w F V hfr G=>Ya ?_
 refine rZ G qB V [4,1,0] [0] fun G=>Ya ?_
 refine rZ G (qR rr (qR rr (qf (oP (ZpH l v) func39 (Args.two .t .t)) r2 qz (qf (Zbq .t qi) r1 qz (qO rr qZ))))) V [4] [0] fun G=>Yh ?_
 refine Zs hfr G rfl rfl rfl (.bool (by rw [decide_eq_decide];exact Zr3))
theorem Zus (x y:List Int):FnP prog 93 [.sl Zn x,.sl Zn y] (.bool (decide (x=y))):=by
 refine FnP.mk func93 rfl ntmps93 rfl fun B a w F V hfr G=>?_
 have hxl:=Sat.lenSl G (i:=0) rfl
 refine Ya (rZ G qB V [4,1,0] [0] fun G=>(Ya (Ya ?_)))
 refine rZ G (qR rr (qu Ycd r1 (qR rr (qu Ycd r1 (qf (o_neq .t .t) r2 qz qZ))))) V [10,4,1,0] [0] fun G=>?_
 refine Zc G rfl (fun hc0=>?_) (fun hc0=>?_)
 ·have hg:false=decide (x=y):=by
    rw [Yaq,YD]
    intro h
    subst h
    simp at hc0
  refine Ya (rZ G qB V [4,1,0] [0] fun G=>(Yh (Zk ?_)))
  refine Zs hfr G rfl rfl rfl (.bool hg)
 have hl:x.length=y.length:=by simp at hc0;omega
 refine Ye (Za (Ya (Ya (rZ G (qR rr (qu Ycd r1 (qJ qZ))) V [13,12,4,1,0] [0] fun G=>Yg ?_))))
 obtain ⟨F,G⟩:=G.nM [13,12,1,0] [0]
 refine Zbf (σ:=Nat) (fun s=>(⟨[(0,.pv (.sl Zn x)),(1,.pv (.sl Zn y)),(12,.pv (.int .i64 x.length)),(13,.pv (.int .i64 s))],[(0,frame B)]⟩:En)) (fun s=>s≤x.length ∧ ∀ j,j<s→Nn x j=Nn y j) (fun s=>x.length - s) 0 G ⟨Yx _,fun j hj=>absurd hj (Y2 j)⟩ ?_
 clear G;intro i a w F hC G
 try dsimp only at hC
 try dsimp only at G
 obtain ⟨hi,hq⟩:=hC
 refine Ya (rZ G (qL r2) V [14,13,12,1,0] [0] fun G=>Ya ?_)
 refine Zc G rfl (fun hc1=>?_) (fun hc1=>?_)
 ·have hil:i<x.length:=by simp at hc1;omega
  refine Ye (Za (Ya (Yg (Ya (rZ G (qR rr (qO rr qZ)) V [13,12,5,1,0] [0] fun G=>Ya ?_)))))
  refine Zv G (qR rr (qR rr (qy 1 Ycd r2 (qf (oR false 1 .t) r1 qz (qR rr (qR rr (qy 1 Ycd r2 (qf (oR false 1 .t) r1 qz (qf (o_neq .t .t) r2 qz qZ))))))))) V [24,13,12,1,0] [0] rfl rfl fun a w F G=>?_
  try dsimp only [List.map,xD,xE,xT,xU,ldSF] at G
  refine Za (Zc G rfl (fun hc2=>?_) (fun hc2=>?_))
  ·have hg:false=decide (x=y):=by
     rw [Yaq,YD]
     intro h
     subst h
     simp at hc2
   refine Ya (rZ G qB V [13,12,4,1,0] [0] fun G=>(Yh (ZA (Zk (Zk (ZA (Zk ?_)))))))
   refine Zs hfr G rfl rfl rfl (.bool hg)
  rw [Yb] at hc2
  have hqi:Nn x i=Nn y i:=by simpa using hc2
  refine Ye (Zi (Za (rZ G (qp r1 (qR rr qZ)) V [13,12,1,0] [0] fun G=>?_)))
  replace G:=G.ent (i:=13) (s':=.pv (.int .i64 ((i+1:Nat):Int))) rfl (.int (Zd ow))
  obtain ⟨F,G⟩:=G.nM [13,12,1,0] [0]
  exact ⟨i+1,F,⟨by omega,fun j hj=>by rcases Y0 (Y7 hj) with h | h;exact hq j h;rw [h];exact hqi⟩,G,by omega⟩
 have hg:true=decide (x=y):=by
   rw [Yaq,Yq]
   exact ZaV hl fun j hj=>hq j (by simp at hc1;omega)
 refine Yw (Zj (Zj (Zo (Za (Ya (rZ G qB V [4] [0] fun G=>Yh ?_))))))
 refine Zs hfr G rfl rfl rfl (.bool hg)
theorem Zu2 (x y:List Int) (hx:x.length≤1000000) (hy:y.length≤1000000):FnP prog 47 [.sl Zn x,.sl Zn y] (.bool (decide (x.Perm y))):=by
 refine FnP.mk func47 rfl ntmps47 rfl fun B a w F V hfr G=>Ya ?_
 refine rZ G qB V [4,1,0] [0] fun G=>Ya ?_
 replace G:=G.fresh 101 rfl
 replace G:=G.fresh 102 rfl
 refine Zb G (qR rr (qf (Zar 101 (Ze3 x hx) func42 rfl kr (Args.one .t) pvOne1) r1 r1 (qR rr (qf (Zar 102 (Ze3 y hy) func42 rfl kr (Args.one .t) pvOne1) r1 r1 (qO rr (qO rr qZ)))))) V [6,5,4] [102,101,0] (fun _=>rfl) (fun _=>rfl) fun τ a w F G=>?_
 try dsimp only [RS.sub,SF.sub,CF.sub,csub,Anc.sub,List.map,Zn] at G
 generalize τ 8=v8,τ 10=v10 at G
 refine Za (Ya (rZ G (qR rr (qf (Zbk 101 (Zjp _ x hx) func92 rfl kr (Args.one .t)) r1 r1 qZ)) V [6,5,4] [102,101,0] fun G=>Ya ?_))
 refine rZ G (qR rr (qf (Zbk 102 (Zjp _ y hy) func92 rfl kr (Args.one .t)) r1 r1 qZ)) V [6,5,4] [102,101,0] fun G=>Ya ?_
 refine rZ G (qR rr (qR rr (qf (OpC.lendRow 102 [16] (OpC.lendRow 101 [15] (oP (Zus _ _) func93 (Args.two .t .t)) ⟨rfl,tv,tv⟩ (.pv (fun _ _ _ _ h=>h)) trivial (by rfl)) ⟨tv,rfl,tv⟩ (.pv (fun _ _ _ _ h=>h)) trivial (by rfl)) r2 r2 (qO rr qZ)))) V [4] [102,101,0] fun G=>Yh ?_
 refine Zs hfr G rfl rfl rfl (.bool (by rw [decide_eq_decide];exact ZnU))
def zeroT:TxD:=⟨0,false,[]⟩
def Za1 (l:List TxD):Prop:=l.length≤1000 ∧ ∀ t ∈ l,t.ops.length≤1000
def Zdz (l:List OrdD):Prop:=l.length≤4000 ∧ ∀ o ∈ l,o.txs.length≤1000
def Za9 (h:Zr):Prop:=Za1 h.txs∧Zdz h.orders
theorem Za1.at {l:List TxD} (h:Za1 l) {i:Nat} (hi:i<l.length):(Nn l i).ops.length≤1000:=h.2 _ (nth_mem hi)
theorem Zdz.at {l:List OrdD} (h:Zdz l) {i:Nat} (hi:i<l.length):(Nn l i).txs.length≤1000:=h.2 _ (nth_mem hi)
def Z5 (l:List TxD) (id:Int):Option TxD:=l.find? fun t=>decide (t.id=id)
theorem Zsy {l:List TxD} {id:Int} {i:Nat} (hi:i<l.length) (h:(Nn l i).id=id) (hq:∀ k,k<i→(Nn l k).id≠id):Z5 l id=some (Nn l i):=by
 unfold Z5
 rw [List.find?_eq_some_iff_getElem]
 refine ⟨by simpa using h,i,hi,(nth_eq hi).symm,fun j hj=>?_⟩
 have:=hq j hj
 rw [nth_eq ow] at this
 simpa using this
theorem Zmn {l:List TxD} {id:Int} (hq:∀ k,k<l.length→(Nn l k).id≠id):Z5 l id=none:=by
 unfold Z5
 rw [Ybu]
 intro x hx
 obtain ⟨k,hk,e⟩:=Yab hx
 have:=hq k hk
 rw [nth_eq hk,e] at this
 simpa using this
theorem findT_mem {l:List TxD} {id:Int} {t:TxD} (h:Z5 l id=some t):t ∈ l∧t.id=id:=⟨List.mem_of_find?_eq_some h,by have:=List.find?_some h;simpa using this⟩
def ZjW (h:Zr) (v:Zb0):Bool:=if v.tx=0∧v.nth=0 then decide (1≤v.key∧v.key≤1048575) else (Z5 h.txs v.tx).isSome && (decide (1≤v.nth) && decide (v.nth≤(wcnt ((Z5 h.txs v.tx).getD zeroT).ops v.key:Int)))
def Zdw (h:Zr) (t:TxD):Bool:=(Zf1 t).all (ZjW h)
def Zaa (t:TxD):List Int:=Zbr ((t.ops.filter fun o=>!o.read).map OpD.key)
theorem Zdc {t:TxD} {k:Int} : k ∈ Zaa t ↔ 0<wcnt t.ops k:=by
 unfold Zaa
 rw [(ZV _).2,Yv]
 unfold wcnt
 rw [List.length_pos_iff_exists_mem]
 constructor
 ·rintro ⟨o,ho,e⟩
  rw [YV] at ho
  exact ⟨o,by rw [YV];exact ⟨ho.1,by simp [e];simpa using ho.2⟩⟩
 ·rintro ⟨o,ho⟩
  rw [YV] at ho
  simp at ho
  exact ⟨o,by rw [YV];simp [ho.1,ho.2.1],ho.2.2⟩
theorem Zd5 (t:TxD):(Zaa t).length≤t.ops.length:=Y1 (Zfq _) (by rw [YH];exact Yac _ _)
def Z4 (l:List TxD) (k:Int):List Int:=(l.filter fun t=>t.done && decide (0<wcnt t.ops k)).map TxD.id
theorem ZeO (l:List TxD) (k:Int):(Z4 l k).length≤l.length:=by unfold Z4;rw [YH];exact Yac _ _
theorem ZdV {l:List TxD} {i:Nat} (hi:i<l.length) (k:Int):Z4 (l.take (i+1)) k=Z4 (l.take i) k++if (Nn l i).done=true∧0<wcnt (Nn l i).ops k then [(Nn l i).id] else []:=by
 unfold Z4
 rw [Zp hi,Yaa,YQ]
 congr 1
 by_cases h:(Nn l i).done=true∧0<wcnt (Nn l i).ops k
 ·rw [Yf h,Yar (by simp [h.1,h.2])];rfl
 ·rw [Yc h,Yas (by simp;intro e;exact Nat.eq_zero_of_not_pos fun e2=>h ⟨e,e2⟩)];rfl
def ZcC (l:List TxD):List Int:=Zbr ((l.filter fun t=>t.done).flatMap Zaa)
theorem Zrn {l:List TxD} (h:Za1 l) (i:Nat):(ZcC (l.take i)).length≤1000*i:=by
 unfold ZcC
 refine Y1 (Zfq _) ?_
 have key:∀ l:List TxD,(∀ t ∈ l,t.ops.length≤1000)→((l.filter fun t=>t.done).flatMap Zaa).length≤1000*l.length:=by
  intro l
  induction l with
  | nil=>intro _;simp
  | cons t l ih=>
   intro h
   have h1:=ih fun x hx=>h x (by simp [hx])
   have h2:=h t (by simp)
   have h3:=Zd5 t
   by_cases hd:t.done=true
   ·rw [Yar (by simpa using hd),YZ,Yd,Yl]
    omega
   ·rw [Yas (by simpa using hd),Yl]
    omega
 have h1:=key (l.take i) fun t ht=>h.2 t (Yak ht)
 have h2:(l.take i).length≤i:=by rw [Yi];omega
 exact Y1 h1 (Ybl _ h2)
theorem Zqk {l:List TxD} (h:Za1 l):(ZcC l).length≤1000000:=by
 have h1:=Zrn h l.length
 rw [YA] at h1
 have:=h.1
 omega
theorem Zc4 {l:List TxD} {k:Int} : k ∈ ZcC l ↔ Z4 l k≠[]:=by
 unfold ZcC
 rw [(ZV _).2,YaH]
 unfold Z4
 rw [ne_eq,List.map_eq_nil_iff,YbL]
 constructor
 ·rintro ⟨t,ht,hk⟩ hn
  rw [YV] at ht
  have:=hn t ht.1
  simp [ht.2] at this
  have:=Zdc.1 hk
  simp_all
 ·intro hn
  simp only [Classical.not_forall] at hn
  obtain ⟨t,ht,h2⟩:=hn
  simp at h2
  exact ⟨t,by rw [YV];exact ⟨ht,by simpa using h2.1⟩,Zdc.2 (Nat.pos_of_ne_zero h2.2)⟩
def Zny (h:Zr) (i:Nat):Prop:=(0<i→(Nn h.txs (i - 1)).id<(Nn h.txs i).id)∧ZaI (Nn h.txs i)=0∧Zdw h (Nn h.txs i)=true
instance (h:Zr) (i:Nat):Decidable (Zny h i):=by unfold Zny;exact inferInstance
def Zr4 (h:Zr) (i:Nat):Prop:=(Nn h.orders i).key=Nn (ZcC h.txs) i∧(Nn h.orders i).txs.Perm (Z4 h.txs (Nn h.orders i).key)
instance (h:Zr) (i:Nat):Decidable (Zr4 h i):=by unfold Zr4;exact inferInstance
def ZW (h:Zr):Prop:=h.txs.length≤4096∧(∀ i,i<h.txs.length→Zny h i)∧h.orders.length=(ZcC h.txs).length ∧ ∀ i,i<h.orders.length→Zr4 h i
instance (h:Zr):Decidable (ZW h):=by unfold ZW;exact inferInstance
def Zfz (h:Zr) (i:Nat):Prop:=(0<i→(Nn h.orders (i - 1)).key<(Nn h.orders i).key)∧(Nn h.orders i).txs≠[]∧(Nn h.orders i).txs.Perm (Z4 h.txs (Nn h.orders i).key)
theorem ZfI:∀ {l:List Int},(∀ i,i<l.length→0<i→Nn l (i - 1)<Nn l i)→Zdu l
 | [],_=>List.Pairwise.nil
 | [x],_=>by simp
 | x :: y :: l,h=>by
  have ih:=ZfI (l:=y :: l) fun i hi h0=>by
   have:=h (i+1) (by simpa using hi) ow
   obtain ⟨j,rfl⟩:∃ j,i=j+1:=⟨i - 1,by omega⟩
   have hj:j<l.length:=by simpa using hi
   rw [nth_eq (l:=x :: y :: l) (by simp;omega),nth_eq (l:=x :: y :: l) (by simp;omega)] at this
   rw [nth_eq (l:=y :: l) (by simp;omega),nth_eq (l:=y :: l) (by simp;omega)]
   exact this
  have h1:=h 1 (by simp) ow
  rw [nth_eq (by simp),nth_eq (by simp)] at h1
  simp at h1
  have ih2:=Yo.1 ih
  refine Yo.2 ⟨fun z hz=>?_,ih⟩
  rcases Yj.1 hz with rfl | hz
  ·exact h1
  ·have:=ih2.1 z hz;omega
theorem Zua {l:List Int} (h:Zdu l) {i:Nat} (hi:i<l.length) (h0:0<i):Nn l (i - 1)<Nn l i:=by
 rw [nth_eq hi,nth_eq ow]
 exact YaL.1 h (i - 1) i ow hi ow
theorem Zj4:∀ {b a:List Int},Zdu a→Zdu b→(∀ x ∈ a,x ∈ b)→a.length≤b.length∧(a.length=b.length→a=b)
 | [],a,_,_,h=>by
  have:a = []:=List.eq_nil_iff_forall_not_mem.2 fun x hx=>by cases h x hx
  subst this;simp
 | y :: b,[],_,_,_=>⟨by simp,fun h=>by simp at h⟩
 | y :: b,x :: a,ha,hb,h=>by
  have ha':=Yo.1 ha
  have hb':=Yo.1 hb
  by_cases e:x=y
  ·subst e
   have ih:=Zj4 (b:=b) (a:=a) ha'.2 hb'.2 fun z hz=>by
    rcases Yj.1 (h z (by simp [hz])) with e | e
    ·have:=ha'.1 z hz;omega
    ·exact e
   exact ⟨by simp;exact ih.1,fun hl=>by rw [ih.2 (by simpa using hl)]⟩
  ·have hx:y<x:=by
    rcases Yj.1 (h x (by simp)) with e2 | e2
    ·exact absurd e2 e
    ·exact hb'.1 x e2
   have ih:=Zj4 (b:=b) (a:=x :: a) ha hb'.2 fun z hz=>by
    rcases Yj.1 (h z hz) with e2 | e2
    ·rcases Yj.1 hz with e3 | e3
     ·omega
     ·have:=ha'.1 z e3;omega
    ·exact e2
   exact ⟨by have:=ih.1;simp at this ⊢;omega,fun hl=>by have:=ih.1;simp at this hl;omega⟩
theorem Zcy {α β:Type} [Inhabited α] [Inhabited β] {f:α→β} {l:List α} {i:Nat} (h:i<l.length):Nn (l.map f) i=f (Nn l i):=by
 rw [nth_eq (by simpa using h),nth_eq h];simp
theorem Zdd (h:Zr):(h.orders.length=(ZcC h.txs).length ∧ ∀ i,i<h.orders.length→Zfz h i) ↔ (h.orders.length=(ZcC h.txs).length ∧ ∀ i,i<h.orders.length→Zr4 h i):=by
 have hK:Zdu (ZcC h.txs):=(ZV _).1
 constructor
 ·rintro ⟨hl,hq⟩
  refine ⟨hl,?_⟩
  have hO:Zdu (h.orders.map OrdD.key):=ZfI fun i hi h0=>by
   have hi':i<h.orders.length:=by simpa using hi
   rw [Zcy ow,Zcy hi']
   exact (hq i hi').1 h0
  have hsub:∀ x ∈ h.orders.map OrdD.key,x ∈ ZcC h.txs:=fun x hx=>by
   obtain ⟨o,ho,rfl⟩:=Yv.1 hx
   obtain ⟨k,hk,e⟩:=Yab ho
   have:=hq k hk
   unfold Zfz at this
   rw [nth_eq hk,e] at this
   rw [Zc4]
   intro e2
   rw [e2] at this
   exact this.2.1 (List.Perm.eq_nil this.2.2)
  have he:=(Zj4 hO hK hsub).2 (by simpa using hl)
  intro i hi
  refine ⟨?_,(hq i hi).2.2⟩
  rw [← he,Zcy hi]
 ·rintro ⟨hl,hq⟩
  refine ⟨hl,fun i hi=>?_⟩
  have hin:(Nn h.orders i).key ∈ ZcC h.txs:=by rw [(hq i hi).1];exact nth_mem ow
  refine ⟨fun h0=>?_,fun e=>?_,(hq i hi).2⟩
  ·rw [(hq i hi).1,(hq (i - 1) ow).1]
   exact Zua hK ow h0
  ·have:=(hq i hi).2
   rw [e] at this
   exact Zc4.1 hin this.symm.eq_nil
theorem ZgF {h:Zr} (hb:4096<h.txs.length):false=decide (ZW h):=(YF fun hr=>by have:=hr.1;omega).symm
theorem Ziy {h:Zr} {i:Nat} (hi:i<h.txs.length) (hb:¬ Zny h i):false=decide (ZW h):=(YF fun hr=>hb (hr.2.1 i hi)).symm
theorem ZhX {h:Zr} (hb:h.orders.length≠(ZcC h.txs).length):false=decide (ZW h):=(YF fun hr=>hb hr.2.2.1).symm
theorem ZgJ {h:Zr} {i:Nat} (hi:i<h.orders.length) (hb:¬ Zfz h i):false=decide (ZW h):=(YF fun hr=>hb (((Zdd h).2 hr.2.2).2 i hi)).symm
theorem ZkH {h:Zr} (h1:h.txs.length≤4096) (h2:∀ i,i<h.txs.length→Zny h i) (h3:h.orders.length=(ZcC h.txs).length) (h4:∀ i,i<h.orders.length→Zfz h i):true=decide (ZW h):=(Yag ⟨h1,h2,(Zdd h).1 ⟨h3,h4⟩⟩).symm
def Ztq (l:List Int):Option (List Int):=if l = [] then none else some l
theorem ZkW (l:List Int):(Ztq l).getD [] = l:=by
 unfold Ztq
 split
 ·rename_i h;rw [h];rfl
 ·rfl
def WrL (es:List (GE Int (List Int))) (l:List TxD):Prop:=GNd es ∧ ∀ k,gGet k es=Ztq (Z4 l k)
def WrV (es:List (GE Int (Value×List Int))) (l:List TxD) (id:Int) (ks:List Int):Prop:=GNd es ∧ ∀ k,(gGet k es).map (·.2)=Ztq (Z4 l k++if k ∈ ks then [id] else [])
theorem Zuy {id:Int} : WrV [] [] id []:=⟨by simp [GNd],fun k=>by simp [gGet,Z4,Ztq]⟩
theorem Zru {es:List (GE Int (Value×List Int))} {l:List TxD} {id:Int} (h:WrV es l id []):WrL (ZeP es) l:=⟨by unfold GNd;rw [Zkg];exact h.1,fun k=>by rw [Zhe,h.2];simp⟩
theorem ZrL {es:List (GE Int (Value×List Int))} {l:List TxD} {id id':Int} (h:WrV es l id []):WrV es l id' []:=⟨h.1,fun k=>by rw [h.2];simp⟩
theorem Zt3 {es:List (GE Int (Value×List Int))} {l:List TxD} {i:Nat} {id:Int} (h:WrV es (l.take i) id []) (hi:i<l.length) (hd:(Nn l i).done=false):WrV es (l.take (i+1)) id []:=⟨h.1,fun k=>by rw [h.2,ZdV hi];simp [hd]⟩
theorem Zt6 {es:List (GE Int (Value×List Int))} {l:List TxD} {i:Nat} {id:Int} (h:WrV es (l.take i) (Nn l i).id (Zaa (Nn l i))) (hi:i<l.length) (hd:(Nn l i).done=true):WrV es (l.take (i+1)) id []:=⟨h.1,fun k=>by
 rw [h.2,ZdV hi]
 congr 1
 simp only [YbV,Yp,YP]
 congr 1
 by_cases hk:k ∈ Zaa (Nn l i)
 ·rw [Yf hk,Yf ⟨hd,Zdc.1 hk⟩]
 ·rw [Yc hk,Yc fun h9=>hk (Zdc.2 h9.2)]⟩
theorem ZsI {es:List (GE Int (Value×List Int))} {l:List TxD} {id:Int} {ks:List Int} {j:Nat} (h:WrV es l id (ks.take j)) (hn:ks.Nodup) (hj:j<ks.length):((gGet (Nn ks j) es).getD Zh8).2=Z4 l (Nn ks j):=by
 have h1:=h.2 (Nn ks j)
 have hni:Nn ks j ∉ ks.take j:=fun hm=>by
  rw [nth_eq hj] at hm
  obtain ⟨k,hk,e⟩:=Yab hm
  rw [Yi] at hk
  rw [List.getElem_take] at e
  have h3:=YaL.1 hn k j ow hj ow
  exact h3 e
 rw [Yc hni,YP] at h1
 have h2:=ZkW (Z4 l (Nn ks j))
 rw [← h1] at h2
 rw [← h2]
 cases gGet (Nn ks j) es <;> rfl
theorem Zuq {es:List (GE Int (Value×List Int))} {l:List TxD} {id:Int} {ks:List Int} {j ck:Nat} {v:Value} (h:WrV es l id (ks.take j)) (hn:ks.Nodup) (hj:j<ks.length):WrV (gPut (Nn ks j) (v,((gGet (Nn ks j) es).getD Zh8).2 ++ [id]) (es,ck)).1 l id (ks.take (j+1)):=⟨GNd.put h.1,fun k=>by
 rw [Zdo,ZsI h hn hj,Zp hj]
 by_cases e:k=Nn ks j
 ·subst e
  rw [Yf rfl,Yf (by simp)]
  simp [Ztq]
 ·rw [Yc e,h.2]
  simp [e]⟩
theorem Zvn {es:List (GE Int (List Int))} {l:List TxD} (h:WrL es l) (k:Int):(gGet k es).getD [] = Z4 l k:=by rw [h.2,ZkW]
theorem Zva {es:List (GE Int (List Int))} {l:List TxD} (h:WrL es l):es.length=(ZcC l).length:=by
 have h1:(es.map (·.key)).Perm (ZcC l):=by
  refine (List.perm_ext_iff_of_nodup h.1 ((ZV _).1.imp fun h=>Int.ne_of_lt h)).2 fun k=>?_
  rw [← Ze7,h.2,show (k ∈ Zbr ((l.filter fun t=>t.done).flatMap Zaa)) ↔ Z4 l k≠[] from Zc4]
  unfold Ztq
  split <;> simp_all
 simpa using h1.length_eq
theorem ZfY (t:TxD):(Zaa t).Nodup:=(ZV _).1.imp fun h=>Int.ne_of_lt h
theorem ZjS {α:Type} {R:α→List PV} {w:World} {y:Ys} : (PV.sl R ([]:List α)).p (.slice none 0 0) w y:=⟨none,0,rfl,YL _,by unfold maxLen;omega,.inl rfl⟩
theorem Zhw (t:TxD) (hl:t.ops.length≤1000000):FnP prog 62 [.agg (rTx t)] (.agg (rTx t)):=by
 refine FnP.mk func62 rfl ntmps62 rfl fun B a w F V hfr G=>Ya ?_
 refine Zb G (qx 101 r1 (qf (oH [.int .i64 0,.bool false,.slice none 0 0] 102) trivial qz qZ)) V [2,1] [102,101,0] (fun _=>rfl) (fun _=>rfl) fun τ a w F G=>?_
 try dsimp only [RS.sub,SF.sub,CF.sub,csub,Anc.sub,List.map,zCF,Zw,rTx,ZJ,ZT,Zn,rOp] at G
 generalize τ 1=v1,τ 2=v2 at G
 refine Za (Ya ?_)
 replace G:=G.fresh 103 rfl
 refine Zb G (qg 2 101 r1 r1 (qa 101 r1 r1 (qf (Zar 103 (ZqA t.ops hl) func102 rfl kr (Args.one .t) pvOne1) r1 r1 (qg 2 101 r1 r1 (qf (o_storeS 101 .adr kr kr) r2 r1 qZ))))) V [2,1] [103,102,101,0] (fun _=>rfl) (fun _=>rfl) fun τ a w F G=>?_
 try dsimp only [RS.sub,SF.sub,CF.sub,csub,Anc.sub,List.map,Zf,xL,xM,Nat.reduceAdd,xD,xE,xT,xU,xC,xN,zCF,ldSF,Zw,rTx,ZJ,ZT,Zn,rOp] at G
 generalize τ 5=v5 at G
 obtain ⟨F,G⟩:=G.giveCell 103 101 2 rfl rfl rfl rfl rfl
 try dsimp only [List.set] at G
 obtain ⟨F,G⟩:=G.nM [2,1] [102,101,0]
 refine Za (Ya (rZ G (qe 3 101 r1 r1 (qs 3 102 r2 r1 qZ)) V [2] [102,101,0] fun G=>Yh ?_))
 refine Z6 hfr G rfl (.cl 102 true 3 rfl rfl .nil) (.one (.aggU rfl rfl))
theorem ZsL (g:Zr) (id:Int) (hs:Za1 g.txs):FnP prog 28 [.agg (Zw g),.int .i64 id] (.tup [.agg (rTx ((Z5 g.txs id).getD zeroT)),.bool (Z5 g.txs id).isSome]):=by
 refine FnP.mk func28 rfl ntmps28 rfl fun B a w F V hfr G=>?_
 have hsl:=hs.1
 refine Ya (Zb G (qx 101 r1 (qf (oH [.int .i64 0,.bool false,.slice none 0 0] 102) trivial qz qB)) V [5,4,2,1] [102,101,0] (fun _=>rfl) (fun _=>rfl) fun τ a w F G=>?_)
 try dsimp only [RS.sub,SF.sub,CF.sub,csub,Anc.sub,List.map,zCF,Zw,rTx,ZJ,ZT,Zn,rOp] at G
 generalize τ 2=v2,τ 4=v4 at G
 refine Za (Ya (Ya (rZ G (qg 0 101 r1 r1 (qa 101 r1 r1 (qu Ycg r1 (qJ qZ)))) V [11,10,9,5,4,1] [102,101,0] fun G=>Yg ?_)))
 refine Zl (σ:=(Nat)) [1,4,5,9,10] [0,101,102] (fun s=>[(11,.pv (.int .i64 (s:Int)))]) (fun s=>[]) (fun s=>s≤g.txs.length∧(∀ k,k<s→(Nn g.txs k).id≠id)) (fun s=>g.txs.length - s) (0) G ⟨rfl,rfl,rfl,rfl,rfl,rfl,tv⟩ ⟨rfl,rfl,rfl,tv⟩ ⟨Yx _,fun k hk=>absurd hk (Y2 k)⟩ ?_
 clear G;intro i a w F hC G
 try dsimp only at hC
 obtain ⟨F,G⟩:=G.nM [11,10,9,5,4,1] [102,101,0]
 try dsimp only at G
 obtain ⟨hi,hq⟩:=hC
 refine Ya (rZ G (qL r2) V [12,11,10,9,5,4,1] [102,101,0] fun G=>Ya ?_)
 refine Zc G rfl (fun hc0=>?_) (fun hc0=>?_)
 ·have hil:i<g.txs.length:=by simp at hc0;omega
  refine Ye (Za (Ya (Yg (Ya (Zb G (qy 3 Ycg r2 (qf (oR true 3 .t) r1 qz (qf (oH [.int .i64 0,.bool false,.slice none 0 0] 103) trivial qz (qS 3 103 r2 r1 qZ)))) V [11,10,9,7,5,4,1] [103,102,101,0] (fun _=>rfl) (fun _=>rfl) fun τ a w F G=>?_)))))
  try dsimp only [RS.sub,SF.sub,CF.sub,csub,Anc.sub,List.map,Zf,xL,xM,Nat.reduceAdd,xD,xE,xT,xU,xC,xN,zCF,ldSF,Zw,rTx,ZJ,ZT,Zn,rOp] at G
  generalize τ 7=v7 at G
  try simp only [Yb] at G
  refine Za (Ya (rZ G (qg 0 103 r1 r1 (qa 103 r1 r1 (qR rr (qf (o_eql .t .t) r2 qz qZ)))) V [18,11,10,9,7,5,4,1] [103,102,101,0] fun G=>?_))
  refine Zc G rfl (fun hc1=>?_) (fun hc1=>?_)
  ·have hg:Z5 g.txs id=some (Nn g.txs i):=Zsy hil (by simpa using hc1) hq
   refine Ya (rZ G (qe 3 103 r1 r1 (qf (oP (Zhw (Nn g.txs i) (by have:=hs.at hil;omega)) func62 (Args.one (.pagg .t))) r1 qz (qf (oA 3 102 .is (.conv .t .agg)) r2 r1 qB))) V [11,10,9,5,4,1] [103,102,101,0] fun G=>(Yh (ZA (Zk (Zk (ZA (Zk ?_)))))))
   refine Z6 hfr G rfl (.cl 102 true 3 rfl rfl (.tmp rfl .nil)) (.two (by rw [hg];first | exact .aggU rfl rfl | exact .aggLe rfl ⟨.refl,.refl,.nilSl,tv⟩) (.bool (by rw [hg];rfl)))
  have hne:(Nn g.txs i).id≠id:=by simpa using hc1
  refine Ye (Zi (Za (rZ G (qp r1 (qR rr qZ)) V [11,10,9,5,4,1] [103,102,101,0] fun G=>?_)))
  replace G:=G.ent (i:=11) (s':=.pv (.int .i64 ((i+1:Nat):Int))) rfl (.int (Zd ow))
  obtain ⟨F,G⟩:=G.nM [10,9,5,4,1,11] [102,101,0]
  exact ⟨(i+1),F,⟨by omega,(fun k hk=>by rcases Y0 (Y7 hk) with h9 | h9;exact hq k h9;rw [h9];exact hne)⟩,G,by omega⟩
 have hil:i=g.txs.length:=by simp at hc0;omega
 have hg:Z5 g.txs id=none:=Zmn (by rw [← hil];exact hq)
 refine Yw (Zj (Zj (Zo (Za (Ya (rZ G (qf (oB [] [.int .i64 0,.bool false,.slice none 0 0] [(0,1),(1,1),(2,1)] .nil) trivial qz (qs 3 102 r2 r1 qB)) V [5,4] [102,101,0] fun G=>Yh ?_))))))
 refine Z6 hfr G rfl (.cl 102 true 3 rfl rfl (.tmp rfl .nil)) (.two (by rw [hg];first | exact .aggU rfl rfl | exact .aggLe rfl ⟨.refl,.refl,.nilSl,tv⟩) (.bool (by rw [hg];rfl)))
theorem Zwa (g:Zr) (v:Zb0) (hs:Za1 g.txs):FnP prog 90 [.agg (Zw g),.agg (ZT v)] (.bool (ZjW g v)):=by
 refine FnP.mk func90 rfl ntmps90 rfl fun B a w F V hfr G=>Ya ?_
 refine Zb G (qx 101 r1 (qx 102 r1 qB)) V [4,3,2] [102,101,0] (fun _=>rfl) (fun _=>rfl) fun τ a w F G=>?_
 try dsimp only [RS.sub,SF.sub,CF.sub,csub,Anc.sub,List.map,zCF,Zw,rTx,ZJ,ZT,Zn,rOp] at G
 generalize τ 2=v2,τ 3=v3 at G
 refine Za (Ya (Ya (rZ G (qg 0 102 r1 r1 (qa 102 r1 r1 (qf (o_eql .t qi) r1 qz (qR rr (qv 2 102 rfl r2 r1 (qw 102 rfl r2 r1 (qk rfl (fun h=>o_eql (.w h) qi) r2 qz (qf (ZE .t .t) r2 qz qZ)))))))) V [14,4,3,2] [102,101,0] fun G=>?_)))
 refine Zc G rfl (fun hc0=>?_) (fun hc0=>?_)
 ·have h0:(v.tx=0∧v.nth=0):=by simpa using hc0
  have hu:ZjW g v=decide (1≤v.key∧v.key≤1048575):=by unfold ZjW;rw [Yf h0]
  refine Ya (rZ G (qg 1 102 r1 r1 (qa 102 r1 r1 (qf (Zbq .t qi) r1 qz (qR rr (qv 1 102 rfl r2 r1 (qw 102 rfl r2 r1 (qk rfl (fun h=>Zkz (.w h) qi) r2 qz (qf (ZE .t .t) r2 qz (qO rr qZ))))))))) V [4,3,2] [102,101,0] fun G=>(Yh (Zk ?_)))
  refine Zs hfr G rfl rfl rfl (.bool (by first | (rw [hu,Yb2];done) | (rw [hu];unfold idB;rw [Yb2];done) | (unfold ZjW wcnt;rw [Yc h0,Bool.and_assoc])))
 have h0:¬ (v.tx=0∧v.nth=0):=by simpa using hc0
 have hfl:((Z5 g.txs v.tx).getD zeroT).ops.length≤1000:=by cases hf:Z5 g.txs v.tx with | none=>simp [zeroT] | some t=>exact hs.2 _ (findT_mem hf).1
 refine Ye (Za (Ya (Zb G (qe 2 101 r1 r1 (qg 0 102 r1 r1 (qa 102 r1 r1 (qf (oP (ZsL g v.tx hs) func28 (Args.two (.pagg .t) .t)) r2 qz (qR rr (qf (Zh .t rfl) r1 qz (qf (Zh .t rfl) r1 qz (qf (oH [.int .i64 0,.bool false,.slice none 0 0] 103) trivial qz (qf (oA 3 103 .same (.conv .t .agg)) r2 r1 (qO rr qZ)))))))))) V [6,5,4,3] [103,102,101,0] (fun _=>rfl) (fun _=>rfl) fun τ a w F G=>?_)))
 try dsimp only [RS.sub,SF.sub,CF.sub,csub,Anc.sub,List.map,Zf,xL,xM,Nat.reduceAdd,xD,xE,xT,xU,xC,xN,zCF,ldSF,Zw,rTx,ZJ,ZT,Zn,rOp] at G
 generalize τ 5=v5 at G
 refine Za (Ya (Zv G (qR rr (qR rr (qv 2 102 rfl r2 r1 (qw 102 rfl r2 r1 (qk rfl (fun h=>Zbq (.w h) qi) r2 qz (qf (ZE .t .t) r2 qz (qR rr (qk rfl (fun h=>oL true 3 103 .is) r2 r1 (qv 1 102 rfl r2 r1 (qw 102 rfl r2 r1 (qk rfl (fun h=>oP (Zek ((Z5 g.txs v.tx).getD zeroT) v.key ow) func29 (Args.two (.pagg (.w h)) (.w h))) r3 qz (qv 2 102 rfl r2 r1 (qw 102 rfl r2 r1 (qk rfl (fun h=>Zbq (.w h) (.w h)) r3 qz (qf (ZE .t .t) r2 qz (qO rr qZ)))))))))))))))) V [4] [103,102,101,0] rfl rfl fun a w F G=>?_))
 try dsimp only [List.map,xD,xE,xT,xU,ldSF,Zw,rTx,ZJ,ZT,Zn,rOp] at G
 refine Za (Yh (Zs hfr G rfl rfl rfl (.bool (by first | (rw [hu,Yb2];done) | (rw [hu];unfold idB;rw [Yb2];done) | (unfold ZjW wcnt;rw [Yc h0,Bool.and_assoc])))))
theorem Zi8 {α:Type} [Inhabited α] {p:α→Bool} {l:List α} : decide (0≤Z2 p l)=l.any p:=by
 rcases Zaw p l with ⟨h1,h2⟩ | ⟨i,h1,h2,h3,h4⟩
 ·rw [h1,Yaq,show decide ((0:Int) ≤ -1)=false by decide,List.any_eq_false]
  intro x hx
  obtain ⟨k,hk,e⟩:=Yab hx
  have:=h2 k hk
  rw [nth_eq hk,e] at this
  simp [this]
 ·rw [h1,show decide ((0:Int)≤(i:Int))=true by simp,Yaq,Yaz]
  exact ⟨_,nth_mem h2,h3⟩
theorem Ztu {α:Type} {p:α→Bool} {l:List α} : (!l.any fun v=>!p v)=l.all p:=by
 induction l with
 | nil=>rfl
 | cons x l ih=>rw [YbQ,List.all_cons,← ih];cases p x <;> simp
theorem ZtZ (l : List Zb0) (p : Zb0 → Bool) (f : FuncId) (fn : Func) (cps : List PV) (hf : prog.funcs[f]? = some fn) (hb : fn.body.isSome = true) (hnn : (fn.name == "runtime.NumGoroutine") = false) (hw : ∀ x, FnP prog f (.agg (ZT x) :: cps) (.bool (p x))) : FnP prog 138 [.sl ZT l, .clos f cps] (.int .i64 (Z2 p l)) := by
 refine FnP.mk func138 rfl ntmps138 rfl fun B a w F V hfr G=>?_
 have hll:=Sat.lenSl G (i:=0) rfl
 refine Ya (rZ G (qI qZ) V [4,1,0] [0] fun G=>(Ya (Ya ?_)))
 refine rZ G (qR rr (qu underlying139 r1 (qJ qZ))) V [8,7,4,1,0] [0] fun G=>Yg ?_
 refine Zl (σ:=(Nat)) [0,1,4,7] [0] (fun s=>[(8,.pv (.int .i64 (s:Int)))]) (fun s=>[]) (fun s=>s≤l.length∧(∀ k,k<s→p (Nn l k)=false)) (fun s=>l.length - s) (0) G ⟨rfl,rfl,rfl,rfl,rfl,tv⟩ ⟨rfl,tv⟩ ⟨Yx _,fun k hk=>absurd hk (Y2 k)⟩ ?_
 clear G;intro i a w F hC G
 try dsimp only at hC
 obtain ⟨F,G⟩:=G.nM [8,7,4,1,0] [0]
 try dsimp only at G
 obtain ⟨hi,hq⟩:=hC
 refine Ya (rZ G (qL r2) V [9,8,7,4,1,0] [0] fun G=>Ya ?_)
 refine Zc G rfl (fun hc0=>?_) (fun hc0=>?_)
 ·skip
  have hil:i<l.length:=by simp at hc0;omega
  refine Ye (Za (Ya (Yg (Ya (rZ G (qR rr (qO rr qZ)) V [8,7,5,4,1,0] [0] fun G=>Ya ?_)))))
  refine Ze G (qR rr (qR rr (qR rr (qy 3 underlying139 r2 (qf (oR true 3 .t) r1 qz (qf (ZM (avs:=[.agg (ZT (Nn l i))]) .t (hw (Nn l i)) hf hb hnn (Args.one (.pagg .t))) r2 qz qZ)))))) V [16,8,7,5,4,1,0] [0] rfl rfl fun a w F G=>?_
  try simp only [Yb] at G
  refine Za (Zc G rfl (fun hc1=>?_) (fun hc1=>?_))
  ·skip
   have hg:(i:Int)=Z2 p l:=(Zcg hil hc1 hq).symm
   refine Ya (rZ G (qR rr (qO rr qZ)) V [8,7,4,1,0] [0] fun G=>(Yh (ZA (Zk (Zk (ZA (Zk ?_)))))))
   refine Zs hfr G rfl rfl rfl (.int hg)
  have hne:p (Nn l i)=false:=hc1
  refine Ye (Zi (Za (rZ G (qp r1 (qR rr qZ)) V [8,7,4,1,0] [0] fun G=>?_)))
  replace G:=G.ent (i:=8) (s':=.pv (.int .i64 ((i+1:Nat):Int))) rfl (.int (Zd ow))
  obtain ⟨F,G⟩:=G.nM [7,4,1,0,8] [0]
  exact ⟨(i+1),F,⟨by omega,(fun k hk=>by rcases Y0 (Y7 hk) with h | h;exact hq k h;rw [h];exact hne)⟩,G,by omega⟩
 have hil:i=l.length:=by simp at hc0;omega
 have hg : -1=Z2 p l:=(Zbl fun k hk=>hq k (by simp at hc0;omega)).symm
 refine Yw (Zj (Zj (Zo (Za (Ya (rZ G (qI qZ) V [4] [0] fun G=>Yh ?_))))))
 refine Zs hfr G rfl rfl rfl (.int hg)
theorem ZtR (l : List Zb0) (p : Zb0 → Bool) (f : FuncId) (fn : Func) (cps : List PV) (hf : prog.funcs[f]? = some fn) (hb : fn.body.isSome = true) (hnn : (fn.name == "runtime.NumGoroutine") = false) (hw : ∀ x, FnP prog f (.agg (ZT x) :: cps) (.bool (p x))) : FnP prog 87 [.sl ZT l, .clos f cps] (.bool (l.any p)) := by
 refine FnP.mk func87 rfl ntmps87 rfl fun B a w F V hfr G=>Ya ?_
 refine rZ G qB V [4,1,0] [0] fun G=>Ya ?_
 refine rZ G (qR rr (qR rr (qf (oP (ZtZ l p f fn cps hf hb hnn hw) func138 (Args.two .t .t)) r2 qz (qf (Zbq .t qi) r1 qz (qO rr qZ))))) V [4] [0] fun G=>Yh ?_
 refine Zs hfr G rfl rfl rfl (.bool (by rw [Zi8]))
theorem Zol (v:Zb0) (g:Zr) (hs:Za1 g.txs):FnP prog 89 [.agg (ZT v),.ref (Zw g)] (.bool (!ZjW g v)):=by
 refine FnP.mk func89 rfl ntmps89 rfl fun B a w F V hfr G=>Ya ?_
 refine Zb G (qx 101 r1 qB) V [3,2,1] [101,0] (fun _=>rfl) (fun _=>rfl) fun τ a w F G=>?_
 try dsimp only [RS.sub,SF.sub,CF.sub,csub,Anc.sub,List.map,zCF,Zw,rTx,ZJ,ZT,Zn,rOp] at G
 generalize τ 2=v2 at G
 refine Za (Ya (rZ G (qf (oR true 2 .t) r1 qz (qe 3 101 r1 r1 (qf (oP (Zwa g v hs) func90 (Args.two (.pagg .t) (.pagg .t))) r2 qz (qf (o_not .t) r1 qz (qO rr qZ))))) V [3] [101,0] fun G=>Yh ?_))
 refine Zs hfr G rfl rfl rfl .refl
theorem Zmf (g:Zr) (t:TxD) (hs:Za1 g.txs) (ht:t.ops.length≤1000):FnP prog 45 [.agg (Zw g),.agg (rTx t)] (.bool (Zdw g t)):=by
 refine FnP.mk func45 rfl ntmps45 rfl fun B a w F V hfr G=>Ya ?_
 refine Zb G (qx 101 r1 (qx 102 r1 qB)) V [4,3,2] [102,101,0] (fun _=>rfl) (fun _=>rfl) fun τ a w F G=>?_
 try dsimp only [RS.sub,SF.sub,CF.sub,csub,Anc.sub,List.map,zCF,Zw,rTx,ZJ,ZT,Zn,rOp] at G
 generalize τ 2=v2,τ 3=v3 at G
 refine Za (Ya (Zat 2 G kr (cG rfl (oL true 3 102 .is) r1 r1 (cG rfl (oP (ZnF t ow) func88 (Args.one (.pagg .t))) r1 trivial ChainN.nil)) kr (by rw [V];kernel_rfl) fun a w F G=>?_))
 obtain ⟨F,G⟩:=G.nM [6,4,2] [102,101,0]
 try dsimp only [List.map,xD,xE,xT,xU,ldSF,Zw,rTx,ZJ,ZT,Zn,rOp] at G
 obtain ⟨F,G⟩:=G.giveRef 101 2 rfl rfl rfl
 obtain ⟨F,G⟩:=G.nM [6,4,2] [102,0]
 try dsimp only [Go.Gm.unCF] at G
 refine ZaG G kr (cG rfl (ZaT (Args.one .t)) r1 trivial (cG rfl (oP (ZtR (Zf1 t) (fun v=>!ZjW g v) 89 f89 [.ref (Zw g)] func89 rfl kr (fun v=>Zol v g hs)) func87 (Args.two .t .t)) r2 trivial (cG rfl (o_not .t) r1 trivial (cG rfl (oN .t) r1 trivial ChainN.nil)))) kr (by rw [V];kernel_rfl) fun a w F G=>?_
 obtain ⟨F,G⟩:=G.nM [4] [102,0]
 try dsimp only [Zw,rTx,ZJ,ZT,Zn,rOp] at G
 refine Za (Yh (Zs hfr G rfl rfl rfl (.bool (by rw [Ztu];rfl))))
end Go.Proofs.YtlkpllemoepamaaGreat
