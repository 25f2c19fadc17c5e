/- Laws and walks. No condition beyond what each says. -/
import Derived.Test.YtlkpllemoepamaaGreatJ4
import Derived.Deep.QuietTactic
import Derived.BigQuiet
import Derived.Shelf.SlSortCmp.WholeK
import Derived.Sort.LotA
namespace Go.Proofs.YtlkpllemoepamaaGreat
open Go Go.Gm Tryz
set_option linter.unusedVariables false
set_option linter.unusedSimpArgs false
set_option maxHeartbeats 4000000
set_option maxRecDepth 8000
def adjO (O:List (List Z4)) (mask u:Int):List Int:=if 0≤u∧u<O.length then Zbu (((Nn O u.toNat).filter fun e=>ofB mask e.kind).map Z4.node) else []
theorem dgNodesOf_c (l:List Z4) (mask:Int) (hl:l.length≤1000000):FnP prog 198 [.sl Zaj l,.int .i64 mask] (.sl Zo (Zbu ((l.filter fun e=>ofB mask e.kind).map Z4.node))):=by
 refine FnP.mk func198 rfl ntmps198 rfl fun B a w F Z hfr G=>Ya ?_
 refine rZ G (qC qZ) Z [4,1,0] [0] fun G=>Ya ?_
 refine rZ G (qC qZ) Z [5,4,1,0] [0] fun G=>(Ya (Ya ?_))
 refine rZ G (qR rr (qu Yb1 r1 (qJ qZ))) Z [10,9,8,5,4,1] [0] fun G=>Yg ?_
 replace G:=G.fresh 50 rfl
 replace G:=G.turn 50 rfl (ZaP (T:=3) (sz:=1) (R:=Zo))
 refine Zl (σ:=(Nat)×(Value)×(List Int)) [1,4,8,9] [0] (fun s=>[(10,.pv (.int .i64 (s.1:Int))),(5,.pv (.is s.2.1))]) (fun s=>[(50,.ob (.val s.2.1) (ZA 3 1 Zo s.2.2))]) (fun s=>s.1≤l.length∧(s.2.2=(((l.take s.1).filter fun e=>ofB mask e.kind).map Z4.node))) (fun s=>l.length - s.1) ((0),(.slice none 0 0),([])) G ⟨rfl,rfl,rfl,rfl,rfl,rfl,tv⟩ ⟨rfl,rfl,tv⟩ ⟨Yw _,rfl⟩ ?_
 clear G;intro s a w F hC G
 obtain ⟨i,v,out⟩:=s
 try dsimp only at hC
 obtain ⟨F,G⟩:=G.nM [10,9,8,5,4,1] [50,0]
 try dsimp only at G
 obtain ⟨hi,hq⟩:=hC
 have hol:out.length≤i:=by rw [hq,YF];exact Y6 (Y3 _ _) (by rw [Yj];omega)
 refine Ya (rZ G (qL r2) Z [11,10,9,8,5,4,1] [50,0] fun G=>Ya ?_)
 refine Zc G rfl (fun hc0=>?_) (fun hc0=>?_)
 ·have hil:i<l.length:=by simp at hc0;omega
  refine Yf (Za (Ya (Yg (Ya (Zb G (qy 3 Yb1 r2 (qf (oR true 3 .t) r1 qz (qf (oH [.int .i64 0,.int .i64 0,.int .i64 0] 101) trivial qz (qS 3 101 r2 r1 qZ)))) Z [10,9,8,7,5,4,1] [101,50,0] (fun _=>rfl) (fun _=>rfl) fun τ a w F G=>?_)))))
  try dsimp only [RS.sub,SF.sub,CF.sub,csub,Anc.sub,List.map,Zf,xL,xM,Nat.reduceAdd,xD,xE,xT,xU,xC,xN,zCF,ldSF,Zaj,Zal,Zo,ZaB] at G
  generalize τ 7=v7 at G
  try simp only [Yc] at G
  refine Za (Ya (rZ G (qR rr (qg 0 101 r1 r1 (qa 101 r1 r1 (qf (oP (ZqF mask (Nn l i).kind) func210 (Args.two .t .t)) r2 qz qZ)))) Z [17,10,9,8,7,5,4,1] [101,50,0] fun G=>?_))
  refine Zc G rfl (fun hc1=>?_) (fun hc1=>?_)
  ·have hBq:ofB mask (Nn l i).kind=true:=by simpa using hc1
   refine Zb G (qR rr (qg 2 101 r1 r1 (qa 101 r1 r1 (qf (o_buildSliceE (sz:=1) (zs:=[.int .i64 0]) (r:=[(0,.tmp 20)]) (l:=[_]) YbZ kr kr kr kr rfl rfl (.one rfl .t one_int kr .nil) rfl) r1 qz (qf (Z1 (sz:=1) (bs:=8) 50 (.mk' YbZ kr kr) (by intro x;rfl) .is (.arr (l':=[_]) .t) (by simp only [Yd,Yl,Yy,Yj,YJ];omega) (by decide)) ⟨rfl,rfl,tv⟩ ⟨rfl,tv⟩ (qO rr qZ)))))) Z [10,9,8,5,4,1] [101,50,0] (fun _=>rfl) (fun _=>rfl) fun τ a w F G=>?_
   try dsimp only [RS.sub,SF.sub,CF.sub,csub,Anc.sub,List.map,Zf,xL,xM,Nat.reduceAdd,xD,xE,xT,xU,xC,xN,zCF,ldSF,Zaj,Zal,Zo,ZaB] at G
   generalize τ 22=v22 at G
   refine Zk (Za (rZ G (qp r1 (qR rr qZ)) Z [10,9,8,5,4,1] [101,50,0] fun G=>?_))
   replace G:=G.ent (i:=10) (s':=.pv (.int .i64 ((i+1:Nat):Int))) rfl (.int (Zd ow))
   obtain ⟨F,G⟩:=G.nM [9,8,4,1,5,10] [0,50]
   exact ⟨((i+1),_,_),F,⟨by omega,(by rw [Zt hil,Yaa,YK,← hq];simp [hBq])⟩,G,by omega⟩
  have hBq:ofB mask (Nn l i).kind=false:=by simpa using hc1
  refine Yf (Zk (Za (rZ G (qp r1 (qR rr qZ)) Z [10,9,8,5,4,1] [101,50,0] fun G=>?_)))
  replace G:=G.ent (i:=10) (s':=.pv (.int .i64 ((i+1:Nat):Int))) rfl (.int (Zd ow))
  obtain ⟨F,G⟩:=G.nM [9,8,4,1,5,10] [0,50]
  exact ⟨((i+1),_,_),F,⟨by omega,(by rw [Zt hil,Yaa,YK,← hq];simp [hBq])⟩,G,by omega⟩
 have hil:i=l.length:=by simp at hc0;omega
 refine Yx (Zj (Zj (Zr (Za (Ya (rZ G (qR rr (qf (Za3 50 (Zio _ out ow) func92 rfl kr (Args.one .t)) r1 r1 qZ)) Z [5,4] [50,0] fun G=>Ya ?_))))))
 refine Zb G (qR rr (qf (o_callRowN 50 (Zi2 _ _ (by rw [Ybd];omega)) func179 rfl kr (Args.one .t) pvOne1) r1 r1 (qO rr qZ))) Z [4] [50,0] (fun _=>rfl) (fun _=>rfl) fun τ a w F G=>?_
 try dsimp only [RS.sub,SF.sub,CF.sub,csub,Anc.sub,List.map,Zaj,Zal,Zo,ZaB] at G
 generalize τ 27=v27 at G
 refine Za (Yh ?_)
 obtain ⟨F,G⟩:=G.give 50 4 rfl rfl
 refine Zw hfr G rfl rfl rfl (.sl (by rw [ZcW,Zdk,hq,hil,YC]))
def Zdo:Zq:=⟨[],[]⟩
theorem Zau {g:Zq} (h:ZK g):Zgn TxD.id g.txs∧Zgn OrdD.key g.orders:=by
 constructor
 ·have hi:Zdp (g.txs.map TxD.id):=ZeW fun i hi h0=>by
   have hi':i<g.txs.length:=by simpa using hi
   rw [Zcf ow,Zcf hi']
   exact (h.2.1 i hi').1 h0
  rw [Zac]
  exact Ybl.1 hi
 ·have h2:=(ZcT g).2 h.2.2
  have hi:Zdp (g.orders.map OrdD.key):=ZeW fun i hi h0=>by
   have hi':i<g.orders.length:=by simpa using hi
   rw [Zcf ow,Zcf hi']
   exact (h2.2 i hi').1 h0
  rw [Zac]
  exact Ybl.1 hi
def Ztp (t:TxD) (v:ZbN):Bool:=decide (v.tx=t.id) && decide ((wcnt t.ops v.key:Int)<v.nth)
def Zts (t x:TxD):Bool:=decide (x.id≠t.id) && (Zkd x).any (Ztp t)
def Zsy (g:Zq) (t:TxD):Bool:=g.txs.any (Zts t)
def Ztl (g:Zq) (t:TxD) (there:Int) (wanted:Bool):Int×Int:=if ¬ ZK g then (0,5) else if Za7 t≠0 then (0,Za7 t) else if isK TxD.id t.id g.txs≠wanted then (0,there) else if Zkq g t=false then (0,6) else (lowK TxD.id t.id g.txs,0)
def ZnH (g:Zq) (t:TxD):Zq×Int:=if (Ztl g t 4 false).2≠0 then (Zdo,(Ztl g t 4 false).2) else if g.txs.length=4096 then (Zdo,2) else (⟨g.txs.take (lowK TxD.id t.id g.txs) ++ [t] ++ g.txs.drop (lowK TxD.id t.id g.txs),settleO t g.orders⟩,0)
def Zq5 (id:Int):TxD:=⟨id,false,[]⟩
def ZnP (g:Zq) (id:Int):Zq×Int:=if ¬ ZK g then (Zdo,5) else if isK TxD.id id g.txs=false then (Zdo,3) else if Zsy g (Zq5 id)=true then (Zdo,7) else (⟨g.txs.take (lowK TxD.id id g.txs)++g.txs.drop (lowK TxD.id id g.txs+1),settleO (Zq5 id) g.orders⟩,0)
def Zqy (g:Zq) (t:TxD):Zq×Int:=if (Ztl g t 3 true).2≠0 then (Zdo,(Ztl g t 3 true).2) else if Zsy g t=true then (Zdo,7) else (⟨g.txs.set (lowK TxD.id t.id g.txs) t,settleO t g.orders⟩,0)
theorem Zr0 {α:Type} [Inhabited α] {κ:α→Int} {k:Int} {l:List α} (hs:Zgn κ l) (h:isK κ k l=true):lowK κ k l<l.length∧κ (Nn l (lowK κ k l))=k:=by
 obtain ⟨x,hx,hk⟩:=YaJ.1 h
 obtain ⟨q,hq,e⟩:=YY hx
 have hk':κ (Nn l q)=k:=by rw [nth_eq hq,e];simpa using hk
 have hl:=ZfF (κ:=κ) (k:=k) (l:=l) (i:=q) (Nat.le_of_lt hq) (fun p hp=>by have:=hs p q hp hq;omega) (fun p hp hp2=>by have:=Zdg hs hp hp2;omega)
 rw [hl]
 exact ⟨hq,hk'⟩
theorem Zok (l:List Int) (tx place:Int):(Zpy l tx place).1.length≤l.length:=by
 unfold Zpy
 split
 ·simp
 ·split
  ·simp
  ·rename_i h1 h2
   have hr:=Zgq tx l
   have h3:(l.eraseIdx (Zc4 tx l).toNat).length=l.length - 1:=by rw [List.length_eraseIdx,Ye ow]
   show (ZtH _ _ _).length≤_
   unfold ZtH
   split
   ·rw [Yd,Yl,Yj,YJ];omega
   ·omega
def Zg7 (g:Zq) (key:Int) (rule:List Int→List Int×Int):Zq×Int:=if ¬ ZK g then (Zdo,5) else if isK OrdD.key key g.orders=false then (Zdo,3) else if (rule (Nn g.orders (lowK OrdD.key key g.orders)).txs).2≠0 then (Zdo,(rule (Nn g.orders (lowK OrdD.key key g.orders)).txs).2) else (⟨g.txs,g.orders.set (lowK OrdD.key key g.orders) ⟨(Nn g.orders (lowK OrdD.key key g.orders)).key,(rule (Nn g.orders (lowK OrdD.key key g.orders)).txs).1⟩⟩,0)
def ZsQ (o:OrdD) (l:List Int):List Int×Int:=if l.Perm o.txs then (o.txs,0) else ([],8)
def ZoH (g:Zq) (o:OrdD):Zq×Int:=Zg7 g o.key (ZsQ o)
def Ztz (g:Zq) (key id place:Int):Zq×Int:=Zg7 g key fun l=>Zpy l id place
section
set_option linter.unusedSectionVars false
variable {α:Type} {κ:α→Int} {t x:α} {l out r:List α} {d:Bool}
def ZfN (κ:α→Int) (t:α):List α→Bool→List α
 | [],d=>if d=true then [] else [t]
 | x :: l,d=>(if d=false∧κ t≤κ x then [t] else [])++(if κ x=κ t then [] else [x])++ZfN κ t l (d || decide (κ t≤κ x))
theorem ZdT:∀ l:List α,ZfN κ t l true=l.filter fun x=>!decide (κ x=κ t)
 | []=>rfl
 | x :: l=>by
  rw [ZfN,Yb (by simp),Yam,YbT,ZdT l]
  split
  ·rename_i h;rw [Yag (by simpa using h)];rfl
  ·rename_i h;rw [Yab (by simpa using h)];rfl
theorem Zjf {k:Int} (h:∀ x ∈ l,k<κ x):(l.filter fun x=>!decide (κ x=k))=l:=by
 rw [Ya5]
 intro x hx
 have:=h x hx
 simp;omega
theorem ZmB {k:Int} : lowK κ k (x :: l)=if κ x<k then lowK κ k l+1 else 0:=by
 unfold lowK
 split
 ·rename_i h1;rw [List.takeWhile_cons_of_pos (by simpa using h1),Yl]
 ·rename_i h1;rw [List.takeWhile_cons_of_neg (by simpa using h1)];rfl
theorem Zqm {k:Int} : isK κ k (x :: l)=(decide (κ x=k) || isK κ k l):=by unfold isK;rw [YbN]
theorem ZnF (hs:l.Pairwise fun a b=>κ a<κ b) (hk:isK κ (κ t) l=false):ZfN κ t l false=l.take (lowK κ (κ t) l) ++ [t] ++ l.drop (lowK κ (κ t) l):=by
 induction l with
 | nil=>rfl
 | cons x l ih=>
  rw [Yq] at hs
  rw [Zqm,YbE,YH] at hk
  rw [ZfN,Yb hk.1,ZmB]
  by_cases h:κ x<κ t
  ·rw [Yb ow,Ye h,show (false || decide (κ t≤κ x))=false by simp;omega,ih hs.2 hk.2];simp
  ·rw [Ye ⟨rfl,by omega⟩,Yb h,show (false || decide (κ t≤κ x))=true by simp;omega,ZdT,Zjf fun y hy=>by have:=hs.1 y hy;omega];simp
theorem Zne {y:α} (h:y ∈ ZfN κ t l d):(y=t∧d=false)∨(y ∈ l∧κ y≠κ t):=by
 induction l generalizing d with
 | nil=>cases d <;> simp [ZfN] at h;exact .inl ⟨h,rfl⟩
 | cons x l ih=>
  rw [ZfN,YA,YA] at h
  rcases h with (h | h) | h
  ·split at h
   ·rename_i h1;exact .inl ⟨by simpa using h,h1.1⟩
   ·cases h
  ·split at h
   ·cases h
   ·rename_i h1
    have e:y=x:=by simpa using h
    subst e
    exact .inr ⟨by simp,h1⟩
  ·rcases ih h with ⟨h1,h2⟩ | ⟨h1,h2⟩
   ·rw [YbE] at h2;exact .inl ⟨h1,h2.1⟩
   ·exact .inr ⟨by simp [h1],h2⟩
theorem Zk5 (hs:l.Pairwise fun a b=>κ a<κ b):(ZfN κ t l d).Pairwise fun a b=>κ a<κ b:=by
 induction l generalizing d with
 | nil=>cases d <;> simp [ZfN]
 | cons x l ih=>
  rw [Yq] at hs
  have hf:=hs.2.filter fun x=>!decide (κ x=κ t)
  rw [ZfN]
  by_cases hA:d=false∧κ t≤κ x
  ·rw [Ye hA,show (d || decide (κ t≤κ x))=true by simp [hA.2],ZdT]
   have h1:∀ y ∈ l.filter (fun x=>!decide (κ x=κ t)),κ x<κ y:=fun y hy=>hs.1 y (YV.1 hy).1
   split
   ·rw [YN,YaB,Yq]
    exact ⟨fun y hy=>by have:=h1 y hy;omega,hf⟩
   ·rename_i h2
    rw [YP,YaB,YaB,Yq,Yq]
    refine ⟨fun y hy=>?_,h1,hf⟩
    rcases Yk.1 hy with rfl | hy
    ·omega
    ·have:=h1 y hy;omega
  ·rw [Yb hA,Yam]
   have ih2:=ih (d:=d || decide (κ t≤κ x)) hs.2
   split
   ·simpa using ih2
   ·rename_i h2
    rw [YaB,Yq]
    refine ⟨fun y hy=>?_,ih2⟩
    rcases Zne hy with ⟨rfl,h3⟩ | ⟨h3,_⟩
    ·rw [YbE] at h3
     have:=YE h3.2
     omega
    ·exact hs.1 y h3
end
def getO (os:List OrdD) (k:Int):List Int:=((os.find? fun o=>decide (o.key=k)).map OrdD.txs).getD []
theorem Zih {o:OrdD} {os:List OrdD} {k:Int} : getO (o :: os) k=if o.key=k then o.txs else getO os k:=by
 unfold getO
 rw [YbO]
 by_cases h:o.key=k <;> simp [h]
theorem ZnD {os:List OrdD} {k:Int} (h:∀ o ∈ os,o.key≠k):getO os k = []:=by
 unfold getO
 rw [Ybv.2 fun o ho=>by simpa using h o ho];rfl
theorem ZdF {os:List OrdD} {o:OrdD} (hs:os.Pairwise fun a b=>a.key<b.key) (h:o ∈ os):getO os o.key=o.txs:=by
 induction os with
 | nil=>cases h
 | cons x os ih=>
  rw [Yq] at hs
  rw [Zih]
  rcases Yk.1 h with rfl | h
  ·rw [Ye rfl]
  ·have:=hs.1 o h
   rw [Yb ow,ih hs.2 h]
theorem ZgK {os:List OrdD} {k:Int} (h:getO os k≠[]):(⟨k,getO os k⟩:OrdD) ∈ os:=by
 induction os with
 | nil=>exact absurd rfl h
 | cons x os ih=>
  rw [Zih] at h ⊢
  by_cases e:x.key=k
  ·rw [Ye e];subst e;simp
  ·rw [Yb e] at h ⊢;simp [ih h]
def NE (os:List OrdD):Prop:=∀ o ∈ os,o.txs≠[]
theorem Zsi {os:List OrdD} {k:Int} {i:Nat} (hi:i<os.length) (h:(Nn os i).key=k) (hq:∀ q,q<i→(Nn os q).key≠k):getO os k=(Nn os i).txs:=by
 unfold getO
 rw [List.find?_eq_some_iff_getElem.2 ⟨by simpa using h,i,hi,(nth_eq hi).symm,fun j hj=>by have:=hq j hj;rw [nth_eq ow] at this;simpa using this⟩];rfl
theorem ZrP {os:List OrdD} {k:Int} (hq:∀ q,q<os.length→(Nn os q).key≠k):getO os k = []:=ZnD fun o ho=>by
 obtain ⟨j,hj,e⟩:=YY ho
 have:=hq j hj
 rwa [nth_eq hj,e] at this
theorem Zkr {l:List Z4} {e:Z4} (h:Zgn ZaH l) (hk:isK ZaH (ZaH e) l=false):Zgn ZaH (insE l e)∧(∀ s,s ∈ insE l e ↔ s ∈ l∨s=e)∧(insE l e).length=l.length+1:=by
 have hm:∀ s,s ∈ insE l e ↔ s ∈ l∨s=e:=fun s=>by
  unfold insE
  rw [YA,YA,Yi]
  constructor
  ·rintro ((h1 | h1) | h1)
   ·exact .inl (Yao h1)
   ·exact .inr h1
   ·exact .inl (Ybf h1)
  ·rintro (h1 | h1)
   ·rw [← Yby (lowK ZaH (ZaH e) l) l,YA] at h1
    rcases h1 with h1 | h1
    ·exact .inl (.inl h1)
    ·exact .inr h1
   ·exact .inl (.inr h1)
 refine ⟨?_,hm,?_⟩
 ·unfold insE
  rw [← ZnF (Zac.1 h) hk]
  exact Zac.2 (Zk5 (Zac.1 h))
 ·have:=Znk (κ:=ZaH) (k:=ZaH e) l
  unfold insE
  simp only [Yd,Yj,YJ,Yar]
  omega
def ZqU (L:List (List Z4)) (m:Nat):Prop:=∀ l ∈ L,l.length≤m∧Zgn ZaH l ∧ ∀ e ∈ l,okE e
theorem ZqU.r {L:List (List Z4)} {m:Nat} (h:ZqU L m) (hm:m≤1000000):Ztm L:=fun l hl=>⟨Y6 (h l hl).1 hm,(h l hl).2⟩
theorem ZqU.set {L:List (List Z4)} {m k:Nat} {e:Z4} (h:ZqU L m) (hk:k<L.length) (he:okE e) (hn:isK ZaH (ZaH e) (Nn L k)=false):ZqU (L.set k (insE (Nn L k) e)) (m+1):=fun l hl=>by
 rcases List.mem_or_eq_of_mem_set hl with h1 | rfl
 ·exact ⟨Nat.le_succ_of_le (h l h1).1,(h l h1).2⟩
 ·obtain ⟨a1,a2,a3⟩:=h _ (nth_mem hk)
  obtain ⟨b1,b2,b3⟩:=Zkr a2 hn
  exact ⟨by omega,b1,fun s hs=>((b2 s).1 hs).elim (a3 s) fun h9=>h9 ▸ he⟩
theorem Zoh {l:List Z4} {e:Z4} (hl:∀ s ∈ l,okE s) (he:okE e):isK ZaH (ZaH e) l=true ↔ e ∈ l:=by
 unfold isK
 rw [YaJ]
 constructor
 ·rintro ⟨s,h1,h2⟩;exact keyE_inj (hl s h1) he (Yt h2) ▸ h1
 ·exact fun h=>⟨e,h,Yaf rfl⟩
structure Zcz (n:Nat) (E:List Zu) (O I:List (List Z4)):Prop where
 ol:O.length=n
 il:I.length=n
 on:ZqU O E.length
 inn:ZqU I E.length
 ok:∀ x ∈ E,Zaz n x=true
 om:∀ u:Nat,u<n → ∀ e,e ∈ Nn O u ↔ ∃ x ∈ E,x.src=(u:Int)∧endO x=e
 im:∀ u:Nat,u<n → ∀ e,e ∈ Nn I u ↔ ∃ x ∈ E,x.dst=(u:Int)∧endI x=e
theorem Zcz.outK {n:Nat} {E:List Zu} {O I:List (List Z4)} {x:Zu} (h:Zcz n E O I) (hn:n≤4096) (hx:Zaz n x=true):isK ZaH (ZaH (endO x)) (Nn O x.src.toNat)=true ↔ x ∈ E:=by
 obtain ⟨⟨s1,s2⟩,⟨d1,d2⟩,_⟩:=ZY.1 hx
 have hu:x.src.toNat<n:=by omega
 rw [Zoh (h.on _ (nth_mem (by rw [h.ol];exact hu))).2.2 (endO_ok hx hn),h.om _ hu]
 constructor
 ·rintro ⟨y,y1,y2,y3⟩
  have e:y=x:=by
   cases y;cases x
   simp only [endO,Z4.mk.injEq] at y3
   simp only at y2 s1
   obtain ⟨a,b,c⟩:=y3
   rw [Ya4 s1] at y2
   subst a;subst b;subst c;subst y2;rfl
  exact e ▸ y1
 ·exact fun k=>⟨x,k,by rw [Ya4 s1],rfl⟩
theorem Zcz.has {n:Nat} {E:List Zu} {O I:List (List Z4)} {x:Zu} (h:Zcz n E O I) (hn:n≤4096):ZoA O x=true ↔ Zaz n x=true∧x ∈ E:=by
 unfold ZoA
 rw [h.ol,Yr]
 exact ⟨fun k=>⟨k.1,(h.outK hn k.1).1 k.2⟩,fun k=>⟨k.1,(h.outK hn k.1).2 k.2⟩⟩
theorem Zcz.inK {n:Nat} {E:List Zu} {O I:List (List Z4)} {x:Zu} (h:Zcz n E O I) (hn:n≤4096) (hx:Zaz n x=true):isK ZaH (ZaH (endI x)) (Nn I x.dst.toNat)=true ↔ x ∈ E:=by
 obtain ⟨⟨s1,s2⟩,⟨d1,d2⟩,_⟩:=ZY.1 hx
 have hu:x.dst.toNat<n:=by omega
 rw [Zoh (h.inn _ (nth_mem (by rw [h.il];exact hu))).2.2 (endI_ok hx hn),h.im _ hu]
 constructor
 ·rintro ⟨y,y1,y2,y3⟩
  have e:y=x:=by
   cases y;cases x
   simp only [endI,Z4.mk.injEq] at y3
   simp only at y2 d1
   obtain ⟨a,b,c⟩:=y3
   rw [Ya4 d1] at y2
   subst a;subst b;subst c;subst y2;rfl
  exact e ▸ y1
 ·exact fun k=>⟨x,k,by rw [Ya4 d1],rfl⟩
theorem ZjC {n:Nat} {E:List Zu} {L:List (List Z4)} {x:Zu} {f:Zu→Int} {g:Zu→Z4} (hl:L.length=n) (hm:∀ u:Nat,u<n → ∀ e,e ∈ Nn L u ↔ ∃ x ∈ E,f x=(u:Int)∧g x=e) (h0:0≤f x) (hr:Zgn ZaH (Nn L (f x).toNat)) (hk:isK ZaH (ZaH (g x)) (Nn L (f x).toNat)=false) :
  ∀ u:Nat,u<n → ∀ e,e ∈ Nn (L.set (f x).toNat (insE (Nn L (f x).toNat) (g x))) u ↔ ∃ y ∈ E ++ [x],f y=(u:Int)∧g y=e:=fun u hu e=>by
 rw [Ztu ow]
 have hex:(∃ y ∈ E ++ [x],f y=(u:Int)∧g y=e) ↔ (∃ y ∈ E,f y=(u:Int)∧g y=e)∨(f x=(u:Int)∧g x=e):=by
  constructor
  ·rintro ⟨y,y1,y2⟩
   rcases YA.1 y1 with y1 | y1
   ·exact .inl ⟨y,y1,y2⟩
   ·rw [Yi.1 y1] at y2;exact .inr y2
  ·rintro (⟨y,y1,y2⟩ | k)
   ·exact ⟨y,Yae _ y1,y2⟩
   ·exact ⟨x,by simp,k⟩
 rw [hex]
 by_cases hc:(f x).toNat=u
 ·rw [Ye hc,(Zkr hr hk).2.1,hc,hm u hu]
  constructor
  ·rintro (k | k)
   ·exact .inl k
   ·exact .inr ⟨by omega,k.symm⟩
  ·rintro (k | k)
   ·exact .inl k
   ·exact .inr k.2.symm
 ·rw [Yb hc,hm u hu]
  exact ⟨.inl,fun k=>k.elim id fun k=>absurd ow hc⟩
theorem Zcz.add {n:Nat} {E:List Zu} {O I:List (List Z4)} {x:Zu} (h:Zcz n E O I) (hn:n≤4096) (hx:Zaz n x=true) (hne:x ∉ E):Zcz n (E ++ [x]) (O.set x.src.toNat (insE (Nn O x.src.toNat) (endO x))) (I.set x.dst.toNat (insE (Nn I x.dst.toNat) (endI x))):=by
 have ko:=Bool.eq_false_iff.2 (fun k=>hne ((h.outK hn hx).1 k))
 have ki:=Bool.eq_false_iff.2 (fun k=>hne ((h.inK hn hx).1 k))
 obtain ⟨⟨s1,s2⟩,⟨d1,d2⟩,_⟩:=ZY.1 hx
 have hl:=h.ol
 have hl2:=h.il
 have so:x.src.toNat<O.length:=by omega
 have si:x.dst.toNat<I.length:=by omega
 refine ⟨by simp [hl],by simp [hl2],?_,?_,fun y hy=>?_,?_,?_⟩
 ·rw [Yd];exact h.on.set so (endO_ok hx hn) ko
 ·rw [Yd];exact h.inn.set si (endI_ok hx hn) ki
 ·rcases YA.1 hy with hy | hy
  ·exact h.ok y hy
  ·rw [Yi.1 hy];exact hx
 ·exact ZjC (f:=Zu.src) (g:=endO) hl h.om s1 (h.on _ (nth_mem so)).2.1 ko
 ·exact ZjC (f:=Zu.dst) (g:=endI) hl2 h.im d1 (h.inn _ (nth_mem si)).2.1 ki
def Zlz (n:Nat) (E:List Zu) (x:Zu):List Zu:=if Zaz n x=true∧x ∉ E then E ++ [x] else E
theorem ZpD {n:Nat} {E:List Zu} {x y:Zu} : y ∈ Zlz n E x ↔ y ∈ E∨(y=x∧Zaz n y=true):=by
 unfold Zlz
 split
 ·rename_i h
  rw [YA,Yi]
  exact ⟨fun k=>k.elim .inl fun e=>.inr ⟨e,e ▸ h.1⟩,fun k=>k.elim .inl fun e=>.inr e.1⟩
 ·rename_i h
  refine ⟨.inl,fun k=>k.elim id fun ⟨e,hr⟩=>?_⟩
  subst e
  exact YaI fun hx=>h ⟨hr,hx⟩
theorem ZkR {n:Nat} : ∀ {L E:List Zu} {y:Zu},y ∈ L.foldl (Zlz n) E ↔ y ∈ E∨(y ∈ L∧Zaz n y=true)
 | [],E,y=>by simp
 | x :: L,E,y=>by
  rw [Yav,ZkR,ZpD,Yk]
  constructor
  ·rintro ((h | ⟨h,k⟩) | ⟨h,k⟩)
   ·exact .inl h
   ·exact .inr ⟨.inl h,k⟩
   ·exact .inr ⟨.inr h,k⟩
  ·rintro (h | ⟨h | h,k⟩)
   ·exact .inl (.inl h)
   ·exact .inl (.inr ⟨h,k⟩)
   ·exact .inr ⟨h,k⟩
theorem Zmm {n:Nat} (E:List Zu) (x:Zu):(Zlz n E x).length≤E.length+1:=by
 unfold Zlz;split <;> simp
theorem Zhp {n:Nat} : ∀ (L E:List Zu),(L.foldl (Zlz n) E).length≤E.length+L.length
 | [],E=>YL _
 | x :: L,E=>by
  have h1:=Zhp (n:=n) L (Zlz n E x)
  have h2:=Zmm (n:=n) E x
  rw [Yav,Yl];omega
theorem Zcz.new (n:Nat):Zcz n [] (List.replicate n []) (List.replicate n []):=by
 have hn:∀ u:Nat,u<n→Nn (List.replicate n ([]:List Z4)) u = []:=fun u hu=>by
  rw [nth_eq (by simpa using hu)];simp
 have hd:ZqU (List.replicate n []) ([]:List Zu).length:=fun l hl=>by
  rw [(List.mem_replicate.1 hl).2];exact ⟨YL _,Zac.2 .nil,fun e h=>by cases h⟩
 exact ⟨by simp,by simp,hd,hd,(fun x h=>by cases h),(fun u hu e=>by rw [hn u hu];simp),(fun u hu e=>by rw [hn u hu];simp)⟩
theorem Zcz.step {n:Nat} {E:List Zu} {O I:List (List Z4)} (h:Zcz n E O I) (hn:n≤4096) (x:Zu) (m:Nat):Zcz n (Zlz n E x) (Zd9 O I m x).1 (Zd9 O I m x).2.1∧(Zd9 O I m x).2.2.1≤m+1:=by
 unfold Zd9 Zlz
 rw [h.ol]
 by_cases hr:Zaz n x=true
 ·rw [Ye hr]
  by_cases hx:x ∈ E
  ·rw [Ye ((h.has hn).2 ⟨hr,hx⟩),Yb (fun k=>k.2 hx)];exact ⟨h,Nat.le_succ _⟩
  ·rw [Yb (fun k=>hx ((h.has hn).1 k).2),Ye ⟨hr,hx⟩];exact ⟨h.add hn hr hx,YL _⟩
 ·rw [Yb hr,Yb (fun k=>hr k.1)];exact ⟨h,Nat.le_succ _⟩
theorem Zmc (l:List Ze) (hl:l.length≤1000000):FnG prog 124 1 [.sl Zn l] [.star []] (PV.one) (fun v=>[ZA 42 4 Zn l v]):=by
 refine FnG.mk func124 rfl ntmps124 rfl kr fun B F0 a w F Z hG G=>?_
 obtain ⟨F,G⟩:=G.nM [0] [0]
 refine Ya (rZ G (qC qZ) Z [2,0] [0] fun G=>(Ya (Ya ?_)))
 refine Zg G (qR rr (qf (Zbm Yb0 .t) r1 qz qZ)) Z [4,2,0] [0] rfl rfl fun a w F G=>?_
 obtain ⟨β4,hβ4,G⟩:=G.pickBool 4 rfl
 obtain ⟨F,G⟩:=G.nM [4,2,0] [0]
 refine Za (Zc G rfl (fun hc0=>?_) (fun hc0=>?_))
 ·have hg:l = []:=hβ4 hc0
  refine Ya (rZ G (qC qZ) Z [2,0] [0] fun G=>(Yh (Zm ?_)))
  have G:=G.fresh 1 rfl
  have G:=G.turn 1 rfl (ZaP (T:=42) (sz:=4) (R:=Zn))
  have G:=G.turn 1 rfl (r':=RS.hp (ZA 42 4 Zn l (.slice none 0 0))) (fun _ _ _ _ h=>by rw [hg];exact h)
  refine Z9 (h':=fun v=>ZA 42 4 Zn l v) hG G rfl (.tmp rfl .nil) (.one .one) rfl
 have hg:l = [] ++ l:=rfl
 refine Yf (Za (Ya (Zb G (qf (ZaL (R:=Zn) (sz:=4) 101 Yb0 kr) trivial qz (qR rr (qf (Z1 (sz:=4) (bs:=32) 101 (.mk' Yb0 kr kr) (by intro x;rfl) .same (.sl .t) (by simp only [Yd,Yy];omega) (by decide)) ⟨rfl,rfl,tv⟩ ⟨rfl,tv⟩ (qO rr qZ)))) Z [2] [101,0] (fun _=>rfl) (fun _=>rfl) fun τ a w F G=>?_)))
 try dsimp only [RS.sub,SF.sub,CF.sub,csub,Anc.sub,List.map,Zf,xL,xM,Nat.reduceAdd,xD,xE,xT,xU,xC,xN,zCF,Zn] at G
 generalize τ 7=v7 at G
 refine Za (Yh ?_)
 obtain ⟨F,G⟩:=G.rename 101 1 rfl rfl
 have G:=G.turn 1 rfl (r':=RS.hp (ZA 42 4 Zn l v7)) (fun _ _ _ _ h=>by rw [hg];exact h)
 refine Z9 (h':=fun v=>ZA 42 4 Zn l v) hG G rfl (.tmp rfl .nil) (.one .one) rfl
theorem Zjd (v:Value) (l:List Ze) (hll:l.length≤1000000):FnG prog 175 1 [.is v] [ZA 42 4 Zn l v] (PV.one) (fun v=>[ZA 42 4 Zn (Zp l) v]):=by
 refine FnG.mk func175 rfl ntmps175 rfl kr fun B F0 a w F Z hG G=>?_
 replace G:=G.turn 1 rfl (r':=.ob (.val v) (ZA 42 4 Zn l)) (fun _ _ _ _ h=>h)
 refine Ya (rZ G (qC qZ) Z [2,0] [1,0] fun G=>(Ya (Ya ?_)))
 refine rZ G (qR rr (qf (Zas 1 Yb0 .is) r1 r1 (qf (ZaD .t qi) r1 qz qZ))) Z [8,2,0] [1,0] fun G=>?_
 refine Zc G rfl (fun hc0=>?_) (fun hc0=>?_)
 ·have hg:(Zp l)=l:=ZbC (by simp at hc0;omega)
  refine Ya (rZ G (qR rr (qO rr qZ)) Z [2,0] [1,0] fun G=>(Yh (Zm ?_)))
  have G:=G.turn 1 rfl (r':=RS.hp (ZA 42 4 Zn (Zp l) v)) (fun _ _ _ _ h=>by rw [hg];exact h)
  refine Z9 (h':=fun v=>ZA 42 4 Zn (Zp l) v) hG G rfl (.tmp rfl .nil) (.one .one) rfl
 have hl2:2≤l.length:=by simp at hc0;omega
 refine Yf (Za (Ya (Ya (rZ G (qI qZ) Z [3,2,0] [1,0] fun G=>Yg ?_))))
 refine Zl (σ:=Nat) [0,2] [0,1] (fun s=>[(3,.pv (.int .i64 (s:Int)))]) (fun s=>[]) (fun s=>1≤s∧s≤l.length∧Zp (l.take s)=l.take s) (fun s=>l.length - s) (1) G ⟨rfl,rfl,rfl,tv⟩ ⟨rfl,rfl,tv⟩ ⟨by omega,by omega,ZbC (by rw [Yj];omega)⟩ ?_
 clear G;intro k a w F hC G
 try dsimp only at hC
 obtain ⟨F,G⟩:=G.nM [3,2,0] [1,0]
 try dsimp only at G
 obtain ⟨hk1,hkl,hkc⟩:=hC
 have hkw:IntKind.wrap .i64 ((k:Int) - 1)=(k:Int) - 1:=ZC ow
 refine Ya (Ya (rZ G (qR rr (qR rr (qf (Zas 1 Yb0 .is) r1 r1 (qL r2)))) Z [13,3,2,0] [1,0] fun G=>?_))
 refine Zc G rfl (fun hc1=>?_) (fun hc1=>?_)
 ·have hil:k<l.length:=by simp at hc1;omega
  have hst:=Zbi (l:=l) hk1 hil
  have hy0:(IntKind.wrap .i64 ((k:Int) - 1)).toNat=k - 1:=by rw [hkw];omega
  refine Yf (Za (Ya (Yg (Ya (Zz G (qR rr (qR rr (qf (o_indexAddr_row (sz:=4) 1 (.mk Yb0 kr) .is .t ow ow (by rfl)) r2 r1 (qf (ZD (ag:=true) (sz':=4) (sz:=4) 1 .t (by intro x;rfl) ow kr kr kr) r1 r1 (qR rr (qR rr (qf (o_sub .t qi) r1 qz (qf (o_indexAddr_row (sz:=4) 1 (.mk Yb0 kr) .is .t (by rw [hkw];omega) (by rw [hkw];omega) (by rfl)) r2 r1 (qf (ZD (ag:=true) (sz':=4) (sz:=4) 1 .t (by intro x;rfl) (by rw [hkw];omega) kr kr kr) r1 r1 (qf (o_eqlS (ks:=[true,true,true,true]) kr .t .t (.int (.int (.int (.int .nil))))) r2 qz qZ)))))))))) Z [25,3,2,0] [1,0] rfl rfl fun a w F G=>?_)))))
  try dsimp only [List.map,xD,xE,xT,xU,ldSF,Zn] at G
  try simp only [Yc] at G
  refine Za (Zc G rfl (fun hc2=>?_) (fun hc2=>?_))
  ·have heq:Nn l (k - 1)=Nn l k:=by rw [hy0] at hc2;simp only [Ztk] at hc2;simp at hc2;exact hc2.symm
   rw [Ye heq,hkc] at hst
   have hst0:=hst.symm
   refine Ya (rZ G (qR rr (qR rr (qf (ZaN (sz:=4) 1 (.mk Yb0 kr) .is .t ow ow) r2 r1 (qO rr qZ)))) Z [4,3,2,0] [1,0] fun G=>(Ya (Ya ?_)))
   refine rZ G (qI qZ) Z [5,4,3,2,0] [1,0] fun G=>Yg ?_
   have hC0:1≤1∧1≤l.length - k∧k≤k∧k≤k+1 - 1∧l.length=l.length∧l.take k=Zp (l.take (k+1)) ∧ ∀ q,k+1 - 1≤q→q<l.length→Nn l q=Nn l q:=⟨by omega,by omega,by omega,by omega,rfl,hst0,fun q _ _=>rfl⟩
   refine Zl (σ:=Nat×Nat×List Ze) [0,2,4] [0] (fun s=>[(3,.pv (.int .i64 (s.1:Int))),(5,.pv (.int .i64 (s.2.1:Int)))]) (fun s=>[(1,.ob (.val v) (ZA 42 4 Zn s.2.2))]) (fun s=>1≤s.2.1∧s.2.1≤l.length - k∧k≤s.1∧s.1≤k+s.2.1 - 1∧s.2.2.length=l.length∧s.2.2.take s.1=Zp (l.take (k+s.2.1)) ∧ ∀ q,k+s.2.1 - 1≤q→q<l.length→Nn s.2.2 q=Nn l q) (fun s=>l.length - s.2.1) ((k),(1),(l)) G ⟨rfl,rfl,rfl,rfl,rfl,tv⟩ ⟨rfl,rfl,tv⟩ hC0 ?_
   clear G;intro s a w F hC G
   obtain ⟨k1,j,l1⟩:=s
   try dsimp only at hC
   obtain ⟨F,G⟩:=G.nM [5,4,3,2,0] [1,0]
   try dsimp only at G
   obtain ⟨hj1,hjk,hkk,hkj,hl1,htk,hrest⟩:=hC
   have hjw:IntKind.wrap .i64 ((j:Int) - 1)=(j:Int) - 1:=ZC ow
   refine Ya (Ya (rZ G (qR rr (qR rr (qf (ZhE 1 Yb0 .t ow) r1 r1 (qL r2)))) Z [32,5,4,3,2,0] [1,0] fun G=>?_))
   refine Zc G rfl (fun hc3=>?_) (fun hc3=>?_)
   ·have hjl:k+j<l.length:=by simp at hc3;omega
    have hx1:(Nn l1 (((k:Int)).toNat+((j:Int)).toNat))=Nn l (k+j):=by rw [Yc,Yc];exact hrest _ ow hjl
    have hx0:Nn l1 (((k:Int)).toNat+(IntKind.wrap .i64 ((j:Int) - 1)).toNat)=Nn l (k+j - 1):=by rw [hjw,show ((k:Int)).toNat+((j:Int) - 1).toNat=k+j - 1 by omega];exact hrest _ ow ow
    have hstp:=Zbi (l:=l) (p:=k+j) ow hjl
    refine Yf (Za (Ya (Yg (Ya (Zz G (qR rr (qR rr (qf (o_indexAddr_sub (sz:=4) 1 (.mk Yb0 kr) .t .t ow ow (by rfl)) r2 r1 (qf (ZD (ag:=true) (sz':=4) (sz:=4) 1 .t (by intro x;rfl) ow kr kr kr) r1 r1 (qR rr (qR rr (qf (o_sub .t qi) r1 qz (qf (o_indexAddr_sub (sz:=4) 1 (.mk Yb0 kr) .t .t (by rw [hjw];omega) (by rw [hjw];omega) (by rfl)) r2 r1 (qf (ZD (ag:=true) (sz':=4) (sz:=4) 1 .t (by intro x;rfl) (by rw [hjw];omega) kr kr kr) r1 r1 (qf (o_neqS (ks:=[true,true,true,true]) kr .t .t (.int (.int (.int (.int .nil))))) r2 qz qZ)))))))))) Z [44,5,4,3,2,0] [1,0] rfl rfl fun a w F G=>?_)))))
    try dsimp only [List.map,xD,xE,xT,xU,ldSF,Zn] at G
    try simp only [Yc] at G
    refine Za (Zc G rfl (fun hc4=>?_) (fun hc4=>?_))
    ·have hne:¬ Nn l (k+j - 1)=Nn l (k+j):=by rw [← hx1,← hx0];simp only [Ztk] at hc4;simp at hc4 ⊢;exact fun e=>hc4 e.symm
     rw [Yb hne] at hstp
     obtain ⟨i2,hi2e⟩:∃ i2,i2=k1+1:=⟨_,rfl⟩
     have hi2:IntKind.wrap .i64 ((k1:Int)+1)=(i2:Int):=by rw [hi2e];exact Zd ow
     obtain ⟨l2,hl2e⟩:∃ l2,l2=l1.set k1 (Nn l1 (k+j)):=⟨_,rfl⟩
     have hx1b:Nn l1 (k+j)=Nn l (k+j):=hrest _ ow hjl
     have hC2:1≤j+1∧j+1≤l.length - k∧k≤i2∧i2≤k+(j+1) - 1∧l2.length=l.length∧l2.take i2=Zp (l.take (k+(j+1))) ∧ ∀ q,k+(j+1) - 1≤q→q<l.length→Nn l2 q=Nn l q:=⟨by omega,by omega,by omega,by omega,by rw [hl2e,YR];exact hl1,by rw [hl2e,hi2e,Zt (by rw [YR];omega),List.take_set_of_le (YL _),htk,nth_eq (by rw [YR];omega),Ybz,hx1b];exact hstp.symm,fun q hq hq2=>by rw [hl2e,nth_eq (by rw [YR];omega),List.getElem_set_ne ow,← nth_eq ow];exact hrest q ow hq2⟩
     refine Ya (Zg G (qR rr (qR rr (qR rr (qR rr (qf (o_indexAddr_sub (sz:=4) 1 (.mk Yb0 kr) .t .t ow ow (by rfl)) r2 r1 (qf (ZD (ag:=true) (sz':=4) (sz:=4) 1 .t (by intro x;rfl) ow kr kr kr) r1 r1 (qf (o_indexAddr_row (sz:=4) 1 (.mk Yb0 kr) .is .t ow ow (by rfl)) r2 r1 (qf (Zfk (sz:=4) 1 .t (by intro x;rfl) ow (.conv .t (Ent.aggU (l:=Zn (Nn l1 (((k:Int)).toNat+((j:Int)).toNat))) rfl rfl)) kr) r2 r1 qZ)))))))) Z [5,4,3,2,0] [1,0] rfl rfl fun a w F G=>?_)
     try simp only [Yc] at G
     rw [← hl2e] at G
     refine Za (Zg G (qR rr (qp r1 (qO rr qZ))) Z [5,4,3,2,0] [1,0] rfl rfl fun a w F G=>Zk (Za ?_))
     refine rZ G (qR rr (qp r1 (qO rr qZ))) Z [5,4,3,2,0] [1,0] fun G=>?_
     have hmu:l.length - (j+1)<l.length - j:=by omega
     replace G:=G.ent (i:=3) (s':=.pv (.int .i64 (i2:Int))) rfl (.int hi2)
     replace G:=G.ent (i:=5) (s':=.pv (.int .i64 ((j+1:Nat):Int))) rfl (.int (Zd ow))
     obtain ⟨F,G⟩:=G.nM [4,2,0,5,3] [0,1]
     exact ⟨((i2),(j+1),(l2)),F,hC2,G,hmu⟩
    have heq2:Nn l (k+j - 1)=Nn l (k+j):=by rw [← hx1,← hx0];simp only [Ztk] at hc4;simp at hc4 ⊢;exact hc4.symm
    rw [Ye heq2] at hstp
    obtain ⟨i2,hi2e⟩:∃ i2,i2=k1:=⟨_,rfl⟩
    have hi2:(k1:Int)=(i2:Int):=by rw [hi2e]
    obtain ⟨l2,hl2e⟩:∃ l2,l2=l1:=⟨_,rfl⟩
    rw [← hl2e] at G
    have hC2:1≤j+1∧j+1≤l.length - k∧k≤i2∧i2≤k+(j+1) - 1∧l2.length=l.length∧l2.take i2=Zp (l.take (k+(j+1))) ∧ ∀ q,k+(j+1) - 1≤q→q<l.length→Nn l2 q=Nn l q:=⟨by omega,by omega,by omega,by omega,by rw [hl2e];exact hl1,by rw [hl2e,hi2e,htk];exact hstp.symm,fun q hq hq2=>by rw [hl2e];exact hrest q ow hq2⟩
    refine Yf (Zk (Za (rZ G (qR rr (qp r1 (qO rr qZ))) Z [5,4,3,2,0] [1,0] fun G=>?_)))
    have hmu:l.length - (j+1)<l.length - j:=by omega
    replace G:=G.ent (i:=3) (s':=.pv (.int .i64 (i2:Int))) rfl (.int hi2)
    replace G:=G.ent (i:=5) (s':=.pv (.int .i64 ((j+1:Nat):Int))) rfl (.int (Zd ow))
    obtain ⟨F,G⟩:=G.nM [4,2,0,5,3] [0,1]
    exact ⟨((i2),(j+1),(l2)),F,hC2,G,hmu⟩
   have hjl:k+j=l.length:=by simp at hc3;omega
   have hg:(Zp l)=(l1.take k1++List.replicate (l1.length - k1) noE).take k1:=by rw [Y4 (by rw [Yj];omega),YaY,Nat.min_self,htk,hjl,YC]
   refine Yx (Zj (Zj (Zr (Za (Ya (rZ G (qR rr (qR rr (qf (ZaN (sz:=4) 1 (.mk Yb0 kr) .is .t ow ow) r2 r1 (qf (Zdb (R:=Zn) (z:=noE) (zs:=[.int .i64 0,.int .i64 0,.int .i64 0,.int .i64 0]) 1 Yb0 kr rfl rfl Zpm (by intro x;rfl) .t (by simp;omega)) r1 r1 qZ)))) Z [3,2,0] [1,0] fun G=>Ya ?_))))))
   refine Zb G (qR rr (qR rr (qf (Zfw (sz:=4) 1 (.mk Yb0 kr) (by intro x;rfl) .is .t ow (by simp;omega)) r2 r1 (qO rr qZ)))) Z [3,2,0] [1,0] (fun _=>rfl) (fun _=>rfl) fun τ a w F G=>?_
   try dsimp only [RS.sub,SF.sub,CF.sub,csub,Anc.sub,List.map,Zn] at G
   generalize τ 59=v59 at G
   refine Za (Yh (ZB (Zm (Zm (ZB (Zm ?_))))))
   have G:=G.turn 1 rfl (r':=RS.hp (ZA 42 4 Zn (Zp l) v59)) (fun _ _ _ _ h=>by rw [hg];exact h)
   refine Z9 (h':=fun v=>ZA 42 4 Zn (Zp l) v) hG G rfl (.tmp rfl .nil) (.one .one) rfl
  have hne:¬ Nn l (k - 1)=Nn l k:=by rw [hy0] at hc2;simp only [Ztk] at hc2;simp at hc2;exact fun e=>hc2 e.symm
  rw [Yb hne] at hst
  refine Yf (Zk (Za (rZ G (qR rr (qp r1 (qO rr qZ))) Z [3,2,0] [1,0] fun G=>?_)))
  replace G:=G.ent (i:=3) (s':=.pv (.int .i64 ((k+1:Nat):Int))) rfl (.int (Zd ow))
  obtain ⟨F,G⟩:=G.nM [2,0,3] [1,0]
  exact ⟨(k+1),F,⟨by omega,by omega,by rw [hst,hkc,← Zt hil]⟩,G,by omega⟩
 have hg:(Zp l)=l:=by rw [show k=l.length by simp at hc1;omega,YC] at hkc;exact hkc
 refine Yx (Zj (Zj (Zr (Za (Ya (rZ G (qR rr (qO rr qZ)) Z [2] [1,0] fun G=>Yh ?_))))))
 have G:=G.turn 1 rfl (r':=RS.hp (ZA 42 4 Zn (Zp l) v)) (fun _ _ _ _ h=>by rw [hg];exact h)
 refine Z9 (h':=fun v=>ZA 42 4 Zn (Zp l) v) hG G rfl (.tmp rfl .nil) (.one .one) rfl
def Zhn:Go.Shelf.Ren:=⟨fun | 6=>173 | 15=>142 | 14=>211 | 28=>189 | 29=>190 | 20=>232 | 21=>233 | 22=>234 | 23=>235 | 24=>236 | 25=>237 | 26=>238 | 27=>239 | 46=>249 | 47=>213 | 48=>214 | 49=>250 | 50=>251 | 57=>256 | n=>n,fun | 22=>31 | 24=>42 | 25=>245 | 3=>3 | 39=>162 | 0=>0 | 53=>260 | 55=>175 | 4=>4 | 46=>253 | 45=>252 | 50=>43 | 5=>5 | 9=>9 | 66=>290 | 70=>294 | 76=>309 | 77=>107 | n=>n,fun  | n=>n⟩
theorem ZmK:Go.Proofs.SlLaysF0.n6 prog Zhn where
 mixed:=by kernel_rfl
 f6:=⟨f173.name,by kernel_rfl,func173.trans (Y1 some kr)⟩
 f14:=⟨f211.name,by kernel_rfl,func211.trans (Y1 some kr)⟩
 f15:=func142.trans (Y1 some kr)
 f20:=⟨f232.name,by kernel_rfl,func232.trans (Y1 some kr)⟩
 f21:=⟨f233.name,by kernel_rfl,func233.trans (Y1 some kr)⟩
 f22:=⟨f234.name,by kernel_rfl,func234.trans (Y1 some kr)⟩
 f23:=⟨f235.name,by kernel_rfl,func235.trans (Y1 some kr)⟩
 f24:=⟨f236.name,by kernel_rfl,func236.trans (Y1 some kr)⟩
 f25:=⟨f237.name,by kernel_rfl,func237.trans (Y1 some kr)⟩
 f26:=⟨f238.name,by kernel_rfl,func238.trans (Y1 some kr)⟩
 f27:=⟨f239.name,by kernel_rfl,func239.trans (Y1 some kr)⟩
 f28:=func189.trans (Y1 some kr)
 f29:=func190.trans (Y1 some kr)
 f46:=⟨f249.name,by kernel_rfl,func249.trans (Y1 some kr)⟩
 f47:=func213.trans (Y1 some kr)
 f48:=func214.trans (Y1 some kr)
 f49:=⟨f250.name,by kernel_rfl,func250.trans (Y1 some kr)⟩
 f50:=⟨f251.name,by kernel_rfl,func251.trans (Y1 some kr)⟩
 f57:=⟨f256.name,by kernel_rfl,func256.trans (Y1 some kr)⟩
 t0:=underlying0
 a0:=Tryz.isAgg0
 z0:=Tryz.sizeOf0
 v0:=Tryz.zeroValue0
 t3:=Yb4
 a3:=Tryz.isAgg3
 z3:=Tryz.sizeOf3
 v3:=Tryz.zeroValue3
 t4:=underlying4
 a4:=Tryz.isAgg4
 z4:=Tryz.sizeOf4
 v4:=Tryz.zeroValue4
 t5:=underlying5
 a5:=Tryz.isAgg5
 z5:=Tryz.sizeOf5
 v5:=Tryz.zeroValue5
 t9:=Ycc
 a9:=Tryz.isAgg9
 z9:=Tryz.sizeOf9
 v9:=Tryz.zeroValue9
 t22:=Yb0
 a22:=Tryz.isAgg31
 z22:=Tryz.sizeOf31
 v22:=Tryz.zeroValue31
 t25:=underlying245
 a25:=Tryz.isAgg245
 z25:=Tryz.sizeOf245
 v25:=Tryz.zeroValue245
 t39:=Yb8
 a39:=Tryz.isAgg162
 z39:=Tryz.sizeOf162
 v39:=Tryz.zeroValue162
 t45:=underlying252
 a45:=Tryz.isAgg252
 z45:=Tryz.sizeOf252
 v45:=Tryz.zeroValue252
 t46:=underlying253
 a46:=Tryz.isAgg253
 z46:=Tryz.sizeOf253
 v46:=Tryz.zeroValue253
 t50:=underlying43
 a50:=Tryz.isAgg43
 z50:=Tryz.sizeOf43
 v50:=Tryz.zeroValue43
 t53:=underlying260
 a53:=Tryz.isAgg260
 z53:=Tryz.sizeOf260
 v53:=Tryz.zeroValue260
 t55:=Ycd
 a55:=Tryz.isAgg175
 z55:=Tryz.sizeOf175
 v55:=Tryz.zeroValue175
 t66:=underlying290
 a66:=Tryz.isAgg290
 z66:=Tryz.sizeOf290
 v66:=Tryz.zeroValue290
 t70:=underlying294
 a70:=Tryz.isAgg294
 z70:=Tryz.sizeOf294
 v70:=Tryz.zeroValue294
 t76:=underlying309
 a76:=Tryz.isAgg309
 z76:=Tryz.sizeOf309
 v76:=Tryz.zeroValue309
 t77:=underlying107
 a77:=Tryz.isAgg107
 z77:=Tryz.sizeOf107
 v77:=Tryz.zeroValue107
theorem ZtU (x:Int) (w:World):Calls prog 151 #[.int .i64 x] w fun e w'=>e = .returned (.bool false)∧w' = w:=by
 go_enter func151,ntmps151
 go_wp2
 go_ret
 exact ⟨by simp,rfl⟩
theorem Ztg (x y:Int) (w:World):Calls prog 110 #[.int .i64 x,.int .i64 y] w fun e w'=>e = .returned (.int .i64 (ZcJ x y))∧w' = w:=by
 go_enter func110,ntmps110
 go_wp2_with (go_at_call 151;refine (ZtU _ _).mono ?_;rintro e w' ⟨rfl,rfl⟩)
 all_goals (go_ret;refine ⟨?_,rfl⟩;unfold ZcJ; (repeat' split) <;> first | rfl | (exfalso;omega))
theorem ZtD {a:Int} (h:(a != 0)=true):¬ a=0:=by simpa using h
theorem Zre {a:Int} (h:(a != 0)=false):a=0:=by simpa using h
theorem Zr9 {x y:Ze} (h:(ZcJ x.src y.src != 0)=true):cmpE x y=ZcJ x.src y.src:=by unfold cmpE Zep ZfQ;rw [Yb (fun e=>ZtD h (Zcs.2 e))]
theorem Zrr {x y:Ze} (h0:(ZcJ x.src y.src != 0)=false) (h:(ZcJ x.kind y.kind != 0)=true):cmpE x y=ZcJ x.kind y.kind:=by unfold cmpE Zep ZfQ;rw [Ye (Zcs.1 (Zre h0))];unfold ZfQ;rw [Yb (fun e=>ZtD h (Zcs.2 e))]
theorem ZrE {x y:Ze} (h0:(ZcJ x.src y.src != 0)=false) (h1:(ZcJ x.kind y.kind != 0)=false) (h:(ZcJ x.key y.key != 0)=true):cmpE x y=ZcJ x.key y.key:=by unfold cmpE Zep ZfQ;rw [Ye (Zcs.1 (Zre h0))];unfold ZfQ;rw [Ye (Zcs.1 (Zre h1))];unfold ZfQ;rw [Yb (fun e=>ZtD h (Zcs.2 e))]
theorem Znr {x y:Ze} (h0:(ZcJ x.src y.src != 0)=false) (h1:(ZcJ x.kind y.kind != 0)=false) (h2:(ZcJ x.key y.key != 0)=false):cmpE x y=ZcJ x.dst y.dst:=by
 unfold cmpE Zep ZfQ;rw [Ye (Zcs.1 (Zre h0))];unfold ZfQ;rw [Ye (Zcs.1 (Zre h1))];unfold ZfQ;rw [Ye (Zcs.1 (Zre h2))];unfold ZfQ
 by_cases h:x.dst=y.dst
 ·rw [Ye h,Zcs.2 h];rfl
 ·rw [Yb h]
theorem Zrt {x y:Ze} (h0:(ZcJ x.src y.src != 0)=false) (h1:(ZcJ x.kind y.kind != 0)=false) (h2:(ZcJ x.key y.key != 0)=false) (h3:(ZcJ x.dst y.dst != 0)=false):cmpE x y=0:=by rw [Znr h0 h1 h2];exact Zre h3
def objs4 (x y:Ze):Array Obj:=#[Obj.cells #[.int .i64 x.src,.int .i64 x.dst,.int .i64 x.kind,.int .i64 x.key] 42,Obj.cells #[.int .i64 y.src,.int .i64 y.dst,.int .i64 y.kind,.int .i64 y.key] 42,Obj.cells #[.int .i64 x.src,.int .i64 x.kind,.int .i64 x.key,.int .i64 x.dst] 289,Obj.cells #[.int .i64 y.src,.int .i64 y.kind,.int .i64 y.key,.int .i64 y.dst] 289]
theorem Zo9 (x y:Ze) (w:World):Calls prog 174 #[.agg #[.int .i64 x.src,.int .i64 x.dst,.int .i64 x.kind,.int .i64 x.key],.agg #[.int .i64 y.src,.int .i64 y.dst,.int .i64 y.kind,.int .i64 y.key]] w fun e w'=>e = .returned (.int .i64 (cmpE x y)) ∧ ∃ q,w' = { w.drewN q with heap:=w.heap++objs4 x y } := by
 go_enter func174,ntmps174
 go_wp2
 have hw1:((((w.alloc (Obj.cells #[.int .i64 x.src,.int .i64 x.dst,.int .i64 x.kind,.int .i64 x.key] 42)).alloc (Obj.cells #[.int .i64 y.src,.int .i64 y.dst,.int .i64 y.kind,.int .i64 y.key] 42)).alloc (Obj.cells #[.int .i64 x.src,.int .i64 x.kind,.int .i64 x.key,.int .i64 x.dst] 289)).alloc (Obj.cells #[.int .i64 y.src,.int .i64 y.kind,.int .i64 y.key,.int .i64 y.dst] 289)) = { w with heap:=w.heap++objs4 x y } := by
  have e:∀ (w:World) (o:Obj),w.alloc o = { w with heap:=w.heap.push o } := fun _ _=>rfl
  simp only [e,objs4]
  congr 1
 rw [hw1]
 clear hw1
 have ka:∀ j v,(#[Value.int .i64 x.src,.int .i64 x.kind,.int .i64 x.key,.int .i64 x.dst])[j]? = some v→({ w with heap:=w.heap++objs4 x y } : World).cell? ⟨w.heap.size+1+1,j,none⟩ = some v:=by
  intro j v hj
  rw [ZN (vs:=#[Value.int .i64 x.src,.int .i64 x.kind,.int .i64 x.key,.int .i64 x.dst]) (T:=289) (fr:=(0,0)) (by show (w.heap++objs4 x y)[w.heap.size+1+1]? = _;rw [Array.getElem?_append_right ow,show w.heap.size+1+1 - w.heap.size=2 by omega];rfl)]
  exact hj
 have kb:∀ j v,(#[Value.int .i64 y.src,.int .i64 y.kind,.int .i64 y.key,.int .i64 y.dst])[j]? = some v→({ w with heap:=w.heap++objs4 x y } : World).cell? ⟨w.heap.size+1+1+1,j,none⟩ = some v:=by
  intro j v hj
  rw [ZN (vs:=#[Value.int .i64 y.src,.int .i64 y.kind,.int .i64 y.key,.int .i64 y.dst]) (T:=289) (fr:=(0,0)) (by show (w.heap++objs4 x y)[w.heap.size+1+1+1]? = _;rw [Array.getElem?_append_right ow,show w.heap.size+1+1+1 - w.heap.size=3 by omega];rfl)]
  exact hj
 have a0:({ w with heap:=w.heap++objs4 x y } : World).cell? ⟨w.heap.size+1+1,0,none⟩ = some (.int .i64 x.src):=ka 0 _ rfl
 have a1:({ w with heap:=w.heap++objs4 x y } : World).cell? ⟨w.heap.size+1+1,1,none⟩ = some (.int .i64 x.kind):=ka 1 _ rfl
 have a2:({ w with heap:=w.heap++objs4 x y } : World).cell? ⟨w.heap.size+1+1,2,none⟩ = some (.int .i64 x.key):=ka 2 _ rfl
 have a3:({ w with heap:=w.heap++objs4 x y } : World).cell? ⟨w.heap.size+1+1,3,none⟩ = some (.int .i64 x.dst):=ka 3 _ rfl
 have b0:({ w with heap:=w.heap++objs4 x y } : World).cell? ⟨w.heap.size+1+1+1,0,none⟩ = some (.int .i64 y.src):=kb 0 _ rfl
 have b1:({ w with heap:=w.heap++objs4 x y } : World).cell? ⟨w.heap.size+1+1+1,1,none⟩ = some (.int .i64 y.kind):=kb 1 _ rfl
 have b2:({ w with heap:=w.heap++objs4 x y } : World).cell? ⟨w.heap.size+1+1+1,2,none⟩ = some (.int .i64 y.key):=kb 2 _ rfl
 have b3:({ w with heap:=w.heap++objs4 x y } : World).cell? ⟨w.heap.size+1+1+1,3,none⟩ = some (.int .i64 y.dst):=kb 3 _ rfl
 clear ka kb
 have hfin:∀ q (w':World),w' = ({ w with heap:=w.heap++objs4 x y } : World).drewN q → ∃ q,w' = { w.drewN q with heap:=w.heap++objs4 x y } := fun q w' e=>⟨q,e⟩
 generalize ({ w with heap:=w.heap++objs4 x y } : World)=w1 at *
 generalize w.heap.size=n0 at *
 refine wp_loop_rounds 5 ?_
 rw [Ybt]
 go_wp2
 go_quiet ((go_at_call 110;refine Calls.quiet_of_same (Ztg _ _ _)))
 go_wp2
 ·go_ret
  exact ⟨Y1 (fun z=>Ending.returned (.int .i64 z)) (Zr9 (by assumption)).symm,hfin _ _ rfl⟩
 have hfin1:∀ q (w':World),w' = (w1.drewN nq).drewN q → ∃ q,w' = { w.drewN q with heap:=w.heap++objs4 x y } := fun q w' e=>hfin (nq+q) w' (by rw [e,World.drewN_drewN])
 have a1':(w1.drewN nq).cell? ⟨n0+1+1,1,none⟩ = some (.int .i64 x.kind):=a1
 have b1':(w1.drewN nq).cell? ⟨n0+1+1+1,1,none⟩ = some (.int .i64 y.kind):=b1
 have a2':(w1.drewN nq).cell? ⟨n0+1+1,2,none⟩ = some (.int .i64 x.key):=a2
 have b2':(w1.drewN nq).cell? ⟨n0+1+1+1,2,none⟩ = some (.int .i64 y.key):=b2
 have a3':(w1.drewN nq).cell? ⟨n0+1+1,3,none⟩ = some (.int .i64 x.dst):=a3
 have b3':(w1.drewN nq).cell? ⟨n0+1+1+1,3,none⟩ = some (.int .i64 y.dst):=b3
 clear hfin a0 b0 a1 b1 a2 b2 a3 b3
 generalize w1.drewN nq=w2 at *
 rw [Ybt]
 go_wp2
 go_quiet ((go_at_call 110;refine Calls.quiet_of_same (Ztg _ _ _)))
 go_wp2
 ·go_ret
  exact ⟨Y1 (fun z=>Ending.returned (.int .i64 z)) (Zrr (by assumption) (by assumption)).symm,hfin1 _ _ rfl⟩
 have hfin2:∀ q (w':World),w' = (w2.drewN nq).drewN q → ∃ q,w' = { w.drewN q with heap:=w.heap++objs4 x y } := fun q w' e=>hfin1 (nq+q) w' (by rw [e,World.drewN_drewN])
 have a2'':(w2.drewN nq).cell? ⟨n0+1+1,2,none⟩ = some (.int .i64 x.key):=a2'
 have b2'':(w2.drewN nq).cell? ⟨n0+1+1+1,2,none⟩ = some (.int .i64 y.key):=b2'
 have a3'':(w2.drewN nq).cell? ⟨n0+1+1,3,none⟩ = some (.int .i64 x.dst):=a3'
 have b3'':(w2.drewN nq).cell? ⟨n0+1+1+1,3,none⟩ = some (.int .i64 y.dst):=b3'
 clear hfin1 a1' b1' a2' b2' a3' b3'
 generalize w2.drewN nq=w3 at *
 rw [Ybt]
 go_wp2
 go_quiet ((go_at_call 110;refine Calls.quiet_of_same (Ztg _ _ _)))
 go_wp2
 ·go_ret
  exact ⟨Y1 (fun z=>Ending.returned (.int .i64 z)) (ZrE (by assumption) (by assumption) (by assumption)).symm,hfin2 _ _ rfl⟩
 have hfin3:∀ q (w':World),w' = (w3.drewN nq).drewN q → ∃ q,w' = { w.drewN q with heap:=w.heap++objs4 x y } := fun q w' e=>hfin2 (nq+q) w' (by rw [e,World.drewN_drewN])
 have a3''':(w3.drewN nq).cell? ⟨n0+1+1,3,none⟩ = some (.int .i64 x.dst):=a3''
 have b3''':(w3.drewN nq).cell? ⟨n0+1+1+1,3,none⟩ = some (.int .i64 y.dst):=b3''
 clear hfin2 a2'' b2'' a3'' b3''
 generalize w3.drewN nq=w4 at *
 rw [Ybt]
 go_wp2
 go_quiet ((go_at_call 110;refine Calls.quiet_of_same (Ztg _ _ _)))
 go_wp2
 ·go_ret
  exact ⟨Y1 (fun z=>Ending.returned (.int .i64 z)) (Znr (by assumption) (by assumption) (by assumption)).symm,hfin3 _ _ rfl⟩
 have hfin4:∀ q (w':World),w' = (w4.drewN nq).drewN q → ∃ q,w' = { w.drewN q with heap:=w.heap++objs4 x y } := fun q w' e=>hfin3 (nq+q) w' (by rw [e,World.drewN_drewN])
 clear hfin3 a3''' b3'''
 generalize w4.drewN nq=w5 at *
 rw [Ybt]
 go_wp2
 go_ret
 exact ⟨Y1 (fun z=>Ending.returned (.int .i64 z)) (Zrt (by assumption) (by assumption) (by assumption) (by assumption)).symm,hfin4 0 _ rfl⟩
def Zef (e:Ze):List Value:=[.int .i64 e.src,.int .i64 e.dst,.int .i64 e.kind,.int .i64 e.key]
theorem Zhk:∀ (l:List Ze) (j:Nat),(l.flatMap Zef)[j]? = if j<l.length*4 then some ((Zef l[j / 4]!)[j % 4]!) else none
 | [],j=>by simp
 | e :: l,j=>by
  rw [YX]
  by_cases hj:j<4
  ·rw [List.getElem?_append_left (by simpa [Zef] using hj),Ye (by simp;omega),show j / 4=0 by omega,show j % 4=j by omega]
   match j,hj with
   | 0,_=>rfl
   | 1,_=>rfl
   | 2,_=>rfl
   | 3,_=>rfl
  ·obtain ⟨k,rfl⟩:∃ k,j=k+4:=⟨j - 4,by omega⟩
   rw [List.getElem?_append_right (by simp [Zef]),show k+4 - (Zef e).length=k by simp [Zef],Zhk l k,show (k+4) / 4=k / 4+1 by omega,show (k+4) % 4=k % 4 by omega]
   by_cases h:k<l.length*4
   ·rw [Ye h,Ye (by simp;omega)];simp
   ·rw [Yb h,Yb (by simp;omega)]
theorem Zgt (l:List Ze):(Go.Sort.flatK Zef 4 l.toArray).toList=l.flatMap Zef:=by
 apply List.ext_getElem?
 intro j
 rw [Zhk]
 by_cases h:j<l.length*4
 ·rw [Ye h];simp [Go.Sort.flatK,h]
 ·rw [Yb h];simp [Go.Sort.flatK];omega
def inE (e:Ze):Prop:=inR .i64 e.src∧inR .i64 e.dst∧inR .i64 e.kind∧inR .i64 e.key
theorem ZhG {w:World} {y:Ys} : ∀ {l:List Ze} {xs:List Value},PVs (l.flatMap Zn) xs w y→xs=l.flatMap Zef ∧ ∀ e ∈ l,inE e
 | [],[],_=>⟨rfl,fun x hx=>by cases hx⟩
 | [],_ :: _,h=>h.elim
 | e :: l,[],h=>h.elim
 | e :: l,[_],h=>h.2.elim
 | e :: l,[_,_],h=>h.2.2.elim
 | e :: l,[_,_,_],h=>h.2.2.2.elim
 | e :: l,a :: b :: c :: d :: xs,h=>by
  have h1:a = .int .i64 e.src∧inR .i64 e.src:=h.1.2
  have h2:b = .int .i64 e.dst∧inR .i64 e.dst:=h.2.1.2
  have h3:c = .int .i64 e.kind∧inR .i64 e.kind:=h.2.2.1.2
  have h4:d = .int .i64 e.key∧inR .i64 e.key:=h.2.2.2.1.2
  obtain ⟨h5,h6⟩:=ZhG (l:=l) (xs:=xs) h.2.2.2.2
  exact ⟨by rw [h1.1,h2.1,h3.1,h4.1,h5];rfl,fun z hz=>by rcases Yk.1 hz with rfl | hz;exact ⟨h1.2,h2.2,h3.2,h4.2⟩;exact h6 z hz⟩
theorem Zea {w:World} {y:Ys} : ∀ {l:List Ze},(∀ e ∈ l,inE e)→PVs (l.flatMap Zn) (l.flatMap Zef) w y
 | [],_=>trivial
 | e :: l,h=>by
  have h1:=h e (by simp)
  exact ⟨⟨rfl,rfl,h1.1⟩,⟨rfl,rfl,h1.2.1⟩,⟨rfl,rfl,h1.2.2.1⟩,⟨rfl,rfl,h1.2.2.2⟩,Zea fun z hz=>h z (by simp [hz])⟩
theorem swoE:Go.Sort.SWO (Go.Proofs.ltOf cmpE) where
 irrefl x:=ZbK.irr x
 trans x y z h1 h2:=ZbK.tr x y z h1 h2
 ntrans x y z h1 h2:=by
  have h1:ltE x y=false:=h1
  have h2:ltE y z=false:=h2
  show ltE x z=false
  rw [Zjt] at *
  omega
theorem ZiB {w:World} {g n:Nat} {d:List Value} {os:Array Obj} {cur:Array Value} {e:TypeId} (hg:w.heap[g]? = some (.cells cur e (0,0))) (b:Nat) (hb:b<w.heap.size) :
  (Go.Sort.grow (Go.Sort.putRow id (Go.Sort.ahead w n) g 0 d.toArray) os).heap[b]? = if b=g then some (.cells (Go.Sort.putCells id 0 d.toArray cur) e (0,0)) else w.heap[b]?:=by
 unfold Go.Sort.grow Go.Sort.putRow Go.Sort.mapBlock Go.Sort.ahead
 simp only
 rw [Array.getElem?_append_left (by simpa using hb),Array.getElem?_modify]
 by_cases h:g=b
 ·subst h
  rw [Ye rfl,Ye rfl,hg];rfl
 ·rw [Yb h,Yb (fun e=>h e.symm)]
theorem Zma {cur:Array Value} {d:List Value} (h:d.length≤cur.size):(Go.Sort.putCells id 0 d.toArray cur).toList.take d.length=d:=by
 apply YaT
 ·simp [Go.Sort.putCells];omega
 ·intro i h1 h2
  have hi:i<d.length:=h2
  simp [Go.Sort.putCells,hi]
theorem sortE_cmp (g n:Nat) (w:World):Go.Proofs.CmpLays prog 174 #[] Zef 4 cmpE g 0 n w:=fun _ _ _ _ x y=>
 (Zo9 x y _).mono fun _ _ ⟨he,q,hq⟩=>⟨he,q,objs4 x y,hq⟩
theorem Zsn (v:Value) (l:List Ze) (hlm:l.length≤1000000):FnG prog 173 1 [.is v,.is (.func (.func 174) #[] #[])] [ZA 42 4 Zn l v] (.tup []) (fun _=>[ZA 42 4 Zn (Zcw l) v]):=by
 by_cases hl0:l = []
 ·subst hl0
  have h:=Zk2 v [] (by simp) (fun j _ h1=>absurd h1 (by simp))
  have e:Zcw [] = []:=by simp [Zcw]
  rw [e];exact h
 ·exact fun w F vs hw hle hvs hpr=>by
   match vs,hvs with
   | [u,fv],hvs=>
    have hu:u=v:=hvs.1.1
    have hfv:fv = .func (.func 174) #[] #[]:=hvs.2.1.1
    subst hu
    subst hfv
    obtain ⟨xs,⟨hxl,hx⟩,hp,hf⟩:=hpr 0 _ rfl
    rcases hx with ⟨rfl,h0⟩ | ⟨g,cap,cur,rfl,_,hg,hn,hcap,hcs,hct⟩
    ·exact absurd (YO h0) hl0
    ·have hgs:g<w.heap.size:=(YT.1 hg).1
     obtain ⟨hxe,hin⟩:=ZhG hp
     have hcl:l.length*4≤cur.size:=by rw [hcs];exact YM _ hn
     have hbig:l.toArray.size<4611686018427387904:=by simp;omega
     have hcur:∀ j,j<l.length*4→cur[j]? = (l.flatMap Zef)[j]?:=fun j hj=>by
      have h1:(cur.toList.take (l.length*4))[j]? = (l.flatMap Zef)[j]?:=by rw [hct,hxe]
      rw [Ybj hj] at h1
      simpa using h1
     have hH:Go.Sort.HoldsK Zef 4 w g 0 l.toArray:=fun j hj=>by
      have hj':j<l.length*4:=by simpa using hj
      refine ⟨?_,?_⟩
      ·rw [Y7,ZN hg,hcur j hj',Zhk,Ye hj',Go.Sort.get_flatK _ _ _ _ (by simpa using hj')]
       simp
      ·simp [World.frozen?,hg]
     have eg:∀ args w,(callFunc 174 args).run prog w = .ok (.enter 174 args) w:=enters_of func174 kr rfl
     have hcalls:Calls prog 173 #[.slice (some ⟨g,0,none⟩) l.toArray.size cap,.func (.func 174) #[] #[]] w fun e w'=>e = .returned (.tuple #[]) ∧ ∃ d' n os,Go.Sort.PermIn 0 l.toArray.size l.toArray d' ∧ Go.Sort.SortedIn (Go.Proofs.ltOf cmpE) 0 l.toArray.size d' ∧ w' = Go.Proofs.sortWorldK Zef 4 w g 0 n d' os:=
      Go.Proofs.AnyQ.slices_SortFunc ZmK 4 Tryz.isAgg42 Tryz.sizeOf42 Zef (fun _=>rfl) (fun x v hv=>by simp [Zef] at hv;rcases hv with rfl | rfl | rfl | rfl <;> rfl) cmpE swoE 174 #[] g 0 cap l.toArray w eg (sortE_cmp g _ w) hH hgs hbig
     refine hcalls.mono ?_
     rintro e w' ⟨rfl,d',n,os,hperm,hsrt,rfl⟩
     have hd:d'.toList=Zcw l:=Go.Sort.sorted_unique_holds swoE (fun x y h1 h2=>ZbK.tot x y h1 h2) l.toArray d' hperm hsrt
     have hd2:d' = (Zcw l).toArray:=by rw [← hd]
     subst hd2
     have hsl:(Zcw l).length=l.length:=ZhY l
     have hfl:(Go.Sort.flatK Zef 4 (Zcw l).toArray)=((Zcw l).flatMap Zef).toArray:=by rw [← Zgt]
     have hfn:((Zcw l).flatMap Zef).length=l.length*4:=by
      have h2:=Y1 List.length (Zgt (Zcw l))
      rw [← h2,Array.length_toList,Go.Sort.size_flatK,Yaw,hsl]
     have hW:Go.Proofs.sortWorldK Zef 4 w g 0 n (Zcw l).toArray os=Go.Sort.grow (Go.Sort.putRow id (Go.Sort.ahead w n) g 0 ((Zcw l).flatMap Zef).toArray) os:=by
      unfold Go.Proofs.sortWorldK Go.Sort.putRowK
      rw [hfl]
     rw [hW]
     have hheap:=fun b hb=>ZiB (n:=n) (d:=(Zcw l).flatMap Zef) (os:=os) hg b hb
     have hsz:(Go.Sort.grow (Go.Sort.putRow id (Go.Sort.ahead w n) g 0 ((Zcw l).flatMap Zef).toArray) os).heap.size=w.heap.size+os.size:=by simp [Go.Sort.ahead]
     have hfg:F 1 g:=(hf g).2 rfl
     have hst:Stp (List.range' 1 1) w F (Go.Sort.grow (Go.Sort.putRow id (Go.Sort.ahead w n) g 0 ((Zcw l).flatMap Zef).toArray) os) F:=
      ⟨rfl,rfl,rfl,by rw [hsz];omega,fun b hb hn=>by
       rw [hheap b hb,Yb (fun e=>by subst e;exact hn 1 (by simp) hfg)],fun _ _=>rfl,fun n hn b hb=>.inl ⟨n,hn,hb⟩⟩
     refine ⟨.tuple #[],F,rfl,⟨hw.dis,fun n b hb=>by rw [hsz];have:=hw.bd n b hb;omega⟩,hst,hle,⟨[],rfl,tv⟩,fun i h hi=>?_⟩
     match i,hi with
     | 0,hi=>
      simp only [Ybs,Y0] at hi
      subst hi
      refine ⟨(Zcw l).flatMap Zef,⟨by rw [hfn,hsl],.inr ⟨g,cap,_,by rw [hsl],Yw _,(hheap g hgs).trans (Ye rfl),by rw [hsl];exact hn,hcap,by simp [Go.Sort.putCells,hcs],?_⟩⟩,Zea fun x hx=>hin x ((YaK l _).mem_iff.1 hx),hf⟩
      rw [hsl,← hfn];exact Zma (by rw [hfn];exact hcl)
theorem Zpe (l:List Ze) (hl:l.length≤1000000):FnP prog 132 [.sl Zn l] (.sl Zn (Zbv ltE l)):=by
 refine FnP.mk func132 rfl ntmps132 rfl fun B a w F Z hfr G=>?_
 have hll:=Sat.lenSl G (i:=0) rfl
 refine Ya (rZ G (qC qZ) Z [2,0] [0] fun G=>Ya ?_)
 replace G:=G.fresh 101 rfl
 refine Zb G (qR rr (qf (ZaE 101 (Zmc l ow) func124 rfl kr (Args.one .t) pvOne1) r1 r1 (qO rr qZ))) Z [3,2] [101,0] (fun _=>rfl) (fun _=>rfl) fun τ a w F G=>?_
 try dsimp only [RS.sub,SF.sub,CF.sub,csub,Anc.sub,List.map,Zn] at G
 generalize τ 5=v5 at G
 refine Za (Ya (rZ G (qR rr (qf (Za3 101 (Zsn _ l ow) func173 rfl kr (Args.two .t .f)) r1 r1 qZ)) Z [3,2] [101,0] fun G=>Ya ?_))
 refine Zb G (qR rr (qf (o_callRowN 101 (Zjd _ _ (by rw [ZhY];omega)) func175 rfl kr (Args.one .t) pvOne1) r1 r1 (qO rr qZ))) Z [2] [101,0] (fun _=>rfl) (fun _=>rfl) fun τ a w F G=>?_
 try dsimp only [RS.sub,SF.sub,CF.sub,csub,Anc.sub,List.map,Zn] at G
 generalize τ 9=v9 at G
 refine Za (Yh ?_)
 obtain ⟨F,G⟩:=G.give 101 2 rfl rfl
 refine Zw hfr G rfl rfl rfl (.sl (Zln l))
theorem ZgD {α:Type} {lt:α→α→Bool} (h:STO lt):∀ {l m:List α},Znz lt l→Znz lt m→(∀ x,x ∈ l ↔ x ∈ m)→l=m
 | [],[],_,_,_=>rfl
 | [],y :: m,_,_,he=>by have:=(he y).2 (by simp);cases this
 | x :: l,[],_,_,he=>by have:=(he x).1 (by simp);cases this
 | x :: l,y :: m,hl,hm,he=>by
  obtain ⟨h1,h2⟩:=Yq.1 hl
  obtain ⟨h3,h4⟩:=Yq.1 hm
  have hxy:x=y:=by
   rcases Yk.1 ((he x).1 (by simp)) with e | hx
   ·exact e
   ·rcases Yk.1 ((he y).2 (by simp)) with e | hy
    ·exact e.symm
    ·have a1:=h1 y hy
     have a2:=h3 x hx
     have a3:=h.tr x y x a1 a2
     rw [h.irr x] at a3;cases a3
  subst hxy
  congr 1
  refine ZgD h h2 h4 fun z=>⟨fun hz=>?_,fun hz=>?_⟩
  ·rcases Yk.1 ((he z).1 (YB _ hz)) with e | h9
   ·subst e
    have:=h1 z hz
    rw [h.irr z] at this;cases this
   ·exact h9
  ·rcases Yk.1 ((he z).2 (YB _ hz)) with e | h9
   ·subst e
    have:=h3 z hz
    rw [h.irr z] at this;cases this
   ·exact h9
theorem Zjp {l m:List Ze} (he:∀ x,x ∈ l ↔ x ∈ m):Zbv ltE l=Zbv ltE m:=
 ZgD ZbK (Zbo ZbK l).1 (Zbo ZbK m).1 fun x=>by rw [(Zbo ZbK l).2,(Zbo ZbK m).2,he x]
structure HvD where
 edge:Ze
 cnt:Int
 deriving DecidableEq,Inhabited
def rHv (x:HvD):List PV:=[.int .i64 x.edge.src,.int .i64 x.edge.dst,.int .i64 x.edge.kind,.int .i64 x.edge.key,.int .i64 x.cnt]
def cntA (A:List (Ze×Int)) (R:List Ze) (e:Ze):Int:=Zl0 A e+(R.count e:Int)
def ZgJ (A:List (Ze×Int)) (R:List Ze):List Ze:=A.map Prod.fst++R
def Zgr (A:List (Ze×Int)) (R:List Ze):List HvD:=(Zbv ltE (ZgJ A R)).map fun e=>⟨e,cntA A R e⟩
theorem Zfc {es:List (GE Ze Int)} {A:List (Ze×Int)} {R ks:List Ze} (hE:Zf4 es A R) (hk:ks.Perm (es.map (·.key))):Zbv ltE ks=Zbv ltE (ZgJ A R):=Zjp fun x=>by
 unfold ZgJ
 rw [hk.mem_iff,YA,← hE.key x,Zeq]
theorem ZlO {A:List (Ze×Int)} {R:List Ze} : (Zgr A R).length=(Zbv ltE (ZgJ A R)).length:=YF _
theorem Zqp {g:Zq} (h:ZK g):NE g.orders:=fun o ho=>by
 have h2:=(ZcT g).2 h.2.2
 obtain ⟨j,hj,e⟩:=YY ho
 have:=(h2.2 j hj).2.1
 rwa [nth_eq hj,e] at this
structure EdD where
 kind:Int
 t:TxD
 o:OrdD
 place:Int
 deriving DecidableEq,Inhabited
def doH (g:Zq) (e:EdD):Zq×Int:=if e.kind=0 then ZnH g e.t else if e.kind=1 then ZnP g e.t.id else if e.kind=2 then Zqy g e.t else if e.kind=3 then ZoH g e.o else if e.kind=4 then Ztz g e.o.key e.t.id e.place else (Zdo,5)
def Zit (e:EdD):Prop:=e.t.ops.length≤24∧e.o.txs.length≤24
instance (e:EdD):Decidable (Zit e):=by unfold Zit;exact inferInstance
def ZqI (l:List EdD):Prop:=l.length≤24 ∧ ∀ e ∈ l,Zit e
instance (l:List EdD):Decidable (ZqI l):=by unfold ZqI;exact inferInstance
def Zku (g:Zq) (e:EdD):Zq:=if (doH g e).2=0 then (doH g e).1 else g
theorem ZgA {os:List OrdD} {k:Int} : (Z2 (fun o:OrdD=>decide (o.key=k)) os<0→getO os k = [])∧(¬ Z2 (fun o:OrdD=>decide (o.key=k)) os<0 → ∃ i:Nat,Z2 (fun o:OrdD=>decide (o.key=k)) os=i∧i<os.length∧getO os k=(Nn os i).txs):=by
 rcases ZbD (fun o:OrdD=>decide (o.key=k)) os with ⟨h1,h2⟩ | ⟨i,h1,h2,h3,h4⟩
 ·exact ⟨fun _=>ZrP fun q hq=>by simpa using h2 q hq,fun h=>absurd (by rw [h1];decide) h⟩
 ·exact ⟨fun h=>by rw [h1] at h;omega,fun _=>⟨i,h1,h2,Zsi h2 (by simpa using h3) fun q hq=>by simpa using h4 q hq⟩⟩
def Fit (n:Nat) (g:Zq):Prop:=(g.txs.length≤n ∧ ∀ t ∈ g.txs,t.ops.length≤24)∧g.orders.length≤24*n ∧ ∀ o ∈ g.orders,o.txs.length≤n
theorem Fit.small {n:Nat} {g:Zq} (h:Fit n g) (hn:n≤30):ZbY g:=by
 obtain ⟨⟨h1,h2⟩,h3,h4⟩:=h
 exact ⟨⟨by omega,fun t ht=>by have:=h2 t ht;omega⟩,by omega,fun o ho=>by have:=h4 o ho;omega⟩
theorem Fit.zero:Fit 0 Zdo:=⟨⟨by simp [Zdo],fun t ht=>by cases ht⟩,by simp [Zdo],fun o ho=>by cases ho⟩
theorem Fit.up {n:Nat} {g:Zq} (h:Fit n g):Fit (n+1) g:=⟨⟨by have:=h.1.1;omega,h.1.2⟩,by have:=h.2.1;omega,fun o ho=>by have:=h.2.2 o ho;omega⟩
theorem Fit.none {n:Nat} : Fit n Zdo:=by
 induction n with
 | zero=>exact Fit.zero
 | succ n ih=>exact ih.up
theorem ZmI {os:List OrdD} {ks:List Int} {t:TxD} {o:OrdD} (h:o ∈ ZsV t os ks):o ∈ os∨o.txs = []:=by
 unfold ZsV at h
 split at h
 ·have key:∀ (ks:List Int) (os:List OrdD),o ∈ ks.foldl ZqD os→o ∈ os∨o.txs = []:=by
   intro ks
   induction ks with
   | nil=>intro os h;exact .inl h
   | cons k ks ih=>
    intro os h
    rcases ih _ h with h | h
    ·rcases Zqt h with h | h
     ·exact .inl h
     ·exact .inr (by rw [h])
    ·exact .inr h
  exact key ks os h
 ·exact .inl h
theorem ZlP {n:Nat} {t:TxD} {os:List OrdD} (ht:t.ops.length≤24) (h1:os.length≤24*n) (h2:∀ o ∈ os,o.txs.length≤n):(settleO t os).length≤24*(n+1) ∧ ∀ o ∈ settleO t os,o.txs.length≤n+1:=by
 have hk:=Zfy t
 have hl:(ZsV t os (Za0 t)).length≤os.length+(Za0 t).length:=by
  unfold ZsV
  split
  ·have key:∀ (ks:List Int) (os:List OrdD),(ks.foldl ZqD os).length≤os.length+ks.length:=by
    intro ks
    induction ks with
    | nil=>intro os;simp
    | cons k ks ih=>intro os;have h1:=ih (ZqD os k);have h2:=Zpt os k;rw [Yav,Yl];omega
   exact key _ _
  ·omega
 unfold settleO
 refine ⟨Y6 (Y3 _ _) (by rw [YF];omega),fun o ho=>?_⟩
 obtain ⟨o',ho',e⟩:=Yv.1 (YV.1 ho).1
 have hlen:o'.txs.length≤n:=by
  rcases ZmI ho' with h | h
  ·exact h2 o' h
  ·rw [h];simp
 rw [← e]
 unfold ZtM
 show (if _ then _ else _:List Int).length≤_
 split
 ·unfold Zte;split
  ·omega
  ·simp;omega
 ·unfold Zcn
  exact Y6 (Y3 _ _) ow
theorem Zgi {n:Nat} {g:Zq} {key:Int} {rule:List Int→List Int×Int} (hr:∀ l,(rule l).2=0→(rule l).1.length≤l.length) (h:Fit n g):Fit n (Zg7 g key rule).1:=by
 unfold Zg7
 split
 ·exact Fit.none
 ·split
  ·exact Fit.none
  ·split
   ·exact Fit.none
   ·rename_i h1 h2 h3
    refine ⟨h.1,by show (List.set _ _ _).length≤_;rw [YR];exact h.2.1,fun o ho=>?_⟩
    rcases List.mem_or_eq_of_mem_set ho with h4 | h4
    ·exact h.2.2 o h4
    ·have hk:isK OrdD.key key g.orders=true:=by simpa using h2
     have hlt:=(Zr0 (Zau (Decidable.not_not.1 h1)).2 hk).1
     have:=hr _ (Decidable.not_not.1 h3)
     have:=h.2.2 _ (nth_mem hlt)
     rw [h4];show (rule _).1.length≤n;omega
theorem Fit.doH {n:Nat} {g:Zq} {e:EdD} (h:Fit n g) (he:Zit e):Fit (n+1) (doH g e).1:=by
 have hset:∀ t:TxD,t.ops.length≤24 → ∀ txs:List TxD,txs.length≤n+1→(∀ t ∈ txs,t.ops.length≤24)→Fit (n+1) ⟨txs,settleO t g.orders⟩:=fun t ht txs h1 h2=>by
  obtain ⟨h3,h4⟩:=ZlP ht h.2.1 h.2.2
  exact ⟨⟨h1,h2⟩,h3,h4⟩
 unfold Go.Proofs.YtlkpllemoepamaaGreat.doH
 split
 ·unfold ZnH
  split
  ·exact Fit.none
  ·split
   ·exact Fit.none
   ·refine hset _ he.1 _ ?_ fun t ht=>?_
    ·have:=h.1.1;rw [Yd,Yd,Yj,YJ];simp;omega
    ·rw [YA,YA] at ht
     rcases ht with (ht | ht) | ht
     ·exact h.1.2 t (Yao ht)
     ·rw [Yi.1 ht];exact he.1
     ·exact h.1.2 t (Ybf ht)
 ·split
  ·unfold ZnP
   split
   ·exact Fit.none
   ·split
    ·exact Fit.none
    ·split
     ·exact Fit.none
     ·refine hset _ (by simp [Zq5]) _ ?_ fun t ht=>?_
      ·have:=h.1.1;rw [Yd,Yj,YJ];omega
      ·rw [YA] at ht
       rcases ht with ht | ht
       ·exact h.1.2 t (Yao ht)
       ·exact h.1.2 t (Ybf ht)
  ·split
   ·unfold Zqy
    split
    ·exact Fit.none
    ·split
     ·exact Fit.none
     ·refine hset _ he.1 _ ?_ fun t ht=>?_
      ·have:=h.1.1;rw [YR];omega
      ·rcases List.mem_or_eq_of_mem_set ht with ht | ht
       ·exact h.1.2 t ht
       ·rw [ht];exact he.1
   ·split
    ·refine (Zgi (fun l h0=>?_) h).up
     unfold ZsQ at h0 ⊢
     split at h0
     ·rename_i hp;rw [Ye hp,hp.length_eq];exact YL _
     ·simp at h0
    ·split
     ·exact (Zgi (fun l h0=>by show (Zpy l _ _).1.length≤_;exact Zok _ _ _) h).up
     ·exact Fit.none
theorem Fit.step {n:Nat} {g:Zq} {e:EdD} (h:Fit n g) (he:Zit e):Fit (n+1) (Zku g e):=by
 unfold Zku
 split
 ·exact h.doH he
 ·exact h.up
theorem Zpw (o:OrdD) (key:Int):FnP prog 41 [.agg (ZV o),.ref [.int .i64 key]] (.bool (decide (o.key=key))):=by
 refine FnP.mk func41 rfl ntmps41 rfl fun B a w F Z hfr G=>Ya ?_
 refine Zb G (qx 101 r1 qB) Z [3,2,1] [101,0] (fun _=>rfl) (fun _=>rfl) fun τ a w F G=>?_
 try dsimp only [RS.sub,SF.sub,CF.sub,csub,Anc.sub,List.map,zCF,Zx,rTx,ZV,ZQ,Zo,rOp] at G
 generalize τ 2=v2 at G
 refine Za (Ya (rZ G (qg 0 101 r1 r1 (qa 101 r1 r1 (qf (oR false 1 .t) r1 qz (qf (o_eql .t .t) r2 qz (qO rr qZ))))) Z [3] [101,0] fun G=>Yh ?_))
 refine Zw hfr G rfl rfl rfl .refl
theorem ZjL (g:Zq) (key:Int) (hs:Zgw g.orders):FnP prog 16 [.agg (Zx g),.int .i64 key] (.sl Zo (getO g.orders key)):=by
 refine FnP.mk func16 rfl ntmps16 rfl fun B a w F Z hfr G=>?_
 have hso:=hs.1
 refine Ya (Zb G (qx 101 r1 (qf (Znb 102 .t one_int) r1 qz (qC qZ))) Z [4,3,2] [102,101,0] (fun _=>rfl) (fun _=>rfl) fun τ a w F G=>?_)
 try dsimp only [RS.sub,SF.sub,CF.sub,csub,Anc.sub,List.map,zCF,Zx,rTx,ZV,ZQ,Zo,rOp] at G
 generalize τ 2=v2,τ 3=v3 at G
 refine Za (Ya (Zbj 2 G kr (cG rfl (oF 1 101 .is) r1 r1 (cG rfl (oL false 1 101 .adr) r1 r1 Zai.nil)) kr (by rw [Z];kernel_rfl) fun a w F G=>?_))
 obtain ⟨F,G⟩:=G.nM [7,4,3,2] [102,101,0]
 try dsimp only [List.map,xD,xE,xT,xU,ldSF,Zx,rTx,ZV,ZQ,Zo,rOp] at G
 obtain ⟨F,G⟩:=G.giveRef 102 3 rfl rfl rfl
 obtain ⟨F,G⟩:=G.nM [7,4,3,2] [101,0]
 try dsimp only [Go.Gm.unCF] at G
 refine Zb0 G kr (cG rfl (Zbk (Args.one .t)) r1 trivial (cG rfl (oP (Zq1 g.orders (fun o=>decide (o.key=key)) 41 f41 [.ref [.int .i64 key]] func41 rfl kr (fun o=>Zpw o key)) func40 (Args.two .t .t)) r2 trivial (cG rfl (oN .t) r1 trivial Zai.nil))) kr (by rw [Z];kernel_rfl) fun a w F G=>?_
 obtain ⟨F,G⟩:=G.nM [5,4,2] [101,0]
 try dsimp only [Zx,rTx,ZV,ZQ,Zo,rOp] at G
 refine Za (Ya (Ya (rZ G (qR rr (qf (ZaD .t qi) r1 qz qZ)) Z [11,5,4,2] [101,0] fun G=>?_)))
 refine Zc G rfl (fun hc0=>?_) (fun hc0=>?_)
 ·have hg:[] = getO g.orders key:=(ZgA.1 (by simpa using hc0)).symm
  refine Ya (rZ G (qC qZ) Z [5,4,2] [101,0] fun G=>(Yh (Zm ?_)))
  refine Zw hfr G rfl rfl rfl (by first | exact .sl hg | (rw [← hg];exact .nilSl))
 obtain ⟨fi,hfi,hfl,hfg⟩:=ZgA.2 (show ¬ Z2 (fun o:OrdD=>decide (o.key=key)) g.orders<0 by simpa using hc0)
 have hg:(Nn g.orders (Z2 (fun o:OrdD=>decide (o.key=key)) g.orders).toNat).txs=getO g.orders key:=by rw [hfi,Yc,hfg]
 refine Yf (Za (Ya (Zg G (qg 1 101 r1 r1 (qa 101 r1 r1 (qR rr (qf (ZI (sz:=2) (.mk Yb6 kr) (by intro x;rfl) .t .t (by rw [hfi];omega) (by rw [hfi];omega)) r2 qz (qf (oG 1 .t) r1 qz (qf (oR false 1 .t) r1 qz (qf (oP (cloneIP_c _ (by rw [hfi,Yc];have:=hs.at hfl;omega)) func42 (Args.one .t)) r1 qz (qO rr qZ)))))))) Z [4] [101,0] rfl rfl fun a w F G=>?_)))
 try simp only [Yc] at G
 refine Za (Yh (Zw hfr G rfl rfl rfl (by first | exact .sl hg | (rw [← hg];exact .nilSl))))
instance (l:List TxD):Decidable (ZaI l):=by unfold ZaI;exact inferInstance
instance (l:List OrdD):Decidable (Zgw l):=by unfold Zgw;exact inferInstance
instance (g:Zq):Decidable (ZbY g):=by unfold ZbY;exact inferInstance
end Go.Proofs.YtlkpllemoepamaaGreat
