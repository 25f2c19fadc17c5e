/- Laws and walks. No condition beyond what each says. -/
import Derived.Test.YtlkpllemoepamaaGreatJ1
import Derived.Deep.QuietTactic
import Derived.BigQuiet
import Derived.Shelf.SlSortCmp.WholeK
import Derived.Sort.LotA
namespace Go.Proofs.YtlkpllemoepamaaGreat
open Go Go.Gm Tryz
set_option linter.unusedVariables false
set_option linter.unusedSimpArgs false
set_option maxHeartbeats 4000000
set_option maxRecDepth 8000
def Ze9 (os:List OrdD) (k:Int):List OrdD:=if isK OrdD.key k os=true then os else os.take (lowK OrdD.key k os) ++ [⟨k,[]⟩] ++ os.drop (lowK OrdD.key k os)
def Zkf (k:Int):List OrdD→List OrdD
 | []=>[⟨k,[]⟩]
 | o :: os=>if o.key<k then o :: Zkf k os else if o.key=k then o :: os else ⟨k,[]⟩ :: o :: os
theorem ZkY {α:Type} {κ:α→Int} {k:Int} (l:List α):lowK κ k l≤l.length:=by
 unfold lowK
 exact (List.takeWhile_sublist _).length_le
theorem ZT {α:Type} [Inhabited α] {κ:α→Int} {l:List α} : ZcK κ l ↔ l.Pairwise fun a b=>κ a<κ b:=by
 rw [YaN]
 constructor
 ·intro h i j hi hj hij
  have:=h i j hij hj
  rwa [nth_eq hi,nth_eq hj] at this
 ·intro h a b hab hb
  rw [nth_eq ow,nth_eq hb]
  exact h a b ow hb hab
theorem Zic (k:Int):∀ {os:List OrdD},ZcK OrdD.key os→Ze9 os k=Zkf k os
 | [],_=>rfl
 | o :: os,h=>by
  rw [ZT,Yo] at h
  have ih:=Zic k (os:=os) (ZT.2 h.2)
  have e1:lowK OrdD.key k (o :: os)=if o.key<k then lowK OrdD.key k os+1 else 0:=by
   unfold lowK
   split
   ·rename_i h1
    rw [Ybr (by simpa using h1),Yl]
   ·rename_i h1
    rw [List.takeWhile_cons_of_neg (by simpa using h1)];rfl
  have e2:isK OrdD.key k (o :: os)=(decide (o.key=k) || isK OrdD.key k os):=by unfold isK;rw [YbT]
  by_cases h1:o.key<k
  ·rw [Yf h1] at e1
   have e3:isK OrdD.key k (o :: os)=isK OrdD.key k os:=by rw [e2,YD ow,Ybi]
   unfold Ze9 at ih ⊢
   unfold Zkf
   rw [Yf h1,e3,e1]
   split
   ·rename_i h2;rw [Yf h2] at ih;exact Y8 (o :: ·) ih
   ·rename_i h2;rw [Yc h2] at ih;rw [← ih];simp
  ·rw [Yc h1] at e1
   unfold Ze9 Zkf
   rw [Yc h1,e1]
   by_cases h3:o.key=k
   ·rw [Yf h3,Yf (by rw [e2,Yac h3,Yb3])]
   ·rw [Yc h3,Yc]
    ·simp
    ·rw [e2,YD h3,Ybi]
     unfold isK
     rw [YaD]
     rintro ⟨x,hx,hk⟩
     have:=h.1 x hx
     simp at hk
     omega
theorem Zl1 {k:Int} {o:OrdD} : ∀ {os:List OrdD},o ∈ Zkf k os→o ∈ os∨o = ⟨k,[]⟩
 | [],h=>by simp [Zkf] at h;exact .inr h
 | x :: os,h=>by
  unfold Zkf at h
  split at h
  ·rcases Yj.1 h with h | h
   ·exact .inl (by simp [h])
   ·rcases Zl1 h with h | h
    ·exact .inl (by simp [h])
    ·exact .inr h
  ·split at h
   ·exact .inl h
   ·rcases Yj.1 h with h | h
    ·exact .inr h
    ·exact .inl h
theorem Zj9 {k:Int} : ∀ {os:List OrdD},(os.Pairwise fun a b=>a.key<b.key)→(Zkf k os).Pairwise fun a b=>a.key<b.key
 | [],_=>by simp [Zkf]
 | x :: os,h=>by
  rw [Yo] at h
  unfold Zkf
  split
  ·rename_i h1
   rw [Yo]
   refine ⟨fun o ho=>?_,Zj9 h.2⟩
   rcases Zl1 ho with h3 | h3
   ·exact h.1 o h3
   ·rw [h3];exact h1
  ·split
   ·rw [Yo];exact h
   ·rw [Yo,Yo]
    refine ⟨fun o ho=>?_,h⟩
    rcases Yj.1 ho with h3 | h3
    ·rw [h3];show k<x.key;omega
    ·have:=h.1 o h3;show k<o.key;omega
theorem insK_rise {os:List OrdD} (k:Int) (h:ZcK OrdD.key os):ZcK OrdD.key (Ze9 os k):=by
 rw [Zic k h,ZT]
 exact Zj9 (ZT.1 h)
theorem Zl2 (os:List OrdD) (k:Int):(Ze9 os k).length≤os.length+1:=by
 unfold Ze9
 split
 ·omega
 ·rw [Yd,Yd,Yi,YE];simp;omega
theorem ZlL {os:List OrdD} {k:Int} {o:OrdD} (h:o ∈ Ze9 os k):o ∈ os∨o = ⟨k,[]⟩:=by
 unfold Ze9 at h
 split at h
 ·exact .inl h
 ·rw [YB,YB] at h
  rcases h with (h | h) | h
  ·exact .inl (Yay h)
  ·exact .inr (by simpa using h)
  ·exact .inl (Ybh h)
def ZdF (t:TxD) (os:List OrdD) (ks:List Int):List OrdD:=if t.done=true then ks.foldl Ze9 os else os
theorem ZgZ {t:TxD} {os:List OrdD} (h:ZcK OrdD.key os) (hs:Zdx os) (ks:List Int):ZcK OrdD.key (ZdF t os ks)∧(ZdF t os ks).length≤os.length+ks.length ∧ ∀ o ∈ ZdF t os ks,o.txs.length≤1000:=by
 unfold ZdF
 split
 ·have key:∀ (ks:List Int) (os:List OrdD),ZcK OrdD.key os→(∀ o ∈ os,o.txs.length≤1000)→ZcK OrdD.key (ks.foldl Ze9 os)∧(ks.foldl Ze9 os).length≤os.length+ks.length ∧ ∀ o ∈ ks.foldl Ze9 os,o.txs.length≤1000:=by
   intro ks
   induction ks with
   | nil=>intro os h1 h2;exact ⟨h1,by simp,h2⟩
   | cons k ks ih=>
    intro os h1 h2
    obtain ⟨g1,g2,g3⟩:=ih (Ze9 os k) (insK_rise k h1) (fun o ho=>by
     rcases ZlL ho with h | h
     ·exact h2 o h
     ·rw [h];simp)
    have:=Zl2 os k
    exact ⟨g1,by rw [Yao,Yl];omega,g3⟩
  exact key ks os h hs.2
 ·exact ⟨h,by omega,hs.2⟩
theorem ZnO {t:TxD} {os:List OrdD} {ks:List Int} {i:Nat} (hi:i<ks.length) (hc:t.done=true∧isK OrdD.key (Nn ks i) (ZdF t os (ks.take i))=false) :
  (ZdF t os (ks.take i)).take (lowK OrdD.key (Nn ks i) (ZdF t os (ks.take i))) ++ [⟨Nn ks i,[]⟩] ++ (ZdF t os (ks.take i)).drop (lowK OrdD.key (Nn ks i) (ZdF t os (ks.take i)))=ZdF t os (ks.take (i+1)):=by
 have e:ZdF t os (ks.take (i+1))=Ze9 (ZdF t os (ks.take i)) (Nn ks i):=by
  unfold ZdF
  rw [Yf hc.1,Yf hc.1,Zp hi,Yat];rfl
 rw [e];unfold Ze9;rw [Yc (by rw [hc.2];simp)]
theorem Zpc {t:TxD} {os:List OrdD} {ks:List Int} {i:Nat} (hi:i<ks.length) (hc:¬ (t.done=true∧isK OrdD.key (Nn ks i) (ZdF t os (ks.take i))=false)):ZdF t os (ks.take i)=ZdF t os (ks.take (i+1)):=by
 unfold ZdF at hc ⊢
 by_cases hd:t.done=true
 ·rw [Yf hd] at hc
  rw [Yf hd,Yf hd,Zp hi,Yat]
  have hx:∀ X k,isK OrdD.key k X=true→Ze9 X k=X:=fun X k h=>by unfold Ze9;rw [Yf h]
  show _=Ze9 _ _
  rw [hx]
  cases h:isK OrdD.key (Nn ks i) ((ks.take i).foldl Ze9 os) with
  | true=>rfl
  | false=>exact absurd ⟨hd,h⟩ hc
 ·rw [Yc hd,Yc hd]
def Zkl (t:TxD) (o:OrdD):OrdD:=⟨o.key,if t.done=true∧0<wcnt t.ops o.key then withO o.txs t.id else withoutO o.txs t.id⟩
def settleO (t:TxD) (os:List OrdD):List OrdD:=((ZdF t os (Z6 t)).map (Zkl t)).filter fun o=>!decide (o.txs = [])
theorem Zv1 {α:Type} [Inhabited α] {f:α→α} {l l2:List α} {i:Nat} (hi:i<l.length) (h:l2=(l.take i).map f++l.drop i):Nn l2 i=Nn l i∧l2.length=l.length:=by
 have h2:l2.length=l.length:=by rw [h,Yd,YH,Yi,YE];omega
 refine ⟨?_,h2⟩
 rw [nth_eq ow,nth_eq hi]
 subst h
 rw [List.getElem_append_right (by rw [YH,Yi];omega)]
 simp only [YH,Yi,List.getElem_drop]
 congr 1
 omega
theorem ZuR {α:Type} [Inhabited α] {f:α→α} {l l2:List α} {i:Nat} (hi:i<l.length) (h:l2=(l.take i).map f++l.drop i):l2.set i (f (Nn l i))=(l.take (i+1)).map f++l.drop (i+1):=by
 have hd:l.drop i=Nn l i :: l.drop (i+1):=by rw [nth_eq hi];exact Ybc hi
 rw [h,Zp hi,YR,YO,List.set_append_right _ _ (by rw [YH,Yi];omega)]
 congr 1
 have:i - ((l.take i).map f).length=0:=by rw [YH,Yi];omega
 rw [this,hd];rfl
abbrev ZrA (T TR:TypeId) (p va:Value) (os:List OrdD):HP:=HP.ex fun vb:Value=>HP.star [.pt (.val p) T [.pv (.is va),.pv (.is vb)],.ob (.val vb) (Zx TR 2 ZH os)]
theorem Zqz {k:IntKind} {a:Int} {b:Bool} (v:Value) (w:World) (y y':Ys) (h:(PV.tup [.int k a,.bool b]).p v w y):(PV.tup [.int k a,.bool b]).p v w y':=by
 obtain ⟨vs,e,h⟩:=h
 match vs,h with
 | [_,_],h=>exact ⟨_,e,h⟩
theorem Zvd {α:Type} {R:α→List PV} {l:List PV} {l':List α} (h:Nat.ble l'.length maxLen=true) (e:ZeB l (l'.flatMap R)):Ent (.pv (.arr l'.length l)) (.pv (.sl R l')):=fun _ w y v k=>Zfb.arrSl h e v w y k
theorem Zo5 (o:OrdD):FnP prog 107 [.agg (ZH o)] (.bool (decide (o.txs = []))):=by
 refine FnP.mk func107 Z ntmps107 Z fun B a w F V hfr G=>Ya ?_
 refine Zb G (qx 101 r1 qB) V [2,1] [101,0] (fun _=>rfl) (fun _=>rfl) fun τ a w F G=>?_
 try dsimp only [RS.sub,SF.sub,CF.sub,csub,Anc.sub,List.map,zCF,ZH,Zn] at G
 generalize τ 1=v1 at G
 refine Za (Ya (rZ G (qg 1 101 r1 r1 (qa 101 r1 r1 (qu Ycf r1 (qf (o_eql .t qi) r1 qz (qO rr qZ))))) V [2] [0] fun G=>Yh ?_))
 refine Zs hfr G Z Z Z (.bool (by rw [Yai];simp))
theorem ZsP (p va:Value) (os:List OrdD) (t:TxD) (hs:Zdx os) (hr:ZcK OrdD.key os) (ht:t.ops.length≤1000):FnG prog 63 1 [.is p,.agg (rTx t)] [ZrA 25 70 p va os] (.tup []) (fun _=>[ZrA 25 70 p va (settleO t os)]):=by
 refine FnG.mk func63 Z ntmps63 Z kr fun B F0 a w F V hG G=>?_
 have hso:=hs.1
 have hkl:=Zen t
 replace G:=G.turn 1 Z (r':=RS.hp (HP.ex fun vb:Value=>HP.star [.pt (.val p) 25 [.pv (.is va),.pv (.is vb)],.ob (.val vb) (Zx 70 2 ZH os)])) (fun _ _ _ _ h=>h)
 obtain ⟨vb0,G⟩:=G.open_ex 1 rfl
 obtain ⟨F,G⟩:=G.peel 1 61 Z rfl
 obtain ⟨F,G⟩:=G.peel 1 62 Z rfl
 obtain ⟨F,G⟩:=G.nM [1,0] [62,61,1,0]
 refine Ya (Zb G (qx 101 r1 qZ) V [3,0] [101,62,61,1,0] (fun _=>rfl) (fun _=>rfl) fun τ a w F G=>?_)
 try dsimp only [RS.sub,SF.sub,CF.sub,csub,Anc.sub,List.map,zCF,Zv,rTx,ZH,ZU,Zn,rOp] at G
 generalize τ 3=v3 at G
 refine Za (Ya (Ya (Ze G (qe 3 101 r1 r1 (qf (oP (ZoI t ow) func91 (Args.one (.pagg .t))) r1 qz (qu Ycf r1 (qJ qZ)))) V [13,12,11,3,0] [101,62,61,1,0] Z Z fun a w F G=>?_)))
 rw [show Zbt ((t.ops.filter fun o=>!o.read).map OpD.key)=Z6 t from rfl] at G
 refine Za (Yg (Zk (σ:=(Nat)×(Value)×(List OrdD)) [0,3,11,12] [0,1,101] (fun s=>[(13,.pv (.int .i64 (s.1:Int)))]) (fun s=>[(61,.pt (.val p) 25 [.pv (.is va),.pv (.is s.2.1)]),(62,.ob (.val s.2.1) (Zx 70 2 ZH s.2.2))]) (fun s=>s.1≤(Z6 t).length∧(s.2.2=ZdF t os ((Z6 t).take s.1))) (fun s=>(Z6 t).length - s.1) ((0),(vb0),(os)) G ⟨rfl,rfl,rfl,rfl,rfl,tv⟩ ⟨rfl,rfl,rfl,rfl,rfl,tv⟩ ⟨Yw _,(by unfold ZdF;split <;> rfl)⟩ ?_))
 clear G;intro s a w F hC G
 obtain ⟨i,vb,ol⟩:=s
 try dsimp only at hC
 obtain ⟨F,G⟩:=G.nM [13,12,11,3,0] [101,62,61,1,0]
 try dsimp only at G
 obtain ⟨hi,hq⟩:=hC
 obtain ⟨hf1,hf2,hf3⟩:=ZgZ (t:=t) hr hs ((Z6 t).take i)
 rw [Yi,← hq] at hf2
 rw [← hq] at hf1 hf3
 have hst:=fun h=>ZnO (t:=t) (os:=os) (ks:=(Z6 t)) (i:=i) h
 have hsk:=fun h=>Zpc (t:=t) (os:=os) (ks:=(Z6 t)) (i:=i) h
 rw [← hq] at hst hsk
 have hlk:=ZkY (κ:=OrdD.key) (k:=(Nn (Z6 t) i)) ol
 refine Ya (rZ G (qL r2) V [14,13,12,11,3,0] [101,62,61,1,0] fun G=>Ya ?_)
 refine Zc G Z (fun hc0=>?_) (fun hc0=>?_)
 ·have hil:i<(Z6 t).length:=by simp at hc0;omega
  have hio:=hil
  refine Ye (Za (Ya (Yg (Ya (Ze G (qy 1 Ycf r2 (qf (oR false 1 .t) r1 qz (qO rr qZ))) V [13,12,11,5,3,0] [101,62,61,1,0] Z Z fun a w F G=>?_)))))
  try simp only [Yb] at G
  refine Za (Ya (rZ G (qR rr (qf (o_nilCheck 61 .is (by rfl)) r1 r1 (qf (oF 1 61 .adr) r1 r1 (qa 61 r1 r1 (qR rr (qf (OpC.lendRow 62 [21] (oP (Zwg ol (Nn (Z6 t) i) ow hf1 98 f98 [] func98 Z kr (fun x=>ZtT x (Nn (Z6 t) i))) func97 (Args.three .t .t (.conv .f (Ent.fnClos)))) ⟨rfl,tv,tv⟩ (.pv Zqz) trivial (by rfl)) r2 r1 (qR rr (qf (Zh .t Z) r1 qz (qf (Zh .t Z) r1 qz (qO rr (qO rr qZ))))))))))) V [13,12,11,7,6,5,3,0] [101,62,61,1,0] fun G=>Ya ?_))
  refine rZ G (qg 1 101 r1 r1 (qa 101 r1 r1 (qR rr (qm Z Z Z Z (qk Z (fun h=>o_not (.w h)) r2 qz (qf (ZE .t .t) r2 qz qZ)))))) V [31,13,12,11,6,5,3,0] [101,62,61,1,0] fun G=>?_
  refine Zc G Z (fun hc1=>?_) (fun hc1=>?_)
  ·have hq9:=hst hio (by simpa using hc1)
   refine Zb G (qR rr (qR rr (qf (o_nilCheck 61 .is (by rfl)) r1 r1 (qf (oF 1 61 .adr) r1 r1 (qa 61 r1 r1 (qR rr (qR rr (qf (oB [(0,.tmp 38)] [.int .i64 0,.slice none 0 0] [(0,1),(1,1)] (.one Z .t one_int kr .nil)) r1 qz (qf (o_buildSliceE (sz:=2) (zs:=[.int .i64 0,.slice none 0 0]) (r:=[(0,.tmp 39)]) (l:=[_,_]) Ych kr kr kr kr Z Z (.agg Z .t kr kr .nil) Z) r1 qz (qf (o_callRowN 62 (ZvQ vb ol (lowK OrdD.key (Nn (Z6 t) i) ol) ⟨(Nn (Z6 t) i),[]⟩ ow hlk) func103 Z kr (Args.three .t .t (.conv .t (Zvd (l:=[.int .i64 (Nn (Z6 t) i),.is (.slice none 0 0)]) (R:=ZH) (l':=[⟨(Nn (Z6 t) i),[]⟩]) Z ⟨Zfb.refl,Zfb.nilSl,tv⟩))) pvOne1) r3 r1 (qf (o_nilCheck 61 .is (by rfl)) r1 r1 (qf (oF 1 61 .adr) r1 r1 (qf (o_storeS 61 .adr kr kr) r2 r1 qZ))))))))))))) V [13,12,11,3,0] [101,62,61,1,0] (fun _=>rfl) (fun _=>rfl) fun τ a w F G=>?_
   try dsimp only [RS.sub,SF.sub,CF.sub,csub,Anc.sub,List.map,Zf,xL,xM,Nat.reduceAdd,xD,xE,xT,xU,xC,xN,zCF,ldSF,Zv,rTx,ZH,ZU,Zn,rOp] at G
   generalize τ 41=v41 at G
   refine Zi (Za (rZ G (qp r1 (qR rr qZ)) V [13,12,11,3,0] [101,62,61,1,0] fun G=>?_))
   replace G:=G.ent (i:=13) (s':=.pv (.int .i64 ((i+1:Nat):Int))) Z (.int (Zd ow))
   obtain ⟨F,G⟩:=G.nM [12,11,3,0,13] [101,1,0,62,61]
   exact ⟨((i+1),_,_),F,⟨by omega,hq9⟩,G,by omega⟩
  have hq9:=hsk hio (by intro e;simp [e.1,e.2] at hc1)
  refine Ye (Zi (Za (rZ G (qp r1 (qR rr qZ)) V [13,12,11,3,0] [101,62,61,1,0] fun G=>?_)))
  replace G:=G.ent (i:=13) (s':=.pv (.int .i64 ((i+1:Nat):Int))) Z (.int (Zd ow))
  obtain ⟨F,G⟩:=G.nM [12,11,3,0,13] [101,1,0,62,61]
  exact ⟨((i+1),_,_),F,⟨by omega,hq9⟩,G,by omega⟩
 have hil:i=(Z6 t).length:=by simp at hc0;omega
 have hq0:ol=ZdF t os (Z6 t):=by rw [hq,hil,YA]
 refine Yx (Zj (Zj (Zo (Za (Ya (Ya (rZ G (qR rr (qf (o_nilCheck 61 .is (by rfl)) r1 r1 (qf (oF 1 61 .adr) r1 r1 (qa 61 r1 r1 (qf (ZQ 62 Ych .is) r1 r1 (qJ qZ)))))) V [50,49,3,0] [101,62,61,1,0] fun G=>Yg ?_)))))))
 refine Zk (σ:=(Nat)×(List OrdD)) [0,3,49] [0,1,61,101] (fun s=>[(50,.pv (.int .i64 (s.1:Int)))]) (fun s=>[(62,.ob (.val vb) (Zx 70 2 ZH s.2))]) (fun s=>s.1≤ol.length∧(s.2=(ol.take s.1).map (Zkl t)++ol.drop s.1)) (fun s=>ol.length - s.1) ((0),(ol)) G ⟨rfl,rfl,rfl,rfl,tv⟩ ⟨rfl,rfl,rfl,rfl,rfl,tv⟩ ⟨Yw _,(by simp)⟩ ?_
 clear G;intro s a w F hC G
 obtain ⟨i,o2⟩:=s
 try dsimp only at hC
 obtain ⟨F,G⟩:=G.nM [50,49,3,0] [101,62,61,1,0]
 try dsimp only at G
 obtain ⟨hi,hq⟩:=hC
 have hm:=fun h=>Zv1 (f:=Zkl t) (l:=ol) (i:=i) h hq
 have hms:=fun h=>ZuR (f:=Zkl t) (l:=ol) (i:=i) h hq
 refine Ya (rZ G (qL r2) V [51,50,49,3,0] [101,62,61,1,0] fun G=>Ya ?_)
 refine Zc G Z (fun hc2=>?_) (fun hc2=>?_)
 ·have hil:i<ol.length:=by simp at hc2;omega
  have hio:=hil
  have hol:=hf3 _ (nth_mem hio)
  have hmn:=(hm hio).1
  have hms2:=hms hio
  have hol2:(Nn o2 i).txs.length≤1000:=by rw [hmn];exact hol
  refine Ye (Za (Ya (Yg (Ya (rZ G (qR rr (qO rr qZ)) V [50,49,8,3,0] [101,62,61,1,0] fun G=>Ya ?_)))))
  refine Ze G (qR rr (qf (o_nilCheck 61 .is (by rfl)) r1 r1 (qf (oF 1 61 .adr) r1 r1 (qa 61 r1 r1 (qR rr (qf (o_indexAddr_row (sz:=2) 62 (.mk Ych kr) .is .t ow ow (by rfl)) r2 r1 (qO rr qZ))))))) V [50,49,9,3,0] [101,62,61,1,0] Z Z fun a w F G=>?_
  try simp only [Yb] at G
  refine Za (Ya (Zw G (qg 1 101 r1 r1 (qa 101 r1 r1 (qR rr (qk Z (fun h=>oL true 3 101 .is) r2 r1 (qm Z Z Z Z (qk Z (fun h=>o_nilCheck_row0 (sz:=2) 62 (.w h) (by intro x;rfl) (by have:=(hm hil).2;omega)) r2 r1 (qk Z (fun h=>o_fieldAddr_row (off:=0) (sz:=2) 62 (.w h) (by have:=(hm hil).2;omega) kr (by rfl)) r2 r1 (qk Z (fun h=>Zah (ag:=false) (sz':=1) (sz:=2) 62 (.w h) (by intro x;rfl) (by have:=(hm hil).2;omega) kr kr kr) r2 r1 (qk Z (fun h=>oP (Zdb t (Nn o2 i).key ow) func29 (Args.two (.pagg (.w h)) (.w h))) r3 qz (qk Z (fun h=>ZaR (.w h) qi) r2 qz (qf (ZE .t .t) r2 qz qZ))))))))))) V [69,50,49,9,3,0] [101,62,61,1,0] Z Z fun a w F G=>?_))
  try dsimp only [List.map,xD,xE,xT,xU,ldSF,Zv,rTx,ZH,ZU,Zn,rOp] at G
  refine Za (Zc G Z (fun hc3=>?_) (fun hc3=>?_))
  ·have hq9:o2.set i ⟨(Nn o2 i).key,withO (Nn o2 i).txs t.id⟩ = (ol.take (i+1)).map (Zkl t)++ol.drop (i+1):=by rw [← hms2,hmn];unfold Zkl;rw [Yf (by have h9:=hc3;unfold wcnt;simpa [hmn] using h9)]
   refine Zw G (qR rr (qR rr (qf (o_nilCheck_row0 (sz:=2) 62 .t (by intro x;rfl) (by have:=(hm hil).2;omega)) r1 r1 (qf (o_fieldAddr_row (off:=1) (sz:=2) 62 .t (by have:=(hm hil).2;omega) kr (by rfl)) r1 r1 (qf (Zah (ag:=false) (sz':=1) (sz:=2) 62 .t (by intro x;rfl) (by have:=(hm hil).2;omega) kr kr kr) r1 r1 (qg 0 101 r1 r1 (qa 101 r1 r1 (qf (oP (Zuk (Nn o2 i).txs t.id ow) func104 (Args.two .t .t)) r2 qz (qf (o_nilCheck_row0 (sz:=2) 62 .t (by intro x;rfl) (by have:=(hm hil).2;omega)) r1 r1 (qf (o_fieldAddr_row (off:=1) (sz:=2) 62 .t (by have:=(hm hil).2;omega) kr (by rfl)) r1 r1 (qf (ZcX (R:=ZH) (sz:=2) (off:=1) (v':=(⟨(Nn o2 i).key,withO (Nn o2 i).txs t.id⟩:OrdD)) 62 .t (by intro x;rfl) (by have:=(hm hil).2;omega) (by decide) .t one_sl Z kr) r2 r1 qZ))))))))))) V [50,49,3,0] [101,62,61,1,0] Z Z fun a w F G=>?_
   try dsimp only [List.map,Zf,xL,xM,Nat.reduceAdd,xD,xE,xT,xU,xC,xN,zCF,ldSF,Zv,rTx,ZH,ZU,Zn,rOp] at G
   refine Zi (Za (rZ G (qp r1 (qR rr qZ)) V [50,49,3,0] [101,62,61,1,0] fun G=>?_))
   replace G:=G.ent (i:=50) (s':=.pv (.int .i64 ((i+1:Nat):Int))) Z (.int (Zd ow))
   obtain ⟨F,G⟩:=G.nM [49,3,0,50] [101,61,1,0,62]
   exact ⟨((i+1),_),F,⟨by omega,hq9⟩,G,by omega⟩
  have hq9:o2.set i ⟨(Nn o2 i).key,withoutO (Nn o2 i).txs t.id⟩ = (ol.take (i+1)).map (Zkl t)++ol.drop (i+1):=by rw [← hms2,hmn];unfold Zkl;rw [Yc (by have h9:=hc3;unfold wcnt;intro e;rw [← hmn] at e;simp [e.1,e.2] at h9)]
  refine Zw G (qR rr (qR rr (qf (o_nilCheck_row0 (sz:=2) 62 .t (by intro x;rfl) (by have:=(hm hil).2;omega)) r1 r1 (qf (o_fieldAddr_row (off:=1) (sz:=2) 62 .t (by have:=(hm hil).2;omega) kr (by rfl)) r1 r1 (qf (Zah (ag:=false) (sz':=1) (sz:=2) 62 .t (by intro x;rfl) (by have:=(hm hil).2;omega) kr kr kr) r1 r1 (qg 0 101 r1 r1 (qa 101 r1 r1 (qf (oP (ZmL (Nn o2 i).txs t.id ow) func105 (Args.two .t .t)) r2 qz (qf (o_nilCheck_row0 (sz:=2) 62 .t (by intro x;rfl) (by have:=(hm hil).2;omega)) r1 r1 (qf (o_fieldAddr_row (off:=1) (sz:=2) 62 .t (by have:=(hm hil).2;omega) kr (by rfl)) r1 r1 (qf (ZcX (R:=ZH) (sz:=2) (off:=1) (v':=(⟨(Nn o2 i).key,withoutO (Nn o2 i).txs t.id⟩:OrdD)) 62 .t (by intro x;rfl) (by have:=(hm hil).2;omega) (by decide) .t one_sl Z kr) r2 r1 qZ))))))))))) V [50,49,3,0] [101,62,61,1,0] Z Z fun a w F G=>?_
  try dsimp only [List.map,Zf,xL,xM,Nat.reduceAdd,xD,xE,xT,xU,xC,xN,zCF,ldSF,Zv,rTx,ZH,ZU,Zn,rOp] at G
  refine Zi (Za (rZ G (qp r1 (qR rr qZ)) V [50,49,3,0] [101,62,61,1,0] fun G=>?_))
  replace G:=G.ent (i:=50) (s':=.pv (.int .i64 ((i+1:Nat):Int))) Z (.int (Zd ow))
  obtain ⟨F,G⟩:=G.nM [49,3,0,50] [101,61,1,0,62]
  exact ⟨((i+1),_),F,⟨by omega,hq9⟩,G,by omega⟩
 have hil:i=ol.length:=by simp at hc2;omega
 have hfin:(o2.filter fun o=>!decide (o.txs = []))=settleO t os:=by rw [hq,hil,YA,List.drop_length,YS,hq0];rfl
 have ho2:o2.length=ol.length:=by rw [hq,hil];simp
 refine Yx (Zj (Zj (Zo (Za (Zb G (qR rr (qR rr (qf (o_nilCheck 61 .is (by rfl)) r1 r1 (qf (oF 1 61 .adr) r1 r1 (qa 61 r1 r1 (qf (o_callRowN 62 (ZuC vb o2 ow (fun o=>decide (o.txs = [])) 107 f107 [] func107 Z kr (fun o=>Zo5 o)) func106 Z kr (Args.two .t (.conv .f (Ent.fnClos))) pvOne1) r1 r1 (qf (o_nilCheck 61 .is (by rfl)) r1 r1 (qf (oF 1 61 .adr) r1 r1 (qf (o_storeS 61 .adr kr kr) r2 r1 qZ))))))))) V [] [101,62,61,1,0] (fun _=>rfl) (fun _=>rfl) fun τ a w F G=>?_)))))
 try dsimp only [RS.sub,SF.sub,CF.sub,csub,Anc.sub,List.map,Zf,xL,xM,Nat.reduceAdd,xD,xE,xT,xU,xC,xN,zCF,ldSF,Zv,rTx,ZH,ZU,Zn,rOp] at G
 generalize τ 96=v96 at G
 obtain ⟨F,G⟩:=G.push 1 62 Z Z Z rfl
 obtain ⟨F,G⟩:=G.push 1 61 Z Z Z rfl
 have G:=G.turn 1 Z (r':=RS.hp (ZrA 25 70 p va (settleO t os))) (fun _ _ _ _ h=>⟨v96,by rw [hfin] at h;exact h⟩)
 refine Zad hG G Z .nil .none rfl
def insE (l:List Z7) (e:Z7):List Z7:=l.take (lowK Za0 (Za0 e) l) ++ [e] ++ l.drop (lowK Za0 (Za0 e) l)
theorem putE_c (v:Value) (l:List Z7) (e:Z7) (hll:l.length≤1000000) (hs:ZcK Za0 l) (hl:∀ x ∈ l,okE x) (he:okE e):FnG prog 157 1 [.is v,.agg (Zav e)] [Zx 217 3 Zav l v] (PV.one) (fun v=>[Zx 217 3 Zav (insE l e) v]):=by
 refine FnG.mk func157 Z ntmps157 Z kr fun B F0 a w F V hG G=>?_
 replace G:=G.turn 1 Z (r':=.ob (.val v) (Zx 217 3 Zav l)) (fun _ _ _ _ h=>h)
 refine Ya (Zb G (qx 101 r1 (qC qZ)) V [4,3,0] [101,1,0] (fun _=>rfl) (fun _=>rfl) fun τ a w F G=>?_)
 try dsimp only [RS.sub,SF.sub,CF.sub,csub,Anc.sub,List.map,zCF,Zav,Zau,Zn,Zam] at G
 generalize τ 3=v3 at G
 refine Za (Ya (rZ G (qR rr (qe 3 101 r1 r1 (qf (OpC.lendRow 1 [8] (oP (ZvA l e (Za0 e) hll hs 196 f196 [] func196 Z kr (fun x hx=>Ztm x e (hl x hx) he)) func195 (Args.three .t (.pagg .t) (.conv .f (Ent.fnClos)))) ⟨rfl,tv,tv⟩ (.pv Zqz) trivial (by rfl)) r2 r1 (qR rr (qf (Zh .t Z) r1 qz (qf (Zh .t Z) r1 qz (qO rr (qO rr qZ)))))))) V [5,4,3,0] [101,1,0] fun G=>Ya ?_))
 refine Zb G (qR rr (qR rr (qe 3 101 r1 r1 (qf (o_buildSliceE (sz:=3) (zs:=[.int .i64 0,.int .i64 0,.int .i64 0]) (r:=[(0,.tmp 15)]) (l:=[_,_,_]) Ycj kr kr kr kr Z Z (.agg Z .t kr kr .nil) Z) r1 qz (qf (o_callRowN 1 (Zvw v l (lowK Za0 (Za0 e) l) e hll (ZkY l)) func197 Z kr (Args.three .t .t (.conv .t (Ent.arrSl (R:=Zav) (l:=[e]) Z))) pvOne1) r3 r1 (qO rr qZ)))))) V [4] [1,0] (fun _=>rfl) (fun _=>rfl) fun τ a w F G=>?_
 try dsimp only [RS.sub,SF.sub,CF.sub,csub,Anc.sub,List.map,Zf,xL,xM,Nat.reduceAdd,xD,xE,xT,xU,xC,xN,zCF,ldSF,Zav,Zau,Zn,Zam] at G
 generalize τ 17=v17 at G
 have hg:insE l e=l.take (lowK Za0 (Za0 e) l) ++ [e] ++ l.drop (lowK Za0 (Za0 e) l):=rfl
 refine Za (Yh ?_)
 have G:=G.turn 1 Z (r':=RS.hp (Zx 217 3 Zav (insE l e) v17)) (fun _ _ _ _ h=>by rw [hg];exact h)
 refine Z1 (h':=fun v=>Zx 217 3 Zav (insE l e) v) hG G Z (.tmp Z .nil) (.one .one) rfl
def Zv6 (L:List (List Z7)):Prop:=∀ l ∈ L,l.length≤1000000∧ZcK Za0 l ∧ ∀ e ∈ l,okE e
def ZqG (O:List (List Z7)) (x:Zy):Bool:=ZaH O.length x && isK Za0 (Za0 (endO x)) (Nn O x.src.toNat)
theorem ZP {n:Nat} {x:Zy} : ZaH n x=true ↔ (0≤x.src∧x.src<n)∧(0≤x.dst∧x.dst<n)∧(1≤x.kind∧x.kind≤3)∧0≤x.label∧x.label≤1048575:=by
 unfold ZaH
 simp only [Yt,Yq]
 constructor
 ·rintro ⟨⟨⟨⟨⟨a,b⟩,c⟩,d⟩,e⟩,f⟩;exact ⟨a,b,⟨c,d⟩,e,f⟩
 ·rintro ⟨a,b,⟨c,d⟩,e,f⟩;exact ⟨⟨⟨⟨⟨a,b⟩,c⟩,d⟩,e⟩,f⟩
theorem endO_ok {n:Nat} {x:Zy} (h:ZaH n x=true) (hn:n≤4096):okE (endO x):=by
 obtain ⟨h1,h2,h3,h4,h5⟩:=ZP.1 h
 exact ⟨⟨h4,h5⟩,h2.1,show x.dst≤4095 by omega⟩
theorem endI_ok {n:Nat} {x:Zy} (h:ZaH n x=true) (hn:n≤4096):okE (endI x):=by
 obtain ⟨h1,h2,h3,h4,h5⟩:=ZP.1 h
 exact ⟨⟨h4,h5⟩,h1.1,show x.src≤4095 by omega⟩
theorem Zt9 (O I:List (List Z7)) (m:Nat) (x:Zy) (hO:Zv6 O) (hn:O.length≤4096):FnP prog 155 [Zew O I m,.agg (Zam x)] (.bool (ZqG O x)):=by
 refine FnP.mk func155 Z ntmps155 Z fun B a w F V hfr G=>Ya ?_
 refine Zb G (qx 101 r1 qB) V [4,3,0] [101,0] (fun _=>rfl) (fun _=>rfl) fun τ a w F G=>?_
 try dsimp only [RS.sub,SF.sub,CF.sub,csub,Anc.sub,List.map,zCF,Zav,Zau,Zn,Zam] at G
 generalize τ 3=v3 at G
 refine Za (Ya (Ya (rZ G (qR rr (qe 4 101 r1 r1 (qf (oP (Zj8 O I m x) func154 (Args.two .t (.pagg .t))) r2 qz (qf (o_not .t) r1 qz qZ)))) V [12,4,3,0] [101,0] fun G=>?_)))
 refine Zc G Z (fun hc0=>?_) (fun hc0=>?_)
 ·have hrf:ZaH O.length x=false:=by simpa using hc0
  have hg:false=ZqG O x:=by unfold ZqG;rw [hrf];rfl
  refine Ya (rZ G qB V [4,3,0] [101,0] fun G=>(Yh (Zl ?_)))
  refine Zs hfr G Z Z Z (.bool hg)
 have hrt:ZaH O.length x=true:=by simpa using hc0
 obtain ⟨hs1,hs2⟩:=(ZP.1 hrt).1
 have hg:isK Za0 (Za0 (endO x)) (Nn O x.src.toNat)=ZqG O x:=by unfold ZqG;rw [hrt,Ya4]
 refine Ye (Za (Ya (Zb G (qe 4 101 r1 r1 (qf (oP (Zl6 x) func156 (Args.one (.pagg .t))) r1 qz (qR rr (qf (Zh .t Z) r1 qz (qf (Zh .t Z) r1 qz (qf (oH [.int .i64 0,.int .i64 0,.int .i64 0] 102) trivial qz (qf (oH [.int .i64 0,.int .i64 0,.int .i64 0] 103) trivial qz (qf (oA 3 102 .same (.conv .t .agg)) r2 r1 (qf (oA 3 103 .same (.conv .t .agg)) r2 r1 qZ))))))))) V [5,4,3,0] [102,101,0] (fun _=>rfl) (fun _=>rfl) fun τ a w F G=>?_)))
 try dsimp only [RS.sub,SF.sub,CF.sub,csub,Anc.sub,List.map,Zf,xL,xM,Nat.reduceAdd,xD,xE,xT,xU,xC,xN,zCF,ldSF,Zav,Zau,Zn,Zam] at G
 generalize τ 5=v5,τ 6=v6 at G
 refine Za (Ya (Zw G (qR rr (qf (ZD .t) r1 qz (qf (oG 0 .t) r1 qz (qf (oR false 1 .t) r1 qz (qg 0 101 r1 r1 (qa 101 r1 r1 (qy 1 Ycq r2 (qf (oR false 1 .t) r1 qz (qe 3 102 r1 r1 (qf (oP (ZvA (Nn O x.src.toNat) (endO x) (Za0 (endO x)) (hO _ (nth_mem ow)).1 (hO _ (nth_mem ow)).2.1 196 f196 [] func196 Z kr (fun z hz=>Ztm z (endO x) ((hO _ (nth_mem ow)).2.2 z hz) (endO_ok hrt hn))) func195 (Args.three .t (.pagg .t) (.conv .f (Ent.fnClos)))) r2 qz (qR rr (qf (Zh .t Z) r1 qz (qf (Zh .t Z) r1 qz (qO rr (qO rr qZ))))))))))))))) V [8,4] [0] Z Z fun a w F G=>?_))
 try dsimp only [List.map,xD,xE,xT,xU,ldSF,Zav,Zau,Zn,Zam] at G
 try simp only [Yb] at G
 refine Za (Ya (rZ G (qR rr (qO rr qZ)) V [4] [0] fun G=>Yh ?_))
 refine Zs hfr G Z Z Z (.bool hg)
theorem Zwq {α:Type} [Inhabited α] {l:List α} {k j:Nat} {v:α} (h:j<l.length):Nn (l.set k v) j=if k=j then v else Nn l j:=by
 rw [nth_eq (by simpa using h),YbZ]
 split
 ·rfl
 ·exact (nth_eq h).symm
theorem Zlb {hs:List Value} {L:List (List Z7)} {k:Nat} {v:Value} {l:List Z7} (h2:hs.length=L.length):Ze6 (hs.set k v) (L.set k l)=(Ze6 hs L).set k (v,l):=by
 apply Ya9 (by simp [Ze6])
 intro j h3 h4
 have hj:j<hs.length:=by simpa [Ze6] using h3
 simp only [Ze6,List.getElem_map,List.getElem_range,YbZ]
 rw [Zwq hj,Zwq ow]
 split <;> rfl
def Ze0 (O I:List (List Z7)) (m:Nat) (x:Zy):List (List Z7)×List (List Z7)×Nat×Int:=
 if ZaH O.length x then if ZqG O x then (O,I,m,4) else (O.set x.src.toNat (insE (Nn O x.src.toNat) (endO x)),I.set x.dst.toNat (insE (Nn I x.dst.toNat) (endI x)),m+1,0) else (O,I,m,1)
theorem ZpK (b:Nat) (O I:List (List Z7)) (m:Nat) (x:Zy) (hO:Zv6 O) (hI:Zv6 I) (hOI:I.length=O.length) (hn:O.length≤4096) (hm:m<1000000):FnG prog 116 1 [.is (Value.pointer (some { block:=b,off:=0 })),.agg (Zam x)] [ZnG O I m (Value.pointer (some { block:=b,off:=0 }))] (.int .i64 (Ze0 O I m x).2.2.2) (fun _=>[ZnG (Ze0 O I m x).1 (Ze0 O I m x).2.1 (Ze0 O I m x).2.2.1 (Value.pointer (some { block:=b,off:=0 }))]):=by
 refine FnG.mk func116 Z ntmps116 Z kr fun B F0 a w F V hG G=>Ya ?_
 refine Zb G (qx 101 r1 (qI qZ)) V [4,3,0] [101,1,0] (fun _=>rfl) (fun _=>rfl) fun τ a w F G=>?_
 try dsimp only [RS.sub,SF.sub,CF.sub,csub,Anc.sub,List.map,zCF,Zav,Zau,Zn,Zam] at G
 generalize τ 3=v3 at G
 refine Za (Ya (Yg (Ya (rZ G (qR rr (qe 4 101 r1 r1 (qf (OpC.lend 1 [8] Zfd (oP (Zj8 O I m x) func154 (Args.two .t (.pagg .t))) ⟨rfl,tv,tv⟩ (.pv (fun _ _ _ _ h=>h)) trivial (by rfl)) r2 r1 (qf (o_not .t) r1 qz (qO rr qZ))))) V [7,4,3,0] [101,1,0] fun G=>?_))))
 refine Zc G Z (fun hc0=>?_) (fun hc0=>?_)
 ·have hrf:ZaH O.length x=false:=by simpa using hc0
  have hg:Ze0 O I m x=(O,I,m,1):=by unfold Ze0;rw [hrf];rfl
  refine Ya (rZ G (qI qZ) V [4,3,0] [101,1,0] fun G=>(Yh (Zz (Zl ?_))))
  rw [hg]
  refine Zad hG G Z (.tmp Z .nil) (.one .refl) rfl
 have hrt:ZaH O.length x=true:=by simpa using hc0
 obtain ⟨⟨hs1,hs2⟩,⟨hd1,hd2⟩,_⟩:=ZP.1 hrt
 refine Ya (rZ G (qR rr (qe 4 101 r1 r1 (qf (OpC.lend 1 [13] Zfd (oP (Zt9 O I m x hO hn) func155 (Args.two .t (.pagg .t))) ⟨rfl,tv,tv⟩ (.pv (fun _ _ _ _ h=>h)) trivial (by rfl)) r2 r1 (qO rr qZ)))) V [12,4,3,0] [101,1,0] fun G=>?_)
 refine Zc G Z (fun hc1=>?_) (fun hc1=>?_)
 ·have hht:ZqG O x=true:=hc1
  have hg:Ze0 O I m x=(O,I,m,4):=by unfold Ze0;rw [hrt,hht];rfl
  refine Ya (rZ G (qI qZ) V [4,3,0] [101,1,0] fun G=>(Yh (Zz (Zl ?_))))
  rw [hg]
  refine Zad hG G Z (.tmp Z .nil) (.one .refl) rfl
 have hhf:ZqG O x=false:=hc1
 have hg:Ze0 O I m x=(O.set x.src.toNat (insE (Nn O x.src.toNat) (endO x)),I.set x.dst.toNat (insE (Nn I x.dst.toNat) (endI x)),m+1,0):=by unfold Ze0;rw [hrt,hhf];rfl
 refine Ye (Zi (Za (Ya (Zb G (qe 4 101 r1 r1 (qf (oP (Zl6 x) func156 (Args.one (.pagg .t))) r1 qz (qR rr (qf (Zh .t Z) r1 qz (qf (Zh .t Z) r1 qz (qf (oH [.int .i64 0,.int .i64 0,.int .i64 0] 102) trivial qz (qf (oH [.int .i64 0,.int .i64 0,.int .i64 0] 103) trivial qz (qf (oA 3 102 .same (.conv .t .agg)) r2 r1 (qf (oA 3 103 .same (.conv .t .agg)) r2 r1 qZ))))))))) V [6,5,4,3,0] [103,102,101,1,0] (fun _=>rfl) (fun _=>rfl) fun τ a w F G=>?_))))
 try dsimp only [RS.sub,SF.sub,CF.sub,csub,Anc.sub,List.map,Zf,xL,xM,Nat.reduceAdd,xD,xE,xT,xU,xC,xN,zCF,ldSF,Zav,Zau,Zn,Zam] at G
 generalize τ 5=v5,τ 6=v6 at G
 obtain ⟨ov,G⟩:=G.open_ex 1 rfl
 obtain ⟨iv,G⟩:=G.open_ex 1 rfl
 obtain ⟨F,G⟩:=G.peel 1 2 Z rfl
 obtain ⟨F,G⟩:=G.peel 1 3 Z rfl
 obtain ⟨F,G⟩:=G.peel 1 4 Z rfl
 obtain ⟨hs,G⟩:=G.open_ex 3 rfl
 obtain ⟨hl1,G⟩:=G.open_and 3 rfl
 obtain ⟨F,G⟩:=G.peel 3 5 Z rfl
 obtain ⟨F,G⟩:=G.peel 3 6 Z rfl
 obtain ⟨js,G⟩:=G.open_ex 4 rfl
 obtain ⟨hl2,G⟩:=G.open_and 4 rfl
 obtain ⟨F,G⟩:=G.peel 4 7 Z rfl
 obtain ⟨F,G⟩:=G.peel 4 8 Z rfl
 obtain ⟨F,G⟩:=G.nM [6,5,4,3,0] [103,102,101,8,7,6,5,2,0]
 obtain ⟨F,G⟩:=G.takeAt ZnB 6 61 (x.src.toNat) Z Z (ZnQ ow)
 replace G:=G.turn 61 Z (r':=.ob (.val (Nn hs x.src.toNat)) (Zx 217 3 Zav (Nn O x.src.toNat))) (fun _ _ _ _ h=>h)
 obtain ⟨F,G⟩:=G.nM [6,5,4,3,0] [103,102,101,61,8,7,6,5,2,0]
 obtain ⟨F,G⟩:=G.takeAt ZnB 8 62 (x.dst.toNat) Z Z (ZnQ ow)
 replace G:=G.turn 62 Z (r':=.ob (.val (Nn js x.dst.toNat)) (Zx 217 3 Zav (Nn I x.dst.toNat))) (fun _ _ _ _ h=>h)
 obtain ⟨F,G⟩:=G.nM [6,5,4,3,0] [103,102,101,62,61,8,7,6,5,2,0]
 refine Za (Ya (ZaM G (qR rr (qf (o_nilCheck 2 .is (by rfl)) r1 r1 (qf (oF 0 2 .adr) r1 r1 (qa 2 r1 r1 (qg 0 101 r1 r1 (qa 101 r1 r1 (qR rr (qf (o_nilCheck 2 .is (by rfl)) r1 r1 (qf (oF 0 2 .adr) r1 r1 (qa 2 r1 r1 (qg 0 101 r1 r1 (qa 101 r1 r1 (qf (o_indexAddr_row (sz:=1) 5 (.mk Ycq kr) .is .t ow ow (by rfl)) r2 r1 (qf (Zu (ag:=false) (sz':=1) (sz:=1) 5 .t (by intro x;rfl) ow kr kr kr) r1 r1 (qe 3 102 r1 r1 (qf (o_callRowN 61 (putE_c _ (Nn O x.src.toNat) (endO x) (hO _ (nth_mem ow)).1 (hO _ (nth_mem ow)).2.1 (hO _ (nth_mem ow)).2.2 (endO_ok hrt hn)) func157 Z kr (Args.two .t (.pagg .t)) pvOne1) r2 r1 (qf (o_indexAddr_row (sz:=1) 5 (.mk Ycq kr) .is .t ow ow (by rfl)) r2 r1 (qf (Zlu (i:=36) (j:=36) (by rfl) (fun z=>ZJ (R:=rV) (sz:=1) (v:=z) 5 .t (by intro x;rfl) ow .t Z one_is kr)) r2 r1 qZ)))))))))))))))))) V [6,4,3,0] [103,101,62,61,8,7,6,5,2,0] (fun _=>rfl) (fun _=>rfl) fun τ a w F G=>?_))
 try dsimp only [RS.sub,SF.sub,CF.sub,csub,Anc.sub,List.map,Zf,xL,xM,Nat.reduceAdd,xD,xE,xT,xU,xC,xN,zCF,ldSF,Zav,Zau,Zn,Zam] at G
 generalize τ 36=v36 at G
 try simp only [Yb] at G
 replace G:=G.turn 61 Z (r':=RS.hp (ZnB (v36,insE (Nn O x.src.toNat) (endO x)))) (fun _ _ _ _ h=>h)
 obtain ⟨F,G⟩:=G.putAt ZnB (L:=Ze6 hs O) (x:=(v36,insE (Nn O x.src.toNat) (endO x))) 6 61 (x.src.toNat) (by rw [Zmn];omega) Z Z rfl
 rw [← Zlb ow] at G
 obtain ⟨F,G⟩:=G.nM [6,4,3,0] [103,101,62,8,7,6,5,2,0]
 refine Za (Ya (ZaM G (qR rr (qf (o_nilCheck 2 .is (by rfl)) r1 r1 (qf (oF 1 2 .adr) r1 r1 (qa 2 r1 r1 (qg 1 101 r1 r1 (qa 101 r1 r1 (qR rr (qf (o_nilCheck 2 .is (by rfl)) r1 r1 (qf (oF 1 2 .adr) r1 r1 (qa 2 r1 r1 (qg 1 101 r1 r1 (qa 101 r1 r1 (qf (o_indexAddr_row (sz:=1) 7 (.mk Ycq kr) .is .t ow ow (by rfl)) r2 r1 (qf (Zu (ag:=false) (sz':=1) (sz:=1) 7 .t (by intro x;rfl) ow kr kr kr) r1 r1 (qe 3 103 r1 r1 (qf (o_callRowN 62 (putE_c _ (Nn I x.dst.toNat) (endI x) (hI _ (nth_mem ow)).1 (hI _ (nth_mem ow)).2.1 (hI _ (nth_mem ow)).2.2 (endI_ok hrt hn)) func157 Z kr (Args.two .t (.pagg .t)) pvOne1) r2 r1 (qf (o_indexAddr_row (sz:=1) 7 (.mk Ycq kr) .is .t ow ow (by rfl)) r2 r1 (qf (Zlu (i:=53) (j:=53) (by rfl) (fun z=>ZJ (R:=rV) (sz:=1) (v:=z) 7 .t (by intro x;rfl) ow .t Z one_is kr)) r2 r1 qZ)))))))))))))))))) V [4,0] [62,8,7,6,5,2,0] (fun _=>rfl) (fun _=>rfl) fun τ a w F G=>?_))
 try dsimp only [RS.sub,SF.sub,CF.sub,csub,Anc.sub,List.map,Zf,xL,xM,Nat.reduceAdd,xD,xE,xT,xU,xC,xN,zCF,ldSF,Zav,Zau,Zn,Zam] at G
 generalize τ 53=v53 at G
 try simp only [Yb] at G
 replace G:=G.turn 62 Z (r':=RS.hp (ZnB (v53,insE (Nn I x.dst.toNat) (endI x)))) (fun _ _ _ _ h=>h)
 obtain ⟨F,G⟩:=G.putAt ZnB (L:=Ze6 js I) (x:=(v53,insE (Nn I x.dst.toNat) (endI x))) 8 62 (x.dst.toNat) (by rw [Zmn];omega) Z Z rfl
 rw [← Zlb ow] at G
 obtain ⟨F,G⟩:=G.nM [4,0] [8,7,6,5,2,0]
 refine Za (Ya (rZ G (qR rr (qf (o_nilCheck 2 .is (by rfl)) r1 r1 (qf (oF 2 2 .adr) r1 r1 (qa 2 r1 r1 (qp r1 (qf (o_nilCheck 2 .is (by rfl)) r1 r1 (qf (oF 2 2 .adr) r1 r1 (qf (Za3 2 .adr .t one_int kr kr) r2 r1 qZ)))))))) V [4] [8,7,6,5,2,0] fun G=>Ya ?_))
 refine rZ G (qI qZ) V [4] [8,7,6,5,2,0] fun G=>Yh ?_
 rw [Zd ow] at G
 have hl3:(hs.set x.src.toNat v36).length=(O.set x.src.toNat (insE (Nn O x.src.toNat) (endO x))).length:=by simp [hl1]
 have hl4:(js.set x.dst.toNat v53).length=(I.set x.dst.toNat (insE (Nn I x.dst.toNat) (endI x))).length:=by simp [hl2]
 have G:=G.fresh 3 rfl
 have G:=G.fresh 4 rfl
 have G:=G.fresh 1 rfl
 obtain ⟨F,G⟩:=G.push 3 6 Z Z Z kr
 obtain ⟨F,G⟩:=G.push 3 5 Z Z Z kr
 obtain ⟨F,G⟩:=G.push 4 8 Z Z Z kr
 obtain ⟨F,G⟩:=G.push 4 7 Z Z Z kr
 have G:=G.turn 3 Z (r':=RS.hp (ZjT _ ov)) (fun _ _ _ _ h=>⟨_,hl3,h⟩)
 have G:=G.turn 4 Z (r':=RS.hp (ZjT _ iv)) (fun _ _ _ _ h=>⟨_,hl4,h⟩)
 obtain ⟨F,G⟩:=G.push 1 4 Z Z Z kr
 obtain ⟨F,G⟩:=G.push 1 3 Z Z Z kr
 obtain ⟨F,G⟩:=G.push 1 2 Z Z Z kr
 have G:=G.turn 1 Z (r':=RS.hp (ZnG (Ze0 O I m x).1 (Ze0 O I m x).2.1 (Ze0 O I m x).2.2.1 (Value.pointer (some { block:=b,off:=0 })))) (fun _ _ _ _ h=>by rw [hg];exact ⟨_,_,h⟩)
 refine Zad hG G Z (.tmp Z .nil) (.one (.int (by rw [hg]))) rfl
def adjO (O:List (List Z7)) (mask u:Int):List Int:=if 0≤u∧u<O.length then Zbt (((Nn O u.toNat).filter fun e=>ofB mask e.kind).map Z7.node) else []
theorem dgNodesOf_c (l:List Z7) (mask:Int) (hl:l.length≤1000000):FnP prog 198 [.sl Zav l,.int .i64 mask] (.sl Zn (Zbt ((l.filter fun e=>ofB mask e.kind).map Z7.node))):=by
 refine FnP.mk func198 Z ntmps198 Z fun B a w F V hfr G=>Ya ?_
 refine rZ G (qC qZ) V [4,1,0] [0] fun G=>Ya ?_
 refine rZ G (qC qZ) V [5,4,1,0] [0] fun G=>(Ya (Ya ?_))
 refine rZ G (qR rr (qu Ycj r1 (qJ qZ))) V [10,9,8,5,4,1] [0] fun G=>Yg ?_
 replace G:=G.fresh 50 rfl
 replace G:=G.turn 50 Z (ZaC (T:=3) (sz:=1) (R:=Zn))
 refine Zk (σ:=(Nat)×(Value)×(List Int)) [1,4,8,9] [0] (fun s=>[(10,.pv (.int .i64 (s.1:Int))),(5,.pv (.is s.2.1))]) (fun s=>[(50,.ob (.val s.2.1) (Zx 3 1 Zn s.2.2))]) (fun s=>s.1≤l.length∧(s.2.2=(((l.take s.1).filter fun e=>ofB mask e.kind).map Z7.node))) (fun s=>l.length - s.1) ((0),(.slice none 0 0),([])) G ⟨rfl,rfl,rfl,rfl,rfl,rfl,tv⟩ ⟨rfl,rfl,tv⟩ ⟨Yw _,rfl⟩ ?_
 clear G;intro s a w F hC G
 obtain ⟨i,v,out⟩:=s
 try dsimp only at hC
 obtain ⟨F,G⟩:=G.nM [10,9,8,5,4,1] [50,0]
 try dsimp only at G
 obtain ⟨hi,hq⟩:=hC
 have hol:out.length≤i:=by rw [hq,YH];exact Y4 (Yaa _ _) (by rw [Yi];omega)
 refine Ya (rZ G (qL r2) V [11,10,9,8,5,4,1] [50,0] fun G=>Ya ?_)
 refine Zc G Z (fun hc0=>?_) (fun hc0=>?_)
 ·have hil:i<l.length:=by simp at hc0;omega
  refine Ye (Za (Ya (Yg (Ya (Zb G (qy 3 Ycj r2 (qf (oR true 3 .t) r1 qz (qf (oH [.int .i64 0,.int .i64 0,.int .i64 0] 101) trivial qz (qS 3 101 r2 r1 qZ)))) V [10,9,8,7,5,4,1] [101,50,0] (fun _=>rfl) (fun _=>rfl) fun τ a w F G=>?_)))))
  try dsimp only [RS.sub,SF.sub,CF.sub,csub,Anc.sub,List.map,Zf,xL,xM,Nat.reduceAdd,xD,xE,xT,xU,xC,xN,zCF,ldSF,Zav,Zau,Zn,Zam] at G
  generalize τ 7=v7 at G
  try simp only [Yb] at G
  refine Za (Ya (rZ G (qR rr (qg 0 101 r1 r1 (qa 101 r1 r1 (qf (oP (ZsW mask (Nn l i).kind) func210 (Args.two .t .t)) r2 qz qZ)))) V [17,10,9,8,7,5,4,1] [101,50,0] fun G=>?_))
  refine Zc G Z (fun hc1=>?_) (fun hc1=>?_)
  ·have hBq:ofB mask (Nn l i).kind=true:=by simpa using hc1
   refine Zb G (qR rr (qg 2 101 r1 r1 (qa 101 r1 r1 (qf (o_buildSliceE (sz:=1) (zs:=[.int .i64 0]) (r:=[(0,.tmp 20)]) (l:=[_]) Ycf kr kr kr kr Z Z (.one Z .t one_int kr .nil) Z) r1 qz (qf (ZV (sz:=1) (bs:=8) 50 (.mk' Ycf kr kr) (by intro x;rfl) .is (.arr (l':=[_]) .t) (by simp only [Yd,Yl,Yy,Yi,YE];omega) (by decide)) ⟨rfl,rfl,tv⟩ ⟨rfl,tv⟩ (qO rr qZ)))))) V [10,9,8,5,4,1] [101,50,0] (fun _=>rfl) (fun _=>rfl) fun τ a w F G=>?_
   try dsimp only [RS.sub,SF.sub,CF.sub,csub,Anc.sub,List.map,Zf,xL,xM,Nat.reduceAdd,xD,xE,xT,xU,xC,xN,zCF,ldSF,Zav,Zau,Zn,Zam] at G
   generalize τ 22=v22 at G
   refine Zi (Za (rZ G (qp r1 (qR rr qZ)) V [10,9,8,5,4,1] [101,50,0] fun G=>?_))
   replace G:=G.ent (i:=10) (s':=.pv (.int .i64 ((i+1:Nat):Int))) Z (.int (Zd ow))
   obtain ⟨F,G⟩:=G.nM [9,8,4,1,5,10] [0,50]
   exact ⟨((i+1),_,_),F,⟨by omega,(by rw [Zp hil,Yah,YR,← hq];simp [hBq])⟩,G,by omega⟩
  have hBq:ofB mask (Nn l i).kind=false:=by simpa using hc1
  refine Ye (Zi (Za (rZ G (qp r1 (qR rr qZ)) V [10,9,8,5,4,1] [101,50,0] fun G=>?_)))
  replace G:=G.ent (i:=10) (s':=.pv (.int .i64 ((i+1:Nat):Int))) Z (.int (Zd ow))
  obtain ⟨F,G⟩:=G.nM [9,8,4,1,5,10] [0,50]
  exact ⟨((i+1),_,_),F,⟨by omega,(by rw [Zp hil,Yah,YR,← hq];simp [hBq])⟩,G,by omega⟩
 have hil:i=l.length:=by simp at hc0;omega
 refine Yx (Zj (Zj (Zo (Za (Ya (rZ G (qR rr (qf (Zbm 50 (Zjn _ out ow) func92 Z kr (Args.one .t)) r1 r1 qZ)) V [5,4] [50,0] fun G=>Ya ?_))))))
 refine Zb G (qR rr (qf (o_callRowN 50 (Zkj _ _ (by rw [Ybw];omega)) func179 Z kr (Args.one .t) pvOne1) r1 r1 (qO rr qZ))) V [4] [50,0] (fun _=>rfl) (fun _=>rfl) fun τ a w F G=>?_
 try dsimp only [RS.sub,SF.sub,CF.sub,csub,Anc.sub,List.map,Zav,Zau,Zn,Zam] at G
 generalize τ 27=v27 at G
 refine Za (Yh ?_)
 obtain ⟨F,G⟩:=G.give 50 4 Z rfl
 refine Zs hfr G Z Z Z (.sl (by rw [Zdi,ZdP,hq,hil,YA]))
theorem Zsg (O I:List (List Z7)) (m:Nat) (u mask:Int) (hO:∀ l ∈ O,l.length≤1000000):FnP prog 160 [Zew O I m,.int .i64 u,.int .i64 mask] (.sl Zn (adjO O mask u)):=by
 refine FnP.mk func160 Z ntmps160 Z fun B a w F V hfr G=>Ya ?_
 refine rZ G (qC qZ) V [6,2,1,0] [0] fun G=>(Ya (Ya ?_))
 refine rZ G (qR rr (qR rr (qf (oP (Zec O I m u) func194 (Args.two .t .t)) r2 qz (qf (o_not .t) r1 qz qZ)))) V [10,6,2,1,0] [0] fun G=>?_
 refine Zc G Z (fun hc0=>?_) (fun hc0=>?_)
 ·have hg:[] = adjO O mask u:=by unfold adjO;rw [Yc (by have h9:=hc0;simp at h9;omega)]
  refine Ya (rZ G (qC qZ) V [6,2,1,0] [0] fun G=>(Yh (Zl ?_)))
  refine Zs hfr G Z Z Z (.trans .nilSl (.sl hg))
 have hth:0≤u∧u<O.length:=by simpa using hc0
 have hg:(Zbt (((Nn O u.toNat).filter fun e=>ofB mask e.kind).map Z7.node))=adjO O mask u:=by unfold adjO;rw [Yf hth]
 refine Ye (Za (Ya (Ze G (qR rr (qf (ZD .t) r1 qz (qf (oG 0 .t) r1 qz (qf (oR false 1 .t) r1 qz (qR rr (qf (o_indexAddr_sl (sz:=1) (.mk Ycq kr) (by intro x;rfl) .t .t (by exact hth.1) (by exact hth.2)) r2 qz (qf (oR false 1 .t) r1 qz (qR rr (qf (oP (dgNodesOf_c (Nn O u.toNat) mask (hO _ (nth_mem ow))) func198 (Args.two .t .t)) r2 qz (qO rr qZ)))))))))) V [6] [0] Z Z fun a w F G=>?_)))
 try simp only [Yb] at G
 refine Za (Yh (Zs hfr G Z Z Z (.sl hg)))
def Zb8:Zr:=⟨[],[]⟩
theorem Zas {g:Zr} (h:ZS g):ZcK TxD.id g.txs∧ZcK OrdD.key g.orders:=by
 constructor
 ·have hi:ZdA (g.txs.map TxD.id):=ZfM fun i hi h0=>by
   have hi':i<g.txs.length:=by simpa using hi
   rw [Zcv ow,Zcv hi']
   exact (h.2.1 i hi').1 h0
  rw [ZT]
  exact Ya0.1 hi
 ·have h2:=(Zdr g).2 h.2.2
  have hi:ZdA (g.orders.map OrdD.key):=ZfM fun i hi h0=>by
   have hi':i<g.orders.length:=by simpa using hi
   rw [Zcv ow,Zcv hi']
   exact (h2.2 i hi').1 h0
  rw [ZT]
  exact Ya0.1 hi
def Znb (t:TxD) (v:ZbS):Bool:=decide (v.tx=t.id) && decide ((wcnt t.ops v.key:Int)<v.nth)
def Znl (t x:TxD):Bool:=decide (x.id≠t.id) && (Zbl x).any (Znb t)
def ZgO (g:Zr) (t:TxD):Bool:=g.txs.any (Znl t)
theorem Zmk {α:Type} [Inhabited α] {p:α→Bool} {l:List α} (h:∀ q,q<l.length→p (Nn l q)=false):l.any p=false:=by
 rw [Ybl]
 intro x hx
 obtain ⟨k,hk,e⟩:=Yae hx
 have:=h k hk
 rw [nth_eq hk,e] at this
 simp [this]
theorem Zlj {α:Type} [Inhabited α] {p:α→Bool} {l:List α} {i:Nat} (hi:i<l.length) (h:p (Nn l i)=true):l.any p=true:=by
 rw [YaD]
 exact ⟨_,nth_mem hi,h⟩
def Zv7 (g:Zr) (t:TxD) (there:Int) (wanted:Bool):Int×Int:=if ¬ ZS g then (0,5) else if Za5 t≠0 then (0,Za5 t) else if isK TxD.id t.id g.txs≠wanted then (0,there) else if ZfJ g t=false then (0,6) else (lowK TxD.id t.id g.txs,0)
def Zpg (g:Zr) (t:TxD):Zr×Int:=if (Zv7 g t 4 false).2≠0 then (Zb8,(Zv7 g t 4 false).2) else if g.txs.length=4096 then (Zb8,2) else (⟨g.txs.take (lowK TxD.id t.id g.txs) ++ [t] ++ g.txs.drop (lowK TxD.id t.id g.txs),settleO t g.orders⟩,0)
def Zce (id:Int):TxD:=⟨id,false,[]⟩
def Z5 (g:Zr) (id:Int):Zr×Int:=if ¬ ZS g then (Zb8,5) else if isK TxD.id id g.txs=false then (Zb8,3) else if ZgO g (Zce id)=true then (Zb8,7) else (⟨g.txs.take (lowK TxD.id id g.txs)++g.txs.drop (lowK TxD.id id g.txs+1),settleO (Zce id) g.orders⟩,0)
def Ztk (g:Zr) (t:TxD):Zr×Int:=if (Zv7 g t 3 true).2≠0 then (Zb8,(Zv7 g t 3 true).2) else if ZgO g t=true then (Zb8,7) else (⟨g.txs.set (lowK TxD.id t.id g.txs) t,settleO t g.orders⟩,0)
theorem Zob {α:Type} [Inhabited α] {κ:α→Int} {k:Int} {l:List α} (hs:ZcK κ l) (h:isK κ k l=true):lowK κ k l<l.length∧κ (Nn l (lowK κ k l))=k:=by
 obtain ⟨x,hx,hk⟩:=YaD.1 h
 obtain ⟨q,hq,e⟩:=Yae hx
 have hk':κ (Nn l q)=k:=by rw [nth_eq hq,e];simpa using hk
 have hl:=ZdC (κ:=κ) (k:=k) (l:=l) (i:=q) (Nat.le_of_lt hq) (fun p hp=>by have:=hs p q hp hq;omega) (fun p hp hp2=>by have:=ZbF hs hp hp2;omega)
 rw [hl]
 exact ⟨hq,hk'⟩
theorem Zvb (g:Zr) (t:TxD) (hs:ZaX g.txs) (ht:t.ops.length≤1000):FnP prog 65 [.agg (Zv g),.agg (rTx t)] (.bool (ZgO g t)):=by
 refine FnP.mk func65 Z ntmps65 Z fun B a w F V hfr G=>?_
 have hsl:=hs.1
 have hnl:∀ x:TxD,x.ops.length≤1000→(Zbl x).length≤1000:=fun x hx=>by have:=Zg7 x.id x.ops x.ops.length;rw [YA] at this;unfold Zbl;omega
 refine Ya (Zb G (qx 101 r1 (qx 102 r1 qB)) V [4,3,2] [102,101,0] (fun _=>rfl) (fun _=>rfl) fun τ a w F G=>?_)
 try dsimp only [RS.sub,SF.sub,CF.sub,csub,Anc.sub,List.map,zCF,Zv,rTx,ZH,ZU,Zn,rOp] at G
 generalize τ 2=v2,τ 3=v3 at G
 refine Za (Ya (Ya (rZ G (qg 0 101 r1 r1 (qa 101 r1 r1 (qu Yci r1 (qJ qZ)))) V [12,11,10,4,3] [102,101,0] fun G=>Yg ?_)))
 refine Zk (σ:=(Nat)) [3,4,10,11] [0,101,102] (fun s=>[(12,.pv (.int .i64 (s:Int)))]) (fun s=>[]) (fun s=>s≤g.txs.length∧(∀ q,q<s→Znl t (Nn g.txs q)=false)) (fun s=>g.txs.length - s) (0) G ⟨rfl,rfl,rfl,rfl,rfl,tv⟩ ⟨rfl,rfl,rfl,tv⟩ ⟨Yw _,fun q hq=>absurd hq (Y3 q)⟩ ?_
 clear G;intro i a w F hC G
 try dsimp only at hC
 obtain ⟨F,G⟩:=G.nM [12,11,10,4,3] [102,101,0]
 try dsimp only at G
 obtain ⟨hi,hq⟩:=hC
 refine Ya (rZ G (qL r2) V [13,12,11,10,4,3] [102,101,0] fun G=>Ya ?_)
 refine Zc G Z (fun hc0=>?_) (fun hc0=>?_)
 ·have hil:i<g.txs.length:=by simp at hc0;omega
  have hio:=hil
  have hqo:=hq
  have hnl2:=hnl (Nn g.txs i) (by have:=hs.at hio;omega)
  refine Ye (Za (Ya (Yg (Ya (Zb G (qy 3 Yci r2 (qf (oR true 3 .t) r1 qz (qf (oH [.int .i64 0,.bool false,.slice none 0 0] 103) trivial qz (qS 3 103 r2 r1 qZ)))) V [12,11,10,6,4,3] [103,102,101,0] (fun _=>rfl) (fun _=>rfl) fun τ a w F G=>?_)))))
  try dsimp only [RS.sub,SF.sub,CF.sub,csub,Anc.sub,List.map,Zf,xL,xM,Nat.reduceAdd,xD,xE,xT,xU,xC,xN,zCF,ldSF,Zv,rTx,ZH,ZU,Zn,rOp] at G
  generalize τ 6=v6 at G
  try simp only [Yb] at G
  refine Za (Ya (rZ G (qe 3 103 r1 r1 (qf (oP (Zjo (Nn g.txs i) (by have:=hs.at hio;omega)) func88 (Args.one (.pagg .t))) r1 qz (qu Ycx r1 (qJ qZ)))) V [19,18,17,12,11,10,6,4,3] [103,102,101,0] fun G=>Yg ?_))
  refine Zk (σ:=(Nat)) [3,4,6,10,11,12,17,18] [0,101,102,103] (fun s=>[(19,.pv (.int .i64 (s:Int)))]) (fun s=>[]) (fun s=>s≤(Zbl (Nn g.txs i)).length∧((Nn g.txs i).id≠t.id → ∀ q,q<s→Znb t (Nn (Zbl (Nn g.txs i)) q)=false)) (fun s=>(Zbl (Nn g.txs i)).length - s) (0) G ⟨rfl,rfl,rfl,rfl,rfl,rfl,rfl,rfl,rfl,tv⟩ ⟨rfl,rfl,rfl,rfl,tv⟩ ⟨Yw _,fun _ q hq=>absurd hq (Y3 q)⟩ ?_
  clear G;intro j a w F hC G
  try dsimp only at hC
  obtain ⟨F,G⟩:=G.nM [19,18,17,12,11,10,6,4,3] [103,102,101,0]
  try dsimp only at G
  obtain ⟨hi,hq⟩:=hC
  have hq2:=hq
  refine Ya (rZ G (qL r2) V [20,19,18,17,12,11,10,6,4,3] [103,102,101,0] fun G=>Ya ?_)
  refine Zc G Z (fun hc1=>?_) (fun hc1=>?_)
  ·have hil:j<(Zbl (Nn g.txs i)).length:=by simp at hc1;omega
   have hjo:=hil
   refine Ye (Za (Ya (Yg (Ya (Zb G (qy 3 Ycx r2 (qf (oR true 3 .t) r1 qz (qf (oH [.int .i64 0,.int .i64 0,.int .i64 0] 104) trivial qz (qS 3 104 r2 r1 qZ)))) V [19,18,17,12,11,10,8,6,4,3] [104,103,102,101,0] (fun _=>rfl) (fun _=>rfl) fun τ a w F G=>?_)))))
   try dsimp only [RS.sub,SF.sub,CF.sub,csub,Anc.sub,List.map,Zf,xL,xM,Nat.reduceAdd,xD,xE,xT,xU,xC,xN,zCF,ldSF,Zv,rTx,ZH,ZU,Zn,rOp] at G
   generalize τ 8=v8 at G
   try simp only [Yb] at G
   refine Za (Ya (Zw G (qg 0 103 r1 r1 (qa 103 r1 r1 (qg 0 102 r1 r1 (qa 102 r1 r1 (qf (o_neq .t .t) r2 qz (qR rr (qv 0 104 Z r2 r1 (qw 104 Z r2 r1 (qv 0 102 Z r2 r1 (qw 102 Z r2 r1 (qk Z (fun h=>o_eql (.w h) (.w h)) r3 qz (qf (ZE .t .t) r2 qz (qR rr (qv 2 104 Z r2 r1 (qw 104 Z r2 r1 (qk Z (fun h=>oL true 3 102 .is) r2 r1 (qv 1 104 Z r2 r1 (qw 104 Z r2 r1 (qk Z (fun h=>oP (Zdb t (Nn (Zbl (Nn g.txs i)) j).key ow) func29 (Args.two (.pagg (.w h)) (.w h))) r3 qz (qk Z (fun h=>ZaR (.w h) (.w h)) r3 qz (qf (ZE .t .t) r2 qz qZ))))))))))))))))))))) V [43,19,18,17,12,11,10,6,4,3] [104,103,102,101,0] Z Z fun a w F G=>?_))
   try dsimp only [List.map,xD,xE,xT,xU,ldSF,Zv,rTx,ZH,ZU,Zn,rOp] at G
   refine Za (Zc G Z (fun hc2=>?_) (fun hc2=>?_))
   ·have hg:true=ZgO g t:=(Zlj hio (by
      have h9:=hc2
      simp at h9
      unfold Znl
      rw [Yac h9.1.1,Ya4]
      refine Zlj hjo ?_
      unfold Znb wcnt
      simp [h9.1.2]
      first | exact h9.2 | (have:=h9.2;omega))).symm
    refine Ya (rZ G qB V [19,18,17,12,11,10,6,4,3] [104,103,102,101,0] fun G=>(Yh (Zz (Zl (Zl (Zz (Zz (Zl (Zl (Zz (Zl ?_)))))))))))
    refine Zs hfr G Z Z Z (.bool hg)
   have hnv:(Nn g.txs i).id≠t.id→Znb t (Nn (Zbl (Nn g.txs i)) j)=false:=by
     intro hne
     have h9:=hc2
     unfold Znb wcnt
     simp [hne] at h9 ⊢
     first | exact h9 | (intro e;have:=h9 e;omega)
   refine Ye (Zi (Za (rZ G (qp r1 (qR rr qZ)) V [19,18,17,12,11,10,6,4,3] [104,103,102,101,0] fun G=>?_)))
   replace G:=G.ent (i:=19) (s':=.pv (.int .i64 ((j+1:Nat):Int))) Z (.int (Zd ow))
   obtain ⟨F,G⟩:=G.nM [18,17,12,11,10,6,4,3,19] [103,102,101,0]
   exact ⟨(j+1),F,⟨by omega,(fun hne q h9=>by rcases YX (Y6 h9) with h8 | h8;exact hq2 hne q h8;rw [h8];exact hnv hne)⟩,G,by omega⟩
  have hil:j=(Zbl (Nn g.txs i)).length:=by simp at hc1;omega
  have hno:Znl t (Nn g.txs i)=false:=by
    unfold Znl
    by_cases hne:(Nn g.txs i).id≠t.id
    ·rw [Zmk (by rw [← hil];exact hq2 hne),Bool.and_false]
    ·rw [YD hne,Bool.false_and]
  refine Yx (Zj (Zj (Zo (Zi (Za (rZ G (qp r1 (qR rr qZ)) V [12,11,10,4,3] [103,102,101,0] fun G=>?_))))))
  replace G:=G.ent (i:=12) (s':=.pv (.int .i64 ((i+1:Nat):Int))) Z (.int (Zd ow))
  obtain ⟨F,G⟩:=G.nM [11,10,4,3,12] [102,101,0]
  exact ⟨(i+1),F,⟨by omega,(fun q h9=>by rcases YX (Y6 h9) with h8 | h8;exact hqo q h8;rw [h8];exact hno)⟩,G,by omega⟩
 have hil:i=g.txs.length:=by simp at hc0;omega
 have hg:false=ZgO g t:=(Zmk (by rw [← hil];exact hq)).symm
 refine Yx (Zj (Zj (Zo (Za (Ya (rZ G qB V [4] [102,101,0] fun G=>Yh ?_))))))
 refine Zs hfr G Z Z Z (.bool hg)
theorem Zqn (g:Zr) (id:Int) (hs:Za9 g):FnP prog 30 [.agg (Zv g),.int .i64 id] (.tup [.agg (Zv (Z5 g id).1),.int .i64 (Z5 g id).2]):=by
 refine FnP.mk func30 Z ntmps30 Z fun B a w F V hfr G=>?_
 have hsl:=hs.1.1
 refine Ya (Zb G (qx 101 r1 (qf (oH [.slice none 0 0,.slice none 0 0] 102) trivial qz (qI qZ))) V [5,4,2,1] [102,101,0] (fun _=>rfl) (fun _=>rfl) fun τ a w F G=>?_)
 try dsimp only [RS.sub,SF.sub,CF.sub,csub,Anc.sub,List.map,zCF,Zv,rTx,ZH,ZU,Zn,rOp] at G
 generalize τ 2=v2,τ 4=v4 at G
 refine Za (Ya (Ya (rZ G (qe 2 101 r1 r1 (qf (oP (Zfe g hs) func19 (Args.one (.pagg .t))) r1 qz (qf (o_not .t) r1 qz qZ))) V [11,5,4,2,1] [102,101,0] fun G=>?_)))
 refine Zc G Z (fun hc0=>?_) (fun hc0=>?_)
 ·have hr:¬ ZS g:=by simpa using hc0
  have hg:Z5 g id=(Zb8,5):=by unfold Z5;rw [Yf hr]
  refine Ya (rZ G (qf (oB [] [.slice none 0 0,.slice none 0 0] [(0,1),(1,1)] .nil) trivial qz (qs 2 102 r2 r1 (qI qZ))) V [5,4,2,1] [102,101,0] fun G=>(Yh (Zl ?_)))
  refine Zaa hfr G Z (.cl 102 true 2 Z Z (.tmp Z .nil)) (.two (by rw [hg];first | exact .aggU Z Z | exact .aggLe Z ⟨Zfb.nilSl,Zfb.nilSl,tv⟩) (.int (by rw [hg])))
 have hr:ZS g:=by simpa using hc0
 have hrr:=Zas hr
 refine Ye (Za (Ya (rZ G (qe 2 101 r1 r1 (qR rr (qf (oP (Zuo g id hs.1 hrr.1) func64 (Args.two (.pagg .t) .t)) r2 qz (qR rr (qf (Zh .t Z) r1 qz (qf (Zh .t Z) r1 qz (qO rr (qO rr qZ)))))))) V [7,6,5,4,2,1] [102,101,0] fun G=>(Ya (Yg (Ya ?_))))))
 refine rZ G (qR rr (qf (o_not .t) r1 qz (qO rr qZ))) V [19,6,5,4,2,1] [102,101,0] fun G=>?_
 refine Zc G Z (fun hc1=>?_) (fun hc1=>?_)
 ·have hik:isK TxD.id id g.txs=false:=by simpa using hc1
  have hg:Z5 g id=(Zb8,3):=by unfold Z5;rw [Yc (YaO.2 hr),Yf hik]
  refine Ya (rZ G (qf (oB [] [.slice none 0 0,.slice none 0 0] [(0,1),(1,1)] .nil) trivial qz (qs 2 102 r2 r1 (qI qZ))) V [6,5,4,2,1] [102,101,0] fun G=>(Yh (Zz (Zl ?_))))
  refine Zaa hfr G Z (.cl 102 true 2 Z Z (.tmp Z .nil)) (.two (by rw [hg];first | exact .aggU Z Z | exact .aggLe Z ⟨Zfb.nilSl,Zfb.nilSl,tv⟩) (.int (by rw [hg])))
 have hik:isK TxD.id id g.txs=true:=by simpa using hc1
 have hlk:=(Zob hrr.1 hik).1
 refine Ya (rZ G (qe 2 101 r1 r1 (qR rr (qf (oB [(0,.tmp 25)] [.int .i64 0,.bool false,.slice none 0 0] [(0,1),(1,1),(2,1)] (.one Z .t one_int kr .nil)) r1 qz (qf (oP (Zvb g (Zce id) hs.1 (by simp [Zce])) func65 (Args.two (.pagg .t) (.conv (.pagg .t) (Ent.paggLe (l:=[.int .i64 id,.bool false,.is (.slice none 0 0)]) (l':=[.int .i64 id,.bool false,.sl rOp []]) ⟨Zfb.refl,Zfb.refl,Zfb.nilSl,tv⟩)))) r2 qz (qO rr qZ))))) V [23,6,5,4,2,1] [102,101,0] fun G=>?_)
 refine Zc G Z (fun hc2=>?_) (fun hc2=>?_)
 ·have hg:Z5 g id=(Zb8,7):=by unfold Z5;rw [Yc (YaO.2 hr),Yc (by rw [hik];simp),Yf (by simpa using hc2)]
  refine Ya (rZ G (qf (oB [] [.slice none 0 0,.slice none 0 0] [(0,1),(1,1)] .nil) trivial qz (qs 2 102 r2 r1 (qI qZ))) V [6,5,4,2,1] [102,101,0] fun G=>(Yh (Zz (Zl ?_))))
  refine Zaa hfr G Z (.cl 102 true 2 Z Z (.tmp Z .nil)) (.two (by rw [hg];first | exact .aggU Z Z | exact .aggLe Z ⟨Zfb.nilSl,Zfb.nilSl,tv⟩) (.int (by rw [hg])))
 have hg:Z5 g id=(⟨g.txs.take (lowK TxD.id id g.txs)++g.txs.drop (lowK TxD.id id g.txs+1),settleO (Zce id) g.orders⟩,0):=by unfold Z5;rw [Yc (YaO.2 hr),Yc (by rw [hik];simp),Yc (by simpa using hc2)]
 refine Ye (Zi (Za (Ya ?_)))
 replace G:=G.fresh 103 rfl
 refine Zb G (qe 2 101 r1 r1 (qf (Zq1 103 (Zuz g hs) func60 Z kr (Args.one (.pagg .t))) r1 r1 (qf (oH [.slice none 0 0,.slice none 0 0] 104) trivial qz (qf (oA 2 104 .same (.conv .t (Ent.fnAgg (.fn (.fn .nil))))) r2 r1 qZ)))) V [8,6,5,4,1] [104,103,102,101,0] (fun _=>rfl) (fun _=>rfl) fun τ a w F G=>?_
 try dsimp only [RS.sub,SF.sub,CF.sub,csub,Anc.sub,List.map,Zf,xL,xM,Nat.reduceAdd,xD,xE,xT,xU,xC,xN,zCF,ldSF,Zv,rTx,ZH,ZU,Zn,rOp] at G
 generalize τ 8=v8,τ 30=v30 at G
 replace G:=G.turn 103 Z (r':=RS.hp (HP.star [.ob (.val (cellN 0 v30)) (Zx 30 3 rTx g.txs),.ob (.val (cellN 1 v30)) (Zx 70 2 ZH g.orders)])) (fun _ _ _ _ h=>h)
 obtain ⟨F,G⟩:=G.peel 103 70 Z rfl
 obtain ⟨F,G⟩:=G.peel 103 71 Z rfl
 obtain ⟨F,G⟩:=G.nM [8,6,5,4,1] [104,102,101,71,70,0]
 generalize cellN 0 v30=va,cellN 1 v30=vb at G
 refine Za (Ya (Zb G (qg 0 104 r1 r1 (qa 104 r1 r1 (qR rr (qR rr (qp r1 (qf (o_callRowN 70 (ZvO va g.txs (lowK TxD.id id g.txs) ow hlk) func66 Z kr (Args.three .t .t (.conv .t (.int (Zd ow)))) pvOne1) r3 r1 (qg 0 104 r1 r1 (qf (o_storeS 104 .adr kr kr) r2 r1 qZ)))))))) V [8,5,4,1] [104,102,101,71,70,0] (fun _=>rfl) (fun _=>rfl) fun τ a w F G=>?_))
 try dsimp only [RS.sub,SF.sub,CF.sub,csub,Anc.sub,List.map,Zf,xL,xM,Nat.reduceAdd,xD,xE,xT,xU,xC,xN,zCF,ldSF,Zv,rTx,ZH,ZU,Zn,rOp] at G
 generalize τ 36=v36 at G
 refine Za (Ya ?_)
 replace G:=G.fresh 72 rfl
 obtain ⟨F,G⟩:=G.push 72 71 Z Z Z rfl
 obtain ⟨F,G⟩:=G.push 72 104 Z Z Z rfl
 replace G:=G.turn 72 Z (r':=RS.hp (ZrA 25 70 v8 v36 g.orders)) (fun _ _ _ _ h=>⟨vb,h⟩)
 obtain ⟨F,G⟩:=G.nM [8,5,4,1] [102,101,72,70,0]
 refine Ze G (qR rr (qf (oB [(0,.tmp 38)] [.int .i64 0,.bool false,.slice none 0 0] [(0,1),(1,1),(2,1)] (.one Z .t one_int kr .nil)) r1 qz (qf (ZK 72 (ZsP v8 v36 g.orders (Zce id) hs.2 hrr.2 (by simp [Zce])) func63 Z kr (Args.two .t (.conv (.pagg .t) (Ent.paggLe (l:=[.int .i64 id,.bool false,.is (.slice none 0 0)]) (l':=[.int .i64 id,.bool false,.sl rOp []]) ⟨Zfb.refl,Zfb.refl,Zfb.nilSl,tv⟩)))) r2 r1 qZ))) V [8,5,4] [102,101,72,70,0] Z Z fun a w F G=>?_
 replace G:=G.turn 72 Z (r':=RS.hp (HP.ex fun vb:Value=>HP.star [.pt (.val v8) 25 [.pv (.is v36),.pv (.is vb)],.ob (.val vb) (Zx 70 2 ZH (settleO (Zce id) g.orders))])) (fun _ _ _ _ h=>h)
 obtain ⟨vb2,G⟩:=G.open_ex 72 rfl
 obtain ⟨F,G⟩:=G.peel 72 73 Z rfl
 obtain ⟨F,G⟩:=G.peel 72 74 Z rfl
 obtain ⟨F,G⟩:=G.nM [8,5,4] [102,101,74,73,70,0]
 obtain ⟨F,G⟩:=G.giveCell 70 73 0 Z Z Z Z rfl
 try dsimp only [List.set] at G
 obtain ⟨F,G⟩:=G.nM [8,5,4] [102,101,74,73,0]
 obtain ⟨F,G⟩:=G.giveCell 74 73 1 Z Z Z Z rfl
 try dsimp only [List.set] at G
 obtain ⟨F,G⟩:=G.nM [8,5,4] [102,101,73,0]
 refine Za (Ya (rZ G (qe 2 73 r1 r1 (qs 2 102 r2 r1 (qI qZ))) V [5,4] [102,101,73,0] fun G=>Yh ?_))
 refine Zaa hfr G Z (.cl 102 true 2 Z Z (.tmp Z .nil)) (.two (by rw [hg];first | exact .aggU Z Z | exact .aggLe Z ⟨Zfb.nilSl,Zfb.nilSl,tv⟩) (.int (by rw [hg])))
theorem Zpk (l:List Int) (tx place:Int):(Zsm l tx place).1.length≤l.length:=by
 unfold Zsm
 split
 ·simp
 ·split
  ·simp
  ·rename_i h1 h2
   have hr:=ZhA tx l
   have h3:(l.eraseIdx (Zaz tx l).toNat).length=l.length - 1:=by rw [List.length_eraseIdx,Yf ow]
   show (Zws _ _ _).length≤_
   unfold Zws
   split
   ·rw [Yd,Yl,Yi,YE];omega
   ·omega
def Zix (g:Zr) (key:Int) (rule:List Int→List Int×Int):Zr×Int:=if ¬ ZS g then (Zb8,5) else if isK OrdD.key key g.orders=false then (Zb8,3) else if (rule (Nn g.orders (lowK OrdD.key key g.orders)).txs).2≠0 then (Zb8,(rule (Nn g.orders (lowK OrdD.key key g.orders)).txs).2) else (⟨g.txs,g.orders.set (lowK OrdD.key key g.orders) ⟨(Nn g.orders (lowK OrdD.key key g.orders)).key,(rule (Nn g.orders (lowK OrdD.key key g.orders)).txs).1⟩⟩,0)
def Zve (o:OrdD) (l:List Int):List Int×Int:=if l.Perm o.txs then (o.txs,0) else ([],8)
def Zrf (g:Zr) (o:OrdD):Zr×Int:=Zix g o.key (Zve o)
def Zwa (g:Zr) (key id place:Int):Zr×Int:=Zix g key fun l=>Zsm l id place
section
set_option linter.unusedSectionVars false
variable {α:Type} {κ:α→Int} {t x:α} {l out r:List α} {d:Bool}
def ZfV (κ:α→Int) (t:α):List α→Bool→List α
 | [],d=>if d=true then [] else [t]
 | x :: l,d=>(if d=false∧κ t≤κ x then [t] else [])++(if κ x=κ t then [] else [x])++ZfV κ t l (d || decide (κ t≤κ x))
theorem ZeO:∀ l:List α,ZfV κ t l true=l.filter fun x=>!decide (κ x=κ t)
 | []=>rfl
 | x :: l=>by
  rw [ZfV,Yc (by simp),Yav,Yb3,ZeO l]
  split
  ·rename_i h;rw [Yar (by simpa using h)];rfl
  ·rename_i h;rw [Yam (by simpa using h)];rfl
theorem ZgD {k:Int} (h:∀ x ∈ l,k<κ x):(l.filter fun x=>!decide (κ x=k))=l:=by
 rw [YbI]
 intro x hx
 have:=h x hx
 simp;omega
theorem Zi6 {k:Int} : lowK κ k (x :: l)=if κ x<k then lowK κ k l+1 else 0:=by
 unfold lowK
 split
 ·rename_i h1;rw [Ybr (by simpa using h1),Yl]
 ·rename_i h1;rw [List.takeWhile_cons_of_neg (by simpa using h1)];rfl
theorem Zb2 {k:Int} : isK κ k (x :: l)=(decide (κ x=k) || isK κ k l):=by unfold isK;rw [YbT]
theorem Zsl {k:Int} (h:∀ x ∈ l,k<κ x):isK κ k l=false:=by
 unfold isK
 rw [Ybl]
 intro x hx
 have:=h x hx
 simp;omega
theorem Zql (hs:l.Pairwise fun a b=>κ a<κ b) (hk:isK κ (κ t) l=false):ZfV κ t l false=l.take (lowK κ (κ t) l) ++ [t] ++ l.drop (lowK κ (κ t) l):=by
 induction l with
 | nil=>rfl
 | cons x l ih=>
  rw [Yo] at hs
  rw [Zb2,YbV,YF] at hk
  rw [ZfV,Yc hk.1,Zi6]
  by_cases h:κ x<κ t
  ·rw [Yc ow,Yf h,show (false || decide (κ t≤κ x))=false by simp;omega,ih hs.2 hk.2];simp
  ·rw [Yf ⟨rfl,by omega⟩,Yc h,show (false || decide (κ t≤κ x))=true by simp;omega,ZeO,ZgD fun y hy=>by have:=hs.1 y hy;omega];simp
theorem Zhh {k:Int} (hs:l.Pairwise fun a b=>κ a<κ b) (hk:isK κ k l=true):(l.filter fun x=>!decide (κ x=k))=l.take (lowK κ k l)++l.drop (lowK κ k l+1):=by
 induction l with
 | nil=>simp [isK] at hk
 | cons x l ih=>
  rw [Yo] at hs
  rw [Zi6]
  by_cases h:κ x<k
  ·rw [Zb2,YD ow,Ybi] at hk
   rw [Yam (by simp;omega),Yf h,ih hs.2 hk];rfl
  ·have hx:κ x=k:=by
    refine Decidable.byContradiction fun h9=>?_
    rw [Zb2,YD h9,Ybi,Zsl fun y hy=>by have:=hs.1 y hy;omega] at hk
    cases hk
   rw [Yar (by simpa using hx),Yc h,ZgD fun y hy=>by have:=hs.1 y hy;omega];simp
theorem ZoB {y:α} (h:y ∈ ZfV κ t l d):(y=t∧d=false)∨(y ∈ l∧κ y≠κ t):=by
 induction l generalizing d with
 | nil=>cases d <;> simp [ZfV] at h;exact .inl ⟨h,rfl⟩
 | cons x l ih=>
  rw [ZfV,YB,YB] at h
  rcases h with (h | h) | h
  ·split at h
   ·rename_i h1;exact .inl ⟨by simpa using h,h1.1⟩
   ·cases h
  ·split at h
   ·cases h
   ·rename_i h1
    have e:y=x:=by simpa using h
    subst e
    exact .inr ⟨by simp,h1⟩
  ·rcases ih h with ⟨h1,h2⟩ | ⟨h1,h2⟩
   ·rw [YbV] at h2;exact .inl ⟨h1,h2.1⟩
   ·exact .inr ⟨by simp [h1],h2⟩
theorem Znu (hs:l.Pairwise fun a b=>κ a<κ b):(ZfV κ t l d).Pairwise fun a b=>κ a<κ b:=by
 induction l generalizing d with
 | nil=>cases d <;> simp [ZfV]
 | cons x l ih=>
  rw [Yo] at hs
  have hf:=hs.2.filter fun x=>!decide (κ x=κ t)
  rw [ZfV]
  by_cases hA:d=false∧κ t≤κ x
  ·rw [Yf hA,show (d || decide (κ t≤κ x))=true by simp [hA.2],ZeO]
   have h1:∀ y ∈ l.filter (fun x=>!decide (κ x=κ t)),κ x<κ y:=fun y hy=>hs.1 y (YU.1 hy).1
   split
   ·rw [YS,YaS,Yo]
    exact ⟨fun y hy=>by have:=h1 y hy;omega,hf⟩
   ·rename_i h2
    rw [YO,YaS,YaS,Yo,Yo]
    refine ⟨fun y hy=>?_,h1,hf⟩
    rcases Yj.1 hy with rfl | hy
    ·omega
    ·have:=h1 y hy;omega
  ·rw [Yc hA,Yav]
   have ih2:=ih (d:=d || decide (κ t≤κ x)) hs.2
   split
   ·simpa using ih2
   ·rename_i h2
    rw [YaS,Yo]
    refine ⟨fun y hy=>?_,ih2⟩
    rcases ZoB hy with ⟨rfl,h3⟩ | ⟨h3,_⟩
    ·rw [YbV] at h3
     have:=YL h3.2
     omega
    ·exact hs.1 y h3
end
def getO (os:List OrdD) (k:Int):List Int:=((os.find? fun o=>decide (o.key=k)).map OrdD.txs).getD []
theorem ZaW {o:OrdD} {os:List OrdD} {k:Int} : getO (o :: os) k=if o.key=k then o.txs else getO os k:=by
 unfold getO
 rw [Yb7]
 by_cases h:o.key=k <;> simp [h]
theorem Zei {os:List OrdD} {k:Int} (h:∀ o ∈ os,o.key≠k):getO os k = []:=by
 unfold getO
 rw [Ybx.2 fun o ho=>by simpa using h o ho];rfl
theorem Zed {os:List OrdD} {o:OrdD} (hs:os.Pairwise fun a b=>a.key<b.key) (h:o ∈ os):getO os o.key=o.txs:=by
 induction os with
 | nil=>cases h
 | cons x os ih=>
  rw [Yo] at hs
  rw [ZaW]
  rcases Yj.1 h with rfl | h
  ·rw [Yf rfl]
  ·have:=hs.1 o h
   rw [Yc ow,ih hs.2 h]
theorem ZhY {os:List OrdD} {k:Int} (h:getO os k≠[]):(⟨k,getO os k⟩:OrdD) ∈ os:=by
 induction os with
 | nil=>exact absurd rfl h
 | cons x os ih=>
  rw [ZaW] at h ⊢
  by_cases e:x.key=k
  ·rw [Yf e];subst e;simp
  ·rw [Yc e] at h ⊢;simp [ih h]
def NE (os:List OrdD):Prop:=∀ o ∈ os,o.txs≠[]
def ZhJ (t:TxD) (l:List Int) (k:Int):List Int:=if t.done=true∧0<wcnt t.ops k then withO l t.id else withoutO l t.id
theorem ZkW {os:List OrdD} (hs:os.Pairwise fun a b=>a.key<b.key) (k:Int):getO (os.filter fun o=>!decide (o.txs = [])) k=getO os k:=by
 induction os with
 | nil=>rfl
 | cons x os ih=>
  rw [Yo] at hs
  rw [ZaW]
  by_cases e:x.txs = []
  ·rw [Yar (by simpa using e),ih hs.2]
   split
   ·rename_i hk
    rw [e,Zei fun o ho=>by have:=hs.1 o ho;omega]
   ·rfl
  ·rw [Yam (by simpa using e),ZaW,ih hs.2]
theorem ZsL {t:TxD} {os:List OrdD} {k:Int} : getO (os.map (Zkl t)) k=if isK OrdD.key k os=true then ZhJ t (getO os k) k else []:=by
 induction os with
 | nil=>simp [getO,isK]
 | cons x os ih=>
  rw [YW,ZaW,ZaW,Zb2,ih]
  by_cases e:x.key=k
  ·subst e
   rw [Yf (show (Zkl t x).key=x.key from rfl),Yf rfl]
   simp [Zkl,ZhJ]
  ·rw [Yc (show ¬ (Zkl t x).key=k from e),Yc e,YD e,Ybi]
theorem ZiO {k' k:Int} : ∀ {os:List OrdD},(os.Pairwise fun a b=>a.key<b.key)→getO (Zkf k' os) k=getO os k
 | [],_=>by unfold Zkf;rw [ZaW];split <;> rfl
 | x :: os,h=>by
  rw [Yo] at h
  unfold Zkf
  split
  ·rw [ZaW,ZaW,ZiO h.2]
  ·split
   ·rfl
   ·rw [ZaW]
    split
    ·rename_i h1 h2 h3
     have h3:k' = k:=h3
     subst h3
     refine (Zei fun o ho=>?_).symm
     rcases Yj.1 ho with rfl | ho
     ·exact h2
     ·have:=h.1 o ho;omega
    ·rfl
theorem Zmd {k' k:Int} : ∀ {os:List OrdD},isK OrdD.key k (Zkf k' os)=(isK OrdD.key k os || decide (k' = k))
 | []=>by simp [Zkf,isK]
 | x :: os=>by
  unfold Zkf
  split
  ·rw [Zb2,Zb2,Zmd,Bool.or_assoc]
  ·split
   ·rename_i h2
    rw [Zb2]
    by_cases e:k' = k
    ·simp [h2,e]
    ·simp [e]
   ·rw [Zb2,Bool.or_comm]
theorem ZlG:∀ (ks:List Int) {os:List OrdD} (k:Int),ZcK OrdD.key os→getO (ks.foldl Ze9 os) k=getO os k∧isK OrdD.key k (ks.foldl Ze9 os)=(isK OrdD.key k os || decide (k ∈ ks))
 | [],os,k,_=>by simp
 | k' :: ks,os,k,h=>by
  obtain ⟨h1,h2⟩:=ZlG ks k (insK_rise k' h)
  rw [Yao,h1,h2,Zic k' h,ZiO (ZT.1 h),Zmd]
  refine ⟨rfl,?_⟩
  rw [Bool.or_assoc]
  congr 1
  rw [Yai]
  simp only [YaP,Yq,Yj]
  exact ⟨fun h=>h.elim (fun h=>.inl h.symm) .inr,fun h=>h.elim (fun h=>.inl h.symm) .inr⟩
theorem ZtR {os:List OrdD} {k:Int} (h:isK OrdD.key k os=false):getO os k = []:=by
 refine Zei fun o ho e=>?_
 unfold isK at h
 rw [Ybl] at h
 exact h o ho (by simpa using e)
theorem ZhD {t:TxD} {os:List OrdD} (h:ZcK OrdD.key os) (k:Int):getO (settleO t os) k=ZhJ t (getO os k) k:=by
 unfold settleO
 have hins:getO (ZdF t os (Z6 t)) k=getO os k∧isK OrdD.key k (ZdF t os (Z6 t))=(isK OrdD.key k os || (t.done && decide (k ∈ Z6 t)))∧ZcK OrdD.key (ZdF t os (Z6 t)):=by
  unfold ZdF
  split
  ·rename_i hd
   obtain ⟨h1,h2⟩:=ZlG (Z6 t) k h
   refine ⟨h1,by rw [h2,hd,Ya4],?_⟩
   have key:∀ (ks:List Int) (os:List OrdD),ZcK OrdD.key os→ZcK OrdD.key (ks.foldl Ze9 os):=by
    intro ks
    induction ks with
    | nil=>intro os h;exact h
    | cons k ks ih=>intro os h;exact ih _ (insK_rise k h)
   exact key _ _ h
  ·rename_i hd
   exact ⟨rfl,by simp [hd],h⟩
 obtain ⟨h1,h2,h3⟩:=hins
 have hm:((ZdF t os (Z6 t)).map (Zkl t)).Pairwise fun a b=>a.key<b.key:=Ya0.2 ((ZT.1 h3).imp fun h=>h)
 rw [ZkW hm,ZsL,h1,h2]
 split
 ·rfl
 ·rename_i hk
  simp only [YaP,not_or,Yt,Yq] at hk
  have hk1:isK OrdD.key k os=false:=by simpa using hk.1
  rw [ZtR hk1]
  unfold ZhJ
  rw [Yc fun h9=>hk.2 ⟨h9.1,Zc3.2 h9.2⟩];rfl
theorem Zkm {t:TxD} {os:List OrdD} (h:ZcK OrdD.key os) (hs:Zdx os):(settleO t os).Pairwise (fun a b=>a.key<b.key)∧NE (settleO t os):=by
 have h3:=(ZgZ (t:=t) h hs (Z6 t)).1
 have hm:((ZdF t os (Z6 t)).map (Zkl t)).Pairwise fun a b=>a.key<b.key:=Ya0.2 ((ZT.1 h3).imp fun h=>h)
 refine ⟨hm.filter _,fun o ho=>?_⟩
 have:=(YU.1 ho).2
 simpa using this
theorem Ztq {os:List OrdD} {k:Int} {i:Nat} (hi:i<os.length) (h:(Nn os i).key=k) (hq:∀ q,q<i→(Nn os q).key≠k):getO os k=(Nn os i).txs:=by
 unfold getO
 rw [List.find?_eq_some_iff_getElem.2 ⟨by simpa using h,i,hi,(nth_eq hi).symm,fun j hj=>by have:=hq j hj;rw [nth_eq ow] at this;simpa using this⟩];rfl
theorem Zu0 {os:List OrdD} {k:Int} (hq:∀ q,q<os.length→(Nn os q).key≠k):getO os k = []:=Zei fun o ho=>by
 obtain ⟨j,hj,e⟩:=Yae ho
 have:=hq j hj
 rwa [nth_eq hj,e] at this
theorem Zl5 {l:List Z7} {e:Z7} (h:ZcK Za0 l) (hk:isK Za0 (Za0 e) l=false):ZcK Za0 (insE l e)∧(∀ s,s ∈ insE l e ↔ s ∈ l∨s=e)∧(insE l e).length=l.length+1:=by
 have hm:∀ s,s ∈ insE l e ↔ s ∈ l∨s=e:=fun s=>by
  unfold insE
  rw [YB,YB,Yk]
  constructor
  ·rintro ((h1 | h1) | h1)
   ·exact .inl (Yay h1)
   ·exact .inr h1
   ·exact .inl (Ybh h1)
  ·rintro (h1 | h1)
   ·rw [← YaR (lowK Za0 (Za0 e) l) l,YB] at h1
    rcases h1 with h1 | h1
    ·exact .inl (.inl h1)
    ·exact .inr h1
   ·exact .inl (.inr h1)
 refine ⟨?_,hm,?_⟩
 ·unfold insE
  rw [← Zql (ZT.1 h) hk]
  exact ZT.2 (Znu (ZT.1 h))
 ·have:=ZkY (κ:=Za0) (k:=Za0 e) l
  unfold insE
  simp only [Yd,Yi,YE,YN]
  omega
def Ztj (L:List (List Z7)) (m:Nat):Prop:=∀ l ∈ L,l.length≤m∧ZcK Za0 l ∧ ∀ e ∈ l,okE e
theorem Ztj.r {L:List (List Z7)} {m:Nat} (h:Ztj L m) (hm:m≤1000000):Zv6 L:=fun l hl=>⟨Y4 (h l hl).1 hm,(h l hl).2⟩
theorem Ztj.set {L:List (List Z7)} {m k:Nat} {e:Z7} (h:Ztj L m) (hk:k<L.length) (he:okE e) (hn:isK Za0 (Za0 e) (Nn L k)=false):Ztj (L.set k (insE (Nn L k) e)) (m+1):=fun l hl=>by
 rcases List.mem_or_eq_of_mem_set hl with h1 | rfl
 ·exact ⟨Nat.le_succ_of_le (h l h1).1,(h l h1).2⟩
 ·obtain ⟨a1,a2,a3⟩:=h _ (nth_mem hk)
  obtain ⟨b1,b2,b3⟩:=Zl5 a2 hn
  exact ⟨by omega,b1,fun s hs=>((b2 s).1 hs).elim (a3 s) fun h9=>h9 ▸ he⟩
theorem Zpt {l:List Z7} {e:Z7} (hl:∀ s ∈ l,okE s) (he:okE e):isK Za0 (Za0 e) l=true ↔ e ∈ l:=by
 unfold isK
 rw [YaD]
 constructor
 ·rintro ⟨s,h1,h2⟩;exact keyE_inj (hl s h1) he (Yr h2) ▸ h1
 ·exact fun h=>⟨e,h,Yac rfl⟩
structure ZbU (n:Nat) (E:List Zy) (O I:List (List Z7)):Prop where
 ol:O.length=n
 il:I.length=n
 on:Ztj O E.length
 inn:Ztj I E.length
 ok:∀ x ∈ E,ZaH n x=true
 om:∀ u:Nat,u<n → ∀ e,e ∈ Nn O u ↔ ∃ x ∈ E,x.src=(u:Int)∧endO x=e
 im:∀ u:Nat,u<n → ∀ e,e ∈ Nn I u ↔ ∃ x ∈ E,x.dst=(u:Int)∧endI x=e
theorem ZbU.outK {n:Nat} {E:List Zy} {O I:List (List Z7)} {x:Zy} (h:ZbU n E O I) (hn:n≤4096) (hx:ZaH n x=true):isK Za0 (Za0 (endO x)) (Nn O x.src.toNat)=true ↔ x ∈ E:=by
 obtain ⟨⟨s1,s2⟩,⟨d1,d2⟩,_⟩:=ZP.1 hx
 have hu:x.src.toNat<n:=by omega
 rw [Zpt (h.on _ (nth_mem (by rw [h.ol];exact hu))).2.2 (endO_ok hx hn),h.om _ hu]
 constructor
 ·rintro ⟨y,y1,y2,y3⟩
  have e:y=x:=by
   cases y;cases x
   simp only [endO,Z7.mk.injEq] at y3
   simp only at y2 s1
   obtain ⟨a,b,c⟩:=y3
   rw [Yaw s1] at y2
   subst a;subst b;subst c;subst y2;rfl
  exact e ▸ y1
 ·exact fun k=>⟨x,k,by rw [Yaw s1],rfl⟩
theorem ZbU.has {n:Nat} {E:List Zy} {O I:List (List Z7)} {x:Zy} (h:ZbU n E O I) (hn:n≤4096):ZqG O x=true ↔ ZaH n x=true∧x ∈ E:=by
 unfold ZqG
 rw [h.ol,Yt]
 exact ⟨fun k=>⟨k.1,(h.outK hn k.1).1 k.2⟩,fun k=>⟨k.1,(h.outK hn k.1).2 k.2⟩⟩
theorem ZbU.inK {n:Nat} {E:List Zy} {O I:List (List Z7)} {x:Zy} (h:ZbU n E O I) (hn:n≤4096) (hx:ZaH n x=true):isK Za0 (Za0 (endI x)) (Nn I x.dst.toNat)=true ↔ x ∈ E:=by
 obtain ⟨⟨s1,s2⟩,⟨d1,d2⟩,_⟩:=ZP.1 hx
 have hu:x.dst.toNat<n:=by omega
 rw [Zpt (h.inn _ (nth_mem (by rw [h.il];exact hu))).2.2 (endI_ok hx hn),h.im _ hu]
 constructor
 ·rintro ⟨y,y1,y2,y3⟩
  have e:y=x:=by
   cases y;cases x
   simp only [endI,Z7.mk.injEq] at y3
   simp only at y2 d1
   obtain ⟨a,b,c⟩:=y3
   rw [Yaw d1] at y2
   subst a;subst b;subst c;subst y2;rfl
  exact e ▸ y1
 ·exact fun k=>⟨x,k,by rw [Yaw d1],rfl⟩
theorem Zmo {n:Nat} {E:List Zy} {L:List (List Z7)} {x:Zy} {f:Zy→Int} {g:Zy→Z7} (hl:L.length=n) (hm:∀ u:Nat,u<n → ∀ e,e ∈ Nn L u ↔ ∃ x ∈ E,f x=(u:Int)∧g x=e) (h0:0≤f x) (hr:ZcK Za0 (Nn L (f x).toNat)) (hk:isK Za0 (Za0 (g x)) (Nn L (f x).toNat)=false) :
  ∀ u:Nat,u<n → ∀ e,e ∈ Nn (L.set (f x).toNat (insE (Nn L (f x).toNat) (g x))) u ↔ ∃ y ∈ E ++ [x],f y=(u:Int)∧g y=e:=fun u hu e=>by
 rw [Zwq ow]
 have hex:(∃ y ∈ E ++ [x],f y=(u:Int)∧g y=e) ↔ (∃ y ∈ E,f y=(u:Int)∧g y=e)∨(f x=(u:Int)∧g x=e):=by
  constructor
  ·rintro ⟨y,y1,y2⟩
   rcases YB.1 y1 with y1 | y1
   ·exact .inl ⟨y,y1,y2⟩
   ·rw [Yk.1 y1] at y2;exact .inr y2
  ·rintro (⟨y,y1,y2⟩ | k)
   ·exact ⟨y,Y1 _ y1,y2⟩
   ·exact ⟨x,by simp,k⟩
 rw [hex]
 by_cases hc:(f x).toNat=u
 ·rw [Yf hc,(Zl5 hr hk).2.1,hc,hm u hu]
  constructor
  ·rintro (k | k)
   ·exact .inl k
   ·exact .inr ⟨by omega,k.symm⟩
  ·rintro (k | k)
   ·exact .inl k
   ·exact .inr k.2.symm
 ·rw [Yc hc,hm u hu]
  exact ⟨.inl,fun k=>k.elim id fun k=>absurd ow hc⟩
theorem ZbU.add {n:Nat} {E:List Zy} {O I:List (List Z7)} {x:Zy} (h:ZbU n E O I) (hn:n≤4096) (hx:ZaH n x=true) (hne:x ∉ E):ZbU n (E ++ [x]) (O.set x.src.toNat (insE (Nn O x.src.toNat) (endO x))) (I.set x.dst.toNat (insE (Nn I x.dst.toNat) (endI x))):=by
 have ko:=Bool.eq_false_iff.2 (fun k=>hne ((h.outK hn hx).1 k))
 have ki:=Bool.eq_false_iff.2 (fun k=>hne ((h.inK hn hx).1 k))
 obtain ⟨⟨s1,s2⟩,⟨d1,d2⟩,_⟩:=ZP.1 hx
 have hl:=h.ol
 have hl2:=h.il
 have so:x.src.toNat<O.length:=by omega
 have si:x.dst.toNat<I.length:=by omega
 refine ⟨by simp [hl],by simp [hl2],?_,?_,fun y hy=>?_,?_,?_⟩
 ·rw [Yd];exact h.on.set so (endO_ok hx hn) ko
 ·rw [Yd];exact h.inn.set si (endI_ok hx hn) ki
 ·rcases YB.1 hy with hy | hy
  ·exact h.ok y hy
  ·rw [Yk.1 hy];exact hx
 ·exact Zmo (f:=Zy.src) (g:=endO) hl h.om s1 (h.on _ (nth_mem so)).2.1 ko
 ·exact Zmo (f:=Zy.dst) (g:=endI) hl2 h.im d1 (h.inn _ (nth_mem si)).2.1 ki
theorem ZbU.next {n:Nat} {E:List Zy} {O I:List (List Z7)} (h:ZbU n E O I) (mask u:Int):ZdA (adjO O mask u) ∧ ∀ v,v ∈ adjO O mask u ↔ ∃ x ∈ E,x.src=u∧ofB mask x.kind=true∧x.dst=v:=by
 by_cases hu:0≤u∧u<O.length
 ·unfold adjO
  rw [Yf hu]
  refine ⟨(ZW _).1,fun v=>?_⟩
  rw [(ZW _).2,Yu]
  constructor
  ·rintro ⟨e,h1,h2⟩
   obtain ⟨h3,h4⟩:=YU.1 h1
   obtain ⟨x,x1,x2,rfl⟩:=(h.om u.toNat (by have:=h.ol;omega) e).1 h3
   exact ⟨x,x1,by omega,h4,h2⟩
  ·rintro ⟨x,x1,x2,x3,x4⟩
   exact ⟨endO x,YU.2 ⟨(h.om u.toNat (by have:=h.ol;omega) _).2 ⟨x,x1,by omega,rfl⟩,x3⟩,x4⟩
 ·unfold adjO
  rw [Yc hu]
  refine ⟨List.Pairwise.nil,fun v=>⟨fun k=>(by cases k),?_⟩⟩
  rintro ⟨x,x1,x2,_⟩
  have:=(ZP.1 (h.ok x x1)).1
  have:=h.ol
  exact absurd ⟨by omega,by omega⟩ hu
def Zi9 (n:Nat) (E:List Zy) (x:Zy):List Zy:=if ZaH n x=true∧x ∉ E then E ++ [x] else E
theorem Zst {n:Nat} {E:List Zy} {x y:Zy} : y ∈ Zi9 n E x ↔ y ∈ E∨(y=x∧ZaH n y=true):=by
 unfold Zi9
 split
 ·rename_i h
  rw [YB,Yk]
  exact ⟨fun k=>k.elim .inl fun e=>.inr ⟨e,e ▸ h.1⟩,fun k=>k.elim .inl fun e=>.inr e.1⟩
 ·rename_i h
  refine ⟨.inl,fun k=>k.elim id fun ⟨e,hr⟩=>?_⟩
  subst e
  exact Ybz fun hx=>h ⟨hr,hx⟩
theorem ZhS {n:Nat} : ∀ {L E:List Zy} {y:Zy},y ∈ L.foldl (Zi9 n) E ↔ y ∈ E∨(y ∈ L∧ZaH n y=true)
 | [],E,y=>by simp
 | x :: L,E,y=>by
  rw [Yao,ZhS,Zst,Yj]
  constructor
  ·rintro ((h | ⟨h,k⟩) | ⟨h,k⟩)
   ·exact .inl h
   ·exact .inr ⟨.inl h,k⟩
   ·exact .inr ⟨.inr h,k⟩
  ·rintro (h | ⟨h | h,k⟩)
   ·exact .inl (.inl h)
   ·exact .inl (.inr ⟨h,k⟩)
   ·exact .inr ⟨h,k⟩
theorem ZoZ {n:Nat} (E:List Zy) (x:Zy):(Zi9 n E x).length≤E.length+1:=by
 unfold Zi9;split <;> simp
theorem Zd5 {n:Nat} : ∀ (L E:List Zy),(L.foldl (Zi9 n) E).length≤E.length+L.length
 | [],E=>YM _
 | x :: L,E=>by
  have h1:=Zd5 (n:=n) L (Zi9 n E x)
  have h2:=ZoZ (n:=n) E x
  rw [Yao,Yl];omega
theorem ZbU.new (n:Nat):ZbU n [] (List.replicate n []) (List.replicate n []):=by
 have hn:∀ u:Nat,u<n→Nn (List.replicate n ([]:List Z7)) u = []:=fun u hu=>by
  rw [nth_eq (by simpa using hu)];simp
 have hd:Ztj (List.replicate n []) ([]:List Zy).length:=fun l hl=>by
  rw [(List.mem_replicate.1 hl).2];exact ⟨YM _,ZT.2 .nil,fun e h=>by cases h⟩
 exact ⟨by simp,by simp,hd,hd,(fun x h=>by cases h),(fun u hu e=>by rw [hn u hu];simp),(fun u hu e=>by rw [hn u hu];simp)⟩
theorem ZbU.step {n:Nat} {E:List Zy} {O I:List (List Z7)} (h:ZbU n E O I) (hn:n≤4096) (x:Zy) (m:Nat):ZbU n (Zi9 n E x) (Ze0 O I m x).1 (Ze0 O I m x).2.1∧(Ze0 O I m x).2.2.1≤m+1:=by
 unfold Ze0 Zi9
 rw [h.ol]
 by_cases hr:ZaH n x=true
 ·rw [Yf hr]
  by_cases hx:x ∈ E
  ·rw [Yf ((h.has hn).2 ⟨hr,hx⟩),Yc (fun k=>k.2 hx)];exact ⟨h,Nat.le_succ _⟩
  ·rw [Yc (fun k=>hx ((h.has hn).1 k).2),Yf ⟨hr,hx⟩];exact ⟨h.add hn hr hx,YM _⟩
 ·rw [Yc hr,Yc (fun k=>hr k.1)];exact ⟨h,Nat.le_succ _⟩
theorem Zn8 (l:List Zg) (hl:l.length≤1000000):FnG prog 124 1 [.sl Zq l] [.star []] (PV.one) (fun v=>[Zx 42 4 Zq l v]):=by
 refine FnG.mk func124 Z ntmps124 Z kr fun B F0 a w F V hG G=>?_
 obtain ⟨F,G⟩:=G.nM [0] [0]
 refine Ya (rZ G (qC qZ) V [2,0] [0] fun G=>(Ya (Ya ?_)))
 refine Ze G (qR rr (qf (ZbC Ycg .t) r1 qz qZ)) V [4,2,0] [0] Z Z fun a w F G=>?_
 obtain ⟨β4,hβ4,G⟩:=G.pickBool 4 rfl
 obtain ⟨F,G⟩:=G.nM [4,2,0] [0]
 refine Za (Zc G Z (fun hc0=>?_) (fun hc0=>?_))
 ·have hg:l = []:=hβ4 hc0
  refine Ya (rZ G (qC qZ) V [2,0] [0] fun G=>(Yh (Zl ?_)))
  have G:=G.fresh 1 rfl
  have G:=G.turn 1 Z (ZaC (T:=42) (sz:=4) (R:=Zq))
  have G:=G.turn 1 Z (r':=RS.hp (Zx 42 4 Zq l (.slice none 0 0))) (fun _ _ _ _ h=>by rw [hg];exact h)
  refine Z1 (h':=fun v=>Zx 42 4 Zq l v) hG G Z (.tmp Z .nil) (.one .one) rfl
 have hg:l = [] ++ l:=rfl
 refine Ye (Za (Ya (Zb G (qf (Za2 (R:=Zq) (sz:=4) 101 Ycg kr) trivial qz (qR rr (qf (ZV (sz:=4) (bs:=32) 101 (.mk' Ycg kr kr) (by intro x;rfl) .same (.sl .t) (by simp only [Yd,Yy];omega) (by decide)) ⟨rfl,rfl,tv⟩ ⟨rfl,tv⟩ (qO rr qZ)))) V [2] [101,0] (fun _=>rfl) (fun _=>rfl) fun τ a w F G=>?_)))
 try dsimp only [RS.sub,SF.sub,CF.sub,csub,Anc.sub,List.map,Zf,xL,xM,Nat.reduceAdd,xD,xE,xT,xU,xC,xN,zCF,Zq] at G
 generalize τ 7=v7 at G
 refine Za (Yh ?_)
 obtain ⟨F,G⟩:=G.rename 101 1 Z rfl
 have G:=G.turn 1 Z (r':=RS.hp (Zx 42 4 Zq l v7)) (fun _ _ _ _ h=>by rw [hg];exact h)
 refine Z1 (h':=fun v=>Zx 42 4 Zq l v) hG G Z (.tmp Z .nil) (.one .one) rfl
theorem ZkU (v:Value) (l:List Zg) (hll:l.length≤1000000):FnG prog 175 1 [.is v] [Zx 42 4 Zq l v] (PV.one) (fun v=>[Zx 42 4 Zq (Zt l) v]):=by
 refine FnG.mk func175 Z ntmps175 Z kr fun B F0 a w F V hG G=>?_
 replace G:=G.turn 1 Z (r':=.ob (.val v) (Zx 42 4 Zq l)) (fun _ _ _ _ h=>h)
 refine Ya (rZ G (qC qZ) V [2,0] [1,0] fun G=>(Ya (Ya ?_)))
 refine rZ G (qR rr (qf (ZQ 1 Ycg .is) r1 r1 (qf (ZaA .t qi) r1 qz qZ))) V [8,2,0] [1,0] fun G=>?_
 refine Zc G Z (fun hc0=>?_) (fun hc0=>?_)
 ·have hg:(Zt l)=l:=Zb5 (by simp at hc0;omega)
  refine Ya (rZ G (qR rr (qO rr qZ)) V [2,0] [1,0] fun G=>(Yh (Zl ?_)))
  have G:=G.turn 1 Z (r':=RS.hp (Zx 42 4 Zq (Zt l) v)) (fun _ _ _ _ h=>by rw [hg];exact h)
  refine Z1 (h':=fun v=>Zx 42 4 Zq (Zt l) v) hG G Z (.tmp Z .nil) (.one .one) rfl
 have hl2:2≤l.length:=by simp at hc0;omega
 refine Ye (Za (Ya (Ya (rZ G (qI qZ) V [3,2,0] [1,0] fun G=>Yg ?_))))
 refine Zk (σ:=Nat) [0,2] [0,1] (fun s=>[(3,.pv (.int .i64 (s:Int)))]) (fun s=>[]) (fun s=>1≤s∧s≤l.length∧Zt (l.take s)=l.take s) (fun s=>l.length - s) (1) G ⟨rfl,rfl,rfl,tv⟩ ⟨rfl,rfl,tv⟩ ⟨by omega,by omega,Zb5 (by rw [Yi];omega)⟩ ?_
 clear G;intro k a w F hC G
 try dsimp only at hC
 obtain ⟨F,G⟩:=G.nM [3,2,0] [1,0]
 try dsimp only at G
 obtain ⟨hk1,hkl,hkc⟩:=hC
 have hkw:IntKind.wrap .i64 ((k:Int) - 1)=(k:Int) - 1:=ZA ow
 refine Ya (Ya (rZ G (qR rr (qR rr (qf (ZQ 1 Ycg .is) r1 r1 (qL r2)))) V [13,3,2,0] [1,0] fun G=>?_))
 refine Zc G Z (fun hc1=>?_) (fun hc1=>?_)
 ·have hil:k<l.length:=by simp at hc1;omega
  have hst:=Zby (l:=l) hk1 hil
  have hy0:(IntKind.wrap .i64 ((k:Int) - 1)).toNat=k - 1:=by rw [hkw];omega
  refine Ye (Za (Ya (Yg (Ya (Zw G (qR rr (qR rr (qf (o_indexAddr_row (sz:=4) 1 (.mk Ycg kr) .is .t ow ow (by rfl)) r2 r1 (qf (Zu (ag:=true) (sz':=4) (sz:=4) 1 .t (by intro x;rfl) ow kr kr kr) r1 r1 (qR rr (qR rr (qf (o_sub .t qi) r1 qz (qf (o_indexAddr_row (sz:=4) 1 (.mk Ycg kr) .is .t (by rw [hkw];omega) (by rw [hkw];omega) (by rfl)) r2 r1 (qf (Zu (ag:=true) (sz':=4) (sz:=4) 1 .t (by intro x;rfl) (by rw [hkw];omega) kr kr kr) r1 r1 (qf (o_eqlS (ks:=[true,true,true,true]) kr .t .t (.int (.int (.int (.int .nil))))) r2 qz qZ)))))))))) V [25,3,2,0] [1,0] Z Z fun a w F G=>?_)))))
  try dsimp only [List.map,xD,xE,xT,xU,ldSF,Zq] at G
  try simp only [Yb] at G
  refine Za (Zc G Z (fun hc2=>?_) (fun hc2=>?_))
  ·have heq:Nn l (k - 1)=Nn l k:=by rw [hy0] at hc2;simp only [ZvT] at hc2;simp at hc2;exact hc2.symm
   rw [Yf heq,hkc] at hst
   have hst0:=hst.symm
   refine Ya (rZ G (qR rr (qR rr (qf (Zai (sz:=4) 1 (.mk Ycg kr) .is .t ow ow) r2 r1 (qO rr qZ)))) V [4,3,2,0] [1,0] fun G=>(Ya (Ya ?_)))
   refine rZ G (qI qZ) V [5,4,3,2,0] [1,0] fun G=>Yg ?_
   have hC0:1≤1∧1≤l.length - k∧k≤k∧k≤k+1 - 1∧l.length=l.length∧l.take k=Zt (l.take (k+1)) ∧ ∀ q,k+1 - 1≤q→q<l.length→Nn l q=Nn l q:=⟨by omega,by omega,by omega,by omega,rfl,hst0,fun q _ _=>rfl⟩
   refine Zk (σ:=Nat×Nat×List Zg) [0,2,4] [0] (fun s=>[(3,.pv (.int .i64 (s.1:Int))),(5,.pv (.int .i64 (s.2.1:Int)))]) (fun s=>[(1,.ob (.val v) (Zx 42 4 Zq s.2.2))]) (fun s=>1≤s.2.1∧s.2.1≤l.length - k∧k≤s.1∧s.1≤k+s.2.1 - 1∧s.2.2.length=l.length∧s.2.2.take s.1=Zt (l.take (k+s.2.1)) ∧ ∀ q,k+s.2.1 - 1≤q→q<l.length→Nn s.2.2 q=Nn l q) (fun s=>l.length - s.2.1) ((k),(1),(l)) G ⟨rfl,rfl,rfl,rfl,rfl,tv⟩ ⟨rfl,rfl,tv⟩ hC0 ?_
   clear G;intro s a w F hC G
   obtain ⟨k1,j,l1⟩:=s
   try dsimp only at hC
   obtain ⟨F,G⟩:=G.nM [5,4,3,2,0] [1,0]
   try dsimp only at G
   obtain ⟨hj1,hjk,hkk,hkj,hl1,htk,hrest⟩:=hC
   have hjw:IntKind.wrap .i64 ((j:Int) - 1)=(j:Int) - 1:=ZA ow
   refine Ya (Ya (rZ G (qR rr (qR rr (qf (ZjA 1 Ycg .t ow) r1 r1 (qL r2)))) V [32,5,4,3,2,0] [1,0] fun G=>?_))
   refine Zc G Z (fun hc3=>?_) (fun hc3=>?_)
   ·have hjl:k+j<l.length:=by simp at hc3;omega
    have hx1:(Nn l1 (((k:Int)).toNat+((j:Int)).toNat))=Nn l (k+j):=by rw [Yb,Yb];exact hrest _ ow hjl
    have hx0:Nn l1 (((k:Int)).toNat+(IntKind.wrap .i64 ((j:Int) - 1)).toNat)=Nn l (k+j - 1):=by rw [hjw,show ((k:Int)).toNat+((j:Int) - 1).toNat=k+j - 1 by omega];exact hrest _ ow ow
    have hstp:=Zby (l:=l) (p:=k+j) ow hjl
    refine Ye (Za (Ya (Yg (Ya (Zw G (qR rr (qR rr (qf (o_indexAddr_sub (sz:=4) 1 (.mk Ycg kr) .t .t ow ow (by rfl)) r2 r1 (qf (Zu (ag:=true) (sz':=4) (sz:=4) 1 .t (by intro x;rfl) ow kr kr kr) r1 r1 (qR rr (qR rr (qf (o_sub .t qi) r1 qz (qf (o_indexAddr_sub (sz:=4) 1 (.mk Ycg kr) .t .t (by rw [hjw];omega) (by rw [hjw];omega) (by rfl)) r2 r1 (qf (Zu (ag:=true) (sz':=4) (sz:=4) 1 .t (by intro x;rfl) (by rw [hjw];omega) kr kr kr) r1 r1 (qf (o_neqS (ks:=[true,true,true,true]) kr .t .t (.int (.int (.int (.int .nil))))) r2 qz qZ)))))))))) V [44,5,4,3,2,0] [1,0] Z Z fun a w F G=>?_)))))
    try dsimp only [List.map,xD,xE,xT,xU,ldSF,Zq] at G
    try simp only [Yb] at G
    refine Za (Zc G Z (fun hc4=>?_) (fun hc4=>?_))
    ·have hne:¬ Nn l (k+j - 1)=Nn l (k+j):=by rw [← hx1,← hx0];simp only [ZvT] at hc4;simp at hc4 ⊢;exact fun e=>hc4 e.symm
     rw [Yc hne] at hstp
     obtain ⟨i2,hi2e⟩:∃ i2,i2=k1+1:=⟨_,rfl⟩
     have hi2:IntKind.wrap .i64 ((k1:Int)+1)=(i2:Int):=by rw [hi2e];exact Zd ow
     obtain ⟨l2,hl2e⟩:∃ l2,l2=l1.set k1 (Nn l1 (k+j)):=⟨_,rfl⟩
     have hx1b:Nn l1 (k+j)=Nn l (k+j):=hrest _ ow hjl
     have hC2:1≤j+1∧j+1≤l.length - k∧k≤i2∧i2≤k+(j+1) - 1∧l2.length=l.length∧l2.take i2=Zt (l.take (k+(j+1))) ∧ ∀ q,k+(j+1) - 1≤q→q<l.length→Nn l2 q=Nn l q:=⟨by omega,by omega,by omega,by omega,by rw [hl2e,YK];exact hl1,by rw [hl2e,hi2e,Zp (by rw [YK];omega),YbJ (YM _),htk,nth_eq (by rw [YK];omega),Ybe,hx1b];exact hstp.symm,fun q hq hq2=>by rw [hl2e,nth_eq (by rw [YK];omega),YbK ow,← nth_eq ow];exact hrest q ow hq2⟩
     refine Ya (Ze G (qR rr (qR rr (qR rr (qR rr (qf (o_indexAddr_sub (sz:=4) 1 (.mk Ycg kr) .t .t ow ow (by rfl)) r2 r1 (qf (Zu (ag:=true) (sz':=4) (sz:=4) 1 .t (by intro x;rfl) ow kr kr kr) r1 r1 (qf (o_indexAddr_row (sz:=4) 1 (.mk Ycg kr) .is .t ow ow (by rfl)) r2 r1 (qf (ZdJ (sz:=4) 1 .t (by intro x;rfl) ow (.conv .t (Ent.aggU (l:=Zq (Nn l1 (((k:Int)).toNat+((j:Int)).toNat))) Z Z)) kr) r2 r1 qZ)))))))) V [5,4,3,2,0] [1,0] Z Z fun a w F G=>?_)
     try simp only [Yb] at G
     rw [← hl2e] at G
     refine Za (Ze G (qR rr (qp r1 (qO rr qZ))) V [5,4,3,2,0] [1,0] Z Z fun a w F G=>Zi (Za ?_))
     refine rZ G (qR rr (qp r1 (qO rr qZ))) V [5,4,3,2,0] [1,0] fun G=>?_
     have hmu:l.length - (j+1)<l.length - j:=by omega
     replace G:=G.ent (i:=3) (s':=.pv (.int .i64 (i2:Int))) Z (.int hi2)
     replace G:=G.ent (i:=5) (s':=.pv (.int .i64 ((j+1:Nat):Int))) Z (.int (Zd ow))
     obtain ⟨F,G⟩:=G.nM [4,2,0,5,3] [0,1]
     exact ⟨((i2),(j+1),(l2)),F,hC2,G,hmu⟩
    have heq2:Nn l (k+j - 1)=Nn l (k+j):=by rw [← hx1,← hx0];simp only [ZvT] at hc4;simp at hc4 ⊢;exact hc4.symm
    rw [Yf heq2] at hstp
    obtain ⟨i2,hi2e⟩:∃ i2,i2=k1:=⟨_,rfl⟩
    have hi2:(k1:Int)=(i2:Int):=by rw [hi2e]
    obtain ⟨l2,hl2e⟩:∃ l2,l2=l1:=⟨_,rfl⟩
    rw [← hl2e] at G
    have hC2:1≤j+1∧j+1≤l.length - k∧k≤i2∧i2≤k+(j+1) - 1∧l2.length=l.length∧l2.take i2=Zt (l.take (k+(j+1))) ∧ ∀ q,k+(j+1) - 1≤q→q<l.length→Nn l2 q=Nn l q:=⟨by omega,by omega,by omega,by omega,by rw [hl2e];exact hl1,by rw [hl2e,hi2e,htk];exact hstp.symm,fun q hq hq2=>by rw [hl2e];exact hrest q ow hq2⟩
    refine Ye (Zi (Za (rZ G (qR rr (qp r1 (qO rr qZ))) V [5,4,3,2,0] [1,0] fun G=>?_)))
    have hmu:l.length - (j+1)<l.length - j:=by omega
    replace G:=G.ent (i:=3) (s':=.pv (.int .i64 (i2:Int))) Z (.int hi2)
    replace G:=G.ent (i:=5) (s':=.pv (.int .i64 ((j+1:Nat):Int))) Z (.int (Zd ow))
    obtain ⟨F,G⟩:=G.nM [4,2,0,5,3] [0,1]
    exact ⟨((i2),(j+1),(l2)),F,hC2,G,hmu⟩
   have hjl:k+j=l.length:=by simp at hc3;omega
   have hg:(Zt l)=(l1.take k1++List.replicate (l1.length - k1) noE).take k1:=by rw [YT (by rw [Yi];omega),YaL,Yb2,htk,hjl,YA]
   refine Yx (Zj (Zj (Zo (Za (Ya (rZ G (qR rr (qR rr (qf (Zai (sz:=4) 1 (.mk Ycg kr) .is .t ow ow) r2 r1 (qf (ZbR (R:=Zq) (z:=noE) (zs:=[.int .i64 0,.int .i64 0,.int .i64 0,.int .i64 0]) 1 Ycg kr Z Z ZsE (by intro x;rfl) .t (by simp;omega)) r1 r1 qZ)))) V [3,2,0] [1,0] fun G=>Ya ?_))))))
   refine Zb G (qR rr (qR rr (qf (ZbO (sz:=4) 1 (.mk Ycg kr) (by intro x;rfl) .is .t ow (by simp;omega)) r2 r1 (qO rr qZ)))) V [3,2,0] [1,0] (fun _=>rfl) (fun _=>rfl) fun τ a w F G=>?_
   try dsimp only [RS.sub,SF.sub,CF.sub,csub,Anc.sub,List.map,Zq] at G
   generalize τ 59=v59 at G
   refine Za (Yh (Zz (Zl (Zl (Zz (Zl ?_))))))
   have G:=G.turn 1 Z (r':=RS.hp (Zx 42 4 Zq (Zt l) v59)) (fun _ _ _ _ h=>by rw [hg];exact h)
   refine Z1 (h':=fun v=>Zx 42 4 Zq (Zt l) v) hG G Z (.tmp Z .nil) (.one .one) rfl
  have hne:¬ Nn l (k - 1)=Nn l k:=by rw [hy0] at hc2;simp only [ZvT] at hc2;simp at hc2;exact fun e=>hc2 e.symm
  rw [Yc hne] at hst
  refine Ye (Zi (Za (rZ G (qR rr (qp r1 (qO rr qZ))) V [3,2,0] [1,0] fun G=>?_)))
  replace G:=G.ent (i:=3) (s':=.pv (.int .i64 ((k+1:Nat):Int))) Z (.int (Zd ow))
  obtain ⟨F,G⟩:=G.nM [2,0,3] [1,0]
  exact ⟨(k+1),F,⟨by omega,by omega,by rw [hst,hkc,← Zp hil]⟩,G,by omega⟩
 have hg:(Zt l)=l:=by rw [show k=l.length by simp at hc1;omega,YA] at hkc;exact hkc
 refine Yx (Zj (Zj (Zo (Za (Ya (rZ G (qR rr (qO rr qZ)) V [2] [1,0] fun G=>Yh ?_))))))
 have G:=G.turn 1 Z (r':=RS.hp (Zx 42 4 Zq (Zt l) v)) (fun _ _ _ _ h=>by rw [hg];exact h)
 refine Z1 (h':=fun v=>Zx 42 4 Zq (Zt l) v) hG G Z (.tmp Z .nil) (.one .one) rfl
def ZhN:Go.Shelf.Ren:=⟨fun | 6=>173 | 15=>142 | 14=>211 | 28=>189 | 29=>190 | 20=>232 | 21=>233 | 22=>234 | 23=>235 | 24=>236 | 25=>237 | 26=>238 | 27=>239 | 46=>249 | 47=>213 | 48=>214 | 49=>250 | 50=>251 | 57=>256 | n=>n,fun | 22=>31 | 24=>42 | 25=>245 | 3=>3 | 39=>162 | 0=>0 | 53=>260 | 55=>175 | 4=>4 | 46=>253 | 45=>252 | 50=>43 | 5=>5 | 9=>9 | 66=>290 | 70=>294 | 76=>309 | 77=>107 | n=>n,fun  | n=>n⟩
theorem ZpB:Go.Proofs.SlLaysF0.n6 prog ZhN where
 mixed:=by kernel_rfl
 f6:=⟨f173.name,by kernel_rfl,func173.trans (Y8 some kr)⟩
 f14:=⟨f211.name,by kernel_rfl,func211.trans (Y8 some kr)⟩
 f15:=func142.trans (Y8 some kr)
 f20:=⟨f232.name,by kernel_rfl,func232.trans (Y8 some kr)⟩
 f21:=⟨f233.name,by kernel_rfl,func233.trans (Y8 some kr)⟩
 f22:=⟨f234.name,by kernel_rfl,func234.trans (Y8 some kr)⟩
 f23:=⟨f235.name,by kernel_rfl,func235.trans (Y8 some kr)⟩
 f24:=⟨f236.name,by kernel_rfl,func236.trans (Y8 some kr)⟩
 f25:=⟨f237.name,by kernel_rfl,func237.trans (Y8 some kr)⟩
 f26:=⟨f238.name,by kernel_rfl,func238.trans (Y8 some kr)⟩
 f27:=⟨f239.name,by kernel_rfl,func239.trans (Y8 some kr)⟩
 f28:=func189.trans (Y8 some kr)
 f29:=func190.trans (Y8 some kr)
 f46:=⟨f249.name,by kernel_rfl,func249.trans (Y8 some kr)⟩
 f47:=func213.trans (Y8 some kr)
 f48:=func214.trans (Y8 some kr)
 f49:=⟨f250.name,by kernel_rfl,func250.trans (Y8 some kr)⟩
 f50:=⟨f251.name,by kernel_rfl,func251.trans (Y8 some kr)⟩
 f57:=⟨f256.name,by kernel_rfl,func256.trans (Y8 some kr)⟩
 t0:=underlying0
 a0:=Tryz.isAgg0
 z0:=Tryz.sizeOf0
 v0:=Tryz.zeroValue0
 t3:=Ycn
 a3:=Tryz.isAgg3
 z3:=Tryz.sizeOf3
 v3:=Tryz.zeroValue3
 t4:=underlying4
 a4:=Tryz.isAgg4
 z4:=Tryz.sizeOf4
 v4:=Tryz.zeroValue4
 t5:=underlying5
 a5:=Tryz.isAgg5
 z5:=Tryz.sizeOf5
 v5:=Tryz.zeroValue5
 t9:=Ycu
 a9:=Tryz.isAgg9
 z9:=Tryz.sizeOf9
 v9:=Tryz.zeroValue9
 t22:=Ycg
 a22:=Tryz.isAgg31
 z22:=Tryz.sizeOf31
 v22:=Tryz.zeroValue31
 t25:=underlying245
 a25:=Tryz.isAgg245
 z25:=Tryz.sizeOf245
 v25:=Tryz.zeroValue245
 t39:=Ycm
 a39:=Tryz.isAgg162
 z39:=Tryz.sizeOf162
 v39:=Tryz.zeroValue162
 t45:=underlying252
 a45:=Tryz.isAgg252
 z45:=Tryz.sizeOf252
 v45:=Tryz.zeroValue252
 t46:=underlying253
 a46:=Tryz.isAgg253
 z46:=Tryz.sizeOf253
 v46:=Tryz.zeroValue253
 t50:=underlying43
 a50:=Tryz.isAgg43
 z50:=Tryz.sizeOf43
 v50:=Tryz.zeroValue43
 t53:=underlying260
 a53:=Tryz.isAgg260
 z53:=Tryz.sizeOf260
 v53:=Tryz.zeroValue260
 t55:=Ycv
 a55:=Tryz.isAgg175
 z55:=Tryz.sizeOf175
 v55:=Tryz.zeroValue175
 t66:=underlying290
 a66:=Tryz.isAgg290
 z66:=Tryz.sizeOf290
 v66:=Tryz.zeroValue290
 t70:=underlying294
 a70:=Tryz.isAgg294
 z70:=Tryz.sizeOf294
 v70:=Tryz.zeroValue294
 t76:=underlying309
 a76:=Tryz.isAgg309
 z76:=Tryz.sizeOf309
 v76:=Tryz.zeroValue309
 t77:=underlying107
 a77:=Tryz.isAgg107
 z77:=Tryz.sizeOf107
 v77:=Tryz.zeroValue107
theorem ZwG (x:Int) (w:World):Calls prog 151 #[.int .i64 x] w fun e w'=>e = .returned (.bool false)∧w' = w:=by
 go_enter func151,ntmps151
 go_wp2
 go_ret
 exact ⟨by simp,rfl⟩
theorem Zv4 (x y:Int) (w:World):Calls prog 110 #[.int .i64 x,.int .i64 y] w fun e w'=>e = .returned (.int .i64 (Zc6 x y))∧w' = w:=by
 go_enter func110,ntmps110
 go_wp2_with (go_at_call 151;refine (ZwG _ _).mono ?_;rintro e w' ⟨rfl,rfl⟩)
 all_goals (go_ret;refine ⟨?_,rfl⟩;unfold Zc6; (repeat' split) <;> first | rfl | (exfalso;omega))
theorem Zwe {a:Int} (h:(a != 0)=true):¬ a=0:=by simpa using h
theorem ZuY {a:Int} (h:(a != 0)=false):a=0:=by simpa using h
theorem ZuG {x y:Zg} (h:(Zc6 x.src y.src != 0)=true):cmpE x y=Zc6 x.src y.src:=by unfold cmpE Zfr ZgK;rw [Yc (fun e=>Zwe h (ZcP.2 e))]
theorem Zub {x y:Zg} (h0:(Zc6 x.src y.src != 0)=false) (h:(Zc6 x.kind y.kind != 0)=true):cmpE x y=Zc6 x.kind y.kind:=by unfold cmpE Zfr ZgK;rw [Yf (ZcP.1 (ZuY h0))];unfold ZgK;rw [Yc (fun e=>Zwe h (ZcP.2 e))]
theorem ZuA {x y:Zg} (h0:(Zc6 x.src y.src != 0)=false) (h1:(Zc6 x.kind y.kind != 0)=false) (h:(Zc6 x.key y.key != 0)=true):cmpE x y=Zc6 x.key y.key:=by unfold cmpE Zfr ZgK;rw [Yf (ZcP.1 (ZuY h0))];unfold ZgK;rw [Yf (ZcP.1 (ZuY h1))];unfold ZgK;rw [Yc (fun e=>Zwe h (ZcP.2 e))]
theorem Zpx {x y:Zg} (h0:(Zc6 x.src y.src != 0)=false) (h1:(Zc6 x.kind y.kind != 0)=false) (h2:(Zc6 x.key y.key != 0)=false):cmpE x y=Zc6 x.dst y.dst:=by
 unfold cmpE Zfr ZgK;rw [Yf (ZcP.1 (ZuY h0))];unfold ZgK;rw [Yf (ZcP.1 (ZuY h1))];unfold ZgK;rw [Yf (ZcP.1 (ZuY h2))];unfold ZgK
 by_cases h:x.dst=y.dst
 ·rw [Yf h,ZcP.2 h];rfl
 ·rw [Yc h]
theorem ZuW {x y:Zg} (h0:(Zc6 x.src y.src != 0)=false) (h1:(Zc6 x.kind y.kind != 0)=false) (h2:(Zc6 x.key y.key != 0)=false) (h3:(Zc6 x.dst y.dst != 0)=false):cmpE x y=0:=by rw [Zpx h0 h1 h2];exact ZuY h3
def objs4 (x y:Zg):Array Obj:=#[Obj.cells #[.int .i64 x.src,.int .i64 x.dst,.int .i64 x.kind,.int .i64 x.key] 42,Obj.cells #[.int .i64 y.src,.int .i64 y.dst,.int .i64 y.kind,.int .i64 y.key] 42,Obj.cells #[.int .i64 x.src,.int .i64 x.kind,.int .i64 x.key,.int .i64 x.dst] 289,Obj.cells #[.int .i64 y.src,.int .i64 y.kind,.int .i64 y.key,.int .i64 y.dst] 289]
theorem ZqI (x y:Zg) (w:World):Calls prog 174 #[.agg #[.int .i64 x.src,.int .i64 x.dst,.int .i64 x.kind,.int .i64 x.key],.agg #[.int .i64 y.src,.int .i64 y.dst,.int .i64 y.kind,.int .i64 y.key]] w fun e w'=>e = .returned (.int .i64 (cmpE x y)) ∧ ∃ q,w' = { w.drewN q with heap:=w.heap++objs4 x y } := by
 go_enter func174,ntmps174
 go_wp2
 have hw1:((((w.alloc (Obj.cells #[.int .i64 x.src,.int .i64 x.dst,.int .i64 x.kind,.int .i64 x.key] 42)).alloc (Obj.cells #[.int .i64 y.src,.int .i64 y.dst,.int .i64 y.kind,.int .i64 y.key] 42)).alloc (Obj.cells #[.int .i64 x.src,.int .i64 x.kind,.int .i64 x.key,.int .i64 x.dst] 289)).alloc (Obj.cells #[.int .i64 y.src,.int .i64 y.kind,.int .i64 y.key,.int .i64 y.dst] 289)) = { w with heap:=w.heap++objs4 x y } := by
  have e:∀ (w:World) (o:Obj),w.alloc o = { w with heap:=w.heap.push o } := fun _ _=>rfl
  simp only [e,objs4]
  congr 1
 rw [hw1]
 clear hw1
 have ka:∀ j v,(#[Value.int .i64 x.src,.int .i64 x.kind,.int .i64 x.key,.int .i64 x.dst])[j]? = some v→({ w with heap:=w.heap++objs4 x y } : World).cell? ⟨w.heap.size+1+1,j,none⟩ = some v:=by
  intro j v hj
  rw [ZZ (vs:=#[Value.int .i64 x.src,.int .i64 x.kind,.int .i64 x.key,.int .i64 x.dst]) (T:=289) (fr:=(0,0)) (by show (w.heap++objs4 x y)[w.heap.size+1+1]? = _;rw [Array.getElem?_append_right ow,show w.heap.size+1+1 - w.heap.size=2 by omega];rfl)]
  exact hj
 have kb:∀ j v,(#[Value.int .i64 y.src,.int .i64 y.kind,.int .i64 y.key,.int .i64 y.dst])[j]? = some v→({ w with heap:=w.heap++objs4 x y } : World).cell? ⟨w.heap.size+1+1+1,j,none⟩ = some v:=by
  intro j v hj
  rw [ZZ (vs:=#[Value.int .i64 y.src,.int .i64 y.kind,.int .i64 y.key,.int .i64 y.dst]) (T:=289) (fr:=(0,0)) (by show (w.heap++objs4 x y)[w.heap.size+1+1+1]? = _;rw [Array.getElem?_append_right ow,show w.heap.size+1+1+1 - w.heap.size=3 by omega];rfl)]
  exact hj
 have a0:({ w with heap:=w.heap++objs4 x y } : World).cell? ⟨w.heap.size+1+1,0,none⟩ = some (.int .i64 x.src):=ka 0 _ rfl
 have a1:({ w with heap:=w.heap++objs4 x y } : World).cell? ⟨w.heap.size+1+1,1,none⟩ = some (.int .i64 x.kind):=ka 1 _ rfl
 have a2:({ w with heap:=w.heap++objs4 x y } : World).cell? ⟨w.heap.size+1+1,2,none⟩ = some (.int .i64 x.key):=ka 2 _ rfl
 have a3:({ w with heap:=w.heap++objs4 x y } : World).cell? ⟨w.heap.size+1+1,3,none⟩ = some (.int .i64 x.dst):=ka 3 _ rfl
 have b0:({ w with heap:=w.heap++objs4 x y } : World).cell? ⟨w.heap.size+1+1+1,0,none⟩ = some (.int .i64 y.src):=kb 0 _ rfl
 have b1:({ w with heap:=w.heap++objs4 x y } : World).cell? ⟨w.heap.size+1+1+1,1,none⟩ = some (.int .i64 y.kind):=kb 1 _ rfl
 have b2:({ w with heap:=w.heap++objs4 x y } : World).cell? ⟨w.heap.size+1+1+1,2,none⟩ = some (.int .i64 y.key):=kb 2 _ rfl
 have b3:({ w with heap:=w.heap++objs4 x y } : World).cell? ⟨w.heap.size+1+1+1,3,none⟩ = some (.int .i64 y.dst):=kb 3 _ rfl
 clear ka kb
 have hfin:∀ q (w':World),w' = ({ w with heap:=w.heap++objs4 x y } : World).drewN q → ∃ q,w' = { w.drewN q with heap:=w.heap++objs4 x y } := fun q w' e=>⟨q,e⟩
 generalize ({ w with heap:=w.heap++objs4 x y } : World)=w1 at *
 generalize w.heap.size=n0 at *
 refine wp_loop_rounds 5 ?_
 rw [YbL]
 go_wp2
 go_quiet ((go_at_call 110;refine Calls.quiet_of_same (Zv4 _ _ _)))
 go_wp2
 ·go_ret
  exact ⟨Y8 (fun z=>Ending.returned (.int .i64 z)) (ZuG (by assumption)).symm,hfin _ _ rfl⟩
 have hfin1:∀ q (w':World),w' = (w1.drewN nq).drewN q → ∃ q,w' = { w.drewN q with heap:=w.heap++objs4 x y } := fun q w' e=>hfin (nq+q) w' (by rw [e,World.drewN_drewN])
 have a1':(w1.drewN nq).cell? ⟨n0+1+1,1,none⟩ = some (.int .i64 x.kind):=a1
 have b1':(w1.drewN nq).cell? ⟨n0+1+1+1,1,none⟩ = some (.int .i64 y.kind):=b1
 have a2':(w1.drewN nq).cell? ⟨n0+1+1,2,none⟩ = some (.int .i64 x.key):=a2
 have b2':(w1.drewN nq).cell? ⟨n0+1+1+1,2,none⟩ = some (.int .i64 y.key):=b2
 have a3':(w1.drewN nq).cell? ⟨n0+1+1,3,none⟩ = some (.int .i64 x.dst):=a3
 have b3':(w1.drewN nq).cell? ⟨n0+1+1+1,3,none⟩ = some (.int .i64 y.dst):=b3
 clear hfin a0 b0 a1 b1 a2 b2 a3 b3
 generalize w1.drewN nq=w2 at *
 rw [YbL]
 go_wp2
 go_quiet ((go_at_call 110;refine Calls.quiet_of_same (Zv4 _ _ _)))
 go_wp2
 ·go_ret
  exact ⟨Y8 (fun z=>Ending.returned (.int .i64 z)) (Zub (by assumption) (by assumption)).symm,hfin1 _ _ rfl⟩
 have hfin2:∀ q (w':World),w' = (w2.drewN nq).drewN q → ∃ q,w' = { w.drewN q with heap:=w.heap++objs4 x y } := fun q w' e=>hfin1 (nq+q) w' (by rw [e,World.drewN_drewN])
 have a2'':(w2.drewN nq).cell? ⟨n0+1+1,2,none⟩ = some (.int .i64 x.key):=a2'
 have b2'':(w2.drewN nq).cell? ⟨n0+1+1+1,2,none⟩ = some (.int .i64 y.key):=b2'
 have a3'':(w2.drewN nq).cell? ⟨n0+1+1,3,none⟩ = some (.int .i64 x.dst):=a3'
 have b3'':(w2.drewN nq).cell? ⟨n0+1+1+1,3,none⟩ = some (.int .i64 y.dst):=b3'
 clear hfin1 a1' b1' a2' b2' a3' b3'
 generalize w2.drewN nq=w3 at *
 rw [YbL]
 go_wp2
 go_quiet ((go_at_call 110;refine Calls.quiet_of_same (Zv4 _ _ _)))
 go_wp2
 ·go_ret
  exact ⟨Y8 (fun z=>Ending.returned (.int .i64 z)) (ZuA (by assumption) (by assumption) (by assumption)).symm,hfin2 _ _ rfl⟩
 have hfin3:∀ q (w':World),w' = (w3.drewN nq).drewN q → ∃ q,w' = { w.drewN q with heap:=w.heap++objs4 x y } := fun q w' e=>hfin2 (nq+q) w' (by rw [e,World.drewN_drewN])
 have a3''':(w3.drewN nq).cell? ⟨n0+1+1,3,none⟩ = some (.int .i64 x.dst):=a3''
 have b3''':(w3.drewN nq).cell? ⟨n0+1+1+1,3,none⟩ = some (.int .i64 y.dst):=b3''
 clear hfin2 a2'' b2'' a3'' b3''
 generalize w3.drewN nq=w4 at *
 rw [YbL]
 go_wp2
 go_quiet ((go_at_call 110;refine Calls.quiet_of_same (Zv4 _ _ _)))
 go_wp2
 ·go_ret
  exact ⟨Y8 (fun z=>Ending.returned (.int .i64 z)) (Zpx (by assumption) (by assumption) (by assumption)).symm,hfin3 _ _ rfl⟩
 have hfin4:∀ q (w':World),w' = (w4.drewN nq).drewN q → ∃ q,w' = { w.drewN q with heap:=w.heap++objs4 x y } := fun q w' e=>hfin3 (nq+q) w' (by rw [e,World.drewN_drewN])
 clear hfin3 a3''' b3'''
 generalize w4.drewN nq=w5 at *
 rw [YbL]
 go_wp2
 go_ret
 exact ⟨Y8 (fun z=>Ending.returned (.int .i64 z)) (ZuW (by assumption) (by assumption) (by assumption) (by assumption)).symm,hfin4 0 _ rfl⟩
def ZeZ (e:Zg):List Value:=[.int .i64 e.src,.int .i64 e.dst,.int .i64 e.kind,.int .i64 e.key]
theorem Zh2:∀ (l:List Zg) (j:Nat),(l.flatMap ZeZ)[j]? = if j<l.length*4 then some ((ZeZ l[j / 4]!)[j % 4]!) else none
 | [],j=>by simp
 | e :: l,j=>by
  rw [Y2]
  by_cases hj:j<4
  ·rw [List.getElem?_append_left (by simpa [ZeZ] using hj),Yf (by simp;omega),show j / 4=0 by omega,show j % 4=j by omega]
   match j,hj with
   | 0,_=>rfl
   | 1,_=>rfl
   | 2,_=>rfl
   | 3,_=>rfl
  ·obtain ⟨k,rfl⟩:∃ k,j=k+4:=⟨j - 4,by omega⟩
   rw [List.getElem?_append_right (by simp [ZeZ]),show k+4 - (ZeZ e).length=k by simp [ZeZ],Zh2 l k,show (k+4) / 4=k / 4+1 by omega,show (k+4) % 4=k % 4 by omega]
   by_cases h:k<l.length*4
   ·rw [Yf h,Yf (by simp;omega)];simp
   ·rw [Yc h,Yc (by simp;omega)]
theorem Zhw (l:List Zg):(Go.Sort.flatK ZeZ 4 l.toArray).toList=l.flatMap ZeZ:=by
 apply List.ext_getElem?
 intro j
 rw [Zh2]
 by_cases h:j<l.length*4
 ·rw [Yf h];simp [Go.Sort.flatK,h]
 ·rw [Yc h];simp [Go.Sort.flatK];omega
def inE (e:Zg):Prop:=inR .i64 e.src∧inR .i64 e.dst∧inR .i64 e.kind∧inR .i64 e.key
theorem ZjP {w:World} {y:Ys} : ∀ {l:List Zg} {xs:List Value},PVs (l.flatMap Zq) xs w y→xs=l.flatMap ZeZ ∧ ∀ e ∈ l,inE e
 | [],[],_=>⟨rfl,fun x hx=>by cases hx⟩
 | [],_ :: _,h=>h.elim
 | e :: l,[],h=>h.elim
 | e :: l,[_],h=>h.2.elim
 | e :: l,[_,_],h=>h.2.2.elim
 | e :: l,[_,_,_],h=>h.2.2.2.elim
 | e :: l,a :: b :: c :: d :: xs,h=>by
  have h1:a = .int .i64 e.src∧inR .i64 e.src:=h.1.2
  have h2:b = .int .i64 e.dst∧inR .i64 e.dst:=h.2.1.2
  have h3:c = .int .i64 e.kind∧inR .i64 e.kind:=h.2.2.1.2
  have h4:d = .int .i64 e.key∧inR .i64 e.key:=h.2.2.2.1.2
  obtain ⟨h5,h6⟩:=ZjP (l:=l) (xs:=xs) h.2.2.2.2
  exact ⟨by rw [h1.1,h2.1,h3.1,h4.1,h5];rfl,fun z hz=>by rcases Yj.1 hz with rfl | hz;exact ⟨h1.2,h2.2,h3.2,h4.2⟩;exact h6 z hz⟩
theorem Ze1 {w:World} {y:Ys} : ∀ {l:List Zg},(∀ e ∈ l,inE e)→PVs (l.flatMap Zq) (l.flatMap ZeZ) w y
 | [],_=>trivial
 | e :: l,h=>by
  have h1:=h e (by simp)
  exact ⟨⟨rfl,rfl,h1.1⟩,⟨rfl,rfl,h1.2.1⟩,⟨rfl,rfl,h1.2.2.1⟩,⟨rfl,rfl,h1.2.2.2⟩,Ze1 fun z hz=>h z (by simp [hz])⟩
theorem swoE:Go.Sort.SWO (Go.Proofs.ltOf cmpE) where
 irrefl x:=Zbu.irr x
 trans x y z h1 h2:=Zbu.tr x y z h1 h2
 ntrans x y z h1 h2:=by
  have h1:ltE x y=false:=h1
  have h2:ltE y z=false:=h2
  show ltE x z=false
  rw [ZkJ] at *
  omega
theorem ZjE {w:World} {g n:Nat} {d:List Value} {os:Array Obj} {cur:Array Value} {e:TypeId} (hg:w.heap[g]? = some (.cells cur e (0,0))) (b:Nat) (hb:b<w.heap.size) :
  (Go.Sort.grow (Go.Sort.putRow id (Go.Sort.ahead w n) g 0 d.toArray) os).heap[b]? = if b=g then some (.cells (Go.Sort.putCells id 0 d.toArray cur) e (0,0)) else w.heap[b]?:=by
 unfold Go.Sort.grow Go.Sort.putRow Go.Sort.mapBlock Go.Sort.ahead
 simp only
 rw [Array.getElem?_append_left (by simpa using hb),Array.getElem?_modify]
 by_cases h:g=b
 ·subst h
  rw [Yf rfl,Yf rfl,hg];rfl
 ·rw [Yc h,Yc (fun e=>h e.symm)]
theorem Zok {cur:Array Value} {d:List Value} (h:d.length≤cur.size):(Go.Sort.putCells id 0 d.toArray cur).toList.take d.length=d:=by
 apply Ya9
 ·simp [Go.Sort.putCells];omega
 ·intro i h1 h2
  have hi:i<d.length:=h2
  simp [Go.Sort.putCells,hi]
theorem sortE_cmp (g n:Nat) (w:World):Go.Proofs.CmpLays prog 174 #[] ZeZ 4 cmpE g 0 n w:=fun _ _ _ _ x y=>
 (ZqI x y _).mono fun _ _ ⟨he,q,hq⟩=>⟨he,q,objs4 x y,hq⟩
theorem ZtK (v:Value) (l:List Zg) (hlm:l.length≤1000000):FnG prog 173 1 [.is v,.is (.func (.func 174) #[] #[])] [Zx 42 4 Zq l v] (.tup []) (fun _=>[Zx 42 4 Zq (ZcR l) v]):=by
 by_cases hl0:l = []
 ·subst hl0
  have h:=ZmB v [] (by simp) (fun j _ h1=>absurd h1 (by simp))
  have e:ZcR [] = []:=by simp [ZcR]
  rw [e];exact h
 ·exact fun w F vs hw hle hvs hpr=>by
   match vs,hvs with
   | [u,fv],hvs=>
    have hu:u=v:=hvs.1.1
    have hfv:fv = .func (.func 174) #[] #[]:=hvs.2.1.1
    subst hu
    subst hfv
    obtain ⟨xs,⟨hxl,hx⟩,hp,hf⟩:=hpr 0 _ rfl
    rcases hx with ⟨rfl,h0⟩ | ⟨g,cap,cur,rfl,_,hg,hn,hcap,hcs,hct⟩
    ·exact absurd (YP h0) hl0
    ·have hgs:g<w.heap.size:=(YY.1 hg).1
     obtain ⟨hxe,hin⟩:=ZjP hp
     have hcl:l.length*4≤cur.size:=by rw [hcs];exact YI _ hn
     have hbig:l.toArray.size<4611686018427387904:=by simp;omega
     have hcur:∀ j,j<l.length*4→cur[j]? = (l.flatMap ZeZ)[j]?:=fun j hj=>by
      have h1:(cur.toList.take (l.length*4))[j]? = (l.flatMap ZeZ)[j]?:=by rw [hct,hxe]
      rw [YbC hj] at h1
      simpa using h1
     have hH:Go.Sort.HoldsK ZeZ 4 w g 0 l.toArray:=fun j hj=>by
      have hj':j<l.length*4:=by simpa using hj
      refine ⟨?_,?_⟩
      ·rw [Y7,ZZ hg,hcur j hj',Zh2,Yf hj',Go.Sort.get_flatK _ _ _ _ (by simpa using hj')]
       simp
      ·simp [World.frozen?,hg]
     have eg:∀ args w,(callFunc 174 args).run prog w = .ok (.enter 174 args) w:=enters_of func174 kr rfl
     have hcalls:Calls prog 173 #[.slice (some ⟨g,0,none⟩) l.toArray.size cap,.func (.func 174) #[] #[]] w fun e w'=>e = .returned (.tuple #[]) ∧ ∃ d' n os,Go.Sort.PermIn 0 l.toArray.size l.toArray d' ∧ Go.Sort.SortedIn (Go.Proofs.ltOf cmpE) 0 l.toArray.size d' ∧ w' = Go.Proofs.sortWorldK ZeZ 4 w g 0 n d' os:=
      Go.Proofs.AnyQ.slices_SortFunc ZpB 4 Tryz.isAgg42 Tryz.sizeOf42 ZeZ (fun _=>rfl) (fun x v hv=>by simp [ZeZ] at hv;rcases hv with rfl | rfl | rfl | rfl <;> rfl) cmpE swoE 174 #[] g 0 cap l.toArray w eg (sortE_cmp g _ w) hH hgs hbig
     refine hcalls.mono ?_
     rintro e w' ⟨rfl,d',n,os,hperm,hsrt,rfl⟩
     have hd:d'.toList=ZcR l:=Go.Sort.sorted_unique_holds swoE (fun x y h1 h2=>Zbu.tot x y h1 h2) l.toArray d' hperm hsrt
     have hd2:d' = (ZcR l).toArray:=by rw [← hd]
     subst hd2
     have hsl:(ZcR l).length=l.length:=ZjR l
     have hfl:(Go.Sort.flatK ZeZ 4 (ZcR l).toArray)=((ZcR l).flatMap ZeZ).toArray:=by rw [← Zhw]
     have hfn:((ZcR l).flatMap ZeZ).length=l.length*4:=by
      have h2:=Y8 List.length (Zhw (ZcR l))
      rw [← h2,Array.length_toList,Go.Sort.size_flatK,YaE,hsl]
     have hW:Go.Proofs.sortWorldK ZeZ 4 w g 0 n (ZcR l).toArray os=Go.Sort.grow (Go.Sort.putRow id (Go.Sort.ahead w n) g 0 ((ZcR l).flatMap ZeZ).toArray) os:=by
      unfold Go.Proofs.sortWorldK Go.Sort.putRowK
      rw [hfl]
     rw [hW]
     have hheap:=fun b hb=>ZjE (n:=n) (d:=(ZcR l).flatMap ZeZ) (os:=os) hg b hb
     have hsz:(Go.Sort.grow (Go.Sort.putRow id (Go.Sort.ahead w n) g 0 ((ZcR l).flatMap ZeZ).toArray) os).heap.size=w.heap.size+os.size:=by simp [Go.Sort.ahead]
     have hfg:F 1 g:=(hf g).2 rfl
     have hst:Stp (List.range' 1 1) w F (Go.Sort.grow (Go.Sort.putRow id (Go.Sort.ahead w n) g 0 ((ZcR l).flatMap ZeZ).toArray) os) F:=
      ⟨rfl,rfl,rfl,by rw [hsz];omega,fun b hb hn=>by
       rw [hheap b hb,Yc (fun e=>by subst e;exact hn 1 (by simp) hfg)],fun _ _=>rfl,fun n hn b hb=>.inl ⟨n,hn,hb⟩⟩
     refine ⟨.tuple #[],F,rfl,⟨hw.dis,fun n b hb=>by rw [hsz];have:=hw.bd n b hb;omega⟩,hst,hle,⟨[],rfl,tv⟩,fun i h hi=>?_⟩
     match i,hi with
     | 0,hi=>
      simp only [YbH,Y9] at hi
      subst hi
      refine ⟨(ZcR l).flatMap ZeZ,⟨by rw [hfn,hsl],.inr ⟨g,cap,_,by rw [hsl],Yw _,(hheap g hgs).trans (Yf Z),by rw [hsl];exact hn,hcap,by simp [Go.Sort.putCells,hcs],?_⟩⟩,Ze1 fun x hx=>hin x ((YaY l _).mem_iff.1 hx),hf⟩
      rw [hsl,← hfn];exact Zok (by rw [hfn];exact hcl)
theorem ZrF (l:List Zg) (hl:l.length≤1000000):FnP prog 132 [.sl Zq l] (.sl Zq (ZbJ ltE l)):=by
 refine FnP.mk func132 Z ntmps132 Z fun B a w F V hfr G=>?_
 have hll:=Sat.lenSl G (i:=0) rfl
 refine Ya (rZ G (qC qZ) V [2,0] [0] fun G=>Ya ?_)
 replace G:=G.fresh 101 rfl
 refine Zb G (qR rr (qf (Zap 101 (Zn8 l ow) func124 Z kr (Args.one .t) pvOne1) r1 r1 (qO rr qZ))) V [3,2] [101,0] (fun _=>rfl) (fun _=>rfl) fun τ a w F G=>?_
 try dsimp only [RS.sub,SF.sub,CF.sub,csub,Anc.sub,List.map,Zq] at G
 generalize τ 5=v5 at G
 refine Za (Ya (rZ G (qR rr (qf (Zbm 101 (ZtK _ l ow) func173 Z kr (Args.two .t .f)) r1 r1 qZ)) V [3,2] [101,0] fun G=>Ya ?_))
 refine Zb G (qR rr (qf (o_callRowN 101 (ZkU _ _ (by rw [ZjR];omega)) func175 Z kr (Args.one .t) pvOne1) r1 r1 (qO rr qZ))) V [2] [101,0] (fun _=>rfl) (fun _=>rfl) fun τ a w F G=>?_
 try dsimp only [RS.sub,SF.sub,CF.sub,csub,Anc.sub,List.map,Zq] at G
 generalize τ 9=v9 at G
 refine Za (Yh ?_)
 obtain ⟨F,G⟩:=G.give 101 2 Z rfl
 refine Zs hfr G Z Z Z (.sl (ZmG l))
theorem Zhb {α:Type} {lt:α→α→Bool} (h:STO lt):∀ {l m:List α},ZnE lt l→ZnE lt m→(∀ x,x ∈ l ↔ x ∈ m)→l=m
 | [],[],_,_,_=>rfl
 | [],y :: m,_,_,he=>by have:=(he y).2 (by simp);cases this
 | x :: l,[],_,_,he=>by have:=(he x).1 (by simp);cases this
 | x :: l,y :: m,hl,hm,he=>by
  obtain ⟨h1,h2⟩:=Yo.1 hl
  obtain ⟨h3,h4⟩:=Yo.1 hm
  have hxy:x=y:=by
   rcases Yj.1 ((he x).1 (by simp)) with e | hx
   ·exact e
   ·rcases Yj.1 ((he y).2 (by simp)) with e | hy
    ·exact e.symm
    ·have a1:=h1 y hy
     have a2:=h3 x hx
     have a3:=h.tr x y x a1 a2
     rw [h.irr x] at a3;cases a3
  subst hxy
  congr 1
  refine Zhb h h2 h4 fun z=>⟨fun hz=>?_,fun hz=>?_⟩
  ·rcases Yj.1 ((he z).1 (YC _ hz)) with e | h9
   ·subst e
    have:=h1 z hz
    rw [h.irr z] at this;cases this
   ·exact h9
  ·rcases Yj.1 ((he z).2 (YC _ hz)) with e | h9
   ·subst e
    have:=h3 z hz
    rw [h.irr z] at this;cases this
   ·exact h9
theorem Zkn {l m:List Zg} (he:∀ x,x ∈ l ↔ x ∈ m):ZbJ ltE l=ZbJ ltE m:=
 Zhb Zbu (Zbn Zbu l).1 (Zbn Zbu m).1 fun x=>by rw [(Zbn Zbu l).2,(Zbn Zbu m).2,he x]
structure HvD where
 edge:Zg
 cnt:Int
 deriving DecidableEq,Inhabited
def rHv (x:HvD):List PV:=[.int .i64 x.edge.src,.int .i64 x.edge.dst,.int .i64 x.edge.kind,.int .i64 x.edge.key,.int .i64 x.cnt]
def cntA (A:List (Zg×Int)) (R:List Zg) (e:Zg):Int:=ZnI A e+(R.count e:Int)
def ZgM (A:List (Zg×Int)) (R:List Zg):List Zg:=A.map Prod.fst++R
def ZfW (A:List (Zg×Int)) (R:List Zg):List HvD:=(ZbJ ltE (ZgM A R)).map fun e=>⟨e,cntA A R e⟩
theorem Zf0 {es:List (GE Zg Int)} {A:List (Zg×Int)} {R ks:List Zg} (hE:Zha es A R) (hk:ks.Perm (es.map (·.key))):ZbJ ltE ks=ZbJ ltE (ZgM A R):=Zkn fun x=>by
 unfold ZgM
 rw [hk.mem_iff,YB,← hE.key x,Zfo]
theorem Zhy {A:List (Zg×Int)} {R:List Zg} : (ZfW A R).length=(ZbJ ltE (ZgM A R)).length:=YH _
theorem Zt8 {l:List TxD} {id:Int} : (Z3 l id).isSome=isK TxD.id id l:=by
 unfold Z3 isK
 rw [Yai,List.find?_isSome,YaD]
theorem Zrx {g:Zr} (h:ZS g):NE g.orders:=fun o ho=>by
 have h2:=(Zdr g).2 h.2.2
 obtain ⟨j,hj,e⟩:=Yae ho
 have:=(h2.2 j hj).2.1
 rwa [nth_eq hj,e] at this
theorem Zwn {g:Zr} {id:Int} (h:¬ ZS g):Z5 g id=(Zb8,5):=Yf h
theorem Zwl {g:Zr} {id:Int} (h:ZS g) (h2:isK TxD.id id g.txs=false):Z5 g id=(Zb8,3):=by unfold Z5;rw [Yc (YaO.2 h),Yf h2]
theorem Zwu {g:Zr} {id:Int} (h:ZS g) (h2:isK TxD.id id g.txs=true) (h3:ZgO g (Zce id)=true):Z5 g id=(Zb8,7):=by unfold Z5;rw [Yc (YaO.2 h),Yc (by simp [h2]),Yf h3]
structure EdD where
 kind:Int
 t:TxD
 o:OrdD
 place:Int
 deriving DecidableEq,Inhabited
def doH (g:Zr) (e:EdD):Zr×Int:=if e.kind=0 then Zpg g e.t else if e.kind=1 then Z5 g e.t.id else if e.kind=2 then Ztk g e.t else if e.kind=3 then Zrf g e.o else if e.kind=4 then Zwa g e.o.key e.t.id e.place else (Zb8,5)
def ZlM (e:EdD):Prop:=e.t.ops.length≤24∧e.o.txs.length≤24
instance (e:EdD):Decidable (ZlM e):=by unfold ZlM;exact inferInstance
def ZsV (l:List EdD):Prop:=l.length≤24 ∧ ∀ e ∈ l,ZlM e
instance (l:List EdD):Decidable (ZsV l):=by unfold ZsV;exact inferInstance
theorem Zg8 {os:List OrdD} {k:Int} : (Z2 (fun o:OrdD=>decide (o.key=k)) os<0→getO os k = [])∧(¬ Z2 (fun o:OrdD=>decide (o.key=k)) os<0 → ∃ i:Nat,Z2 (fun o:OrdD=>decide (o.key=k)) os=i∧i<os.length∧getO os k=(Nn os i).txs):=by
 rcases Zaw (fun o:OrdD=>decide (o.key=k)) os with ⟨h1,h2⟩ | ⟨i,h1,h2,h3,h4⟩
 ·exact ⟨fun _=>Zu0 fun q hq=>by simpa using h2 q hq,fun h=>absurd (by rw [h1];decide) h⟩
 ·exact ⟨fun h=>by rw [h1] at h;omega,fun _=>⟨i,h1,h2,Ztq h2 (by simpa using h3) fun q hq=>by simpa using h4 q hq⟩⟩
def Fit (n:Nat) (g:Zr):Prop:=(g.txs.length≤n ∧ ∀ t ∈ g.txs,t.ops.length≤24)∧g.orders.length≤24*n ∧ ∀ o ∈ g.orders,o.txs.length≤n
theorem Fit.small {n:Nat} {g:Zr} (h:Fit n g) (hn:n≤30):Za9 g:=by
 obtain ⟨⟨h1,h2⟩,h3,h4⟩:=h
 exact ⟨⟨by omega,fun t ht=>by have:=h2 t ht;omega⟩,by omega,fun o ho=>by have:=h4 o ho;omega⟩
theorem Fit.zero:Fit 0 Zb8:=⟨⟨by simp [Zb8],fun t ht=>by cases ht⟩,by simp [Zb8],fun o ho=>by cases ho⟩
theorem Fit.up {n:Nat} {g:Zr} (h:Fit n g):Fit (n+1) g:=⟨⟨by have:=h.1.1;omega,h.1.2⟩,by have:=h.2.1;omega,fun o ho=>by have:=h.2.2 o ho;omega⟩
theorem Fit.none {n:Nat} : Fit n Zb8:=by
 induction n with
 | zero=>exact Fit.zero
 | succ n ih=>exact ih.up
theorem Zqb {os:List OrdD} {ks:List Int} {t:TxD} {o:OrdD} (h:o ∈ ZdF t os ks):o ∈ os∨o.txs = []:=by
 unfold ZdF at h
 split at h
 ·have key:∀ (ks:List Int) (os:List OrdD),o ∈ ks.foldl Ze9 os→o ∈ os∨o.txs = []:=by
   intro ks
   induction ks with
   | nil=>intro os h;exact .inl h
   | cons k ks ih=>
    intro os h
    rcases ih _ h with h | h
    ·rcases ZlL h with h | h
     ·exact .inl h
     ·exact .inr (by rw [h])
    ·exact .inr h
  exact key ks os h
 ·exact .inl h
theorem ZnA {n:Nat} {t:TxD} {os:List OrdD} (ht:t.ops.length≤24) (h1:os.length≤24*n) (h2:∀ o ∈ os,o.txs.length≤n):(settleO t os).length≤24*(n+1) ∧ ∀ o ∈ settleO t os,o.txs.length≤n+1:=by
 have hk:=Zen t
 have hl:(ZdF t os (Z6 t)).length≤os.length+(Z6 t).length:=by
  unfold ZdF
  split
  ·have key:∀ (ks:List Int) (os:List OrdD),(ks.foldl Ze9 os).length≤os.length+ks.length:=by
    intro ks
    induction ks with
    | nil=>intro os;simp
    | cons k ks ih=>intro os;have h1:=ih (Ze9 os k);have h2:=Zl2 os k;rw [Yao,Yl];omega
   exact key _ _
  ·omega
 unfold settleO
 refine ⟨Y4 (Yaa _ _) (by rw [YH];omega),fun o ho=>?_⟩
 obtain ⟨o',ho',e⟩:=Yu.1 (YU.1 ho).1
 have hlen:o'.txs.length≤n:=by
  rcases Zqb ho' with h | h
  ·exact h2 o' h
  ·rw [h];simp
 rw [← e]
 unfold Zkl
 show (if _ then _ else _:List Int).length≤_
 split
 ·unfold withO;split
  ·omega
  ·simp;omega
 ·unfold withoutO
  exact Y4 (Yaa _ _) ow
theorem Zhs {n:Nat} {g:Zr} {key:Int} {rule:List Int→List Int×Int} (hr:∀ l,(rule l).2=0→(rule l).1.length≤l.length) (h:Fit n g):Fit n (Zix g key rule).1:=by
 unfold Zix
 split
 ·exact Fit.none
 ·split
  ·exact Fit.none
  ·split
   ·exact Fit.none
   ·rename_i h1 h2 h3
    refine ⟨h.1,by show (List.set _ _ _).length≤_;rw [YK];exact h.2.1,fun o ho=>?_⟩
    rcases List.mem_or_eq_of_mem_set ho with h4 | h4
    ·exact h.2.2 o h4
    ·have hk:isK OrdD.key key g.orders=true:=by simpa using h2
     have hlt:=(Zob (Zas (YaO.1 h1)).2 hk).1
     have:=hr _ (YaO.1 h3)
     have:=h.2.2 _ (nth_mem hlt)
     rw [h4];show (rule _).1.length≤n;omega
theorem Fit.doH {n:Nat} {g:Zr} {e:EdD} (h:Fit n g) (he:ZlM e):Fit (n+1) (doH g e).1:=by
 have hset:∀ t:TxD,t.ops.length≤24 → ∀ txs:List TxD,txs.length≤n+1→(∀ t ∈ txs,t.ops.length≤24)→Fit (n+1) ⟨txs,settleO t g.orders⟩:=fun t ht txs h1 h2=>by
  obtain ⟨h3,h4⟩:=ZnA ht h.2.1 h.2.2
  exact ⟨⟨h1,h2⟩,h3,h4⟩
 unfold Go.Proofs.YtlkpllemoepamaaGreat.doH
 split
 ·unfold Zpg
  split
  ·exact Fit.none
  ·split
   ·exact Fit.none
   ·refine hset _ he.1 _ ?_ fun t ht=>?_
    ·have:=h.1.1;rw [Yd,Yd,Yi,YE];simp;omega
    ·rw [YB,YB] at ht
     rcases ht with (ht | ht) | ht
     ·exact h.1.2 t (Yay ht)
     ·rw [Yk.1 ht];exact he.1
     ·exact h.1.2 t (Ybh ht)
 ·split
  ·unfold Z5
   split
   ·exact Fit.none
   ·split
    ·exact Fit.none
    ·split
     ·exact Fit.none
     ·refine hset _ (by simp [Zce]) _ ?_ fun t ht=>?_
      ·have:=h.1.1;rw [Yd,Yi,YE];omega
      ·rw [YB] at ht
       rcases ht with ht | ht
       ·exact h.1.2 t (Yay ht)
       ·exact h.1.2 t (Ybh ht)
  ·split
   ·unfold Ztk
    split
    ·exact Fit.none
    ·split
     ·exact Fit.none
     ·refine hset _ he.1 _ ?_ fun t ht=>?_
      ·have:=h.1.1;rw [YK];omega
      ·rcases List.mem_or_eq_of_mem_set ht with ht | ht
       ·exact h.1.2 t ht
       ·rw [ht];exact he.1
   ·split
    ·refine (Zhs (fun l h0=>?_) h).up
     unfold Zve at h0 ⊢
     split at h0
     ·rename_i hp;rw [Yf hp,hp.length_eq];exact YM _
     ·simp at h0
    ·split
     ·exact (Zhs (fun l h0=>by show (Zsm l _ _).1.length≤_;exact Zpk _ _ _) h).up
     ·exact Fit.none
theorem Zsw (o:OrdD) (key:Int):FnP prog 41 [.agg (ZH o),.ref [.int .i64 key]] (.bool (decide (o.key=key))):=by
 refine FnP.mk func41 Z ntmps41 Z fun B a w F V hfr G=>Ya ?_
 refine Zb G (qx 101 r1 qB) V [3,2,1] [101,0] (fun _=>rfl) (fun _=>rfl) fun τ a w F G=>?_
 try dsimp only [RS.sub,SF.sub,CF.sub,csub,Anc.sub,List.map,zCF,Zv,rTx,ZH,ZU,Zn,rOp] at G
 generalize τ 2=v2 at G
 refine Za (Ya (rZ G (qg 0 101 r1 r1 (qa 101 r1 r1 (qf (oR false 1 .t) r1 qz (qf (o_eql .t .t) r2 qz (qO rr qZ))))) V [3] [101,0] fun G=>Yh ?_))
 refine Zs hfr G Z Z Z .refl
theorem Zrh (g:Zr) (key:Int) (hs:Zdx g.orders):FnP prog 16 [.agg (Zv g),.int .i64 key] (.sl Zn (getO g.orders key)):=by
 refine FnP.mk func16 Z ntmps16 Z fun B a w F V hfr G=>?_
 have hso:=hs.1
 refine Ya (Zb G (qx 101 r1 (qf (Zfv 102 .t one_int) r1 qz (qC qZ))) V [4,3,2] [102,101,0] (fun _=>rfl) (fun _=>rfl) fun τ a w F G=>?_)
 try dsimp only [RS.sub,SF.sub,CF.sub,csub,Anc.sub,List.map,zCF,Zv,rTx,ZH,ZU,Zn,rOp] at G
 generalize τ 2=v2,τ 3=v3 at G
 refine Za (Ya (Zao 2 G kr (cG Z (oF 1 101 .is) r1 r1 (cG Z (oL false 1 101 .adr) r1 r1 ChainN.nil)) kr (by rw [V];kernel_rfl) fun a w F G=>?_))
 obtain ⟨F,G⟩:=G.nM [7,4,3,2] [102,101,0]
 try dsimp only [List.map,xD,xE,xT,xU,ldSF,Zv,rTx,ZH,ZU,Zn,rOp] at G
 obtain ⟨F,G⟩:=G.giveRef 102 3 Z Z rfl
 obtain ⟨F,G⟩:=G.nM [7,4,3,2] [101,0]
 try dsimp only [Go.Gm.unCF] at G
 refine ZaE G kr (cG Z (ZaO (Args.one .t)) r1 trivial (cG Z (oP (Zoe g.orders (fun o=>decide (o.key=key)) 41 f41 [.ref [.int .i64 key]] func41 Z kr (fun o=>Zsw o key)) func40 (Args.two .t .t)) r2 trivial (cG Z (oN .t) r1 trivial ChainN.nil))) kr (by rw [V];kernel_rfl) fun a w F G=>?_
 obtain ⟨F,G⟩:=G.nM [5,4,2] [101,0]
 try dsimp only [Zv,rTx,ZH,ZU,Zn,rOp] at G
 refine Za (Ya (Ya (rZ G (qR rr (qf (ZaA .t qi) r1 qz qZ)) V [11,5,4,2] [101,0] fun G=>?_)))
 refine Zc G Z (fun hc0=>?_) (fun hc0=>?_)
 ·have hg:[] = getO g.orders key:=(Zg8.1 (by simpa using hc0)).symm
  refine Ya (rZ G (qC qZ) V [5,4,2] [101,0] fun G=>(Yh (Zl ?_)))
  refine Zs hfr G Z Z Z (by first | exact .sl hg | (rw [← hg];exact .nilSl))
 obtain ⟨fi,hfi,hfl,hfg⟩:=Zg8.2 (show ¬ Z2 (fun o:OrdD=>decide (o.key=key)) g.orders<0 by simpa using hc0)
 have hg:(Nn g.orders (Z2 (fun o:OrdD=>decide (o.key=key)) g.orders).toNat).txs=getO g.orders key:=by rw [hfi,Yb,hfg]
 refine Ye (Za (Ya (Ze G (qg 1 101 r1 r1 (qa 101 r1 r1 (qR rr (qf (o_indexAddr_sl (sz:=2) (.mk Ych kr) (by intro x;rfl) .t .t (by rw [hfi];omega) (by rw [hfi];omega)) r2 qz (qf (oG 1 .t) r1 qz (qf (oR false 1 .t) r1 qz (qf (oP (cloneIP_c _ (by rw [hfi,Yb];have:=hs.at hfl;omega)) func42 (Args.one .t)) r1 qz (qO rr qZ)))))))) V [4] [101,0] Z Z fun a w F G=>?_)))
 try simp only [Yb] at G
 refine Za (Yh (Zs hfr G Z Z Z (by first | exact .sl hg | (rw [← hg];exact .nilSl))))
instance (l:List TxD):Decidable (ZaX l):=by unfold ZaX;exact inferInstance
instance (l:List OrdD):Decidable (Zdx l):=by unfold Zdx;exact inferInstance
instance (g:Zr):Decidable (Za9 g):=by unfold Za9;exact inferInstance
theorem ZbH {l:List TxD} {k x:Int} : x ∈ Z4 l k ↔ ∃ t ∈ l,t.id=x∧t.done=true∧0<wcnt t.ops k:=by
 unfold Z4
 rw [Yu]
 constructor
 ·rintro ⟨t,ht,e⟩
  rw [YU] at ht
  simp at ht
  exact ⟨t,ht.1,e,ht.2.1,ht.2.2⟩
 ·rintro ⟨t,ht,e,h1,h2⟩
  exact ⟨t,by rw [YU];simp [ht,h1,h2],e⟩
theorem ZcE {l:List TxD} (h:ZcK TxD.id l) (k:Int):(Z4 l k).Nodup:=by
 unfold Z4
 have h1:(l.map TxD.id).Nodup:=(Ya0.2 (ZT.1 h)).imp fun h=>Int.ne_of_lt h
 exact (h1.sublist ((List.filter_sublist).map _))
theorem Zdo {l:List TxD} (h:ZcK TxD.id l) {t:TxD} (ht:t ∈ l):Z3 l t.id=some t:=by
 have h:=ZT.1 h
 induction l with
 | nil=>cases ht
 | cons x l ih=>
  rw [Yo] at h
  unfold Z3
  rw [Yb7]
  rcases Yj.1 ht with rfl | ht
  ·simp
  ·have:=h.1 t ht
   rw [show decide (x.id=t.id)=false by simp;omega]
   exact ih (ZT.2 h.2) ht h.2
theorem ZsJ {l:List TxD} {id:Int} (h:∀ t ∈ l,t.id≠id):Z3 l id=none:=by
 unfold Z3
 exact Ybx.2 fun t ht=>by simpa using h t ht
theorem ZbQ {g:Zr} : ZS g ↔ g.txs.length≤4096∧ZcK TxD.id g.txs∧(∀ t ∈ g.txs,Za5 t=0∧ZfJ g t=true)∧ZcK OrdD.key g.orders∧NE g.orders ∧ ∀ k,(getO g.orders k).Perm (Z4 g.txs k):=by
 constructor
 ·intro h
  obtain ⟨r1',r2'⟩:=Zas h
  have hne:=Zrx h
  have h2:=(Zdr g).2 h.2.2
  refine ⟨h.1,r1',fun t ht=>?_,r2',hne,fun k=>?_⟩
  ·obtain ⟨j,hj,e⟩:=Yae ht
   have:=(h.2.1 j hj).2
   rwa [nth_eq hj,e] at this
  ·by_cases hk:getO g.orders k = []
   ·rw [hk]
    have hw:Z4 g.txs k = []:=by
     refine Decidable.byContradiction fun hw=>?_
     obtain ⟨j,hj,e⟩:=Yae (ZcY.2 hw)
     have hjo:j<g.orders.length:=by rw [h.2.2.1];exact hj
     have h3:=(h.2.2.2 j hjo).1
     rw [nth_eq hj,e] at h3
     have h4:=Zed (ZT.1 r2') (nth_mem hjo)
     rw [h3,hk] at h4
     exact hne _ (nth_mem hjo) h4.symm
    rw [hw]
   ·have hm:=ZhY hk
    obtain ⟨j,hj,e⟩:=Yae hm
    have:=(h2.2 j hj).2.2
    rw [nth_eq hj,e] at this
    exact this
 ·rintro ⟨h1,h2,h3,h4,h5,h6⟩
  have hk:g.orders.map OrdD.key=ZcD g.txs:=by
   refine Zey (Ya0.2 (ZT.1 h4)) (ZW _).1 fun k=>?_
   rw [ZcY,Yu]
   constructor
   ·rintro ⟨o,ho,rfl⟩ e
    have:=h6 o.key
    rw [e,Zed (ZT.1 h4) ho] at this
    exact h5 o ho this.eq_nil
   ·intro e
    have:getO g.orders k≠[]:=fun e2=>by
     have:=h6 k
     rw [e2] at this
     exact e this.symm.eq_nil
    exact ⟨_,ZhY this,rfl⟩
  have hlen:g.orders.length=(ZcD g.txs).length:=by rw [← hk,YH]
  refine ⟨h1,fun i hi=>?_,(Zdr g).1 ⟨hlen,fun i hi=>?_⟩⟩
  ·obtain ⟨g1,g2⟩:=h3 _ (nth_mem hi)
   exact ⟨fun h0=>h2 (i - 1) i ow hi,g1,g2⟩
  ·refine ⟨fun h0=>h4 (i - 1) i ow hi,h5 _ (nth_mem hi),?_⟩
   have:=h6 (Nn g.orders i).key
   rwa [Zed (ZT.1 h4) (nth_mem hi)] at this
theorem ZnP {t:TxD} {l:List Int} {k x:Int} : x ∈ ZhJ t l k ↔ (x ∈ l∧x≠t.id)∨(x=t.id∧t.done=true∧0<wcnt t.ops k):=by
 unfold ZhJ
 by_cases h:t.done=true∧0<wcnt t.ops k
 ·rw [Yf h]
  unfold withO
  split
  ·rename_i hi
   constructor
   ·intro hx
    by_cases e:x=t.id
    ·exact .inr ⟨e,h⟩
    ·exact .inl ⟨hx,e⟩
   ·rintro (⟨hx,_⟩ | ⟨rfl,_⟩)
    ·exact hx
    ·exact hi
  ·rename_i hi
   rw [YB,Yk]
   constructor
   ·rintro (hx | hx)
    ·exact .inl ⟨hx,fun e=>hi (e ▸ hx)⟩
    ·exact .inr ⟨hx,h⟩
   ·rintro (⟨hx,_⟩ | ⟨e,_⟩)
    ·exact .inl hx
    ·exact .inr e
 ·rw [Yc h]
  unfold withoutO
  rw [YU,Yq]
  exact ⟨fun h1=>.inl h1,fun h1=>h1.elim id fun h2=>absurd h2.2 h⟩
theorem Zkv {t:TxD} {l:List Int} (h:l.Nodup) (k:Int):(ZhJ t l k).Nodup:=by
 unfold ZhJ
 split
 ·unfold withO
  split
  ·exact h
  ·rename_i hi
   rw [YbD]
   exact ⟨h,by simp,fun a ha b hb=>by rw [Yk] at hb;subst hb;exact fun e=>hi (e ▸ ha)⟩
 ·exact h.filter _
theorem Zm1 {g:Zr} {t:TxD} {b:Bool} {l:List TxD} (hR:ZS g) (hs:Zdx g.orders) (hr:ZcK TxD.id l) (hl:l.length≤4096) (hM:∀ s,s ∈ l ↔ (s ∈ g.txs∧s.id≠t.id)∨(s=t∧b=true))
  (ht:b=true→Za5 t=0∧ZfJ g t=true) (hb:b=false→t.done=false)
  (hu:∀ x ∈ l,∀ v ∈ Zbl x,v.tx=t.id→Zkd g v=true→¬ (v.tx=0∧v.nth=0)→b=true∧v.nth≤(wcnt t.ops v.key:Int)):ZS ⟨l,settleO t g.orders⟩:=by
 obtain ⟨h1,h2,h3,h4,h5,h6⟩:=ZbQ.1 hR
 obtain ⟨s1,s2⟩:=Zkm (t:=t) h4 hs
 have hhas:∀ x ∈ l,∀ v ∈ Zbl x,Zkd g v=true→Zkd ⟨l,settleO t g.orders⟩ v=true:=by
  intro x hx v hv hg
  by_cases hz:v.tx=0∧v.nth=0
  ·unfold Zkd at hg ⊢
   rw [Yf hz] at hg ⊢
   exact hg
  ·have hu2:=hu x hx v hv
   unfold Zkd at hg hu2 ⊢
   rw [Yc hz] at hg hu2 ⊢
   by_cases e:v.tx=t.id
   ·obtain ⟨b1,b2⟩:=hu2 e hg hz
    have hm:t ∈ l:=(hM t).2 (.inr ⟨rfl,b1⟩)
    have hf:=Zdo hr hm
    simp only [Yt,Yq] at hg ⊢
    show _∧_
    rw [e,hf]
    exact ⟨rfl,hg.2.1,b2⟩
   ·have hf:Z3 l v.tx=Z3 g.txs v.tx:=by
     cases hc:Z3 g.txs v.tx with
     | none=>
      refine ZsJ fun s hsl es=>?_
      rcases (hM s).1 hsl with ⟨m1,m2⟩ | ⟨rfl,_⟩
      ·have:=Zdo h2 m1
       rw [es,hc] at this;cases this
      ·exact e es.symm
     | some s=>
      obtain ⟨m1,m2⟩:=findT_mem hc
      have hm:s ∈ l:=(hM s).2 (.inl ⟨m1,by rw [m2];exact e⟩)
      have:=Zdo hr hm
      rwa [m2] at this
    show (((Z3 l v.tx).isSome && _):Bool)=true
    rw [hf];exact hg
 refine ZbQ.2 ⟨hl,hr,fun x hx=>?_,ZT.2 s1,s2,fun k=>?_⟩
 ·have hx2:Za5 x=0∧ZfJ g x=true:=by
   rcases (hM x).1 hx with ⟨m1,_⟩ | ⟨rfl,b1⟩
   ·exact h3 x m1
   ·exact ht b1
  refine ⟨hx2.1,?_⟩
  have h7:=hx2.2
  unfold ZfJ at h7 ⊢
  rw [YaT] at h7 ⊢
  exact fun v hv=>hhas x hx v hv (h7 v hv)
 ·rw [ZhD h4 k]
  have hn:(getO g.orders k).Nodup:=(h6 k).symm.nodup (ZcE h2 k)
  refine (List.perm_ext_iff_of_nodup (Zkv hn k) (ZcE hr k)).2 fun x=>?_
  rw [ZnP,ZbH,(h6 k).mem_iff,ZbH]
  constructor
  ·rintro (⟨⟨s,m1,m2,m3,m4⟩,m5⟩ | ⟨rfl,m3,m4⟩)
   ·exact ⟨s,(hM s).2 (.inl ⟨m1,by rw [m2];exact m5⟩),m2,m3,m4⟩
   ·refine ⟨t,(hM t).2 (.inr ⟨rfl,?_⟩),rfl,m3,m4⟩
    cases b with
    | true=>rfl
    | false=>rw [hb rfl] at m3;cases m3
  ·rintro ⟨s,m1,m2,m3,m4⟩
   rcases (hM s).1 m1 with ⟨m5,m6⟩ | ⟨rfl,_⟩
   ·exact .inl ⟨⟨s,m5,m2,m3,m4⟩,by rw [← m2];exact m6⟩
   ·exact .inr ⟨m2.symm,m3,m4⟩
theorem ZoL {g:Zr} {v:ZbS} (h:Zkd g v=true) (hz:¬ (v.tx=0∧v.nth=0)):isK TxD.id v.tx g.txs=true∧1≤v.nth:=by
 unfold Zkd at h
 rw [Yc hz,Yt,Yt,Zt8] at h
 exact ⟨h.1,by simpa using h.2.1⟩
theorem Zti {g:Zr} {t x:TxD} {v:ZbS} (h:ZgO g t=false) (hx:x ∈ g.txs) (hn:x.id≠t.id) (hv:v ∈ Zbl x) (e:v.tx=t.id):v.nth≤(wcnt t.ops v.key:Int):=by
 have h1:=Ybl.1 h x hx
 unfold Znl at h1
 rw [Yac hn,Ya4] at h1
 have h2:=Ybl.1 (by simpa using h1) v hv
 unfold Znb at h2
 simp [e] at h2
 omega
theorem ZjL {g:Zr} {id:Int} (hs:Za9 g) (h:(Z5 g id).2=0):ZS (Z5 g id).1:=by
 unfold Z5 at h ⊢
 split at h
 ·simp at h
 ·rename_i h1
  split at h
  ·simp at h
  ·rename_i h2
   split at h
   ·simp at h
   ·rename_i h3
    have hr:=YaO.1 h1
    have hik:isK TxD.id id g.txs=true:=by simpa using h2
    have hri:=(Zas hr).1
    rw [Yc h1,Yc h2,Yc h3,← Zhh (ZT.1 hri) hik]
    refine Zm1 (b:=false) hr hs.2 (ZT.2 ((ZT.1 hri).filter _)) (Y4 (Yaa _ _) hr.1) (fun s=>?_) (fun h=>by cases h) (fun _=>rfl) fun x hx v hv e hg hz=>?_
    ·rw [YU];simp [Zce]
    ·rw [YU] at hx
     have h5:=Zti (t:=Zce id) (by simpa using h3) hx.1 (by simpa [Zce] using hx.2) hv e
     have h6:=(ZoL hg hz).2
     have h7:wcnt (Zce id).ops v.key=0:=rfl
     rw [h7] at h5
     omega
structure Zqs where
 tx:Int
 place:Int
 vof:ZbS
 deriving DecidableEq,Inhabited
def ZiC (b:Zqs):List PV:=[.int .i64 b.tx,.int .i64 b.place,.int .i64 b.vof.tx,.int .i64 b.vof.key,.int .i64 b.vof.nth]
def uOf (g:Zr) (o:OpD):TxD:=(Z3 g.txs o.tx).getD zeroT
def Zg3 (t u:TxD) (o:OpD) (phen:Int):Bool:=t.done && (if phen=2 then !u.done else decide (phen=3) && decide (o.nth<(wcnt u.ops o.key:Int)))
def Zn1 (g:Zr) (phen:Int) (t:TxD) (o:OpD):Bool:=Zd3 t.id o && Zg3 t (uOf g o) o phen
def Zde (g:Zr) (phen:Int) (p:Int→Bool) (t:TxD) (l:List OpD):List Zqs:=(l.zipIdx.filter fun x=>p x.1.key && Zn1 g phen t x.1).map fun x=>⟨t.id,(x.2:Int),ofO x.1⟩
theorem ZdK {g:Zr} {phen:Int} {p:Int→Bool} {t:TxD} {l:List OpD} {j:Nat} (hj:j<l.length):Zde g phen p t (l.take (j+1))=Zde g phen p t (l.take j)++if (p (Nn l j).key && Zn1 g phen t (Nn l j))=true then [⟨t.id,j,ofO (Nn l j)⟩] else []:=by
 unfold Zde
 rw [Zp hj,List.zipIdx_append,Yah,YR]
 congr 1
 rw [Yi,show min j l.length=j by omega]
 by_cases h:(p (Nn l j).key && Zn1 g phen t (Nn l j))=true
 ·rw [Yf h,List.zipIdx_cons,Yam (by simpa using h)];simp
 ·rw [Yc h,List.zipIdx_cons,Yar (by simpa using h)];simp
theorem Zhx (g:Zr) (phen:Int) (p:Int→Bool) (t:TxD) (l:List OpD):(Zde g phen p t l).length≤l.length:=by
 unfold Zde
 rw [YH]
 exact Y4 (Yaa _ _) (by simp)
def badsG (g:Zr) (phen:Int) (p:Int→Bool) (l:List TxD):List Zqs:=l.flatMap fun t=>Zde g phen p t t.ops
theorem ZmJ {g:Zr} {phen:Int} {p:Int→Bool} {l:List TxD} {i:Nat} (hi:i<l.length):badsG g phen p (l.take (i+1))=badsG g phen p (l.take i)++Zde g phen p (Nn l i) (Nn l i).ops:=by
 unfold badsG
 rw [Zp hi,YV]
 simp
theorem ZlN {g:Zr} {phen:Int} {p:Int→Bool} {l:List TxD} (h:ZaX l) (i:Nat):(badsG g phen p (l.take i)).length≤1000*i:=by
 have key:∀ l:List TxD,(∀ t ∈ l,t.ops.length≤1000)→(badsG g phen p l).length≤1000*l.length:=by
  intro l
  induction l with
  | nil=>intro _;simp [badsG]
  | cons t l ih=>
   intro h
   have h1:=ih fun x hx=>h x (by simp [hx])
   have h2:=h t (by simp)
   have h3:=Zhx g phen p t t.ops
   unfold badsG at h1 ⊢
   rw [Y2,Yd,Yl]
   omega
 have h1:=key (l.take i) fun t ht=>h.2 t (Yay ht)
 have h2:(l.take i).length≤i:=by rw [Yi];omega
 exact Y4 h1 (Ybo _ h2)
def ZaP (g:Zr) (phen:Int) (p:Int→Bool):List Zqs:=if ZS g then badsG g phen p g.txs else []
theorem ZnW {g:Zr} (hr:∀ i,i<g.txs.length→ZnM g i):ZdA (g.txs.map TxD.id):=ZfM fun i hi h0=>by
 have hi':i<g.txs.length:=by simpa using hi
 rw [Zcv ow,Zcv hi']
 exact (hr i hi').1 h0
theorem ZvJ {g:Zr} (hr:∀ i,i<g.txs.length→ZnM g i) {i k:Nat} (hi:i<g.txs.length) (hk:k<i):(Nn g.txs k).id<(Nn g.txs i).id:=by
 have h:=YaN.1 (ZnW hr) k i (by simp;omega) (by simpa using hi) hk
 rw [nth_eq hi,nth_eq ow]
 simpa using h
def ZuO (es:List (GE Int TxD)) (l:List TxD):Prop:=∀ id,gGet id es=Z3 l id
theorem ZuX {g:Zr} (hr:∀ i,i<g.txs.length→ZnM g i) {es:List (GE Int TxD)} {ck i:Nat} (h:ZuO es (g.txs.take i)) (hi:i<g.txs.length):ZuO (gPut (Nn g.txs i).id (Nn g.txs i) (es,ck)).1 (g.txs.take (i+1)):=fun id=>by
 rw [Zdp,h id]
 unfold Z3
 rw [Zp hi,List.find?_append]
 by_cases e:id=(Nn g.txs i).id
 ·subst e
  have hn:(g.txs.take i).find? (fun t=>decide (t.id=(Nn g.txs i).id))=none:=by
   rw [Ybx]
   intro x hx
   obtain ⟨k,hk,e⟩:=Yae hx
   rw [Yi] at hk
   have:=ZvJ hr hi (show k<i by omega)
   rw [nth_eq ow] at this
   rw [List.getElem_take] at e
   rw [e] at this
   simp;omega
  simp [hn]
 ·rw [Yc e]
  have hn:[Nn g.txs i].find? (fun t=>decide (t.id=id))=none:=by simp;exact fun h=>e h.symm
  rw [hn];simp
theorem ZtO {u v:Zqs} {r:Bool} (h:(decide (u.tx=v.tx) && (decide (u.place=v.place) && (decide (u.vof.tx=v.vof.tx) && (decide (u.vof.key=v.vof.key) && (decide (u.vof.nth=v.vof.nth) && true)))))=r):r=decide (u=v):=by
 obtain ⟨a,b,c,d,e⟩:=u;obtain ⟨a',b',c',d',e'⟩:=v
 rw [← h,Yai]
 simp
def Zu8 (x:Int):List PV:=[.int .u64 x]
def bitAt (ws:List Int) (j:Nat):Bool:=(Nn ws (j / 64)).toNat.testBit (j % 64)
def Zi0 (ws:List Int) (j:Nat):List Int:=ws.set (j / 64) (((Nn ws (j / 64)).toNat ^^^ 2 ^ (j % 64):Nat):Int)
def hasW (n:Nat) (ws:List Int) (i:Int):Bool:=(decide (0≤i) && decide (i<n)) && bitAt ws i.toNat
def Ztg (n:Nat) (ws:List Int) (i:Int) (on:Bool):Bool:=(decide (0≤i) && decide (i<n)) && (hasW n ws i != on)
def setW (n:Nat) (ws:List Int) (i:Int) (on:Bool):List Int:=if Ztg n ws i on then Zi0 ws i.toNat else ws
structure ZdI (n:Nat) (ws:List Int):Prop where
 hi:n≤65536
 len:ws.length=(n+63) / 64
 wd:∀ k,0≤Nn ws k∧Nn ws k<18446744073709551616
def ZqT (v wv:Value) (n:Nat) (ws:List Int):List RS:=[.pt (.val v) 274 [.pv (.int .i64 n),.pv (.is wv)],.ob (.val wv) (Zx 175 1 Zu8 ws)]
def Zid (v:Value) (n:Nat) (ws:List Int):HP:=.ex fun wv:Value=>.and (ZdI n ws) (.star (ZqT v wv n ws))
theorem Zqm {v:Value} {n:Nat} {ws:List Int} {w:World} {f y:Ys} (h:(Zid v n ws).p w f y):ZdI n ws ∧ ∃ b,v = .pointer (some ⟨b,0,none⟩):=by
 obtain ⟨_,hI,h⟩:=h
 exact ⟨hI,HP.star_pt h⟩
theorem shr6 (i:Int):i.fdiv (2 ^ min (6:Int).toNat (IntKind.bits .i64))=i / 64:=YaU i (by decide)
theorem and63 (i:Int) (h:0≤i∧i≤9223372036854775807):bits .and .i64 i 63=i % 64:=by
 obtain ⟨X,rfl⟩:=Yag h.1
 have h1:(BitVec.ofInt 64 (X:Int)).toNat=X:=by rw [YaG];omega
 have h2:(BitVec.ofInt 64 (63:Int)).toNat=2 ^ 6 - 1:=by decide
 show IntKind.wrap .i64 (((BitVec.ofInt 64 (X:Int) &&& BitVec.ofInt 64 63).toNat:Nat):Int)=_
 rw [Ybt,h1,h2,YaV,ZA ow]
 omega
theorem and1 (x:Int) (h:0≤x∧x<18446744073709551616):bits .and .u64 x 1=x % 2:=by
 obtain ⟨X,rfl⟩:=Yag h.1
 have h1:(BitVec.ofInt 64 (X:Int)).toNat=X:=by rw [YaG];omega
 have h2:(BitVec.ofInt 64 (1:Int)).toNat=2 ^ 1 - 1:=by decide
 show IntKind.wrap .u64 (((BitVec.ofInt 64 (X:Int) &&& BitVec.ofInt 64 1).toNat:Nat):Int)=_
 rw [Ybt,h1,h2,YaV,Zan ow]
 omega
theorem xor64 (x y:Nat) (hx:x<18446744073709551616) (hy:y<18446744073709551616):bits .xor .u64 (x:Int) (y:Int)=((x ^^^ y:Nat):Int):=by
 have h1:(BitVec.ofInt 64 (x:Int)).toNat=x:=by rw [YaG];omega
 have h2:(BitVec.ofInt 64 (y:Int)).toNat=y:=by rw [YaG];omega
 show IntKind.wrap .u64 (((BitVec.ofInt 64 (x:Int) ^^^ BitVec.ofInt 64 (y:Int)).toNat:Nat):Int)=_
 rw [BitVec.toNat_xor,h1,h2]
 exact Zan (by have:=Nat.xor_lt_two_pow (n:=64) hx hy;omega)
theorem Zup {x:Int} (h:0≤x∧x<18446744073709551616) (i:Int) (hi:0≤i∧i≤9223372036854775807):decide (bits .and .u64 (x.fdiv (2 ^ min (IntKind.wrap .u64 (bits .and .i64 i 63)).toNat (IntKind.bits .u64))) 1=1)=x.toNat.testBit (i.toNat % 64):=by
 obtain ⟨X,rfl⟩:=Yag h.1
 obtain ⟨I,rfl⟩:=Yag hi.1
 rw [and63 _ hi,Zan ow,Yb,Yb]
 have e1:min ((I:Int) % 64).toNat (IntKind.bits .u64)=I % 64:=by simp only [IntKind.bits];omega
 rw [e1,YaU _ (by exact_mod_cast Yw _)]
 have e2:(X:Int) / 2 ^ (I % 64)=((X / 2 ^ (I % 64):Nat):Int):=by norm_cast
 have hle:X / 2 ^ (I % 64)≤X:=Nat.div_le_self _ _
 rw [e2,Nat.testBit_eq_decide_div_mod_eq]
 generalize X / 2 ^ (I % 64)=q at hle ⊢
 rw [and1 _ ow]
 exact decide_eq_decide.2 ow
theorem ZdI.at {n:Nat} {ws:List Int} (h:ZdI n ws) (i:Int) (h0:0≤i) (h1:i<n):0≤i / 64∧i / 64<ws.length:=by have:=h.len;omega
theorem u64_nonneg (x:Int):0≤IntKind.wrap .u64 x:=by rw [Zaj];omega
theorem and_iff {a b:Prop} [Decidable a] [Decidable b] (h:(decide a && decide b)=true):a∧b:=by simpa using h
theorem ZvL (n:Nat) (p:PV):FnP prog 246 [.ref [.int .i64 n,p]] (.int .i64 n):=by
 refine FnP.mk func246 Z ntmps246 Z fun B a w F V hfr G=>Ya ?_
 refine rZ G (qI qZ) V [2,0] [0] fun G=>(Ya (Ya ?_))
 refine rZ G (qR rr (qf (Zcl underlying229 .t) r1 qz qZ)) V [4,2,0] [0] fun G=>?_
 refine Zc G Z (fun hc0=>?_) (fun hc0=>?_)
 ·simp at hc0
 refine Ye (Za (Ya (rZ G (qR rr (qf (ZD .t) r1 qz (qf (oG 0 .t) r1 qz (qf (oR false 1 .t) r1 qz (qO rr qZ))))) V [2] [0] fun G=>Yh ?_)))
 refine Zs hfr G Z Z Z .refl
theorem Zpe (n:Nat) (p:PV) (i:Int):FnP prog 225 [.ref [.int .i64 n,p],.int .i64 i] (.bool (decide (0≤i) && decide (i<n))):=by
 refine FnP.mk func225 Z ntmps225 Z fun B a w F V hfr G=>Ya ?_
 refine rZ G qB V [4,1,0] [0] fun G=>Ya ?_
 refine rZ G (qR rr (qf (Zbs .t qi) r1 qz (qR rr (qm Z Z Z Z (qm Z Z Z Z (qk Z (fun h=>oP (ZvL n p) func246 (Args.one (.w h))) r2 qz (qk Z (fun h=>ZaA (.w h) (.w h)) r3 qz (qf (ZE .t .t) r2 qz (qO rr qZ))))))))) V [4] [0] fun G=>Yh ?_
 refine Zs hfr G Z Z Z .refl
theorem Int.toNat_ediv_64 {i:Int} (h:0≤i):(i / 64).toNat=i.toNat / 64:=by omega
theorem ZdD {a b:Prop} [Decidable a] [Decidable b] (h:¬ (a∧b)):(decide a && decide b)=false:=by rw [← Yb5];exact YD h
theorem Ztf (n:Nat) (ws:List Int) (hI:ZdI n ws) (i:Int):FnP prog 202 [.ref [.int .i64 n,.sl Zu8 ws],.int .i64 i] (.bool (hasW n ws i)):=by
 refine FnP.mk func202 Z ntmps202 Z fun B a w F V hfr G=>Ya ?_
 refine rZ G qB V [4,1,0] [0] fun G=>Ya ?_
 refine rZ G (qR rr (qR rr (qf (oP (Zpe n _ i) func225 (Args.two .t .t)) r2 qz (qR rr (qm Z Z Z Z (qk Z (fun h=>ZD (.w h)) r2 qz (qk Z (fun h=>oG 1 (.w h)) r2 qz (qk Z (fun h=>oR false 1 (.w h)) r2 qz (qm Z Z Z Z (qk Z (fun h=>Zco (.w h) qi (by decide)) r2 qz (qk Z (fun h=>o_indexAddr_sl (sz:=1) (.mk underlying272 kr) (by intro x;rfl) (.w h) (.w h) (by rw [shr6];exact (hI.at i (and_iff h).1 (and_iff h).2).1) (by rw [shr6];exact (hI.at i (and_iff h).1 (and_iff h).2).2)) r3 qz (qk Z (fun h=>oR false 1 (.w h)) r2 qz (qm Z Z Z Z (qk Z (fun h=>o_and (.w h) qi) r2 qz (qk Z (fun h=>o_conv Ycm kr (.w h)) r2 qz (qk Z (fun h=>Zco (.w h) (.w h) (u64_nonneg _)) r3 qz (qk Z (fun h=>o_and (.w h) qi) r2 qz (qk Z (fun h=>o_eql (.w h) qi) r2 qz (qf (ZE .t .t) r2 qz (qO rr qZ)))))))))))))))))))) V [4] [0] fun G=>Yh ?_
 refine Zs hfr G Z Z Z (.bool (by unfold hasW bitAt;by_cases hb:0≤i∧i<n; (rw [shr6,Zup (hI.wd _) i (by have:=hI.hi;omega),Int.toNat_ediv_64 hb.1]); (simp only [ZdD hb,Bool.false_and])))
def rowN (m:Int):Nat:=(if m<0 then 0 else if m > 65536 then 65536 else m).toNat
theorem ZhP (m:Int):rowN m≤65536:=by unfold rowN;split; (· omega);split <;> omega
theorem ZuT (m:Int):(if 65536<(if m<0 then 0 else m) then 65536 else if m<0 then 0 else m)=((rowN m:Nat):Int):=by unfold rowN;split <;> split <;> (try split) <;> omega
def ZhL (m:Int):List Int:=List.replicate ((rowN m+63) / 64) 0
theorem Zo9 (k j:Nat):Nn (List.replicate k (0:Int)) j=0:=by
 by_cases h:j<k
 ·rw [nth_eq (by simpa using h)];simp
 ·unfold Nn;rw [YaH,YbS (by simp;omega)];rfl
theorem Zle (m:Int):ZdI (rowN m) (ZhL m):=⟨ZhP m,by simp [ZhL],fun k=>by unfold ZhL;rw [Zo9];omega⟩
theorem Zq6 (m:Int):(IntKind.wrap .i64 (((rowN m:Nat):Int)+63)).fdiv (2 ^ min (6:Int).toNat (IntKind.bits .i64))=(((rowN m+63) / 64:Nat):Int):=by
 have:=ZhP m
 rw [shr6,ZA ow];omega
theorem Zq8 (w:World) (yy:Ys):PVs (Zu8 0) [.int .u64 0] w yy:=⟨⟨rfl,rfl,by simp [inR,IntKind.min,IntKind.max,IntKind.signed,IntKind.bits]⟩,tv⟩
theorem Zjs (ws:List Int) (j:Nat):(Zi0 ws j).length=ws.length:=by simp [Zi0]
theorem Zla {ws:List Int} {i j:Nat} {c:Int} (h:j<ws.length):Nn (ws.set i c) j=if i=j then c else Nn ws j:=by
 rw [nth_eq (by simpa using h),nth_eq h,YbZ]
theorem ZkI {ws:List Int} {j:Nat} (h:ws.length≤j):Nn ws j=0:=by unfold Nn;rw [YaH,YbS h];rfl
theorem Zm3 {x:Int} (h:0≤x∧x<18446744073709551616) (k:Nat) (hk:k<64):0≤(((x.toNat ^^^ 2 ^ k:Nat)):Int)∧(((x.toNat ^^^ 2 ^ k:Nat)):Int)<18446744073709551616:=by
 have h1:x.toNat<2 ^ 64:=by omega
 have h2:2 ^ k<2 ^ 64:=Nat.pow_lt_pow_right (by decide) hk
 have:=Nat.xor_lt_two_pow h1 h2
 omega
theorem ZdI.flip {n:Nat} {ws:List Int} (h:ZdI n ws) (j:Nat):ZdI n (Zi0 ws j):=by
 refine ⟨h.hi,by rw [Zjs];exact h.len,fun k=>?_⟩
 by_cases hk:k<ws.length
 ·unfold Zi0
  rw [Zla hk]
  split
  ·exact Zm3 (h.wd _) _ (Ybs _ (by decide))
  ·exact h.wd k
 ·rw [ZkI (by rw [Zjs];omega)];omega
theorem ZdI.setW {n:Nat} {ws:List Int} (h:ZdI n ws) (i:Int) (on:Bool):ZdI n (setW n ws i on):=by
 unfold Go.Proofs.YtlkpllemoepamaaGreat.setW
 split
 ·exact h.flip _
 ·exact h
theorem Zn4 {x:Int} (h:0≤x∧x<18446744073709551616) (i:Int) (hi:0≤i∧i≤9223372036854775807):bits .xor .u64 x (IntKind.wrap .u64 (1*2 ^ min (IntKind.wrap .u64 (bits .and .i64 i 63)).toNat (IntKind.bits .u64)))=((x.toNat ^^^ 2 ^ (i.toNat % 64):Nat):Int):=by
 obtain ⟨X,rfl⟩:=Yag h.1
 obtain ⟨I,rfl⟩:=Yag hi.1
 rw [and63 _ hi,Zan (by omega:0≤((I:Int) % 64)∧(I:Int) % 64≤_),Yb,Yb]
 have e1:min ((I:Int) % 64).toNat (IntKind.bits .u64)=I % 64:=by simp only [IntKind.bits];omega
 have h2:2 ^ (I % 64)<2 ^ 64:=Nat.pow_lt_pow_right (by decide) (Ybs _ (by decide))
 have e2:(1:Int)*2 ^ (I % 64)=((2 ^ (I % 64):Nat):Int):=by rw [Int.one_mul];norm_cast
 rw [e1,e2]
 generalize 2 ^ (I % 64)=q at h2 ⊢
 rw [Zan ow,xor64 X q ow ow]
theorem ZvX (m:Int):FnG prog 162 1 [.int .i64 m] [.star []] (PV.ptr) (fun v=>[Zid v (rowN m) (ZhL m)]):=by
 refine FnG.mk func162 Z ntmps162 Z kr fun B F0 a w F V hG G=>?_
 have hr:=ZuT m
 refine Ya (rZ G (qC qZ) V [2,0] [1,0] fun G=>Ya ?_)
 refine Ze G (qR rr (qf (ZqC .t qi) r1 qz (qf (o_min .t qi) r1 qz (qO rr qZ)))) V [2,0] [1,0] Z Z fun a w F G=>?_
 rw [hr] at G
 refine Za (Ya (Zb G (qR rr (qR rr (qp r1 (qf (Zco .t qi (by decide)) r1 qz (qf (ZaG (R:=Zu8) (v:=0) (c:=(IntKind.wrap .i64 (((rowN m:Nat):Int)+63)).fdiv (2 ^ min (6:Int).toNat (IntKind.bits .i64))) (sz:=1) (bs:=8) (zs:=[.int .u64 0]) 101 underlying272 kr kr kr Zq8 .t .t (by rw [Zq6];exact Yau _) (by have:=ZhP m;rw [Zq6];omega) (by have:=ZhP m;rw [Zq6];omega)) r2 qz (qf (oB [(0,.tmp 6),(1,.tmp 10)] [.int .i64 0,.slice none 0 0] [(0,1),(1,1)] (.one Z .t one_int kr (.same Z kr .nil))) r2 qz (qf (oX 102 .t) r1 qz (qO rr qZ)))))))) V [2] [102,101,1,0] (fun _=>rfl) (fun _=>rfl) fun τ a w F G=>?_))
 try dsimp only [RS.sub,SF.sub,CF.sub,csub,Anc.sub,List.map,Zf,xL,xM,Nat.reduceAdd,xD,xE,xT,xU,xC,xN,zCF] at G
 generalize τ 12=v12,τ 10=v10 at G
 rw [Zq6,Yb] at G
 refine Za (Yh ?_)
 obtain ⟨b,rfl⟩:=G.shape 102 rfl
 obtain ⟨F,G⟩:=G.push 1 101 Z Z Z kr
 obtain ⟨F,G⟩:=G.push 1 102 Z Z Z kr
 have G:=G.turn 1 Z (r':=RS.hp (Zid (.pointer (some ⟨b,0,none⟩)) (rowN m) (ZhL m))) (fun _ _ _ _ h=>⟨_,Zle m,h⟩)
 refine Z1 (h':=fun v=>Zid v (rowN m) (ZhL m)) hG G Z (.tmp Z .nil) (.one .ptr) rfl
theorem Zwc (b n:Nat) (ws:List Int) (i:Int) (on:Bool):FnG prog 222 1 [.is (.pointer (some ⟨b,0,none⟩)),.int .i64 i,.bool on] [Zid (.pointer (some ⟨b,0,none⟩)) n ws] (.bool (Ztg n ws i on)) (fun _=>[Zid (.pointer (some ⟨b,0,none⟩)) n (setW n ws i on)]):=by
 refine FnG.mk func222 Z ntmps222 Z kr fun B F0 a w F V hG G=>?_
 obtain ⟨wv,G⟩:=G.open_ex 1 rfl
 obtain ⟨hI,G⟩:=G.open_and 1 rfl
 obtain ⟨F,G⟩:=G.peel 1 2 Z rfl
 obtain ⟨F,G⟩:=G.peel 1 3 Z rfl
 obtain ⟨F,G⟩:=G.nM [2,1,0] [3,2,0]
 refine Ya (rZ G qB V [6,2,1,0] [3,2,0] fun G=>(Ya (Ya ?_)))
 refine rZ G (qR rr (qR rr (qf (Zh3 (cells:=[.pv _,.pv _]) 2 (Zpe n _ i) (fun _ _ _ _ _ h=>h) Z func225 Z kr (Zae.two .is .t)) r2 r1 (qf (o_not .t) r1 qz (qR rr (qm Z Z Z Z (qm Z Z Z Z (qk Z (fun h=>ZbX (cells:=[.pv _,.pv (.is wv)]) 2 3 1 (Ztf n ws hI i) (fun _ _ _ _ _ h=>h) Z func202 Z kr Z Z (Zae.two (.w h .is) (.w h))) r3 r2 (qm Z Z Z Z (qk Z (fun h=>Zvl underlying4 (.w h) (.w h)) r3 qz (qf (Zak .t .t) r2 qz qZ))))))))))) V [17,6,1,0] [3,2,0] fun G=>?_
 refine Zc G Z (fun hc0=>?_) (fun hc0=>?_)
 ·have hs:Ztg n ws i on=false:=by unfold Ztg;revert hc0;cases (decide (0≤i) && decide (i<n)) <;> cases hasW n ws i <;> cases on <;> simp
  have hg:setW n ws i on=ws:=by unfold setW;rw [hs];rfl
  refine Ya (rZ G qB V [6,1,0] [3,2,0] fun G=>(Yh (Zl ?_)))
  have G:=G.fresh 1 rfl
  obtain ⟨F,G⟩:=G.push 1 3 Z Z Z kr
  obtain ⟨F,G⟩:=G.push 1 2 Z Z Z kr
  have G:=G.turn 1 Z (r':=RS.hp (Zid (.pointer (some ⟨b,0,none⟩)) n (setW n ws i on))) (fun _ _ _ _ h=>⟨_,(hI.setW i on),(by rw [hg];exact h)⟩)
  refine Zad hG G Z (.tmp Z .nil) (.one (.bool hs.symm)) rfl
 have hs:Ztg n ws i on=true:=by unfold Ztg;revert hc0;cases (decide (0≤i) && decide (i<n)) <;> cases hasW n ws i <;> cases on <;> simp
 have hg:setW n ws i on=Zi0 ws i.toNat:=by unfold setW;rw [hs];rfl
 have hb:0≤i∧i<n:=by
   have hs':=hs
   simp only [Ztg,Yt,Yq] at hs'
   exact hs'.1
 have hhi:=hI.hi
 have hq:=hI.at i hb.1 hb.2
 rw [← shr6] at hq
 have hq2:(i.fdiv (2 ^ min (6:Int).toNat (IntKind.bits .i64))).toNat<ws.length:=by omega
 refine Ye (Za (Ya (Ze G (qR rr (qf (o_nilCheck 2 .is (by rfl)) r1 r1 (qf (oF 1 2 .adr) r1 r1 (qa 2 r1 r1 (qR rr (qf (Zco .t qi (by decide)) r1 qz (qf (o_indexAddr_row (sz:=1) 3 (.mk underlying272 kr) .is .t hq.1 hq.2 (by rfl)) r2 r1 (qf (Zu (ag:=false) (sz':=1) (sz:=1) 3 .t (by intro x;rfl) hq2 kr kr kr) r1 r1 (qR rr (qf (o_and .t qi) r1 qz (qf (o_conv Ycm kr .t) r1 qz (qf (o_shl qi .t (u64_nonneg _)) r1 qz (qf (o_xor .t .t) r2 qz (qf (o_indexAddr_row (sz:=1) 3 (.mk underlying272 kr) .is .t hq.1 hq.2 (by rfl)) r2 r1 (qf (ZJ (R:=Zu8) (sz:=1) (v:=_) 3 .t (by intro x;rfl) hq2 .t Z one_int kr) r2 r1 qZ))))))))))))))) V [6] [3,2,0] Z Z fun a w F G=>?_)))
 rw [Zn4 (hI.wd _) i ow,shr6,Int.toNat_ediv_64 hb.1] at G
 refine Za (Ya (rZ G qB V [6] [3,2,0] fun G=>Yh ?_))
 have G:=G.fresh 1 rfl
 obtain ⟨F,G⟩:=G.push 1 3 Z Z Z kr
 obtain ⟨F,G⟩:=G.push 1 2 Z Z Z kr
 have G:=G.turn 1 Z (r':=RS.hp (Zid (.pointer (some ⟨b,0,none⟩)) n (setW n ws i on))) (fun _ _ _ _ h=>⟨_,(hI.setW i on),(by rw [hg];exact h)⟩)
 refine Zad hG G Z (.tmp Z .nil) (.one (.bool hs.symm)) rfl
def places (n:Nat) (ws:List Int):List Int:=((List.range n).filter fun j=>bitAt ws j).map fun j:Nat=>(j:Int)
def ZvN (n:Nat) (ws:List Int):Prop:=∀ j,n≤j→bitAt ws j=false
def Up (n:Nat) (x:List Int):Prop:=x.Pairwise (· < ·) ∧ ∀ i ∈ x,0≤i∧i<n
structure ZeA (n:Nat) (ws:List Int) (x:List Int):Prop where
 ok:ZdI n ws
 clean:ZvN n ws
 up:Up n x
 mem:∀ j:Nat,bitAt ws j=true ↔ (j:Int) ∈ x
theorem ZeA.mk' {n:Nat} {ws x:List Int} (hok:ZdI n ws) (hc:ZvN n ws) (hu:Up n x) (h:∀ j:Nat,j<n→(bitAt ws j=true ↔ (j:Int) ∈ x)):ZeA n ws x:=by
 refine ⟨hok,hc,hu,fun j=>?_⟩
 by_cases hj:j<n
 ·exact h j hj
 ·rw [hc j ow]
  constructor
  ·intro h;cases h
  ·intro hm;have:=hu.2 _ hm;omega
theorem ZeA.in {n:Nat} {ws x:List Int} (h:ZeA n ws x) (i:Int):hasW n ws i=decide (i ∈ x):=by
 unfold hasW
 by_cases hb:0≤i∧i<n
 ·have:=h.mem i.toNat
  rw [Yaw hb.1] at this
  rw [show (decide (0≤i) && decide (i<(n:Int)))=true by simp [hb],Ya4]
  by_cases hm:i ∈ x
  ·rw [Yac hm,this.2 hm]
  ·rw [YD hm]
   cases e:bitAt ws i.toNat
   ·rfl
   ·exact absurd (this.1 e) hm
 ·rw [ZdD hb,Bool.false_and,Yaj,YF]
  intro hm
  exact hb (h.up.2 i hm)
theorem ZeA.zero (m:Int):ZeA (rowN m) (ZhL m) []:=by
 have hz:∀ j,bitAt (ZhL m) j=false:=fun j=>by unfold bitAt ZhL;rw [Zo9];simp
 exact ⟨Zle m,fun j _=>hz j,⟨List.Pairwise.nil,by simp⟩,fun j=>by simp [hz j]⟩
def ZqE (i:Int):List Int→Bool→List Int
 | [],d=>if d then [] else [i]
 | x :: l,d=>(if d=false∧i≤x then [i] else [])++(if x=i then [] else [x])++ZqE i l (d || decide (i≤x))
def putL (l:List Int) (n i:Int) (on:Bool):List Int:=ZqE i l (!on || decide (i<0) || decide (n≤i))
theorem ZdU (i j:Int):∀ (l:List Int) (d:Bool),j ∈ ZqE i l d ↔ (j≠i∧j ∈ l)∨(j=i∧d=false)
 | [],d=>by cases d <;> simp [ZqE]
 | x :: l,d=>by
  rw [ZqE,YB,YB,ZdU i j l]
  by_cases h1:i≤x <;> cases d <;> by_cases h2:x=i <;> by_cases h3:j=i <;> simp_all
  all_goals (try omega)
theorem ZkP (i:Int):∀ (l:List Int) (d:Bool),l.Pairwise (· < ·)→(ZqE i l d).Pairwise (· < ·)
 | [],d,_=>by cases d <;> simp [ZqE]
 | x :: l,d,h=>by
  rw [Yo] at h
  have ih:=ZkP i l (d || decide (i≤x)) h.2
  rw [ZqE]
  by_cases h1:i≤x
  ·have hm:∀ j,j ∈ ZqE i l (d || decide (i≤x))→x<j∧j≠i:=by
    intro j hj
    rw [ZdU] at hj
    rcases hj with hj | hj
    ·exact ⟨h.1 j hj.2,hj.1⟩
    ·simp [h1] at hj
   generalize (d || decide (i≤x))=d' at hm ih ⊢
   cases d <;> by_cases h2:x=i
   ·subst h2
    simp only [Yap,and_self,Yv,Yav,YS,YaS,Yo]
    exact ⟨fun j hj=>(hm j hj).1,ih⟩
   ·simp only [h1,and_self,Yv,h2,Yp,YaS,Yaf,Yav,Yo,Yj]
    refine ⟨?_,fun j hj=>(hm j hj).1,ih⟩
    rintro j (rfl | hj)
    ·omega
    ·have:=hm j hj;omega
   ·simp only [h2,Yv,YS,Bool.true_eq_false,false_and,Yp,Yav]
    subst h2;exact ih
   ·simp only [h2,Yp,Bool.true_eq_false,false_and,Yav,YaS,Yo]
    exact ⟨fun j hj=>(hm j hj).1,ih⟩
  ·have hm:∀ j,j ∈ ZqE i l (d || decide (i≤x))→x<j:=by
    intro j hj
    rw [ZdU] at hj
    rcases hj with hj | hj
    ·exact h.1 j hj.2
    ·omega
   generalize (d || decide (i≤x))=d' at hm ih ⊢
   have h2:¬ x=i:=by omega
   simp only [h1,and_false,Yp,h2,Yav,YaS,Yo]
   exact ⟨hm,ih⟩
theorem Zlp {l:List Int} {n i j:Int} {on:Bool} : j ∈ putL l n i on ↔ (j≠i∧j ∈ l)∨(j=i∧on=true∧0≤i∧i<n):=by
 unfold putL
 rw [ZdU]
 cases on <;> simp <;> omega
theorem Zu2 {n:Nat} {l:List Int} (h:Up n l) (i:Int) (on:Bool):Up n (putL l n i on):=by
 refine ⟨ZkP _ _ _ h.1,fun j hj=>?_⟩
 rw [Zlp] at hj
 rcases hj with hj | hj
 ·exact h.2 j hj.2
 ·omega
theorem Zl0 {n:Nat} {ws:List Int} (hI:ZdI n ws) (i:Int) (on:Bool) (j:Nat):bitAt (setW n ws i on) j=if 0≤i∧i<n∧i=j then on else bitAt ws j:=by
 unfold setW Ztg hasW
 by_cases hb:0≤i∧i<n
 ·rw [show (decide (0≤i) && decide (i<(n:Int)))=true by simp [hb],Ya4,Ya4]
  have hq:=hI.at i hb.1 hb.2
  have flip:∀ j,bitAt (Zi0 ws i.toNat) j=if i=j then !bitAt ws j else bitAt ws j:=by
   intro j
   unfold bitAt Zi0
   by_cases hj:j / 64<ws.length
   ·rw [Zla hj]
    by_cases he:i.toNat / 64=j / 64
    ·rw [Yf he,Yb,Nat.testBit_xor,Nat.testBit_two_pow,he]
     by_cases e2:i=j
     ·subst e2;simp
     ·rw [Yc e2,show decide (i.toNat % 64=j % 64)=false by simp;omega,Bool.xor_false]
    ·rw [Yc he,Yc (fun e=>he ow)]
   ·rw [ZkI (by rw [YK];omega),ZkI ow,Yc (fun e=>hj ow)]
  by_cases h1:(bitAt ws i.toNat != on)=true
  ·rw [Yf h1,flip j]
   by_cases e:i=j
   ·rw [Yf e,Yf ⟨hb.1,hb.2,e⟩]
    subst e
    rw [Yb] at h1
    cases hx:bitAt ws j <;> rw [hx] at h1 <;> cases on <;> simp_all
   ·rw [Yc e,Yc (fun h=>e h.2.2)]
  ·rw [Yc h1]
   by_cases e:i=j
   ·rw [Yf ⟨hb.1,hb.2,e⟩]
    subst e
    rw [Yb] at h1
    cases hx:bitAt ws j <;> rw [hx] at h1 <;> cases on <;> simp_all
   ·rw [Yc (fun h=>e h.2.2)]
 ·rw [ZdD hb,Bool.false_and,Yc (by simp),Yc (fun h=>hb ⟨h.1,h.2.1⟩)]
theorem ZeA.set {n:Nat} {ws x:List Int} (h:ZeA n ws x) (i:Int) (on:Bool):ZeA n (setW n ws i on) (putL x n i on):=by
 refine ZeA.mk' (h.ok.setW i on) (fun j hj=>?_) (Zu2 h.up i on) (fun j hj=>?_)
 ·rw [Zl0 h.ok,Yc ow,h.clean j hj]
 ·rw [Zl0 h.ok,Zlp]
  have:=h.mem j
  by_cases e:0≤i∧i<n∧i=j
  ·rw [Yf e]
   constructor
   ·intro ho;exact .inr ⟨e.2.2.symm,ho,e.1,e.2.1⟩
   ·rintro (⟨h1,_⟩ | ⟨_,h2,_⟩)
    ·exact absurd e.2.2.symm h1
    ·exact h2
  ·rw [Yc e,this]
   constructor
   ·intro hm
    refine .inl ⟨fun e'=>e ?_,hm⟩
    omega
   ·rintro (⟨_,h2⟩ | ⟨h1,_,h3,h4⟩)
    ·exact h2
    ·exact absurd ⟨h3,h4,h1.symm⟩ e
end Go.Proofs.YtlkpllemoepamaaGreat
