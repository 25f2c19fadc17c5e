/- Laws and walks. No condition beyond what each says. -/
import Derived.Test.YtlkpllemoepamaaGreatJ1
import Derived.Deep.QuietTactic
import Derived.BigQuiet
import Derived.Shelf.SlSortCmp.WholeK
import Derived.Sort.LotA
namespace Go.Proofs.YtlkpllemoepamaaGreat
open Go Go.Gm Tryz
set_option linter.unusedVariables false
set_option linter.unusedSimpArgs false
set_option maxHeartbeats 4000000
set_option maxRecDepth 8000
def Ze0 (os:List OrdD) (k:Int):List OrdD:=if isK OrdD.key k os=true then os else os.take (lowK OrdD.key k os) ++ [⟨k,[]⟩] ++ os.drop (lowK OrdD.key k os)
def Zj3 (k:Int):List OrdD→List OrdD
 | []=>[⟨k,[]⟩]
 | o :: os=>if o.key<k then o :: Zj3 k os else if o.key=k then o :: os else ⟨k,[]⟩ :: o :: os
theorem ZhF {α:Type} {κ:α→Int} {k:Int} (l:List α):lowK κ k l≤l.length:=by
 unfold lowK
 exact (List.takeWhile_sublist _).length_le
theorem ZS {α:Type} [Inhabited α] {κ:α→Int} {l:List α} : Zcq κ l ↔ l.Pairwise fun a b=>κ a<κ b:=by
 rw [Yaz]
 constructor
 ·intro h i j hi hj hij
  have:=h i j hij hj
  rwa [nth_eq hi,nth_eq hj] at this
 ·intro h a b hab hb
  rw [nth_eq ow,nth_eq hb]
  exact h a b ow hb hab
theorem ZhW (k:Int):∀ {os:List OrdD},Zcq OrdD.key os→Ze0 os k=Zj3 k os
 | [],_=>rfl
 | o :: os,h=>by
  rw [ZS,Yo] at h
  have ih:=ZhW k (os:=os) (ZS.2 h.2)
  have e1:lowK OrdD.key k (o :: os)=if o.key<k then lowK OrdD.key k os+1 else 0:=by
   unfold lowK
   split
   ·rename_i h1
    rw [Ybo (by simpa using h1),Yl]
   ·rename_i h1
    rw [List.takeWhile_cons_of_neg (by simpa using h1)];rfl
  have e2:isK OrdD.key k (o :: os)=(decide (o.key=k) || isK OrdD.key k os):=by unfold isK;rw [YbQ]
  by_cases h1:o.key<k
  ·rw [Yf h1] at e1
   have e3:isK OrdD.key k (o :: os)=isK OrdD.key k os:=by rw [e2,YF ow,YbJ]
   unfold Ze0 at ih ⊢
   unfold Zj3
   rw [Yf h1,e3,e1]
   split
   ·rename_i h2;rw [Yf h2] at ih;exact Y1 (o :: ·) ih
   ·rename_i h2;rw [Yc h2] at ih;rw [← ih];simp
  ·rw [Yc h1] at e1
   unfold Ze0 Zj3
   rw [Yc h1,e1]
   by_cases h3:o.key=k
   ·rw [Yf h3,Yf (by rw [e2,Yag h3,Yb0])]
   ·rw [Yc h3,Yc]
    ·simp
    ·rw [e2,YF h3,YbJ]
     unfold isK
     rw [YaA]
     rintro ⟨x,hx,hk⟩
     have:=h.1 x hx
     simp at hk
     omega
theorem Zmb {k:Int} {o:OrdD} : ∀ {os:List OrdD},o ∈ Zj3 k os→o ∈ os∨o = ⟨k,[]⟩
 | [],h=>by simp [Zj3] at h;exact .inr h
 | x :: os,h=>by
  unfold Zj3 at h
  split at h
  ·rcases Yj.1 h with h | h
   ·exact .inl (by simp [h])
   ·rcases Zmb h with h | h
    ·exact .inl (by simp [h])
    ·exact .inr h
  ·split at h
   ·exact .inl h
   ·rcases Yj.1 h with h | h
    ·exact .inr h
    ·exact .inl h
theorem ZiP {k:Int} : ∀ {os:List OrdD},(os.Pairwise fun a b=>a.key<b.key)→(Zj3 k os).Pairwise fun a b=>a.key<b.key
 | [],_=>by simp [Zj3]
 | x :: os,h=>by
  rw [Yo] at h
  unfold Zj3
  split
  ·rename_i h1
   rw [Yo]
   refine ⟨fun o ho=>?_,ZiP h.2⟩
   rcases Zmb ho with h3 | h3
   ·exact h.1 o h3
   ·rw [h3];exact h1
  ·split
   ·rw [Yo];exact h
   ·rw [Yo,Yo]
    refine ⟨fun o ho=>?_,h⟩
    rcases Yj.1 ho with h3 | h3
    ·rw [h3];show k<x.key;omega
    ·have:=h.1 o h3;show k<o.key;omega
theorem insK_rise {os:List OrdD} (k:Int) (h:Zcq OrdD.key os):Zcq OrdD.key (Ze0 os k):=by
 rw [ZhW k h,ZS]
 exact ZiP (ZS.1 h)
theorem ZlU (os:List OrdD) (k:Int):(Ze0 os k).length≤os.length+1:=by
 unfold Ze0
 split
 ·omega
 ·rw [Yd,Yd,Yi,YE];simp;omega
theorem ZlX {os:List OrdD} {k:Int} {o:OrdD} (h:o ∈ Ze0 os k):o ∈ os∨o = ⟨k,[]⟩:=by
 unfold Ze0 at h
 split at h
 ·exact .inl h
 ·rw [YA,YA] at h
  rcases h with (h | h) | h
  ·exact .inl (Yak h)
  ·exact .inr (by simpa using h)
  ·exact .inl (Ya1 h)
def ZdK (t:TxD) (os:List OrdD) (ks:List Int):List OrdD:=if t.done=true then ks.foldl Ze0 os else os
theorem Zg8 {t:TxD} {os:List OrdD} (h:Zcq OrdD.key os) (hs:ZcY os) (ks:List Int):Zcq OrdD.key (ZdK t os ks)∧(ZdK t os ks).length≤os.length+ks.length ∧ ∀ o ∈ ZdK t os ks,o.txs.length≤1000:=by
 unfold ZdK
 split
 ·have key:∀ (ks:List Int) (os:List OrdD),Zcq OrdD.key os→(∀ o ∈ os,o.txs.length≤1000)→Zcq OrdD.key (ks.foldl Ze0 os)∧(ks.foldl Ze0 os).length≤os.length+ks.length ∧ ∀ o ∈ ks.foldl Ze0 os,o.txs.length≤1000:=by
   intro ks
   induction ks with
   | nil=>intro os h1 h2;exact ⟨h1,by simp,h2⟩
   | cons k ks ih=>
    intro os h1 h2
    obtain ⟨g1,g2,g3⟩:=ih (Ze0 os k) (insK_rise k h1) (fun o ho=>by
     rcases ZlX ho with h | h
     ·exact h2 o h
     ·rw [h];simp)
    have:=ZlU os k
    exact ⟨g1,by rw [Yan,Yl];omega,g3⟩
  exact key ks os h hs.2
 ·exact ⟨h,by omega,hs.2⟩
theorem Zpu {t:TxD} {os:List OrdD} {ks:List Int} {i:Nat} (hi:i<ks.length) (hc:t.done=true∧isK OrdD.key (Nn ks i) (ZdK t os (ks.take i))=false) :
  (ZdK t os (ks.take i)).take (lowK OrdD.key (Nn ks i) (ZdK t os (ks.take i))) ++ [⟨Nn ks i,[]⟩] ++ (ZdK t os (ks.take i)).drop (lowK OrdD.key (Nn ks i) (ZdK t os (ks.take i)))=ZdK t os (ks.take (i+1)):=by
 have e:ZdK t os (ks.take (i+1))=Ze0 (ZdK t os (ks.take i)) (Nn ks i):=by
  unfold ZdK
  rw [Yf hc.1,Yf hc.1,Zo hi,Yat];rfl
 rw [e];unfold Ze0;rw [Yc (by rw [hc.2];simp)]
theorem Zoo {t:TxD} {os:List OrdD} {ks:List Int} {i:Nat} (hi:i<ks.length) (hc:¬ (t.done=true∧isK OrdD.key (Nn ks i) (ZdK t os (ks.take i))=false)):ZdK t os (ks.take i)=ZdK t os (ks.take (i+1)):=by
 unfold ZdK at hc ⊢
 by_cases hd:t.done=true
 ·rw [Yf hd] at hc
  rw [Yf hd,Yf hd,Zo hi,Yat]
  have hx:∀ X k,isK OrdD.key k X=true→Ze0 X k=X:=fun X k h=>by unfold Ze0;rw [Yf h]
  show _=Ze0 _ _
  rw [hx]
  cases h:isK OrdD.key (Nn ks i) ((ks.take i).foldl Ze0 os) with
  | true=>rfl
  | false=>exact absurd ⟨hd,h⟩ hc
 ·rw [Yc hd,Yc hd]
def ZkC (t:TxD) (o:OrdD):OrdD:=⟨o.key,if t.done=true∧0<wcnt t.ops o.key then withO o.txs t.id else withoutO o.txs t.id⟩
def settleO (t:TxD) (os:List OrdD):List OrdD:=((ZdK t os (Z7 t)).map (ZkC t)).filter fun o=>!decide (o.txs = [])
theorem Zvy {α:Type} [Inhabited α] {f:α→α} {l l2:List α} {i:Nat} (hi:i<l.length) (h:l2=(l.take i).map f++l.drop i):Nn l2 i=Nn l i∧l2.length=l.length:=by
 have h2:l2.length=l.length:=by rw [h,Yd,YG,Yi,YE];omega
 refine ⟨?_,h2⟩
 rw [nth_eq ow,nth_eq hi]
 subst h
 rw [List.getElem_append_right (by rw [YG,Yi];omega)]
 simp only [YG,Yi,List.getElem_drop]
 congr 1
 omega
theorem Zud {α:Type} [Inhabited α] {f:α→α} {l l2:List α} {i:Nat} (hi:i<l.length) (h:l2=(l.take i).map f++l.drop i):l2.set i (f (Nn l i))=(l.take (i+1)).map f++l.drop (i+1):=by
 have hd:l.drop i=Nn l i :: l.drop (i+1):=by rw [nth_eq hi];exact Ya8 hi
 rw [h,Zo hi,YO,YN,List.set_append_right _ _ (by rw [YG,Yi];omega)]
 congr 1
 have:i - ((l.take i).map f).length=0:=by rw [YG,Yi];omega
 rw [this,hd];rfl
abbrev ZsG (T TR:TypeId) (p va:Value) (os:List OrdD):HP:=HP.ex fun vb:Value=>HP.star [.pt (.val p) T [.pv (.is va),.pv (.is vb)],.ob (.val vb) (Zw TR 2 ZG os)]
theorem Zn1 {k:IntKind} {a:Int} {b:Bool} (v:Value) (w:World) (y y':Ys) (h:(PV.tup [.int k a,.bool b]).p v w y):(PV.tup [.int k a,.bool b]).p v w y':=by
 obtain ⟨vs,e,h⟩:=h
 match vs,h with
 | [_,_],h=>exact ⟨_,e,h⟩
theorem Zvw {α:Type} {R:α→List PV} {l:List PV} {l':List α} (h:Nat.ble l'.length maxLen=true) (e:ZeE l (l'.flatMap R)):Ent (.pv (.arr l'.length l)) (.pv (.sl R l')):=fun _ w y v k=>ZjH.arrSl h e v w y k
theorem Zoq (o:OrdD):FnP prog 107 [.agg (ZG o)] (.bool (decide (o.txs = []))):=by
 refine FnP.mk func107 Z ntmps107 Z fun B a w F V hfr G=>Ya ?_
 refine Zb G (qx 101 r1 qB) V [2,1] [101,0] (fun _=>rfl) (fun _=>rfl) fun τ a w F G=>?_
 try dsimp only [RS.sub,SF.sub,CF.sub,csub,Anc.sub,List.map,zCF,ZG,Zm] at G
 generalize τ 1=v1 at G
 refine Za (Ya (rZ G (qg 1 101 r1 r1 (qa 101 r1 r1 (qu Ycd r1 (qf (o_eql .t qi) r1 qz (qO rr qZ))))) V [2] [0] fun G=>Yh ?_))
 refine Zs hfr G Z Z Z (.bool (by rw [Yai];simp))
theorem ZrO (p va:Value) (os:List OrdD) (t:TxD) (hs:ZcY os) (hr:Zcq OrdD.key os) (ht:t.ops.length≤1000):FnG prog 63 1 [.is p,.agg (rTx t)] [ZsG 25 70 p va os] (.tup []) (fun _=>[ZsG 25 70 p va (settleO t os)]):=by
 refine FnG.mk func63 Z ntmps63 Z kr fun B F0 a w F V hG G=>?_
 have hso:=hs.1
 have hkl:=Zen t
 replace G:=G.turn 1 Z (r':=RS.hp (HP.ex fun vb:Value=>HP.star [.pt (.val p) 25 [.pv (.is va),.pv (.is vb)],.ob (.val vb) (Zw 70 2 ZG os)])) (fun _ _ _ _ h=>h)
 obtain ⟨vb0,G⟩:=G.open_ex 1 rfl
 obtain ⟨F,G⟩:=G.peel 1 61 Z rfl
 obtain ⟨F,G⟩:=G.peel 1 62 Z rfl
 obtain ⟨F,G⟩:=G.nM [1,0] [62,61,1,0]
 refine Ya (Zb G (qx 101 r1 qZ) V [3,0] [101,62,61,1,0] (fun _=>rfl) (fun _=>rfl) fun τ a w F G=>?_)
 try dsimp only [RS.sub,SF.sub,CF.sub,csub,Anc.sub,List.map,zCF,Zu,rTx,ZG,ZT,Zm,rOp] at G
 generalize τ 3=v3 at G
 refine Za (Ya (Ya (Ze G (qe 3 101 r1 r1 (qf (oP (ZpZ t ow) func91 (Args.one (.pagg .t))) r1 qz (qu Ycd r1 (qJ qZ)))) V [13,12,11,3,0] [101,62,61,1,0] Z Z fun a w F G=>?_)))
 rw [show Zbp ((t.ops.filter fun o=>!o.read).map OpD.key)=Z7 t from rfl] at G
 refine Za (Yg (Zj (σ:=(Nat)×(Value)×(List OrdD)) [0,3,11,12] [0,1,101] (fun s=>[(13,.pv (.int .i64 (s.1:Int)))]) (fun s=>[(61,.pt (.val p) 25 [.pv (.is va),.pv (.is s.2.1)]),(62,.ob (.val s.2.1) (Zw 70 2 ZG s.2.2))]) (fun s=>s.1≤(Z7 t).length∧(s.2.2=ZdK t os ((Z7 t).take s.1))) (fun s=>(Z7 t).length - s.1) ((0),(vb0),(os)) G ⟨rfl,rfl,rfl,rfl,rfl,tv⟩ ⟨rfl,rfl,rfl,rfl,rfl,tv⟩ ⟨Yy _,(by unfold ZdK;split <;> rfl)⟩ ?_))
 clear G;intro s a w F hC G
 obtain ⟨i,vb,ol⟩:=s
 try dsimp only at hC
 obtain ⟨F,G⟩:=G.nM [13,12,11,3,0] [101,62,61,1,0]
 try dsimp only at G
 obtain ⟨hi,hq⟩:=hC
 obtain ⟨hf1,hf2,hf3⟩:=Zg8 (t:=t) hr hs ((Z7 t).take i)
 rw [Yi,← hq] at hf2
 rw [← hq] at hf1 hf3
 have hst:=fun h=>Zpu (t:=t) (os:=os) (ks:=(Z7 t)) (i:=i) h
 have hsk:=fun h=>Zoo (t:=t) (os:=os) (ks:=(Z7 t)) (i:=i) h
 rw [← hq] at hst hsk
 have hlk:=ZhF (κ:=OrdD.key) (k:=(Nn (Z7 t) i)) ol
 refine Ya (rZ G (qL r2) V [14,13,12,11,3,0] [101,62,61,1,0] fun G=>Ya ?_)
 refine Zc G Z (fun hc0=>?_) (fun hc0=>?_)
 ·have hil:i<(Z7 t).length:=by simp at hc0;omega
  have hio:=hil
  refine Ye (Za (Ya (Yg (Ya (Ze G (qy 1 Ycd r2 (qf (oR false 1 .t) r1 qz (qO rr qZ))) V [13,12,11,5,3,0] [101,62,61,1,0] Z Z fun a w F G=>?_)))))
  try simp only [Yb] at G
  refine Za (Ya (rZ G (qR rr (qf (o_nilCheck 61 .is (by rfl)) r1 r1 (qf (oF 1 61 .adr) r1 r1 (qa 61 r1 r1 (qR rr (qf (OpC.lendRow 62 [21] (oP (Zwd ol (Nn (Z7 t) i) ow hf1 98 f98 [] func98 Z kr (fun x=>Zt3 x (Nn (Z7 t) i))) func97 (Args.three .t .t (.conv .f (Ent.fnClos)))) ⟨rfl,tv,tv⟩ (.pv Zn1) trivial (by rfl)) r2 r1 (qR rr (qf (o_extract .t Z) r1 qz (qf (o_extract .t Z) r1 qz (qO rr (qO rr qZ))))))))))) V [13,12,11,7,6,5,3,0] [101,62,61,1,0] fun G=>Ya ?_))
  refine rZ G (qg 1 101 r1 r1 (qa 101 r1 r1 (qR rr (qm Z Z Z Z (qk Z (fun h=>o_not (.w h)) r2 qz (qf (ZD .t .t) r2 qz qZ)))))) V [31,13,12,11,6,5,3,0] [101,62,61,1,0] fun G=>?_
  refine Zc G Z (fun hc1=>?_) (fun hc1=>?_)
  ·have hq9:=hst hio (by simpa using hc1)
   refine Zb G (qR rr (qR rr (qf (o_nilCheck 61 .is (by rfl)) r1 r1 (qf (oF 1 61 .adr) r1 r1 (qa 61 r1 r1 (qR rr (qR rr (qf (oB [(0,.tmp 38)] [.int .i64 0,.slice none 0 0] [(0,1),(1,1)] (.one Z .t one_int kr .nil)) r1 qz (qf (o_buildSliceE (sz:=2) (zs:=[.int .i64 0,.slice none 0 0]) (r:=[(0,.tmp 39)]) (l:=[_,_]) Ycf kr kr kr kr Z Z (.agg Z .t kr kr .nil) Z) r1 qz (qf (o_callRowN 62 (ZvO vb ol (lowK OrdD.key (Nn (Z7 t) i) ol) ⟨(Nn (Z7 t) i),[]⟩ ow hlk) func103 Z kr (Args.three .t .t (.conv .t (Zvw (l:=[.int .i64 (Nn (Z7 t) i),.is (.slice none 0 0)]) (R:=ZG) (l':=[⟨(Nn (Z7 t) i),[]⟩]) Z ⟨ZjH.refl,ZjH.nilSl,tv⟩))) pvOne1) r3 r1 (qf (o_nilCheck 61 .is (by rfl)) r1 r1 (qf (oF 1 61 .adr) r1 r1 (qf (o_storeS 61 .adr kr kr) r2 r1 qZ))))))))))))) V [13,12,11,3,0] [101,62,61,1,0] (fun _=>rfl) (fun _=>rfl) fun τ a w F G=>?_
   try dsimp only [RS.sub,SF.sub,CF.sub,csub,Anc.sub,List.map,Zf,xL,xM,Nat.reduceAdd,xD,xE,xT,xU,xC,xN,zCF,ldSF,Zu,rTx,ZG,ZT,Zm,rOp] at G
   generalize τ 41=v41 at G
   refine Zh (Za (rZ G (qp r1 (qR rr qZ)) V [13,12,11,3,0] [101,62,61,1,0] fun G=>?_))
   replace G:=G.ent (i:=13) (s':=.pv (.int .i64 ((i+1:Nat):Int))) Z (.int (Zd ow))
   obtain ⟨F,G⟩:=G.nM [12,11,3,0,13] [101,1,0,62,61]
   exact ⟨((i+1),_,_),F,⟨by omega,hq9⟩,G,by omega⟩
  have hq9:=hsk hio (by intro e;simp [e.1,e.2] at hc1)
  refine Ye (Zh (Za (rZ G (qp r1 (qR rr qZ)) V [13,12,11,3,0] [101,62,61,1,0] fun G=>?_)))
  replace G:=G.ent (i:=13) (s':=.pv (.int .i64 ((i+1:Nat):Int))) Z (.int (Zd ow))
  obtain ⟨F,G⟩:=G.nM [12,11,3,0,13] [101,1,0,62,61]
  exact ⟨((i+1),_,_),F,⟨by omega,hq9⟩,G,by omega⟩
 have hil:i=(Z7 t).length:=by simp at hc0;omega
 have hq0:ol=ZdK t os (Z7 t):=by rw [hq,hil,Yz]
 refine Yx (Zi (Zi (Zn (Za (Ya (Ya (rZ G (qR rr (qf (o_nilCheck 61 .is (by rfl)) r1 r1 (qf (oF 1 61 .adr) r1 r1 (qa 61 r1 r1 (qf (ZX 62 Ycf .is) r1 r1 (qJ qZ)))))) V [50,49,3,0] [101,62,61,1,0] fun G=>Yg ?_)))))))
 refine Zj (σ:=(Nat)×(List OrdD)) [0,3,49] [0,1,61,101] (fun s=>[(50,.pv (.int .i64 (s.1:Int)))]) (fun s=>[(62,.ob (.val vb) (Zw 70 2 ZG s.2))]) (fun s=>s.1≤ol.length∧(s.2=(ol.take s.1).map (ZkC t)++ol.drop s.1)) (fun s=>ol.length - s.1) ((0),(ol)) G ⟨rfl,rfl,rfl,rfl,tv⟩ ⟨rfl,rfl,rfl,rfl,rfl,tv⟩ ⟨Yy _,(by simp)⟩ ?_
 clear G;intro s a w F hC G
 obtain ⟨i,o2⟩:=s
 try dsimp only at hC
 obtain ⟨F,G⟩:=G.nM [50,49,3,0] [101,62,61,1,0]
 try dsimp only at G
 obtain ⟨hi,hq⟩:=hC
 have hm:=fun h=>Zvy (f:=ZkC t) (l:=ol) (i:=i) h hq
 have hms:=fun h=>Zud (f:=ZkC t) (l:=ol) (i:=i) h hq
 refine Ya (rZ G (qL r2) V [51,50,49,3,0] [101,62,61,1,0] fun G=>Ya ?_)
 refine Zc G Z (fun hc2=>?_) (fun hc2=>?_)
 ·have hil:i<ol.length:=by simp at hc2;omega
  have hio:=hil
  have hol:=hf3 _ (nth_mem hio)
  have hmn:=(hm hio).1
  have hms2:=hms hio
  have hol2:(Nn o2 i).txs.length≤1000:=by rw [hmn];exact hol
  refine Ye (Za (Ya (Yg (Ya (rZ G (qR rr (qO rr qZ)) V [50,49,8,3,0] [101,62,61,1,0] fun G=>Ya ?_)))))
  refine Ze G (qR rr (qf (o_nilCheck 61 .is (by rfl)) r1 r1 (qf (oF 1 61 .adr) r1 r1 (qa 61 r1 r1 (qR rr (qf (o_indexAddr_row (sz:=2) 62 (.mk Ycf kr) .is .t ow ow (by rfl)) r2 r1 (qO rr qZ))))))) V [50,49,9,3,0] [101,62,61,1,0] Z Z fun a w F G=>?_
  try simp only [Yb] at G
  refine Za (Ya (Zv G (qg 1 101 r1 r1 (qa 101 r1 r1 (qR rr (qk Z (fun h=>oL true 3 101 .is) r2 r1 (qm Z Z Z Z (qk Z (fun h=>o_nilCheck_row0 (sz:=2) 62 (.w h) (by intro x;rfl) (by have:=(hm hil).2;omega)) r2 r1 (qk Z (fun h=>o_fieldAddr_row (off:=0) (sz:=2) 62 (.w h) (by have:=(hm hil).2;omega) kr (by rfl)) r2 r1 (qk Z (fun h=>Zai (ag:=false) (sz':=1) (sz:=2) 62 (.w h) (by intro x;rfl) (by have:=(hm hil).2;omega) kr kr kr) r2 r1 (qk Z (fun h=>oP (Zdc t (Nn o2 i).key ow) func29 (Args.two (.pagg (.w h)) (.w h))) r3 qz (qk Z (fun h=>ZaG (.w h) qi) r2 qz (qf (ZD .t .t) r2 qz qZ))))))))))) V [69,50,49,9,3,0] [101,62,61,1,0] Z Z fun a w F G=>?_))
  try dsimp only [List.map,xD,xE,xT,xU,ldSF,Zu,rTx,ZG,ZT,Zm,rOp] at G
  refine Za (Zc G Z (fun hc3=>?_) (fun hc3=>?_))
  ·have hq9:o2.set i ⟨(Nn o2 i).key,withO (Nn o2 i).txs t.id⟩ = (ol.take (i+1)).map (ZkC t)++ol.drop (i+1):=by rw [← hms2,hmn];unfold ZkC;rw [Yf (by have h9:=hc3;unfold wcnt;simpa [hmn] using h9)]
   refine Zv G (qR rr (qR rr (qf (o_nilCheck_row0 (sz:=2) 62 .t (by intro x;rfl) (by have:=(hm hil).2;omega)) r1 r1 (qf (o_fieldAddr_row (off:=1) (sz:=2) 62 .t (by have:=(hm hil).2;omega) kr (by rfl)) r1 r1 (qf (Zai (ag:=false) (sz':=1) (sz:=2) 62 .t (by intro x;rfl) (by have:=(hm hil).2;omega) kr kr kr) r1 r1 (qg 0 101 r1 r1 (qa 101 r1 r1 (qf (oP (Ztg (Nn o2 i).txs t.id ow) func104 (Args.two .t .t)) r2 qz (qf (o_nilCheck_row0 (sz:=2) 62 .t (by intro x;rfl) (by have:=(hm hil).2;omega)) r1 r1 (qf (o_fieldAddr_row (off:=1) (sz:=2) 62 .t (by have:=(hm hil).2;omega) kr (by rfl)) r1 r1 (qf (Zdd (R:=ZG) (sz:=2) (off:=1) (v':=(⟨(Nn o2 i).key,withO (Nn o2 i).txs t.id⟩:OrdD)) 62 .t (by intro x;rfl) (by have:=(hm hil).2;omega) (by decide) .t one_sl Z kr) r2 r1 qZ))))))))))) V [50,49,3,0] [101,62,61,1,0] Z Z fun a w F G=>?_
   try dsimp only [List.map,Zf,xL,xM,Nat.reduceAdd,xD,xE,xT,xU,xC,xN,zCF,ldSF,Zu,rTx,ZG,ZT,Zm,rOp] at G
   refine Zh (Za (rZ G (qp r1 (qR rr qZ)) V [50,49,3,0] [101,62,61,1,0] fun G=>?_))
   replace G:=G.ent (i:=50) (s':=.pv (.int .i64 ((i+1:Nat):Int))) Z (.int (Zd ow))
   obtain ⟨F,G⟩:=G.nM [49,3,0,50] [101,61,1,0,62]
   exact ⟨((i+1),_),F,⟨by omega,hq9⟩,G,by omega⟩
  have hq9:o2.set i ⟨(Nn o2 i).key,withoutO (Nn o2 i).txs t.id⟩ = (ol.take (i+1)).map (ZkC t)++ol.drop (i+1):=by rw [← hms2,hmn];unfold ZkC;rw [Yc (by have h9:=hc3;unfold wcnt;intro e;rw [← hmn] at e;simp [e.1,e.2] at h9)]
  refine Zv G (qR rr (qR rr (qf (o_nilCheck_row0 (sz:=2) 62 .t (by intro x;rfl) (by have:=(hm hil).2;omega)) r1 r1 (qf (o_fieldAddr_row (off:=1) (sz:=2) 62 .t (by have:=(hm hil).2;omega) kr (by rfl)) r1 r1 (qf (Zai (ag:=false) (sz':=1) (sz:=2) 62 .t (by intro x;rfl) (by have:=(hm hil).2;omega) kr kr kr) r1 r1 (qg 0 101 r1 r1 (qa 101 r1 r1 (qf (oP (Zmy (Nn o2 i).txs t.id ow) func105 (Args.two .t .t)) r2 qz (qf (o_nilCheck_row0 (sz:=2) 62 .t (by intro x;rfl) (by have:=(hm hil).2;omega)) r1 r1 (qf (o_fieldAddr_row (off:=1) (sz:=2) 62 .t (by have:=(hm hil).2;omega) kr (by rfl)) r1 r1 (qf (Zdd (R:=ZG) (sz:=2) (off:=1) (v':=(⟨(Nn o2 i).key,withoutO (Nn o2 i).txs t.id⟩:OrdD)) 62 .t (by intro x;rfl) (by have:=(hm hil).2;omega) (by decide) .t one_sl Z kr) r2 r1 qZ))))))))))) V [50,49,3,0] [101,62,61,1,0] Z Z fun a w F G=>?_
  try dsimp only [List.map,Zf,xL,xM,Nat.reduceAdd,xD,xE,xT,xU,xC,xN,zCF,ldSF,Zu,rTx,ZG,ZT,Zm,rOp] at G
  refine Zh (Za (rZ G (qp r1 (qR rr qZ)) V [50,49,3,0] [101,62,61,1,0] fun G=>?_))
  replace G:=G.ent (i:=50) (s':=.pv (.int .i64 ((i+1:Nat):Int))) Z (.int (Zd ow))
  obtain ⟨F,G⟩:=G.nM [49,3,0,50] [101,61,1,0,62]
  exact ⟨((i+1),_),F,⟨by omega,hq9⟩,G,by omega⟩
 have hil:i=ol.length:=by simp at hc2;omega
 have hfin:(o2.filter fun o=>!decide (o.txs = []))=settleO t os:=by rw [hq,hil,Yz,List.drop_length,YR,hq0];rfl
 have ho2:o2.length=ol.length:=by rw [hq,hil];simp
 refine Yx (Zi (Zi (Zn (Za (Zb G (qR rr (qR rr (qf (o_nilCheck 61 .is (by rfl)) r1 r1 (qf (oF 1 61 .adr) r1 r1 (qa 61 r1 r1 (qf (o_callRowN 62 (ZuD vb o2 ow (fun o=>decide (o.txs = [])) 107 f107 [] func107 Z kr (fun o=>Zoq o)) func106 Z kr (Args.two .t (.conv .f (Ent.fnClos))) pvOne1) r1 r1 (qf (o_nilCheck 61 .is (by rfl)) r1 r1 (qf (oF 1 61 .adr) r1 r1 (qf (o_storeS 61 .adr kr kr) r2 r1 qZ))))))))) V [] [101,62,61,1,0] (fun _=>rfl) (fun _=>rfl) fun τ a w F G=>?_)))))
 try dsimp only [RS.sub,SF.sub,CF.sub,csub,Anc.sub,List.map,Zf,xL,xM,Nat.reduceAdd,xD,xE,xT,xU,xC,xN,zCF,ldSF,Zu,rTx,ZG,ZT,Zm,rOp] at G
 generalize τ 96=v96 at G
 obtain ⟨F,G⟩:=G.push 1 62 Z Z Z rfl
 obtain ⟨F,G⟩:=G.push 1 61 Z Z Z rfl
 have G:=G.turn 1 Z (r':=RS.hp (ZsG 25 70 p va (settleO t os))) (fun _ _ _ _ h=>⟨v96,by rw [hfin] at h;exact h⟩)
 refine Zac hG G Z .nil .none rfl
def insE (l:List Z9) (e:Z9):List Z9:=l.take (lowK Za1 (Za1 e) l) ++ [e] ++ l.drop (lowK Za1 (Za1 e) l)
theorem putE_c (v:Value) (l:List Z9) (e:Z9) (hll:l.length≤1000000) (hs:Zcq Za1 l) (hl:∀ x ∈ l,okE x) (he:okE e):FnG prog 157 1 [.is v,.agg (Zau e)] [Zw 217 3 Zau l v] (PV.one) (fun v=>[Zw 217 3 Zau (insE l e) v]):=by
 refine FnG.mk func157 Z ntmps157 Z kr fun B F0 a w F V hG G=>?_
 replace G:=G.turn 1 Z (r':=.ob (.val v) (Zw 217 3 Zau l)) (fun _ _ _ _ h=>h)
 refine Ya (Zb G (qx 101 r1 (qC qZ)) V [4,3,0] [101,1,0] (fun _=>rfl) (fun _=>rfl) fun τ a w F G=>?_)
 try dsimp only [RS.sub,SF.sub,CF.sub,csub,Anc.sub,List.map,zCF,Zau,Zav,Zm,Zan] at G
 generalize τ 3=v3 at G
 refine Za (Ya (rZ G (qR rr (qe 3 101 r1 r1 (qf (OpC.lendRow 1 [8] (oP (Zu4 l e (Za1 e) hll hs 196 f196 [] func196 Z kr (fun x hx=>Zs2 x e (hl x hx) he)) func195 (Args.three .t (.pagg .t) (.conv .f (Ent.fnClos)))) ⟨rfl,tv,tv⟩ (.pv Zn1) trivial (by rfl)) r2 r1 (qR rr (qf (o_extract .t Z) r1 qz (qf (o_extract .t Z) r1 qz (qO rr (qO rr qZ)))))))) V [5,4,3,0] [101,1,0] fun G=>Ya ?_))
 refine Zb G (qR rr (qR rr (qe 3 101 r1 r1 (qf (o_buildSliceE (sz:=3) (zs:=[.int .i64 0,.int .i64 0,.int .i64 0]) (r:=[(0,.tmp 15)]) (l:=[_,_,_]) Ych kr kr kr kr Z Z (.agg Z .t kr kr .nil) Z) r1 qz (qf (o_callRowN 1 (Zva v l (lowK Za1 (Za1 e) l) e hll (ZhF l)) func197 Z kr (Args.three .t .t (.conv .t (Ent.arrSl (R:=Zau) (l:=[e]) Z))) pvOne1) r3 r1 (qO rr qZ)))))) V [4] [1,0] (fun _=>rfl) (fun _=>rfl) fun τ a w F G=>?_
 try dsimp only [RS.sub,SF.sub,CF.sub,csub,Anc.sub,List.map,Zf,xL,xM,Nat.reduceAdd,xD,xE,xT,xU,xC,xN,zCF,ldSF,Zau,Zav,Zm,Zan] at G
 generalize τ 17=v17 at G
 have hg:insE l e=l.take (lowK Za1 (Za1 e) l) ++ [e] ++ l.drop (lowK Za1 (Za1 e) l):=rfl
 refine Za (Yh ?_)
 have G:=G.turn 1 Z (r':=RS.hp (Zw 217 3 Zau (insE l e) v17)) (fun _ _ _ _ h=>by rw [hg];exact h)
 refine Z2 (h':=fun v=>Zw 217 3 Zau (insE l e) v) hG G Z (.tmp Z .nil) (.one .one) rfl
def ZvP (L:List (List Z9)):Prop:=∀ l ∈ L,l.length≤1000000∧Zcq Za1 l ∧ ∀ e ∈ l,okE e
def Zqy (O:List (List Z9)) (x:Zx):Bool:=ZaJ O.length x && isK Za1 (Za1 (endO x)) (Nn O x.src.toNat)
theorem ZQ {n:Nat} {x:Zx} : ZaJ n x=true ↔ (0≤x.src∧x.src<n)∧(0≤x.dst∧x.dst<n)∧(1≤x.kind∧x.kind≤3)∧0≤x.label∧x.label≤1048575:=by
 unfold ZaJ
 simp only [Yt,Yq]
 constructor
 ·rintro ⟨⟨⟨⟨⟨a,b⟩,c⟩,d⟩,e⟩,f⟩;exact ⟨a,b,⟨c,d⟩,e,f⟩
 ·rintro ⟨a,b,⟨c,d⟩,e,f⟩;exact ⟨⟨⟨⟨⟨a,b⟩,c⟩,d⟩,e⟩,f⟩
theorem endO_ok {n:Nat} {x:Zx} (h:ZaJ n x=true) (hn:n≤4096):okE (endO x):=by
 obtain ⟨h1,h2,h3,h4,h5⟩:=ZQ.1 h
 exact ⟨⟨h4,h5⟩,h2.1,show x.dst≤4095 by omega⟩
theorem endI_ok {n:Nat} {x:Zx} (h:ZaJ n x=true) (hn:n≤4096):okE (endI x):=by
 obtain ⟨h1,h2,h3,h4,h5⟩:=ZQ.1 h
 exact ⟨⟨h4,h5⟩,h1.1,show x.src≤4095 by omega⟩
theorem Ztv (O I:List (List Z9)) (m:Nat) (x:Zx) (hO:ZvP O) (hn:O.length≤4096):FnP prog 155 [ZeJ O I m,.agg (Zan x)] (.bool (Zqy O x)):=by
 refine FnP.mk func155 Z ntmps155 Z fun B a w F V hfr G=>Ya ?_
 refine Zb G (qx 101 r1 qB) V [4,3,0] [101,0] (fun _=>rfl) (fun _=>rfl) fun τ a w F G=>?_
 try dsimp only [RS.sub,SF.sub,CF.sub,csub,Anc.sub,List.map,zCF,Zau,Zav,Zm,Zan] at G
 generalize τ 3=v3 at G
 refine Za (Ya (Ya (rZ G (qR rr (qe 4 101 r1 r1 (qf (oP (Zja O I m x) func154 (Args.two .t (.pagg .t))) r2 qz (qf (o_not .t) r1 qz qZ)))) V [12,4,3,0] [101,0] fun G=>?_)))
 refine Zc G Z (fun hc0=>?_) (fun hc0=>?_)
 ·have hrf:ZaJ O.length x=false:=by simpa using hc0
  have hg:false=Zqy O x:=by unfold Zqy;rw [hrf];rfl
  refine Ya (rZ G qB V [4,3,0] [101,0] fun G=>(Yh (Zk ?_)))
  refine Zs hfr G Z Z Z (.bool hg)
 have hrt:ZaJ O.length x=true:=by simpa using hc0
 obtain ⟨hs1,hs2⟩:=(ZQ.1 hrt).1
 have hg:isK Za1 (Za1 (endO x)) (Nn O x.src.toNat)=Zqy O x:=by unfold Zqy;rw [hrt,Ybf]
 refine Ye (Za (Ya (Zb G (qe 4 101 r1 r1 (qf (oP (ZlA x) func156 (Args.one (.pagg .t))) r1 qz (qR rr (qf (o_extract .t Z) r1 qz (qf (o_extract .t Z) r1 qz (qf (oH [.int .i64 0,.int .i64 0,.int .i64 0] 102) trivial qz (qf (oH [.int .i64 0,.int .i64 0,.int .i64 0] 103) trivial qz (qf (oA 3 102 .same (.conv .t .agg)) r2 r1 (qf (oA 3 103 .same (.conv .t .agg)) r2 r1 qZ))))))))) V [5,4,3,0] [102,101,0] (fun _=>rfl) (fun _=>rfl) fun τ a w F G=>?_)))
 try dsimp only [RS.sub,SF.sub,CF.sub,csub,Anc.sub,List.map,Zf,xL,xM,Nat.reduceAdd,xD,xE,xT,xU,xC,xN,zCF,ldSF,Zau,Zav,Zm,Zan] at G
 generalize τ 5=v5,τ 6=v6 at G
 refine Za (Ya (Zv G (qR rr (qf (ZC .t) r1 qz (qf (oG 0 .t) r1 qz (qf (oR false 1 .t) r1 qz (qg 0 101 r1 r1 (qa 101 r1 r1 (qy 1 Yco r2 (qf (oR false 1 .t) r1 qz (qe 3 102 r1 r1 (qf (oP (Zu4 (Nn O x.src.toNat) (endO x) (Za1 (endO x)) (hO _ (nth_mem ow)).1 (hO _ (nth_mem ow)).2.1 196 f196 [] func196 Z kr (fun z hz=>Zs2 z (endO x) ((hO _ (nth_mem ow)).2.2 z hz) (endO_ok hrt hn))) func195 (Args.three .t (.pagg .t) (.conv .f (Ent.fnClos)))) r2 qz (qR rr (qf (o_extract .t Z) r1 qz (qf (o_extract .t Z) r1 qz (qO rr (qO rr qZ))))))))))))))) V [8,4] [0] Z Z fun a w F G=>?_))
 try dsimp only [List.map,xD,xE,xT,xU,ldSF,Zau,Zav,Zm,Zan] at G
 try simp only [Yb] at G
 refine Za (Ya (rZ G (qR rr (qO rr qZ)) V [4] [0] fun G=>Yh ?_))
 refine Zs hfr G Z Z Z (.bool hg)
theorem Zv8 {α:Type} [Inhabited α] {l:List α} {k j:Nat} {v:α} (h:j<l.length):Nn (l.set k v) j=if k=j then v else Nn l j:=by
 rw [nth_eq (by simpa using h),YbX]
 split
 ·rfl
 ·exact (nth_eq h).symm
theorem ZlQ {hs:List Value} {L:List (List Z9)} {k:Nat} {v:Value} {l:List Z9} (h2:hs.length=L.length):Ze3 (hs.set k v) (L.set k l)=(Ze3 hs L).set k (v,l):=by
 apply Ya3 (by simp [Ze3])
 intro j h3 h4
 have hj:j<hs.length:=by simpa [Ze3] using h3
 simp only [Ze3,List.getElem_map,List.getElem_range,YbX]
 rw [Zv8 hj,Zv8 ow]
 split <;> rfl
def ZeW (O I:List (List Z9)) (m:Nat) (x:Zx):List (List Z9)×List (List Z9)×Nat×Int:=
 if ZaJ O.length x then if Zqy O x then (O,I,m,4) else (O.set x.src.toNat (insE (Nn O x.src.toNat) (endO x)),I.set x.dst.toNat (insE (Nn I x.dst.toNat) (endI x)),m+1,0) else (O,I,m,1)
theorem ZpJ (b:Nat) (O I:List (List Z9)) (m:Nat) (x:Zx) (hO:ZvP O) (hI:ZvP I) (hOI:I.length=O.length) (hn:O.length≤4096) (hm:m<1000000):FnG prog 116 1 [.is (Value.pointer (some { block:=b,off:=0 })),.agg (Zan x)] [ZnJ O I m (Value.pointer (some { block:=b,off:=0 }))] (.int .i64 (ZeW O I m x).2.2.2) (fun _=>[ZnJ (ZeW O I m x).1 (ZeW O I m x).2.1 (ZeW O I m x).2.2.1 (Value.pointer (some { block:=b,off:=0 }))]):=by
 refine FnG.mk func116 Z ntmps116 Z kr fun B F0 a w F V hG G=>Ya ?_
 refine Zb G (qx 101 r1 (qI qZ)) V [4,3,0] [101,1,0] (fun _=>rfl) (fun _=>rfl) fun τ a w F G=>?_
 try dsimp only [RS.sub,SF.sub,CF.sub,csub,Anc.sub,List.map,zCF,Zau,Zav,Zm,Zan] at G
 generalize τ 3=v3 at G
 refine Za (Ya (Yg (Ya (rZ G (qR rr (qe 4 101 r1 r1 (qf (OpC.lend 1 [8] Zfk (oP (Zja O I m x) func154 (Args.two .t (.pagg .t))) ⟨rfl,tv,tv⟩ (.pv (fun _ _ _ _ h=>h)) trivial (by rfl)) r2 r1 (qf (o_not .t) r1 qz (qO rr qZ))))) V [7,4,3,0] [101,1,0] fun G=>?_))))
 refine Zc G Z (fun hc0=>?_) (fun hc0=>?_)
 ·have hrf:ZaJ O.length x=false:=by simpa using hc0
  have hg:ZeW O I m x=(O,I,m,1):=by unfold ZeW;rw [hrf];rfl
  refine Ya (rZ G (qI qZ) V [4,3,0] [101,1,0] fun G=>(Yh (Zz (Zk ?_))))
  rw [hg]
  refine Zac hG G Z (.tmp Z .nil) (.one .refl) rfl
 have hrt:ZaJ O.length x=true:=by simpa using hc0
 obtain ⟨⟨hs1,hs2⟩,⟨hd1,hd2⟩,_⟩:=ZQ.1 hrt
 refine Ya (rZ G (qR rr (qe 4 101 r1 r1 (qf (OpC.lend 1 [13] Zfk (oP (Ztv O I m x hO hn) func155 (Args.two .t (.pagg .t))) ⟨rfl,tv,tv⟩ (.pv (fun _ _ _ _ h=>h)) trivial (by rfl)) r2 r1 (qO rr qZ)))) V [12,4,3,0] [101,1,0] fun G=>?_)
 refine Zc G Z (fun hc1=>?_) (fun hc1=>?_)
 ·have hht:Zqy O x=true:=hc1
  have hg:ZeW O I m x=(O,I,m,4):=by unfold ZeW;rw [hrt,hht];rfl
  refine Ya (rZ G (qI qZ) V [4,3,0] [101,1,0] fun G=>(Yh (Zz (Zk ?_))))
  rw [hg]
  refine Zac hG G Z (.tmp Z .nil) (.one .refl) rfl
 have hhf:Zqy O x=false:=hc1
 have hg:ZeW O I m x=(O.set x.src.toNat (insE (Nn O x.src.toNat) (endO x)),I.set x.dst.toNat (insE (Nn I x.dst.toNat) (endI x)),m+1,0):=by unfold ZeW;rw [hrt,hhf];rfl
 refine Ye (Zh (Za (Ya (Zb G (qe 4 101 r1 r1 (qf (oP (ZlA x) func156 (Args.one (.pagg .t))) r1 qz (qR rr (qf (o_extract .t Z) r1 qz (qf (o_extract .t Z) r1 qz (qf (oH [.int .i64 0,.int .i64 0,.int .i64 0] 102) trivial qz (qf (oH [.int .i64 0,.int .i64 0,.int .i64 0] 103) trivial qz (qf (oA 3 102 .same (.conv .t .agg)) r2 r1 (qf (oA 3 103 .same (.conv .t .agg)) r2 r1 qZ))))))))) V [6,5,4,3,0] [103,102,101,1,0] (fun _=>rfl) (fun _=>rfl) fun τ a w F G=>?_))))
 try dsimp only [RS.sub,SF.sub,CF.sub,csub,Anc.sub,List.map,Zf,xL,xM,Nat.reduceAdd,xD,xE,xT,xU,xC,xN,zCF,ldSF,Zau,Zav,Zm,Zan] at G
 generalize τ 5=v5,τ 6=v6 at G
 obtain ⟨ov,G⟩:=G.open_ex 1 rfl
 obtain ⟨iv,G⟩:=G.open_ex 1 rfl
 obtain ⟨F,G⟩:=G.peel 1 2 Z rfl
 obtain ⟨F,G⟩:=G.peel 1 3 Z rfl
 obtain ⟨F,G⟩:=G.peel 1 4 Z rfl
 obtain ⟨hs,G⟩:=G.open_ex 3 rfl
 obtain ⟨hl1,G⟩:=G.open_and 3 rfl
 obtain ⟨F,G⟩:=G.peel 3 5 Z rfl
 obtain ⟨F,G⟩:=G.peel 3 6 Z rfl
 obtain ⟨js,G⟩:=G.open_ex 4 rfl
 obtain ⟨hl2,G⟩:=G.open_and 4 rfl
 obtain ⟨F,G⟩:=G.peel 4 7 Z rfl
 obtain ⟨F,G⟩:=G.peel 4 8 Z rfl
 obtain ⟨F,G⟩:=G.nM [6,5,4,3,0] [103,102,101,8,7,6,5,2,0]
 obtain ⟨F,G⟩:=G.takeAt Znw 6 61 (x.src.toNat) Z Z (ZoO ow)
 replace G:=G.turn 61 Z (r':=.ob (.val (Nn hs x.src.toNat)) (Zw 217 3 Zau (Nn O x.src.toNat))) (fun _ _ _ _ h=>h)
 obtain ⟨F,G⟩:=G.nM [6,5,4,3,0] [103,102,101,61,8,7,6,5,2,0]
 obtain ⟨F,G⟩:=G.takeAt Znw 8 62 (x.dst.toNat) Z Z (ZoO ow)
 replace G:=G.turn 62 Z (r':=.ob (.val (Nn js x.dst.toNat)) (Zw 217 3 Zau (Nn I x.dst.toNat))) (fun _ _ _ _ h=>h)
 obtain ⟨F,G⟩:=G.nM [6,5,4,3,0] [103,102,101,62,61,8,7,6,5,2,0]
 refine Za (Ya (Zax G (qR rr (qf (o_nilCheck 2 .is (by rfl)) r1 r1 (qf (oF 0 2 .adr) r1 r1 (qa 2 r1 r1 (qg 0 101 r1 r1 (qa 101 r1 r1 (qR rr (qf (o_nilCheck 2 .is (by rfl)) r1 r1 (qf (oF 0 2 .adr) r1 r1 (qa 2 r1 r1 (qg 0 101 r1 r1 (qa 101 r1 r1 (qf (o_indexAddr_row (sz:=1) 5 (.mk Yco kr) .is .t ow ow (by rfl)) r2 r1 (qf (Zt (ag:=false) (sz':=1) (sz:=1) 5 .t (by intro x;rfl) ow kr kr kr) r1 r1 (qe 3 102 r1 r1 (qf (o_callRowN 61 (putE_c _ (Nn O x.src.toNat) (endO x) (hO _ (nth_mem ow)).1 (hO _ (nth_mem ow)).2.1 (hO _ (nth_mem ow)).2.2 (endO_ok hrt hn)) func157 Z kr (Args.two .t (.pagg .t)) pvOne1) r2 r1 (qf (o_indexAddr_row (sz:=1) 5 (.mk Yco kr) .is .t ow ow (by rfl)) r2 r1 (qf (Zmt (i:=36) (j:=36) (by rfl) (fun z=>ZH (R:=rV) (sz:=1) (v:=z) 5 .t (by intro x;rfl) ow .t Z one_is kr)) r2 r1 qZ)))))))))))))))))) V [6,4,3,0] [103,101,62,61,8,7,6,5,2,0] (fun _=>rfl) (fun _=>rfl) fun τ a w F G=>?_))
 try dsimp only [RS.sub,SF.sub,CF.sub,csub,Anc.sub,List.map,Zf,xL,xM,Nat.reduceAdd,xD,xE,xT,xU,xC,xN,zCF,ldSF,Zau,Zav,Zm,Zan] at G
 generalize τ 36=v36 at G
 try simp only [Yb] at G
 replace G:=G.turn 61 Z (r':=RS.hp (Znw (v36,insE (Nn O x.src.toNat) (endO x)))) (fun _ _ _ _ h=>h)
 obtain ⟨F,G⟩:=G.putAt Znw (L:=Ze3 hs O) (x:=(v36,insE (Nn O x.src.toNat) (endO x))) 6 61 (x.src.toNat) (by rw [Zlg];omega) Z Z rfl
 rw [← ZlQ ow] at G
 obtain ⟨F,G⟩:=G.nM [6,4,3,0] [103,101,62,8,7,6,5,2,0]
 refine Za (Ya (Zax G (qR rr (qf (o_nilCheck 2 .is (by rfl)) r1 r1 (qf (oF 1 2 .adr) r1 r1 (qa 2 r1 r1 (qg 1 101 r1 r1 (qa 101 r1 r1 (qR rr (qf (o_nilCheck 2 .is (by rfl)) r1 r1 (qf (oF 1 2 .adr) r1 r1 (qa 2 r1 r1 (qg 1 101 r1 r1 (qa 101 r1 r1 (qf (o_indexAddr_row (sz:=1) 7 (.mk Yco kr) .is .t ow ow (by rfl)) r2 r1 (qf (Zt (ag:=false) (sz':=1) (sz:=1) 7 .t (by intro x;rfl) ow kr kr kr) r1 r1 (qe 3 103 r1 r1 (qf (o_callRowN 62 (putE_c _ (Nn I x.dst.toNat) (endI x) (hI _ (nth_mem ow)).1 (hI _ (nth_mem ow)).2.1 (hI _ (nth_mem ow)).2.2 (endI_ok hrt hn)) func157 Z kr (Args.two .t (.pagg .t)) pvOne1) r2 r1 (qf (o_indexAddr_row (sz:=1) 7 (.mk Yco kr) .is .t ow ow (by rfl)) r2 r1 (qf (Zmt (i:=53) (j:=53) (by rfl) (fun z=>ZH (R:=rV) (sz:=1) (v:=z) 7 .t (by intro x;rfl) ow .t Z one_is kr)) r2 r1 qZ)))))))))))))))))) V [4,0] [62,8,7,6,5,2,0] (fun _=>rfl) (fun _=>rfl) fun τ a w F G=>?_))
 try dsimp only [RS.sub,SF.sub,CF.sub,csub,Anc.sub,List.map,Zf,xL,xM,Nat.reduceAdd,xD,xE,xT,xU,xC,xN,zCF,ldSF,Zau,Zav,Zm,Zan] at G
 generalize τ 53=v53 at G
 try simp only [Yb] at G
 replace G:=G.turn 62 Z (r':=RS.hp (Znw (v53,insE (Nn I x.dst.toNat) (endI x)))) (fun _ _ _ _ h=>h)
 obtain ⟨F,G⟩:=G.putAt Znw (L:=Ze3 js I) (x:=(v53,insE (Nn I x.dst.toNat) (endI x))) 8 62 (x.dst.toNat) (by rw [Zlg];omega) Z Z rfl
 rw [← ZlQ ow] at G
 obtain ⟨F,G⟩:=G.nM [4,0] [8,7,6,5,2,0]
 refine Za (Ya (rZ G (qR rr (qf (o_nilCheck 2 .is (by rfl)) r1 r1 (qf (oF 2 2 .adr) r1 r1 (qa 2 r1 r1 (qp r1 (qf (o_nilCheck 2 .is (by rfl)) r1 r1 (qf (oF 2 2 .adr) r1 r1 (qf (ZaM 2 .adr .t one_int kr kr) r2 r1 qZ)))))))) V [4] [8,7,6,5,2,0] fun G=>Ya ?_))
 refine rZ G (qI qZ) V [4] [8,7,6,5,2,0] fun G=>Yh ?_
 rw [Zd ow] at G
 have hl3:(hs.set x.src.toNat v36).length=(O.set x.src.toNat (insE (Nn O x.src.toNat) (endO x))).length:=by simp [hl1]
 have hl4:(js.set x.dst.toNat v53).length=(I.set x.dst.toNat (insE (Nn I x.dst.toNat) (endI x))).length:=by simp [hl2]
 have G:=G.fresh 3 rfl
 have G:=G.fresh 4 rfl
 have G:=G.fresh 1 rfl
 obtain ⟨F,G⟩:=G.push 3 6 Z Z Z kr
 obtain ⟨F,G⟩:=G.push 3 5 Z Z Z kr
 obtain ⟨F,G⟩:=G.push 4 8 Z Z Z kr
 obtain ⟨F,G⟩:=G.push 4 7 Z Z Z kr
 have G:=G.turn 3 Z (r':=RS.hp (ZiX _ ov)) (fun _ _ _ _ h=>⟨_,hl3,h⟩)
 have G:=G.turn 4 Z (r':=RS.hp (ZiX _ iv)) (fun _ _ _ _ h=>⟨_,hl4,h⟩)
 obtain ⟨F,G⟩:=G.push 1 4 Z Z Z kr
 obtain ⟨F,G⟩:=G.push 1 3 Z Z Z kr
 obtain ⟨F,G⟩:=G.push 1 2 Z Z Z kr
 have G:=G.turn 1 Z (r':=RS.hp (ZnJ (ZeW O I m x).1 (ZeW O I m x).2.1 (ZeW O I m x).2.2.1 (Value.pointer (some { block:=b,off:=0 })))) (fun _ _ _ _ h=>by rw [hg];exact ⟨_,_,h⟩)
 refine Zac hG G Z (.tmp Z .nil) (.one (.int (by rw [hg]))) rfl
def adjO (O:List (List Z9)) (mask u:Int):List Int:=if 0≤u∧u<O.length then Zbp (((Nn O u.toNat).filter fun e=>ofB mask e.kind).map Z9.node) else []
theorem dgNodesOf_c (l:List Z9) (mask:Int) (hl:l.length≤1000000):FnP prog 198 [.sl Zau l,.int .i64 mask] (.sl Zm (Zbp ((l.filter fun e=>ofB mask e.kind).map Z9.node))):=by
 refine FnP.mk func198 Z ntmps198 Z fun B a w F V hfr G=>Ya ?_
 refine rZ G (qC qZ) V [4,1,0] [0] fun G=>Ya ?_
 refine rZ G (qC qZ) V [5,4,1,0] [0] fun G=>(Ya (Ya ?_))
 refine rZ G (qR rr (qu Ych r1 (qJ qZ))) V [10,9,8,5,4,1] [0] fun G=>Yg ?_
 replace G:=G.fresh 50 rfl
 replace G:=G.turn 50 Z (ZaA (T:=3) (sz:=1) (R:=Zm))
 refine Zj (σ:=(Nat)×(Value)×(List Int)) [1,4,8,9] [0] (fun s=>[(10,.pv (.int .i64 (s.1:Int))),(5,.pv (.is s.2.1))]) (fun s=>[(50,.ob (.val s.2.1) (Zw 3 1 Zm s.2.2))]) (fun s=>s.1≤l.length∧(s.2.2=(((l.take s.1).filter fun e=>ofB mask e.kind).map Z9.node))) (fun s=>l.length - s.1) ((0),(.slice none 0 0),([])) G ⟨rfl,rfl,rfl,rfl,rfl,rfl,tv⟩ ⟨rfl,rfl,tv⟩ ⟨Yy _,rfl⟩ ?_
 clear G;intro s a w F hC G
 obtain ⟨i,v,out⟩:=s
 try dsimp only at hC
 obtain ⟨F,G⟩:=G.nM [10,9,8,5,4,1] [50,0]
 try dsimp only at G
 obtain ⟨hi,hq⟩:=hC
 have hol:out.length≤i:=by rw [hq,YG];exact Y2 (Yac _ _) (by rw [Yi];omega)
 refine Ya (rZ G (qL r2) V [11,10,9,8,5,4,1] [50,0] fun G=>Ya ?_)
 refine Zc G Z (fun hc0=>?_) (fun hc0=>?_)
 ·have hil:i<l.length:=by simp at hc0;omega
  refine Ye (Za (Ya (Yg (Ya (Zb G (qy 3 Ych r2 (qf (oR true 3 .t) r1 qz (qf (oH [.int .i64 0,.int .i64 0,.int .i64 0] 101) trivial qz (qS 3 101 r2 r1 qZ)))) V [10,9,8,7,5,4,1] [101,50,0] (fun _=>rfl) (fun _=>rfl) fun τ a w F G=>?_)))))
  try dsimp only [RS.sub,SF.sub,CF.sub,csub,Anc.sub,List.map,Zf,xL,xM,Nat.reduceAdd,xD,xE,xT,xU,xC,xN,zCF,ldSF,Zau,Zav,Zm,Zan] at G
  generalize τ 7=v7 at G
  try simp only [Yb] at G
  refine Za (Ya (rZ G (qR rr (qg 0 101 r1 r1 (qa 101 r1 r1 (qf (oP (ZsS mask (Nn l i).kind) func210 (Args.two .t .t)) r2 qz qZ)))) V [17,10,9,8,7,5,4,1] [101,50,0] fun G=>?_))
  refine Zc G Z (fun hc1=>?_) (fun hc1=>?_)
  ·have hBq:ofB mask (Nn l i).kind=true:=by simpa using hc1
   refine Zb G (qR rr (qg 2 101 r1 r1 (qa 101 r1 r1 (qf (o_buildSliceE (sz:=1) (zs:=[.int .i64 0]) (r:=[(0,.tmp 20)]) (l:=[_]) Ycd kr kr kr kr Z Z (.one Z .t one_int kr .nil) Z) r1 qz (qf (ZP (sz:=1) (bs:=8) 50 (.mk' Ycd kr kr) (by intro x;rfl) .is (.arr (l':=[_]) .t) (by simp only [Yd,Yl,Yw,Yi,YE];omega) (by decide)) ⟨rfl,rfl,tv⟩ ⟨rfl,tv⟩ (qO rr qZ)))))) V [10,9,8,5,4,1] [101,50,0] (fun _=>rfl) (fun _=>rfl) fun τ a w F G=>?_
   try dsimp only [RS.sub,SF.sub,CF.sub,csub,Anc.sub,List.map,Zf,xL,xM,Nat.reduceAdd,xD,xE,xT,xU,xC,xN,zCF,ldSF,Zau,Zav,Zm,Zan] at G
   generalize τ 22=v22 at G
   refine Zh (Za (rZ G (qp r1 (qR rr qZ)) V [10,9,8,5,4,1] [101,50,0] fun G=>?_))
   replace G:=G.ent (i:=10) (s':=.pv (.int .i64 ((i+1:Nat):Int))) Z (.int (Zd ow))
   obtain ⟨F,G⟩:=G.nM [9,8,4,1,5,10] [0,50]
   exact ⟨((i+1),_,_),F,⟨by omega,(by rw [Zo hil,Yaa,YO,← hq];simp [hBq])⟩,G,by omega⟩
  have hBq:ofB mask (Nn l i).kind=false:=by simpa using hc1
  refine Ye (Zh (Za (rZ G (qp r1 (qR rr qZ)) V [10,9,8,5,4,1] [101,50,0] fun G=>?_)))
  replace G:=G.ent (i:=10) (s':=.pv (.int .i64 ((i+1:Nat):Int))) Z (.int (Zd ow))
  obtain ⟨F,G⟩:=G.nM [9,8,4,1,5,10] [0,50]
  exact ⟨((i+1),_,_),F,⟨by omega,(by rw [Zo hil,Yaa,YO,← hq];simp [hBq])⟩,G,by omega⟩
 have hil:i=l.length:=by simp at hc0;omega
 refine Yx (Zi (Zi (Zn (Za (Ya (rZ G (qR rr (qf (Zbi 50 (ZiV _ out ow) func92 Z kr (Args.one .t)) r1 r1 qZ)) V [5,4] [50,0] fun G=>Ya ?_))))))
 refine Zb G (qR rr (qf (o_callRowN 50 (ZkD _ _ (by rw [Ybu];omega)) func179 Z kr (Args.one .t) pvOne1) r1 r1 (qO rr qZ))) V [4] [50,0] (fun _=>rfl) (fun _=>rfl) fun τ a w F G=>?_
 try dsimp only [RS.sub,SF.sub,CF.sub,csub,Anc.sub,List.map,Zau,Zav,Zm,Zan] at G
 generalize τ 27=v27 at G
 refine Za (Yh ?_)
 obtain ⟨F,G⟩:=G.give 50 4 Z rfl
 refine Zs hfr G Z Z Z (.sl (by rw [Zde,ZdL,hq,hil,Yz]))
theorem Zq8 (O I:List (List Z9)) (m:Nat) (u mask:Int) (hO:∀ l ∈ O,l.length≤1000000):FnP prog 160 [ZeJ O I m,.int .i64 u,.int .i64 mask] (.sl Zm (adjO O mask u)):=by
 refine FnP.mk func160 Z ntmps160 Z fun B a w F V hfr G=>Ya ?_
 refine rZ G (qC qZ) V [6,2,1,0] [0] fun G=>(Ya (Ya ?_))
 refine rZ G (qR rr (qR rr (qf (oP (Zd0 O I m u) func194 (Args.two .t .t)) r2 qz (qf (o_not .t) r1 qz qZ)))) V [10,6,2,1,0] [0] fun G=>?_
 refine Zc G Z (fun hc0=>?_) (fun hc0=>?_)
 ·have hg:[] = adjO O mask u:=by unfold adjO;rw [Yc (by have h9:=hc0;simp at h9;omega)]
  refine Ya (rZ G (qC qZ) V [6,2,1,0] [0] fun G=>(Yh (Zk ?_)))
  refine Zs hfr G Z Z Z (.trans .nilSl (.sl hg))
 have hth:0≤u∧u<O.length:=by simpa using hc0
 have hg:(Zbp (((Nn O u.toNat).filter fun e=>ofB mask e.kind).map Z9.node))=adjO O mask u:=by unfold adjO;rw [Yf hth]
 refine Ye (Za (Ya (Ze G (qR rr (qf (ZC .t) r1 qz (qf (oG 0 .t) r1 qz (qf (oR false 1 .t) r1 qz (qR rr (qf (o_indexAddr_sl (sz:=1) (.mk Yco kr) (by intro x;rfl) .t .t (by exact hth.1) (by exact hth.2)) r2 qz (qf (oR false 1 .t) r1 qz (qR rr (qf (oP (dgNodesOf_c (Nn O u.toNat) mask (hO _ (nth_mem ow))) func198 (Args.two .t .t)) r2 qz (qO rr qZ)))))))))) V [6] [0] Z Z fun a w F G=>?_)))
 try simp only [Yb] at G
 refine Za (Yh (Zs hfr G Z Z Z (.sl hg)))
def ZcU:Zp:=⟨[],[]⟩
theorem Zar {g:Zp} (h:ZV g):Zcq TxD.id g.txs∧Zcq OrdD.key g.orders:=by
 constructor
 ·have hi:Zdz (g.txs.map TxD.id):=Zfq fun i hi h0=>by
   have hi':i<g.txs.length:=by simpa using hi
   rw [Zcs ow,Zcs hi']
   exact (h.2.1 i hi').1 h0
  rw [ZS]
  exact YaW.1 hi
 ·have h2:=(Zdm g).2 h.2.2
  have hi:Zdz (g.orders.map OrdD.key):=Zfq fun i hi h0=>by
   have hi':i<g.orders.length:=by simpa using hi
   rw [Zcs ow,Zcs hi']
   exact (h2.2 i hi').1 h0
  rw [ZS]
  exact YaW.1 hi
def Zwj (t:TxD) (v:Zb0):Bool:=decide (v.tx=t.id) && decide ((wcnt t.ops v.key:Int)<v.nth)
def Zwh (t x:TxD):Bool:=decide (x.id≠t.id) && (ZfF x).any (Zwj t)
def Zvd (g:Zp) (t:TxD):Bool:=g.txs.any (Zwh t)
def ZgJ (g:Zp) (t:TxD) (there:Int) (wanted:Bool):Int×Int:=if ¬ ZV g then (0,5) else if ZaF t≠0 then (0,ZaF t) else if isK TxD.id t.id g.txs≠wanted then (0,there) else if Zdw g t=false then (0,6) else (lowK TxD.id t.id g.txs,0)
def ZL (g:Zp) (t:TxD):Zp×Int:=if (ZgJ g t 4 false).2≠0 then (ZcU,(ZgJ g t 4 false).2) else if g.txs.length=4096 then (ZcU,2) else (⟨g.txs.take (lowK TxD.id t.id g.txs) ++ [t] ++ g.txs.drop (lowK TxD.id t.id g.txs),settleO t g.orders⟩,0)
def ZtK (id:Int):TxD:=⟨id,false,[]⟩
def Zol (g:Zp) (id:Int):Zp×Int:=if ¬ ZV g then (ZcU,5) else if isK TxD.id id g.txs=false then (ZcU,3) else if Zvd g (ZtK id)=true then (ZcU,7) else (⟨g.txs.take (lowK TxD.id id g.txs)++g.txs.drop (lowK TxD.id id g.txs+1),settleO (ZtK id) g.orders⟩,0)
def Zs1 (g:Zp) (t:TxD):Zp×Int:=if (ZgJ g t 3 true).2≠0 then (ZcU,(ZgJ g t 3 true).2) else if Zvd g t=true then (ZcU,7) else (⟨g.txs.set (lowK TxD.id t.id g.txs) t,settleO t g.orders⟩,0)
theorem ZpM {g:Zp} {t:TxD} {there:Int} {wanted:Bool} (ht:there≠0) (h:(ZgJ g t there wanted).2=0):ZV g∧ZaF t=0∧isK TxD.id t.id g.txs=wanted∧Zdw g t=true∧(ZgJ g t there wanted).1=lowK TxD.id t.id g.txs:=by
 unfold ZgJ at h ⊢
 split at h
 ·simp at h
 ·rename_i h1
  split at h
  ·rename_i h2;exact absurd h h2
  ·rename_i h2
   split at h
   ·exact absurd h ht
   ·rename_i h3
    split at h
    ·simp at h
    ·rename_i h4
     rw [Yc h1,Yc h2,Yc h3,Yc h4]
     exact ⟨Yay.1 h1,Yay.1 h2,Yay.1 h3,by simpa using h4,rfl⟩
theorem ZtE {α:Type} [Inhabited α] {κ:α→Int} {k:Int} {l:List α} (hs:Zcq κ l) (h:isK κ k l=true):lowK κ k l<l.length∧κ (Nn l (lowK κ k l))=k:=by
 obtain ⟨x,hx,hk⟩:=YaA.1 h
 obtain ⟨q,hq,e⟩:=Yab hx
 have hk':κ (Nn l q)=k:=by rw [nth_eq hq,e];simpa using hk
 have hl:=ZdS (κ:=κ) (k:=k) (l:=l) (i:=q) (Nat.le_of_lt hq) (fun p hp=>by have:=hs p q hp hq;omega) (fun p hp hp2=>by have:=ZbK hs hp hp2;omega)
 rw [hl]
 exact ⟨hq,hk'⟩
theorem Zv3 (g:Zp) (t:TxD) (there:Int) (wanted:Bool) (hs:Za7 g) (ht:t.ops.length≤1000):FnP prog 59 [.agg (Zu g),.agg (rTx t),.int .i64 there,.bool wanted] (.tup [.int .i64 (ZgJ g t there wanted).1,.int .i64 (ZgJ g t there wanted).2]):=by
 refine FnP.mk func59 Z ntmps59 Z fun B a w F V hfr G=>?_
 have hsl:=hs.1.1
 refine Ya (Zb G (qx 101 r1 (qx 102 r1 (qI (qI qZ)))) V [9,8,5,4,3,2] [102,101,0] (fun _=>rfl) (fun _=>rfl) fun τ a w F G=>?_)
 try dsimp only [RS.sub,SF.sub,CF.sub,csub,Anc.sub,List.map,zCF,Zu,rTx,ZG,ZT,Zm,rOp] at G
 generalize τ 4=v4,τ 5=v5 at G
 refine Za (Ya (Ya (rZ G (qe 2 101 r1 r1 (qf (oP (Zfc g hs) func19 (Args.one (.pagg .t))) r1 qz (qf (o_not .t) r1 qz qZ))) V [15,9,8,5,4,3,2] [102,101,0] fun G=>?_)))
 refine Zc G Z (fun hc0=>?_) (fun hc0=>?_)
 ·have hr:¬ ZV g:=by simpa using hc0
  have hg:ZgJ g t there wanted=(0,5):=by unfold ZgJ;rw [Yf hr]
  refine Ya (rZ G (qI (qI qZ)) V [9,8,5,4,3,2] [102,101,0] fun G=>(Yh (Zk ?_)))
  refine Z5 hfr G Z (.tmp Z (.tmp Z .nil)) (.two (.int (by rw [hg])) (.int (by rw [hg])))
 have hr:ZV g:=by simpa using hc0
 have hrr:=Zar hr
 refine Ye (Za (Ya (Ya (rZ G (qe 3 102 r1 r1 (qf (oP (ZjW t) func44 (Args.one (.pagg .t))) r1 qz (qO rr qZ))) V [10,9,8,5,4,3,2] [102,101,0] fun G=>Ya ?_))))
 refine rZ G (qR rr (qf (o_neq .t qi) r1 qz qZ)) V [19,10,9,8,5,4,3,2] [102,101,0] fun G=>?_
 refine Zc G Z (fun hc1=>?_) (fun hc1=>?_)
 ·have hrt:ZaF t≠0:=by simpa using hc1
  have hg:ZgJ g t there wanted=(0,ZaF t):=by unfold ZgJ;rw [Yc (Yay.2 hr),Yf hrt]
  refine Ya (rZ G (qR rr (qI (qO rr qZ))) V [9,8,5,4,3,2] [102,101,0] fun G=>(Yh (Zk ?_)))
  refine Z5 hfr G Z (.tmp Z (.tmp Z .nil)) (.two (.int (by rw [hg])) (.int (by rw [hg])))
 have hrt:¬ ZaF t≠0:=by simpa using hc1
 refine Ye (Za (Ya (rZ G (qe 2 101 r1 r1 (qg 0 102 r1 r1 (qa 102 r1 r1 (qf (oP (ZtA g t.id hs.1 hrr.1) func64 (Args.two (.pagg .t) .t)) r2 qz (qR rr (qf (o_extract .t Z) r1 qz (qf (o_extract .t Z) r1 qz (qO rr (qO rr qZ))))))))) V [12,11,9,8,5,4,3,2] [102,101,0] fun G=>(Ya (Yg (Ya ?_))))))
 refine rZ G (qR rr (qR rr (qf (ZlZ Ycs .t .t) r2 qz (qO rr qZ)))) V [28,11,9,8,5,4,2] [102,101,0] fun G=>?_
 refine Zc G Z (fun hc2=>?_) (fun hc2=>?_)
 ·have hwt:isK TxD.id t.id g.txs≠wanted:=by simpa using hc2
  have hg:ZgJ g t there wanted=(0,there):=by unfold ZgJ;rw [Yc (Yay.2 hr),Yc hrt,Yf hwt]
  refine Ya (rZ G (qR rr (qI (qO rr qZ))) V [11,9,8] [102,101,0] fun G=>(Yh (Zz (Zk ?_))))
  refine Z5 hfr G Z (.tmp Z (.tmp Z .nil)) (.two (.int (by rw [hg])) (.int (by rw [hg])))
 have hwt:¬ isK TxD.id t.id g.txs≠wanted:=by simpa using hc2
 refine Ya (rZ G (qe 2 101 r1 r1 (qe 3 102 r1 r1 (qf (oP (Zk8 g t hs.1 ht) func45 (Args.two (.pagg .t) (.pagg .t))) r2 qz (qf (o_not .t) r1 qz (qO rr qZ))))) V [33,11,9,8] [102,101,0] fun G=>?_)
 refine Zc G Z (fun hc3=>?_) (fun hc3=>?_)
 ·have hg:ZgJ g t there wanted=(0,6):=by unfold ZgJ;rw [Yc (Yay.2 hr),Yc hrt,Yc hwt,Yf (by simpa using hc3)]
  refine Ya (rZ G (qI (qI qZ)) V [11,9,8] [102,101,0] fun G=>(Yh (Zz (Zk ?_))))
  refine Z5 hfr G Z (.tmp Z (.tmp Z .nil)) (.two (.int (by rw [hg])) (.int (by rw [hg])))
 have hg:ZgJ g t there wanted=(((lowK TxD.id t.id g.txs:Nat):Int),0):=by unfold ZgJ;rw [Yc (Yay.2 hr),Yc hrt,Yc hwt,Yc (by simpa using hc3)]
 refine Ye (Zh (Za (Ya (rZ G (qR rr (qO rr (qI qZ))) V [9,8] [102,101,0] fun G=>Yh ?_))))
 refine Z5 hfr G Z (.tmp Z (.tmp Z .nil)) (.two (.int (by rw [hg])) (.int (by rw [hg])))
theorem Zqj (g:Zp) (t:TxD) (hs:Za7 g) (ht:t.ops.length≤1000):FnP prog 27 [.agg (Zu g),.agg (rTx t)] (.tup [.agg (Zu (ZL g t).1),.int .i64 (ZL g t).2]):=by
 refine FnP.mk func27 Z ntmps27 Z fun B a w F V hfr G=>?_
 have hsl:=hs.1.1
 refine Ya (Zb G (qx 101 r1 (qx 102 r1 (qf (oH [.slice none 0 0,.slice none 0 0] 103) trivial qz (qI qZ)))) V [5,4,3,2] [103,102,101,0] (fun _=>rfl) (fun _=>rfl) fun τ a w F G=>?_)
 try dsimp only [RS.sub,SF.sub,CF.sub,csub,Anc.sub,List.map,zCF,Zu,rTx,ZG,ZT,Zm,rOp] at G
 generalize τ 2=v2,τ 3=v3,τ 4=v4 at G
 refine Za (Ya (rZ G (qe 2 101 r1 r1 (qe 3 102 r1 r1 (qf (oP (Zv3 g t 4 false hs ht) func59 (Args.four (.pagg .t) (.pagg .t) qi .cb)) r2 qz (qR rr (qf (o_extract .t Z) r1 qz (qf (o_extract .t Z) r1 qz (qO rr (qO rr qZ)))))))) V [7,6,5,4,3,2] [103,102,101,0] fun G=>(Ya (Yg (Ya ?_)))))
 refine rZ G (qR rr (qf (o_neq .t qi) r1 qz (qO rr qZ))) V [15,7,6,5,4,3,2] [103,102,101,0] fun G=>?_
 refine Zc G Z (fun hc0=>?_) (fun hc0=>?_)
 ·have hm:(ZgJ g t 4 false).2≠0:=by simpa using hc0
  have hg:ZL g t=(ZcU,(ZgJ g t 4 false).2):=by unfold ZL;rw [Yf hm]
  refine Ya (rZ G (qf (oB [] [.slice none 0 0,.slice none 0 0] [(0,1),(1,1)] .nil) trivial qz (qR rr (qs 2 103 r2 r1 (qO rr qZ)))) V [6,5,4,3,2] [103,102,101,0] fun G=>(Yh (Zz (Zk ?_))))
  refine Z5 hfr G Z (.cl 103 true 2 Z Z (.tmp Z .nil)) (.two (by rw [hg];first | exact .aggU Z Z | exact .aggLe Z ⟨ZjH.nilSl,ZjH.nilSl,tv⟩) (.int (by rw [hg])))
 have hm:¬ (ZgJ g t 4 false).2≠0:=by simpa using hc0
 obtain ⟨hr,hrt,hik,hnd,hlo⟩:=ZpM (by decide) (Yay.1 hm)
 have hrr:=Zar hr
 have hlk:=ZhF (κ:=TxD.id) (k:=t.id) g.txs
 refine Ya (rZ G (qg 0 101 r1 r1 (qa 101 r1 r1 (qu Ycg r1 (qf (o_eql .t qi) r1 qz (qO rr qZ))))) V [20,6,5,4,3,2] [103,102,101,0] fun G=>?_)
 refine Zc G Z (fun hc1=>?_) (fun hc1=>?_)
 ·have hg:ZL g t=(ZcU,2):=by unfold ZL;rw [Yc hm,Yf (by simp at hc1;omega)]
  refine Ya (rZ G (qf (oB [] [.slice none 0 0,.slice none 0 0] [(0,1),(1,1)] .nil) trivial qz (qs 2 103 r2 r1 (qI qZ))) V [6,5,4,3,2] [103,102,101,0] fun G=>(Yh (Zz (Zk ?_))))
  refine Z5 hfr G Z (.cl 103 true 2 Z Z (.tmp Z .nil)) (.two (by rw [hg];first | exact .aggU Z Z | exact .aggLe Z ⟨ZjH.nilSl,ZjH.nilSl,tv⟩) (.int (by rw [hg])))
 have hg:ZL g t=(⟨g.txs.take (lowK TxD.id t.id g.txs) ++ [t] ++ g.txs.drop (lowK TxD.id t.id g.txs),settleO t g.orders⟩,0):=by unfold ZL;rw [Yc hm,Yc (by simp at hc1;omega)]
 refine Ye (Zh (Za (Ya ?_)))
 replace G:=G.fresh 104 rfl
 refine Zb G (qe 2 101 r1 r1 (qf (ZqF 104 (Zty g hs) func60 Z kr (Args.one (.pagg .t))) r1 r1 (qf (oH [.slice none 0 0,.slice none 0 0] 105) trivial qz (qf (oA 2 105 .same (.conv .t (Ent.fnAgg (.fn (.fn .nil))))) r2 r1 qZ)))) V [8,6,5,4,3] [105,104,103,102,101,0] (fun _=>rfl) (fun _=>rfl) fun τ a w F G=>?_
 try dsimp only [RS.sub,SF.sub,CF.sub,csub,Anc.sub,List.map,Zf,xL,xM,Nat.reduceAdd,xD,xE,xT,xU,xC,xN,zCF,ldSF,Zu,rTx,ZG,ZT,Zm,rOp] at G
 generalize τ 8=v8,τ 27=v27 at G
 replace G:=G.turn 104 Z (r':=RS.hp (HP.star [.ob (.val (cellN 0 v27)) (Zw 30 3 rTx g.txs),.ob (.val (cellN 1 v27)) (Zw 70 2 ZG g.orders)])) (fun _ _ _ _ h=>h)
 obtain ⟨F,G⟩:=G.peel 104 70 Z rfl
 obtain ⟨F,G⟩:=G.peel 104 71 Z rfl
 obtain ⟨F,G⟩:=G.nM [8,6,5,4,3] [105,103,102,101,71,70,0]
 generalize cellN 0 v27=va,cellN 1 v27=vb at G
 refine Za (Ya (Zax G (qg 0 105 r1 r1 (qa 105 r1 r1 (qR rr (qe 3 102 r1 r1 (qf (oP (ZhO t ow) func62 (Args.one (.pagg .t))) r1 qz (qf (o_buildSliceE (sz:=3) (zs:=[.int .i64 0,.bool false,.slice none 0 0]) (r:=[(0,.tmp 32)]) (l:=[_,_,_]) Ycg kr kr kr kr Z Z (.agg Z (.conv .t .agg) kr kr .nil) Z) r1 qz (qf (o_callRowN 70 (Zvl va g.txs (lowK TxD.id t.id g.txs) t ow hlk) func61 Z kr (Args.three .t (.conv .t (.int hlo)) (.conv .t (Ent.arrSl (R:=rTx) (l:=[t]) Z))) pvOne1) r3 r1 (qg 0 105 r1 r1 (qf (o_storeS 105 .adr kr kr) r2 r1 qZ))))))))) V [8,5,4,3] [105,103,102,101,71,70,0] (fun _=>rfl) (fun _=>rfl) fun τ a w F G=>?_))
 try dsimp only [RS.sub,SF.sub,CF.sub,csub,Anc.sub,List.map,Zf,xL,xM,Nat.reduceAdd,xD,xE,xT,xU,xC,xN,zCF,ldSF,Zu,rTx,ZG,ZT,Zm,rOp] at G
 generalize τ 34=v34 at G
 refine Za (Ya ?_)
 replace G:=G.fresh 72 rfl
 obtain ⟨F,G⟩:=G.push 72 71 Z Z Z rfl
 obtain ⟨F,G⟩:=G.push 72 105 Z Z Z rfl
 replace G:=G.turn 72 Z (r':=RS.hp (ZsG 25 70 v8 v34 g.orders)) (fun _ _ _ _ h=>⟨vb,h⟩)
 obtain ⟨F,G⟩:=G.nM [8,5,4,3] [103,102,101,72,70,0]
 refine Ze G (qe 3 102 r1 r1 (qf (ZJ 72 (ZrO v8 v34 g.orders t hs.2 hrr.2 ht) func63 Z kr (Args.two .t (.pagg .t))) r2 r1 qZ)) V [8,5,4] [103,102,101,72,70,0] Z Z fun a w F G=>?_
 replace G:=G.turn 72 Z (r':=RS.hp (HP.ex fun vb:Value=>HP.star [.pt (.val v8) 25 [.pv (.is v34),.pv (.is vb)],.ob (.val vb) (Zw 70 2 ZG (settleO t g.orders))])) (fun _ _ _ _ h=>h)
 obtain ⟨vb2,G⟩:=G.open_ex 72 rfl
 obtain ⟨F,G⟩:=G.peel 72 73 Z rfl
 obtain ⟨F,G⟩:=G.peel 72 74 Z rfl
 obtain ⟨F,G⟩:=G.nM [8,5,4] [103,102,101,74,73,70,0]
 obtain ⟨F,G⟩:=G.giveCell 70 73 0 Z Z Z Z rfl
 try dsimp only [List.set] at G
 obtain ⟨F,G⟩:=G.nM [8,5,4] [103,102,101,74,73,0]
 obtain ⟨F,G⟩:=G.giveCell 74 73 1 Z Z Z Z rfl
 try dsimp only [List.set] at G
 obtain ⟨F,G⟩:=G.nM [8,5,4] [103,102,101,73,0]
 refine Za (Ya (rZ G (qe 2 73 r1 r1 (qs 2 103 r2 r1 (qI qZ))) V [5,4] [103,102,101,73,0] fun G=>Yh ?_))
 refine Z5 hfr G Z (.cl 103 true 2 Z Z (.tmp Z .nil)) (.two (by rw [hg];first | exact .aggU Z Z | exact .aggLe Z ⟨ZjH.nilSl,ZjH.nilSl,tv⟩) (.int (by rw [hg])))
theorem Zn0 (l:List Int) (tx place:Int):(ZrK l tx place).1.length≤l.length:=by
 unfold ZrK
 split
 ·simp
 ·split
  ·simp
  ·rename_i h1 h2
   have hr:=ZgY tx l
   have h3:(l.eraseIdx (ZaC tx l).toNat).length=l.length - 1:=by rw [List.length_eraseIdx,Yf ow]
   show (ZvV _ _ _).length≤_
   unfold ZvV
   split
   ·rw [Yd,Yl,Yi,YE];omega
   ·omega
def ZhA (g:Zp) (key:Int) (rule:List Int→List Int×Int):Zp×Int:=if ¬ ZV g then (ZcU,5) else if isK OrdD.key key g.orders=false then (ZcU,3) else if (rule (Nn g.orders (lowK OrdD.key key g.orders)).txs).2≠0 then (ZcU,(rule (Nn g.orders (lowK OrdD.key key g.orders)).txs).2) else (⟨g.txs,g.orders.set (lowK OrdD.key key g.orders) ⟨(Nn g.orders (lowK OrdD.key key g.orders)).key,(rule (Nn g.orders (lowK OrdD.key key g.orders)).txs).1⟩⟩,0)
def ZuZ (o:OrdD) (l:List Int):List Int×Int:=if l.Perm o.txs then (o.txs,0) else ([],8)
def Zsp (g:Zp) (o:OrdD):Zp×Int:=ZhA g o.key (ZuZ o)
def Zv6 (g:Zp) (key id place:Int):Zp×Int:=ZhA g key fun l=>ZrK l id place
section
set_option linter.unusedSectionVars false
variable {α:Type} {κ:α→Int} {t x:α} {l out r:List α} {d:Bool}
def ZfD (κ:α→Int) (t:α):List α→Bool→List α
 | [],d=>if d=true then [] else [t]
 | x :: l,d=>(if d=false∧κ t≤κ x then [t] else [])++(if κ x=κ t then [] else [x])++ZfD κ t l (d || decide (κ t≤κ x))
theorem ZeK:∀ l:List α,ZfD κ t l true=l.filter fun x=>!decide (κ x=κ t)
 | []=>rfl
 | x :: l=>by
  rw [ZfD,Yc (by simp),Yaw,Yb0,ZeK l]
  split
  ·rename_i h;rw [Yas (by simpa using h)];rfl
  ·rename_i h;rw [Yar (by simpa using h)];rfl
theorem Zkp {k:Int} (h:∀ x ∈ l,k<κ x):(l.filter fun x=>!decide (κ x=k))=l:=by
 rw [Ybj]
 intro x hx
 have:=h x hx
 simp;omega
theorem ZoV {k:Int} : lowK κ k (x :: l)=if κ x<k then lowK κ k l+1 else 0:=by
 unfold lowK
 split
 ·rename_i h1;rw [Ybo (by simpa using h1),Yl]
 ·rename_i h1;rw [List.takeWhile_cons_of_neg (by simpa using h1)];rfl
theorem Zdq {k:Int} : isK κ k (x :: l)=(decide (κ x=k) || isK κ k l):=by unfold isK;rw [YbQ]
theorem Zfo (hs:l.Pairwise fun a b=>κ a<κ b) (hk:isK κ (κ t) l=false):ZfD κ t l false=l.take (lowK κ (κ t) l) ++ [t] ++ l.drop (lowK κ (κ t) l):=by
 induction l with
 | nil=>rfl
 | cons x l ih=>
  rw [Yo] at hs
  rw [Zdq,YbS,YD] at hk
  rw [ZfD,Yc hk.1,ZoV]
  by_cases h:κ x<κ t
  ·rw [Yc ow,Yf h,show (false || decide (κ t≤κ x))=false by simp;omega,ih hs.2 hk.2];simp
  ·rw [Yf ⟨rfl,by omega⟩,Yc h,show (false || decide (κ t≤κ x))=true by simp;omega,ZeK,Zkp fun y hy=>by have:=hs.1 y hy;omega];simp
theorem ZpN {y:α} (h:y ∈ ZfD κ t l d):(y=t∧d=false)∨(y ∈ l∧κ y≠κ t):=by
 induction l generalizing d with
 | nil=>cases d <;> simp [ZfD] at h;exact .inl ⟨h,rfl⟩
 | cons x l ih=>
  rw [ZfD,YA,YA] at h
  rcases h with (h | h) | h
  ·split at h
   ·rename_i h1;exact .inl ⟨by simpa using h,h1.1⟩
   ·cases h
  ·split at h
   ·cases h
   ·rename_i h1
    have e:y=x:=by simpa using h
    subst e
    exact .inr ⟨by simp,h1⟩
  ·rcases ih h with ⟨h1,h2⟩ | ⟨h1,h2⟩
   ·rw [YbS] at h2;exact .inl ⟨h1,h2.1⟩
   ·exact .inr ⟨by simp [h1],h2⟩
theorem Zg5 (hs:l.Pairwise fun a b=>κ a<κ b):(ZfD κ t l d).Pairwise fun a b=>κ a<κ b:=by
 induction l generalizing d with
 | nil=>cases d <;> simp [ZfD]
 | cons x l ih=>
  rw [Yo] at hs
  have hf:=hs.2.filter fun x=>!decide (κ x=κ t)
  rw [ZfD]
  by_cases hA:d=false∧κ t≤κ x
  ·rw [Yf hA,show (d || decide (κ t≤κ x))=true by simp [hA.2],ZeK]
   have h1:∀ y ∈ l.filter (fun x=>!decide (κ x=κ t)),κ x<κ y:=fun y hy=>hs.1 y (YS.1 hy).1
   split
   ·rw [YR,YaP,Yo]
    exact ⟨fun y hy=>by have:=h1 y hy;omega,hf⟩
   ·rename_i h2
    rw [YN,YaP,YaP,Yo,Yo]
    refine ⟨fun y hy=>?_,h1,hf⟩
    rcases Yj.1 hy with rfl | hy
    ·omega
    ·have:=h1 y hy;omega
  ·rw [Yc hA,Yaw]
   have ih2:=ih (d:=d || decide (κ t≤κ x)) hs.2
   split
   ·simpa using ih2
   ·rename_i h2
    rw [YaP,Yo]
    refine ⟨fun y hy=>?_,ih2⟩
    rcases ZpN hy with ⟨rfl,h3⟩ | ⟨h3,_⟩
    ·rw [YbS] at h3
     have:=YH h3.2
     omega
    ·exact hs.1 y h3
end
def getO (os:List OrdD) (k:Int):List Int:=((os.find? fun o=>decide (o.key=k)).map OrdD.txs).getD []
theorem ZaV {o:OrdD} {os:List OrdD} {k:Int} : getO (o :: os) k=if o.key=k then o.txs else getO os k:=by
 unfold getO
 rw [Yb4]
 by_cases h:o.key=k <;> simp [h]
theorem ZdX {os:List OrdD} {k:Int} (h:∀ o ∈ os,o.key≠k):getO os k = []:=by
 unfold getO
 rw [Ybv.2 fun o ho=>by simpa using h o ho];rfl
theorem Zee {os:List OrdD} {o:OrdD} (hs:os.Pairwise fun a b=>a.key<b.key) (h:o ∈ os):getO os o.key=o.txs:=by
 induction os with
 | nil=>cases h
 | cons x os ih=>
  rw [Yo] at hs
  rw [ZaV]
  rcases Yj.1 h with rfl | h
  ·rw [Yf rfl]
  ·have:=hs.1 o h
   rw [Yc ow,ih hs.2 h]
theorem Zf3 {os:List OrdD} {k:Int} (h:getO os k≠[]):(⟨k,getO os k⟩:OrdD) ∈ os:=by
 induction os with
 | nil=>exact absurd rfl h
 | cons x os ih=>
  rw [ZaV] at h ⊢
  by_cases e:x.key=k
  ·rw [Yf e];subst e;simp
  ·rw [Yc e] at h ⊢;simp [ih h]
def NE (os:List OrdD):Prop:=∀ o ∈ os,o.txs≠[]
def ZhL (t:TxD) (l:List Int) (k:Int):List Int:=if t.done=true∧0<wcnt t.ops k then withO l t.id else withoutO l t.id
theorem Zj6 {os:List OrdD} (hs:os.Pairwise fun a b=>a.key<b.key) (k:Int):getO (os.filter fun o=>!decide (o.txs = [])) k=getO os k:=by
 induction os with
 | nil=>rfl
 | cons x os ih=>
  rw [Yo] at hs
  rw [ZaV]
  by_cases e:x.txs = []
  ·rw [Yas (by simpa using e),ih hs.2]
   split
   ·rename_i hk
    rw [e,ZdX fun o ho=>by have:=hs.1 o ho;omega]
   ·rfl
  ·rw [Yar (by simpa using e),ZaV,ih hs.2]
theorem ZsI {t:TxD} {os:List OrdD} {k:Int} : getO (os.map (ZkC t)) k=if isK OrdD.key k os=true then ZhL t (getO os k) k else []:=by
 induction os with
 | nil=>simp [getO,isK]
 | cons x os ih=>
  rw [YT,ZaV,ZaV,Zdq,ih]
  by_cases e:x.key=k
  ·subst e
   rw [Yf (show (ZkC t x).key=x.key from rfl),Yf rfl]
   simp [ZkC,ZhL]
  ·rw [Yc (show ¬ (ZkC t x).key=k from e),Yc e,YF e,YbJ]
theorem Ziz {k' k:Int} : ∀ {os:List OrdD},(os.Pairwise fun a b=>a.key<b.key)→getO (Zj3 k' os) k=getO os k
 | [],_=>by unfold Zj3;rw [ZaV];split <;> rfl
 | x :: os,h=>by
  rw [Yo] at h
  unfold Zj3
  split
  ·rw [ZaV,ZaV,Ziz h.2]
  ·split
   ·rfl
   ·rw [ZaV]
    split
    ·rename_i h1 h2 h3
     have h3:k' = k:=h3
     subst h3
     refine (ZdX fun o ho=>?_).symm
     rcases Yj.1 ho with rfl | ho
     ·exact h2
     ·have:=h.1 o ho;omega
    ·rfl
theorem Zk4 {k' k:Int} : ∀ {os:List OrdD},isK OrdD.key k (Zj3 k' os)=(isK OrdD.key k os || decide (k' = k))
 | []=>by simp [Zj3,isK]
 | x :: os=>by
  unfold Zj3
  split
  ·rw [Zdq,Zdq,Zk4,Bool.or_assoc]
  ·split
   ·rename_i h2
    rw [Zdq]
    by_cases e:k' = k
    ·simp [h2,e]
    ·simp [e]
   ·rw [Zdq,Bool.or_comm]
theorem Zlq:∀ (ks:List Int) {os:List OrdD} (k:Int),Zcq OrdD.key os→getO (ks.foldl Ze0 os) k=getO os k∧isK OrdD.key k (ks.foldl Ze0 os)=(isK OrdD.key k os || decide (k ∈ ks))
 | [],os,k,_=>by simp
 | k' :: ks,os,k,h=>by
  obtain ⟨h1,h2⟩:=Zlq ks k (insK_rise k' h)
  rw [Yan,h1,h2,ZhW k' h,Ziz (ZS.1 h),Zk4]
  refine ⟨rfl,?_⟩
  rw [Bool.or_assoc]
  congr 1
  rw [Yai]
  simp only [YaM,Yq,Yj]
  exact ⟨fun h=>h.elim (fun h=>.inl h.symm) .inr,fun h=>h.elim (fun h=>.inl h.symm) .inr⟩
theorem Zth {os:List OrdD} {k:Int} (h:isK OrdD.key k os=false):getO os k = []:=by
 refine ZdX fun o ho e=>?_
 unfold isK at h
 rw [List.any_eq_false] at h
 exact h o ho (by simpa using e)
theorem Zho {t:TxD} {os:List OrdD} (h:Zcq OrdD.key os) (k:Int):getO (settleO t os) k=ZhL t (getO os k) k:=by
 unfold settleO
 have hins:getO (ZdK t os (Z7 t)) k=getO os k∧isK OrdD.key k (ZdK t os (Z7 t))=(isK OrdD.key k os || (t.done && decide (k ∈ Z7 t)))∧Zcq OrdD.key (ZdK t os (Z7 t)):=by
  unfold ZdK
  split
  ·rename_i hd
   obtain ⟨h1,h2⟩:=Zlq (Z7 t) k h
   refine ⟨h1,by rw [h2,hd,Ybf],?_⟩
   have key:∀ (ks:List Int) (os:List OrdD),Zcq OrdD.key os→Zcq OrdD.key (ks.foldl Ze0 os):=by
    intro ks
    induction ks with
    | nil=>intro os h;exact h
    | cons k ks ih=>intro os h;exact ih _ (insK_rise k h)
   exact key _ _ h
  ·rename_i hd
   exact ⟨rfl,by simp [hd],h⟩
 obtain ⟨h1,h2,h3⟩:=hins
 have hm:((ZdK t os (Z7 t)).map (ZkC t)).Pairwise fun a b=>a.key<b.key:=YaW.2 ((ZS.1 h3).imp fun h=>h)
 rw [Zj6 hm,ZsI,h1,h2]
 split
 ·rfl
 ·rename_i hk
  simp only [YaM,not_or,Yt,Yq] at hk
  have hk1:isK OrdD.key k os=false:=by simpa using hk.1
  rw [Zth hk1]
  unfold ZhL
  rw [Yc fun h9=>hk.2 ⟨h9.1,Zc7.2 h9.2⟩];rfl
theorem Zko {t:TxD} {os:List OrdD} (h:Zcq OrdD.key os) (hs:ZcY os):(settleO t os).Pairwise (fun a b=>a.key<b.key)∧NE (settleO t os):=by
 have h3:=(Zg8 (t:=t) h hs (Z7 t)).1
 have hm:((ZdK t os (Z7 t)).map (ZkC t)).Pairwise fun a b=>a.key<b.key:=YaW.2 ((ZS.1 h3).imp fun h=>h)
 refine ⟨hm.filter _,fun o ho=>?_⟩
 have:=(YS.1 ho).2
 simpa using this
theorem Ztc {os:List OrdD} {k:Int} {i:Nat} (hi:i<os.length) (h:(Nn os i).key=k) (hq:∀ q,q<i→(Nn os q).key≠k):getO os k=(Nn os i).txs:=by
 unfold getO
 rw [List.find?_eq_some_iff_getElem.2 ⟨by simpa using h,i,hi,(nth_eq hi).symm,fun j hj=>by have:=hq j hj;rw [nth_eq ow] at this;simpa using this⟩];rfl
theorem Zti {os:List OrdD} {k:Int} (hq:∀ q,q<os.length→(Nn os q).key≠k):getO os k = []:=ZdX fun o ho=>by
 obtain ⟨j,hj,e⟩:=Yab ho
 have:=hq j hj
 rwa [nth_eq hj,e] at this
theorem Zsl {os:List OrdD} (h:ZcY os) (k:Int):(getO os k).length≤1000:=by
 by_cases e:getO os k = []
 ·rw [e];simp
 ·exact h.2 _ (Zf3 e)
theorem Zlv {l:List Z9} {e:Z9} (h:Zcq Za1 l) (hk:isK Za1 (Za1 e) l=false):Zcq Za1 (insE l e)∧(∀ s,s ∈ insE l e ↔ s ∈ l∨s=e)∧(insE l e).length=l.length+1:=by
 have hm:∀ s,s ∈ insE l e ↔ s ∈ l∨s=e:=fun s=>by
  unfold insE
  rw [YA,YA,Yk]
  constructor
  ·rintro ((h1 | h1) | h1)
   ·exact .inl (Yak h1)
   ·exact .inr h1
   ·exact .inl (Ya1 h1)
  ·rintro (h1 | h1)
   ·rw [← YaG (lowK Za1 (Za1 e) l) l,YA] at h1
    rcases h1 with h1 | h1
    ·exact .inl (.inl h1)
    ·exact .inr h1
   ·exact .inl (.inr h1)
 refine ⟨?_,hm,?_⟩
 ·unfold insE
  rw [← Zfo (ZS.1 h) hk]
  exact ZS.2 (Zg5 (ZS.1 h))
 ·have:=ZhF (κ:=Za1) (k:=Za1 e) l
  unfold insE
  simp only [Yd,Yi,YE,YM]
  omega
def Zs9 (L:List (List Z9)) (m:Nat):Prop:=∀ l ∈ L,l.length≤m∧Zcq Za1 l ∧ ∀ e ∈ l,okE e
theorem Zs9.r {L:List (List Z9)} {m:Nat} (h:Zs9 L m) (hm:m≤1000000):ZvP L:=fun l hl=>⟨Y2 (h l hl).1 hm,(h l hl).2⟩
theorem Zs9.set {L:List (List Z9)} {m k:Nat} {e:Z9} (h:Zs9 L m) (hk:k<L.length) (he:okE e) (hn:isK Za1 (Za1 e) (Nn L k)=false):Zs9 (L.set k (insE (Nn L k) e)) (m+1):=fun l hl=>by
 rcases List.mem_or_eq_of_mem_set hl with h1 | rfl
 ·exact ⟨Nat.le_succ_of_le (h l h1).1,(h l h1).2⟩
 ·obtain ⟨a1,a2,a3⟩:=h _ (nth_mem hk)
  obtain ⟨b1,b2,b3⟩:=Zlv a2 hn
  exact ⟨by omega,b1,fun s hs=>((b2 s).1 hs).elim (a3 s) fun h9=>h9 ▸ he⟩
theorem Zpr {l:List Z9} {e:Z9} (hl:∀ s ∈ l,okE s) (he:okE e):isK Za1 (Za1 e) l=true ↔ e ∈ l:=by
 unfold isK
 rw [YaA]
 constructor
 ·rintro ⟨s,h1,h2⟩;exact keyE_inj (hl s h1) he (Yr h2) ▸ h1
 ·exact fun h=>⟨e,h,Yag rfl⟩
structure ZbO (n:Nat) (E:List Zx) (O I:List (List Z9)):Prop where
 ol:O.length=n
 il:I.length=n
 on:Zs9 O E.length
 inn:Zs9 I E.length
 ok:∀ x ∈ E,ZaJ n x=true
 om:∀ u:Nat,u<n → ∀ e,e ∈ Nn O u ↔ ∃ x ∈ E,x.src=(u:Int)∧endO x=e
 im:∀ u:Nat,u<n → ∀ e,e ∈ Nn I u ↔ ∃ x ∈ E,x.dst=(u:Int)∧endI x=e
theorem ZbO.outK {n:Nat} {E:List Zx} {O I:List (List Z9)} {x:Zx} (h:ZbO n E O I) (hn:n≤4096) (hx:ZaJ n x=true):isK Za1 (Za1 (endO x)) (Nn O x.src.toNat)=true ↔ x ∈ E:=by
 obtain ⟨⟨s1,s2⟩,⟨d1,d2⟩,_⟩:=ZQ.1 hx
 have hu:x.src.toNat<n:=by omega
 rw [Zpr (h.on _ (nth_mem (by rw [h.ol];exact hu))).2.2 (endO_ok hx hn),h.om _ hu]
 constructor
 ·rintro ⟨y,y1,y2,y3⟩
  have e:y=x:=by
   cases y;cases x
   simp only [endO,Z9.mk.injEq] at y3
   simp only at y2 s1
   obtain ⟨a,b,c⟩:=y3
   rw [YaO s1] at y2
   subst a;subst b;subst c;subst y2;rfl
  exact e ▸ y1
 ·exact fun k=>⟨x,k,by rw [YaO s1],rfl⟩
theorem ZbO.has {n:Nat} {E:List Zx} {O I:List (List Z9)} {x:Zx} (h:ZbO n E O I) (hn:n≤4096):Zqy O x=true ↔ ZaJ n x=true∧x ∈ E:=by
 unfold Zqy
 rw [h.ol,Yt]
 exact ⟨fun k=>⟨k.1,(h.outK hn k.1).1 k.2⟩,fun k=>⟨k.1,(h.outK hn k.1).2 k.2⟩⟩
theorem ZbO.inK {n:Nat} {E:List Zx} {O I:List (List Z9)} {x:Zx} (h:ZbO n E O I) (hn:n≤4096) (hx:ZaJ n x=true):isK Za1 (Za1 (endI x)) (Nn I x.dst.toNat)=true ↔ x ∈ E:=by
 obtain ⟨⟨s1,s2⟩,⟨d1,d2⟩,_⟩:=ZQ.1 hx
 have hu:x.dst.toNat<n:=by omega
 rw [Zpr (h.inn _ (nth_mem (by rw [h.il];exact hu))).2.2 (endI_ok hx hn),h.im _ hu]
 constructor
 ·rintro ⟨y,y1,y2,y3⟩
  have e:y=x:=by
   cases y;cases x
   simp only [endI,Z9.mk.injEq] at y3
   simp only at y2 d1
   obtain ⟨a,b,c⟩:=y3
   rw [YaO d1] at y2
   subst a;subst b;subst c;subst y2;rfl
  exact e ▸ y1
 ·exact fun k=>⟨x,k,by rw [YaO d1],rfl⟩
theorem Zlw {n:Nat} {E:List Zx} {L:List (List Z9)} {x:Zx} {f:Zx→Int} {g:Zx→Z9} (hl:L.length=n) (hm:∀ u:Nat,u<n → ∀ e,e ∈ Nn L u ↔ ∃ x ∈ E,f x=(u:Int)∧g x=e) (h0:0≤f x) (hr:Zcq Za1 (Nn L (f x).toNat)) (hk:isK Za1 (Za1 (g x)) (Nn L (f x).toNat)=false) :
  ∀ u:Nat,u<n → ∀ e,e ∈ Nn (L.set (f x).toNat (insE (Nn L (f x).toNat) (g x))) u ↔ ∃ y ∈ E ++ [x],f y=(u:Int)∧g y=e:=fun u hu e=>by
 rw [Zv8 ow]
 have hex:(∃ y ∈ E ++ [x],f y=(u:Int)∧g y=e) ↔ (∃ y ∈ E,f y=(u:Int)∧g y=e)∨(f x=(u:Int)∧g x=e):=by
  constructor
  ·rintro ⟨y,y1,y2⟩
   rcases YA.1 y1 with y1 | y1
   ·exact .inl ⟨y,y1,y2⟩
   ·rw [Yk.1 y1] at y2;exact .inr y2
  ·rintro (⟨y,y1,y2⟩ | k)
   ·exact ⟨y,Yaf _ y1,y2⟩
   ·exact ⟨x,by simp,k⟩
 rw [hex]
 by_cases hc:(f x).toNat=u
 ·rw [Yf hc,(Zlv hr hk).2.1,hc,hm u hu]
  constructor
  ·rintro (k | k)
   ·exact .inl k
   ·exact .inr ⟨by omega,k.symm⟩
  ·rintro (k | k)
   ·exact .inl k
   ·exact .inr k.2.symm
 ·rw [Yc hc,hm u hu]
  exact ⟨.inl,fun k=>k.elim id fun k=>absurd ow hc⟩
theorem ZbO.add {n:Nat} {E:List Zx} {O I:List (List Z9)} {x:Zx} (h:ZbO n E O I) (hn:n≤4096) (hx:ZaJ n x=true) (hne:x ∉ E):ZbO n (E ++ [x]) (O.set x.src.toNat (insE (Nn O x.src.toNat) (endO x))) (I.set x.dst.toNat (insE (Nn I x.dst.toNat) (endI x))):=by
 have ko:=Bool.eq_false_iff.2 (fun k=>hne ((h.outK hn hx).1 k))
 have ki:=Bool.eq_false_iff.2 (fun k=>hne ((h.inK hn hx).1 k))
 obtain ⟨⟨s1,s2⟩,⟨d1,d2⟩,_⟩:=ZQ.1 hx
 have hl:=h.ol
 have hl2:=h.il
 have so:x.src.toNat<O.length:=by omega
 have si:x.dst.toNat<I.length:=by omega
 refine ⟨by simp [hl],by simp [hl2],?_,?_,fun y hy=>?_,?_,?_⟩
 ·rw [Yd];exact h.on.set so (endO_ok hx hn) ko
 ·rw [Yd];exact h.inn.set si (endI_ok hx hn) ki
 ·rcases YA.1 hy with hy | hy
  ·exact h.ok y hy
  ·rw [Yk.1 hy];exact hx
 ·exact Zlw (f:=Zx.src) (g:=endO) hl h.om s1 (h.on _ (nth_mem so)).2.1 ko
 ·exact Zlw (f:=Zx.dst) (g:=endI) hl2 h.im d1 (h.inn _ (nth_mem si)).2.1 ki
theorem ZbO.next {n:Nat} {E:List Zx} {O I:List (List Z9)} (h:ZbO n E O I) (mask u:Int):Zdz (adjO O mask u) ∧ ∀ v,v ∈ adjO O mask u ↔ ∃ x ∈ E,x.src=u∧ofB mask x.kind=true∧x.dst=v:=by
 by_cases hu:0≤u∧u<O.length
 ·unfold adjO
  rw [Yf hu]
  refine ⟨(ZW _).1,fun v=>?_⟩
  rw [(ZW _).2,Yu]
  constructor
  ·rintro ⟨e,h1,h2⟩
   obtain ⟨h3,h4⟩:=YS.1 h1
   obtain ⟨x,x1,x2,rfl⟩:=(h.om u.toNat (by have:=h.ol;omega) e).1 h3
   exact ⟨x,x1,by omega,h4,h2⟩
  ·rintro ⟨x,x1,x2,x3,x4⟩
   exact ⟨endO x,YS.2 ⟨(h.om u.toNat (by have:=h.ol;omega) _).2 ⟨x,x1,by omega,rfl⟩,x3⟩,x4⟩
 ·unfold adjO
  rw [Yc hu]
  refine ⟨List.Pairwise.nil,fun v=>⟨fun k=>(by cases k),?_⟩⟩
  rintro ⟨x,x1,x2,_⟩
  have:=(ZQ.1 (h.ok x x1)).1
  have:=h.ol
  exact absurd ⟨by omega,by omega⟩ hu
def Zjs (n:Nat) (E:List Zx) (x:Zx):List Zx:=if ZaJ n x=true∧x ∉ E then E ++ [x] else E
theorem Zrx {n:Nat} {E:List Zx} {x y:Zx} : y ∈ Zjs n E x ↔ y ∈ E∨(y=x∧ZaJ n y=true):=by
 unfold Zjs
 split
 ·rename_i h
  rw [YA,Yk]
  exact ⟨fun k=>k.elim .inl fun e=>.inr ⟨e,e ▸ h.1⟩,fun k=>k.elim .inl fun e=>.inr e.1⟩
 ·rename_i h
  refine ⟨.inl,fun k=>k.elim id fun ⟨e,hr⟩=>?_⟩
  subst e
  exact Ybw fun hx=>h ⟨hr,hx⟩
theorem ZhE {n:Nat} : ∀ {L E:List Zx} {y:Zx},y ∈ L.foldl (Zjs n) E ↔ y ∈ E∨(y ∈ L∧ZaJ n y=true)
 | [],E,y=>by simp
 | x :: L,E,y=>by
  rw [Yan,ZhE,Zrx,Yj]
  constructor
  ·rintro ((h | ⟨h,k⟩) | ⟨h,k⟩)
   ·exact .inl h
   ·exact .inr ⟨.inl h,k⟩
   ·exact .inr ⟨.inr h,k⟩
  ·rintro (h | ⟨h | h,k⟩)
   ·exact .inl (.inl h)
   ·exact .inl (.inr ⟨h,k⟩)
   ·exact .inr ⟨h,k⟩
theorem ZpI {n:Nat} (E:List Zx) (x:Zx):(Zjs n E x).length≤E.length+1:=by
 unfold Zjs;split <;> simp
theorem Zej {n:Nat} : ∀ (L E:List Zx),(L.foldl (Zjs n) E).length≤E.length+L.length
 | [],E=>YL _
 | x :: L,E=>by
  have h1:=Zej (n:=n) L (Zjs n E x)
  have h2:=ZpI (n:=n) E x
  rw [Yan,Yl];omega
theorem ZbO.new (n:Nat):ZbO n [] (List.replicate n []) (List.replicate n []):=by
 have hn:∀ u:Nat,u<n→Nn (List.replicate n ([]:List Z9)) u = []:=fun u hu=>by
  rw [nth_eq (by simpa using hu)];simp
 have hd:Zs9 (List.replicate n []) ([]:List Zx).length:=fun l hl=>by
  rw [(List.mem_replicate.1 hl).2];exact ⟨YL _,ZS.2 .nil,fun e h=>by cases h⟩
 exact ⟨by simp,by simp,hd,hd,(fun x h=>by cases h),(fun u hu e=>by rw [hn u hu];simp),(fun u hu e=>by rw [hn u hu];simp)⟩
theorem ZbO.step {n:Nat} {E:List Zx} {O I:List (List Z9)} (h:ZbO n E O I) (hn:n≤4096) (x:Zx) (m:Nat):ZbO n (Zjs n E x) (ZeW O I m x).1 (ZeW O I m x).2.1∧(ZeW O I m x).2.2.1≤m+1:=by
 unfold ZeW Zjs
 rw [h.ol]
 by_cases hr:ZaJ n x=true
 ·rw [Yf hr]
  by_cases hx:x ∈ E
  ·rw [Yf ((h.has hn).2 ⟨hr,hx⟩),Yc (fun k=>k.2 hx)];exact ⟨h,Nat.le_succ _⟩
  ·rw [Yc (fun k=>hx ((h.has hn).1 k).2),Yf ⟨hr,hx⟩];exact ⟨h.add hn hr hx,YL _⟩
 ·rw [Yc hr,Yc (fun k=>hr k.1)];exact ⟨h,Nat.le_succ _⟩
theorem Zpd (l:List Zg) (hl:l.length≤1000000):FnG prog 124 1 [.sl Zq l] [.star []] (PV.one) (fun v=>[Zw 42 4 Zq l v]):=by
 refine FnG.mk func124 Z ntmps124 Z kr fun B F0 a w F V hG G=>?_
 obtain ⟨F,G⟩:=G.nM [0] [0]
 refine Ya (rZ G (qC qZ) V [2,0] [0] fun G=>(Ya (Ya ?_)))
 refine Ze G (qR rr (qf (ZbA Yce .t) r1 qz qZ)) V [4,2,0] [0] Z Z fun a w F G=>?_
 obtain ⟨β4,hβ4,G⟩:=G.pickBool 4 rfl
 obtain ⟨F,G⟩:=G.nM [4,2,0] [0]
 refine Za (Zc G Z (fun hc0=>?_) (fun hc0=>?_))
 ·have hg:l = []:=hβ4 hc0
  refine Ya (rZ G (qC qZ) V [2,0] [0] fun G=>(Yh (Zk ?_)))
  have G:=G.fresh 1 rfl
  have G:=G.turn 1 Z (ZaA (T:=42) (sz:=4) (R:=Zq))
  have G:=G.turn 1 Z (r':=RS.hp (Zw 42 4 Zq l (.slice none 0 0))) (fun _ _ _ _ h=>by rw [hg];exact h)
  refine Z2 (h':=fun v=>Zw 42 4 Zq l v) hG G Z (.tmp Z .nil) (.one .one) rfl
 have hg:l = [] ++ l:=rfl
 refine Ye (Za (Ya (Zb G (qf (Za4 (R:=Zq) (sz:=4) 101 Yce kr) trivial qz (qR rr (qf (ZP (sz:=4) (bs:=32) 101 (.mk' Yce kr kr) (by intro x;rfl) .same (.sl .t) (by simp only [Yd,Yw];omega) (by decide)) ⟨rfl,rfl,tv⟩ ⟨rfl,tv⟩ (qO rr qZ)))) V [2] [101,0] (fun _=>rfl) (fun _=>rfl) fun τ a w F G=>?_)))
 try dsimp only [RS.sub,SF.sub,CF.sub,csub,Anc.sub,List.map,Zf,xL,xM,Nat.reduceAdd,xD,xE,xT,xU,xC,xN,zCF,Zq] at G
 generalize τ 7=v7 at G
 refine Za (Yh ?_)
 obtain ⟨F,G⟩:=G.rename 101 1 Z rfl
 have G:=G.turn 1 Z (r':=RS.hp (Zw 42 4 Zq l v7)) (fun _ _ _ _ h=>by rw [hg];exact h)
 refine Z2 (h':=fun v=>Zw 42 4 Zq l v) hG G Z (.tmp Z .nil) (.one .one) rfl
theorem ZkP (v:Value) (l:List Zg) (hll:l.length≤1000000):FnG prog 175 1 [.is v] [Zw 42 4 Zq l v] (PV.one) (fun v=>[Zw 42 4 Zq (Zr l) v]):=by
 refine FnG.mk func175 Z ntmps175 Z kr fun B F0 a w F V hG G=>?_
 replace G:=G.turn 1 Z (r':=.ob (.val v) (Zw 42 4 Zq l)) (fun _ _ _ _ h=>h)
 refine Ya (rZ G (qC qZ) V [2,0] [1,0] fun G=>(Ya (Ya ?_)))
 refine rZ G (qR rr (qf (ZX 1 Yce .is) r1 r1 (qf (ZaD .t qi) r1 qz qZ))) V [8,2,0] [1,0] fun G=>?_
 refine Zc G Z (fun hc0=>?_) (fun hc0=>?_)
 ·have hg:(Zr l)=l:=Zb2 (by simp at hc0;omega)
  refine Ya (rZ G (qR rr (qO rr qZ)) V [2,0] [1,0] fun G=>(Yh (Zk ?_)))
  have G:=G.turn 1 Z (r':=RS.hp (Zw 42 4 Zq (Zr l) v)) (fun _ _ _ _ h=>by rw [hg];exact h)
  refine Z2 (h':=fun v=>Zw 42 4 Zq (Zr l) v) hG G Z (.tmp Z .nil) (.one .one) rfl
 have hl2:2≤l.length:=by simp at hc0;omega
 refine Ye (Za (Ya (Ya (rZ G (qI qZ) V [3,2,0] [1,0] fun G=>Yg ?_))))
 refine Zj (σ:=Nat) [0,2] [0,1] (fun s=>[(3,.pv (.int .i64 (s:Int)))]) (fun s=>[]) (fun s=>1≤s∧s≤l.length∧Zr (l.take s)=l.take s) (fun s=>l.length - s) (1) G ⟨rfl,rfl,rfl,tv⟩ ⟨rfl,rfl,tv⟩ ⟨by omega,by omega,Zb2 (by rw [Yi];omega)⟩ ?_
 clear G;intro k a w F hC G
 try dsimp only at hC
 obtain ⟨F,G⟩:=G.nM [3,2,0] [1,0]
 try dsimp only at G
 obtain ⟨hk1,hkl,hkc⟩:=hC
 have hkw:IntKind.wrap .i64 ((k:Int) - 1)=(k:Int) - 1:=Zy ow
 refine Ya (Ya (rZ G (qR rr (qR rr (qf (ZX 1 Yce .is) r1 r1 (qL r2)))) V [13,3,2,0] [1,0] fun G=>?_))
 refine Zc G Z (fun hc1=>?_) (fun hc1=>?_)
 ·have hil:k<l.length:=by simp at hc1;omega
  have hst:=Zbu (l:=l) hk1 hil
  have hy0:(IntKind.wrap .i64 ((k:Int) - 1)).toNat=k - 1:=by rw [hkw];omega
  refine Ye (Za (Ya (Yg (Ya (Zv G (qR rr (qR rr (qf (o_indexAddr_row (sz:=4) 1 (.mk Yce kr) .is .t ow ow (by rfl)) r2 r1 (qf (Zt (ag:=true) (sz':=4) (sz:=4) 1 .t (by intro x;rfl) ow kr kr kr) r1 r1 (qR rr (qR rr (qf (o_sub .t qi) r1 qz (qf (o_indexAddr_row (sz:=4) 1 (.mk Yce kr) .is .t (by rw [hkw];omega) (by rw [hkw];omega) (by rfl)) r2 r1 (qf (Zt (ag:=true) (sz':=4) (sz:=4) 1 .t (by intro x;rfl) (by rw [hkw];omega) kr kr kr) r1 r1 (qf (o_eqlS (ks:=[true,true,true,true]) kr .t .t (.int (.int (.int (.int .nil))))) r2 qz qZ)))))))))) V [25,3,2,0] [1,0] Z Z fun a w F G=>?_)))))
  try dsimp only [List.map,xD,xE,xT,xU,ldSF,Zq] at G
  try simp only [Yb] at G
  refine Za (Zc G Z (fun hc2=>?_) (fun hc2=>?_))
  ·have heq:Nn l (k - 1)=Nn l k:=by rw [hy0] at hc2;simp only [Zvb] at hc2;simp at hc2;exact hc2.symm
   rw [Yf heq,hkc] at hst
   have hst0:=hst.symm
   refine Ya (rZ G (qR rr (qR rr (qf (Z6 (sz:=4) 1 (.mk Yce kr) .is .t ow ow) r2 r1 (qO rr qZ)))) V [4,3,2,0] [1,0] fun G=>(Ya (Ya ?_)))
   refine rZ G (qI qZ) V [5,4,3,2,0] [1,0] fun G=>Yg ?_
   have hC0:1≤1∧1≤l.length - k∧k≤k∧k≤k+1 - 1∧l.length=l.length∧l.take k=Zr (l.take (k+1)) ∧ ∀ q,k+1 - 1≤q→q<l.length→Nn l q=Nn l q:=⟨by omega,by omega,by omega,by omega,rfl,hst0,fun q _ _=>rfl⟩
   refine Zj (σ:=Nat×Nat×List Zg) [0,2,4] [0] (fun s=>[(3,.pv (.int .i64 (s.1:Int))),(5,.pv (.int .i64 (s.2.1:Int)))]) (fun s=>[(1,.ob (.val v) (Zw 42 4 Zq s.2.2))]) (fun s=>1≤s.2.1∧s.2.1≤l.length - k∧k≤s.1∧s.1≤k+s.2.1 - 1∧s.2.2.length=l.length∧s.2.2.take s.1=Zr (l.take (k+s.2.1)) ∧ ∀ q,k+s.2.1 - 1≤q→q<l.length→Nn s.2.2 q=Nn l q) (fun s=>l.length - s.2.1) ((k),(1),(l)) G ⟨rfl,rfl,rfl,rfl,rfl,tv⟩ ⟨rfl,rfl,tv⟩ hC0 ?_
   clear G;intro s a w F hC G
   obtain ⟨k1,j,l1⟩:=s
   try dsimp only at hC
   obtain ⟨F,G⟩:=G.nM [5,4,3,2,0] [1,0]
   try dsimp only at G
   obtain ⟨hj1,hjk,hkk,hkj,hl1,htk,hrest⟩:=hC
   have hjw:IntKind.wrap .i64 ((j:Int) - 1)=(j:Int) - 1:=Zy ow
   refine Ya (Ya (rZ G (qR rr (qR rr (qf (ZiG 1 Yce .t ow) r1 r1 (qL r2)))) V [32,5,4,3,2,0] [1,0] fun G=>?_))
   refine Zc G Z (fun hc3=>?_) (fun hc3=>?_)
   ·have hjl:k+j<l.length:=by simp at hc3;omega
    have hx1:(Nn l1 (((k:Int)).toNat+((j:Int)).toNat))=Nn l (k+j):=by rw [Yb,Yb];exact hrest _ ow hjl
    have hx0:Nn l1 (((k:Int)).toNat+(IntKind.wrap .i64 ((j:Int) - 1)).toNat)=Nn l (k+j - 1):=by rw [hjw,show ((k:Int)).toNat+((j:Int) - 1).toNat=k+j - 1 by omega];exact hrest _ ow ow
    have hstp:=Zbu (l:=l) (p:=k+j) ow hjl
    refine Ye (Za (Ya (Yg (Ya (Zv G (qR rr (qR rr (qf (o_indexAddr_sub (sz:=4) 1 (.mk Yce kr) .t .t ow ow (by rfl)) r2 r1 (qf (Zt (ag:=true) (sz':=4) (sz:=4) 1 .t (by intro x;rfl) ow kr kr kr) r1 r1 (qR rr (qR rr (qf (o_sub .t qi) r1 qz (qf (o_indexAddr_sub (sz:=4) 1 (.mk Yce kr) .t .t (by rw [hjw];omega) (by rw [hjw];omega) (by rfl)) r2 r1 (qf (Zt (ag:=true) (sz':=4) (sz:=4) 1 .t (by intro x;rfl) (by rw [hjw];omega) kr kr kr) r1 r1 (qf (o_neqS (ks:=[true,true,true,true]) kr .t .t (.int (.int (.int (.int .nil))))) r2 qz qZ)))))))))) V [44,5,4,3,2,0] [1,0] Z Z fun a w F G=>?_)))))
    try dsimp only [List.map,xD,xE,xT,xU,ldSF,Zq] at G
    try simp only [Yb] at G
    refine Za (Zc G Z (fun hc4=>?_) (fun hc4=>?_))
    ·have hne:¬ Nn l (k+j - 1)=Nn l (k+j):=by rw [← hx1,← hx0];simp only [Zvb] at hc4;simp at hc4 ⊢;exact fun e=>hc4 e.symm
     rw [Yc hne] at hstp
     obtain ⟨i2,hi2e⟩:∃ i2,i2=k1+1:=⟨_,rfl⟩
     have hi2:IntKind.wrap .i64 ((k1:Int)+1)=(i2:Int):=by rw [hi2e];exact Zd ow
     obtain ⟨l2,hl2e⟩:∃ l2,l2=l1.set k1 (Nn l1 (k+j)):=⟨_,rfl⟩
     have hx1b:Nn l1 (k+j)=Nn l (k+j):=hrest _ ow hjl
     have hC2:1≤j+1∧j+1≤l.length - k∧k≤i2∧i2≤k+(j+1) - 1∧l2.length=l.length∧l2.take i2=Zr (l.take (k+(j+1))) ∧ ∀ q,k+(j+1) - 1≤q→q<l.length→Nn l2 q=Nn l q:=⟨by omega,by omega,by omega,by omega,by rw [hl2e,YJ];exact hl1,by rw [hl2e,hi2e,Zo (by rw [YJ];omega),YbH (YL _),htk,nth_eq (by rw [YJ];omega),Yba,hx1b];exact hstp.symm,fun q hq hq2=>by rw [hl2e,nth_eq (by rw [YJ];omega),YbI ow,← nth_eq ow];exact hrest q ow hq2⟩
     refine Ya (Ze G (qR rr (qR rr (qR rr (qR rr (qf (o_indexAddr_sub (sz:=4) 1 (.mk Yce kr) .t .t ow ow (by rfl)) r2 r1 (qf (Zt (ag:=true) (sz':=4) (sz:=4) 1 .t (by intro x;rfl) ow kr kr kr) r1 r1 (qf (o_indexAddr_row (sz:=4) 1 (.mk Yce kr) .is .t ow ow (by rfl)) r2 r1 (qf (ZdM (sz:=4) 1 .t (by intro x;rfl) ow (.conv .t (Ent.aggU (l:=Zq (Nn l1 (((k:Int)).toNat+((j:Int)).toNat))) Z Z)) kr) r2 r1 qZ)))))))) V [5,4,3,2,0] [1,0] Z Z fun a w F G=>?_)
     try simp only [Yb] at G
     rw [← hl2e] at G
     refine Za (Ze G (qR rr (qp r1 (qO rr qZ))) V [5,4,3,2,0] [1,0] Z Z fun a w F G=>Zh (Za ?_))
     refine rZ G (qR rr (qp r1 (qO rr qZ))) V [5,4,3,2,0] [1,0] fun G=>?_
     have hmu:l.length - (j+1)<l.length - j:=by omega
     replace G:=G.ent (i:=3) (s':=.pv (.int .i64 (i2:Int))) Z (.int hi2)
     replace G:=G.ent (i:=5) (s':=.pv (.int .i64 ((j+1:Nat):Int))) Z (.int (Zd ow))
     obtain ⟨F,G⟩:=G.nM [4,2,0,5,3] [0,1]
     exact ⟨((i2),(j+1),(l2)),F,hC2,G,hmu⟩
    have heq2:Nn l (k+j - 1)=Nn l (k+j):=by rw [← hx1,← hx0];simp only [Zvb] at hc4;simp at hc4 ⊢;exact hc4.symm
    rw [Yf heq2] at hstp
    obtain ⟨i2,hi2e⟩:∃ i2,i2=k1:=⟨_,rfl⟩
    have hi2:(k1:Int)=(i2:Int):=by rw [hi2e]
    obtain ⟨l2,hl2e⟩:∃ l2,l2=l1:=⟨_,rfl⟩
    rw [← hl2e] at G
    have hC2:1≤j+1∧j+1≤l.length - k∧k≤i2∧i2≤k+(j+1) - 1∧l2.length=l.length∧l2.take i2=Zr (l.take (k+(j+1))) ∧ ∀ q,k+(j+1) - 1≤q→q<l.length→Nn l2 q=Nn l q:=⟨by omega,by omega,by omega,by omega,by rw [hl2e];exact hl1,by rw [hl2e,hi2e,htk];exact hstp.symm,fun q hq hq2=>by rw [hl2e];exact hrest q ow hq2⟩
    refine Ye (Zh (Za (rZ G (qR rr (qp r1 (qO rr qZ))) V [5,4,3,2,0] [1,0] fun G=>?_)))
    have hmu:l.length - (j+1)<l.length - j:=by omega
    replace G:=G.ent (i:=3) (s':=.pv (.int .i64 (i2:Int))) Z (.int hi2)
    replace G:=G.ent (i:=5) (s':=.pv (.int .i64 ((j+1:Nat):Int))) Z (.int (Zd ow))
    obtain ⟨F,G⟩:=G.nM [4,2,0,5,3] [0,1]
    exact ⟨((i2),(j+1),(l2)),F,hC2,G,hmu⟩
   have hjl:k+j=l.length:=by simp at hc3;omega
   have hg:(Zr l)=(l1.take k1++List.replicate (l1.length - k1) noE).take k1:=by rw [YY (by rw [Yi];omega),YaS,Yb7,htk,hjl,Yz]
   refine Yx (Zi (Zi (Zn (Za (Ya (rZ G (qR rr (qR rr (qf (Z6 (sz:=4) 1 (.mk Yce kr) .is .t ow ow) r2 r1 (qf (ZbF (R:=Zq) (z:=noE) (zs:=[.int .i64 0,.int .i64 0,.int .i64 0,.int .i64 0]) 1 Yce kr Z Z ZrF (by intro x;rfl) .t (by simp;omega)) r1 r1 qZ)))) V [3,2,0] [1,0] fun G=>Ya ?_))))))
   refine Zb G (qR rr (qR rr (qf (ZbI (sz:=4) 1 (.mk Yce kr) (by intro x;rfl) .is .t ow (by simp;omega)) r2 r1 (qO rr qZ)))) V [3,2,0] [1,0] (fun _=>rfl) (fun _=>rfl) fun τ a w F G=>?_
   try dsimp only [RS.sub,SF.sub,CF.sub,csub,Anc.sub,List.map,Zq] at G
   generalize τ 59=v59 at G
   refine Za (Yh (Zz (Zk (Zk (Zz (Zk ?_))))))
   have G:=G.turn 1 Z (r':=RS.hp (Zw 42 4 Zq (Zr l) v59)) (fun _ _ _ _ h=>by rw [hg];exact h)
   refine Z2 (h':=fun v=>Zw 42 4 Zq (Zr l) v) hG G Z (.tmp Z .nil) (.one .one) rfl
  have hne:¬ Nn l (k - 1)=Nn l k:=by rw [hy0] at hc2;simp only [Zvb] at hc2;simp at hc2;exact fun e=>hc2 e.symm
  rw [Yc hne] at hst
  refine Ye (Zh (Za (rZ G (qR rr (qp r1 (qO rr qZ))) V [3,2,0] [1,0] fun G=>?_)))
  replace G:=G.ent (i:=3) (s':=.pv (.int .i64 ((k+1:Nat):Int))) Z (.int (Zd ow))
  obtain ⟨F,G⟩:=G.nM [2,0,3] [1,0]
  exact ⟨(k+1),F,⟨by omega,by omega,by rw [hst,hkc,← Zo hil]⟩,G,by omega⟩
 have hg:(Zr l)=l:=by rw [show k=l.length by simp at hc1;omega,Yz] at hkc;exact hkc
 refine Yx (Zi (Zi (Zn (Za (Ya (rZ G (qR rr (qO rr qZ)) V [2] [1,0] fun G=>Yh ?_))))))
 have G:=G.turn 1 Z (r':=RS.hp (Zw 42 4 Zq (Zr l) v)) (fun _ _ _ _ h=>by rw [hg];exact h)
 refine Z2 (h':=fun v=>Zw 42 4 Zq (Zr l) v) hG G Z (.tmp Z .nil) (.one .one) rfl
def Zh1:Go.Shelf.Ren:=⟨fun | 6=>173 | 15=>142 | 14=>211 | 28=>189 | 29=>190 | 20=>232 | 21=>233 | 22=>234 | 23=>235 | 24=>236 | 25=>237 | 26=>238 | 27=>239 | 46=>249 | 47=>213 | 48=>214 | 49=>250 | 50=>251 | 57=>256 | n=>n,fun | 22=>31 | 24=>42 | 25=>245 | 3=>3 | 39=>162 | 0=>0 | 53=>260 | 55=>175 | 4=>4 | 46=>253 | 45=>252 | 50=>43 | 5=>5 | 9=>9 | 66=>290 | 70=>294 | 76=>309 | 77=>107 | n=>n,fun  | n=>n⟩
theorem Zo9:Go.Proofs.SlLaysF0.n6 prog Zh1 where
 mixed:=by kernel_rfl
 f6:=⟨f173.name,by kernel_rfl,func173.trans (Y1 some kr)⟩
 f14:=⟨f211.name,by kernel_rfl,func211.trans (Y1 some kr)⟩
 f15:=func142.trans (Y1 some kr)
 f20:=⟨f232.name,by kernel_rfl,func232.trans (Y1 some kr)⟩
 f21:=⟨f233.name,by kernel_rfl,func233.trans (Y1 some kr)⟩
 f22:=⟨f234.name,by kernel_rfl,func234.trans (Y1 some kr)⟩
 f23:=⟨f235.name,by kernel_rfl,func235.trans (Y1 some kr)⟩
 f24:=⟨f236.name,by kernel_rfl,func236.trans (Y1 some kr)⟩
 f25:=⟨f237.name,by kernel_rfl,func237.trans (Y1 some kr)⟩
 f26:=⟨f238.name,by kernel_rfl,func238.trans (Y1 some kr)⟩
 f27:=⟨f239.name,by kernel_rfl,func239.trans (Y1 some kr)⟩
 f28:=func189.trans (Y1 some kr)
 f29:=func190.trans (Y1 some kr)
 f46:=⟨f249.name,by kernel_rfl,func249.trans (Y1 some kr)⟩
 f47:=func213.trans (Y1 some kr)
 f48:=func214.trans (Y1 some kr)
 f49:=⟨f250.name,by kernel_rfl,func250.trans (Y1 some kr)⟩
 f50:=⟨f251.name,by kernel_rfl,func251.trans (Y1 some kr)⟩
 f57:=⟨f256.name,by kernel_rfl,func256.trans (Y1 some kr)⟩
 t0:=underlying0
 a0:=Tryz.isAgg0
 z0:=Tryz.sizeOf0
 v0:=Tryz.zeroValue0
 t3:=Ycl
 a3:=Tryz.isAgg3
 z3:=Tryz.sizeOf3
 v3:=Tryz.zeroValue3
 t4:=Ycs
 a4:=Tryz.isAgg4
 z4:=Tryz.sizeOf4
 v4:=Tryz.zeroValue4
 t5:=underlying5
 a5:=Tryz.isAgg5
 z5:=Tryz.sizeOf5
 v5:=Tryz.zeroValue5
 t9:=Yct
 a9:=Tryz.isAgg9
 z9:=Tryz.sizeOf9
 v9:=Tryz.zeroValue9
 t22:=Yce
 a22:=Tryz.isAgg31
 z22:=Tryz.sizeOf31
 v22:=Tryz.zeroValue31
 t25:=underlying245
 a25:=Tryz.isAgg245
 z25:=Tryz.sizeOf245
 v25:=Tryz.zeroValue245
 t39:=Yck
 a39:=Tryz.isAgg162
 z39:=Tryz.sizeOf162
 v39:=Tryz.zeroValue162
 t45:=underlying252
 a45:=Tryz.isAgg252
 z45:=Tryz.sizeOf252
 v45:=Tryz.zeroValue252
 t46:=underlying253
 a46:=Tryz.isAgg253
 z46:=Tryz.sizeOf253
 v46:=Tryz.zeroValue253
 t50:=underlying43
 a50:=Tryz.isAgg43
 z50:=Tryz.sizeOf43
 v50:=Tryz.zeroValue43
 t53:=underlying260
 a53:=Tryz.isAgg260
 z53:=Tryz.sizeOf260
 v53:=Tryz.zeroValue260
 t55:=Ycu
 a55:=Tryz.isAgg175
 z55:=Tryz.sizeOf175
 v55:=Tryz.zeroValue175
 t66:=underlying290
 a66:=Tryz.isAgg290
 z66:=Tryz.sizeOf290
 v66:=Tryz.zeroValue290
 t70:=underlying294
 a70:=Tryz.isAgg294
 z70:=Tryz.sizeOf294
 v70:=Tryz.zeroValue294
 t76:=underlying309
 a76:=Tryz.isAgg309
 z76:=Tryz.sizeOf309
 v76:=Tryz.zeroValue309
 t77:=underlying107
 a77:=Tryz.isAgg107
 z77:=Tryz.sizeOf107
 v77:=Tryz.zeroValue107
theorem Zwt (x:Int) (w:World):Calls prog 151 #[.int .i64 x] w fun e w'=>e = .returned (.bool false)∧w' = w:=by
 go_enter func151,ntmps151
 go_wp2
 go_ret
 exact ⟨by simp,rfl⟩
theorem ZvQ (x y:Int) (w:World):Calls prog 110 #[.int .i64 x,.int .i64 y] w fun e w'=>e = .returned (.int .i64 (Zdb x y))∧w' = w:=by
 go_enter func110,ntmps110
 go_wp2_with (go_at_call 151;refine (Zwt _ _).mono ?_;rintro e w' ⟨rfl,rfl⟩)
 all_goals (go_ret;refine ⟨?_,rfl⟩;unfold Zdb; (repeat' split) <;> first | rfl | (exfalso;omega))
theorem Zwa {a:Int} (h:(a != 0)=true):¬ a=0:=by simpa using h
theorem Ztj {a:Int} (h:(a != 0)=false):a=0:=by simpa using h
theorem ZuJ {x y:Zg} (h:(Zdb x.src y.src != 0)=true):cmpE x y=Zdb x.src y.src:=by unfold cmpE Ze9 ZgG;rw [Yc (fun e=>Zwa h (ZcM.2 e))]
theorem ZtB {x y:Zg} (h0:(Zdb x.src y.src != 0)=false) (h:(Zdb x.kind y.kind != 0)=true):cmpE x y=Zdb x.kind y.kind:=by unfold cmpE Ze9 ZgG;rw [Yf (ZcM.1 (Ztj h0))];unfold ZgG;rw [Yc (fun e=>Zwa h (ZcM.2 e))]
theorem Zuo {x y:Zg} (h0:(Zdb x.src y.src != 0)=false) (h1:(Zdb x.kind y.kind != 0)=false) (h:(Zdb x.key y.key != 0)=true):cmpE x y=Zdb x.key y.key:=by unfold cmpE Ze9 ZgG;rw [Yf (ZcM.1 (Ztj h0))];unfold ZgG;rw [Yf (ZcM.1 (Ztj h1))];unfold ZgG;rw [Yc (fun e=>Zwa h (ZcM.2 e))]
theorem ZpS {x y:Zg} (h0:(Zdb x.src y.src != 0)=false) (h1:(Zdb x.kind y.kind != 0)=false) (h2:(Zdb x.key y.key != 0)=false):cmpE x y=Zdb x.dst y.dst:=by
 unfold cmpE Ze9 ZgG;rw [Yf (ZcM.1 (Ztj h0))];unfold ZgG;rw [Yf (ZcM.1 (Ztj h1))];unfold ZgG;rw [Yf (ZcM.1 (Ztj h2))];unfold ZgG
 by_cases h:x.dst=y.dst
 ·rw [Yf h,ZcM.2 h];rfl
 ·rw [Yc h]
theorem Ztd {x y:Zg} (h0:(Zdb x.src y.src != 0)=false) (h1:(Zdb x.kind y.kind != 0)=false) (h2:(Zdb x.key y.key != 0)=false) (h3:(Zdb x.dst y.dst != 0)=false):cmpE x y=0:=by rw [ZpS h0 h1 h2];exact Ztj h3
def objs4 (x y:Zg):Array Obj:=#[Obj.cells #[.int .i64 x.src,.int .i64 x.dst,.int .i64 x.kind,.int .i64 x.key] 42,Obj.cells #[.int .i64 y.src,.int .i64 y.dst,.int .i64 y.kind,.int .i64 y.key] 42,Obj.cells #[.int .i64 x.src,.int .i64 x.kind,.int .i64 x.key,.int .i64 x.dst] 289,Obj.cells #[.int .i64 y.src,.int .i64 y.kind,.int .i64 y.key,.int .i64 y.dst] 289]
theorem ZqS (x y:Zg) (w:World):Calls prog 174 #[.agg #[.int .i64 x.src,.int .i64 x.dst,.int .i64 x.kind,.int .i64 x.key],.agg #[.int .i64 y.src,.int .i64 y.dst,.int .i64 y.kind,.int .i64 y.key]] w fun e w'=>e = .returned (.int .i64 (cmpE x y)) ∧ ∃ q,w' = { w.drewN q with heap:=w.heap++objs4 x y } := by
 go_enter func174,ntmps174
 go_wp2
 have hw1:((((w.alloc (Obj.cells #[.int .i64 x.src,.int .i64 x.dst,.int .i64 x.kind,.int .i64 x.key] 42)).alloc (Obj.cells #[.int .i64 y.src,.int .i64 y.dst,.int .i64 y.kind,.int .i64 y.key] 42)).alloc (Obj.cells #[.int .i64 x.src,.int .i64 x.kind,.int .i64 x.key,.int .i64 x.dst] 289)).alloc (Obj.cells #[.int .i64 y.src,.int .i64 y.kind,.int .i64 y.key,.int .i64 y.dst] 289)) = { w with heap:=w.heap++objs4 x y } := by
  have e:∀ (w:World) (o:Obj),w.alloc o = { w with heap:=w.heap.push o } := fun _ _=>rfl
  simp only [e,objs4]
  congr 1
 rw [hw1]
 clear hw1
 have ka:∀ j v,(#[Value.int .i64 x.src,.int .i64 x.kind,.int .i64 x.key,.int .i64 x.dst])[j]? = some v→({ w with heap:=w.heap++objs4 x y } : World).cell? ⟨w.heap.size+1+1,j,none⟩ = some v:=by
  intro j v hj
  rw [Z0 (vs:=#[Value.int .i64 x.src,.int .i64 x.kind,.int .i64 x.key,.int .i64 x.dst]) (T:=289) (fr:=(0,0)) (by show (w.heap++objs4 x y)[w.heap.size+1+1]? = _;rw [Array.getElem?_append_right ow,show w.heap.size+1+1 - w.heap.size=2 by omega];rfl)]
  exact hj
 have kb:∀ j v,(#[Value.int .i64 y.src,.int .i64 y.kind,.int .i64 y.key,.int .i64 y.dst])[j]? = some v→({ w with heap:=w.heap++objs4 x y } : World).cell? ⟨w.heap.size+1+1+1,j,none⟩ = some v:=by
  intro j v hj
  rw [Z0 (vs:=#[Value.int .i64 y.src,.int .i64 y.kind,.int .i64 y.key,.int .i64 y.dst]) (T:=289) (fr:=(0,0)) (by show (w.heap++objs4 x y)[w.heap.size+1+1+1]? = _;rw [Array.getElem?_append_right ow,show w.heap.size+1+1+1 - w.heap.size=3 by omega];rfl)]
  exact hj
 have a0:({ w with heap:=w.heap++objs4 x y } : World).cell? ⟨w.heap.size+1+1,0,none⟩ = some (.int .i64 x.src):=ka 0 _ rfl
 have a1:({ w with heap:=w.heap++objs4 x y } : World).cell? ⟨w.heap.size+1+1,1,none⟩ = some (.int .i64 x.kind):=ka 1 _ rfl
 have a2:({ w with heap:=w.heap++objs4 x y } : World).cell? ⟨w.heap.size+1+1,2,none⟩ = some (.int .i64 x.key):=ka 2 _ rfl
 have a3:({ w with heap:=w.heap++objs4 x y } : World).cell? ⟨w.heap.size+1+1,3,none⟩ = some (.int .i64 x.dst):=ka 3 _ rfl
 have b0:({ w with heap:=w.heap++objs4 x y } : World).cell? ⟨w.heap.size+1+1+1,0,none⟩ = some (.int .i64 y.src):=kb 0 _ rfl
 have b1:({ w with heap:=w.heap++objs4 x y } : World).cell? ⟨w.heap.size+1+1+1,1,none⟩ = some (.int .i64 y.kind):=kb 1 _ rfl
 have b2:({ w with heap:=w.heap++objs4 x y } : World).cell? ⟨w.heap.size+1+1+1,2,none⟩ = some (.int .i64 y.key):=kb 2 _ rfl
 have b3:({ w with heap:=w.heap++objs4 x y } : World).cell? ⟨w.heap.size+1+1+1,3,none⟩ = some (.int .i64 y.dst):=kb 3 _ rfl
 clear ka kb
 have hfin:∀ q (w':World),w' = ({ w with heap:=w.heap++objs4 x y } : World).drewN q → ∃ q,w' = { w.drewN q with heap:=w.heap++objs4 x y } := fun q w' e=>⟨q,e⟩
 generalize ({ w with heap:=w.heap++objs4 x y } : World)=w1 at *
 generalize w.heap.size=n0 at *
 refine wp_loop_rounds 5 ?_
 rw [YbK]
 go_wp2
 go_quiet ((go_at_call 110;refine Calls.quiet_of_same (ZvQ _ _ _)))
 go_wp2
 ·go_ret
  exact ⟨Y1 (fun z=>Ending.returned (.int .i64 z)) (ZuJ (by assumption)).symm,hfin _ _ rfl⟩
 have hfin1:∀ q (w':World),w' = (w1.drewN nq).drewN q → ∃ q,w' = { w.drewN q with heap:=w.heap++objs4 x y } := fun q w' e=>hfin (nq+q) w' (by rw [e,World.drewN_drewN])
 have a1':(w1.drewN nq).cell? ⟨n0+1+1,1,none⟩ = some (.int .i64 x.kind):=a1
 have b1':(w1.drewN nq).cell? ⟨n0+1+1+1,1,none⟩ = some (.int .i64 y.kind):=b1
 have a2':(w1.drewN nq).cell? ⟨n0+1+1,2,none⟩ = some (.int .i64 x.key):=a2
 have b2':(w1.drewN nq).cell? ⟨n0+1+1+1,2,none⟩ = some (.int .i64 y.key):=b2
 have a3':(w1.drewN nq).cell? ⟨n0+1+1,3,none⟩ = some (.int .i64 x.dst):=a3
 have b3':(w1.drewN nq).cell? ⟨n0+1+1+1,3,none⟩ = some (.int .i64 y.dst):=b3
 clear hfin a0 b0 a1 b1 a2 b2 a3 b3
 generalize w1.drewN nq=w2 at *
 rw [YbK]
 go_wp2
 go_quiet ((go_at_call 110;refine Calls.quiet_of_same (ZvQ _ _ _)))
 go_wp2
 ·go_ret
  exact ⟨Y1 (fun z=>Ending.returned (.int .i64 z)) (ZtB (by assumption) (by assumption)).symm,hfin1 _ _ rfl⟩
 have hfin2:∀ q (w':World),w' = (w2.drewN nq).drewN q → ∃ q,w' = { w.drewN q with heap:=w.heap++objs4 x y } := fun q w' e=>hfin1 (nq+q) w' (by rw [e,World.drewN_drewN])
 have a2'':(w2.drewN nq).cell? ⟨n0+1+1,2,none⟩ = some (.int .i64 x.key):=a2'
 have b2'':(w2.drewN nq).cell? ⟨n0+1+1+1,2,none⟩ = some (.int .i64 y.key):=b2'
 have a3'':(w2.drewN nq).cell? ⟨n0+1+1,3,none⟩ = some (.int .i64 x.dst):=a3'
 have b3'':(w2.drewN nq).cell? ⟨n0+1+1+1,3,none⟩ = some (.int .i64 y.dst):=b3'
 clear hfin1 a1' b1' a2' b2' a3' b3'
 generalize w2.drewN nq=w3 at *
 rw [YbK]
 go_wp2
 go_quiet ((go_at_call 110;refine Calls.quiet_of_same (ZvQ _ _ _)))
 go_wp2
 ·go_ret
  exact ⟨Y1 (fun z=>Ending.returned (.int .i64 z)) (Zuo (by assumption) (by assumption) (by assumption)).symm,hfin2 _ _ rfl⟩
 have hfin3:∀ q (w':World),w' = (w3.drewN nq).drewN q → ∃ q,w' = { w.drewN q with heap:=w.heap++objs4 x y } := fun q w' e=>hfin2 (nq+q) w' (by rw [e,World.drewN_drewN])
 have a3''':(w3.drewN nq).cell? ⟨n0+1+1,3,none⟩ = some (.int .i64 x.dst):=a3''
 have b3''':(w3.drewN nq).cell? ⟨n0+1+1+1,3,none⟩ = some (.int .i64 y.dst):=b3''
 clear hfin2 a2'' b2'' a3'' b3''
 generalize w3.drewN nq=w4 at *
 rw [YbK]
 go_wp2
 go_quiet ((go_at_call 110;refine Calls.quiet_of_same (ZvQ _ _ _)))
 go_wp2
 ·go_ret
  exact ⟨Y1 (fun z=>Ending.returned (.int .i64 z)) (ZpS (by assumption) (by assumption) (by assumption)).symm,hfin3 _ _ rfl⟩
 have hfin4:∀ q (w':World),w' = (w4.drewN nq).drewN q → ∃ q,w' = { w.drewN q with heap:=w.heap++objs4 x y } := fun q w' e=>hfin3 (nq+q) w' (by rw [e,World.drewN_drewN])
 clear hfin3 a3''' b3'''
 generalize w4.drewN nq=w5 at *
 rw [YbK]
 go_wp2
 go_ret
 exact ⟨Y1 (fun z=>Ending.returned (.int .i64 z)) (Ztd (by assumption) (by assumption) (by assumption) (by assumption)).symm,hfin4 0 _ rfl⟩
def ZeZ (e:Zg):List Value:=[.int .i64 e.src,.int .i64 e.dst,.int .i64 e.kind,.int .i64 e.key]
theorem ZhU:∀ (l:List Zg) (j:Nat),(l.flatMap ZeZ)[j]? = if j<l.length*4 then some ((ZeZ l[j / 4]!)[j % 4]!) else none
 | [],j=>by simp
 | e :: l,j=>by
  rw [YZ]
  by_cases hj:j<4
  ·rw [List.getElem?_append_left (by simpa [ZeZ] using hj),Yf (by simp;omega),show j / 4=0 by omega,show j % 4=j by omega]
   match j,hj with
   | 0,_=>rfl
   | 1,_=>rfl
   | 2,_=>rfl
   | 3,_=>rfl
  ·obtain ⟨k,rfl⟩:∃ k,j=k+4:=⟨j - 4,by omega⟩
   rw [List.getElem?_append_right (by simp [ZeZ]),show k+4 - (ZeZ e).length=k by simp [ZeZ],ZhU l k,show (k+4) / 4=k / 4+1 by omega,show (k+4) % 4=k % 4 by omega]
   by_cases h:k<l.length*4
   ·rw [Yf h,Yf (by simp;omega)];simp
   ·rw [Yc h,Yc (by simp;omega)]
theorem Zhw (l:List Zg):(Go.Sort.flatK ZeZ 4 l.toArray).toList=l.flatMap ZeZ:=by
 apply List.ext_getElem?
 intro j
 rw [ZhU]
 by_cases h:j<l.length*4
 ·rw [Yf h];simp [Go.Sort.flatK,h]
 ·rw [Yc h];simp [Go.Sort.flatK];omega
def inE (e:Zg):Prop:=inR .i64 e.src∧inR .i64 e.dst∧inR .i64 e.kind∧inR .i64 e.key
theorem Zjl {w:World} {y:Ys} : ∀ {l:List Zg} {xs:List Value},PVs (l.flatMap Zq) xs w y→xs=l.flatMap ZeZ ∧ ∀ e ∈ l,inE e
 | [],[],_=>⟨rfl,fun x hx=>by cases hx⟩
 | [],_ :: _,h=>h.elim
 | e :: l,[],h=>h.elim
 | e :: l,[_],h=>h.2.elim
 | e :: l,[_,_],h=>h.2.2.elim
 | e :: l,[_,_,_],h=>h.2.2.2.elim
 | e :: l,a :: b :: c :: d :: xs,h=>by
  have h1:a = .int .i64 e.src∧inR .i64 e.src:=h.1.2
  have h2:b = .int .i64 e.dst∧inR .i64 e.dst:=h.2.1.2
  have h3:c = .int .i64 e.kind∧inR .i64 e.kind:=h.2.2.1.2
  have h4:d = .int .i64 e.key∧inR .i64 e.key:=h.2.2.2.1.2
  obtain ⟨h5,h6⟩:=Zjl (l:=l) (xs:=xs) h.2.2.2.2
  exact ⟨by rw [h1.1,h2.1,h3.1,h4.1,h5];rfl,fun z hz=>by rcases Yj.1 hz with rfl | hz;exact ⟨h1.2,h2.2,h3.2,h4.2⟩;exact h6 z hz⟩
theorem ZeQ {w:World} {y:Ys} : ∀ {l:List Zg},(∀ e ∈ l,inE e)→PVs (l.flatMap Zq) (l.flatMap ZeZ) w y
 | [],_=>trivial
 | e :: l,h=>by
  have h1:=h e (by simp)
  exact ⟨⟨rfl,rfl,h1.1⟩,⟨rfl,rfl,h1.2.1⟩,⟨rfl,rfl,h1.2.2.1⟩,⟨rfl,rfl,h1.2.2.2⟩,ZeQ fun z hz=>h z (by simp [hz])⟩
theorem swoE:Go.Sort.SWO (Go.Proofs.ltOf cmpE) where
 irrefl x:=Zb4.irr x
 trans x y z h1 h2:=Zb4.tr x y z h1 h2
 ntrans x y z h1 h2:=by
  have h1:ltE x y=false:=h1
  have h2:ltE y z=false:=h2
  show ltE x z=false
  rw [ZkE] at *
  omega
theorem Zju {w:World} {g n:Nat} {d:List Value} {os:Array Obj} {cur:Array Value} {e:TypeId} (hg:w.heap[g]? = some (.cells cur e (0,0))) (b:Nat) (hb:b<w.heap.size) :
  (Go.Sort.grow (Go.Sort.putRow id (Go.Sort.ahead w n) g 0 d.toArray) os).heap[b]? = if b=g then some (.cells (Go.Sort.putCells id 0 d.toArray cur) e (0,0)) else w.heap[b]?:=by
 unfold Go.Sort.grow Go.Sort.putRow Go.Sort.mapBlock Go.Sort.ahead
 simp only
 rw [Array.getElem?_append_left (by simpa using hb),Array.getElem?_modify]
 by_cases h:g=b
 ·subst h
  rw [Yf rfl,Yf rfl,hg];rfl
 ·rw [Yc h,Yc (fun e=>h e.symm)]
theorem ZoN {cur:Array Value} {d:List Value} (h:d.length≤cur.size):(Go.Sort.putCells id 0 d.toArray cur).toList.take d.length=d:=by
 apply Ya3
 ·simp [Go.Sort.putCells];omega
 ·intro i h1 h2
  have hi:i<d.length:=h2
  simp [Go.Sort.putCells,hi]
theorem sortE_cmp (g n:Nat) (w:World):Go.Proofs.CmpLays prog 174 #[] ZeZ 4 cmpE g 0 n w:=fun _ _ _ _ x y=>
 (ZqS x y _).mono fun _ _ ⟨he,q,hq⟩=>⟨he,q,objs4 x y,hq⟩
theorem Zts (v:Value) (l:List Zg) (hlm:l.length≤1000000):FnG prog 173 1 [.is v,.is (.func (.func 174) #[] #[])] [Zw 42 4 Zq l v] (.tup []) (fun _=>[Zw 42 4 Zq (ZcP l) v]):=by
 by_cases hl0:l = []
 ·subst hl0
  have h:=Zm9 v [] (by simp) (fun j _ h1=>absurd h1 (by simp))
  have e:ZcP [] = []:=by simp [ZcP]
  rw [e];exact h
 ·exact fun w F vs hw hle hvs hpr=>by
   match vs,hvs with
   | [u,fv],hvs=>
    have hu:u=v:=hvs.1.1
    have hfv:fv = .func (.func 174) #[] #[]:=hvs.2.1.1
    subst hu
    subst hfv
    obtain ⟨xs,⟨hxl,hx⟩,hp,hf⟩:=hpr 0 _ rfl
    rcases hx with ⟨rfl,h0⟩ | ⟨g,cap,cur,rfl,_,hg,hn,hcap,hcs,hct⟩
    ·exact absurd (YQ h0) hl0
    ·have hgs:g<w.heap.size:=(YW.1 hg).1
     obtain ⟨hxe,hin⟩:=Zjl hp
     have hcl:l.length*4≤cur.size:=by rw [hcs];exact YP _ hn
     have hbig:l.toArray.size<4611686018427387904:=by simp;omega
     have hcur:∀ j,j<l.length*4→cur[j]? = (l.flatMap ZeZ)[j]?:=fun j hj=>by
      have h1:(cur.toList.take (l.length*4))[j]? = (l.flatMap ZeZ)[j]?:=by rw [hct,hxe]
      rw [YbA hj] at h1
      simpa using h1
     have hH:Go.Sort.HoldsK ZeZ 4 w g 0 l.toArray:=fun j hj=>by
      have hj':j<l.length*4:=by simpa using hj
      refine ⟨?_,?_⟩
      ·rw [Y4,Z0 hg,hcur j hj',ZhU,Yf hj',Go.Sort.get_flatK _ _ _ _ (by simpa using hj')]
       simp
      ·simp [World.frozen?,hg]
     have eg:∀ args w,(callFunc 174 args).run prog w = .ok (.enter 174 args) w:=enters_of func174 kr rfl
     have hcalls:Calls prog 173 #[.slice (some ⟨g,0,none⟩) l.toArray.size cap,.func (.func 174) #[] #[]] w fun e w'=>e = .returned (.tuple #[]) ∧ ∃ d' n os,Go.Sort.PermIn 0 l.toArray.size l.toArray d' ∧ Go.Sort.SortedIn (Go.Proofs.ltOf cmpE) 0 l.toArray.size d' ∧ w' = Go.Proofs.sortWorldK ZeZ 4 w g 0 n d' os:=
      Go.Proofs.AnyQ.slices_SortFunc Zo9 4 Tryz.isAgg42 Tryz.sizeOf42 ZeZ (fun _=>rfl) (fun x v hv=>by simp [ZeZ] at hv;rcases hv with rfl | rfl | rfl | rfl <;> rfl) cmpE swoE 174 #[] g 0 cap l.toArray w eg (sortE_cmp g _ w) hH hgs hbig
     refine hcalls.mono ?_
     rintro e w' ⟨rfl,d',n,os,hperm,hsrt,rfl⟩
     have hd:d'.toList=ZcP l:=Go.Sort.sorted_unique_holds swoE (fun x y h1 h2=>Zb4.tot x y h1 h2) l.toArray d' hperm hsrt
     have hd2:d' = (ZcP l).toArray:=by rw [← hd]
     subst hd2
     have hsl:(ZcP l).length=l.length:=ZjN l
     have hfl:(Go.Sort.flatK ZeZ 4 (ZcP l).toArray)=((ZcP l).flatMap ZeZ).toArray:=by rw [← Zhw]
     have hfn:((ZcP l).flatMap ZeZ).length=l.length*4:=by
      have h2:=Y1 List.length (Zhw (ZcP l))
      rw [← h2,Array.length_toList,Go.Sort.size_flatK,YaK,hsl]
     have hW:Go.Proofs.sortWorldK ZeZ 4 w g 0 n (ZcP l).toArray os=Go.Sort.grow (Go.Sort.putRow id (Go.Sort.ahead w n) g 0 ((ZcP l).flatMap ZeZ).toArray) os:=by
      unfold Go.Proofs.sortWorldK Go.Sort.putRowK
      rw [hfl]
     rw [hW]
     have hheap:=fun b hb=>Zju (n:=n) (d:=(ZcP l).flatMap ZeZ) (os:=os) hg b hb
     have hsz:(Go.Sort.grow (Go.Sort.putRow id (Go.Sort.ahead w n) g 0 ((ZcP l).flatMap ZeZ).toArray) os).heap.size=w.heap.size+os.size:=by simp [Go.Sort.ahead]
     have hfg:F 1 g:=(hf g).2 rfl
     have hst:Stp (List.range' 1 1) w F (Go.Sort.grow (Go.Sort.putRow id (Go.Sort.ahead w n) g 0 ((ZcP l).flatMap ZeZ).toArray) os) F:=
      ⟨rfl,rfl,rfl,by rw [hsz];omega,fun b hb hn=>by
       rw [hheap b hb,Yc (fun e=>by subst e;exact hn 1 (by simp) hfg)],fun _ _=>rfl,fun n hn b hb=>.inl ⟨n,hn,hb⟩⟩
     refine ⟨.tuple #[],F,rfl,⟨hw.dis,fun n b hb=>by rw [hsz];have:=hw.bd n b hb;omega⟩,hst,hle,⟨[],rfl,tv⟩,fun i h hi=>?_⟩
     match i,hi with
     | 0,hi=>
      simp only [YbG,Y6] at hi
      subst hi
      refine ⟨(ZcP l).flatMap ZeZ,⟨by rw [hfn,hsl],.inr ⟨g,cap,_,by rw [hsl],Yy _,(hheap g hgs).trans (Yf Z),by rw [hsl];exact hn,hcap,by simp [Go.Sort.putCells,hcs],?_⟩⟩,ZeQ fun x hx=>hin x ((YaU l _).mem_iff.1 hx),hf⟩
      rw [hsl,← hfn];exact ZoN (by rw [hfn];exact hcl)
theorem Zr7 (l:List Zg) (hl:l.length≤1000000):FnP prog 132 [.sl Zq l] (.sl Zq (ZbD ltE l)):=by
 refine FnP.mk func132 Z ntmps132 Z fun B a w F V hfr G=>?_
 have hll:=Sat.lenSl G (i:=0) rfl
 refine Ya (rZ G (qC qZ) V [2,0] [0] fun G=>Ya ?_)
 replace G:=G.fresh 101 rfl
 refine Zb G (qR rr (qf (Zaq 101 (Zpd l ow) func124 Z kr (Args.one .t) pvOne1) r1 r1 (qO rr qZ))) V [3,2] [101,0] (fun _=>rfl) (fun _=>rfl) fun τ a w F G=>?_
 try dsimp only [RS.sub,SF.sub,CF.sub,csub,Anc.sub,List.map,Zq] at G
 generalize τ 5=v5 at G
 refine Za (Ya (rZ G (qR rr (qf (Zbi 101 (Zts _ l ow) func173 Z kr (Args.two .t .f)) r1 r1 qZ)) V [3,2] [101,0] fun G=>Ya ?_))
 refine Zb G (qR rr (qf (o_callRowN 101 (ZkP _ _ (by rw [ZjN];omega)) func175 Z kr (Args.one .t) pvOne1) r1 r1 (qO rr qZ))) V [2] [101,0] (fun _=>rfl) (fun _=>rfl) fun τ a w F G=>?_
 try dsimp only [RS.sub,SF.sub,CF.sub,csub,Anc.sub,List.map,Zq] at G
 generalize τ 9=v9 at G
 refine Za (Yh ?_)
 obtain ⟨F,G⟩:=G.give 101 2 Z rfl
 refine Zs hfr G Z Z Z (.sl (Zm6 l))
theorem Zhb {α:Type} {lt:α→α→Bool} (h:STO lt):∀ {l m:List α},ZoZ lt l→ZoZ lt m→(∀ x,x ∈ l ↔ x ∈ m)→l=m
 | [],[],_,_,_=>rfl
 | [],y :: m,_,_,he=>by have:=(he y).2 (by simp);cases this
 | x :: l,[],_,_,he=>by have:=(he x).1 (by simp);cases this
 | x :: l,y :: m,hl,hm,he=>by
  obtain ⟨h1,h2⟩:=Yo.1 hl
  obtain ⟨h3,h4⟩:=Yo.1 hm
  have hxy:x=y:=by
   rcases Yj.1 ((he x).1 (by simp)) with e | hx
   ·exact e
   ·rcases Yj.1 ((he y).2 (by simp)) with e | hy
    ·exact e.symm
    ·have a1:=h1 y hy
     have a2:=h3 x hx
     have a3:=h.tr x y x a1 a2
     rw [h.irr x] at a3;cases a3
  subst hxy
  congr 1
  refine Zhb h h2 h4 fun z=>⟨fun hz=>?_,fun hz=>?_⟩
  ·rcases Yj.1 ((he z).1 (YC _ hz)) with e | h9
   ·subst e
    have:=h1 z hz
    rw [h.irr z] at this;cases this
   ·exact h9
  ·rcases Yj.1 ((he z).2 (YC _ hz)) with e | h9
   ·subst e
    have:=h3 z hz
    rw [h.irr z] at this;cases this
   ·exact h9
theorem ZkT {l m:List Zg} (he:∀ x,x ∈ l ↔ x ∈ m):ZbD ltE l=ZbD ltE m:=
 Zhb Zb4 (ZbM Zb4 l).1 (ZbM Zb4 m).1 fun x=>by rw [(ZbM Zb4 l).2,(ZbM Zb4 m).2,he x]
structure HvD where
 edge:Zg
 cnt:Int
 deriving DecidableEq,Inhabited
def rHv (x:HvD):List PV:=[.int .i64 x.edge.src,.int .i64 x.edge.dst,.int .i64 x.edge.kind,.int .i64 x.edge.key,.int .i64 x.cnt]
def cntA (A:List (Zg×Int)) (R:List Zg) (e:Zg):Int:=ZnI A e+(R.count e:Int)
def ZgH (A:List (Zg×Int)) (R:List Zg):List Zg:=A.map Prod.fst++R
def Zg0 (A:List (Zg×Int)) (R:List Zg):List HvD:=(ZbD ltE (ZgH A R)).map fun e=>⟨e,cntA A R e⟩
theorem ZgD {es:List (GE Zg Int)} {A:List (Zg×Int)} {R ks:List Zg} (hE:Zhv es A R) (hk:ks.Perm (es.map (·.key))):ZbD ltE ks=ZbD ltE (ZgH A R):=ZkT fun x=>by
 unfold ZgH
 rw [hk.mem_iff,YA,← hE.key x,Zfi]
theorem Zhx {A:List (Zg×Int)} {R:List Zg} : (Zg0 A R).length=(ZbD ltE (ZgH A R)).length:=YG _
theorem Zoi {l:List TxD} {id:Int} : (ZU l id).isSome=isK TxD.id id l:=by
 unfold ZU isK
 rw [Yai,List.find?_isSome,YaA]
theorem ZqN {g:Zp} (h:ZV g):NE g.orders:=fun o ho=>by
 have h2:=(Zdm g).2 h.2.2
 obtain ⟨j,hj,e⟩:=Yab ho
 have:=(h2.2 j hj).2.1
 rwa [nth_eq hj,e] at this
structure EdD where
 kind:Int
 t:TxD
 o:OrdD
 place:Int
 deriving DecidableEq,Inhabited
def doH (g:Zp) (e:EdD):Zp×Int:=if e.kind=0 then ZL g e.t else if e.kind=1 then Zol g e.t.id else if e.kind=2 then Zs1 g e.t else if e.kind=3 then Zsp g e.o else if e.kind=4 then Zv6 g e.o.key e.t.id e.place else (ZcU,5)
def Zk5 (e:EdD):Prop:=e.t.ops.length≤24∧e.o.txs.length≤24
instance (e:EdD):Decidable (Zk5 e):=by unfold Zk5;exact inferInstance
def Zs7 (l:List EdD):Prop:=l.length≤24 ∧ ∀ e ∈ l,Zk5 e
instance (l:List EdD):Decidable (Zs7 l):=by unfold Zs7;exact inferInstance
theorem Zhz {os:List OrdD} {k:Int} : (Z3 (fun o:OrdD=>decide (o.key=k)) os<0→getO os k = [])∧(¬ Z3 (fun o:OrdD=>decide (o.key=k)) os<0 → ∃ i:Nat,Z3 (fun o:OrdD=>decide (o.key=k)) os=i∧i<os.length∧getO os k=(Nn os i).txs):=by
 rcases Zaw (fun o:OrdD=>decide (o.key=k)) os with ⟨h1,h2⟩ | ⟨i,h1,h2,h3,h4⟩
 ·exact ⟨fun _=>Zti fun q hq=>by simpa using h2 q hq,fun h=>absurd (by rw [h1];decide) h⟩
 ·exact ⟨fun h=>by rw [h1] at h;omega,fun _=>⟨i,h1,h2,Ztc h2 (by simpa using h3) fun q hq=>by simpa using h4 q hq⟩⟩
def Fit (n:Nat) (g:Zp):Prop:=(g.txs.length≤n ∧ ∀ t ∈ g.txs,t.ops.length≤24)∧g.orders.length≤24*n ∧ ∀ o ∈ g.orders,o.txs.length≤n
theorem Fit.small {n:Nat} {g:Zp} (h:Fit n g) (hn:n≤30):Za7 g:=by
 obtain ⟨⟨h1,h2⟩,h3,h4⟩:=h
 exact ⟨⟨by omega,fun t ht=>by have:=h2 t ht;omega⟩,by omega,fun o ho=>by have:=h4 o ho;omega⟩
theorem Fit.zero:Fit 0 ZcU:=⟨⟨by simp [ZcU],fun t ht=>by cases ht⟩,by simp [ZcU],fun o ho=>by cases ho⟩
theorem Fit.up {n:Nat} {g:Zp} (h:Fit n g):Fit (n+1) g:=⟨⟨by have:=h.1.1;omega,h.1.2⟩,by have:=h.2.1;omega,fun o ho=>by have:=h.2.2 o ho;omega⟩
theorem Fit.none {n:Nat} : Fit n ZcU:=by
 induction n with
 | zero=>exact Fit.zero
 | succ n ih=>exact ih.up
theorem Zot {os:List OrdD} {ks:List Int} {t:TxD} {o:OrdD} (h:o ∈ ZdK t os ks):o ∈ os∨o.txs = []:=by
 unfold ZdK at h
 split at h
 ·have key:∀ (ks:List Int) (os:List OrdD),o ∈ ks.foldl Ze0 os→o ∈ os∨o.txs = []:=by
   intro ks
   induction ks with
   | nil=>intro os h;exact .inl h
   | cons k ks ih=>
    intro os h
    rcases ih _ h with h | h
    ·rcases ZlX h with h | h
     ·exact .inl h
     ·exact .inr (by rw [h])
    ·exact .inr h
  exact key ks os h
 ·exact .inl h
theorem Zno {n:Nat} {t:TxD} {os:List OrdD} (ht:t.ops.length≤24) (h1:os.length≤24*n) (h2:∀ o ∈ os,o.txs.length≤n):(settleO t os).length≤24*(n+1) ∧ ∀ o ∈ settleO t os,o.txs.length≤n+1:=by
 have hk:=Zen t
 have hl:(ZdK t os (Z7 t)).length≤os.length+(Z7 t).length:=by
  unfold ZdK
  split
  ·have key:∀ (ks:List Int) (os:List OrdD),(ks.foldl Ze0 os).length≤os.length+ks.length:=by
    intro ks
    induction ks with
    | nil=>intro os;simp
    | cons k ks ih=>intro os;have h1:=ih (Ze0 os k);have h2:=ZlU os k;rw [Yan,Yl];omega
   exact key _ _
  ·omega
 unfold settleO
 refine ⟨Y2 (Yac _ _) (by rw [YG];omega),fun o ho=>?_⟩
 obtain ⟨o',ho',e⟩:=Yu.1 (YS.1 ho).1
 have hlen:o'.txs.length≤n:=by
  rcases Zot ho' with h | h
  ·exact h2 o' h
  ·rw [h];simp
 rw [← e]
 unfold ZkC
 show (if _ then _ else _:List Int).length≤_
 split
 ·unfold withO;split
  ·omega
  ·simp;omega
 ·unfold withoutO
  exact Y2 (Yac _ _) ow
theorem Zhs {n:Nat} {g:Zp} {key:Int} {rule:List Int→List Int×Int} (hr:∀ l,(rule l).2=0→(rule l).1.length≤l.length) (h:Fit n g):Fit n (ZhA g key rule).1:=by
 unfold ZhA
 split
 ·exact Fit.none
 ·split
  ·exact Fit.none
  ·split
   ·exact Fit.none
   ·rename_i h1 h2 h3
    refine ⟨h.1,by show (List.set _ _ _).length≤_;rw [YJ];exact h.2.1,fun o ho=>?_⟩
    rcases List.mem_or_eq_of_mem_set ho with h4 | h4
    ·exact h.2.2 o h4
    ·have hk:isK OrdD.key key g.orders=true:=by simpa using h2
     have hlt:=(ZtE (Zar (Yay.1 h1)).2 hk).1
     have:=hr _ (Yay.1 h3)
     have:=h.2.2 _ (nth_mem hlt)
     rw [h4];show (rule _).1.length≤n;omega
theorem Fit.doH {n:Nat} {g:Zp} {e:EdD} (h:Fit n g) (he:Zk5 e):Fit (n+1) (doH g e).1:=by
 have hset:∀ t:TxD,t.ops.length≤24 → ∀ txs:List TxD,txs.length≤n+1→(∀ t ∈ txs,t.ops.length≤24)→Fit (n+1) ⟨txs,settleO t g.orders⟩:=fun t ht txs h1 h2=>by
  obtain ⟨h3,h4⟩:=Zno ht h.2.1 h.2.2
  exact ⟨⟨h1,h2⟩,h3,h4⟩
 unfold Go.Proofs.YtlkpllemoepamaaGreat.doH
 split
 ·unfold ZL
  split
  ·exact Fit.none
  ·split
   ·exact Fit.none
   ·refine hset _ he.1 _ ?_ fun t ht=>?_
    ·have:=h.1.1;rw [Yd,Yd,Yi,YE];simp;omega
    ·rw [YA,YA] at ht
     rcases ht with (ht | ht) | ht
     ·exact h.1.2 t (Yak ht)
     ·rw [Yk.1 ht];exact he.1
     ·exact h.1.2 t (Ya1 ht)
 ·split
  ·unfold Zol
   split
   ·exact Fit.none
   ·split
    ·exact Fit.none
    ·split
     ·exact Fit.none
     ·refine hset _ (by simp [ZtK]) _ ?_ fun t ht=>?_
      ·have:=h.1.1;rw [Yd,Yi,YE];omega
      ·rw [YA] at ht
       rcases ht with ht | ht
       ·exact h.1.2 t (Yak ht)
       ·exact h.1.2 t (Ya1 ht)
  ·split
   ·unfold Zs1
    split
    ·exact Fit.none
    ·split
     ·exact Fit.none
     ·refine hset _ he.1 _ ?_ fun t ht=>?_
      ·have:=h.1.1;rw [YJ];omega
      ·rcases List.mem_or_eq_of_mem_set ht with ht | ht
       ·exact h.1.2 t ht
       ·rw [ht];exact he.1
   ·split
    ·refine (Zhs (fun l h0=>?_) h).up
     unfold ZuZ at h0 ⊢
     split at h0
     ·rename_i hp;rw [Yf hp,hp.length_eq];exact YL _
     ·simp at h0
    ·split
     ·exact (Zhs (fun l h0=>by show (ZrK l _ _).1.length≤_;exact Zn0 _ _ _) h).up
     ·exact Fit.none
theorem Zrs (o:OrdD) (key:Int):FnP prog 41 [.agg (ZG o),.ref [.int .i64 key]] (.bool (decide (o.key=key))):=by
 refine FnP.mk func41 Z ntmps41 Z fun B a w F V hfr G=>Ya ?_
 refine Zb G (qx 101 r1 qB) V [3,2,1] [101,0] (fun _=>rfl) (fun _=>rfl) fun τ a w F G=>?_
 try dsimp only [RS.sub,SF.sub,CF.sub,csub,Anc.sub,List.map,zCF,Zu,rTx,ZG,ZT,Zm,rOp] at G
 generalize τ 2=v2 at G
 refine Za (Ya (rZ G (qg 0 101 r1 r1 (qa 101 r1 r1 (qf (oR false 1 .t) r1 qz (qf (o_eql .t .t) r2 qz (qO rr qZ))))) V [3] [101,0] fun G=>Yh ?_))
 refine Zs hfr G Z Z Z .refl
theorem Zlh (g:Zp) (key:Int) (hs:ZcY g.orders):FnP prog 16 [.agg (Zu g),.int .i64 key] (.sl Zm (getO g.orders key)):=by
 refine FnP.mk func16 Z ntmps16 Z fun B a w F V hfr G=>?_
 have hso:=hs.1
 refine Ya (Zb G (qx 101 r1 (qf (ZfT 102 .t one_int) r1 qz (qC qZ))) V [4,3,2] [102,101,0] (fun _=>rfl) (fun _=>rfl) fun τ a w F G=>?_)
 try dsimp only [RS.sub,SF.sub,CF.sub,csub,Anc.sub,List.map,zCF,Zu,rTx,ZG,ZT,Zm,rOp] at G
 generalize τ 2=v2,τ 3=v3 at G
 refine Za (Ya (Zap 2 G kr (cG Z (oF 1 101 .is) r1 r1 (cG Z (oL false 1 101 .adr) r1 r1 ChainN.nil)) kr (by rw [V];kernel_rfl) fun a w F G=>?_))
 obtain ⟨F,G⟩:=G.nM [7,4,3,2] [102,101,0]
 try dsimp only [List.map,xD,xE,xT,xU,ldSF,Zu,rTx,ZG,ZT,Zm,rOp] at G
 obtain ⟨F,G⟩:=G.giveRef 102 3 Z Z rfl
 obtain ⟨F,G⟩:=G.nM [7,4,3,2] [101,0]
 try dsimp only [Go.Gm.unCF] at G
 refine ZaH G kr (cG Z (ZaO (Args.one .t)) r1 trivial (cG Z (oP (Zpf g.orders (fun o=>decide (o.key=key)) 41 f41 [.ref [.int .i64 key]] func41 Z kr (fun o=>Zrs o key)) func40 (Args.two .t .t)) r2 trivial (cG Z (oN .t) r1 trivial ChainN.nil))) kr (by rw [V];kernel_rfl) fun a w F G=>?_
 obtain ⟨F,G⟩:=G.nM [5,4,2] [101,0]
 try dsimp only [Zu,rTx,ZG,ZT,Zm,rOp] at G
 refine Za (Ya (Ya (rZ G (qR rr (qf (ZaD .t qi) r1 qz qZ)) V [11,5,4,2] [101,0] fun G=>?_)))
 refine Zc G Z (fun hc0=>?_) (fun hc0=>?_)
 ·have hg:[] = getO g.orders key:=(Zhz.1 (by simpa using hc0)).symm
  refine Ya (rZ G (qC qZ) V [5,4,2] [101,0] fun G=>(Yh (Zk ?_)))
  refine Zs hfr G Z Z Z (by first | exact .sl hg | (rw [← hg];exact .nilSl))
 obtain ⟨fi,hfi,hfl,hfg⟩:=Zhz.2 (show ¬ Z3 (fun o:OrdD=>decide (o.key=key)) g.orders<0 by simpa using hc0)
 have hg:(Nn g.orders (Z3 (fun o:OrdD=>decide (o.key=key)) g.orders).toNat).txs=getO g.orders key:=by rw [hfi,Yb,hfg]
 refine Ye (Za (Ya (Ze G (qg 1 101 r1 r1 (qa 101 r1 r1 (qR rr (qf (o_indexAddr_sl (sz:=2) (.mk Ycf kr) (by intro x;rfl) .t .t (by rw [hfi];omega) (by rw [hfi];omega)) r2 qz (qf (oG 1 .t) r1 qz (qf (oR false 1 .t) r1 qz (qf (oP (cloneIP_c _ (by rw [hfi,Yb];have:=hs.at hfl;omega)) func42 (Args.one .t)) r1 qz (qO rr qZ)))))))) V [4] [101,0] Z Z fun a w F G=>?_)))
 try simp only [Yb] at G
 refine Za (Yh (Zs hfr G Z Z Z (by first | exact .sl hg | (rw [← hg];exact .nilSl))))
instance (l:List TxD):Decidable (ZaZ l):=by unfold ZaZ;exact inferInstance
instance (l:List OrdD):Decidable (ZcY l):=by unfold ZcY;exact inferInstance
instance (g:Zp):Decidable (Za7 g):=by unfold Za7;exact inferInstance
theorem ZbC {l:List TxD} {k x:Int} : x ∈ Z4 l k ↔ ∃ t ∈ l,t.id=x∧t.done=true∧0<wcnt t.ops k:=by
 unfold Z4
 rw [Yu]
 constructor
 ·rintro ⟨t,ht,e⟩
  rw [YS] at ht
  simp at ht
  exact ⟨t,ht.1,e,ht.2.1,ht.2.2⟩
 ·rintro ⟨t,ht,e,h1,h2⟩
  exact ⟨t,by rw [YS];simp [ht,h1,h2],e⟩
theorem Zcy {l:List TxD} (h:Zcq TxD.id l) (k:Int):(Z4 l k).Nodup:=by
 unfold Z4
 have h1:(l.map TxD.id).Nodup:=(YaW.2 (ZS.1 h)).imp fun h=>Int.ne_of_lt h
 exact (h1.sublist ((List.filter_sublist).map _))
theorem ZdW {l:List TxD} (h:Zcq TxD.id l) {t:TxD} (ht:t ∈ l):ZU l t.id=some t:=by
 have h:=ZS.1 h
 induction l with
 | nil=>cases ht
 | cons x l ih=>
  rw [Yo] at h
  unfold ZU
  rw [Yb4]
  rcases Yj.1 ht with rfl | ht
  ·simp
  ·have:=h.1 t ht
   rw [show decide (x.id=t.id)=false by simp;omega]
   exact ih (ZS.2 h.2) ht h.2
theorem ZrT {l:List TxD} {id:Int} (h:∀ t ∈ l,t.id≠id):ZU l id=none:=by
 unfold ZU
 exact Ybv.2 fun t ht=>by simpa using h t ht
theorem Zcm {g:Zp} : ZV g ↔ g.txs.length≤4096∧Zcq TxD.id g.txs∧(∀ t ∈ g.txs,ZaF t=0∧Zdw g t=true)∧Zcq OrdD.key g.orders∧NE g.orders ∧ ∀ k,(getO g.orders k).Perm (Z4 g.txs k):=by
 constructor
 ·intro h
  obtain ⟨r1',r2'⟩:=Zar h
  have hne:=ZqN h
  have h2:=(Zdm g).2 h.2.2
  refine ⟨h.1,r1',fun t ht=>?_,r2',hne,fun k=>?_⟩
  ·obtain ⟨j,hj,e⟩:=Yab ht
   have:=(h.2.1 j hj).2
   rwa [nth_eq hj,e] at this
  ·by_cases hk:getO g.orders k = []
   ·rw [hk]
    have hw:Z4 g.txs k = []:=by
     refine Decidable.byContradiction fun hw=>?_
     obtain ⟨j,hj,e⟩:=Yab (Zc2.2 hw)
     have hjo:j<g.orders.length:=by rw [h.2.2.1];exact hj
     have h3:=(h.2.2.2 j hjo).1
     rw [nth_eq hj,e] at h3
     have h4:=Zee (ZS.1 r2') (nth_mem hjo)
     rw [h3,hk] at h4
     exact hne _ (nth_mem hjo) h4.symm
    rw [hw]
   ·have hm:=Zf3 hk
    obtain ⟨j,hj,e⟩:=Yab hm
    have:=(h2.2 j hj).2.2
    rw [nth_eq hj,e] at this
    exact this
 ·rintro ⟨h1,h2,h3,h4,h5,h6⟩
  have hk:g.orders.map OrdD.key=Zcu g.txs:=by
   refine ZeN (YaW.2 (ZS.1 h4)) (ZW _).1 fun k=>?_
   rw [Zc2,Yu]
   constructor
   ·rintro ⟨o,ho,rfl⟩ e
    have:=h6 o.key
    rw [e,Zee (ZS.1 h4) ho] at this
    exact h5 o ho this.eq_nil
   ·intro e
    have:getO g.orders k≠[]:=fun e2=>by
     have:=h6 k
     rw [e2] at this
     exact e this.symm.eq_nil
    exact ⟨_,Zf3 this,rfl⟩
  have hlen:g.orders.length=(Zcu g.txs).length:=by rw [← hk,YG]
  refine ⟨h1,fun i hi=>?_,(Zdm g).1 ⟨hlen,fun i hi=>?_⟩⟩
  ·obtain ⟨g1,g2⟩:=h3 _ (nth_mem hi)
   exact ⟨fun h0=>h2 (i - 1) i ow hi,g1,g2⟩
  ·refine ⟨fun h0=>h4 (i - 1) i ow hi,h5 _ (nth_mem hi),?_⟩
   have:=h6 (Nn g.orders i).key
   rwa [Zee (ZS.1 h4) (nth_mem hi)] at this
theorem ZnN {t:TxD} {l:List Int} {k x:Int} : x ∈ ZhL t l k ↔ (x ∈ l∧x≠t.id)∨(x=t.id∧t.done=true∧0<wcnt t.ops k):=by
 unfold ZhL
 by_cases h:t.done=true∧0<wcnt t.ops k
 ·rw [Yf h]
  unfold withO
  split
  ·rename_i hi
   constructor
   ·intro hx
    by_cases e:x=t.id
    ·exact .inr ⟨e,h⟩
    ·exact .inl ⟨hx,e⟩
   ·rintro (⟨hx,_⟩ | ⟨rfl,_⟩)
    ·exact hx
    ·exact hi
  ·rename_i hi
   rw [YA,Yk]
   constructor
   ·rintro (hx | hx)
    ·exact .inl ⟨hx,fun e=>hi (e ▸ hx)⟩
    ·exact .inr ⟨hx,h⟩
   ·rintro (⟨hx,_⟩ | ⟨e,_⟩)
    ·exact .inl hx
    ·exact .inr e
 ·rw [Yc h]
  unfold withoutO
  rw [YS,Yq]
  exact ⟨fun h1=>.inl h1,fun h1=>h1.elim id fun h2=>absurd h2.2 h⟩
theorem Zka {t:TxD} {l:List Int} (h:l.Nodup) (k:Int):(ZhL t l k).Nodup:=by
 unfold ZhL
 split
 ·unfold withO
  split
  ·exact h
  ·rename_i hi
   rw [YbB]
   exact ⟨h,by simp,fun a ha b hb=>by rw [Yk] at hb;subst hb;exact fun e=>hi (e ▸ ha)⟩
 ·exact h.filter _
theorem ZmK {g:Zp} {t:TxD} {b:Bool} {l:List TxD} (hR:ZV g) (hs:ZcY g.orders) (hr:Zcq TxD.id l) (hl:l.length≤4096) (hM:∀ s,s ∈ l ↔ (s ∈ g.txs∧s.id≠t.id)∨(s=t∧b=true))
  (ht:b=true→ZaF t=0∧Zdw g t=true) (hb:b=false→t.done=false)
  (hu:∀ x ∈ l,∀ v ∈ ZfF x,v.tx=t.id→Zj0 g v=true→¬ (v.tx=0∧v.nth=0)→b=true∧v.nth≤(wcnt t.ops v.key:Int)):ZV ⟨l,settleO t g.orders⟩:=by
 obtain ⟨h1,h2,h3,h4,h5,h6⟩:=Zcm.1 hR
 obtain ⟨s1,s2⟩:=Zko (t:=t) h4 hs
 have hhas:∀ x ∈ l,∀ v ∈ ZfF x,Zj0 g v=true→Zj0 ⟨l,settleO t g.orders⟩ v=true:=by
  intro x hx v hv hg
  by_cases hz:v.tx=0∧v.nth=0
  ·unfold Zj0 at hg ⊢
   rw [Yf hz] at hg ⊢
   exact hg
  ·have hu2:=hu x hx v hv
   unfold Zj0 at hg hu2 ⊢
   rw [Yc hz] at hg hu2 ⊢
   by_cases e:v.tx=t.id
   ·obtain ⟨b1,b2⟩:=hu2 e hg hz
    have hm:t ∈ l:=(hM t).2 (.inr ⟨rfl,b1⟩)
    have hf:=ZdW hr hm
    simp only [Yt,Yq] at hg ⊢
    show _∧_
    rw [e,hf]
    exact ⟨rfl,hg.2.1,b2⟩
   ·have hf:ZU l v.tx=ZU g.txs v.tx:=by
     cases hc:ZU g.txs v.tx with
     | none=>
      refine ZrT fun s hsl es=>?_
      rcases (hM s).1 hsl with ⟨m1,m2⟩ | ⟨rfl,_⟩
      ·have:=ZdW h2 m1
       rw [es,hc] at this;cases this
      ·exact e es.symm
     | some s=>
      obtain ⟨m1,m2⟩:=findT_mem hc
      have hm:s ∈ l:=(hM s).2 (.inl ⟨m1,by rw [m2];exact e⟩)
      have:=ZdW hr hm
      rwa [m2] at this
    show (((ZU l v.tx).isSome && _):Bool)=true
    rw [hf];exact hg
 refine Zcm.2 ⟨hl,hr,fun x hx=>?_,ZS.2 s1,s2,fun k=>?_⟩
 ·have hx2:ZaF x=0∧Zdw g x=true:=by
   rcases (hM x).1 hx with ⟨m1,_⟩ | ⟨rfl,b1⟩
   ·exact h3 x m1
   ·exact ht b1
  refine ⟨hx2.1,?_⟩
  have h7:=hx2.2
  unfold Zdw at h7 ⊢
  rw [YaT] at h7 ⊢
  exact fun v hv=>hhas x hx v hv (h7 v hv)
 ·rw [Zho h4 k]
  have hn:(getO g.orders k).Nodup:=(h6 k).symm.nodup (Zcy h2 k)
  refine (List.perm_ext_iff_of_nodup (Zka hn k) (Zcy hr k)).2 fun x=>?_
  rw [ZnN,ZbC,(h6 k).mem_iff,ZbC]
  constructor
  ·rintro (⟨⟨s,m1,m2,m3,m4⟩,m5⟩ | ⟨rfl,m3,m4⟩)
   ·exact ⟨s,(hM s).2 (.inl ⟨m1,by rw [m2];exact m5⟩),m2,m3,m4⟩
   ·refine ⟨t,(hM t).2 (.inr ⟨rfl,?_⟩),rfl,m3,m4⟩
    cases b with
    | true=>rfl
    | false=>rw [hb rfl] at m3;cases m3
  ·rintro ⟨s,m1,m2,m3,m4⟩
   rcases (hM s).1 m1 with ⟨m5,m6⟩ | ⟨rfl,_⟩
   ·exact .inl ⟨⟨s,m5,m2,m3,m4⟩,by rw [← m2];exact m6⟩
   ·exact .inr ⟨m2.symm,m3,m4⟩
theorem Zl4 {l:List TxD} {t:TxD} (h:Zcq TxD.id l) (hk:isK TxD.id t.id l=false):Zcq TxD.id (l.take (lowK TxD.id t.id l) ++ [t] ++ l.drop (lowK TxD.id t.id l)) ∧ ∀ s,s ∈ l.take (lowK TxD.id t.id l) ++ [t] ++ l.drop (lowK TxD.id t.id l) ↔ (s ∈ l∧s.id≠t.id)∨(s=t∧true=true):=by
 rw [← Zfo (ZS.1 h) hk]
 refine ⟨ZS.2 (Zg5 (ZS.1 h)),fun s=>?_⟩
 rw [Zfo (ZS.1 h) hk,YA,YA,Yk]
 have hne:∀ s ∈ l,s.id≠t.id:=fun s hs e=>by
  have:=List.any_eq_false.1 hk s hs
  simp at this;exact this e
 constructor
 ·rintro ((h1 | h1) | h1)
  ·exact .inl ⟨Yak h1,hne s (Yak h1)⟩
  ·exact .inr ⟨h1,rfl⟩
  ·exact .inl ⟨Ya1 h1,hne s (Ya1 h1)⟩
 ·rintro (⟨h1,_⟩ | ⟨h1,_⟩)
  ·rw [← YaG (lowK TxD.id t.id l) l,YA] at h1
   rcases h1 with h1 | h1
   ·exact .inl (.inl h1)
   ·exact .inr h1
  ·exact .inl (.inr h1)
theorem ZpH {g:Zp} {v:Zb0} (h:Zj0 g v=true) (hz:¬ (v.tx=0∧v.nth=0)):isK TxD.id v.tx g.txs=true∧1≤v.nth:=by
 unfold Zj0 at h
 rw [Yc hz,Yt,Yt,Zoi] at h
 exact ⟨h.1,by simpa using h.2.1⟩
theorem ZiW {g:Zp} {t:TxD} (hs:Za7 g) (h:(ZL g t).2=0):ZV (ZL g t).1:=by
 unfold ZL at h ⊢
 split at h
 ·rename_i h1;exact absurd h h1
 ·rename_i h1
  split at h
  ·simp at h
  ·rename_i h2
   obtain ⟨hr,hrt,hik,hnd,_⟩:=ZpM (by decide) (Yay.1 h1)
   rw [Yc h1,Yc h2]
   obtain ⟨m1,m2⟩:=Zl4 (Zar hr).1 hik
   refine ZmK (b:=true) hr hs.2 m1 ?_ m2 (fun _=>⟨hrt,hnd⟩) (fun h=>by cases h) fun x _ v _ e hv hz=>?_
   ·have:=hr.1
    rw [Yd,Yd,Yi,YE];simp;omega
   ·have:=(ZpH hv hz).1
    rw [e,hik] at this;cases this
structure ZoF where
 tx:Int
 place:Int
 vof:Zb0
 deriving DecidableEq,Inhabited
def Zis (b:ZoF):List PV:=[.int .i64 b.tx,.int .i64 b.place,.int .i64 b.vof.tx,.int .i64 b.vof.key,.int .i64 b.vof.nth]
def uOf (g:Zp) (o:OpD):TxD:=(ZU g.txs o.tx).getD zeroT
def Zg7 (t u:TxD) (o:OpD) (phen:Int):Bool:=t.done && (if phen=2 then !u.done else decide (phen=3) && decide (o.nth<(wcnt u.ops o.key:Int)))
def ZnB (g:Zp) (phen:Int) (t:TxD) (o:OpD):Bool:=Zdu t.id o && Zg7 t (uOf g o) o phen
def Zda (g:Zp) (phen:Int) (p:Int→Bool) (t:TxD) (l:List OpD):List ZoF:=(l.zipIdx.filter fun x=>p x.1.key && ZnB g phen t x.1).map fun x=>⟨t.id,(x.2:Int),ofO x.1⟩
theorem ZdN {g:Zp} {phen:Int} {p:Int→Bool} {t:TxD} {l:List OpD} {j:Nat} (hj:j<l.length):Zda g phen p t (l.take (j+1))=Zda g phen p t (l.take j)++if (p (Nn l j).key && ZnB g phen t (Nn l j))=true then [⟨t.id,j,ofO (Nn l j)⟩] else []:=by
 unfold Zda
 rw [Zo hj,List.zipIdx_append,Yaa,YO]
 congr 1
 rw [Yi,show min j l.length=j by omega]
 by_cases h:(p (Nn l j).key && ZnB g phen t (Nn l j))=true
 ·rw [Yf h,List.zipIdx_cons,Yar (by simpa using h)];simp
 ·rw [Yc h,List.zipIdx_cons,Yas (by simpa using h)];simp
theorem ZgV (g:Zp) (phen:Int) (p:Int→Bool) (t:TxD) (l:List OpD):(Zda g phen p t l).length≤l.length:=by
 unfold Zda
 rw [YG]
 exact Y2 (Yac _ _) (by simp)
def badsG (g:Zp) (phen:Int) (p:Int→Bool) (l:List TxD):List ZoF:=l.flatMap fun t=>Zda g phen p t t.ops
theorem Zng {g:Zp} {phen:Int} {p:Int→Bool} {l:List TxD} {i:Nat} (hi:i<l.length):badsG g phen p (l.take (i+1))=badsG g phen p (l.take i)++Zda g phen p (Nn l i) (Nn l i).ops:=by
 unfold badsG
 rw [Zo hi,YV]
 simp
theorem ZlN {g:Zp} {phen:Int} {p:Int→Bool} {l:List TxD} (h:ZaZ l) (i:Nat):(badsG g phen p (l.take i)).length≤1000*i:=by
 have key:∀ l:List TxD,(∀ t ∈ l,t.ops.length≤1000)→(badsG g phen p l).length≤1000*l.length:=by
  intro l
  induction l with
  | nil=>intro _;simp [badsG]
  | cons t l ih=>
   intro h
   have h1:=ih fun x hx=>h x (by simp [hx])
   have h2:=h t (by simp)
   have h3:=ZgV g phen p t t.ops
   unfold badsG at h1 ⊢
   rw [YZ,Yd,Yl]
   omega
 have h1:=key (l.take i) fun t ht=>h.2 t (Yak ht)
 have h2:(l.take i).length≤i:=by rw [Yi];omega
 exact Y2 h1 (Ybk _ h2)
def ZaQ (g:Zp) (phen:Int) (p:Int→Bool):List ZoF:=if ZV g then badsG g phen p g.txs else []
theorem Zpp {g:Zp} (hr:∀ i,i<g.txs.length→ZnE g i):Zdz (g.txs.map TxD.id):=Zfq fun i hi h0=>by
 have hi':i<g.txs.length:=by simpa using hi
 rw [Zcs ow,Zcs hi']
 exact (hr i hi').1 h0
theorem Zvi {g:Zp} (hr:∀ i,i<g.txs.length→ZnE g i) {i k:Nat} (hi:i<g.txs.length) (hk:k<i):(Nn g.txs k).id<(Nn g.txs i).id:=by
 have h:=Yaz.1 (Zpp hr) k i (by simp;omega) (by simpa using hi) hk
 rw [nth_eq hi,nth_eq ow]
 simpa using h
def ZuP (es:List (GE Int TxD)) (l:List TxD):Prop:=∀ id,gGet id es=ZU l id
theorem ZuQ {g:Zp} (hr:∀ i,i<g.txs.length→ZnE g i) {es:List (GE Int TxD)} {ck i:Nat} (h:ZuP es (g.txs.take i)) (hi:i<g.txs.length):ZuP (gPut (Nn g.txs i).id (Nn g.txs i) (es,ck)).1 (g.txs.take (i+1)):=fun id=>by
 rw [Zdk,h id]
 unfold ZU
 rw [Zo hi,List.find?_append]
 by_cases e:id=(Nn g.txs i).id
 ·subst e
  have hn:(g.txs.take i).find? (fun t=>decide (t.id=(Nn g.txs i).id))=none:=by
   rw [Ybv]
   intro x hx
   obtain ⟨k,hk,e⟩:=Yab hx
   rw [Yi] at hk
   have:=Zvi hr hi (show k<i by omega)
   rw [nth_eq ow] at this
   rw [List.getElem_take] at e
   rw [e] at this
   simp;omega
  simp [hn]
 ·rw [Yc e]
  have hn:[Nn g.txs i].find? (fun t=>decide (t.id=id))=none:=by simp;exact fun h=>e h.symm
  rw [hn];simp
theorem Zut {u v:ZoF} {r:Bool} (h:(decide (u.tx=v.tx) && (decide (u.place=v.place) && (decide (u.vof.tx=v.vof.tx) && (decide (u.vof.key=v.vof.key) && (decide (u.vof.nth=v.vof.nth) && true)))))=r):r=decide (u=v):=by
 obtain ⟨a,b,c,d,e⟩:=u;obtain ⟨a',b',c',d',e'⟩:=v
 rw [← h,Yai]
 simp
def ZuT (x:Int):List PV:=[.int .u64 x]
def bitAt (ws:List Int) (j:Nat):Bool:=(Nn ws (j / 64)).toNat.testBit (j % 64)
def ZjJ (ws:List Int) (j:Nat):List Int:=ws.set (j / 64) (((Nn ws (j / 64)).toNat ^^^ 2 ^ (j % 64):Nat):Int)
def hasW (n:Nat) (ws:List Int) (i:Int):Bool:=(decide (0≤i) && decide (i<n)) && bitAt ws i.toNat
def ZsR (n:Nat) (ws:List Int) (i:Int) (on:Bool):Bool:=(decide (0≤i) && decide (i<n)) && (hasW n ws i != on)
def setW (n:Nat) (ws:List Int) (i:Int) (on:Bool):List Int:=if ZsR n ws i on then ZjJ ws i.toNat else ws
structure ZdB (n:Nat) (ws:List Int):Prop where
 hi:n≤65536
 len:ws.length=(n+63) / 64
 wd:∀ k,0≤Nn ws k∧Nn ws k<18446744073709551616
def Zr8 (v wv:Value) (n:Nat) (ws:List Int):List RS:=[.pt (.val v) 274 [.pv (.int .i64 n),.pv (.is wv)],.ob (.val wv) (Zw 175 1 ZuT ws)]
def Zij (v:Value) (n:Nat) (ws:List Int):HP:=.ex fun wv:Value=>.and (ZdB n ws) (.star (Zr8 v wv n ws))
theorem ZpY {v:Value} {n:Nat} {ws:List Int} {w:World} {f y:Ys} (h:(Zij v n ws).p w f y):ZdB n ws ∧ ∃ b,v = .pointer (some ⟨b,0,none⟩):=by
 obtain ⟨_,hI,h⟩:=h
 exact ⟨hI,HP.star_pt h⟩
theorem shr6 (i:Int):i.fdiv (2 ^ min (6:Int).toNat (IntKind.bits .i64))=i / 64:=YaQ i (by decide)
theorem and63 (i:Int) (h:0≤i∧i≤9223372036854775807):bits .and .i64 i 63=i % 64:=by
 obtain ⟨X,rfl⟩:=Yae h.1
 have h1:(BitVec.ofInt 64 (X:Int)).toNat=X:=by rw [YaF];omega
 have h2:(BitVec.ofInt 64 (63:Int)).toNat=2 ^ 6 - 1:=by decide
 show IntKind.wrap .i64 (((BitVec.ofInt 64 (X:Int) &&& BitVec.ofInt 64 63).toNat:Nat):Int)=_
 rw [Ybq,h1,h2,YaR,Zy ow]
 omega
theorem and1 (x:Int) (h:0≤x∧x<18446744073709551616):bits .and .u64 x 1=x % 2:=by
 obtain ⟨X,rfl⟩:=Yae h.1
 have h1:(BitVec.ofInt 64 (X:Int)).toNat=X:=by rw [YaF];omega
 have h2:(BitVec.ofInt 64 (1:Int)).toNat=2 ^ 1 - 1:=by decide
 show IntKind.wrap .u64 (((BitVec.ofInt 64 (X:Int) &&& BitVec.ofInt 64 1).toNat:Nat):Int)=_
 rw [Ybq,h1,h2,YaR,Zam ow]
 omega
theorem xor64 (x y:Nat) (hx:x<18446744073709551616) (hy:y<18446744073709551616):bits .xor .u64 (x:Int) (y:Int)=((x ^^^ y:Nat):Int):=by
 have h1:(BitVec.ofInt 64 (x:Int)).toNat=x:=by rw [YaF];omega
 have h2:(BitVec.ofInt 64 (y:Int)).toNat=y:=by rw [YaF];omega
 show IntKind.wrap .u64 (((BitVec.ofInt 64 (x:Int) ^^^ BitVec.ofInt 64 (y:Int)).toNat:Nat):Int)=_
 rw [BitVec.toNat_xor,h1,h2]
 exact Zam (by have:=Nat.xor_lt_two_pow (n:=64) hx hy;omega)
theorem ZuM {x:Int} (h:0≤x∧x<18446744073709551616) (i:Int) (hi:0≤i∧i≤9223372036854775807):decide (bits .and .u64 (x.fdiv (2 ^ min (IntKind.wrap .u64 (bits .and .i64 i 63)).toNat (IntKind.bits .u64))) 1=1)=x.toNat.testBit (i.toNat % 64):=by
 obtain ⟨X,rfl⟩:=Yae h.1
 obtain ⟨I,rfl⟩:=Yae hi.1
 rw [and63 _ hi,Zam ow,Yb,Yb]
 have e1:min ((I:Int) % 64).toNat (IntKind.bits .u64)=I % 64:=by simp only [IntKind.bits];omega
 rw [e1,YaQ _ (by exact_mod_cast Yy _)]
 have e2:(X:Int) / 2 ^ (I % 64)=((X / 2 ^ (I % 64):Nat):Int):=by norm_cast
 have hle:X / 2 ^ (I % 64)≤X:=Nat.div_le_self _ _
 rw [e2,Nat.testBit_eq_decide_div_mod_eq]
 generalize X / 2 ^ (I % 64)=q at hle ⊢
 rw [and1 _ ow]
 exact decide_eq_decide.2 ow
theorem ZdB.at {n:Nat} {ws:List Int} (h:ZdB n ws) (i:Int) (h0:0≤i) (h1:i<n):0≤i / 64∧i / 64<ws.length:=by have:=h.len;omega
theorem u64_nonneg (x:Int):0≤IntKind.wrap .u64 x:=by rw [Zaj];omega
theorem and_iff {a b:Prop} [Decidable a] [Decidable b] (h:(decide a && decide b)=true):a∧b:=by simpa using h
theorem Zu1 (n:Nat) (p:PV):FnP prog 246 [.ref [.int .i64 n,p]] (.int .i64 n):=by
 refine FnP.mk func246 Z ntmps246 Z fun B a w F V hfr G=>Ya ?_
 refine rZ G (qI qZ) V [2,0] [0] fun G=>(Ya (Ya ?_))
 refine rZ G (qR rr (qf (Zcc underlying229 .t) r1 qz qZ)) V [4,2,0] [0] fun G=>?_
 refine Zc G Z (fun hc0=>?_) (fun hc0=>?_)
 ·simp at hc0
 refine Ye (Za (Ya (rZ G (qR rr (qf (ZC .t) r1 qz (qf (oG 0 .t) r1 qz (qf (oR false 1 .t) r1 qz (qO rr qZ))))) V [2] [0] fun G=>Yh ?_)))
 refine Zs hfr G Z Z Z .refl
theorem Zqc (n:Nat) (p:PV) (i:Int):FnP prog 225 [.ref [.int .i64 n,p],.int .i64 i] (.bool (decide (0≤i) && decide (i<n))):=by
 refine FnP.mk func225 Z ntmps225 Z fun B a w F V hfr G=>Ya ?_
 refine rZ G qB V [4,1,0] [0] fun G=>Ya ?_
 refine rZ G (qR rr (qf (Zbq .t qi) r1 qz (qR rr (qm Z Z Z Z (qm Z Z Z Z (qk Z (fun h=>oP (Zu1 n p) func246 (Args.one (.w h))) r2 qz (qk Z (fun h=>ZaD (.w h) (.w h)) r3 qz (qf (ZD .t .t) r2 qz (qO rr qZ))))))))) V [4] [0] fun G=>Yh ?_
 refine Zs hfr G Z Z Z .refl
theorem Int.toNat_ediv_64 {i:Int} (h:0≤i):(i / 64).toNat=i.toNat / 64:=by omega
theorem ZdF {a b:Prop} [Decidable a] [Decidable b] (h:¬ (a∧b)):(decide a && decide b)=false:=by rw [← Yb2];exact YF h
theorem Zs6 (n:Nat) (ws:List Int) (hI:ZdB n ws) (i:Int):FnP prog 202 [.ref [.int .i64 n,.sl ZuT ws],.int .i64 i] (.bool (hasW n ws i)):=by
 refine FnP.mk func202 Z ntmps202 Z fun B a w F V hfr G=>Ya ?_
 refine rZ G qB V [4,1,0] [0] fun G=>Ya ?_
 refine rZ G (qR rr (qR rr (qf (oP (Zqc n _ i) func225 (Args.two .t .t)) r2 qz (qR rr (qm Z Z Z Z (qk Z (fun h=>ZC (.w h)) r2 qz (qk Z (fun h=>oG 1 (.w h)) r2 qz (qk Z (fun h=>oR false 1 (.w h)) r2 qz (qm Z Z Z Z (qk Z (fun h=>Zcb (.w h) qi (by decide)) r2 qz (qk Z (fun h=>o_indexAddr_sl (sz:=1) (.mk underlying272 kr) (by intro x;rfl) (.w h) (.w h) (by rw [shr6];exact (hI.at i (and_iff h).1 (and_iff h).2).1) (by rw [shr6];exact (hI.at i (and_iff h).1 (and_iff h).2).2)) r3 qz (qk Z (fun h=>oR false 1 (.w h)) r2 qz (qm Z Z Z Z (qk Z (fun h=>o_and (.w h) qi) r2 qz (qk Z (fun h=>o_conv Yck kr (.w h)) r2 qz (qk Z (fun h=>Zcb (.w h) (.w h) (u64_nonneg _)) r3 qz (qk Z (fun h=>o_and (.w h) qi) r2 qz (qk Z (fun h=>o_eql (.w h) qi) r2 qz (qf (ZD .t .t) r2 qz (qO rr qZ)))))))))))))))))))) V [4] [0] fun G=>Yh ?_
 refine Zs hfr G Z Z Z (.bool (by unfold hasW bitAt;by_cases hb:0≤i∧i<n; (rw [shr6,ZuM (hI.wd _) i (by have:=hI.hi;omega),Int.toNat_ediv_64 hb.1]); (simp only [ZdF hb,Bool.false_and])))
def rowN (m:Int):Nat:=(if m<0 then 0 else if m > 65536 then 65536 else m).toNat
theorem Zie (m:Int):rowN m≤65536:=by unfold rowN;split; (· omega);split <;> omega
theorem Zua (m:Int):(if 65536<(if m<0 then 0 else m) then 65536 else if m<0 then 0 else m)=((rowN m:Nat):Int):=by unfold rowN;split <;> split <;> (try split) <;> omega
def Zif (m:Int):List Int:=List.replicate ((rowN m+63) / 64) 0
theorem Zps (k j:Nat):Nn (List.replicate k (0:Int)) j=0:=by
 by_cases h:j<k
 ·rw [nth_eq (by simpa using h)];simp
 ·unfold Nn;rw [YaH,YbP (by simp;omega)];rfl
theorem Zms (m:Int):ZdB (rowN m) (Zif m):=⟨Zie m,by simp [Zif],fun k=>by unfold Zif;rw [Zps];omega⟩
theorem Zsn (m:Int):(IntKind.wrap .i64 (((rowN m:Nat):Int)+63)).fdiv (2 ^ min (6:Int).toNat (IntKind.bits .i64))=(((rowN m+63) / 64:Nat):Int):=by
 have:=Zie m
 rw [shr6,Zy ow];omega
theorem ZqO (w:World) (yy:Ys):PVs (ZuT 0) [.int .u64 0] w yy:=⟨⟨rfl,rfl,by simp [inR,IntKind.min,IntKind.max,IntKind.signed,IntKind.bits]⟩,tv⟩
theorem ZjG (ws:List Int) (j:Nat):(ZjJ ws j).length=ws.length:=by simp [ZjJ]
theorem Zlf {ws:List Int} {i j:Nat} {c:Int} (h:j<ws.length):Nn (ws.set i c) j=if i=j then c else Nn ws j:=by
 rw [nth_eq (by simpa using h),nth_eq h,YbX]
theorem Zkg {ws:List Int} {j:Nat} (h:ws.length≤j):Nn ws j=0:=by unfold Nn;rw [YaH,YbP h];rfl
theorem Znt {x:Int} (h:0≤x∧x<18446744073709551616) (k:Nat) (hk:k<64):0≤(((x.toNat ^^^ 2 ^ k:Nat)):Int)∧(((x.toNat ^^^ 2 ^ k:Nat)):Int)<18446744073709551616:=by
 have h1:x.toNat<2 ^ 64:=by omega
 have h2:2 ^ k<2 ^ 64:=Nat.pow_lt_pow_right (by decide) hk
 have:=Nat.xor_lt_two_pow h1 h2
 omega
theorem ZdB.flip {n:Nat} {ws:List Int} (h:ZdB n ws) (j:Nat):ZdB n (ZjJ ws j):=by
 refine ⟨h.hi,by rw [ZjG];exact h.len,fun k=>?_⟩
 by_cases hk:k<ws.length
 ·unfold ZjJ
  rw [Zlf hk]
  split
  ·exact Znt (h.wd _) _ (Ybp _ (by decide))
  ·exact h.wd k
 ·rw [Zkg (by rw [ZjG];omega)];omega
theorem ZdB.setW {n:Nat} {ws:List Int} (h:ZdB n ws) (i:Int) (on:Bool):ZdB n (setW n ws i on):=by
 unfold Go.Proofs.YtlkpllemoepamaaGreat.setW
 split
 ·exact h.flip _
 ·exact h
theorem Zoa {x:Int} (h:0≤x∧x<18446744073709551616) (i:Int) (hi:0≤i∧i≤9223372036854775807):bits .xor .u64 x (IntKind.wrap .u64 (1*2 ^ min (IntKind.wrap .u64 (bits .and .i64 i 63)).toNat (IntKind.bits .u64)))=((x.toNat ^^^ 2 ^ (i.toNat % 64):Nat):Int):=by
 obtain ⟨X,rfl⟩:=Yae h.1
 obtain ⟨I,rfl⟩:=Yae hi.1
 rw [and63 _ hi,Zam (by omega:0≤((I:Int) % 64)∧(I:Int) % 64≤_),Yb,Yb]
 have e1:min ((I:Int) % 64).toNat (IntKind.bits .u64)=I % 64:=by simp only [IntKind.bits];omega
 have h2:2 ^ (I % 64)<2 ^ 64:=Nat.pow_lt_pow_right (by decide) (Ybp _ (by decide))
 have e2:(1:Int)*2 ^ (I % 64)=((2 ^ (I % 64):Nat):Int):=by rw [Int.one_mul];norm_cast
 rw [e1,e2]
 generalize 2 ^ (I % 64)=q at h2 ⊢
 rw [Zam ow,xor64 X q ow ow]
theorem ZvJ (m:Int):FnG prog 162 1 [.int .i64 m] [.star []] (PV.ptr) (fun v=>[Zij v (rowN m) (Zif m)]):=by
 refine FnG.mk func162 Z ntmps162 Z kr fun B F0 a w F V hG G=>?_
 have hr:=Zua m
 refine Ya (rZ G (qC qZ) V [2,0] [1,0] fun G=>Ya ?_)
 refine Ze G (qR rr (qf (Zoz .t qi) r1 qz (qf (o_min .t qi) r1 qz (qO rr qZ)))) V [2,0] [1,0] Z Z fun a w F G=>?_
 rw [hr] at G
 refine Za (Ya (Zb G (qR rr (qR rr (qp r1 (qf (Zcb .t qi (by decide)) r1 qz (qf (ZaI (R:=ZuT) (v:=0) (c:=(IntKind.wrap .i64 (((rowN m:Nat):Int)+63)).fdiv (2 ^ min (6:Int).toNat (IntKind.bits .i64))) (sz:=1) (bs:=8) (zs:=[.int .u64 0]) 101 underlying272 kr kr kr ZqO .t .t (by rw [Zsn];exact Yau _) (by have:=Zie m;rw [Zsn];omega) (by have:=Zie m;rw [Zsn];omega)) r2 qz (qf (oB [(0,.tmp 6),(1,.tmp 10)] [.int .i64 0,.slice none 0 0] [(0,1),(1,1)] (.one Z .t one_int kr (.same Z kr .nil))) r2 qz (qf (oX 102 .t) r1 qz (qO rr qZ)))))))) V [2] [102,101,1,0] (fun _=>rfl) (fun _=>rfl) fun τ a w F G=>?_))
 try dsimp only [RS.sub,SF.sub,CF.sub,csub,Anc.sub,List.map,Zf,xL,xM,Nat.reduceAdd,xD,xE,xT,xU,xC,xN,zCF] at G
 generalize τ 12=v12,τ 10=v10 at G
 rw [Zsn,Yb] at G
 refine Za (Yh ?_)
 obtain ⟨b,rfl⟩:=G.shape 102 rfl
 obtain ⟨F,G⟩:=G.push 1 101 Z Z Z kr
 obtain ⟨F,G⟩:=G.push 1 102 Z Z Z kr
 have G:=G.turn 1 Z (r':=RS.hp (Zij (.pointer (some ⟨b,0,none⟩)) (rowN m) (Zif m))) (fun _ _ _ _ h=>⟨_,Zms m,h⟩)
 refine Z2 (h':=fun v=>Zij v (rowN m) (Zif m)) hG G Z (.tmp Z .nil) (.one .ptr) rfl
theorem Zwc (b n:Nat) (ws:List Int) (i:Int) (on:Bool):FnG prog 222 1 [.is (.pointer (some ⟨b,0,none⟩)),.int .i64 i,.bool on] [Zij (.pointer (some ⟨b,0,none⟩)) n ws] (.bool (ZsR n ws i on)) (fun _=>[Zij (.pointer (some ⟨b,0,none⟩)) n (setW n ws i on)]):=by
 refine FnG.mk func222 Z ntmps222 Z kr fun B F0 a w F V hG G=>?_
 obtain ⟨wv,G⟩:=G.open_ex 1 rfl
 obtain ⟨hI,G⟩:=G.open_and 1 rfl
 obtain ⟨F,G⟩:=G.peel 1 2 Z rfl
 obtain ⟨F,G⟩:=G.peel 1 3 Z rfl
 obtain ⟨F,G⟩:=G.nM [2,1,0] [3,2,0]
 refine Ya (rZ G qB V [6,2,1,0] [3,2,0] fun G=>(Ya (Ya ?_)))
 refine rZ G (qR rr (qR rr (qf (Zib (cells:=[.pv _,.pv _]) 2 (Zqc n _ i) (fun _ _ _ _ _ h=>h) Z func225 Z kr (Zaf.two .is .t)) r2 r1 (qf (o_not .t) r1 qz (qR rr (qm Z Z Z Z (qm Z Z Z Z (qk Z (fun h=>ZbQ (cells:=[.pv _,.pv (.is wv)]) 2 3 1 (Zs6 n ws hI i) (fun _ _ _ _ _ h=>h) Z func202 Z kr Z Z (Zaf.two (.w h .is) (.w h))) r3 r2 (qm Z Z Z Z (qk Z (fun h=>ZvG Ycs (.w h) (.w h)) r3 qz (qf (Zal .t .t) r2 qz qZ))))))))))) V [17,6,1,0] [3,2,0] fun G=>?_
 refine Zc G Z (fun hc0=>?_) (fun hc0=>?_)
 ·have hs:ZsR n ws i on=false:=by unfold ZsR;revert hc0;cases (decide (0≤i) && decide (i<n)) <;> cases hasW n ws i <;> cases on <;> simp
  have hg:setW n ws i on=ws:=by unfold setW;rw [hs];rfl
  refine Ya (rZ G qB V [6,1,0] [3,2,0] fun G=>(Yh (Zk ?_)))
  have G:=G.fresh 1 rfl
  obtain ⟨F,G⟩:=G.push 1 3 Z Z Z kr
  obtain ⟨F,G⟩:=G.push 1 2 Z Z Z kr
  have G:=G.turn 1 Z (r':=RS.hp (Zij (.pointer (some ⟨b,0,none⟩)) n (setW n ws i on))) (fun _ _ _ _ h=>⟨_,(hI.setW i on),(by rw [hg];exact h)⟩)
  refine Zac hG G Z (.tmp Z .nil) (.one (.bool hs.symm)) rfl
 have hs:ZsR n ws i on=true:=by unfold ZsR;revert hc0;cases (decide (0≤i) && decide (i<n)) <;> cases hasW n ws i <;> cases on <;> simp
 have hg:setW n ws i on=ZjJ ws i.toNat:=by unfold setW;rw [hs];rfl
 have hb:0≤i∧i<n:=by
   have hs':=hs
   simp only [ZsR,Yt,Yq] at hs'
   exact hs'.1
 have hhi:=hI.hi
 have hq:=hI.at i hb.1 hb.2
 rw [← shr6] at hq
 have hq2:(i.fdiv (2 ^ min (6:Int).toNat (IntKind.bits .i64))).toNat<ws.length:=by omega
 refine Ye (Za (Ya (Ze G (qR rr (qf (o_nilCheck 2 .is (by rfl)) r1 r1 (qf (oF 1 2 .adr) r1 r1 (qa 2 r1 r1 (qR rr (qf (Zcb .t qi (by decide)) r1 qz (qf (o_indexAddr_row (sz:=1) 3 (.mk underlying272 kr) .is .t hq.1 hq.2 (by rfl)) r2 r1 (qf (Zt (ag:=false) (sz':=1) (sz:=1) 3 .t (by intro x;rfl) hq2 kr kr kr) r1 r1 (qR rr (qf (o_and .t qi) r1 qz (qf (o_conv Yck kr .t) r1 qz (qf (o_shl qi .t (u64_nonneg _)) r1 qz (qf (o_xor .t .t) r2 qz (qf (o_indexAddr_row (sz:=1) 3 (.mk underlying272 kr) .is .t hq.1 hq.2 (by rfl)) r2 r1 (qf (ZH (R:=ZuT) (sz:=1) (v:=_) 3 .t (by intro x;rfl) hq2 .t Z one_int kr) r2 r1 qZ))))))))))))))) V [6] [3,2,0] Z Z fun a w F G=>?_)))
 rw [Zoa (hI.wd _) i ow,shr6,Int.toNat_ediv_64 hb.1] at G
 refine Za (Ya (rZ G qB V [6] [3,2,0] fun G=>Yh ?_))
 have G:=G.fresh 1 rfl
 obtain ⟨F,G⟩:=G.push 1 3 Z Z Z kr
 obtain ⟨F,G⟩:=G.push 1 2 Z Z Z kr
 have G:=G.turn 1 Z (r':=RS.hp (Zij (.pointer (some ⟨b,0,none⟩)) n (setW n ws i on))) (fun _ _ _ _ h=>⟨_,(hI.setW i on),(by rw [hg];exact h)⟩)
 refine Zac hG G Z (.tmp Z .nil) (.one (.bool hs.symm)) rfl
def places (n:Nat) (ws:List Int):List Int:=((List.range n).filter fun j=>bitAt ws j).map fun j:Nat=>(j:Int)
def Zu6 (n:Nat) (ws:List Int):Prop:=∀ j,n≤j→bitAt ws j=false
def Up (n:Nat) (x:List Int):Prop:=x.Pairwise (· < ·) ∧ ∀ i ∈ x,0≤i∧i<n
structure Zex (n:Nat) (ws:List Int) (x:List Int):Prop where
 ok:ZdB n ws
 clean:Zu6 n ws
 up:Up n x
 mem:∀ j:Nat,bitAt ws j=true ↔ (j:Int) ∈ x
theorem Zex.mk' {n:Nat} {ws x:List Int} (hok:ZdB n ws) (hc:Zu6 n ws) (hu:Up n x) (h:∀ j:Nat,j<n→(bitAt ws j=true ↔ (j:Int) ∈ x)):Zex n ws x:=by
 refine ⟨hok,hc,hu,fun j=>?_⟩
 by_cases hj:j<n
 ·exact h j hj
 ·rw [hc j ow]
  constructor
  ·intro h;cases h
  ·intro hm;have:=hu.2 _ hm;omega
theorem Zex.in {n:Nat} {ws x:List Int} (h:Zex n ws x) (i:Int):hasW n ws i=decide (i ∈ x):=by
 unfold hasW
 by_cases hb:0≤i∧i<n
 ·have:=h.mem i.toNat
  rw [YaO hb.1] at this
  rw [show (decide (0≤i) && decide (i<(n:Int)))=true by simp [hb],Ybf]
  by_cases hm:i ∈ x
  ·rw [Yag hm,this.2 hm]
  ·rw [YF hm]
   cases e:bitAt ws i.toNat
   ·rfl
   ·exact absurd (this.1 e) hm
 ·rw [ZdF hb,Bool.false_and,Yaq,YD]
  intro hm
  exact hb (h.up.2 i hm)
theorem Zex.zero (m:Int):Zex (rowN m) (Zif m) []:=by
 have hz:∀ j,bitAt (Zif m) j=false:=fun j=>by unfold bitAt Zif;rw [Zps];simp
 exact ⟨Zms m,fun j _=>hz j,⟨List.Pairwise.nil,by simp⟩,fun j=>by simp [hz j]⟩
def Zqz (i:Int):List Int→Bool→List Int
 | [],d=>if d then [] else [i]
 | x :: l,d=>(if d=false∧i≤x then [i] else [])++(if x=i then [] else [x])++Zqz i l (d || decide (i≤x))
def putL (l:List Int) (n i:Int) (on:Bool):List Int:=Zqz i l (!on || decide (i<0) || decide (n≤i))
theorem Zem (i j:Int):∀ (l:List Int) (d:Bool),j ∈ Zqz i l d ↔ (j≠i∧j ∈ l)∨(j=i∧d=false)
 | [],d=>by cases d <;> simp [Zqz]
 | x :: l,d=>by
  rw [Zqz,YA,YA,Zem i j l]
  by_cases h1:i≤x <;> cases d <;> by_cases h2:x=i <;> by_cases h3:j=i <;> simp_all
  all_goals (try omega)
theorem Zkv (i:Int):∀ (l:List Int) (d:Bool),l.Pairwise (· < ·)→(Zqz i l d).Pairwise (· < ·)
 | [],d,_=>by cases d <;> simp [Zqz]
 | x :: l,d,h=>by
  rw [Yo] at h
  have ih:=Zkv i l (d || decide (i≤x)) h.2
  rw [Zqz]
  by_cases h1:i≤x
  ·have hm:∀ j,j ∈ Zqz i l (d || decide (i≤x))→x<j∧j≠i:=by
    intro j hj
    rw [Zem] at hj
    rcases hj with hj | hj
    ·exact ⟨h.1 j hj.2,hj.1⟩
    ·simp [h1] at hj
   generalize (d || decide (i≤x))=d' at hm ih ⊢
   cases d <;> by_cases h2:x=i
   ·subst h2
    simp only [Yao,and_self,Yv,Yaw,YR,YaP,Yo]
    exact ⟨fun j hj=>(hm j hj).1,ih⟩
   ·simp only [h1,and_self,Yv,h2,Yp,YaP,Yah,Yaw,Yo,Yj]
    refine ⟨?_,fun j hj=>(hm j hj).1,ih⟩
    rintro j (rfl | hj)
    ·omega
    ·have:=hm j hj;omega
   ·simp only [h2,Yv,YR,Bool.true_eq_false,false_and,Yp,Yaw]
    subst h2;exact ih
   ·simp only [h2,Yp,Bool.true_eq_false,false_and,Yaw,YaP,Yo]
    exact ⟨fun j hj=>(hm j hj).1,ih⟩
  ·have hm:∀ j,j ∈ Zqz i l (d || decide (i≤x))→x<j:=by
    intro j hj
    rw [Zem] at hj
    rcases hj with hj | hj
    ·exact h.1 j hj.2
    ·omega
   generalize (d || decide (i≤x))=d' at hm ih ⊢
   have h2:¬ x=i:=by omega
   simp only [h1,and_false,Yp,h2,Yaw,YaP,Yo]
   exact ⟨hm,ih⟩
theorem ZlW {l:List Int} {n i j:Int} {on:Bool} : j ∈ putL l n i on ↔ (j≠i∧j ∈ l)∨(j=i∧on=true∧0≤i∧i<n):=by
 unfold putL
 rw [Zem]
 cases on <;> simp <;> omega
theorem Zus {n:Nat} {l:List Int} (h:Up n l) (i:Int) (on:Bool):Up n (putL l n i on):=by
 refine ⟨Zkv _ _ _ h.1,fun j hj=>?_⟩
 rw [ZlW] at hj
 rcases hj with hj | hj
 ·exact h.2 j hj.2
 ·omega
theorem Zle {n:Nat} {ws:List Int} (hI:ZdB n ws) (i:Int) (on:Bool) (j:Nat):bitAt (setW n ws i on) j=if 0≤i∧i<n∧i=j then on else bitAt ws j:=by
 unfold setW ZsR hasW
 by_cases hb:0≤i∧i<n
 ·rw [show (decide (0≤i) && decide (i<(n:Int)))=true by simp [hb],Ybf,Ybf]
  have hq:=hI.at i hb.1 hb.2
  have flip:∀ j,bitAt (ZjJ ws i.toNat) j=if i=j then !bitAt ws j else bitAt ws j:=by
   intro j
   unfold bitAt ZjJ
   by_cases hj:j / 64<ws.length
   ·rw [Zlf hj]
    by_cases he:i.toNat / 64=j / 64
    ·rw [Yf he,Yb,Nat.testBit_xor,Nat.testBit_two_pow,he]
     by_cases e2:i=j
     ·subst e2;simp
     ·rw [Yc e2,show decide (i.toNat % 64=j % 64)=false by simp;omega,Bool.xor_false]
    ·rw [Yc he,Yc (fun e=>he ow)]
   ·rw [Zkg (by rw [YJ];omega),Zkg ow,Yc (fun e=>hj ow)]
  by_cases h1:(bitAt ws i.toNat != on)=true
  ·rw [Yf h1,flip j]
   by_cases e:i=j
   ·rw [Yf e,Yf ⟨hb.1,hb.2,e⟩]
    subst e
    rw [Yb] at h1
    cases hx:bitAt ws j <;> rw [hx] at h1 <;> cases on <;> simp_all
   ·rw [Yc e,Yc (fun h=>e h.2.2)]
  ·rw [Yc h1]
   by_cases e:i=j
   ·rw [Yf ⟨hb.1,hb.2,e⟩]
    subst e
    rw [Yb] at h1
    cases hx:bitAt ws j <;> rw [hx] at h1 <;> cases on <;> simp_all
   ·rw [Yc (fun h=>e h.2.2)]
 ·rw [ZdF hb,Bool.false_and,Yc (by simp),Yc (fun h=>hb ⟨h.1,h.2.1⟩)]
theorem Zex.set {n:Nat} {ws x:List Int} (h:Zex n ws x) (i:Int) (on:Bool):Zex n (setW n ws i on) (putL x n i on):=by
 refine Zex.mk' (h.ok.setW i on) (fun j hj=>?_) (Zus h.up i on) (fun j hj=>?_)
 ·rw [Zle h.ok,Yc ow,h.clean j hj]
 ·rw [Zle h.ok,ZlW]
  have:=h.mem j
  by_cases e:0≤i∧i<n∧i=j
  ·rw [Yf e]
   constructor
   ·intro ho;exact .inr ⟨e.2.2.symm,ho,e.1,e.2.1⟩
   ·rintro (⟨h1,_⟩ | ⟨_,h2,_⟩)
    ·exact absurd e.2.2.symm h1
    ·exact h2
  ·rw [Yc e,this]
   constructor
   ·intro hm
    refine .inl ⟨fun e'=>e ?_,hm⟩
    omega
   ·rintro (⟨_,h2⟩ | ⟨h1,_,h3,h4⟩)
    ·exact h2
    ·exact absurd ⟨h3,h4,h1.symm⟩ e
end Go.Proofs.YtlkpllemoepamaaGreat
