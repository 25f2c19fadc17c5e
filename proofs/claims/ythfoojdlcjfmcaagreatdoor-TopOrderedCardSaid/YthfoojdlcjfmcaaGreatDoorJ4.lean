/- Laws and walks. No condition beyond what each says. -/
import Derived.Test.YthfoojdlcjfmcaaGreatDoorJ3
namespace Go.Proofs.YthfoojdlcjfmcaaGreatDoor
open Go Go.Gm Tryz
set_option linter.unusedVariables false
set_option linter.unusedSimpArgs false
set_option maxHeartbeats 4000000
set_option maxRecDepth 8000
theorem ZlB {α:Type} [Inhabited α] {p:α→Bool} {l:List α} : decide (0≤ZV p l)=l.any p:=by
 rcases Zaq p l with ⟨h1,h2⟩ | ⟨i,h1,h2,h3,h4⟩
 ·rw [h1,Y3,show decide ((0:Int) ≤ -1)=false by decide,YaV]
  intro x hx
  obtain ⟨k,hk,e⟩:=YL hx
  have:=h2 k hk
  rw [Zm hk,e] at this
  simp [this]
 ·rw [h1,show decide ((0:Int)≤(i:Int))=true by simp,Y3,YaS]
  exact ⟨_,Z5 h2,h3⟩
theorem Zn9 {α:Type} {p:α→Bool} {l:List α} : (!l.any fun v=>!p v)=l.all p:=by
 induction l with
 | nil=>rfl
 | cons x l ih=>rw [List.any_cons,List.all_cons,← ih];cases p x <;> simp
theorem ZnQ (l : List ZbA) (p : ZbA → Bool) (f : FuncId) (fn : Func) (cps : List PV) (hf : prog.funcs[f]? = some fn) (hb : fn.body.isSome = true) (hnn : (fn.name == "runtime.NumGoroutine") = false) (hw : ∀ x, FnP prog f (.agg (ZX x) :: cps) (.bool (p x))) : FnP prog 67 [.sl ZX l, .clos f cps] (.int .i64 (ZV p l)) := by
 refine FnP.mk func67 O ntmps67 O fun B a w F J hfr G=>?_
 have hll:=Sat.lenSl G (i:=0) rfl
 refine Ya (rZ G (qI qZ) J [4,1,0] [0] fun G=>(Ya (Ya ?_)))
 refine rZ G (qR rr (qu YbH r1 (qJ qZ))) J [8,7,4,1,0] [0] fun G=>Yj ?_
 refine Zo (σ:=(Nat)) [0,1,4,7] [0] (fun s=>[(8,.pv (.int .i64 (s:Int)))]) (fun s=>[]) (fun s=>s≤l.length∧(∀ k,k<s→p (Nn l k)=false)) (fun s=>l.length - s) (0) G ⟨rfl,rfl,rfl,rfl,rfl,tv⟩ ⟨rfl,tv⟩ ⟨Yr _,fun k hk=>absurd hk (Y5 k)⟩ ?_
 clear G;intro i a w F hC G
 try dsimp only at hC
 obtain ⟨F,G⟩:=G.nM [8,7,4,1,0] [0]
 try dsimp only at G
 obtain ⟨hi,hq⟩:=hC
 refine Ya (rZ G (qL r2) J [9,8,7,4,1,0] [0] fun G=>Ya ?_)
 refine Zc G O (fun hc0=>?_) (fun hc0=>?_)
 ·skip
  have hil:i<l.length:=by simp at hc0;omega
  refine Yi (Za (Ya (Yj (Ya (rZ G (qR rr (qO rr qZ)) J [8,7,5,4,1,0] [0] fun G=>Ya ?_)))))
  refine Zf G (qR rr (qR rr (qR rr (qy 3 YbH r2 (qf (oR true 3 .t) r1 qz (qf (ZL (avs:=[.agg (ZX (Nn l i))]) .t (hw (Nn l i)) hf hb hnn (Args.one (.pagg .t))) r2 qz qZ)))))) J [16,8,7,5,4,1,0] [0] O O fun a w F G=>?_
  try simp only [Yc] at G
  refine Za (Zc G O (fun hc1=>?_) (fun hc1=>?_))
  ·skip
   have hg:(i:Int)=ZV p l:=(Zdr hil hc1 hq).symm
   refine Ya (rZ G (qR rr (qO rr qZ)) J [8,7,4,1,0] [0] fun G=>(Yg (Zl (Ze (Ze (Zl (Ze ?_)))))))
   refine Zt hfr G O O O (.int hg)
  have hne:p (Nn l i)=false:=hc1
  refine Yi (Zk (Za (rZ G (qp r1 (qR rr qZ)) J [8,7,4,1,0] [0] fun G=>?_)))
  replace G:=G.ent (i:=8) (s':=.pv (.int .i64 ((i+1:Nat):Int))) O (.int (Zh ow))
  obtain ⟨F,G⟩:=G.nM [7,4,1,0,8] [0]
  exact ⟨(i+1),F,⟨by omega,(fun k hk=>by rcases YV (Y6 hk) with h | h;exact hq k h;rw [h];exact hne)⟩,G,by omega⟩
 have hil:i=l.length:=by simp at hc0;omega
 have hg : -1=ZV p l:=(ZbK fun k hk=>hq k (by simp at hc0;omega)).symm
 refine YA (Zj (Zj (Zw (Za (Ya (rZ G (qI qZ) J [4] [0] fun G=>Yg ?_))))))
 refine Zt hfr G O O O (.int hg)
theorem Zn0 (l : List ZbA) (p : ZbA → Bool) (f : FuncId) (fn : Func) (cps : List PV) (hf : prog.funcs[f]? = some fn) (hb : fn.body.isSome = true) (hnn : (fn.name == "runtime.NumGoroutine") = false) (hw : ∀ x, FnP prog f (.agg (ZX x) :: cps) (.bool (p x))) : FnP prog 40 [.sl ZX l, .clos f cps] (.bool (l.any p)) := by
 refine FnP.mk func40 O ntmps40 O fun B a w F J hfr G=>Ya ?_
 refine rZ G qB J [4,1,0] [0] fun G=>Ya ?_
 refine rZ G (qR rr (qR rr (qf (oP (ZnQ l p f fn cps hf hb hnn hw) func67 (Args.two .t .t)) r2 qz (qf (ZeT .t qi) r1 qz (qO rr qZ))))) J [4] [0] fun G=>Yg ?_
 refine Zt hfr G O O O (.bool (by rw [ZlB]))
theorem ZkD (v:ZbA) (g:Zn) (hs:Zbd g.txs):FnP prog 42 [.agg (ZX v),.ref (Zp g)] (.bool (!ZhA g v)):=by
 refine FnP.mk func42 O ntmps42 O fun B a w F J hfr G=>Ya ?_
 refine Zb G (qx 101 r1 qB) J [3,2,1] [101,0] (fun _=>rfl) (fun _=>rfl) fun τ a w F G=>?_
 try dsimp only [RS.sub,SF.sub,CF.sub,csub,Anc.sub,List.map,zCF,Zp,rTx,ZA,ZX,rInt,rOp] at G
 generalize τ 2=v2 at G
 refine Za (Ya (rZ G (qf (oR true 2 .t) r1 qz (qe 3 101 r1 r1 (qf (oP (ZoY g v hs) func43 (Args.two (.pagg .t) (.pagg .t))) r2 qz (qf (o_not .t) r1 qz (qO rr qZ))))) J [3] [101,0] fun G=>Yg ?_))
 refine Zt hfr G O O O .refl
theorem ZiC (g:Zn) (t:TxD) (hs:Zbd g.txs) (ht:t.ops.length≤1000):FnP prog 17 [.agg (Zp g),.agg (rTx t)] (.bool (ZdA g t)):=by
 refine FnP.mk func17 O ntmps17 O fun B a w F J hfr G=>Ya ?_
 refine Zb G (qx 101 r1 (qx 102 r1 qB)) J [4,3,2] [102,101,0] (fun _=>rfl) (fun _=>rfl) fun τ a w F G=>?_
 try dsimp only [RS.sub,SF.sub,CF.sub,csub,Anc.sub,List.map,zCF,Zp,rTx,ZA,ZX,rInt,rOp] at G
 generalize τ 2=v2,τ 3=v3 at G
 refine Za (Ya (ZaC 2 G kr (cG O (oL true 3 102 .is) r1 r1 (cG O (oP (Zgw t ow) func41 (Args.one (.pagg .t))) r1 trivial ZJ.nil)) kr (by rw [J];kernel_rfl) fun a w F G=>?_))
 obtain ⟨F,G⟩:=G.nM [6,4,2] [102,101,0]
 try dsimp only [List.map,xD,xE,xT,xU,ldSF,Zp,rTx,ZA,ZX,rInt,rOp] at G
 obtain ⟨F,G⟩:=G.giveRef 101 2 O O rfl
 obtain ⟨F,G⟩:=G.nM [6,4,2] [102,0]
 try dsimp only [Go.Gm.unCF] at G
 refine ZaZ G kr (cG O (ZaV (Args.one .t)) r1 trivial (cG O (oP (Zn0 (ZaF t) (fun v=>!ZhA g v) 42 f42 [.ref (Zp g)] func42 O kr (fun v=>ZkD v g hs)) func40 (Args.two .t .t)) r2 trivial (cG O (o_not .t) r1 trivial (cG O (oN .t) r1 trivial ZJ.nil)))) kr (by rw [J];kernel_rfl) fun a w F G=>?_
 obtain ⟨F,G⟩:=G.nM [4] [102,0]
 try dsimp only [Zp,rTx,ZA,ZX,rInt,rOp] at G
 refine Za (Yg (Zt hfr G O O O (.bool (by rw [Zn9];rfl))))
def ZdF (os:List OrdD) (k:Int):List OrdD:=if isK OrdD.key k os=true then os else os.take (lowK OrdD.key k os) ++ [⟨k,[]⟩] ++ os.drop (lowK OrdD.key k os)
def Zhn (k:Int):List OrdD→List OrdD
 | []=>[⟨k,[]⟩]
 | o :: os=>if o.key<k then o :: Zhn k os else if o.key=k then o :: os else ⟨k,[]⟩ :: o :: os
theorem ZhG {α:Type} {κ:α→Int} {k:Int} (l:List α):lowK κ k l≤l.length:=by
 unfold lowK
 exact (List.takeWhile_sublist _).length_le
theorem Zx {α:Type} [Inhabited α] {κ:α→Int} {l:List α} : Zcc κ l ↔ l.Pairwise fun a b=>κ a<κ b:=by
 rw [List.pairwise_iff_getElem]
 constructor
 ·intro h i j hi hj hij
  have:=h i j hij hj
  rwa [Zm hi,Zm hj] at this
 ·intro h a b hab hb
  rw [Zm ow,Zm hb]
  exact h a b ow hb hab
theorem Zf9 (k:Int):∀ {os:List OrdD},Zcc OrdD.key os→ZdF os k=Zhn k os
 | [],_=>rfl
 | o :: os,h=>by
  rw [Zx,Yq] at h
  have ih:=Zf9 k (os:=os) (Zx.2 h.2)
  have e1:lowK OrdD.key k (o :: os)=if o.key<k then lowK OrdD.key k os+1 else 0:=by
   unfold lowK
   split
   ·rename_i h1
    rw [List.takeWhile_cons_of_pos (by simpa using h1),Yv]
   ·rename_i h1
    rw [List.takeWhile_cons_of_neg (by simpa using h1)];rfl
  have e2:isK OrdD.key k (o :: os)=(decide (o.key=k) || isK OrdD.key k os):=by unfold isK;rw [List.any_cons]
  by_cases h1:o.key<k
  ·rw [Ye h1] at e1
   have e3:isK OrdD.key k (o :: os)=isK OrdD.key k os:=by rw [e2,Ym ow,Ybf]
   unfold ZdF at ih ⊢
   unfold Zhn
   rw [Ye h1,e3,e1]
   split
   ·rename_i h2;rw [Ye h2] at ih;exact YZ (o :: ·) ih
   ·rename_i h2;rw [Yb h2] at ih;rw [← ih];simp
  ·rw [Yb h1] at e1
   unfold ZdF Zhn
   rw [Yb h1,e1]
   by_cases h3:o.key=k
   ·rw [Ye h3,Ye (by rw [e2,YR h3,Bool.true_or])]
   ·rw [Yb h3,Yb]
    ·simp
    ·rw [e2,Ym h3,Ybf]
     unfold isK
     rw [YaS]
     rintro ⟨x,hx,hk⟩
     have:=h.1 x hx
     simp at hk
     omega
theorem Zid {k:Int} {o:OrdD} : ∀ {os:List OrdD},o ∈ Zhn k os→o ∈ os∨o = ⟨k,[]⟩
 | [],h=>by simp [Zhn] at h;exact .inr h
 | x :: os,h=>by
  unfold Zhn at h
  split at h
  ·rcases Yo.1 h with h | h
   ·exact .inl (by simp [h])
   ·rcases Zid h with h | h
    ·exact .inl (by simp [h])
    ·exact .inr h
  ·split at h
   ·exact .inl h
   ·rcases Yo.1 h with h | h
    ·exact .inr h
    ·exact .inl h
theorem Zg8 {k:Int} : ∀ {os:List OrdD},(os.Pairwise fun a b=>a.key<b.key)→(Zhn k os).Pairwise fun a b=>a.key<b.key
 | [],_=>by simp [Zhn]
 | x :: os,h=>by
  rw [Yq] at h
  unfold Zhn
  split
  ·rename_i h1
   rw [Yq]
   refine ⟨fun o ho=>?_,Zg8 h.2⟩
   rcases Zid ho with h3 | h3
   ·exact h.1 o h3
   ·rw [h3];exact h1
  ·split
   ·rw [Yq];exact h
   ·rw [Yq,Yq]
    refine ⟨fun o ho=>?_,h⟩
    rcases Yo.1 ho with h3 | h3
    ·rw [h3];show k<x.key;omega
    ·have:=h.1 o h3;show k<o.key;omega
theorem insK_rise {os:List OrdD} (k:Int) (h:Zcc OrdD.key os):Zcc OrdD.key (ZdF os k):=by
 rw [Zf9 k h,Zx]
 exact Zg8 (Zx.1 h)
theorem Ziy (os:List OrdD) (k:Int):(ZdF os k).length≤os.length+1:=by
 unfold ZdF
 split
 ·omega
 ·rw [Yd,Yd,Yf,Yt];simp;omega
theorem ZiE {os:List OrdD} {k:Int} {o:OrdD} (h:o ∈ ZdF os k):o ∈ os∨o = ⟨k,[]⟩:=by
 unfold ZdF at h
 split at h
 ·exact .inl h
 ·rw [YM,YM] at h
  rcases h with (h | h) | h
  ·exact .inl (YaB h)
  ·exact .inr (by simpa using h)
  ·exact .inl (YaI h)
def ZcD (t:TxD) (os:List OrdD) (ks:List Int):List OrdD:=if t.done=true then ks.foldl ZdF os else os
theorem Zfc {t:TxD} {os:List OrdD} (h:Zcc OrdD.key os) (hs:Zb7 os) (ks:List Int):Zcc OrdD.key (ZcD t os ks)∧(ZcD t os ks).length≤os.length+ks.length ∧ ∀ o ∈ ZcD t os ks,o.txs.length≤1000:=by
 unfold ZcD
 split
 ·have key:∀ (ks:List Int) (os:List OrdD),Zcc OrdD.key os→(∀ o ∈ os,o.txs.length≤1000)→Zcc OrdD.key (ks.foldl ZdF os)∧(ks.foldl ZdF os).length≤os.length+ks.length ∧ ∀ o ∈ ks.foldl ZdF os,o.txs.length≤1000:=by
   intro ks
   induction ks with
   | nil=>intro os h1 h2;exact ⟨h1,by simp,h2⟩
   | cons k ks ih=>
    intro os h1 h2
    obtain ⟨g1,g2,g3⟩:=ih (ZdF os k) (insK_rise k h1) (fun o ho=>by
     rcases ZiE ho with h | h
     ·exact h2 o h
     ·rw [h];simp)
    have:=Ziy os k
    exact ⟨g1,by rw [Yav,Yv];omega,g3⟩
  exact key ks os h hs.2
 ·exact ⟨h,by omega,hs.2⟩
theorem ZlJ {t:TxD} {os:List OrdD} {ks:List Int} {i:Nat} (hi:i<ks.length) (hc:t.done=true∧isK OrdD.key (Nn ks i) (ZcD t os (ks.take i))=false) :
  (ZcD t os (ks.take i)).take (lowK OrdD.key (Nn ks i) (ZcD t os (ks.take i))) ++ [⟨Nn ks i,[]⟩] ++ (ZcD t os (ks.take i)).drop (lowK OrdD.key (Nn ks i) (ZcD t os (ks.take i)))=ZcD t os (ks.take (i+1)):=by
 have e:ZcD t os (ks.take (i+1))=ZdF (ZcD t os (ks.take i)) (Nn ks i):=by
  unfold ZcD
  rw [Ye hc.1,Ye hc.1,ZF hi,List.foldl_append];rfl
 rw [e];unfold ZdF;rw [Yb (by rw [hc.2];simp)]
theorem Zkc {t:TxD} {os:List OrdD} {ks:List Int} {i:Nat} (hi:i<ks.length) (hc:¬ (t.done=true∧isK OrdD.key (Nn ks i) (ZcD t os (ks.take i))=false)):ZcD t os (ks.take i)=ZcD t os (ks.take (i+1)):=by
 unfold ZcD at hc ⊢
 by_cases hd:t.done=true
 ·rw [Ye hd] at hc
  rw [Ye hd,Ye hd,ZF hi,List.foldl_append]
  have hx:∀ X k,isK OrdD.key k X=true→ZdF X k=X:=fun X k h=>by unfold ZdF;rw [Ye h]
  show _=ZdF _ _
  rw [hx]
  cases h:isK OrdD.key (Nn ks i) ((ks.take i).foldl ZdF os) with
  | true=>rfl
  | false=>exact absurd ⟨hd,h⟩ hc
 ·rw [Yb hd,Yb hd]
def Zhw (t:TxD) (o:OrdD):OrdD:=⟨o.key,if t.done=true∧0<wcnt t.ops o.key then withO o.txs t.id else withoutO o.txs t.id⟩
def settleO (t:TxD) (os:List OrdD):List OrdD:=((ZcD t os (ZP t)).map (Zhw t)).filter fun o=>!decide (o.txs = [])
theorem ZoN {α:Type} [Inhabited α] {f:α→α} {l l2:List α} {i:Nat} (hi:i<l.length) (h:l2=(l.take i).map f++l.drop i):Nn l2 i=Nn l i∧l2.length=l.length:=by
 have h2:l2.length=l.length:=by rw [h,Yd,YY,Yf,Yt];omega
 refine ⟨?_,h2⟩
 rw [Zm ow,Zm hi]
 subst h
 rw [List.getElem_append_right (by rw [YY,Yf];omega)]
 simp only [YY,Yf,List.getElem_drop]
 congr 1
 omega
theorem ZoF {α:Type} [Inhabited α] {f:α→α} {l l2:List α} {i:Nat} (hi:i<l.length) (h:l2=(l.take i).map f++l.drop i):l2.set i (f (Nn l i))=(l.take (i+1)).map f++l.drop (i+1):=by
 have hd:l.drop i=Nn l i :: l.drop (i+1):=by rw [Zm hi];exact List.drop_eq_getElem_cons hi
 rw [h,ZF hi,Yap,Yad,Ybe _ _ (by rw [YY,Yf];omega)]
 congr 1
 have:i - ((l.take i).map f).length=0:=by rw [YY,Yf];omega
 rw [this,hd];rfl
abbrev Zja (T TR:TypeId) (p va:Value) (os:List OrdD):HP:=HP.ex fun vb:Value=>HP.star [.pt (.val p) T [.pv (.is va),.pv (.is vb)],.ob (.val vb) (Zs TR 2 ZA os)]
theorem ZmQ {k:IntKind} {a:Int} {b:Bool} (v:Value) (w:World) (y y':Ys) (h:(PV.tup [.int k a,.bool b]).p v w y):(PV.tup [.int k a,.bool b]).p v w y':=by
 obtain ⟨vs,e,h⟩:=h
 match vs,h with
 | [_,_],h=>exact ⟨_,e,h⟩
theorem Znh {α:Type} {R:α→List PV} {l:List PV} {l':List α} (h:Nat.ble l'.length maxLen=true) (e:ZeV l (l'.flatMap R)):Ent (.pv (.arr l'.length l)) (.pv (.sl R l')):=fun _ w y v k=>ZT.arrSl h e v w y k
theorem ZjW (o:OrdD):FnP prog 83 [.agg (ZA o)] (.bool (decide (o.txs = []))):=by
 refine FnP.mk func83 O ntmps83 O fun B a w F J hfr G=>Ya ?_
 refine Zb G (qx 101 r1 qB) J [2,1] [101,0] (fun _=>rfl) (fun _=>rfl) fun τ a w F G=>?_
 try dsimp only [RS.sub,SF.sub,CF.sub,csub,Anc.sub,List.map,zCF,ZA,rInt] at G
 generalize τ 1=v1 at G
 refine Za (Ya (rZ G (qg 1 101 r1 r1 (qa 101 r1 r1 (qu Ybz r1 (qf (o_eql .t qi) r1 qz (qO rr qZ))))) J [2] [0] fun G=>Yg ?_))
 refine Zt hfr G O O O (.bool (by rw [YaD];simp))
theorem Zgm (p va:Value) (os:List OrdD) (t:TxD) (hs:Zb7 os) (hr:Zcc OrdD.key os) (ht:t.ops.length≤1000):FnG prog 51 1 [.is p,.agg (rTx t)] [Zja 25 34 p va os] (.tup []) (fun _=>[Zja 25 34 p va (settleO t os)]):=by
 refine FnG.mk func51 O ntmps51 O kr fun B F0 a w F J hG G=>?_
 have hso:=hs.1
 have hkl:=Zb2 t
 replace G:=G.turn 1 O (r':=RS.hp (HP.ex fun vb:Value=>HP.star [.pt (.val p) 25 [.pv (.is va),.pv (.is vb)],.ob (.val vb) (Zs 34 2 ZA os)])) (fun _ _ _ _ h=>h)
 obtain ⟨vb0,G⟩:=G.open_ex 1 rfl
 obtain ⟨F,G⟩:=G.peel 1 61 O rfl
 obtain ⟨F,G⟩:=G.peel 1 62 O rfl
 obtain ⟨F,G⟩:=G.nM [1,0] [62,61,1,0]
 refine Ya (Zb G (qx 101 r1 qZ) J [3,0] [101,62,61,1,0] (fun _=>rfl) (fun _=>rfl) fun τ a w F G=>?_)
 try dsimp only [RS.sub,SF.sub,CF.sub,csub,Anc.sub,List.map,zCF,Zp,rTx,ZA,ZX,rInt,rOp] at G
 generalize τ 3=v3 at G
 refine Za (Ya (Ya (Zf G (qe 3 101 r1 r1 (qf (oP (Zj2 t ow) func44 (Args.one (.pagg .t))) r1 qz (qu Ybz r1 (qJ qZ)))) J [13,12,11,3,0] [101,62,61,1,0] O O fun a w F G=>?_)))
 rw [show Zdq ((t.ops.filter fun o=>!o.read).map OpD.key)=ZP t from rfl] at G
 refine Za (Yj (Zo (σ:=(Nat)×(Value)×(List OrdD)) [0,3,11,12] [0,1,101] (fun s=>[(13,.pv (.int .i64 (s.1:Int)))]) (fun s=>[(61,.pt (.val p) 25 [.pv (.is va),.pv (.is s.2.1)]),(62,.ob (.val s.2.1) (Zs 34 2 ZA s.2.2))]) (fun s=>s.1≤(ZP t).length∧(s.2.2=ZcD t os ((ZP t).take s.1))) (fun s=>(ZP t).length - s.1) ((0),(vb0),(os)) G ⟨rfl,rfl,rfl,rfl,rfl,tv⟩ ⟨rfl,rfl,rfl,rfl,rfl,tv⟩ ⟨Yr _,(by unfold ZcD;split <;> rfl)⟩ ?_))
 clear G;intro s a w F hC G
 obtain ⟨i,vb,ol⟩:=s
 try dsimp only at hC
 obtain ⟨F,G⟩:=G.nM [13,12,11,3,0] [101,62,61,1,0]
 try dsimp only at G
 obtain ⟨hi,hq⟩:=hC
 obtain ⟨hf1,hf2,hf3⟩:=Zfc (t:=t) hr hs ((ZP t).take i)
 rw [Yf,← hq] at hf2
 rw [← hq] at hf1 hf3
 have hst:=fun h=>ZlJ (t:=t) (os:=os) (ks:=(ZP t)) (i:=i) h
 have hsk:=fun h=>Zkc (t:=t) (os:=os) (ks:=(ZP t)) (i:=i) h
 rw [← hq] at hst hsk
 have hlk:=ZhG (κ:=OrdD.key) (k:=(Nn (ZP t) i)) ol
 refine Ya (rZ G (qL r2) J [14,13,12,11,3,0] [101,62,61,1,0] fun G=>Ya ?_)
 refine Zc G O (fun hc0=>?_) (fun hc0=>?_)
 ·have hil:i<(ZP t).length:=by simp at hc0;omega
  have hio:=hil
  refine Yi (Za (Ya (Yj (Ya (Zf G (qy 1 Ybz r2 (qf (oR false 1 .t) r1 qz (qO rr qZ))) J [13,12,11,5,3,0] [101,62,61,1,0] O O fun a w F G=>?_)))))
  try simp only [Yc] at G
  refine Za (Ya (rZ G (qR rr (qf (Zr 61 .is (by rfl)) r1 r1 (qf (oF 1 61 .adr) r1 r1 (qa 61 r1 r1 (qR rr (qf (OpC.lendRow 62 [21] (oP (ZoW ol (Nn (ZP t) i) ow hf1 78 f78 [] func78 O kr (fun x=>ZjY x (Nn (ZP t) i))) func77 (Args.three .t .t (.conv .f (Ent.fnClos)))) ⟨rfl,tv,tv⟩ (.pv ZmQ) trivial (by rfl)) r2 r1 (qR rr (qf (Zi .t O) r1 qz (qf (Zi .t O) r1 qz (qO rr (qO rr qZ))))))))))) J [13,12,11,7,6,5,3,0] [101,62,61,1,0] fun G=>Ya ?_))
  refine rZ G (qg 1 101 r1 r1 (qa 101 r1 r1 (qR rr (qm O O O O (qk O (fun h=>o_not (.w h)) r2 qz (qf (ZR .t .t) r2 qz qZ)))))) J [31,13,12,11,6,5,3,0] [101,62,61,1,0] fun G=>?_
  refine Zc G O (fun hc1=>?_) (fun hc1=>?_)
  ·have hq9:=hst hio (by simpa using hc1)
   refine Zb G (qR rr (qR rr (qf (Zr 61 .is (by rfl)) r1 r1 (qf (oF 1 61 .adr) r1 r1 (qa 61 r1 r1 (qR rr (qR rr (qf (oB [(0,.tmp 38)] [.int .i64 0,.slice none 0 0] [(0,1),(1,1)] (.one O .t one_int kr .nil)) r1 qz (qf (Zz (sz:=2) (zs:=[.int .i64 0,.slice none 0 0]) (r:=[(0,.tmp 39)]) (l:=[_,_]) YbB kr kr kr kr O O (.agg O .t kr kr .nil) O) r1 qz (qf (ZaX 62 (Zps vb ol (lowK OrdD.key (Nn (ZP t) i) ol) ⟨(Nn (ZP t) i),[]⟩ ow hlk) func79 O kr (Args.three .t .t (.conv .t (Znh (l:=[.int .i64 (Nn (ZP t) i),.is (.slice none 0 0)]) (R:=ZA) (l':=[⟨(Nn (ZP t) i),[]⟩]) O ⟨ZT.refl,ZT.nilSl,tv⟩))) Zbh) r3 r1 (qf (Zr 61 .is (by rfl)) r1 r1 (qf (oF 1 61 .adr) r1 r1 (qf (Zah 61 .adr kr kr) r2 r1 qZ))))))))))))) J [13,12,11,3,0] [101,62,61,1,0] (fun _=>rfl) (fun _=>rfl) fun τ a w F G=>?_
   try dsimp only [RS.sub,SF.sub,CF.sub,csub,Anc.sub,List.map,Zg,xL,xM,Nat.reduceAdd,xD,xE,xT,xU,xC,xN,zCF,ldSF,Zp,rTx,ZA,ZX,rInt,rOp] at G
   generalize τ 41=v41 at G
   refine Zk (Za (rZ G (qp r1 (qR rr qZ)) J [13,12,11,3,0] [101,62,61,1,0] fun G=>?_))
   replace G:=G.ent (i:=13) (s':=.pv (.int .i64 ((i+1:Nat):Int))) O (.int (Zh ow))
   obtain ⟨F,G⟩:=G.nM [12,11,3,0,13] [101,1,0,62,61]
   exact ⟨((i+1),_,_),F,⟨by omega,hq9⟩,G,by omega⟩
  have hq9:=hsk hio (by intro e;simp [e.1,e.2] at hc1)
  refine Yi (Zk (Za (rZ G (qp r1 (qR rr qZ)) J [13,12,11,3,0] [101,62,61,1,0] fun G=>?_)))
  replace G:=G.ent (i:=13) (s':=.pv (.int .i64 ((i+1:Nat):Int))) O (.int (Zh ow))
  obtain ⟨F,G⟩:=G.nM [12,11,3,0,13] [101,1,0,62,61]
  exact ⟨((i+1),_,_),F,⟨by omega,hq9⟩,G,by omega⟩
 have hil:i=(ZP t).length:=by simp at hc0;omega
 have hq0:ol=ZcD t os (ZP t):=by rw [hq,hil,Y7]
 refine YA (Zj (Zj (Zw (Za (Ya (Ya (rZ G (qR rr (qf (Zr 61 .is (by rfl)) r1 r1 (qf (oF 1 61 .adr) r1 r1 (qa 61 r1 r1 (qf (Zaj 62 YbB .is) r1 r1 (qJ qZ)))))) J [50,49,3,0] [101,62,61,1,0] fun G=>Yj ?_)))))))
 refine Zo (σ:=(Nat)×(List OrdD)) [0,3,49] [0,1,61,101] (fun s=>[(50,.pv (.int .i64 (s.1:Int)))]) (fun s=>[(62,.ob (.val vb) (Zs 34 2 ZA s.2))]) (fun s=>s.1≤ol.length∧(s.2=(ol.take s.1).map (Zhw t)++ol.drop s.1)) (fun s=>ol.length - s.1) ((0),(ol)) G ⟨rfl,rfl,rfl,rfl,tv⟩ ⟨rfl,rfl,rfl,rfl,rfl,tv⟩ ⟨Yr _,(by simp)⟩ ?_
 clear G;intro s a w F hC G
 obtain ⟨i,o2⟩:=s
 try dsimp only at hC
 obtain ⟨F,G⟩:=G.nM [50,49,3,0] [101,62,61,1,0]
 try dsimp only at G
 obtain ⟨hi,hq⟩:=hC
 have hm:=fun h=>ZoN (f:=Zhw t) (l:=ol) (i:=i) h hq
 have hms:=fun h=>ZoF (f:=Zhw t) (l:=ol) (i:=i) h hq
 refine Ya (rZ G (qL r2) J [51,50,49,3,0] [101,62,61,1,0] fun G=>Ya ?_)
 refine Zc G O (fun hc2=>?_) (fun hc2=>?_)
 ·have hil:i<ol.length:=by simp at hc2;omega
  have hio:=hil
  have hol:=hf3 _ (Z5 hio)
  have hmn:=(hm hio).1
  have hms2:=hms hio
  have hol2:(Nn o2 i).txs.length≤1000:=by rw [hmn];exact hol
  refine Yi (Za (Ya (Yj (Ya (rZ G (qR rr (qO rr qZ)) J [50,49,8,3,0] [101,62,61,1,0] fun G=>Ya ?_)))))
  refine Zf G (qR rr (qf (Zr 61 .is (by rfl)) r1 r1 (qf (oF 1 61 .adr) r1 r1 (qa 61 r1 r1 (qR rr (qf (o_indexAddr_row (sz:=2) 62 (.mk YbB kr) .is .t ow ow (by rfl)) r2 r1 (qO rr qZ))))))) J [50,49,9,3,0] [101,62,61,1,0] O O fun a w F G=>?_
  try simp only [Yc] at G
  refine Za (Ya (ZO G (qg 1 101 r1 r1 (qa 101 r1 r1 (qR rr (qk O (fun h=>oL true 3 101 .is) r2 r1 (qm O O O O (qk O (fun h=>Zad (sz:=2) 62 (.w h) (by intro x;rfl) (by have:=(hm hil).2;omega)) r2 r1 (qk O (fun h=>Z6 (off:=0) (sz:=2) 62 (.w h) (by have:=(hm hil).2;omega) kr (by rfl)) r2 r1 (qk O (fun h=>Zcj (ag:=false) (sz':=1) (sz:=2) 62 (.w h) (by intro x;rfl) (by have:=(hm hil).2;omega) kr kr kr) r2 r1 (qk O (fun h=>oP (Zex t (Nn o2 i).key ow) func69 (Args.two (.pagg (.w h)) (.w h))) r3 qz (qk O (fun h=>Zbs (.w h) qi) r2 qz (qf (ZR .t .t) r2 qz qZ))))))))))) J [69,50,49,9,3,0] [101,62,61,1,0] O O fun a w F G=>?_))
  try dsimp only [List.map,xD,xE,xT,xU,ldSF,Zp,rTx,ZA,ZX,rInt,rOp] at G
  refine Za (Zc G O (fun hc3=>?_) (fun hc3=>?_))
  ·have hq9:o2.set i ⟨(Nn o2 i).key,withO (Nn o2 i).txs t.id⟩ = (ol.take (i+1)).map (Zhw t)++ol.drop (i+1):=by rw [← hms2,hmn];unfold Zhw;rw [Ye (by have h9:=hc3;unfold wcnt;simpa [hmn] using h9)]
   refine ZO G (qR rr (qR rr (qf (Zad (sz:=2) 62 .t (by intro x;rfl) (by have:=(hm hil).2;omega)) r1 r1 (qf (Z6 (off:=1) (sz:=2) 62 .t (by have:=(hm hil).2;omega) kr (by rfl)) r1 r1 (qf (Zcj (ag:=false) (sz':=1) (sz:=2) 62 .t (by intro x;rfl) (by have:=(hm hil).2;omega) kr kr kr) r1 r1 (qg 0 101 r1 r1 (qa 101 r1 r1 (qf (oP (Zn3 (Nn o2 i).txs t.id ow) func80 (Args.two .t .t)) r2 qz (qf (Zad (sz:=2) 62 .t (by intro x;rfl) (by have:=(hm hil).2;omega)) r1 r1 (qf (Z6 (off:=1) (sz:=2) 62 .t (by have:=(hm hil).2;omega) kr (by rfl)) r1 r1 (qf (ZbQ (R:=ZA) (sz:=2) (off:=1) (v':=(⟨(Nn o2 i).key,withO (Nn o2 i).txs t.id⟩:OrdD)) 62 .t (by intro x;rfl) (by have:=(hm hil).2;omega) (by decide) .t one_sl O kr) r2 r1 qZ))))))))))) J [50,49,3,0] [101,62,61,1,0] O O fun a w F G=>?_
   try dsimp only [List.map,Zg,xL,xM,Nat.reduceAdd,xD,xE,xT,xU,xC,xN,zCF,ldSF,Zp,rTx,ZA,ZX,rInt,rOp] at G
   refine Zk (Za (rZ G (qp r1 (qR rr qZ)) J [50,49,3,0] [101,62,61,1,0] fun G=>?_))
   replace G:=G.ent (i:=50) (s':=.pv (.int .i64 ((i+1:Nat):Int))) O (.int (Zh ow))
   obtain ⟨F,G⟩:=G.nM [49,3,0,50] [101,61,1,0,62]
   exact ⟨((i+1),_),F,⟨by omega,hq9⟩,G,by omega⟩
  have hq9:o2.set i ⟨(Nn o2 i).key,withoutO (Nn o2 i).txs t.id⟩ = (ol.take (i+1)).map (Zhw t)++ol.drop (i+1):=by rw [← hms2,hmn];unfold Zhw;rw [Yb (by have h9:=hc3;unfold wcnt;intro e;rw [← hmn] at e;simp [e.1,e.2] at h9)]
  refine ZO G (qR rr (qR rr (qf (Zad (sz:=2) 62 .t (by intro x;rfl) (by have:=(hm hil).2;omega)) r1 r1 (qf (Z6 (off:=1) (sz:=2) 62 .t (by have:=(hm hil).2;omega) kr (by rfl)) r1 r1 (qf (Zcj (ag:=false) (sz':=1) (sz:=2) 62 .t (by intro x;rfl) (by have:=(hm hil).2;omega) kr kr kr) r1 r1 (qg 0 101 r1 r1 (qa 101 r1 r1 (qf (oP (ZjP (Nn o2 i).txs t.id ow) func81 (Args.two .t .t)) r2 qz (qf (Zad (sz:=2) 62 .t (by intro x;rfl) (by have:=(hm hil).2;omega)) r1 r1 (qf (Z6 (off:=1) (sz:=2) 62 .t (by have:=(hm hil).2;omega) kr (by rfl)) r1 r1 (qf (ZbQ (R:=ZA) (sz:=2) (off:=1) (v':=(⟨(Nn o2 i).key,withoutO (Nn o2 i).txs t.id⟩:OrdD)) 62 .t (by intro x;rfl) (by have:=(hm hil).2;omega) (by decide) .t one_sl O kr) r2 r1 qZ))))))))))) J [50,49,3,0] [101,62,61,1,0] O O fun a w F G=>?_
  try dsimp only [List.map,Zg,xL,xM,Nat.reduceAdd,xD,xE,xT,xU,xC,xN,zCF,ldSF,Zp,rTx,ZA,ZX,rInt,rOp] at G
  refine Zk (Za (rZ G (qp r1 (qR rr qZ)) J [50,49,3,0] [101,62,61,1,0] fun G=>?_))
  replace G:=G.ent (i:=50) (s':=.pv (.int .i64 ((i+1:Nat):Int))) O (.int (Zh ow))
  obtain ⟨F,G⟩:=G.nM [49,3,0,50] [101,61,1,0,62]
  exact ⟨((i+1),_),F,⟨by omega,hq9⟩,G,by omega⟩
 have hil:i=ol.length:=by simp at hc2;omega
 have hfin:(o2.filter fun o=>!decide (o.txs = []))=settleO t os:=by rw [hq,hil,Y7,Ybj,Y2,hq0];rfl
 have ho2:o2.length=ol.length:=by rw [hq,hil];simp
 refine YA (Zj (Zj (Zw (Za (Zb G (qR rr (qR rr (qf (Zr 61 .is (by rfl)) r1 r1 (qf (oF 1 61 .adr) r1 r1 (qa 61 r1 r1 (qf (ZaX 62 (Zoy vb o2 ow (fun o=>decide (o.txs = [])) 83 f83 [] func83 O kr (fun o=>ZjW o)) func82 O kr (Args.two .t (.conv .f (Ent.fnClos))) Zbh) r1 r1 (qf (Zr 61 .is (by rfl)) r1 r1 (qf (oF 1 61 .adr) r1 r1 (qf (Zah 61 .adr kr kr) r2 r1 qZ))))))))) J [] [101,62,61,1,0] (fun _=>rfl) (fun _=>rfl) fun τ a w F G=>?_)))))
 try dsimp only [RS.sub,SF.sub,CF.sub,csub,Anc.sub,List.map,Zg,xL,xM,Nat.reduceAdd,xD,xE,xT,xU,xC,xN,zCF,ldSF,Zp,rTx,ZA,ZX,rInt,rOp] at G
 generalize τ 96=v96 at G
 obtain ⟨F,G⟩:=G.push 1 62 O O O rfl
 obtain ⟨F,G⟩:=G.push 1 61 O O O rfl
 have G:=G.turn 1 O (r':=RS.hp (Zja 25 34 p va (settleO t os))) (fun _ _ _ _ h=>⟨v96,by rw [hfin] at h;exact h⟩)
 refine Zkl hG G O .nil .none rfl
theorem Zj0 (g:Zn) (hs:Zbd g.txs):FnG prog 18 1 [.agg (Zp g)] [.star []] (PV.one) (fun v=>[HP.ex fun s:List (GE Int (List Int))×Nat=>HP.and (WrL s.1 g.txs) (ZbO (fun l:List Int=>PV.sl rInt l) (fun _=>True) (fun n:Int=>Value.int .i64 n) s.1 s.2 v)]):=by
 refine FnG.mk func18 O ntmps18 O kr fun B F0 a w F J hG G=>?_
 have hsl:=hs.1
 obtain ⟨F,G⟩:=G.nM [0] [0]
 refine Ya (Zb G (qx 101 r1 (qC qZ)) J [2,1] [101,0] (fun _=>rfl) (fun _=>rfl) fun τ a w F G=>?_)
 try dsimp only [RS.sub,SF.sub,CF.sub,csub,Anc.sub,List.map,zCF,Zp,rTx,ZA,ZX,rInt,rOp] at G
 generalize τ 1=v1 at G
 refine Za (Ya (Zb G (qf (Z7 (ek:=(fun p:Value×List Int=>PV.is p.1)) (ok:=(fun _=>True)) (kv:=(fun n:Int=>Value.int .i64 n)) 102) trivial qz (qO rr qZ)) J [3,2,1] [102,101,0] (fun _=>rfl) (fun _=>rfl) fun τ a w F G=>?_))
 try dsimp only [RS.sub,SF.sub,CF.sub,csub,Anc.sub,List.map,Zg,xL,xM,Nat.reduceAdd,xD,xE,xT,xU,xC,xN,zCF,Zp,rTx,ZA,ZX,rInt,rOp] at G
 generalize τ 8=v8 at G
 replace G:=G.fresh 60 rfl
 replace G:=G.turn 60 O (r':=Zml 3 1 rInt ([]:List (GE Int (Value×List Int)))) (fun _ _ _ _ h=>h)
 obtain ⟨F,G⟩:=G.nM [3,2,1] [102,101,60,0]
 refine Za (Ya (Ya (rZ G (qg 0 101 r1 r1 (qa 101 r1 r1 (qu YbA r1 (qJ qZ)))) J [12,11,10,3,2] [102,101,60,0] fun G=>Yj ?_)))
 refine Zo (σ:=(Nat)×(List (GE Int (Value×List Int)))×(Nat)) [2,3,10,11] [0,101] (fun s=>[(12,.pv (.int .i64 (s.1:Int)))]) (fun s=>[(102,.ob (.val v8) (ZbO (fun p:Value×List Int=>PV.is p.1) (fun _=>True) (fun n:Int=>Value.int .i64 n) s.2.1 s.2.2)),(60,Zml 3 1 rInt s.2.1)]) (fun s=>s.1≤g.txs.length∧(WrV s.2.1 (g.txs.take s.1) 0 [])) (fun s=>g.txs.length - s.1) ((0),([]),(0)) G ⟨rfl,rfl,rfl,rfl,rfl,tv⟩ ⟨rfl,rfl,rfl,rfl,tv⟩ ⟨Yr _,Zn1⟩ ?_
 clear G;intro s a w F hC G
 obtain ⟨i,es,ck⟩:=s
 try dsimp only at hC
 obtain ⟨F,G⟩:=G.nM [12,11,10,3,2] [102,101,60,0]
 try dsimp only at G
 obtain ⟨hi,hq⟩:=hC
 have hxl:=fun hil:i<g.txs.length=>hs.at hil
 refine Ya (rZ G (qL r2) J [13,12,11,10,3,2] [102,101,60,0] fun G=>Ya ?_)
 refine Zc G O (fun hc0=>?_) (fun hc0=>?_)
 ·have hil:i<g.txs.length:=by simp at hc0;omega
  have hio:=hil
  have hw0:=hq
  have htl:=hxl hil
  have hkt:=Zb2 (Nn g.txs i)
  have hsl:=hs.1
  refine Yi (Za (Ya (Yj (Ya (Zb G (qy 3 YbA r2 (qf (oR true 3 .t) r1 qz (qf (oH [.int .i64 0,.bool false,.slice none 0 0] 103) trivial qz (qS 3 103 r2 r1 qZ)))) J [12,11,10,5,3,2] [103,102,101,60,0] (fun _=>rfl) (fun _=>rfl) fun τ a w F G=>?_)))))
  try dsimp only [RS.sub,SF.sub,CF.sub,csub,Anc.sub,List.map,Zg,xL,xM,Nat.reduceAdd,xD,xE,xT,xU,xC,xN,zCF,ldSF,Zp,rTx,ZA,ZX,rInt,rOp] at G
  generalize τ 5=v5 at G
  try simp only [Yc] at G
  refine Za (Ya (Ya (rZ G (qg 1 103 r1 r1 (qa 103 r1 r1 (qf (o_not .t) r1 qz qZ))) J [18,12,11,10,5,3,2] [103,102,101,60,0] fun G=>?_)))
  refine Zc G O (fun hc1=>?_) (fun hc1=>?_)
  ·have hdn:(Nn g.txs i).done=false:=by simpa using hc1
   obtain ⟨es2,he2⟩:∃ z,z=es:=⟨_,rfl⟩
   obtain ⟨ck2,hc2⟩:∃ z,z=ck:=⟨_,rfl⟩
   have hR2:WrV es2 (g.txs.take (i+1)) 0 []:=by rw [he2];exact ZoD hw0 hio hdn
   rw [← he2,← hc2] at G
   refine YA (Zj (Zw (Za (rZ G (qp r1 (qR rr qZ)) J [12,11,10,3,2] [103,102,101,60,0] fun G=>?_))))
   replace G:=G.ent (i:=12) (s':=.pv (.int .i64 ((i+1:Nat):Int))) O (.int (Zh ow))
   obtain ⟨F,G⟩:=G.nM [11,10,3,2,12] [101,0,60,102]
   exact ⟨((i+1),(es2),(ck2)),F,⟨by omega,hR2⟩,G,by omega⟩
  have hdn:(Nn g.txs i).done=true:=by simpa using hc1
  refine Yi (Za (Ya (Zf G (qe 3 103 r1 r1 (qf (oP (Zj2 (Nn g.txs i) (by have:=hxl hio;omega)) func44 (Args.one (.pagg .t))) r1 qz (qu Ybz r1 (qJ qZ)))) J [22,21,20,12,11,10,5,3,2] [103,102,101,60,0] O O fun a w F G=>?_)))
  rw [show Zdq (((Nn g.txs i).ops.filter fun o=>!o.read).map OpD.key)=ZP (Nn g.txs i) from rfl] at G
  refine Za (Yj (Zo (σ:=(Nat)×(List (GE Int (Value×List Int)))×(Nat)) [2,3,5,10,11,12,20,21] [0,101,103] (fun s=>[(22,.pv (.int .i64 (s.1:Int)))]) (fun s=>[(102,.ob (.val v8) (ZbO (fun p:Value×List Int=>PV.is p.1) (fun _=>True) (fun n:Int=>Value.int .i64 n) s.2.1 s.2.2)),(60,Zml 3 1 rInt s.2.1)]) (fun s=>s.1≤(ZP (Nn g.txs i)).length∧(WrV s.2.1 (g.txs.take i) (Nn g.txs i).id ((ZP (Nn g.txs i)).take s.1))) (fun s=>(ZP (Nn g.txs i)).length - s.1) ((0),(es),(ck)) G ⟨rfl,rfl,rfl,rfl,rfl,rfl,rfl,rfl,rfl,tv⟩ ⟨rfl,rfl,rfl,rfl,rfl,tv⟩ ⟨Yr _,(by simpa using Zmb hw0)⟩ ?_))
  clear G;intro s a w F hC G
  obtain ⟨j,es,ck⟩:=s
  try dsimp only at hC
  obtain ⟨F,G⟩:=G.nM [22,21,20,12,11,10,5,3,2] [103,102,101,60,0]
  try dsimp only at G
  obtain ⟨hi,hq⟩:=hC
  refine Ya (rZ G (qL r2) J [23,22,21,20,12,11,10,5,3,2] [103,102,101,60,0] fun G=>Ya ?_)
  refine Zc G O (fun hc2=>?_) (fun hc2=>?_)
  ·have hil:j<(ZP (Nn g.txs i)).length:=by simp at hc2;omega
   have hwo:=Znr hq (ZdW _) hil
   have hwn:=ZbZ (g.txs.take i) (Nn (ZP (Nn g.txs i)) j)
   rw [Yf] at hwn
   rw [← hwo] at hwn
   refine Yi (Za (Ya (Yj (Ya (Zf G (qy 1 Ybz r2 (qf (oR false 1 .t) r1 qz (qO rr qZ))) J [22,21,20,12,11,10,7,5,3,2] [103,102,101,60,0] O O fun a w F G=>?_)))))
   try simp only [Yc] at G
   refine Za (ZaC 5 G kr (cG O (oM .t) r1 trivial (cG O (oM .t) r1 trivial (cG O (oM .t) r1 trivial (cG O (oM .t) r1 trivial (cG O (Za7 (ek:=(fun p:Value×List Int=>PV.is p.1)) (z0:=ZfX) 102 underlying63 (ZdO YbD) kr (fun _ _=>⟨rfl,rfl⟩) .is (ZM.int .t O)) r2 r1 ZJ.nil))))) kr (by rw [J];kernel_rfl) fun a w F G=>?_)
   obtain ⟨F,G⟩:=G.nM [30,27,26,22,21,20,12,11,10,5,3,2] [103,102,101,60,0]
   try dsimp only [Zp,rTx,ZA,ZX,rInt,rOp] at G
   obtain ⟨F,G⟩:=G.takeKey (T:=3) (sz:=1) (R:=rInt) 60 61 (Nn (ZP (Nn g.txs i)) j) O rfl
   obtain ⟨F,G⟩:=G.nM [30,27,26,22,21,20,12,11,10,5,3,2] [103,102,101,61,60,0]
   refine Zhc 4 G kr (cG O (oF 0 103 .is) r1 r1 (cG O (oL false 1 103 .adr) r1 r1 (cG O (Zz (sz:=1) (zs:=[.int .i64 0]) (r:=[(0,.tmp 32)]) (l:=[_]) Ybz kr kr kr kr O O (.one O .t one_int kr .nil) O) r1 trivial (cG O (Z4 (sz:=1) (bs:=8) 61 (.mk' Ybz kr kr) (by intro x;rfl) .is (.arr (l':=[_]) .t) (by simp only [Yd,Yv,YS];omega) (by decide)) ⟨rfl,rfl,tv⟩ ⟨rfl,tv⟩ ZJ.nil)))) kr (by rw [J];kernel_rfl) fun a w F G=>?_
   replace G:=G.sub
   obtain ⟨F,G⟩:=G.nM [34,27,26,22,21,20,12,11,10,5,3,2] [103,102,101,61,60,0]
   try dsimp only [RS.sub,SF.sub,CF.sub,csub,Anc.sub,List.map,Zg,xL,xM,Nat.reduceAdd,xD,xE,xT,xU,xC,xN,zCF,ldSF,Zp,rTx,ZA,ZX,rInt,rOp] at G
   generalize Act.tau a 34=v34 at G
   refine ZaZ G kr (cG O (Zb0 (ek:=(fun p:Value×List Int=>PV.is p.1)) (v:=((v34,((gGet (Nn (ZP (Nn g.txs i)) j) es).getD ZfX).2 ++ [(Nn g.txs i).id]):Value×List Int)) 102 underlying63 (ZdO YbD) .is (ZM.int .t O) .t) r3 r1 ZJ.nil) kr (by rw [J];kernel_rfl) fun a w F G=>?_
   obtain ⟨F,G⟩:=G.nM [22,21,20,12,11,10,5,3,2] [103,102,101,61,60,0]
   try dsimp only [Zp,rTx,ZA,ZX,rInt,rOp] at G
   refine Zk (Za (rZ G (qp r1 (qR rr qZ)) J [22,21,20,12,11,10,5,3,2] [103,102,101,61,60,0] fun G=>?_))
   obtain ⟨F,G⟩:=G.putKey (T:=3) (sz:=1) (R:=rInt) 60 61 (Nn (ZP (Nn g.txs i)) j) ck O O rfl
   replace G:=G.ent (i:=22) (s':=.pv (.int .i64 ((j+1:Nat):Int))) O (.int (Zh ow))
   obtain ⟨F,G⟩:=G.nM [21,20,12,11,10,5,3,2,22] [103,101,0,60,102]
   exact ⟨((j+1),((gPut (Nn (ZP (Nn g.txs i)) j) (v34,((gGet (Nn (ZP (Nn g.txs i)) j) es).getD ZfX).2 ++ [(Nn g.txs i).id]) (es,ck)).1),((gPut (Nn (ZP (Nn g.txs i)) j) (v34,((gGet (Nn (ZP (Nn g.txs i)) j) es).getD ZfX).2 ++ [(Nn g.txs i).id]) (es,ck)).2)),F,⟨by omega,ZnP hq (ZdW _) hil⟩,G,by omega⟩
  have hil:j=(ZP (Nn g.txs i)).length:=by simp at hc2;omega
  obtain ⟨es2,he2⟩:∃ z,z=es:=⟨_,rfl⟩
  obtain ⟨ck2,hc2⟩:∃ z,z=ck:=⟨_,rfl⟩
  rw [hil,Y7] at hq
  have hR2:WrV es2 (g.txs.take (i+1)) 0 []:=by rw [he2];exact ZnV hq hio hdn
  rw [← he2,← hc2] at G
  refine YA (Zj (Zj (Zw (Zk (Za (rZ G (qp r1 (qR rr qZ)) J [12,11,10,3,2] [103,102,101,60,0] fun G=>?_))))))
  replace G:=G.ent (i:=12) (s':=.pv (.int .i64 ((i+1:Nat):Int))) O (.int (Zh ow))
  obtain ⟨F,G⟩:=G.nM [11,10,3,2,12] [101,0,60,102]
  exact ⟨((i+1),(es2),(ck2)),F,⟨by omega,hR2⟩,G,by omega⟩
 have hil:i=g.txs.length:=by simp at hc0;omega
 have hwl:=Zmp hq
 rw [hil,Y7] at hwl
 refine YA (Zj (Zj (Zw (Za (Ya (rZ G (qR rr (qO rr qZ)) J [2] [102,101,60,0] fun G=>Yg ?_))))))
 obtain ⟨F,G⟩:=G.giveMap 102 60 O O rfl
 obtain ⟨F,G⟩:=G.rename 102 1 O rfl
 have G:=G.turn 1 O (r':=RS.hp (HP.ex fun s:List (GE Int (List Int))×Nat=>HP.and (WrL s.1 g.txs) (ZbO (fun l:List Int=>PV.sl rInt l) (fun _=>True) (fun n:Int=>Value.int .i64 n) s.1 s.2 v8))) (fun _ _ _ _ h=>⟨(Zdv es,ck),hwl,h⟩)
 refine Zab (h':=fun v=>HP.ex fun s:List (GE Int (List Int))×Nat=>HP.and (WrL s.1 g.txs) (ZbO (fun l:List Int=>PV.sl rInt l) (fun _=>True) (fun n:Int=>Value.int .i64 n) s.1 s.2 v)) hG G O (.tmp O .nil) (.one .one) rfl
theorem ZdN (g:Zn) (hs:Zbk g):FnP prog 6 [.agg (Zp g)] (.bool (decide (ZE g))):=by
 refine FnP.mk func6 O ntmps6 O fun B a w F J hfr G=>?_
 have hsl:=hs.1.1
 have hso:=hs.2.1
 refine Ya (Zb G (qx 101 r1 qB) J [2,1] [101,0] (fun _=>rfl) (fun _=>rfl) fun τ a w F G=>?_)
 try dsimp only [RS.sub,SF.sub,CF.sub,csub,Anc.sub,List.map,zCF,Zp,rTx,ZA,ZX,rInt,rOp] at G
 generalize τ 1=v1 at G
 refine Za (Ya (Ya (rZ G (qg 0 101 r1 r1 (qa 101 r1 r1 (qu YbA r1 (qf (Zbs .t qi) r1 qz qZ)))) J [11,2,1] [101,0] fun G=>?_)))
 refine Zc G O (fun hc0=>?_) (fun hc0=>?_)
 ·have hg:=Ze5 (h:=g) (by simp at hc0;omega)
  refine Ya (rZ G qB J [2,1] [101,0] fun G=>(Yg (Ze ?_)))
  refine Zt hfr G O O O (.bool hg)
 have hlong:g.txs.length≤4096:=by simp at hc0;omega
 refine Yi (Za (Ya (Ya (rZ G (qg 0 101 r1 r1 (qa 101 r1 r1 (qu YbA r1 (qJ qZ)))) J [15,14,13,2,1] [101,0] fun G=>Yj ?_))))
 refine Zo (σ:=(Nat)) [1,2,13,14] [0,101] (fun s=>[(15,.pv (.int .i64 (s:Int)))]) (fun s=>[]) (fun s=>s≤g.txs.length∧(∀ k,k<s→Zm3 g k)) (fun s=>g.txs.length - s) (0) G ⟨rfl,rfl,rfl,rfl,rfl,tv⟩ ⟨rfl,rfl,tv⟩ ⟨Yr _,fun k hk=>absurd hk (Y5 k)⟩ ?_
 clear G;intro i a w F hC G
 try dsimp only at hC
 obtain ⟨F,G⟩:=G.nM [15,14,13,2,1] [101,0]
 try dsimp only at G
 obtain ⟨hi,hq⟩:=hC
 have hxl:=fun hil:i<g.txs.length=>hs.1.at hil
 have hiw:0<i→IntKind.wrap .i64 ((i:Int) - 1)=((i - 1:Nat):Int):=fun h0=>by rw [ZN ow];omega
 refine Ya (rZ G (qL r2) J [16,15,14,13,2,1] [101,0] fun G=>Ya ?_)
 refine Zc G O (fun hc1=>?_) (fun hc1=>?_)
 ·have hil:i<g.txs.length:=by simp at hc1;omega
  refine Yi (Za (Ya (Yj (Ya (Zb G (qR rr (qy 3 YbA r2 (qf (oR true 3 .t) r1 qz (qf (oH [.int .i64 0,.bool false,.slice none 0 0] 102) trivial qz (qO rr (qS 3 102 r2 r1 qZ)))))) J [15,14,13,4,3,2,1] [102,101,0] (fun _=>rfl) (fun _=>rfl) fun τ a w F G=>?_)))))
  try dsimp only [RS.sub,SF.sub,CF.sub,csub,Anc.sub,List.map,Zg,xL,xM,Nat.reduceAdd,xD,xE,xT,xU,xC,xN,zCF,ldSF,Zp,rTx,ZA,ZX,rInt,rOp] at G
  generalize τ 4=v4 at G
  try simp only [Yc] at G
  refine Za (Ya (ZO G (qR rr (qf (Zbs .t qi) r1 qz (qR rr (qv 0 101 O r2 r1 (qw 101 O r2 r1 (qm O O O O (qk O (fun h=>o_sub (.w h) qi) r2 qz (qk O (fun h=>Z0 (sz:=3) (.mk YbA kr) (by intro x;rfl) (.w h) (.w h) (by rw [hiw (by simpa using h)];omega) (by rw [hiw (by simpa using h)];omega)) r3 qz (qk O (fun h=>oG 0 (.w h)) r2 qz (qk O (fun h=>oR false 1 (.w h)) r2 qz (qv 0 102 O r2 r1 (qw 102 O r2 r1 (qk O (fun h=>ZeT (.w h) (.w h)) r3 qz (qf (ZR .t .t) r2 qz (qR rr (qk O (fun h=>oL true 3 102 .is) r2 r1 (qk O (fun h=>oP (Zhm (Nn g.txs i)) func16 (Args.one (.pagg (.w h)))) r2 qz (qk O (fun h=>o_neq (.w h) qi) r2 qz (qf (ZaM .t .t) r2 qz (qR rr (qk O (fun h=>oL true 2 101 .is) r2 r1 (qk O (fun h=>oL true 3 102 .is) r2 r1 (qk O (fun h=>oP (ZiC g (Nn g.txs i) hs.1 (by have:=hxl hil;omega)) func17 (Args.two (.pagg (.w h)) (.pagg (.w h)))) r3 qz (qk O (fun h=>o_not (.w h)) r2 qz (qf (ZaM .t .t) r2 qz qZ))))))))))))))))))))))))) J [44,15,14,13,2,1] [102,101,0] O O fun a w F G=>?_))
  try dsimp only [List.map,xD,xE,xT,xU,ldSF,Zp,rTx,ZA,ZX,rInt,rOp] at G
  try simp only [Yc] at G
  refine Za (Zc G O (fun hc2=>?_) (fun hc2=>?_))
  ·have hbad:¬ Zm3 g i:=by
     rintro ⟨g1,g2,g3⟩
     have h9:=hc2
     by_cases hi0:0<i
     · rw [hiw hi0,Yc] at h9
       have:=g1 hi0
       simp [g2,g3] at h9
       omega
     · have hi1:i=0:=by omega
       subst hi1
       simp [g2,g3] at h9
   have hg:=Zhl hil hbad
   refine Ya (rZ G qB J [15,14,13,2,1] [102,101,0] fun G=>(Yg (Zl (Ze (Ze (Zl (Ze ?_)))))))
   refine Zt hfr G O O O (.bool hg)
  have hgood:Zm3 g i:=by
    have h9:=hc2
    by_cases hi0:0<i
    · rw [hiw hi0,Yc] at h9
      simp at h9
      exact ⟨fun _=>by omega,by omega,h9.2⟩
    · have hi1:i=0:=by omega
      subst hi1
      simp at h9
      exact ⟨fun h0=>absurd h0 (Nat.lt_irrefl 0),h9.1,h9.2⟩
  refine Yi (Zk (Za (rZ G (qp r1 (qR rr qZ)) J [15,14,13,2,1] [102,101,0] fun G=>?_)))
  replace G:=G.ent (i:=15) (s':=.pv (.int .i64 ((i+1:Nat):Int))) O (.int (Zh ow))
  obtain ⟨F,G⟩:=G.nM [14,13,2,1,15] [101,0]
  exact ⟨(i+1),F,⟨by omega,(fun k hk=>by rcases YV (Y6 hk) with h9 | h9;exact hq k h9;rw [h9];exact hgood)⟩,G,by omega⟩
 have hil:i=g.txs.length:=by simp at hc1;omega
 have hall:∀ k,k<g.txs.length→Zm3 g k:=by rw [← hil];exact hq
 have hkn:=ZkZ hs.1
 refine YA (Zj (Zj (Zw (Za (Ya ?_)))))
 replace G:=G.fresh 103 rfl
 refine Zb G (qe 2 101 r1 r1 (qf (ZbW 103 (Zj0 g hs.1) func18 O kr (Args.one (.pagg .t)) Zbh) r1 r1 (qO rr qZ))) J [5,2,1] [103,101,0] (fun _=>rfl) (fun _=>rfl) fun τ a w F G=>?_
 try dsimp only [RS.sub,SF.sub,CF.sub,csub,Anc.sub,List.map,xD,xE,xT,xU,ldSF,Zp,rTx,ZA,ZX,rInt,rOp] at G
 generalize τ 47=v47 at G
 replace G:=G.turn 103 O (r':=RS.hp (HP.ex fun s:List (GE Int (List Int))×Nat=>HP.and (WrL s.1 g.txs) (ZbO (fun l:List Int=>PV.sl rInt l) (fun _=>True) (fun n:Int=>Value.int .i64 n) s.1 s.2 v47))) (fun _ _ _ _ h=>h)
 obtain ⟨sm,G⟩:=G.open_ex 103 rfl
 obtain ⟨hwm,G⟩:=G.open_and 103 rfl
 obtain ⟨es,ck⟩:=sm
 try dsimp only at hwm G
 replace G:=G.turn 103 O (r':=.ob (.val v47) (ZbO (fun l:List Int=>PV.sl rInt l) (fun _=>True) (fun n:Int=>Value.int .i64 n) es ck)) (fun _ _ _ _ h=>h)
 have hgw:=ZoV hwm
 have hml:=Zo4 hwm
 obtain ⟨F,G⟩:=G.nM [5,2,1] [103,101,0]
 refine Za (Ya (Ya (rZ G (qR rr (qf (ZjM 103 underlying63 .is ow) r1 r1 (qg 1 101 r1 r1 (qa 101 r1 r1 (qu YbB r1 (qf (o_neq .t .t) r2 qz qZ)))))) J [53,5,2,1] [103,101,0] fun G=>?_)))
 refine Zc G O (fun hc3=>?_) (fun hc3=>?_)
 ·have hg:=ZfP (h:=g) (by simp at hc3;omega)
  refine Ya (rZ G qB J [5,2,1] [103,101,0] fun G=>(Yg (Ze ?_)))
  refine Zt hfr G O O O (.bool hg)
 have hle:g.orders.length=(Zbi g.txs).length:=by simp at hc3;omega
 refine Yi (Za (Ya (Ya (rZ G (qg 1 101 r1 r1 (qa 101 r1 r1 (qu YbB r1 (qJ qZ)))) J [57,56,55,5,2,1] [103,101,0] fun G=>Yj ?_))))
 refine Zo (σ:=(Nat)) [1,2,5,55,56] [0,101,103] (fun s=>[(57,.pv (.int .i64 (s:Int)))]) (fun s=>[]) (fun s=>s≤g.orders.length∧(∀ k,k<s→ZeP g k)) (fun s=>g.orders.length - s) (0) G ⟨rfl,rfl,rfl,rfl,rfl,rfl,tv⟩ ⟨rfl,rfl,rfl,tv⟩ ⟨Yr _,fun k hk=>absurd hk (Y5 k)⟩ ?_
 clear G;intro i a w F hC G
 try dsimp only at hC
 obtain ⟨F,G⟩:=G.nM [57,56,55,5,2,1] [103,101,0]
 try dsimp only at G
 obtain ⟨hi,hq⟩:=hC
 have hol:=fun hil:i<g.orders.length=>hs.2.at hil
 have hwl:=fun k=>ZbZ g.txs k
 have hiw:0<i→IntKind.wrap .i64 ((i:Int) - 1)=((i - 1:Nat):Int):=fun h0=>by rw [ZN ow];omega
 refine Ya (rZ G (qL r2) J [58,57,56,55,5,2,1] [103,101,0] fun G=>Ya ?_)
 refine Zc G O (fun hc4=>?_) (fun hc4=>?_)
 ·have hil:i<g.orders.length:=by simp at hc4;omega
  refine Yi (Za (Ya (Yj (Ya (Zb G (qR rr (qy 2 YbB r2 (qf (oR true 2 .t) r1 qz (qf (oH [.int .i64 0,.slice none 0 0] 104) trivial qz (qO rr (qS 2 104 r2 r1 qZ)))))) J [57,56,55,7,6,5,2,1] [104,103,101,0] (fun _=>rfl) (fun _=>rfl) fun τ a w F G=>?_)))))
  try dsimp only [RS.sub,SF.sub,CF.sub,csub,Anc.sub,List.map,Zg,xL,xM,Nat.reduceAdd,xD,xE,xT,xU,xC,xN,zCF,ldSF,Zp,rTx,ZA,ZX,rInt,rOp] at G
  generalize τ 7=v7 at G
  try simp only [Yc] at G
  refine Za (Ya (ZO G (qR rr (qf (Zbs .t qi) r1 qz (qR rr (qv 1 101 O r2 r1 (qw 101 O r2 r1 (qm O O O O (qk O (fun h=>o_sub (.w h) qi) r2 qz (qk O (fun h=>Z0 (sz:=2) (.mk YbB kr) (by intro x;rfl) (.w h) (.w h) (by rw [hiw (by simpa using h)];omega) (by rw [hiw (by simpa using h)];omega)) r3 qz (qk O (fun h=>oG 0 (.w h)) r2 qz (qk O (fun h=>oR false 1 (.w h)) r2 qz (qv 0 104 O r2 r1 (qw 104 O r2 r1 (qk O (fun h=>ZeT (.w h) (.w h)) r3 qz (qf (ZR .t .t) r2 qz (qR rr (qv 1 104 O r2 r1 (qw 104 O r2 r1 (qk O (fun h=>Zbz Ybz (.w h)) r2 qz (qk O (fun h=>o_eql (.w h) qi) r2 qz (qf (ZaM .t .t) r2 qz (qR rr (qv 1 104 O r2 r1 (qw 104 O r2 r1 (qm O O O O (qv 0 104 O r2 r1 (qw 104 O r2 r1 (qk O (fun h=>Za7 (ek:=(fun l:List Int=>PV.sl rInt l)) (z0:=([]:List Int)) 103 underlying63 (ZdO YbD) kr (fun _ _=>ZgX) (.w h .is) (ZM.int (.w h) O)) r3 r1 (qk O (fun h=>oP (Zj7 (Nn g.orders i).txs _ (by have:=hol hil;omega) (by rw [hgw];have:=hwl (Nn g.orders i).key;omega)) func19 (Args.two (.w h) (.w h))) r3 qz (qk O (fun h=>o_not (.w h)) r2 qz (qf (ZaM .t .t) r2 qz qZ)))))))))))))))))))))))))))))) J [91,57,56,55,5,2,1] [104,103,101,0] O O fun a w F G=>?_))
  try dsimp only [List.map,xD,xE,xT,xU,ldSF,Zp,rTx,ZA,ZX,rInt,rOp] at G
  try simp only [Yc] at G
  refine Za (Zc G O (fun hc5=>?_) (fun hc5=>?_))
  ·have hbad:¬ ZeP g i:=by
     rintro ⟨g1,g2,g3⟩
     have h9:=hc5
     rw [hgw] at h9
     have g4:(Nn g.orders i).txs.length≠0:=fun e=>g2 (YE e)
     by_cases hi0:0<i
     · rw [hiw hi0,Yc] at h9
       have:=g1 hi0
       simp [g2,g3] at h9
       omega
     · have hi1:i=0:=by omega
       subst hi1
       simp [g2,g3] at h9
   have hg:=Ze3 hil hbad
   refine Ya (rZ G qB J [57,56,55,5,2,1] [104,103,101,0] fun G=>(Yg (Zl (Ze (Ze (Zl (Ze ?_)))))))
   refine Zt hfr G O O O (.bool hg)
  have hgood:ZeP g i:=by
    have h9:=hc5
    rw [hgw] at h9
    by_cases hi0:0<i
    · rw [hiw hi0,Yc] at h9
      simp at h9
      exact ⟨fun _=>by omega,h9.1.2,h9.2⟩
    · have hi1:i=0:=by omega
      subst hi1
      simp at h9
      exact ⟨fun h0=>absurd h0 (Nat.lt_irrefl 0),h9.1,h9.2⟩
  refine Yi (Zk (Za (rZ G (qp r1 (qR rr qZ)) J [57,56,55,5,2,1] [104,103,101,0] fun G=>?_)))
  replace G:=G.ent (i:=57) (s':=.pv (.int .i64 ((i+1:Nat):Int))) O (.int (Zh ow))
  obtain ⟨F,G⟩:=G.nM [56,55,5,2,1,57] [103,101,0]
  exact ⟨(i+1),F,⟨by omega,(fun k hk=>by rcases YV (Y6 hk) with h9 | h9;exact hq k h9;rw [h9];exact hgood)⟩,G,by omega⟩
 have hil:i=g.orders.length:=by simp at hc4;omega
 have hg:=Zho hlong hall ow (by rw [← hil];exact hq)
 refine YA (Zj (Zj (Zw (Za (Ya (rZ G qB J [2] [103,101,0] fun G=>Yg ?_))))))
 refine Zt hfr G O O O (.bool hg)
def Z1:Zn:=⟨[],[]⟩
theorem ZD {g:Zn} (h:ZE g):Zcc TxD.id g.txs∧Zcc OrdD.key g.orders:=by
 constructor
 ·have hi:Zdd (g.txs.map TxD.id):=Zf8 fun i hi h0=>by
   have hi':i<g.txs.length:=by simpa using hi
   rw [Zcy ow,Zcy hi']
   exact (h.2.1 i hi').1 h0
  rw [Zx]
  exact Yay.1 hi
 ·have h2:=(Zci g).2 h.2.2
  have hi:Zdd (g.orders.map OrdD.key):=Zf8 fun i hi h0=>by
   have hi':i<g.orders.length:=by simpa using hi
   rw [Zcy ow,Zcy hi']
   exact (h2.2 i hi').1 h0
  rw [Zx]
  exact Yay.1 hi
def Zjy (t:TxD) (v:ZbA):Bool:=decide (v.tx=t.id) && decide ((wcnt t.ops v.key:Int)<v.nth)
def ZjJ (t x:TxD):Bool:=decide (x.id≠t.id) && (ZaF x).any (Zjy t)
def Zjc (g:Zn) (t:TxD):Bool:=g.txs.any (ZjJ t)
theorem Zim {α:Type} [Inhabited α] {p:α→Bool} {l:List α} (h:∀ q,q<l.length→p (Nn l q)=false):l.any p=false:=by
 rw [YaV]
 intro x hx
 obtain ⟨k,hk,e⟩:=YL hx
 have:=h k hk
 rw [Zm hk,e] at this
 simp [this]
theorem ZiU {α:Type} [Inhabited α] {p:α→Bool} {l:List α} {i:Nat} (hi:i<l.length) (h:p (Nn l i)=true):l.any p=true:=by
 rw [YaS]
 exact ⟨_,Z5 hi,h⟩
def mayH (g:Zn) (t:TxD) (there:Int) (wanted:Bool):Int×Int:=if ¬ ZE g then (0,5) else if Zak t≠0 then (0,Zak t) else if isK TxD.id t.id g.txs≠wanted then (0,there) else if ZdA g t=false then (0,6) else (lowK TxD.id t.id g.txs,0)
def Zao (g:Zn) (t:TxD):Zn×Int:=if (mayH g t 4 false).2≠0 then (Z1,(mayH g t 4 false).2) else if g.txs.length=4096 then (Z1,2) else (⟨g.txs.take (lowK TxD.id t.id g.txs) ++ [t] ++ g.txs.drop (lowK TxD.id t.id g.txs),settleO t g.orders⟩,0)
def Zdl (id:Int):TxD:=⟨id,false,[]⟩
def Zag (g:Zn) (id:Int):Zn×Int:=if ¬ ZE g then (Z1,5) else if isK TxD.id id g.txs=false then (Z1,3) else if Zjc g (Zdl id)=true then (Z1,7) else (⟨g.txs.take (lowK TxD.id id g.txs)++g.txs.drop (lowK TxD.id id g.txs+1),settleO (Zdl id) g.orders⟩,0)
def Za2 (g:Zn) (t:TxD):Zn×Int:=if (mayH g t 3 true).2≠0 then (Z1,(mayH g t 3 true).2) else if Zjc g t=true then (Z1,7) else (⟨g.txs.set (lowK TxD.id t.id g.txs) t,settleO t g.orders⟩,0)
theorem Zh2 {g:Zn} {t:TxD} {there:Int} {wanted:Bool} (ht:there≠0) (h:(mayH g t there wanted).2=0):ZE g∧Zak t=0∧isK TxD.id t.id g.txs=wanted∧ZdA g t=true∧(mayH g t there wanted).1=lowK TxD.id t.id g.txs:=by
 unfold mayH at h ⊢
 split at h
 ·simp at h
 ·rename_i h1
  split at h
  ·rename_i h2;exact absurd h h2
  ·rename_i h2
   split at h
   ·exact absurd h ht
   ·rename_i h3
    split at h
    ·simp at h
    ·rename_i h4
     rw [Yb h1,Yb h2,Yb h3,Yb h4]
     exact ⟨YB.1 h1,YB.1 h2,YB.1 h3,by simpa using h4,rfl⟩
theorem Zct {α:Type} [Inhabited α] {κ:α→Int} {k:Int} {l:List α} (hs:Zcc κ l) (h:isK κ k l=true):lowK κ k l<l.length∧κ (Nn l (lowK κ k l))=k:=by
 obtain ⟨x,hx,hk⟩:=YaS.1 h
 obtain ⟨q,hq,e⟩:=YL hx
 have hk':κ (Nn l q)=k:=by rw [Zm hq,e];simpa using hk
 have hl:=ZfQ (κ:=κ) (k:=k) (l:=l) (i:=q) (Nat.le_of_lt hq) (fun p hp=>by have:=hs p q hp hq;omega) (fun p hp hp2=>by have:=Zeg hs hp hp2;omega)
 rw [hl]
 exact ⟨hq,hk'⟩
theorem Znj (g:Zn) (t:TxD) (hs:Zbd g.txs) (ht:t.ops.length≤1000):FnP prog 52 [.agg (Zp g),.agg (rTx t)] (.bool (Zjc g t)):=by
 refine FnP.mk func52 O ntmps52 O fun B a w F J hfr G=>?_
 have hsl:=hs.1
 have hnl:∀ x:TxD,x.ops.length≤1000→(ZaF x).length≤1000:=fun x hx=>by have:=Zfy x.id x.ops x.ops.length;rw [Y7] at this;unfold ZaF;omega
 refine Ya (Zb G (qx 101 r1 (qx 102 r1 qB)) J [4,3,2] [102,101,0] (fun _=>rfl) (fun _=>rfl) fun τ a w F G=>?_)
 try dsimp only [RS.sub,SF.sub,CF.sub,csub,Anc.sub,List.map,zCF,Zp,rTx,ZA,ZX,rInt,rOp] at G
 generalize τ 2=v2,τ 3=v3 at G
 refine Za (Ya (Ya (rZ G (qg 0 101 r1 r1 (qa 101 r1 r1 (qu YbA r1 (qJ qZ)))) J [12,11,10,4,3] [102,101,0] fun G=>Yj ?_)))
 refine Zo (σ:=(Nat)) [3,4,10,11] [0,101,102] (fun s=>[(12,.pv (.int .i64 (s:Int)))]) (fun s=>[]) (fun s=>s≤g.txs.length∧(∀ q,q<s→ZjJ t (Nn g.txs q)=false)) (fun s=>g.txs.length - s) (0) G ⟨rfl,rfl,rfl,rfl,rfl,tv⟩ ⟨rfl,rfl,rfl,tv⟩ ⟨Yr _,fun q hq=>absurd hq (Y5 q)⟩ ?_
 clear G;intro i a w F hC G
 try dsimp only at hC
 obtain ⟨F,G⟩:=G.nM [12,11,10,4,3] [102,101,0]
 try dsimp only at G
 obtain ⟨hi,hq⟩:=hC
 refine Ya (rZ G (qL r2) J [13,12,11,10,4,3] [102,101,0] fun G=>Ya ?_)
 refine Zc G O (fun hc0=>?_) (fun hc0=>?_)
 ·have hil:i<g.txs.length:=by simp at hc0;omega
  have hio:=hil
  have hqo:=hq
  have hnl2:=hnl (Nn g.txs i) (by have:=hs.at hio;omega)
  refine Yi (Za (Ya (Yj (Ya (Zb G (qy 3 YbA r2 (qf (oR true 3 .t) r1 qz (qf (oH [.int .i64 0,.bool false,.slice none 0 0] 103) trivial qz (qS 3 103 r2 r1 qZ)))) J [12,11,10,6,4,3] [103,102,101,0] (fun _=>rfl) (fun _=>rfl) fun τ a w F G=>?_)))))
  try dsimp only [RS.sub,SF.sub,CF.sub,csub,Anc.sub,List.map,Zg,xL,xM,Nat.reduceAdd,xD,xE,xT,xU,xC,xN,zCF,ldSF,Zp,rTx,ZA,ZX,rInt,rOp] at G
  generalize τ 6=v6 at G
  try simp only [Yc] at G
  refine Za (Ya (rZ G (qe 3 103 r1 r1 (qf (oP (Zgw (Nn g.txs i) (by have:=hs.at hio;omega)) func41 (Args.one (.pagg .t))) r1 qz (qu YbH r1 (qJ qZ)))) J [19,18,17,12,11,10,6,4,3] [103,102,101,0] fun G=>Yj ?_))
  refine Zo (σ:=(Nat)) [3,4,6,10,11,12,17,18] [0,101,102,103] (fun s=>[(19,.pv (.int .i64 (s:Int)))]) (fun s=>[]) (fun s=>s≤(ZaF (Nn g.txs i)).length∧((Nn g.txs i).id≠t.id → ∀ q,q<s→Zjy t (Nn (ZaF (Nn g.txs i)) q)=false)) (fun s=>(ZaF (Nn g.txs i)).length - s) (0) G ⟨rfl,rfl,rfl,rfl,rfl,rfl,rfl,rfl,rfl,tv⟩ ⟨rfl,rfl,rfl,rfl,tv⟩ ⟨Yr _,fun _ q hq=>absurd hq (Y5 q)⟩ ?_
  clear G;intro j a w F hC G
  try dsimp only at hC
  obtain ⟨F,G⟩:=G.nM [19,18,17,12,11,10,6,4,3] [103,102,101,0]
  try dsimp only at G
  obtain ⟨hi,hq⟩:=hC
  have hq2:=hq
  refine Ya (rZ G (qL r2) J [20,19,18,17,12,11,10,6,4,3] [103,102,101,0] fun G=>Ya ?_)
  refine Zc G O (fun hc1=>?_) (fun hc1=>?_)
  ·have hil:j<(ZaF (Nn g.txs i)).length:=by simp at hc1;omega
   have hjo:=hil
   refine Yi (Za (Ya (Yj (Ya (Zb G (qy 3 YbH r2 (qf (oR true 3 .t) r1 qz (qf (oH [.int .i64 0,.int .i64 0,.int .i64 0] 104) trivial qz (qS 3 104 r2 r1 qZ)))) J [19,18,17,12,11,10,8,6,4,3] [104,103,102,101,0] (fun _=>rfl) (fun _=>rfl) fun τ a w F G=>?_)))))
   try dsimp only [RS.sub,SF.sub,CF.sub,csub,Anc.sub,List.map,Zg,xL,xM,Nat.reduceAdd,xD,xE,xT,xU,xC,xN,zCF,ldSF,Zp,rTx,ZA,ZX,rInt,rOp] at G
   generalize τ 8=v8 at G
   try simp only [Yc] at G
   refine Za (Ya (ZO G (qg 0 103 r1 r1 (qa 103 r1 r1 (qg 0 102 r1 r1 (qa 102 r1 r1 (qf (o_neq .t .t) r2 qz (qR rr (qv 0 104 O r2 r1 (qw 104 O r2 r1 (qv 0 102 O r2 r1 (qw 102 O r2 r1 (qk O (fun h=>o_eql (.w h) (.w h)) r3 qz (qf (ZR .t .t) r2 qz (qR rr (qv 2 104 O r2 r1 (qw 104 O r2 r1 (qk O (fun h=>oL true 3 102 .is) r2 r1 (qv 1 104 O r2 r1 (qw 104 O r2 r1 (qk O (fun h=>oP (Zex t (Nn (ZaF (Nn g.txs i)) j).key ow) func69 (Args.two (.pagg (.w h)) (.w h))) r3 qz (qk O (fun h=>Zbs (.w h) (.w h)) r3 qz (qf (ZR .t .t) r2 qz qZ))))))))))))))))))))) J [43,19,18,17,12,11,10,6,4,3] [104,103,102,101,0] O O fun a w F G=>?_))
   try dsimp only [List.map,xD,xE,xT,xU,ldSF,Zp,rTx,ZA,ZX,rInt,rOp] at G
   refine Za (Zc G O (fun hc2=>?_) (fun hc2=>?_))
   ·have hg:true=Zjc g t:=(ZiU hio (by
      have h9:=hc2
      simp at h9
      unfold ZjJ
      rw [YR h9.1.1,YaG]
      refine ZiU hjo ?_
      unfold Zjy wcnt
      simp [h9.1.2]
      first | exact h9.2 | (have:=h9.2;omega))).symm
    refine Ya (rZ G qB J [19,18,17,12,11,10,6,4,3] [104,103,102,101,0] fun G=>(Yg (Zl (Ze (Ze (Zl (Zl (Ze (Ze (Zl (Ze ?_)))))))))))
    refine Zt hfr G O O O (.bool hg)
   have hnv:(Nn g.txs i).id≠t.id→Zjy t (Nn (ZaF (Nn g.txs i)) j)=false:=by
     intro hne
     have h9:=hc2
     unfold Zjy wcnt
     simp [hne] at h9 ⊢
     first | exact h9 | (intro e;have:=h9 e;omega)
   refine Yi (Zk (Za (rZ G (qp r1 (qR rr qZ)) J [19,18,17,12,11,10,6,4,3] [104,103,102,101,0] fun G=>?_)))
   replace G:=G.ent (i:=19) (s':=.pv (.int .i64 ((j+1:Nat):Int))) O (.int (Zh ow))
   obtain ⟨F,G⟩:=G.nM [18,17,12,11,10,6,4,3,19] [103,102,101,0]
   exact ⟨(j+1),F,⟨by omega,(fun hne q h9=>by rcases YV (Y6 h9) with h8 | h8;exact hq2 hne q h8;rw [h8];exact hnv hne)⟩,G,by omega⟩
  have hil:j=(ZaF (Nn g.txs i)).length:=by simp at hc1;omega
  have hno:ZjJ t (Nn g.txs i)=false:=by
    unfold ZjJ
    by_cases hne:(Nn g.txs i).id≠t.id
    ·rw [Zim (by rw [← hil];exact hq2 hne),Bool.and_false]
    ·rw [Ym hne,Ya9]
  refine YA (Zj (Zj (Zw (Zk (Za (rZ G (qp r1 (qR rr qZ)) J [12,11,10,4,3] [103,102,101,0] fun G=>?_))))))
  replace G:=G.ent (i:=12) (s':=.pv (.int .i64 ((i+1:Nat):Int))) O (.int (Zh ow))
  obtain ⟨F,G⟩:=G.nM [11,10,4,3,12] [102,101,0]
  exact ⟨(i+1),F,⟨by omega,(fun q h9=>by rcases YV (Y6 h9) with h8 | h8;exact hqo q h8;rw [h8];exact hno)⟩,G,by omega⟩
 have hil:i=g.txs.length:=by simp at hc0;omega
 have hg:false=Zjc g t:=(Zim (by rw [← hil];exact hq)).symm
 refine YA (Zj (Zj (Zw (Za (Ya (rZ G qB J [4] [102,101,0] fun G=>Yg ?_))))))
 refine Zt hfr G O O O (.bool hg)
theorem Zo3 (g:Zn) (t:TxD) (there:Int) (wanted:Bool) (hs:Zbk g) (ht:t.ops.length≤1000):FnP prog 47 [.agg (Zp g),.agg (rTx t),.int .i64 there,.bool wanted] (.tup [.int .i64 (mayH g t there wanted).1,.int .i64 (mayH g t there wanted).2]):=by
 refine FnP.mk func47 O ntmps47 O fun B a w F J hfr G=>?_
 have hsl:=hs.1.1
 refine Ya (Zb G (qx 101 r1 (qx 102 r1 (qI (qI qZ)))) J [9,8,5,4,3,2] [102,101,0] (fun _=>rfl) (fun _=>rfl) fun τ a w F G=>?_)
 try dsimp only [RS.sub,SF.sub,CF.sub,csub,Anc.sub,List.map,zCF,Zp,rTx,ZA,ZX,rInt,rOp] at G
 generalize τ 4=v4,τ 5=v5 at G
 refine Za (Ya (Ya (rZ G (qe 2 101 r1 r1 (qf (oP (ZdN g hs) func6 (Args.one (.pagg .t))) r1 qz (qf (o_not .t) r1 qz qZ))) J [15,9,8,5,4,3,2] [102,101,0] fun G=>?_)))
 refine Zc G O (fun hc0=>?_) (fun hc0=>?_)
 ·have hr:¬ ZE g:=by simpa using hc0
  have hg:mayH g t there wanted=(0,5):=by unfold mayH;rw [Ye hr]
  refine Ya (rZ G (qI (qI qZ)) J [9,8,5,4,3,2] [102,101,0] fun G=>(Yg (Ze ?_)))
  refine ZK hfr G O (.tmp O (.tmp O .nil)) (.two (.int (by rw [hg])) (.int (by rw [hg])))
 have hr:ZE g:=by simpa using hc0
 have hrr:=ZD hr
 refine Yi (Za (Ya (Ya (rZ G (qe 3 102 r1 r1 (qf (oP (Zhm t) func16 (Args.one (.pagg .t))) r1 qz (qO rr qZ))) J [10,9,8,5,4,3,2] [102,101,0] fun G=>Ya ?_))))
 refine rZ G (qR rr (qf (o_neq .t qi) r1 qz qZ)) J [19,10,9,8,5,4,3,2] [102,101,0] fun G=>?_
 refine Zc G O (fun hc1=>?_) (fun hc1=>?_)
 ·have hrt:Zak t≠0:=by simpa using hc1
  have hg:mayH g t there wanted=(0,Zak t):=by unfold mayH;rw [Yb (YB.2 hr),Ye hrt]
  refine Ya (rZ G (qR rr (qI (qO rr qZ))) J [9,8,5,4,3,2] [102,101,0] fun G=>(Yg (Ze ?_)))
  refine ZK hfr G O (.tmp O (.tmp O .nil)) (.two (.int (by rw [hg])) (.int (by rw [hg])))
 have hrt:¬ Zak t≠0:=by simpa using hc1
 refine Yi (Za (Ya (rZ G (qe 2 101 r1 r1 (qg 0 102 r1 r1 (qa 102 r1 r1 (qf (oP (Zk8 g t.id hs.1 hrr.1) func53 (Args.two (.pagg .t) .t)) r2 qz (qR rr (qf (Zi .t O) r1 qz (qf (Zi .t O) r1 qz (qO rr (qO rr qZ))))))))) J [12,11,9,8,5,4,3,2] [102,101,0] fun G=>(Ya (Yj (Ya ?_))))))
 refine rZ G (qR rr (qR rr (qf (Zpg underlying4 .t .t) r2 qz (qO rr qZ)))) J [28,11,9,8,5,4,2] [102,101,0] fun G=>?_
 refine Zc G O (fun hc2=>?_) (fun hc2=>?_)
 ·have hwt:isK TxD.id t.id g.txs≠wanted:=by simpa using hc2
  have hg:mayH g t there wanted=(0,there):=by unfold mayH;rw [Yb (YB.2 hr),Yb hrt,Ye hwt]
  refine Ya (rZ G (qR rr (qI (qO rr qZ))) J [11,9,8] [102,101,0] fun G=>(Yg (Zl (Ze ?_))))
  refine ZK hfr G O (.tmp O (.tmp O .nil)) (.two (.int (by rw [hg])) (.int (by rw [hg])))
 have hwt:¬ isK TxD.id t.id g.txs≠wanted:=by simpa using hc2
 refine Ya (rZ G (qe 2 101 r1 r1 (qe 3 102 r1 r1 (qf (oP (ZiC g t hs.1 ht) func17 (Args.two (.pagg .t) (.pagg .t))) r2 qz (qf (o_not .t) r1 qz (qO rr qZ))))) J [33,11,9,8] [102,101,0] fun G=>?_)
 refine Zc G O (fun hc3=>?_) (fun hc3=>?_)
 ·have hg:mayH g t there wanted=(0,6):=by unfold mayH;rw [Yb (YB.2 hr),Yb hrt,Yb hwt,Ye (by simpa using hc3)]
  refine Ya (rZ G (qI (qI qZ)) J [11,9,8] [102,101,0] fun G=>(Yg (Zl (Ze ?_))))
  refine ZK hfr G O (.tmp O (.tmp O .nil)) (.two (.int (by rw [hg])) (.int (by rw [hg])))
 have hg:mayH g t there wanted=(((lowK TxD.id t.id g.txs:Nat):Int),0):=by unfold mayH;rw [Yb (YB.2 hr),Yb hrt,Yb hwt,Yb (by simpa using hc3)]
 refine Yi (Zk (Za (Ya (rZ G (qR rr (qO rr (qI qZ))) J [9,8] [102,101,0] fun G=>Yg ?_))))
 refine ZK hfr G O (.tmp O (.tmp O .nil)) (.two (.int (by rw [hg])) (.int (by rw [hg])))
theorem Zkt (g:Zn) (t:TxD) (hs:Zbk g) (ht:t.ops.length≤1000):FnP prog 23 [.agg (Zp g),.agg (rTx t)] (.tup [.agg (Zp (Zao g t).1),.int .i64 (Zao g t).2]):=by
 refine FnP.mk func23 O ntmps23 O fun B a w F J hfr G=>?_
 have hsl:=hs.1.1
 refine Ya (Zb G (qx 101 r1 (qx 102 r1 (qf (oH [.slice none 0 0,.slice none 0 0] 103) trivial qz (qI qZ)))) J [5,4,3,2] [103,102,101,0] (fun _=>rfl) (fun _=>rfl) fun τ a w F G=>?_)
 try dsimp only [RS.sub,SF.sub,CF.sub,csub,Anc.sub,List.map,zCF,Zp,rTx,ZA,ZX,rInt,rOp] at G
 generalize τ 2=v2,τ 3=v3,τ 4=v4 at G
 refine Za (Ya (rZ G (qe 2 101 r1 r1 (qe 3 102 r1 r1 (qf (oP (Zo3 g t 4 false hs ht) func47 (Args.four (.pagg .t) (.pagg .t) qi .cb)) r2 qz (qR rr (qf (Zi .t O) r1 qz (qf (Zi .t O) r1 qz (qO rr (qO rr qZ)))))))) J [7,6,5,4,3,2] [103,102,101,0] fun G=>(Ya (Yj (Ya ?_)))))
 refine rZ G (qR rr (qf (o_neq .t qi) r1 qz (qO rr qZ))) J [15,7,6,5,4,3,2] [103,102,101,0] fun G=>?_
 refine Zc G O (fun hc0=>?_) (fun hc0=>?_)
 ·have hm:(mayH g t 4 false).2≠0:=by simpa using hc0
  have hg:Zao g t=(Z1,(mayH g t 4 false).2):=by unfold Zao;rw [Ye hm]
  refine Ya (rZ G (qf (oB [] [.slice none 0 0,.slice none 0 0] [(0,1),(1,1)] .nil) trivial qz (qR rr (qs 2 103 r2 r1 (qO rr qZ)))) J [6,5,4,3,2] [103,102,101,0] fun G=>(Yg (Zl (Ze ?_))))
  refine ZK hfr G O (.cl 103 true 2 O O (.tmp O .nil)) (.two (by rw [hg];first | exact .aggU O O | exact .aggLe O ⟨ZT.nilSl,ZT.nilSl,tv⟩) (.int (by rw [hg])))
 have hm:¬ (mayH g t 4 false).2≠0:=by simpa using hc0
 obtain ⟨hr,hrt,hik,hnd,hlo⟩:=Zh2 (by decide) (YB.1 hm)
 have hrr:=ZD hr
 have hlk:=ZhG (κ:=TxD.id) (k:=t.id) g.txs
 refine Ya (rZ G (qg 0 101 r1 r1 (qa 101 r1 r1 (qu YbA r1 (qf (o_eql .t qi) r1 qz (qO rr qZ))))) J [20,6,5,4,3,2] [103,102,101,0] fun G=>?_)
 refine Zc G O (fun hc1=>?_) (fun hc1=>?_)
 ·have hg:Zao g t=(Z1,2):=by unfold Zao;rw [Yb hm,Ye (by simp at hc1;omega)]
  refine Ya (rZ G (qf (oB [] [.slice none 0 0,.slice none 0 0] [(0,1),(1,1)] .nil) trivial qz (qs 2 103 r2 r1 (qI qZ))) J [6,5,4,3,2] [103,102,101,0] fun G=>(Yg (Zl (Ze ?_))))
  refine ZK hfr G O (.cl 103 true 2 O O (.tmp O .nil)) (.two (by rw [hg];first | exact .aggU O O | exact .aggLe O ⟨ZT.nilSl,ZT.nilSl,tv⟩) (.int (by rw [hg])))
 have hg:Zao g t=(⟨g.txs.take (lowK TxD.id t.id g.txs) ++ [t] ++ g.txs.drop (lowK TxD.id t.id g.txs),settleO t g.orders⟩,0):=by unfold Zao;rw [Yb hm,Yb (by simp at hc1;omega)]
 refine Yi (Zk (Za (Ya ?_)))
 replace G:=G.fresh 104 rfl
 refine Zb G (qe 2 101 r1 r1 (qf (ZdH 104 (Zf4 g hs) func48 O kr (Args.one (.pagg .t))) r1 r1 (qf (oH [.slice none 0 0,.slice none 0 0] 105) trivial qz (qf (oA 2 105 .same (.conv .t (Ent.fnAgg (.fn (.fn .nil))))) r2 r1 qZ)))) J [8,6,5,4,3] [105,104,103,102,101,0] (fun _=>rfl) (fun _=>rfl) fun τ a w F G=>?_
 try dsimp only [RS.sub,SF.sub,CF.sub,csub,Anc.sub,List.map,Zg,xL,xM,Nat.reduceAdd,xD,xE,xT,xU,xC,xN,zCF,ldSF,Zp,rTx,ZA,ZX,rInt,rOp] at G
 generalize τ 8=v8,τ 27=v27 at G
 replace G:=G.turn 104 O (r':=RS.hp (HP.star [.ob (.val (cellN 0 v27)) (Zs 37 3 rTx g.txs),.ob (.val (cellN 1 v27)) (Zs 34 2 ZA g.orders)])) (fun _ _ _ _ h=>h)
 obtain ⟨F,G⟩:=G.peel 104 70 O rfl
 obtain ⟨F,G⟩:=G.peel 104 71 O rfl
 obtain ⟨F,G⟩:=G.nM [8,6,5,4,3] [105,103,102,101,71,70,0]
 generalize cellN 0 v27=va,cellN 1 v27=vb at G
 refine Za (Ya (Zbb G (qg 0 105 r1 r1 (qa 105 r1 r1 (qR rr (qe 3 102 r1 r1 (qf (oP (ZdJ t ow) func50 (Args.one (.pagg .t))) r1 qz (qf (Zz (sz:=3) (zs:=[.int .i64 0,.bool false,.slice none 0 0]) (r:=[(0,.tmp 32)]) (l:=[_,_,_]) YbA kr kr kr kr O O (.agg O (.conv .t .agg) kr kr .nil) O) r1 qz (qf (ZaX 70 (Zpp va g.txs (lowK TxD.id t.id g.txs) t ow hlk) func49 O kr (Args.three .t (.conv .t (.int hlo)) (.conv .t (Ent.arrSl (R:=rTx) (l:=[t]) O))) Zbh) r3 r1 (qg 0 105 r1 r1 (qf (Zah 105 .adr kr kr) r2 r1 qZ))))))))) J [8,5,4,3] [105,103,102,101,71,70,0] (fun _=>rfl) (fun _=>rfl) fun τ a w F G=>?_))
 try dsimp only [RS.sub,SF.sub,CF.sub,csub,Anc.sub,List.map,Zg,xL,xM,Nat.reduceAdd,xD,xE,xT,xU,xC,xN,zCF,ldSF,Zp,rTx,ZA,ZX,rInt,rOp] at G
 generalize τ 34=v34 at G
 refine Za (Ya ?_)
 replace G:=G.fresh 72 rfl
 obtain ⟨F,G⟩:=G.push 72 71 O O O rfl
 obtain ⟨F,G⟩:=G.push 72 105 O O O rfl
 replace G:=G.turn 72 O (r':=RS.hp (Zja 25 34 v8 v34 g.orders)) (fun _ _ _ _ h=>⟨vb,h⟩)
 obtain ⟨F,G⟩:=G.nM [8,5,4,3] [103,102,101,72,70,0]
 refine Zf G (qe 3 102 r1 r1 (qf (ZcQ 72 (Zgm v8 v34 g.orders t hs.2 hrr.2 ht) func51 O kr (Args.two .t (.pagg .t))) r2 r1 qZ)) J [8,5,4] [103,102,101,72,70,0] O O fun a w F G=>?_
 replace G:=G.turn 72 O (r':=RS.hp (HP.ex fun vb:Value=>HP.star [.pt (.val v8) 25 [.pv (.is v34),.pv (.is vb)],.ob (.val vb) (Zs 34 2 ZA (settleO t g.orders))])) (fun _ _ _ _ h=>h)
 obtain ⟨vb2,G⟩:=G.open_ex 72 rfl
 obtain ⟨F,G⟩:=G.peel 72 73 O rfl
 obtain ⟨F,G⟩:=G.peel 72 74 O rfl
 obtain ⟨F,G⟩:=G.nM [8,5,4] [103,102,101,74,73,70,0]
 obtain ⟨F,G⟩:=G.giveCell 70 73 0 O O O O rfl
 try dsimp only [List.set] at G
 obtain ⟨F,G⟩:=G.nM [8,5,4] [103,102,101,74,73,0]
 obtain ⟨F,G⟩:=G.giveCell 74 73 1 O O O O rfl
 try dsimp only [List.set] at G
 obtain ⟨F,G⟩:=G.nM [8,5,4] [103,102,101,73,0]
 refine Za (Ya (rZ G (qe 2 73 r1 r1 (qs 2 103 r2 r1 (qI qZ))) J [5,4] [103,102,101,73,0] fun G=>Yg ?_))
 refine ZK hfr G O (.cl 103 true 2 O O (.tmp O .nil)) (.two (by rw [hg];first | exact .aggU O O | exact .aggLe O ⟨ZT.nilSl,ZT.nilSl,tv⟩) (.int (by rw [hg])))
theorem Zkm (g:Zn) (id:Int) (hs:Zbk g):FnP prog 25 [.agg (Zp g),.int .i64 id] (.tup [.agg (Zp (Zag g id).1),.int .i64 (Zag g id).2]):=by
 refine FnP.mk func25 O ntmps25 O fun B a w F J hfr G=>?_
 have hsl:=hs.1.1
 refine Ya (Zb G (qx 101 r1 (qf (oH [.slice none 0 0,.slice none 0 0] 102) trivial qz (qI qZ))) J [5,4,2,1] [102,101,0] (fun _=>rfl) (fun _=>rfl) fun τ a w F G=>?_)
 try dsimp only [RS.sub,SF.sub,CF.sub,csub,Anc.sub,List.map,zCF,Zp,rTx,ZA,ZX,rInt,rOp] at G
 generalize τ 2=v2,τ 4=v4 at G
 refine Za (Ya (Ya (rZ G (qe 2 101 r1 r1 (qf (oP (ZdN g hs) func6 (Args.one (.pagg .t))) r1 qz (qf (o_not .t) r1 qz qZ))) J [11,5,4,2,1] [102,101,0] fun G=>?_)))
 refine Zc G O (fun hc0=>?_) (fun hc0=>?_)
 ·have hr:¬ ZE g:=by simpa using hc0
  have hg:Zag g id=(Z1,5):=by unfold Zag;rw [Ye hr]
  refine Ya (rZ G (qf (oB [] [.slice none 0 0,.slice none 0 0] [(0,1),(1,1)] .nil) trivial qz (qs 2 102 r2 r1 (qI qZ))) J [5,4,2,1] [102,101,0] fun G=>(Yg (Ze ?_)))
  refine ZK hfr G O (.cl 102 true 2 O O (.tmp O .nil)) (.two (by rw [hg];first | exact .aggU O O | exact .aggLe O ⟨ZT.nilSl,ZT.nilSl,tv⟩) (.int (by rw [hg])))
 have hr:ZE g:=by simpa using hc0
 have hrr:=ZD hr
 refine Yi (Za (Ya (rZ G (qe 2 101 r1 r1 (qR rr (qf (oP (Zk8 g id hs.1 hrr.1) func53 (Args.two (.pagg .t) .t)) r2 qz (qR rr (qf (Zi .t O) r1 qz (qf (Zi .t O) r1 qz (qO rr (qO rr qZ)))))))) J [7,6,5,4,2,1] [102,101,0] fun G=>(Ya (Yj (Ya ?_))))))
 refine rZ G (qR rr (qf (o_not .t) r1 qz (qO rr qZ))) J [19,6,5,4,2,1] [102,101,0] fun G=>?_
 refine Zc G O (fun hc1=>?_) (fun hc1=>?_)
 ·have hik:isK TxD.id id g.txs=false:=by simpa using hc1
  have hg:Zag g id=(Z1,3):=by unfold Zag;rw [Yb (YB.2 hr),Ye hik]
  refine Ya (rZ G (qf (oB [] [.slice none 0 0,.slice none 0 0] [(0,1),(1,1)] .nil) trivial qz (qs 2 102 r2 r1 (qI qZ))) J [6,5,4,2,1] [102,101,0] fun G=>(Yg (Zl (Ze ?_))))
  refine ZK hfr G O (.cl 102 true 2 O O (.tmp O .nil)) (.two (by rw [hg];first | exact .aggU O O | exact .aggLe O ⟨ZT.nilSl,ZT.nilSl,tv⟩) (.int (by rw [hg])))
 have hik:isK TxD.id id g.txs=true:=by simpa using hc1
 have hlk:=(Zct hrr.1 hik).1
 refine Ya (rZ G (qe 2 101 r1 r1 (qR rr (qf (oB [(0,.tmp 25)] [.int .i64 0,.bool false,.slice none 0 0] [(0,1),(1,1),(2,1)] (.one O .t one_int kr .nil)) r1 qz (qf (oP (Znj g (Zdl id) hs.1 (by simp [Zdl])) func52 (Args.two (.pagg .t) (.conv (.pagg .t) (Ent.paggLe (l:=[.int .i64 id,.bool false,.is (.slice none 0 0)]) (l':=[.int .i64 id,.bool false,.sl rOp []]) ⟨ZT.refl,ZT.refl,ZT.nilSl,tv⟩)))) r2 qz (qO rr qZ))))) J [23,6,5,4,2,1] [102,101,0] fun G=>?_)
 refine Zc G O (fun hc2=>?_) (fun hc2=>?_)
 ·have hg:Zag g id=(Z1,7):=by unfold Zag;rw [Yb (YB.2 hr),Yb (by rw [hik];simp),Ye (by simpa using hc2)]
  refine Ya (rZ G (qf (oB [] [.slice none 0 0,.slice none 0 0] [(0,1),(1,1)] .nil) trivial qz (qs 2 102 r2 r1 (qI qZ))) J [6,5,4,2,1] [102,101,0] fun G=>(Yg (Zl (Ze ?_))))
  refine ZK hfr G O (.cl 102 true 2 O O (.tmp O .nil)) (.two (by rw [hg];first | exact .aggU O O | exact .aggLe O ⟨ZT.nilSl,ZT.nilSl,tv⟩) (.int (by rw [hg])))
 have hg:Zag g id=(⟨g.txs.take (lowK TxD.id id g.txs)++g.txs.drop (lowK TxD.id id g.txs+1),settleO (Zdl id) g.orders⟩,0):=by unfold Zag;rw [Yb (YB.2 hr),Yb (by rw [hik];simp),Yb (by simpa using hc2)]
 refine Yi (Zk (Za (Ya ?_)))
 replace G:=G.fresh 103 rfl
 refine Zb G (qe 2 101 r1 r1 (qf (ZdH 103 (Zf4 g hs) func48 O kr (Args.one (.pagg .t))) r1 r1 (qf (oH [.slice none 0 0,.slice none 0 0] 104) trivial qz (qf (oA 2 104 .same (.conv .t (Ent.fnAgg (.fn (.fn .nil))))) r2 r1 qZ)))) J [8,6,5,4,1] [104,103,102,101,0] (fun _=>rfl) (fun _=>rfl) fun τ a w F G=>?_
 try dsimp only [RS.sub,SF.sub,CF.sub,csub,Anc.sub,List.map,Zg,xL,xM,Nat.reduceAdd,xD,xE,xT,xU,xC,xN,zCF,ldSF,Zp,rTx,ZA,ZX,rInt,rOp] at G
 generalize τ 8=v8,τ 30=v30 at G
 replace G:=G.turn 103 O (r':=RS.hp (HP.star [.ob (.val (cellN 0 v30)) (Zs 37 3 rTx g.txs),.ob (.val (cellN 1 v30)) (Zs 34 2 ZA g.orders)])) (fun _ _ _ _ h=>h)
 obtain ⟨F,G⟩:=G.peel 103 70 O rfl
 obtain ⟨F,G⟩:=G.peel 103 71 O rfl
 obtain ⟨F,G⟩:=G.nM [8,6,5,4,1] [104,102,101,71,70,0]
 generalize cellN 0 v30=va,cellN 1 v30=vb at G
 refine Za (Ya (Zb G (qg 0 104 r1 r1 (qa 104 r1 r1 (qR rr (qR rr (qp r1 (qf (ZaX 70 (ZoO va g.txs (lowK TxD.id id g.txs) ow hlk) func54 O kr (Args.three .t .t (.conv .t (.int (Zh ow)))) Zbh) r3 r1 (qg 0 104 r1 r1 (qf (Zah 104 .adr kr kr) r2 r1 qZ)))))))) J [8,5,4,1] [104,102,101,71,70,0] (fun _=>rfl) (fun _=>rfl) fun τ a w F G=>?_))
 try dsimp only [RS.sub,SF.sub,CF.sub,csub,Anc.sub,List.map,Zg,xL,xM,Nat.reduceAdd,xD,xE,xT,xU,xC,xN,zCF,ldSF,Zp,rTx,ZA,ZX,rInt,rOp] at G
 generalize τ 36=v36 at G
 refine Za (Ya ?_)
 replace G:=G.fresh 72 rfl
 obtain ⟨F,G⟩:=G.push 72 71 O O O rfl
 obtain ⟨F,G⟩:=G.push 72 104 O O O rfl
 replace G:=G.turn 72 O (r':=RS.hp (Zja 25 34 v8 v36 g.orders)) (fun _ _ _ _ h=>⟨vb,h⟩)
 obtain ⟨F,G⟩:=G.nM [8,5,4,1] [102,101,72,70,0]
 refine Zf G (qR rr (qf (oB [(0,.tmp 38)] [.int .i64 0,.bool false,.slice none 0 0] [(0,1),(1,1),(2,1)] (.one O .t one_int kr .nil)) r1 qz (qf (ZcQ 72 (Zgm v8 v36 g.orders (Zdl id) hs.2 hrr.2 (by simp [Zdl])) func51 O kr (Args.two .t (.conv (.pagg .t) (Ent.paggLe (l:=[.int .i64 id,.bool false,.is (.slice none 0 0)]) (l':=[.int .i64 id,.bool false,.sl rOp []]) ⟨ZT.refl,ZT.refl,ZT.nilSl,tv⟩)))) r2 r1 qZ))) J [8,5,4] [102,101,72,70,0] O O fun a w F G=>?_
 replace G:=G.turn 72 O (r':=RS.hp (HP.ex fun vb:Value=>HP.star [.pt (.val v8) 25 [.pv (.is v36),.pv (.is vb)],.ob (.val vb) (Zs 34 2 ZA (settleO (Zdl id) g.orders))])) (fun _ _ _ _ h=>h)
 obtain ⟨vb2,G⟩:=G.open_ex 72 rfl
 obtain ⟨F,G⟩:=G.peel 72 73 O rfl
 obtain ⟨F,G⟩:=G.peel 72 74 O rfl
 obtain ⟨F,G⟩:=G.nM [8,5,4] [102,101,74,73,70,0]
 obtain ⟨F,G⟩:=G.giveCell 70 73 0 O O O O rfl
 try dsimp only [List.set] at G
 obtain ⟨F,G⟩:=G.nM [8,5,4] [102,101,74,73,0]
 obtain ⟨F,G⟩:=G.giveCell 74 73 1 O O O O rfl
 try dsimp only [List.set] at G
 obtain ⟨F,G⟩:=G.nM [8,5,4] [102,101,73,0]
 refine Za (Ya (rZ G (qe 2 73 r1 r1 (qs 2 102 r2 r1 (qI qZ))) J [5,4] [102,101,73,0] fun G=>Yg ?_))
 refine ZK hfr G O (.cl 102 true 2 O O (.tmp O .nil)) (.two (by rw [hg];first | exact .aggU O O | exact .aggLe O ⟨ZT.nilSl,ZT.nilSl,tv⟩) (.int (by rw [hg])))
theorem ZmJ (g:Zn) (t:TxD) (hs:Zbk g) (ht:t.ops.length≤1000):FnP prog 24 [.agg (Zp g),.agg (rTx t)] (.tup [.agg (Zp (Za2 g t).1),.int .i64 (Za2 g t).2]):=by
 refine FnP.mk func24 O ntmps24 O fun B a w F J hfr G=>?_
 have hsl:=hs.1.1
 refine Ya (Zb G (qx 101 r1 (qx 102 r1 (qf (oH [.slice none 0 0,.slice none 0 0] 103) trivial qz (qI qZ)))) J [5,4,3,2] [103,102,101,0] (fun _=>rfl) (fun _=>rfl) fun τ a w F G=>?_)
 try dsimp only [RS.sub,SF.sub,CF.sub,csub,Anc.sub,List.map,zCF,Zp,rTx,ZA,ZX,rInt,rOp] at G
 generalize τ 2=v2,τ 3=v3,τ 4=v4 at G
 refine Za (Ya (rZ G (qe 2 101 r1 r1 (qe 3 102 r1 r1 (qf (oP (Zo3 g t 3 true hs ht) func47 (Args.four (.pagg .t) (.pagg .t) qi .cb)) r2 qz (qR rr (qf (Zi .t O) r1 qz (qf (Zi .t O) r1 qz (qO rr (qO rr qZ)))))))) J [7,6,5,4,3,2] [103,102,101,0] fun G=>(Ya (Yj (Ya ?_)))))
 refine rZ G (qR rr (qf (o_neq .t qi) r1 qz (qO rr qZ))) J [15,7,6,5,4,3,2] [103,102,101,0] fun G=>?_
 refine Zc G O (fun hc0=>?_) (fun hc0=>?_)
 ·have hm:(mayH g t 3 true).2≠0:=by simpa using hc0
  have hg:Za2 g t=(Z1,(mayH g t 3 true).2):=by unfold Za2;rw [Ye hm]
  refine Ya (rZ G (qf (oB [] [.slice none 0 0,.slice none 0 0] [(0,1),(1,1)] .nil) trivial qz (qR rr (qs 2 103 r2 r1 (qO rr qZ)))) J [6,5,4,3,2] [103,102,101,0] fun G=>(Yg (Zl (Ze ?_))))
  refine ZK hfr G O (.cl 103 true 2 O O (.tmp O .nil)) (.two (by rw [hg];first | exact .aggU O O | exact .aggLe O ⟨ZT.nilSl,ZT.nilSl,tv⟩) (.int (by rw [hg])))
 have hm:¬ (mayH g t 3 true).2≠0:=by simpa using hc0
 obtain ⟨hr,hrt,hik,hnd,hlo⟩:=Zh2 (by decide) (YB.1 hm)
 have hrr:=ZD hr
 have hlk:=ZhG (κ:=TxD.id) (k:=t.id) g.txs
 refine Ya (rZ G (qe 2 101 r1 r1 (qe 3 102 r1 r1 (qf (oP (Znj g t hs.1 ht) func52 (Args.two (.pagg .t) (.pagg .t))) r2 qz (qO rr qZ)))) J [20,6,5,4,3,2] [103,102,101,0] fun G=>?_)
 refine Zc G O (fun hc1=>?_) (fun hc1=>?_)
 ·have hg:Za2 g t=(Z1,7):=by unfold Za2;rw [Yb hm,Ye (by simpa using hc1)]
  refine Ya (rZ G (qf (oB [] [.slice none 0 0,.slice none 0 0] [(0,1),(1,1)] .nil) trivial qz (qs 2 103 r2 r1 (qI qZ))) J [6,5,4,3,2] [103,102,101,0] fun G=>(Yg (Zl (Ze ?_))))
  refine ZK hfr G O (.cl 103 true 2 O O (.tmp O .nil)) (.two (by rw [hg];first | exact .aggU O O | exact .aggLe O ⟨ZT.nilSl,ZT.nilSl,tv⟩) (.int (by rw [hg])))
 have hlt:=(Zct hrr.1 hik).1
 have hg:Za2 g t=(⟨g.txs.set (((mayH g t 3 true).1).toNat) t,settleO t g.orders⟩,0):=by unfold Za2;rw [Yb hm,Yb (by simpa using hc1),hlo,Yc]
 refine Yi (Zk (Za (Ya ?_)))
 replace G:=G.fresh 104 rfl
 refine Zb G (qe 2 101 r1 r1 (qf (ZdH 104 (Zf4 g hs) func48 O kr (Args.one (.pagg .t))) r1 r1 (qf (oH [.slice none 0 0,.slice none 0 0] 105) trivial qz (qf (oA 2 105 .same (.conv .t (Ent.fnAgg (.fn (.fn .nil))))) r2 r1 qZ)))) J [8,6,5,4,3] [105,104,103,102,101,0] (fun _=>rfl) (fun _=>rfl) fun τ a w F G=>?_
 try dsimp only [RS.sub,SF.sub,CF.sub,csub,Anc.sub,List.map,Zg,xL,xM,Nat.reduceAdd,xD,xE,xT,xU,xC,xN,zCF,ldSF,Zp,rTx,ZA,ZX,rInt,rOp] at G
 generalize τ 8=v8,τ 26=v26 at G
 replace G:=G.turn 104 O (r':=RS.hp (HP.star [.ob (.val (cellN 0 v26)) (Zs 37 3 rTx g.txs),.ob (.val (cellN 1 v26)) (Zs 34 2 ZA g.orders)])) (fun _ _ _ _ h=>h)
 obtain ⟨F,G⟩:=G.peel 104 70 O rfl
 obtain ⟨F,G⟩:=G.peel 104 71 O rfl
 obtain ⟨F,G⟩:=G.nM [8,6,5,4,3] [105,103,102,101,71,70,0]
 generalize cellN 0 v26=va,cellN 1 v26=vb at G
 refine Za (Ya (ZO G (qg 0 105 r1 r1 (qa 105 r1 r1 (qR rr (qe 3 102 r1 r1 (qf (oP (ZdJ t ow) func50 (Args.one (.pagg .t))) r1 qz (qf (o_indexAddr_row (sz:=3) 70 (.mk YbA kr) .is .t (by rw [hlo];omega) (by rw [hlo];omega) (by rfl)) r2 r1 (qf (ZeF (sz:=3) 70 .t (by intro x;rfl) (by rw [hlo];omega) .t kr) r2 r1 qZ))))))) J [8,5,4,3] [105,103,102,101,71,70,0] O O fun a w F G=>?_))
 try dsimp only [List.map,Zg,xL,xM,Nat.reduceAdd,xD,xE,xT,xU,xC,xN,zCF,ldSF,Zp,rTx,ZA,ZX,rInt,rOp] at G
 try simp only [Yc] at G
 refine Za (Ya ?_)
 replace G:=G.fresh 72 rfl
 obtain ⟨F,G⟩:=G.push 72 71 O O O rfl
 obtain ⟨F,G⟩:=G.push 72 105 O O O rfl
 replace G:=G.turn 72 O (r':=RS.hp (Zja 25 34 v8 va g.orders)) (fun _ _ _ _ h=>⟨vb,h⟩)
 obtain ⟨F,G⟩:=G.nM [8,5,4,3] [103,102,101,72,70,0]
 refine Zf G (qe 3 102 r1 r1 (qf (ZcQ 72 (Zgm v8 va g.orders t hs.2 hrr.2 ht) func51 O kr (Args.two .t (.pagg .t))) r2 r1 qZ)) J [8,5,4] [103,102,101,72,70,0] O O fun a w F G=>?_
 replace G:=G.turn 72 O (r':=RS.hp (HP.ex fun vb:Value=>HP.star [.pt (.val v8) 25 [.pv (.is va),.pv (.is vb)],.ob (.val vb) (Zs 34 2 ZA (settleO t g.orders))])) (fun _ _ _ _ h=>h)
 obtain ⟨vb2,G⟩:=G.open_ex 72 rfl
 obtain ⟨F,G⟩:=G.peel 72 73 O rfl
 obtain ⟨F,G⟩:=G.peel 72 74 O rfl
 obtain ⟨F,G⟩:=G.nM [8,5,4] [103,102,101,74,73,70,0]
 obtain ⟨F,G⟩:=G.giveCell 70 73 0 O O O O rfl
 try dsimp only [List.set] at G
 obtain ⟨F,G⟩:=G.nM [8,5,4] [103,102,101,74,73,0]
 obtain ⟨F,G⟩:=G.giveCell 74 73 1 O O O O rfl
 try dsimp only [List.set] at G
 obtain ⟨F,G⟩:=G.nM [8,5,4] [103,102,101,73,0]
 refine Za (Ya (rZ G (qe 2 73 r1 r1 (qs 2 103 r2 r1 (qI qZ))) J [5,4] [103,102,101,73,0] fun G=>Yg ?_))
 refine ZK hfr G O (.cl 103 true 2 O O (.tmp O .nil)) (.two (by rw [hg];first | exact .aggU O O | exact .aggLe O ⟨ZT.nilSl,ZT.nilSl,tv⟩) (.int (by rw [hg])))
theorem Zik (l:List Int):FnP prog 28 [.sl rInt l] (.bool (decide (Zap l))):=by
 refine FnP.mk func28 O ntmps28 O fun B a w F J hfr G=>?_
 have hll:=Sat.lenSl G (i:=0) rfl
 refine Ya (rZ G qB J [2,0] [0] fun G=>Ya ?_)
 refine Zb G (qf (Zgt (vk:=.i64) (ok:=(fun _=>True)) (kv:=(fun n:Int=>Value.int .i64 n)) 101) trivial qz (qO rr qZ)) J [3,2,0] [101,0] (fun _=>rfl) (fun _=>rfl) fun τ a w F G=>?_
 try dsimp only [RS.sub,SF.sub,CF.sub,csub,Anc.sub,List.map,Zg,xL,xM,Nat.reduceAdd,xD,xE,xT,xU,xC,xN,zCF,rInt] at G
 generalize τ 6=v6 at G
 refine Za (Ya (Ya (rZ G (qR rr (qu Ybz r1 (qJ qZ))) J [9,8,7,3,2] [101,0] fun G=>Yj ?_)))
 refine Zo (σ:=(Nat)×(List (Zbn Int))×(Nat)) [2,3,7,8] [0] (fun s=>[(9,.pv (.int .i64 (s.1:Int)))]) (fun s=>[(101,.ob (.val v6) (Znf .i64 (fun _=>True) (fun n:Int=>Value.int .i64 n) s.2.1 s.2.2))]) (fun s=>s.1≤l.length∧(Zap (l.take s.1) ∧ ∀ x,mVal x s.2.1=if x ∈ l.take s.1 then 1 else 0)) (fun s=>l.length - s.1) ((0),([]),(0)) G ⟨rfl,rfl,rfl,rfl,rfl,tv⟩ ⟨rfl,rfl,tv⟩ ⟨Yr _,⟨⟨by simp,by simp⟩,fun x=>by simp [mVal]⟩⟩ ?_
 clear G;intro s a w F hC G
 obtain ⟨i,es,ck⟩:=s
 try dsimp only at hC
 obtain ⟨F,G⟩:=G.nM [9,8,7,3,2] [101,0]
 try dsimp only at G
 obtain ⟨hi,hq⟩:=hC
 obtain ⟨hro,hmv⟩:=hq
 have htk:∀ hil:i<l.length,l.take (i+1)=l.take i ++ [Nn l i]:=fun hil=>ZF hil
 have hv1:∀ x,0≤mVal x es∧mVal x es≤1:=fun x=>by rw [hmv];split <;> omega
 have hv2:mVal (Nn l i) es=if Nn l i ∈ l.take i then 1 else 0:=hmv _
 refine Ya (rZ G (qL r2) J [10,9,8,7,3,2] [101,0] fun G=>Ya ?_)
 refine Zc G O (fun hc0=>?_) (fun hc0=>?_)
 ·have hil:i<l.length:=by simp at hc0;omega
  refine Yi (Za (Ya (Yj (Ya (Zf G (qy 1 Ybz r2 (qf (oR false 1 .t) r1 qz (qO rr qZ))) J [9,8,7,5,3,2] [101,0] O O fun a w F G=>?_)))))
  try simp only [Yc] at G
  refine Za (Ya (rZ G (qR rr (qR rr (qf (Zic 101 underlying85 (Zhs YbD) kr .is (ZM.int .t O)) r2 r1 (qp r1 (qf (Zhr 101 underlying85 (Zhs YbD) .is (ZM.int .t O) .t) r3 r1 qZ))))) J [9,8,7,5,3,2] [101,0] fun G=>Ya ?_))
  refine rZ G (qR rr (qf (Zcz .t qi) r1 qz (qR rr (qm O O O O (qk O (fun h=>Zbs (.w h) qi) r2 qz (qf (ZaM .t .t) r2 qz (qR rr (qm O O O O (qm O O O O (qk O (fun h=>Zic 101 underlying85 (Zhs YbD) kr (.w h .is) (ZM.int (.w h) O)) r3 r1 (qk O (fun h=>Zbs (.w h) qi) r2 qz (qf (ZaM .t .t) r2 qz qZ)))))))))))) J [28,9,8,7,3,2] [101,0] fun G=>?_
  refine Zc G O (fun hc1=>?_) (fun hc1=>?_)
  ·have hg:false=decide (Zap l):=(Ym fun hr=>by have h2:=hr.take (i+1);rw [htk hil] at h2;have h3:=Zap.snoc.1 h2;have h4:=h3.2.1;have h5:=h3.2.2;rw [Yb h5] at hv2;simp [ZfR,hv2] at hc1;first | omega | (rw [show IntKind.wrap .i64 1=1 by decide] at hc1;omega)).symm
   refine Ya (rZ G qB J [9,8,7,3,2] [101,0] fun G=>(Yg (Zl (Ze (Ze (Zl (Ze ?_)))))))
   refine Zt hfr G O O O (.bool hg)
  have hw1:IntKind.wrap .i64 (mVal (Nn l i) es+1)=mVal (Nn l i) es+1:=ZN (by have:=hv1 (Nn l i);omega)
  have hR2:Zap (l.take (i+1)) ∧ ∀ x,mVal x (mPut (Nn l i) (IntKind.wrap .i64 (mVal (Nn l i) es+1)) (es,ck)).1=if x ∈ l.take (i+1) then 1 else 0:=by
    have hh:=hc1
    simp [ZfR,hw1] at hh
    have hni:Nn l i ∉ l.take i:=fun hm=>by rw [Ye hm] at hv2;omega
    rw [Yb hni] at hv2
    refine ⟨by rw [htk hil];exact Zap.snoc.2 ⟨hro,by omega,hni⟩,fun x=>?_⟩
    rw [ZfR,hw1,hv2,hmv,htk hil]
    by_cases hx:x=Nn l i
    ·subst hx;simp
    ·simp [hx]
  generalize (mPut (Nn l i) (IntKind.wrap .i64 (mVal (Nn l i) es+1)) (es,ck))=ms at G hR2
  obtain ⟨es2,ck2⟩:=ms
  dsimp only at G hR2
  refine Yi (Zk (Za (rZ G (qp r1 (qR rr qZ)) J [9,8,7,3,2] [101,0] fun G=>?_)))
  replace G:=G.ent (i:=9) (s':=.pv (.int .i64 ((i+1:Nat):Int))) O (.int (Zh ow))
  obtain ⟨F,G⟩:=G.nM [8,7,3,2,9] [0,101]
  exact ⟨((i+1),(es2),(ck2)),F,⟨by omega,hR2⟩,G,by omega⟩
 have hil:i=l.length:=by simp at hc0;omega
 have hg:true=decide (Zap l):=(YR (by rw [hil,Y7] at hro;exact hro)).symm
 refine YA (Zj (Zj (Zw (Za (Ya (rZ G qB J [2] [101,0] fun G=>Yg ?_))))))
 refine Zt hfr G O O O (.bool hg)
end Go.Proofs.YthfoojdlcjfmcaaGreatDoor
