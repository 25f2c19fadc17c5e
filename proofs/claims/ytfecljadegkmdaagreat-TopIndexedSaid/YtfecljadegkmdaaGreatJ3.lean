/- Laws and walks. No condition beyond what each says. -/
import Derived.Test.YtfecljadegkmdaaGreatJ2
namespace Go.Proofs.YtfecljadegkmdaaGreat
open Go Go.Gm Tryz
set_option linter.unusedVariables false
set_option linter.unusedSimpArgs false
set_option maxHeartbeats 4000000
set_option maxRecDepth 8000
section
set_option linter.unusedSectionVars false
variable {α:Type} {κ:α→Int} {t x:α} {l out r:List α} {d:Bool}
def putGR (κ:α→Int) (t:α):List α→Bool→List α
 | [],d=>if d=true then [] else [t]
 | x :: l,d=>(if d=false∧κ t≤κ x then [t] else [])++(if κ x=κ t then [] else [x])++putGR κ t l (d || decide (κ t≤κ x))
theorem ZbA (hA:d=false∧κ t≤κ x) (M:¬ κ x=κ t) (h:out++putGR κ t (x :: l) d=r):out ++ [t] ++ [x] ++ putGR κ t l true=r:=by
 rw [← h,putGR,Ye hA,Yb M];simp [hA.2]
theorem Zbv (hA:d=false∧κ t≤κ x) (M:κ x=κ t) (h:out++putGR κ t (x :: l) d=r):out ++ [t] ++ putGR κ t l true=r:=by
 rw [← h,putGR,Ye hA,Ye M];simp [hA.2]
theorem Zky (hA:¬ (d=false∧κ t≤κ x)):(d || decide (κ t≤κ x))=d:=by
 cases d
 ·simp at hA ⊢;omega
 ·rfl
theorem Zby (hA:¬ (d=false∧κ t≤κ x)) (M:¬ κ x=κ t) (h:out++putGR κ t (x :: l) d=r):out ++ [x] ++ putGR κ t l d=r:=by
 rw [← h,putGR,Yb hA,Yb M,Zky hA];simp
theorem Zbs (hA:¬ (d=false∧κ t≤κ x)) (M:κ x=κ t) (h:out++putGR κ t (x :: l) d=r):out++putGR κ t l d=r:=by
 rw [← h,putGR,Yb hA,Ye M,Zky hA];simp
theorem ZaR:∀ l:List α,putGR κ t l true=l.filter fun x=>!decide (κ x=κ t)
 | []=>rfl
 | x :: l=>by
  rw [putGR,Yb XA,Yat,Bool.true_or,ZaR l]
  split
  ·rename_i h;rw [YX Xz];rfl
  ·rename_i h;rw [YW Xz];rfl
theorem Zfk (l:List α) (d:Bool):(putGR κ t l d).length≤l.length+1:=by
 have h2:∀ l:List α,(putGR κ t l true).length≤l.length:=fun l=>by rw [ZaR];exact YG _ _
 induction l generalizing d with
 | nil=>cases d <;> simp [putGR]
 | cons x l ih=>
  have h1:=ih (d || decide (κ t≤κ x))
  rw [putGR,Yd,Yd]
  have h3:=h2 l
  by_cases hA:d=false∧κ t≤κ x
  ·rw [show (d || decide (κ t≤κ x))=true by simp [hA.2],Ye hA]
   split <;> simp <;> omega
  ·rw [Yb hA]
   split <;> simp <;> omega
theorem ZcR {k:Int} (h:∀ x ∈ l,k<κ x):(l.filter fun x=>!decide (κ x=k))=l:=by
 rw [YaL]
 intro x hx
 have:=h x hx
 simp;omega
theorem ZeG {k:Int} : lowK κ k (x :: l)=if κ x<k then lowK κ k l+1 else 0:=by
 unfold lowK
 split
 ·rename_i h1;rw [Ya5 XN,Yl]
 ·rename_i h1;rw [Ya4 XN];rfl
theorem ZaV {k:Int} : isK κ k (x :: l)=(decide (κ x=k) || isK κ k l):=by unfold isK;rw [List.any_cons]
theorem ZiI {k:Int} (h:∀ x ∈ l,k<κ x):isK κ k l=false:=by
 unfold isK
 rw [YaZ]
 intro x hx
 have:=h x hx
 simp;omega
theorem Zfp (hs:l.Pairwise fun a b=>κ a<κ b) (hk:isK κ (κ t) l=false):putGR κ t l false=l.take (lowK κ (κ t) l) ++ [t] ++ l.drop (lowK κ (κ t) l):=by
 induction l with
 | nil=>rfl
 | cons x l ih=>
  rw [Yx] at hs
  rw [ZaV,Bool.or_eq_false_iff,YM] at hk
  rw [putGR,Yb hk.1,ZeG]
  by_cases h:κ x<κ t
  ·rw [Yb ow,Ye h,show (false || decide (κ t≤κ x))=false by simp;omega,ih hs.2 hk.2];simp
  ·rw [Ye ⟨rfl,ow⟩,Yb h,show (false || decide (κ t≤κ x))=true by simp;omega,ZaR,ZcR fun y hy=>by have:=hs.1 y hy;omega];simp
theorem Zfg (hs:l.Pairwise fun a b=>κ a<κ b) (hk:isK κ (κ t) l=true):putGR κ t l false=l.set (lowK κ (κ t) l) t:=by
 induction l with
 | nil=>simp [isK] at hk
 | cons x l ih=>
  rw [Yx] at hs
  rw [putGR,ZeG]
  by_cases h:κ x<κ t
  ·rw [ZaV,Yw ow,Ybi] at hk
   rw [Yb ow,Yb ow,Ye h,show (false || decide (κ t≤κ x))=false by simp;omega,ih hs.2 hk];rfl
  ·rw [Ye ⟨rfl,ow⟩,Yb h,show (false || decide (κ t≤κ x))=true by simp;omega,ZaR,ZcR fun y hy=>by have:=hs.1 y hy;omega]
   have hx:κ x=κ t:=by
    refine YaP fun h9=>?_
    rw [ZaV,Yw h9,Ybi,ZiI fun y hy=>by have:=hs.1 y hy;omega] at hk
    cases hk
   rw [Ye hx];rfl
theorem Zf4 {k:Int} (hs:l.Pairwise fun a b=>κ a<κ b) (hk:isK κ k l=true):(l.filter fun x=>!decide (κ x=k))=l.take (lowK κ k l)++l.drop (lowK κ k l+1):=by
 induction l with
 | nil=>simp [isK] at hk
 | cons x l ih=>
  rw [Yx] at hs
  rw [ZeG]
  by_cases h:κ x<k
  ·rw [ZaV,Yw ow,Ybi] at hk
   rw [YW XG,Ye h,ih hs.2 hk];rfl
  ·have hx:κ x=k:=by
    refine YaP fun h9=>?_
    rw [ZaV,Yw h9,Ybi,ZiI fun y hy=>by have:=hs.1 y hy;omega] at hk
    cases hk
   rw [YX XP,Yb h,ZcR fun y hy=>by have:=hs.1 y hy;omega];simp
theorem Zc2 {y:α} (h:y ∈ putGR κ t l d):(y=t∧d=false)∨(y ∈ l∧κ y≠κ t):=by
 induction l generalizing d with
 | nil=>cases d <;> simp [putGR] at h;exact .inl ⟨h,rfl⟩
 | cons x l ih=>
  rw [putGR,YC,YC] at h
  rcases h with (h | h) | h
  ·split at h
   ·rename_i h1;exact .inl ⟨by simpa using h,h1.1⟩
   ·cases h
  ·split at h
   ·cases h
   ·rename_i h1
    have e:y=x:=Xz
    subst e
    exact .inr ⟨by simp,h1⟩
  ·rcases ih h with ⟨h1,h2⟩ | ⟨h1,h2⟩
   ·rw [Bool.or_eq_false_iff] at h2;exact .inl ⟨h1,h2.1⟩
   ·exact .inr ⟨by simp [h1],h2⟩
theorem Zcz (hs:l.Pairwise fun a b=>κ a<κ b):(putGR κ t l d).Pairwise fun a b=>κ a<κ b:=by
 induction l generalizing d with
 | nil=>cases d <;> simp [putGR]
 | cons x l ih=>
  rw [Yx] at hs
  have hf:=hs.2.filter fun x=>!decide (κ x=κ t)
  rw [putGR]
  by_cases hA:d=false∧κ t≤κ x
  ·rw [Ye hA,show (d || decide (κ t≤κ x))=true by simp [hA.2],ZaR]
   have h1:∀ y ∈ l.filter (fun x=>!decide (κ x=κ t)),κ x<κ y:=fun y hy=>hs.1 y (YA.1 hy).1
   split
   ·rw [Y3,YaC,Yx]
    exact ⟨fun y hy=>by have:=h1 y hy;omega,hf⟩
   ·rename_i h2
    rw [Yad,YaC,YaC,Yx,Yx]
    refine ⟨fun y hy=>?_,h1,hf⟩
    rcases Yo.1 hy with rfl | hy
    ·omega
    ·have:=h1 y hy;omega
  ·rw [Yb hA,Yat]
   have ih2:=ih (d:=d || decide (κ t≤κ x)) hs.2
   split
   ·simpa using ih2
   ·rename_i h2
    rw [YaC,Yx]
    refine ⟨fun y hy=>?_,ih2⟩
    rcases Zc2 hy with ⟨rfl,h3⟩ | ⟨h3,_⟩
    ·rw [Bool.or_eq_false_iff] at h3
     have:=of_decide_eq_false h3.2
     omega
    ·exact hs.1 y h3
end
def getO (os:List OrdD) (k:Int):List Int:=((os.find? fun o=>decide (o.key=k)).map OrdD.txs).getD []
theorem ZQ {o:OrdD} {os:List OrdD} {k:Int} : getO (o :: os) k=if o.key=k then o.txs else getO os k:=by
 unfold getO
 rw [List.find?_cons]
 by_cases h:o.key=k <;> simp [h]
theorem Zca {os:List OrdD} {k:Int} (h:∀ o ∈ os,o.key≠k):getO os k = []:=by
 unfold getO
 rw [Yaq.2 fun o ho=>by simpa using h o ho];rfl
theorem Zcy {os:List OrdD} {o:OrdD} (hs:os.Pairwise fun a b=>a.key<b.key) (h:o ∈ os):getO os o.key=o.txs:=by
 induction os with
 | nil=>cases h
 | cons x os ih=>
  rw [Yx] at hs
  rw [ZQ]
  rcases Yo.1 h with rfl | h
  ·rw [Ye rfl]
  ·have:=hs.1 o h
   rw [Yb ow,ih hs.2 h]
theorem ZeC {os:List OrdD} {k:Int} (h:getO os k≠[]):(⟨k,getO os k⟩:OrdD) ∈ os:=by
 induction os with
 | nil=>exact absurd rfl h
 | cons x os ih=>
  rw [ZQ] at h ⊢
  by_cases e:x.key=k
  ·rw [Ye e];subst e;simp
  ·rw [Yb e] at h ⊢;simp [ih h]
def NE (os:List OrdD):Prop:=∀ o ∈ os,o.txs≠[]
theorem ZkA:∀ {a b:List OrdD},(a.Pairwise fun x y=>x.key<y.key)→(b.Pairwise fun x y=>x.key<y.key)→(∀ o,o ∈ a ↔ o ∈ b)→a=b
 | [],[],_,_,_=>rfl
 | [],y :: b,_,_,h=>by have:=(h y).2 XA;cases this
 | x :: a,[],_,_,h=>by have:=(h x).1 XA;cases this
 | x :: a,y :: b,ha,hb,h=>by
  rw [Yx] at ha hb
  have e:x=y:=by
   rcases Yo.1 ((h x).1 XA) with e | h1
   ·exact e
   ·rcases Yo.1 ((h y).2 XA) with e | h2
    ·exact e.symm
    ·have:=ha.1 y h2;have:=hb.1 x h1;omega
  subst e
  rw [ZkA (a:=a) (b:=b) ha.2 hb.2 fun o=>?_]
  constructor
  ·intro ho
   rcases Yo.1 ((h o).1 (by simp [ho])) with e | h1
   ·have:=ha.1 o ho;rw [e] at this;omega
   ·exact h1
  ·intro ho
   rcases Yo.1 ((h o).2 (by simp [ho])) with e | h1
   ·have:=hb.1 o ho;rw [e] at this;omega
   ·exact h1
theorem ZnO {a b:List OrdD} (ha:a.Pairwise fun x y=>x.key<y.key) (hb:b.Pairwise fun x y=>x.key<y.key) (na:NE a) (nb:NE b) (h:∀ k,getO a k=getO b k):a=b:=by
 refine ZkA ha hb fun o=>⟨fun ho=>?_,fun ho=>?_⟩
 ·have h1:=Zcy ha ho
  have h2:getO b o.key≠[]:=by rw [← h,h1];exact na o ho
  have h3:=ZeC h2
  rw [← h,h1] at h3;exact h3
 ·have h1:=Zcy hb ho
  have h2:getO a o.key≠[]:=by rw [h,h1];exact nb o ho
  have h3:=ZeC h2
  rw [h,h1] at h3;exact h3
def ZcE (t:TxD) (l:List Int) (k:Int):List Int:=if t.done=true∧0<wcnt t.ops k then withO l t.id else withoutO l t.id
theorem ZhY {os:List OrdD} (hs:os.Pairwise fun a b=>a.key<b.key) (k:Int):getO (os.filter fun o=>!decide (o.txs = [])) k=getO os k:=by
 induction os with
 | nil=>rfl
 | cons x os ih=>
  rw [Yx] at hs
  rw [ZQ]
  by_cases e:x.txs = []
  ·rw [YX XB,ih hs.2]
   split
   ·rename_i hk
    rw [e,Zca fun o ho=>by have:=hs.1 o ho;omega]
   ·rfl
  ·rw [YW XB,ZQ,ih hs.2]
theorem ZmN {t:TxD} {os:List OrdD} {k:Int} : getO (os.map (ZhV t)) k=if isK OrdD.key k os=true then ZcE t (getO os k) k else []:=by
 induction os with
 | nil=>simp [getO,isK]
 | cons x os ih=>
  rw [YJ,ZQ,ZQ,ZaV,ih]
  by_cases e:x.key=k
  ·subst e
   rw [Ye (show (ZhV t x).key=x.key from rfl),Ye rfl]
   simp [ZhV,ZcE]
  ·rw [Yb (show ¬ (ZhV t x).key=k from e),Yb e,Yw e,Ybi]
theorem ZhC {k' k:Int} : ∀ {os:List OrdD},(os.Pairwise fun a b=>a.key<b.key)→getO (ZhO k' os) k=getO os k
 | [],_=>by unfold ZhO;rw [ZQ];split <;> rfl
 | x :: os,h=>by
  rw [Yx] at h
  unfold ZhO
  split
  ·rw [ZQ,ZQ,ZhC h.2]
  ·split
   ·rfl
   ·rw [ZQ]
    split
    ·rename_i h1 h2 h3
     have h3:k' = k:=h3
     subst h3
     refine (Zca fun o ho=>?_).symm
     rcases Yo.1 ho with rfl | ho
     ·exact h2
     ·have:=h.1 o ho;omega
    ·rfl
theorem Ziv {k' k:Int} : ∀ {os:List OrdD},isK OrdD.key k (ZhO k' os)=(isK OrdD.key k os || decide (k' = k))
 | []=>by simp [ZhO,isK]
 | x :: os=>by
  unfold ZhO
  split
  ·rw [ZaV,ZaV,Ziv,Bool.or_assoc]
  ·split
   ·rename_i h2
    rw [ZaV]
    by_cases e:k' = k
    ·simp [h2,e]
    ·simp [e]
   ·rw [ZaV,Bool.or_comm]
theorem Zi6:∀ (ks:List Int) {os:List OrdD} (k:Int),Zb1 OrdD.key os→getO (ks.foldl Zef os) k=getO os k∧isK OrdD.key k (ks.foldl Zef os)=(isK OrdD.key k os || decide (k ∈ ks))
 | [],os,k,_=>by simp
 | k' :: ks,os,k,h=>by
  obtain ⟨h1,h2⟩:=Zi6 ks k (insK_rise k' h)
  rw [Yas,h1,h2,Zge k' h,ZhC (ZB.1 h),Ziv]
  refine ⟨rfl,?_⟩
  rw [Bool.or_assoc]
  congr 1
  rw [Y4]
  simp only [YaF,Yi,Yo]
  exact ⟨fun h=>h.elim (fun h=>.inl h.symm) .inr,fun h=>h.elim (fun h=>.inl h.symm) .inr⟩
theorem ZlI {os:List OrdD} {k:Int} (h:isK OrdD.key k os=false):getO os k = []:=by
 refine Zca fun o ho e=>?_
 unfold isK at h
 rw [YaZ] at h
 exact h o ho XB
theorem ZfU {t:TxD} {os:List OrdD} (h:Zb1 OrdD.key os) (k:Int):getO (settleO t os) k=ZcE t (getO os k) k:=by
 unfold settleO
 have hins:getO (Zav t os (Zl t)) k=getO os k∧isK OrdD.key k (Zav t os (Zl t))=(isK OrdD.key k os || (t.done && decide (k ∈ Zl t)))∧Zb1 OrdD.key (Zav t os (Zl t)):=by
  unfold Zav
  split
  ·rename_i hd
   obtain ⟨h1,h2⟩:=Zi6 (Zl t) k h
   refine ⟨h1,by rw [h2,hd,Ybn],?_⟩
   have key:∀ (ks:List Int) (os:List OrdD),Zb1 OrdD.key os→Zb1 OrdD.key (ks.foldl Zef os):=by
    intro ks
    induction ks with
    | nil=>intro os h;exact h
    | cons k ks ih=>intro os h;exact ih _ (insK_rise k h)
   exact key _ _ h
  ·rename_i hd
   exact ⟨rfl,by simp [hd],h⟩
 obtain ⟨h1,h2,h3⟩:=hins
 have hm:((Zav t os (Zl t)).map (ZhV t)).Pairwise fun a b=>a.key<b.key:=YaN.2 ((ZB.1 h3).imp fun h=>h)
 rw [ZhY hm,ZmN,h1,h2]
 split
 ·rfl
 ·rename_i hk
  simp only [YaF,not_or,Yr,Yi] at hk
  have hk1:isK OrdD.key k os=false:=by simpa using hk.1
  rw [ZlI hk1]
  unfold ZcE
  rw [Yb fun h9=>hk.2 ⟨h9.1,ZaH.2 h9.2⟩];rfl
theorem ZeT {t:TxD} {os:List OrdD} (h:Zb1 OrdD.key os) (hs:ZaF os):(settleO t os).Pairwise (fun a b=>a.key<b.key)∧NE (settleO t os):=by
 have h3:=(Zfz (t:=t) h hs (Zl t)).1
 have hm:((Zav t os (Zl t)).map (ZhV t)).Pairwise fun a b=>a.key<b.key:=YaN.2 ((ZB.1 h3).imp fun h=>h)
 refine ⟨hm.filter _,fun o ho=>?_⟩
 have:=(YA.1 ho).2
 simpa using this
def ZY (t:TxD) (os out:List OrdD) (k:Int):List OrdD:=putGR OrdD.key ⟨k,ZcE t (getO os k) k⟩ out (decide (ZcE t (getO os k) k = []))
def ZG (t:TxD) (os:List OrdD):List Int:=(Zl t).foldl ZbZ (Zan (os.map OrdD.key))
def ZbM (t:TxD) (os:List OrdD):List OrdD:=(ZG t os).foldl (ZY t os) os
theorem Zjg {o:OrdD} {os:List OrdD} {d:Bool} (hs:os.Pairwise fun a b=>a.key<b.key) (k:Int):getO (putGR OrdD.key o os d) k=if k=o.key then (if d=true then [] else o.txs) else getO os k:=by
 have hf:∀ os:List OrdD,getO (os.filter fun x=>!decide (x.key=o.key)) k=if k=o.key then [] else getO os k:=by
  intro os
  induction os with
  | nil=>split <;> rfl
  | cons x os ih=>
   by_cases e:x.key=o.key
   ·rw [YX XB,ih,ZQ]
    split
    ·rfl
    ·rename_i h;rw [Yb ow]
   ·rw [YW XB,ZQ,ZQ,ih]
    split
    ·rename_i h;rw [Yb ow]
    ·rfl
 cases d with
 | true=>rw [ZaR,hf];simp
 | false=>
  simp only [YaU,Ym]
  induction os with
  | nil=>
   show getO [o] k=_
   rw [ZQ]
   by_cases e:o.key=k
   ·rw [Ye e,Ye e.symm]
   ·rw [Yb e,Yb fun h=>e h.symm]
  | cons x os ih=>
   rw [Yx] at hs
   rw [putGR]
   by_cases hA:o.key≤x.key
   ·rw [Ye ⟨rfl,hA⟩,show (false || decide (o.key≤x.key))=true by simp [hA],ZaR,Yad,YaC,ZQ]
    by_cases e:o.key=k
    ·rw [Ye e,Ye e.symm]
    ·have e':¬ k=o.key:=fun h=>e h.symm
     rw [Yb e,Yb e',ZQ]
     by_cases e2:x.key=o.key
     ·rw [Ye e2,Yat,hf,Yb e',Yb (show ¬ x.key=k by omega)]
     ·rw [Yb e2,YaC,ZQ,hf,Yb e']
   ·rw [Yb fun h=>hA h.2,Yb ow,Yat,YaC,show (false || decide (o.key≤x.key))=false by simp;omega,ZQ,ZQ,ih hs.2]
    split
    ·rename_i h;rw [Yb ow]
    ·rfl
theorem Zjb {t:TxD} {os:List OrdD} : ∀ (ks:List Int) {out:List OrdD},(out.Pairwise fun a b=>a.key<b.key)→NE out→ks.Nodup→((ks.foldl (ZY t os) out).Pairwise fun a b=>a.key<b.key)∧NE (ks.foldl (ZY t os) out) ∧ ∀ k,getO (ks.foldl (ZY t os) out) k=if k ∈ ks then ZcE t (getO os k) k else getO out k
 | [],out,h1,h2,_=>⟨h1,h2,fun k=>by simp⟩
 | k' :: ks,out,h1,h2,hn=>by
  rw [Ya1] at hn
  have hst:NE (ZY t os out k'):=fun o ho=>by
   rcases Zc2 ho with ⟨rfl,h3⟩ | ⟨h3,_⟩
   ·simpa using h3
   ·exact h2 o h3
  obtain ⟨g1,g2,g3⟩:=Zjb ks (out:=ZY t os out k') (Zcz h1) hst hn.2
  refine ⟨g1,g2,fun k=>?_⟩
  rw [Yas,g3]
  by_cases hk:k ∈ ks
  ·rw [Ye hk,Ye (by simp [hk])]
  ·rw [Yb hk]
   unfold ZY
   rw [Zjg h1]
   by_cases e:k=k'
   ·subst e
    rw [Ye rfl,Ye (show k ∈ k :: ks by simp)]
    show (if decide (ZcE t (getO os k) k = [])=true then [] else ZcE t (getO os k) k)=_
    split
    ·rename_i h;exact (YV h).symm
    ·rfl
   ·rw [Yb e,Yb (by simp [e,hk])]
theorem ZgZ:∀ (b:List Int) {a:List Int},Za3 a→Za3 (b.foldl ZbZ a) ∧ ∀ x,x ∈ b.foldl ZbZ a ↔ x ∈ a∨x ∈ b
 | [],a,h=>⟨h,fun x=>by simp⟩
 | y :: b,a,h=>by
  obtain ⟨h1,h2⟩:=Zgu (n:=y) h
  obtain ⟨g1,g2⟩:=ZgZ b h1
  exact ⟨g1,fun x=>by rw [Yas,g2,h2];simp [or_assoc]⟩
theorem ZdO {t:TxD} {os:List OrdD} (h:Zb1 OrdD.key os) (hs:ZaF os) (hn:NE os):ZbM t os=settleO t os:=by
 obtain ⟨s1,s2⟩:=ZeT (t:=t) h hs
 obtain ⟨k1,k2⟩:=ZgZ (Zl t) (Z9 (os.map OrdD.key)).1
 obtain ⟨d1,d2,d3⟩:=Zjb (t:=t) (os:=os) (ZG t os) (ZB.1 h) hn (k1.imp fun h=>Ybr h)
 refine ZnO d1 s1 d2 s2 fun k=>?_
 rw [show getO (ZbM t os) k=_ from d3 k,ZfU h]
 split
 ·rfl
 ·rename_i hk
  have hk2:=fun h9=>hk ((k2 k).2 h9)
  have e1:getO os k = []:=Zca fun o ho e=>hk2 (.inl ((Z9 _).2 k |>.2 (by rw [YI];exact ⟨o,ho,e⟩)))
  rw [e1]
  unfold ZcE
  rw [Yb fun h9=>hk2 (.inr (ZaH.2 h9.2))];rfl
theorem Zkz (l:List TxD) (t:TxD) (hl:l.length≤1000000):FnP prog 133 [.sl rTx l,.agg (rTx t)] (.sl rTx (putGR TxD.id t l false)):=by
 refine FnP.mk func133 O ntmps133 O fun B a w F M hfr G=>Ya ?_
 refine rS G (qx 101 r1 (qC qZ)) M Q7 Kf fun τ G=>?_
 have G:=X1
 generalize τ 3=v3 at G
 refine Za (Ya (rZ G (qC qZ) M JD Kf fun G=>Ya ?_))
 refine rZ G qB M [6,5,4,3,0] Kf fun G=>(Ya (Ya ?_))
 refine rZ G (qR rr (qu Ybt r1 (qJ qZ))) M KN Kf fun G=>Yf ?_
 replace G:=G.fresh 50 rfl
 replace G:=G.turn 50 O (ZaC (T:=36) (sz:=3) (R:=rTx))
 refine Zj (σ:=(Nat)×(Bool)×(Value)×(List TxD)) [3,4,9,10] [0,101] (fun s=>[(11,.pv (.int .i64 (s.1:Int))),(6,.pv (.bool s.2.1)),(5,.pv (.is s.2.2.1))]) (fun s=>[(50,.ob (.val s.2.2.1) (ZC 36 3 rTx s.2.2.2))]) (fun s=>s.1≤l.length∧(s.2.2.2++putGR TxD.id t (l.drop s.1) s.2.1=putGR TxD.id t l false)) (fun s=>l.length - s.1) ((0),(false),(.slice none 0 0),([])) G ⟨rfl,rfl,rfl,rfl,rfl,rfl,rfl,tv⟩ ⟨rfl,rfl,rfl,tv⟩ ⟨Yp _,rfl⟩ ?_
 clear G;intro s a w F hC G
 obtain ⟨i,d,v,out⟩:=s
 have hC:=X4
 obtain ⟨F,G⟩:=G.nM KN Kp
 have G:=X2
 obtain ⟨hi,hq⟩:=hC
 have hol:=Yap List.length hq
 rw [Yd] at hol
 have htl:(putGR TxD.id t l false).length≤l.length+1:=Zfk l _
 refine Ya (rZ G (qL r2) M [12,11,10,9,6,5,4,3] Kp fun G=>Ya ?_)
 refine Zb G O (fun hc0=>?_) (fun hc0=>?_)
 ·have hil:i<l.length:=XV
  refine Yc (Za (Ya (Yf (Ya (rS G (qy 3 Ybt r2 (qf (oR true 3 .t) r1 qz (qf (oH [.int .i64 0,.bool false,.slice none 0 0] 102) trivial qz (qS 3 102 r2 r1 qZ)))) M J2 Ki fun τ G=>?_)))))
  have G:=X0
  generalize τ 8=v8 at G
  try simp only [Yg] at G
  refine Za (Ya (Ya (rZ G (qR rr (qf (o_not .t) r1 qz (qR rr (qv 0 102 O r2 r1 (qw 102 O r2 r1 (qv 0 101 O r2 r1 (qw 101 O r2 r1 (qk O (fun h=>ZbB (.w h) (.w h)) r3 qz (qf (o_and2 .t .t) r2 qz qZ))))))))) M [23,11,10,9,8,6,5,4,3] Ki fun G=>?_)))
  refine Zb G O (fun hc1=>?_) (fun hc1=>?_)
  ·have hA:d=false∧TxD.id t≤TxD.id (Nn l i):=Wj
   refine Ya (rS G (qR rr (qe 3 101 r1 r1 (qf (Zo (sz:=3) (zs:=[.int .i64 0,.bool false,.slice none 0 0]) (r:=[(0,.tmp 25)]) (l:=[_,_,_]) Ybt kr kr kr kr O O (.agg O .t kr kr .nil) O) r1 qz (qf (o_append (sz:=3) (bs:=40) 50 (.mk' Ybt kr kr) XW .is (.arr (l':=[t]) .t) W7 XJ) ⟨rfl,rfl,tv⟩ ⟨rfl,tv⟩ (qO rr qZ))))) M J2 Ki fun τ G=>?_)
   have G:=X0
   generalize τ 27=v27 at G
   refine Za (rZ G qB M J2 Ki fun G=>Ya ?_)
   refine rZ G (qg 0 102 r1 r1 (qa 102 r1 r1 (qg 0 101 r1 r1 (qa 101 r1 r1 (qf (o_neq .t .t) r2 qz qZ))))) M [32,11,10,9,8,6,5,4,3] Ki fun G=>?_
   refine Zb G O (fun hc2=>?_) (fun hc2=>?_)
   ·have hBq:¬ TxD.id (Nn l i)=TxD.id t:=Wh
    refine rS G (qR rr (qe 3 102 r1 r1 (qf (Zo (sz:=3) (zs:=[.int .i64 0,.bool false,.slice none 0 0]) (r:=[(0,.tmp 34)]) (l:=[_,_,_]) Ybt kr kr kr kr O O (.agg O .t kr kr .nil) O) r1 qz (qf (o_append (sz:=3) (bs:=40) 50 (.mk' Ybt kr kr) XW .is (.arr (l':=[(Nn l i)]) .t) W7 XJ) ⟨rfl,rfl,tv⟩ ⟨rfl,tv⟩ (qO rr qZ))))) M KN Ki fun τ G=>?_
    have G:=X0
    generalize τ 36=v36 at G
    refine Zh (Za (rZ G (qp r1 (qR rr qZ)) M KN Ki fun G=>?_))
    replace G:=G.eI 11 i
    obtain ⟨F,G⟩:=G.nM QJ KL
    exact ⟨((i+1),_,_,_),F,⟨ow,WE⟩,G,ow⟩
   have hBq:TxD.id (Nn l i)=TxD.id t:=Wh
   refine Yc (Zh (Za (rZ G (qp r1 (qR rr qZ)) M KN Ki fun G=>?_)))
   replace G:=G.eI 11 i
   obtain ⟨F,G⟩:=G.nM QJ KL
   exact ⟨((i+1),_,_,_),F,⟨ow,WE⟩,G,ow⟩
  have hA:¬ (d=false∧TxD.id t≤TxD.id (Nn l i)):=WV
  refine Yc (Za (Ya (rZ G (qg 0 102 r1 r1 (qa 102 r1 r1 (qg 0 101 r1 r1 (qa 101 r1 r1 (qf (o_neq .t .t) r2 qz qZ))))) M [32,11,10,9,8,6,5,4,3] Ki fun G=>?_)))
  refine Zb G O (fun hc3=>?_) (fun hc3=>?_)
  ·have hBq:¬ TxD.id (Nn l i)=TxD.id t:=Wi
   refine rS G (qR rr (qe 3 102 r1 r1 (qf (Zo (sz:=3) (zs:=[.int .i64 0,.bool false,.slice none 0 0]) (r:=[(0,.tmp 34)]) (l:=[_,_,_]) Ybt kr kr kr kr O O (.agg O .t kr kr .nil) O) r1 qz (qf (o_append (sz:=3) (bs:=40) 50 (.mk' Ybt kr kr) XW .is (.arr (l':=[(Nn l i)]) .t) W7 XJ) ⟨rfl,rfl,tv⟩ ⟨rfl,tv⟩ (qO rr qZ))))) M KN Ki fun τ G=>?_
   have G:=X0
   generalize τ 36=v36 at G
   refine Zh (Za (rZ G (qp r1 (qR rr qZ)) M KN Ki fun G=>?_))
   replace G:=G.eI 11 i
   obtain ⟨F,G⟩:=G.nM QJ KL
   exact ⟨((i+1),_,_,_),F,⟨ow,WE⟩,G,ow⟩
  have hBq:TxD.id (Nn l i)=TxD.id t:=Wi
  refine Yc (Zh (Za (rZ G (qp r1 (qR rr qZ)) M KN Ki fun G=>?_)))
  replace G:=G.eI 11 i
  obtain ⟨F,G⟩:=G.nM QJ KL
  exact ⟨((i+1),_,_,_),F,⟨ow,WE⟩,G,ow⟩
 have hil:i=l.length:=XV
 refine Yt (Zg (Zg (Zp (Za (Ya (Ya (rZ G (qR rr (qf (o_not .t) r1 qz qZ)) M [39,5,4,3] Kp fun G=>?_)))))))
 refine Zb G O (fun hc4=>?_) (fun hc4=>?_)
 ·have hfin:out ++ [t] = putGR TxD.id t l false:=WK
  refine rS G (qR rr (qe 3 101 r1 r1 (qf (Zo (sz:=3) (zs:=[.int .i64 0,.bool false,.slice none 0 0]) (r:=[(0,.tmp 41)]) (l:=[_,_,_]) Ybt kr kr kr kr O O (.agg O .t kr kr .nil) O) r1 qz (qf (o_append (sz:=3) (bs:=40) 50 (.mk' Ybt kr kr) XW .is (.arr (l':=[t]) .t) W7 XJ) ⟨rfl,rfl,tv⟩ ⟨rfl,tv⟩ (qO rr qZ))))) M KZ Kp fun τ G=>?_
  have G:=X0
  generalize τ 43=v43 at G
  refine Za (Ya (rZ G (qR rr (qO rr qZ)) M [4] Kp fun G=>Yh ?_))
  obtain ⟨F,G⟩:=G.give 50 4 O rfl
  refine Zr hfr G O O O (.sl hfin)
 have hfin:out=putGR TxD.id t l false:=WO
 refine Yc (Za (Ya (rZ G (qR rr (qO rr qZ)) M [4] Kp fun G=>Yh ?_)))
 obtain ⟨F,G⟩:=G.give 50 4 O rfl
 refine Zr hfr G O O O (.sl hfin)
theorem Zcu (l:List OrdD) (t:OrdD) (hl:l.length≤1000000):FnP prog 137 [.sl Zv l,.agg (Zv t)] (.sl Zv (putGR OrdD.key t l (decide (t.txs = [])))):=by
 refine FnP.mk func137 O ntmps137 O fun B a w F M hfr G=>Ya ?_
 refine rS G (qx 101 r1 (qC qZ)) M Q7 Kf fun τ G=>?_
 have G:=X1
 generalize τ 3=v3 at G
 refine Za (Ya (rZ G (qC qZ) M JD Kf fun G=>Ya ?_))
 refine rZ G (qg 1 101 r1 r1 (qa 101 r1 r1 (qu Ybs r1 (qf (o_eql .t qi) r1 qz (qO rr qZ))))) M [6,5,4,3,0] Kf fun G=>(Ya (Ya ?_))
 refine rZ G (qR rr (qu Ybu r1 (qJ qZ))) M KJ Kf fun G=>Yf ?_
 replace G:=G.fresh 50 rfl
 replace G:=G.turn 50 O (ZaC (T:=39) (sz:=2) (R:=Zv))
 replace G:=G.ent (i:=6) (s':=.pv (.bool (decide (t.txs = [])))) O ((.bool (by rw [Y4];simp)))
 refine Zj (σ:=(Nat)×(Bool)×(Value)×(List OrdD)) [3,4,13,14] [0,101] (fun s=>[(15,.pv (.int .i64 (s.1:Int))),(6,.pv (.bool s.2.1)),(5,.pv (.is s.2.2.1))]) (fun s=>[(50,.ob (.val s.2.2.1) (ZC 39 2 Zv s.2.2.2))]) (fun s=>s.1≤l.length∧(s.2.2.2++putGR OrdD.key t (l.drop s.1) s.2.1=putGR OrdD.key t l (decide (t.txs = [])))) (fun s=>l.length - s.1) ((0),((decide (t.txs = []))),(.slice none 0 0),([])) G ⟨rfl,rfl,rfl,rfl,rfl,rfl,rfl,tv⟩ ⟨rfl,rfl,rfl,tv⟩ ⟨Yp _,rfl⟩ ?_
 clear G;intro s a w F hC G
 obtain ⟨i,d,v,out⟩:=s
 have hC:=X4
 obtain ⟨F,G⟩:=G.nM KJ Kp
 have G:=X2
 obtain ⟨hi,hq⟩:=hC
 have hol:=Yap List.length hq
 rw [Yd] at hol
 have htl:(putGR OrdD.key t l (decide (t.txs = []))).length≤l.length+1:=Zfk l _
 refine Ya (rZ G (qL r2) M [16,15,14,13,6,5,4,3] Kp fun G=>Ya ?_)
 refine Zb G O (fun hc0=>?_) (fun hc0=>?_)
 ·have hil:i<l.length:=XV
  refine Yc (Za (Ya (Yf (Ya (rS G (qy 2 Ybu r2 (qf (oR true 2 .t) r1 qz (qf (oH [.int .i64 0,.slice none 0 0] 102) trivial qz (qS 2 102 r2 r1 qZ)))) M QZ Ki fun τ G=>?_)))))
  have G:=X0
  generalize τ 8=v8 at G
  try simp only [Yg] at G
  refine Za (Ya (Ya (rZ G (qR rr (qf (o_not .t) r1 qz (qR rr (qv 0 102 O r2 r1 (qw 102 O r2 r1 (qv 0 101 O r2 r1 (qw 101 O r2 r1 (qk O (fun h=>ZbB (.w h) (.w h)) r3 qz (qf (o_and2 .t .t) r2 qz qZ))))))))) M [27,15,14,13,8,6,5,4,3] Ki fun G=>?_)))
  refine Zb G O (fun hc1=>?_) (fun hc1=>?_)
  ·have hA:d=false∧OrdD.key t≤OrdD.key (Nn l i):=Wj
   refine Ya (rS G (qR rr (qe 2 101 r1 r1 (qf (Zo (sz:=2) (zs:=[.int .i64 0,.slice none 0 0]) (r:=[(0,.tmp 29)]) (l:=[_,_]) Ybu kr kr kr kr O O (.agg O .t kr kr .nil) O) r1 qz (qf (o_append (sz:=2) (bs:=32) 50 (.mk' Ybu kr kr) XW .is (.arr (l':=[t]) .t) W7 XJ) ⟨rfl,rfl,tv⟩ ⟨rfl,tv⟩ (qO rr qZ))))) M QZ Ki fun τ G=>?_)
   have G:=X0
   generalize τ 31=v31 at G
   refine Za (rZ G qB M QZ Ki fun G=>Ya ?_)
   refine rZ G (qg 0 102 r1 r1 (qa 102 r1 r1 (qg 0 101 r1 r1 (qa 101 r1 r1 (qf (o_neq .t .t) r2 qz qZ))))) M Jr Ki fun G=>?_
   refine Zb G O (fun hc2=>?_) (fun hc2=>?_)
   ·have hBq:¬ OrdD.key (Nn l i)=OrdD.key t:=Wh
    refine rS G (qR rr (qe 2 102 r1 r1 (qf (Zo (sz:=2) (zs:=[.int .i64 0,.slice none 0 0]) (r:=[(0,.tmp 38)]) (l:=[_,_]) Ybu kr kr kr kr O O (.agg O .t kr kr .nil) O) r1 qz (qf (o_append (sz:=2) (bs:=32) 50 (.mk' Ybu kr kr) XW .is (.arr (l':=[(Nn l i)]) .t) W7 XJ) ⟨rfl,rfl,tv⟩ ⟨rfl,tv⟩ (qO rr qZ))))) M KJ Ki fun τ G=>?_
    have G:=X0
    generalize τ 40=v40 at G
    refine Zh (Za (rZ G (qp r1 (qR rr qZ)) M KJ Ki fun G=>?_))
    replace G:=G.eI 15 i
    obtain ⟨F,G⟩:=G.nM QB KL
    exact ⟨((i+1),_,_,_),F,⟨ow,WE⟩,G,ow⟩
   have hBq:OrdD.key (Nn l i)=OrdD.key t:=Wh
   refine Yc (Zh (Za (rZ G (qp r1 (qR rr qZ)) M KJ Ki fun G=>?_)))
   replace G:=G.eI 15 i
   obtain ⟨F,G⟩:=G.nM QB KL
   exact ⟨((i+1),_,_,_),F,⟨ow,WE⟩,G,ow⟩
  have hA:¬ (d=false∧OrdD.key t≤OrdD.key (Nn l i)):=WV
  refine Yc (Za (Ya (rZ G (qg 0 102 r1 r1 (qa 102 r1 r1 (qg 0 101 r1 r1 (qa 101 r1 r1 (qf (o_neq .t .t) r2 qz qZ))))) M Jr Ki fun G=>?_)))
  refine Zb G O (fun hc3=>?_) (fun hc3=>?_)
  ·have hBq:¬ OrdD.key (Nn l i)=OrdD.key t:=Wi
   refine rS G (qR rr (qe 2 102 r1 r1 (qf (Zo (sz:=2) (zs:=[.int .i64 0,.slice none 0 0]) (r:=[(0,.tmp 38)]) (l:=[_,_]) Ybu kr kr kr kr O O (.agg O .t kr kr .nil) O) r1 qz (qf (o_append (sz:=2) (bs:=32) 50 (.mk' Ybu kr kr) XW .is (.arr (l':=[(Nn l i)]) .t) W7 XJ) ⟨rfl,rfl,tv⟩ ⟨rfl,tv⟩ (qO rr qZ))))) M KJ Ki fun τ G=>?_
   have G:=X0
   generalize τ 40=v40 at G
   refine Zh (Za (rZ G (qp r1 (qR rr qZ)) M KJ Ki fun G=>?_))
   replace G:=G.eI 15 i
   obtain ⟨F,G⟩:=G.nM QB KL
   exact ⟨((i+1),_,_,_),F,⟨ow,WE⟩,G,ow⟩
  have hBq:OrdD.key (Nn l i)=OrdD.key t:=Wi
  refine Yc (Zh (Za (rZ G (qp r1 (qR rr qZ)) M KJ Ki fun G=>?_)))
  replace G:=G.eI 15 i
  obtain ⟨F,G⟩:=G.nM QB KL
  exact ⟨((i+1),_,_,_),F,⟨ow,WE⟩,G,ow⟩
 have hil:i=l.length:=XV
 refine Yt (Zg (Zg (Zp (Za (Ya (Ya (rZ G (qR rr (qf (o_not .t) r1 qz qZ)) M [43,5,4,3] Kp fun G=>?_)))))))
 refine Zb G O (fun hc4=>?_) (fun hc4=>?_)
 ·have hfin:out ++ [t] = putGR OrdD.key t l (decide (t.txs = [])):=WK
  refine rS G (qR rr (qe 2 101 r1 r1 (qf (Zo (sz:=2) (zs:=[.int .i64 0,.slice none 0 0]) (r:=[(0,.tmp 45)]) (l:=[_,_]) Ybu kr kr kr kr O O (.agg O .t kr kr .nil) O) r1 qz (qf (o_append (sz:=2) (bs:=32) 50 (.mk' Ybu kr kr) XW .is (.arr (l':=[t]) .t) W7 XJ) ⟨rfl,rfl,tv⟩ ⟨rfl,tv⟩ (qO rr qZ))))) M KZ Kp fun τ G=>?_
  have G:=X0
  generalize τ 47=v47 at G
  refine Za (Ya (rZ G (qR rr (qO rr qZ)) M [4] Kp fun G=>Yh ?_))
  obtain ⟨F,G⟩:=G.give 50 4 O rfl
  refine Zr hfr G O O O (.sl hfin)
 have hfin:out=putGR OrdD.key t l (decide (t.txs = [])):=WO
 refine Yc (Za (Ya (rZ G (qR rr (qO rr qZ)) M [4] Kp fun G=>Yh ?_)))
 obtain ⟨F,G⟩:=G.give 50 4 O rfl
 refine Zr hfr G O O O (.sl hfin)
theorem Zk7 {os:List OrdD} {k:Int} {i:Nat} (hi:i<os.length) (h:(Nn os i).key=k) (hq:∀ q,q<i→(Nn os q).key≠k):getO os k=(Nn os i).txs:=by
 unfold getO
 rw [List.find?_eq_some_iff_getElem.2 ⟨by simpa using h,i,hi,(Zw hi).symm,fun j hj=>by have:=hq j hj;rw [Zw ow] at this;simpa using this⟩];rfl
theorem ZkV {os:List OrdD} {k:Int} (hq:∀ q,q<os.length→(Nn os q).key≠k):getO os k = []:=Zca fun o ho=>by
 obtain ⟨j,hj,e⟩:=YK ho
 have:=hq j hj
 rwa [Zw hj,e] at this
theorem Zgn {os:List OrdD} (h:ZaF os) (k:Int):(getO os k).length≤1000:=by
 by_cases e:getO os k = []
 ·rw [e];simp
 ·exact h.2 _ (ZeC e)
theorem Zi8 {t:TxD} {os:List OrdD} : ∀ (ks:List Int) (out:List OrdD),(ks.foldl (ZY t os) out).length≤out.length+ks.length
 | [],out=>by simp
 | k :: ks,out=>by
  have h1:=Zi8 (t:=t) (os:=os) ks (ZY t os out k)
  have h2:(ZY t os out k).length≤out.length+1:=Zfk _ _
  rw [Yas,Yl];omega
theorem ZdY (g:Zs) (key:Int):FnP prog 20 [.agg (Zm g),.int .i64 key] (.sl Zk (getO g.orders key)):=by
 refine FnP.mk func20 O ntmps20 O fun B a w F M hfr G=>?_
 obtain ⟨hxl,hyl⟩:=Sat.lenHist G (i:=0) rfl
 refine Ya (rS G (qx 101 r1 (qC qZ)) M QS Kf fun τ G=>?_)
 have G:=X1
 generalize τ 2=v2 at G
 refine Za (Ya (Ya (rZ G (qg 1 101 r1 r1 (qa 101 r1 r1 (qu Ybu r1 (qJ qZ)))) M Jl Kf fun G=>Yf ?_)))
 refine Zj (σ:=(Nat)) [1,4,8,9] [0,101] (fun s=>[(10,.pv (.int .i64 (s:Int)))]) (fun s=>[]) (fun s=>s≤g.orders.length∧(∀ q,q<s→(Nn g.orders q).key≠key)) (fun s=>g.orders.length - s) (0) G ⟨rfl,rfl,rfl,rfl,rfl,tv⟩ ⟨rfl,rfl,tv⟩ ⟨Yp _,fun q hq=>absurd hq (YO q)⟩ ?_
 clear G;intro i a w F hC G
 have hC:=X4
 obtain ⟨F,G⟩:=G.nM Jl Kf
 have G:=X2
 obtain ⟨hi,hq⟩:=hC
 refine Ya (rZ G (qL r2) M [11,10,9,8,4,1] Kf fun G=>Ya ?_)
 refine Zb G O (fun hc0=>?_) (fun hc0=>?_)
 ·have hil:i<g.orders.length:=XV
  refine Yc (Za (Ya (Yf (Ya (rS G (qy 2 Ybu r2 (qf (oR true 2 .t) r1 qz (qf (oH [.int .i64 0,.slice none 0 0] 102) trivial qz (qS 2 102 r2 r1 qZ)))) M [10,9,8,6,4,1] Ke fun τ G=>?_)))))
  have G:=X0
  generalize τ 6=v6 at G
  try simp only [Yg] at G
  refine Za (Ya (rZ G (qg 0 102 r1 r1 (qa 102 r1 r1 (qR rr (qf (o_eql .t .t) r2 qz qZ)))) M [17,10,9,8,6,4,1] Ke fun G=>?_))
  refine Zb G O (fun hc1=>?_) (fun hc1=>?_)
  ·have hg:(Nn g.orders i).txs=getO g.orders key:=(Zk7 hil Wj hq).symm
   refine Ya (rZ G (qg 1 102 r1 r1 (qa 102 r1 r1 (qO rr qZ))) M Jl Ke fun G=>(Yh (Zq (Ze (Ze (Zq (Ze ?_)))))))
   refine Zr hfr G O O O WF
  have hne:(Nn g.orders i).key≠key:=Wj
  refine Yc (Zh (Za (rZ G (qp r1 (qR rr qZ)) M Jl Ke fun G=>?_)))
  replace G:=G.eI 10 i
  obtain ⟨F,G⟩:=G.nM [9,8,4,1,10] Kf
  exact ⟨(i+1),F,⟨ow,(fun q h9=>by rcases YF (YL h9) with h8 | h8;exact hq q h8;rw [h8];exact hne)⟩,G,ow⟩
 have hil:i=g.orders.length:=XV
 have hg:[] = getO g.orders key:=(ZkV Wm).symm
 refine Yt (Zg (Zg (Zp (Za (Ya (rZ G (qC qZ) M [4] Kf fun G=>Yh ?_))))))
 refine Zr hfr G O O O WF
theorem ZcW (os:List OrdD) (t:TxD) (hs:ZaF os) (ht:t.ops.length≤1000):FnP prog 134 [.sl Zv os,.agg (rTx t)] (.sl Zv (ZbM t os)):=by
 refine FnP.mk func134 O ntmps134 O fun B a w F M hfr G=>?_
 have hso:=hs.1
 have hkt:=Zbj t
 refine Ya (rS G (qx 101 r1 (qC qZ)) M Q7 Kf fun τ G=>?_)
 have G:=X1
 generalize τ 3=v3 at G
 refine Za (Ya (rZ G (qC qZ) M JD Kf fun G=>(Ya (Ya ?_))))
 refine rZ G (qR rr (qu Ybu r1 (qJ qZ))) M QC Kf fun G=>Yf ?_
 replace G:=G.ent (i:=5) (s':=.pv (.sl Zk (((os.map OrdD.key).take 0).foldl ZbZ []))) O (.nilSl)
 refine Zj (σ:=(Nat)) [0,3,4,14,15] [0,101] (fun s=>[(16,.pv (.int .i64 (s:Int))),(5,.pv (.sl Zk (((os.map OrdD.key).take s).foldl ZbZ [])))]) (fun s=>[]) (fun s=>s≤os.length∧(True)) (fun s=>os.length - s) (0) G ⟨rfl,rfl,rfl,rfl,rfl,rfl,rfl,tv⟩ ⟨rfl,rfl,tv⟩ ⟨Yp _,tv⟩ ?_
 clear G;intro i a w F hC G
 have hC:=X4
 obtain ⟨F,G⟩:=G.nM QC Kf
 have G:=X2
 obtain ⟨hi,hq⟩:=hC
 have hkl:=Zdh [] ((os.map OrdD.key).take i)
 rw [Yj] at hkl
 simp only [Yy,Y2] at hkl
 refine Ya (rZ G (qL r2) M [17,16,15,14,5,4,3,0] Kf fun G=>Ya ?_)
 refine Zb G O (fun hc0=>?_) (fun hc0=>?_)
 ·have hil:i<os.length:=XV
  refine Yc (Za (Ya (Yf (Ya (rS G (qy 2 Ybu r2 (qf (oR true 2 .t) r1 qz (qf (oH [.int .i64 0,.slice none 0 0] 102) trivial qz (qS 2 102 r2 r1 qZ)))) M [16,15,14,7,5,4,3,0] Ke fun τ G=>?_)))))
  have G:=X0
  generalize τ 7=v7 at G
  try simp only [Yg] at G
  refine Za (Zi G (qR rr (qg 0 102 r1 r1 (qa 102 r1 r1 (qf (oP (Zgx _ (Nn os i).key ow) func200 (Args.two .t .t)) r2 qz (qO rr qZ))))) M QC Ke O O fun a w F G=>Zh (Za ?_))
  refine rZ G (qp r1 (qR rr qZ)) M QC Ke fun G=>?_
  replace G:=G.eI 16 i
  replace G:=G.ent (i:=5) (s':=.pv (.sl Zk (((os.map OrdD.key).take (i+1)).foldl ZbZ []))) O ((.sl (by rw [Zu (by simpa using hil),YaB,Zce hil];rfl)))
  obtain ⟨F,G⟩:=G.nM [15,14,4,3,0,5,16] Kf
  exact ⟨(i+1),F,⟨ow,tv⟩,G,ow⟩
 have hil:i=os.length:=XV
 have hk0:(((os.map OrdD.key).take i).foldl ZbZ [])=Zan (os.map OrdD.key):=by rw [hil,Y1 XA];rfl
 have hk00:=ZbL (os.map OrdD.key)
 rw [Y9] at hk00
 refine Yt (Zg (Zg (Zp (Za (Ya (Ya (Zi G (qe 3 101 r1 r1 (qf (oP (ZkR t false ow) func201 (Args.two (.pagg .t) .cb)) r1 qz (qu Ybs r1 (qJ qZ)))) M QD Kf O O fun a w F G=>?_)))))))
 rw [show Zan ((t.ops.filter fun o=>false || !o.read).map OpD.key)=Zl t from rfl] at G
 refine Za (Yf ?_)
 replace G:=G.ent (i:=5) (s':=.pv (.sl Zk (((Zl t).take 0).foldl ZbZ (Zan (os.map OrdD.key))))) O ((.sl hk0))
 refine Zj (σ:=(Nat)) [0,3,4,26,27] [0,101] (fun s=>[(28,.pv (.int .i64 (s:Int))),(5,.pv (.sl Zk (((Zl t).take s).foldl ZbZ (Zan (os.map OrdD.key)))))]) (fun s=>[]) (fun s=>s≤(Zl t).length∧(True)) (fun s=>(Zl t).length - s) (0) G ⟨rfl,rfl,rfl,rfl,rfl,rfl,rfl,tv⟩ ⟨rfl,rfl,tv⟩ ⟨Yp _,tv⟩ ?_
 clear G;intro i a w F hC G
 have hC:=X4
 obtain ⟨F,G⟩:=G.nM QD Kf
 have G:=X2
 obtain ⟨hi,hq⟩:=hC
 have hkl:=Zdh (Zan (os.map OrdD.key)) ((Zl t).take i)
 rw [Yj] at hkl
 refine Ya (rZ G (qL r2) M [29,28,27,26,5,4,3,0] Kf fun G=>Ya ?_)
 refine Zb G O (fun hc1=>?_) (fun hc1=>?_)
 ·have hil:i<(Zl t).length:=XU
  refine Yc (Za (Ya (Yf (Ya (Zi G (qy 1 Ybs r2 (qf (oR false 1 .t) r1 qz (qO rr qZ))) M [28,27,26,9,5,4,3,0] Kf O O fun a w F G=>?_)))))
  try simp only [Yg] at G
  refine Za (Zi G (qR rr (qR rr (qf (oP (Zgx _ (Nn (Zl t) i) ow) func200 (Args.two .t .t)) r2 qz (qO rr qZ)))) M QD Kf O O fun a w F G=>Zh (Za ?_))
  refine rZ G (qp r1 (qR rr qZ)) M QD Kf fun G=>?_
  replace G:=G.eI 28 i
  replace G:=G.ent (i:=5) (s':=.pv (.sl Zk (((Zl t).take (i+1)).foldl ZbZ (Zan (os.map OrdD.key))))) O ((.sl (by rw [Zu hil,YaB];rfl)))
  obtain ⟨F,G⟩:=G.nM [27,26,4,3,0,5,28] Kf
  exact ⟨(i+1),F,⟨ow,tv⟩,G,ow⟩
 have hil:i=(Zl t).length:=XU
 rw [hil,Yz] at G
 rw [show (Zl t).foldl ZbZ (Zan (os.map OrdD.key))=ZG t os from rfl] at G
 have hdk:(ZG t os).length≤5000:=by have:=Zdh (Zan (os.map OrdD.key)) (Zl t);unfold ZG;omega
 refine Yt (Zg (Zg (Zp (Za (Ya (rZ G (qR rr (qO rr qZ)) M [10,5,4,3,0] Kf fun G=>(Ya (Ya ?_))))))))
 refine rZ G (qR rr (qu Ybs r1 (qJ qZ))) M KW Kf fun G=>Yf ?_
 replace G:=G.ent (i:=10) (s':=.pv (.sl Zv (((ZG t os).take 0).foldl (ZY t os) os))) O (.refl)
 refine Zj (σ:=(Nat)) [0,3,4,37,38] [0,101] (fun s=>[(39,.pv (.int .i64 (s:Int))),(10,.pv (.sl Zv (((ZG t os).take s).foldl (ZY t os) os)))]) (fun s=>[]) (fun s=>s≤(ZG t os).length∧(True)) (fun s=>(ZG t os).length - s) (0) G ⟨rfl,rfl,rfl,rfl,rfl,rfl,rfl,tv⟩ ⟨rfl,rfl,tv⟩ ⟨Yp _,tv⟩ ?_
 clear G;intro i a w F hC G
 have hC:=X4
 obtain ⟨F,G⟩:=G.nM KW Kf
 have G:=X2
 obtain ⟨hi,hq⟩:=hC
 have hdl:=Zi8 (t:=t) (os:=os) ((ZG t os).take i) os
 rw [Yj] at hdl
 refine Ya (rZ G (qL r2) M [40,39,38,37,10,4,3,0] Kf fun G=>Ya ?_)
 refine Zb G O (fun hc2=>?_) (fun hc2=>?_)
 ·have hil:i<(ZG t os).length:=WI
  have hio:=hil
  have hgl:=Zgn hs (Nn (ZG t os) i)
  refine Yc (Za (Ya (Yf (Ya (Zi G (qy 1 Ybs r2 (qf (oR false 1 .t) r1 qz (qO rr qZ))) M [39,38,37,12,10,4,3,0] Kf O O fun a w F G=>?_)))))
  try simp only [Yg] at G
  refine Za (Ya (rZ G (qR rr (qf (oB [(1,.tmp 43)] [.slice none 0 0,.slice none 0 0] [(0,1),(1,1)] (.one O .t Z7 kr .nil)) r1 qz (qR rr (qf (oP (ZdY ⟨[],os⟩ (Nn (ZG t os) i)) func20 (Args.two (.conv (.pagg .t) (Ent.paggLe (l:=[.is (.slice none 0 0),.sl Zv os]) (l':=Zm ⟨[],os⟩) ⟨ZW.nilSl,ZW.refl,tv⟩)) .t)) r2 qz (qO rr qZ))))) M [39,38,37,13,12,10,4,3,0] Kf fun G=>Ya ?_))
  refine rZ G (qg 1 101 r1 r1 (qa 101 r1 r1 (qR rr (qv 2 101 O r2 r1 (qw 101 O r2 r1 (qm O O O O (qk O (fun h=>oP (Zb7 t.ops (Nn (ZG t os) i) ow) func197 (Args.two (.w h) (.w h))) r3 qz (qk O (fun h=>Za7 (.w h) qi) r2 qz (qf (o_and2 .t .t) r2 qz qZ))))))))) M [55,39,38,37,13,12,10,4,3,0] Kf fun G=>?_
  refine Zb G O (fun hc3=>?_) (fun hc3=>?_)
  ·have hst9:putGR OrdD.key (⟨(Nn (ZG t os) i),withO (getO os (Nn (ZG t os) i)) t.id⟩:OrdD) (((ZG t os).take i).foldl (ZY t os) os) (decide (((⟨(Nn (ZG t os) i),withO (getO os (Nn (ZG t os) i)) t.id⟩:OrdD)).txs = []))=(((ZG t os).take (i+1)).foldl (ZY t os) os):=by rw [Zu hio,YaB];show _=ZY t os _ _;unfold ZY ZcE;rw [Ye (by have h9:=hc3;unfold wcnt;simpa using h9)]
   refine Zi G (qR rr (qR rr (qR rr (qg 0 101 r1 r1 (qa 101 r1 r1 (qf (oP (Zmp (getO os (Nn (ZG t os) i)) t.id ow) func202 (Args.two .t .t)) r2 qz (qf (oB [(0,.tmp 57),(1,.tmp 61)] [.int .i64 0,.slice none 0 0] [(0,1),(1,1)] (.one O .t one_int kr (.one O .t Z7 kr .nil))) r2 qz (qf (oP (Zcu (((ZG t os).take i).foldl (ZY t os) os) (⟨(Nn (ZG t os) i),withO (getO os (Nn (ZG t os) i)) t.id⟩:OrdD) ow) func137 (Args.two .t (.pagg .t))) r2 qz (qO rr qZ))))))))) M KW Kf O O fun a w F G=>Zh (Za ?_)
   refine rZ G (qp r1 (qR rr qZ)) M KW Kf fun G=>?_
   replace G:=G.eI 39 i
   replace G:=G.ent (i:=10) (s':=.pv (.sl Zv (((ZG t os).take (i+1)).foldl (ZY t os) os))) O ((.sl hst9))
   obtain ⟨F,G⟩:=G.nM [38,37,4,3,0,10,39] Kf
   exact ⟨(i+1),F,⟨ow,tv⟩,G,ow⟩
  have hst9:putGR OrdD.key (⟨(Nn (ZG t os) i),withoutO (getO os (Nn (ZG t os) i)) t.id⟩:OrdD) (((ZG t os).take i).foldl (ZY t os) os) (decide (((⟨(Nn (ZG t os) i),withoutO (getO os (Nn (ZG t os) i)) t.id⟩:OrdD)).txs = []))=(((ZG t os).take (i+1)).foldl (ZY t os) os):=by rw [Zu hio,YaB];show _=ZY t os _ _;unfold ZY ZcE;rw [Yb (by have h9:=hc3;unfold wcnt;intro e;simp [e.1,e.2] at h9)]
  refine Zi G (qR rr (qR rr (qR rr (qg 0 101 r1 r1 (qa 101 r1 r1 (qf (oP (Zim (getO os (Nn (ZG t os) i)) t.id ow) func203 (Args.two .t .t)) r2 qz (qf (oB [(0,.tmp 65),(1,.tmp 69)] [.int .i64 0,.slice none 0 0] [(0,1),(1,1)] (.one O .t one_int kr (.one O .t Z7 kr .nil))) r2 qz (qf (oP (Zcu (((ZG t os).take i).foldl (ZY t os) os) (⟨(Nn (ZG t os) i),withoutO (getO os (Nn (ZG t os) i)) t.id⟩:OrdD) ow) func137 (Args.two .t (.pagg .t))) r2 qz (qO rr qZ))))))))) M KW Kf O O fun a w F G=>Zh (Za ?_)
  refine rZ G (qp r1 (qR rr qZ)) M KW Kf fun G=>?_
  replace G:=G.eI 39 i
  replace G:=G.ent (i:=10) (s':=.pv (.sl Zv (((ZG t os).take (i+1)).foldl (ZY t os) os))) O ((.sl hst9))
  obtain ⟨F,G⟩:=G.nM [38,37,4,3,0,10,39] Kf
  exact ⟨(i+1),F,⟨ow,tv⟩,G,ow⟩
 have hil:i=(ZG t os).length:=WI
 refine Yt (Zg (Zg (Zp (Za (Ya (rZ G (qR rr (qO rr qZ)) M [4] Kf fun G=>Yh ?_))))))
 refine Zr hfr G O O O (.sl (by rw [hil,Yz];rfl))
theorem Zg7 (g:Zs) (t:TxD) (hs:Zae g.txs) (ht:t.ops.length≤1000):FnP prog 135 [.agg (Zm g),.agg (rTx t)] (.bool (ZcD g t)):=by
 refine FnP.mk func135 O ntmps135 O fun B a w F M hfr G=>?_
 have hsl:=hs.1
 have hnl:∀ x:TxD,x.ops.length≤1000→(Zd x).length≤1000:=fun x hx=>by have:=Za9 x.id x.ops x.ops.length;rw [Yz] at this;unfold Zd;omega
 refine Ya (rS G (qx 101 r1 (qx 102 r1 qB)) M Qu Ke fun τ G=>?_)
 have G:=X1
 generalize τ 2=v2,τ 3=v3 at G
 refine Za (Ya (Ya (rZ G (qg 0 101 r1 r1 (qa 101 r1 r1 (qu Ybt r1 (qJ qZ)))) M Q8 Ke fun G=>Yf ?_)))
 refine Zj (σ:=(Nat)) [3,4,10,11] [0,101,102] (fun s=>[(12,.pv (.int .i64 (s:Int)))]) (fun s=>[]) (fun s=>s≤g.txs.length∧(∀ q,q<s→Zdm t (Nn g.txs q)=false)) (fun s=>g.txs.length - s) (0) G ⟨rfl,rfl,rfl,rfl,rfl,tv⟩ ⟨rfl,rfl,rfl,tv⟩ ⟨Yp _,fun q hq=>absurd hq (YO q)⟩ ?_
 clear G;intro i a w F hC G
 have hC:=X4
 obtain ⟨F,G⟩:=G.nM Q8 Ke
 have G:=X2
 obtain ⟨hi,hq⟩:=hC
 refine Ya (rZ G (qL r2) M [13,12,11,10,4,3] Ke fun G=>Ya ?_)
 refine Zb G O (fun hc0=>?_) (fun hc0=>?_)
 ·have hil:i<g.txs.length:=XV
  have hio:=hil
  have hqo:=hq
  have hnl2:=hnl (Nn g.txs i) Wz
  refine Yc (Za (Ya (Yf (Ya (rS G (qy 3 Ybt r2 (qf (oR true 3 .t) r1 qz (qf (oH [.int .i64 0,.bool false,.slice none 0 0] 103) trivial qz (qS 3 103 r2 r1 qZ)))) M [12,11,10,6,4,3] Kg fun τ G=>?_)))))
  have G:=X0
  generalize τ 6=v6 at G
  try simp only [Yg] at G
  refine Za (Ya (Ya (rZ G (qg 0 103 r1 r1 (qa 103 r1 r1 (qg 0 102 r1 r1 (qa 102 r1 r1 (qf (o_eql .t .t) r2 qz qZ))))) M [20,12,11,10,6,4,3] Kg fun G=>?_)))
  refine Zb G O (fun hc1=>?_) (fun hc1=>?_)
  ·have hno:Zdm t (Nn g.txs i)=false:=by unfold Zdm;rw [Yw Wj,Bool.false_and]
   refine Yt (Zg (Zp (Za (rZ G (qp r1 (qR rr qZ)) M Q8 Kg fun G=>?_))))
   replace G:=G.eI 12 i
   obtain ⟨F,G⟩:=G.nM JA Ke
   exact ⟨(i+1),F,⟨ow,(fun q h9=>by rcases YF (YL h9) with h8 | h8;exact hqo q h8;rw [h8];exact hno)⟩,G,ow⟩
  have hne:(Nn g.txs i).id≠t.id:=Wj
  refine Yc (Za (Ya (rZ G (qe 3 103 r1 r1 (qf (oP (ZfC (Nn g.txs i) Wz) func198 (Args.one (.pagg .t))) r1 qz (qu Ybw r1 (qJ qZ)))) M Qd Kg fun G=>Yf ?_)))
  refine Zj (σ:=(Nat)) [3,4,10,11,12,22,23] [0,101,102,103] (fun s=>[(24,.pv (.int .i64 (s:Int)))]) (fun s=>[]) (fun s=>s≤(Zd (Nn g.txs i)).length∧(∀ q,q<s→Zeg t (Nn (Zd (Nn g.txs i)) q)=false)) (fun s=>(Zd (Nn g.txs i)).length - s) (0) G ⟨rfl,rfl,rfl,rfl,rfl,rfl,rfl,rfl,tv⟩ ⟨rfl,rfl,rfl,rfl,tv⟩ ⟨Yp _,fun q hq=>absurd hq (YO q)⟩ ?_
  clear G;intro j a w F hC G
  have hC:=X4
  obtain ⟨F,G⟩:=G.nM Qd Kg
  have G:=X2
  obtain ⟨hi,hq⟩:=hC
  have hq2:=hq
  refine Ya (rZ G (qL r2) M [25,24,23,22,12,11,10,4,3] Kg fun G=>Ya ?_)
  refine Zb G O (fun hc2=>?_) (fun hc2=>?_)
  ·have hil:j<(Zd (Nn g.txs i)).length:=WI
   have hjo:=hil
   refine Yc (Za (Ya (Yf (Ya (rS G (qy 3 Ybw r2 (qf (oR true 3 .t) r1 qz (qf (oH [.int .i64 0,.int .i64 0,.int .i64 0] 104) trivial qz (qS 3 104 r2 r1 qZ)))) M [24,23,22,12,11,10,8,4,3] Kl fun τ G=>?_)))))
   have G:=X0
   generalize τ 8=v8 at G
   try simp only [Yg] at G
   refine Za (Ya (ZA G (qg 0 104 r1 r1 (qa 104 r1 r1 (qg 0 102 r1 r1 (qa 102 r1 r1 (qf (o_eql .t .t) r2 qz (qR rr (qv 2 104 O r2 r1 (qw 104 O r2 r1 (qv 2 102 O r2 r1 (qw 102 O r2 r1 (qv 1 104 O r2 r1 (qw 104 O r2 r1 (qk O (fun h=>oP (Zb7 t.ops (Nn (Zd (Nn g.txs i)) j).key ow) func197 (Args.two (.w h) (.w h))) r3 qz (qk O (fun h=>Za7 (.w h) (.w h)) r3 qz (qf (o_and2 .t .t) r2 qz qZ))))))))))))))) M [42,24,23,22,12,11,10,4,3] Kl O O fun a w F G=>?_))
   have G:=X8
   refine Za (Zb G O (fun hc3=>?_) (fun hc3=>?_))
   ·have hg:true=ZcD g t:=(Zem hio (by
      have h9:=hc3
      simp at h9
      unfold Zdm
      rw [YS hne,Ybn]
      refine Zem hjo ?_
      unfold Zeg wcnt
      simp [h9.1]
      first | exact h9.2 | (have:=h9.2;omega))).symm
    refine Ya (rZ G qB M Qd Kl fun G=>(Yh (Zq (Ze (Ze (Zq (Zq (Ze (Ze (Zq (Ze ?_)))))))))))
    refine Zr hfr G O O O (.bool hg)
   have hnv:Zeg t (Nn (Zd (Nn g.txs i)) j)=false:=by
     have h9:=hc3
     unfold Zeg wcnt
     simp at h9 ⊢
     first | exact h9 | (intro e;have:=h9 e;omega)
   refine Yc (Zh (Za (rZ G (qp r1 (qR rr qZ)) M Qd Kl fun G=>?_)))
   replace G:=G.eI 24 j
   obtain ⟨F,G⟩:=G.nM [23,22,12,11,10,4,3,24] Kg
   exact ⟨(j+1),F,⟨ow,(fun q h9=>by rcases YF (YL h9) with h8 | h8;exact hq2 q h8;rw [h8];exact hnv)⟩,G,ow⟩
  have hil:j=(Zd (Nn g.txs i)).length:=WI
  have hno:Zdm t (Nn g.txs i)=false:=by unfold Zdm;rw [Zep (by rw [← hil];exact hq2),Bool.and_false]
  refine Yt (Zg (Zg (Zp (Zh (Za (rZ G (qp r1 (qR rr qZ)) M Q8 Kg fun G=>?_))))))
  replace G:=G.eI 12 i
  obtain ⟨F,G⟩:=G.nM JA Ke
  exact ⟨(i+1),F,⟨ow,(fun q h9=>by rcases YF (YL h9) with h8 | h8;exact hqo q h8;rw [h8];exact hno)⟩,G,ow⟩
 have hil:i=g.txs.length:=XV
 have hg:false=ZcD g t:=(Zep Wm).symm
 refine Yt (Zg (Zg (Zp (Za (Ya (rZ G qB M [4] Ke fun G=>Yh ?_))))))
 refine Zr hfr G O O O (.bool hg)
theorem Zdu {α:Type} {p p':α→Bool} (h:∀ x,p' x=true→p x=true):∀ l:List α,(l.filter p').length≤(l.filter p).length
 | []=>YP _
 | x :: l=>by
  have ih:=Zdu h l
  have hx:=h x
  rw [Yau,Yau]
  cases h1:p' x with
  | true=>rw [hx h1,Ye rfl,Ye rfl,Yl,Yl];omega
  | false=>
   rw [Yb XA]
   split
   ·rw [Yl];omega
   ·exact ih
theorem Zdj {α:Type} {p p':α→Bool} (h:∀ x,p' x=true→p x=true) {e:α} (h1:p e=true) (h2:p' e=false):∀ {l:List α},e ∈ l→(l.filter p').length<(l.filter p).length
 | [],he=>by cases he
 | x :: l,he=>by
  have hle:=Zdu h l
  rw [Yau,Yau]
  rcases Yo.1 he with rfl | he
  ·rw [h1,h2,Yb XA,Ye rfl,Yl];omega
  ·have ih:=Zdj h h1 h2 he
   have hx:=h x
   cases h3:p' x with
   | true=>rw [hx h3,Ye rfl,Ye rfl,Yl,Yl];omega
   | false=>
    rw [Yb XA]
    split
    ·rw [Yl];omega
    ·exact ih
section
variable {P:Program} {ty:TypeId} {pos:String} {af:Array Edge} {g:Option (Nat×Bool)} {ps:List (Nat×SF)}
theorem OpC.res2 {o:Oper} {q:SF} {n m:Nat} {r r' r2 r2' s s' s2 s2':RS} (h:OpC P o ⟨ps,[(n,r),(m,s)],q,[(n,r2),(m,s2)]⟩) (hr:∀ τ w fb y,r'.holds τ w fb y→r.holds τ w fb y) (hq:∀ τ w fb y,r2.holds τ w fb y→r2'.holds τ w fb y) (hr2:∀ τ w fb y,s'.holds τ w fb y→s.holds τ w fb y) (hq2:∀ τ w fb y,s2.holds τ w fb y→s2'.holds τ w fb y):OpC P o ⟨ps,[(n,r'),(m,s')],q,[(n,r2'),(m,s2')]⟩:=fun a w F K Q hw hs hp ht=>
 h a w F K Q hw hs (fun x hx=>by
  simp only [Yo,YaH,Ybd] at hx
  rcases hx with rfl | rfl
  ·exact hr _ _ _ _ (hp (n,r') XA)
  ·exact hr2 _ _ _ _ (hp (m,s') XA)) (fun v w' F' h1 h2 h3 h4=>ht v w' F' h1 h2 h3 (fun x hx=>by
  simp only [Yo,YaH,Ybd] at hx
  rcases hx with rfl | rfl
  ·exact hq _ _ _ _ (h4 (n,r2) XA)
  ·exact hq2 _ _ _ _ (h4 (m,s2) XA)))
theorem Zm8 {f:FuncId} {args:Array Operand} {tys:Array TypeId} {d':Nat} {avs:List PV} {T:TypeId} {cells cells':List CF} {v u:Value} {k k':Value→HP} {q:PV} {fn:Func} (n m:Nat) (hd:ZcH (cdeps cells)=true) (hd':ZcH (cdeps cells')=true)
    (hc : FnG P f 2 avs [Zor T cells v, k u] q (fun _ => [Zor T cells' v, k' u])) (hf : P.funcs[f]? = some fn) (hb : fn.body.isSome = true) (hn : (fn.name == "runtime.NumGoroutine") = false) (hne : Nat.beq n m = false)
    (ha:∀ (a:Act) w y,Hps ps (Act.tau a) w y → ∃ vs:List Value,args.map a.eval=vs.toArray∧PVt avs vs w y) :
    OpC P ⟨some d',.call { callee:=.value (.func f),args:=args,argTypes:=tys },ty,pos,af,g⟩ ⟨ps,[(n,.pt (.val v) T cells),(m,.ob (.val u) k)],.pv q,[(n,.pt (.val v) T cells'),(m,.ob (.val u) k')]⟩:=
  OpC.res2 (Zlb n m hc hf hb hn hne ha) (fun τ w fb y h=>Znf hd τ w fb y h) (fun τ w fb y h=>Znk hd' τ w fb y h) (fun _ _ _ _ h=>h) (fun _ _ _ _ h=>h)
def Zfc (r:RS):Prop:=∀ (τ τ':Tau) (w w':World) (f f' y y':Ys),r.holds τ w f y→r.holds τ' w' f' y' → (∀ c,f c ↔ f' c) ∧ ∀ c,f c→w'.heap[c]? = w.heap[c]?
theorem OpC.still {o:Oper} {q:SF} {pr:List (Nat×RS)} (h:OpC P o ⟨ps,pr,q,pr⟩) (hx:∀ x ∈ pr,Zfc x.2):OpC P o ⟨ps,pr,q,[]⟩:=fun a w F K Q hw hs hp ht=>
 h a w F K Q hw hs hp fun v w' F' h1 h2 h3 h4=>by
  have hF:F' = F:=by
   funext n c
   by_cases hn:n ∈ pr.map (·.1)
   ·obtain ⟨x,hm,rfl⟩:=YI.1 hn
    exact propext ((hx x hm _ _ _ _ _ _ _ _ (hp x hm) (h4 x hm)).1 c).symm
   ·exact congrFun (h2.fkeep n hn) c
  subst hF
  refine ht v w' F' h1 ⟨h2.os,h2.tape,h2.output,h2.size,fun b hb _=>?_,fun _ _=>rfl,fun n hn=>by cases hn⟩ h3 (fun x hx=>by cases hx)
  by_cases hm:∃ x ∈ pr,F' x.1 b
  ·obtain ⟨x,hm,hb2⟩:=hm
   exact (hx x hm _ _ _ _ _ _ _ _ (hp x hm) (h4 x hm)).2 b hb2
  ·refine h2.keep b hb fun n hn hb2=>?_
   obtain ⟨x,hx2,rfl⟩:=YI.1 hn
   exact hm ⟨x,hx2,hb2⟩
def Zg1 (p:PV):Prop:=∃ u,∀ w y v,p.p v w y→v=u
theorem Zha:∀ {l:List PV},(∀ p ∈ l,Zg1 p) → ∃ us:List Value,∀ w y vs,PVs l vs w y→vs=us
 | [],_=>⟨[],fun w y vs h=>by cases vs with | nil=>rfl | cons v vs=>exact h.elim⟩
 | p :: l,h=>by
  obtain ⟨u,hu⟩:=h p Ya8
  obtain ⟨us,hus⟩:=Zha fun q hq=>h q (YQ _ hq)
  refine ⟨u :: us,fun w y vs k=>?_⟩
  cases vs with
  | nil=>exact k.elim
  | cons v vs=>rw [hu w y v k.1.2,hus w y vs k.2]
theorem exact_is (v:Value):Zg1 (.is v):=⟨v,fun _ _ _ h=>h.1⟩
theorem exact_int (k:IntKind) (x:Int):Zg1 (.int k x):=⟨.int k x,fun _ _ _ h=>h.1⟩
theorem Zmb {v:Value} {T:TypeId} {l:List PV} (h:∀ p ∈ l,Zg1 p):Zfc (.pt (.val v) T (l.map CF.pv)):=by
 obtain ⟨us,hus⟩:=Zha h
 have key:∀ {l:List PV} {τ:Tau} {w:World} {y:Ys} {vs:List Value},CFs τ w y (l.map CF.pv) vs→PVs l vs w y:=by
  intro l
  induction l with
  | nil=>intro τ w y vs k;cases vs with | nil=>trivial | cons v vs=>exact k.elim
  | cons p l ih=>intro τ w y vs k;cases vs with | nil=>exact k.elim | cons v vs=>exact ⟨k.1,ih k.2⟩
 intro τ τ' w w' f f' y y' ⟨b,vs,e,hb,hf,hc⟩ ⟨b',vs',e',hb',hf',hc'⟩
 have eb:b=b':=by
  have:=e.symm.trans e'
  simpa using this
 subst eb
 have ev:vs=vs':=by
  have h1:=hus _ _ _ (key hc)
  have h2:=hus _ _ _ (key hc')
  exact Array.toList_inj.1 (h1.trans h2.symm)
 refine ⟨fun c=>(hf c).trans (hf' c).symm,fun c hc9=>?_⟩
 rw [(hf c).1 hc9,hb,hb',ev]
theorem Zk2 {κ ν:Type} [DecidableEq κ] {ek:ν→PV} {ok:κ→Prop} {kv:κ→Value} {es:List (GE κ ν)} {ck:Nat} {u:Value} (h:∀ c,Zg1 (ek c)):Zfc (.ob (.val u) (mapG ek ok kv es ck)):=by
 have key:∀ {es:List (GE κ ν)},∃ rs0:List (GE κ Value),∀ {w:World} {y:Ys} {rs:List (GE κ Value)},GR ek es rs w y→rs=rs0:=by
  intro es
  induction es with
  | nil=>exact ⟨[],fun {w y rs} k=>by cases rs with | nil=>rfl | cons r rs=>exact k.elim⟩
  | cons e es ih=>
   obtain ⟨rs0,h0⟩:=ih
   obtain ⟨u0,hu0⟩:=h e.val
   refine ⟨⟨e.key,u0,e.born⟩ :: rs0,fun {w y rs} k=>?_⟩
   cases rs with
   | nil=>exact k.elim
   | cons r rs=>
    obtain ⟨⟨k1,k2,k3⟩,k4⟩:=k
    rw [h0 k4]
    cases r
    simp only at k1 k2 k3
    rw [← k1,← k2,hu0 _ _ _ k3]
 obtain ⟨rs0,h0⟩:=key (es:=es)
 intro τ τ' w w' f f' y y' ⟨b,rs,e,hb,hg,_,hf⟩ ⟨b',rs',e',hb',hg',_,hf'⟩
 have eb:b=b':=by
  have:=e.symm.trans e'
  simpa using this
 subst eb
 refine ⟨fun c=>(hf c).trans (hf' c).symm,fun c hc9=>?_⟩
 rw [(hf c).1 hc9,hb,hb',h0 hg,h0 hg']
theorem Zkb {n m:Nat} {r s:RS} (h1:Zfc r) (h2:Zfc s):∀ x ∈ [(n,r),(m,s)],Zfc x.2:=fun x hx=>by
 simp only [Yo,YaH,Ybd] at hx
 rcases hx with rfl | rfl
 ·exact h1
 ·exact h2
end
theorem Ent.sure {c:Prop} {s:SF} (h:c):Ent s (.when c s):=fun _ _ _ _ k=>⟨fun _=>k,fun n=>absurd h n⟩
def Zn8 (A:StA) (n:Int):Option (Int×RtA):=A.snaps.find? fun x=>decide (x.1=n)
def Zo4 (A:StA) (n:Int):StA×Int:=match Zn8 A n with
 | none=>(A,3)
 | some _=>(⟨A.now,A.snaps.filter fun x=>!decide (x.1=n),A.next,A.all,A.seqs⟩,0)
theorem Zdz.find {A:StA} {ex:List RtA} {s:StC} (h:Zdz A ex s) (n:Int):(gGet n s.cs).isSome=(Zn8 A n).isSome:=by
 rw [Y4,ZbS,h.keys]
 unfold Zn8
 rw [List.find?_isSome]
 simp
theorem Zh0.mono {rs rs':List RtA} {n i:Nat} (h:Zh0 rs n i) (hs:∀ r ∈ rs,r ∈ rs'):Zh0 rs' n i:=h.imp (fun ⟨r,hr,p,hp,e⟩=>⟨r,hs r hr,p,hp,e⟩) fun h=>h
theorem Zdz.drop {A:StA} {s:StC} (h:Zdz A [] s) (hk:Zj0 A) (n:Int):Zdz ⟨A.now,A.snaps.filter fun x=>!decide (x.1=n),A.next,A.all,A.seqs⟩ [] ⟨s.b,s.q,s.c,gDel n s.cs,s.ck,s.mv,s.alv,s.sqv,s.sr⟩:=by
 have hd:∀ cs:List (GE Int RtC),GNd cs→(gDel n cs).map (·.key)=(cs.map (·.key)).filter fun k=>!decide (k=n):=by
  intro cs
  induction cs with
  | nil=>intro _;rfl
  | cons e cs ih=>
   intro hn
   have hn2:e.key ∉ cs.map (·.key)∧GNd cs:=by unfold GNd at hn ⊢;rwa [YJ,Ya1] at hn
   unfold gDel
   by_cases he:n=e.key
   ·rw [Ye he,YJ,Yau,Yb (by simp [he]),YaL.2]
    intro k hk
    have:k≠n:=fun h9=>hn2.1 (by rw [← he,← h9];exact hk)
    simp [this]
   ·rw [Yb he,YJ,YJ,Yau,Ye (by simp;exact fun h9=>he h9.symm),ih hn2.2]
 refine ⟨h.now,?_,fun x hx=>?_,h.len,fun i hi hl=>h.seqs i hi (hl.mono fun r hr=>?_)⟩
 ·show (gDel n s.cs).map (·.key)=_
  rw [hd _ (h.nd hk),h.keys,List.filter_map];rfl
 ·obtain ⟨h1,h2⟩:=YA.1 hx
  show ∃ c,gGet x.1 (gDel n s.cs)=some c∧_
  rw [gGet_del (h.nd hk),Yb XO]
  exact h.snaps x h1
 ·simp only [ZfA,Y3,Yo,YI] at hr ⊢
  rcases hr with hr | ⟨x,hx,hr⟩
  ·exact .inl hr
  ·exact .inr ⟨x,(YA.1 hx).1,hr⟩
theorem ZgN {l:List (Int×RtA)} {p:Int×RtA→Bool} (h:∀ x ∈ l,0≤x.2.size):((l.filter p).map fun x=>x.2.size).sum≤(l.map fun x=>x.2.size).sum:=by
 induction l with
 | nil=>simp
 | cons x l ih=>
  have h1:=h x Ya8
  have h2:=ih fun z hz=>h z (YQ _ hz)
  rw [Yau,YJ,Ybp]
  split
  ·rw [YJ,Ybp];omega
  ·omega
theorem Zj0.drop {A:StA} (h:Zj0 A) (n:Int):Zj0 (Zo4 A n).1:=by
 unfold Zo4
 split
 ·exact h
 ·refine ⟨h.okn,fun x hx=>h.oks x (YA.1 hx).1,?_,h.szn,fun x hx=>h.szs x (YA.1 hx).1,?_,h.next⟩
  ·exact h.ids.sublist (List.Sublist.map _ YaM)
  ·have h1:=ZgN (p:=fun x=>!decide (x.1=n)) h.nn
   have h2:=h.held
   unfold Zoq at h2 ⊢
   show A.now.size+((A.snaps.filter fun x=>!decide (x.1=n)).map fun x=>x.2.size).sum≤10000
   omega
def gvA (es:List (GE Int Int)) (k:Int):Int:=(gGet k es).getD 0
structure MvI (seqs:List (List Int)) (Live:Nat→Prop) (qo q:List Cell) (av nv:Value) (sr:List SqC) (es:List (GE Int Int)) (K:Int):Prop where
 len:sr.length=seqs.length
 gv:∀ k:Int,0≤gvA es k∧gvA es k≤K
 old:∀ i:Nat,i<seqs.length→Live i→gvA es i=0→(Nn sr i).av=av∧Zlq qo (Nn sr i).root (Nn seqs i)
 new:∀ i:Nat,i<seqs.length→0<gvA es i→(Nn sr i).av=nv∧Zlq q (Nn sr i).root (Nn seqs i)
section
variable {seqs:List (List Int)} {Live:Nat→Prop} {qo q:List Cell} {av nv:Value} {sr:List SqC} {es es':List (GE Int Int)} {K:Int}
end
def Zpg (seqs:List (List Int)) (l:List ZeU):Nat:=(l.map fun p=>(Nn seqs p.val.toNat).length).sum
structure Zpf (A:StA) (ex:List RtA) (qo q:List Cell) (av nv:Value) (sr:List SqC) (es:List (GE Int Int)) (K:Int):Prop where
 mv:MvI A.seqs (Zh0 (ZfA A++ex) A.seqs.length) qo q av nv sr es K
 all:∀ r ∈ ZfA A++ex,∀ p ∈ r.orders,0<gvA es p.val
theorem Zpf.seqs {A:StA} {ex:List RtA} {qo q:List Cell} {av nv:Value} {sr:List SqC} {es:List (GE Int Int)} {K:Int} (h:Zpf A ex qo q av nv sr es K) {i:Nat} (hi:i<A.seqs.length) (hl:Zh0 (ZfA A++ex) A.seqs.length i) (hlast:i+1=A.seqs.length→(Nn sr i).av=nv∧Zlq q (Nn sr i).root (Nn A.seqs i)):(Nn sr i).av=nv∧Zlq q (Nn sr i).root (Nn A.seqs i):=by
 rcases hl with ⟨r,hr,p,hp,e⟩ | h1
 ·exact h.mv.new i hi (by rw [← e];exact h.all r hr p hp)
 ·exact hlast h1
structure MvC where
 q:List Cell
 c:RtC
 sr:List SqC
 es:List (GE Int Int)
 ck:Nat
structure Zp0 (seqs:List (List Int)) (Live:Nat→Prop) (r:RtA) (qo q:List Cell) (av nv:Value) (es:List (GE Int Int)) (K:Int) (x:MvC):Prop where
 app:∃ e,x.q=q++e∧e.length≤r.txs.length+r.orders.length+Zpg seqs r.orders
 rt:Zg8 x.q nv x.c r
 mv:MvI seqs Live qo x.q av nv x.sr x.es (K+r.orders.length)
 keep:∀ k,0<gvA es k→0<gvA x.es k
 all:∀ p ∈ r.orders,0<gvA x.es p.val
theorem Zka {l ks:List Int} (hp:l.Perm ks) (h:ks.Pairwise (· < ·)):l.mergeSort leI=ks:=by
 have hs:List.Pairwise (fun x y=>x≤y) (l.mergeSort leI):=by
  have:=Ybe (le:=leI) (fun a b c h1 h2=>by simp [leI] at *;omega) (fun a b=>by simp [leI];omega) l
  exact List.Pairwise.imp (fun h=>by simpa [leI] using h) this
 exact List.Perm.eq_of_pairwise (fun x y _ _ h1 h2=>Int.le_antisymm h1 h2) hs (List.Pairwise.imp (fun h=>Int.le_of_lt h) h) ((Yaz l leI).trans hp)
structure ZpE (A:StA) (r:RtA) (s:StC) (c:RtC) (n:Int) (x:StC×RtC):Prop where
 rep:Zdz A [r] x.1
 rt:Zg8 x.1.q (arV (some x.1.b)) x.2 r
 room:(x=(s,c)∧s.q.length+n≤65536)∨x.1.q.length≤60000
def Zqb (A:StA) (i:Nat):Int:=A.now.size+((A.snaps.take i).map fun x=>x.2.size).sum
structure ZpQ (A:StA) (r:RtA) (qo:List Cell) (av nv:Value) (c1:RtC) (i:Nat) (cs1:List (GE Int RtC)) (qq:List Cell) (sr1:List SqC) (es1:List (GE Int Int)):Prop where
 now:Zg8 qq nv c1 A.now
 keys:cs1.map (·.key)=A.snaps.map (·.1)
 snaps:∀ (j:Nat) (x:Int×RtA),A.snaps[j]? = some x → ∃ c,gGet x.1 cs1=some c∧(j<i→Zg8 qq nv c x.2)∧(¬ j<i→Zg8 qo av c x.2)
 mv:∃ K,(0≤K∧K≤10000*((i:Int)+1))∧MvI A.seqs (Zh0 (ZfA A ++ [r]) A.seqs.length) qo qq av nv sr1 es1 K
 alln:∀ p ∈ A.now.orders,0<gvA es1 p.val
 alls:∀ (j:Nat) (x:Int×RtA),j<i→A.snaps[j]? = some x → ∀ p ∈ x.2.orders,0<gvA es1 p.val
 len:(qq.length:Int)≤Zqb A i
theorem ZmP (mv:Value):FnP prog 103 [.is mv] (.clos 167 [.ref [.is mv]]):=by
 refine FnP.mk func103 O ntmps103 O fun B a w F M hfr G=>Ya ?_
 refine rS G (qf (Zly 101 .t Zo3) r1 qz (qC qZ)) M Ky Kf fun τ G=>?_
 have G:=Xc
 generalize τ 1=v1 at G
 obtain ⟨F,G⟩:=G.giveRef 101 1 O O rfl
 obtain ⟨F,G⟩:=G.nM Ky [0]
 try dsimp only [Go.Gm.unCF] at G
 refine Za (Ya (rZ G (qf (Zcp (Args.one .t)) r1 qz (qO rr qZ)) M [2] [0] fun G=>Yh ?_))
 refine Zr hfr G O O O .refl
theorem Zk9 (mv:Value) (es:List (GE Int TxD)) (ck:Nat) (ks:List Int) (hke:(es.map (·.key)).Perm ks) (hkr:ks.Pairwise (· < ·)) (hl9:es.length≤100000):FnG prog 102 2 [.clos 167 [.ref [.is mv]]] [Zo8 es ck mv,.star []] (PV.one) (fun v=>[Zo8 es ck mv,ZC 3 1 Zk ks v]):=by
 refine FnG.mk func102 O ntmps102 O kr fun B F0 a w F M hG G=>Ya ?_
 refine rZ G (qC qZ) M KO Qf fun G=>Ya ?_
 refine rS G (qR rr (qf (ZgX 1 2 (Zii (fun t:TxD=>PV.agg (rTx t)) mv es ck ow) func166 O kr O (Args.one .t) Zar) r1 r2 (qO rr qZ))) M [3,2] Qf fun τ G=>?_
 have G:=Xd
 generalize τ 5=v5 at G
 replace G:=G.turn 2 O (r':=RS.hp (HP.ex fun l:List Int=>HP.and (l.Perm (es.map fun z:GE Int TxD=>z.key)) (ZC 3 1 Zk l v5))) (fun _ _ _ _ h=>h)
 obtain ⟨ks2,G⟩:=G.open_ex 2 rfl
 obtain ⟨hks,G⟩:=G.open_and 2 rfl
 replace G:=G.turn 2 O (r':=.ob (.val v5) (ZC 3 1 Zk ks2)) (fun _ _ _ _ h=>h)
 have hkl:ks2.length≤1000000:=by have h1:=hks.length_eq;rw [Y9] at h1;omega
 obtain ⟨F,G⟩:=G.nM [3,2] Qf
 refine Za (Ya (Zi G (qR rr (qf (Zdq 2 (ZiJ _ ks2 hkl) func92 O kr (Args.one .t)) r1 r1 qZ)) M [3,2] Qf O O fun a w F G=>?_))
 rw [Zka (hks.trans hke) hkr] at G
 refine Za (Ya (rZ G (qR rr (qO rr qZ)) M [2] Qf fun G=>Yh ?_))
 have G:=G.turn 2 O (r':=RS.hp (ZC 3 1 Zk ks v5)) (fun _ _ _ _ h=>h)
 refine ZoQ (k2:=fun v=>ZC 3 1 Zk ks v) hG G O (.tmp O .nil) (.one .one) O rfl
theorem ZlO (b:Nat) (f:IxF) (ks:List Int) (hki:Za3 ks) (hkm:∀ j,j ∈ ks ↔ (f.T j).isSome=true) (hkl:ks.length≤100000):FnG prog 44 1 [.is (.pointer (some ⟨b,0,none⟩))] [ZH (.pointer (some ⟨b,0,none⟩)) f] (.sl Zk ks) (fun _=>[ZH (.pointer (some ⟨b,0,none⟩)) f]):=by
 refine FnG.mk func44 O ntmps44 O kr fun B F0 a w F M hG G=>?_
 obtain ⟨sx,G⟩:=G.open_ex 1 rfl
 obtain ⟨hk,G⟩:=G.open_and 1 rfl
 have G:=Xm
 obtain ⟨F,G⟩:=G.peel 1 2 O rfl
 obtain ⟨F,G⟩:=G.peel 1 3 O rfl
 obtain ⟨F,G⟩:=G.peel 1 4 O rfl
 obtain ⟨F,G⟩:=G.peel 1 60 O rfl
 obtain ⟨F,G⟩:=G.peel 1 5 O rfl
 obtain ⟨F,G⟩:=G.peel 1 62 O rfl
 obtain ⟨F,G⟩:=G.peel 1 6 O rfl
 obtain ⟨F,G⟩:=G.peel 1 7 O rfl
 have G:=X2
 obtain ⟨F,G⟩:=G.nM [0] Kj
 refine Ya (rZ G (qC qZ) M KO Kj fun G=>(Ya (Ya ?_)))
 refine rZ G (qR rr (qf (Zau _ Yby rfl .t) r1 qz qZ)) M Qe Kj fun G=>?_
 refine Zb G O (fun hc0=>?_) (fun hc0=>?_)
 ·simp at hc0
 refine Yc (Za (Ya (ZaS 5 G kr (cG O (oM .t) r1 trivial (cG O (Zt 2 .is XI) r1 r1 (cG O (oF 0 2 .adr) r1 r1 (cG O (oL false 1 2 .adr) r1 r1 (cG O (oP (ZmP sx.tv) func103 (Args.one .t)) r1 trivial ZO.nil))))) kr Wd fun a w F G=>?_)))
 obtain ⟨F,G⟩:=G.nM [9,2] Kj
 have G:=Xi
 replace G:=G.fresh 64 rfl
 replace G:=G.turn 3 O (r':=RS.hp (Zo8 sx.te sx.tk sx.tv)) (fun _ _ _ _ h=>h)
 obtain ⟨F,G⟩:=G.nM [9,2] Jm
 refine Zc4 1 G kr (cG O (ZgX 3 64 (Zk9 sx.tv sx.te sx.tk ks (hk.keys hki hkm) hki (by have h1:=(hk.keys hki hkm).length_eq;rw [Y9] at h1;omega)) func102 O kr O (Args.one .t) Zar) r1 r2 ZO.nil) kr Wd fun a w F G=>?_
 replace G:=G.sub
 obtain ⟨F,G⟩:=G.nM [10,2] Jm
 have G:=Xl
 generalize Act.tau a 10=v10 at G
 replace G:=G.turn 64 O (r':=.ob (.val v10) (ZC 3 1 Zk ks)) (fun _ _ _ _ h=>h)
 replace G:=G.turn 3 O (r':=.ob (.val sx.tv) (Zo8 sx.te sx.tk)) (fun _ _ _ _ h=>h)
 obtain ⟨F,G⟩:=G.give 64 10 O rfl
 obtain ⟨F,G⟩:=G.nM [10,2] Kj
 refine Zbl G kr (cG O (oN .t) r1 trivial ZO.nil) kr Wd fun a w F G=>?_
 obtain ⟨F,G⟩:=G.nM [2] Kj
 try dsimp only [rTx,rOp,Zk,Zy] at G
 refine Za (Yh ?_)
 have G:=G.fresh 1 rfl
 obtain ⟨F,G⟩:=G.push 1 7 O O O kr
 obtain ⟨F,G⟩:=G.push 1 6 O O O kr
 obtain ⟨F,G⟩:=G.push 1 62 O O O kr
 obtain ⟨F,G⟩:=G.push 1 5 O O O kr
 obtain ⟨F,G⟩:=G.push 1 60 O O O kr
 obtain ⟨F,G⟩:=G.push 1 4 O O O kr
 obtain ⟨F,G⟩:=G.push 1 3 O O O kr
 obtain ⟨F,G⟩:=G.push 1 2 O O O kr
 have G:=G.turn 1 O (r':=RS.hp (ZH (.pointer (some ⟨b,0,none⟩)) f)) (fun _ _ _ _ h=>⟨sx,hk,h⟩)
 refine Zb0 hG G O (.tmp O .nil) (.one .refl) rfl
theorem ZlU (b:Nat) (f:IxF) (id:Int) (hf:Zdn f) (ks:List Int) (hki:Za3 ks) (hkm:∀ j,j ∈ ks ↔ (f.T j).isSome=true) (hkl:ks.length≤100000):FnG prog 43 1 [.is (.pointer (some ⟨b,0,none⟩)),.int .i64 id] [ZH (.pointer (some ⟨b,0,none⟩)) f] (.sl Zk (ks.filter fun b9=>decide (0<f.U ⟨b9,id⟩))) (fun _=>[ZH (.pointer (some ⟨b,0,none⟩)) f]):=by
 refine FnG.mk func43 O ntmps43 O kr fun B F0 a w F M hG G=>Ya ?_
 refine rZ G (qC qZ) M Kr Kk fun G=>Ya ?_
 refine rZ G (qC qZ) M KA Kk fun G=>(Ya (Ya ?_))
 refine Zi G (qR rr (qf (o_callG1 1 (ZlO b f ks hki hkm hkl) func44 O kr (Args.one .t)) r1 r1 (qu Ybs r1 (qJ qZ)))) M Q3 Kk O O fun a w F G=>?_
 obtain ⟨sx,G⟩:=G.open_ex 1 rfl
 obtain ⟨hk,G⟩:=G.open_and 1 rfl
 have G:=Xm
 obtain ⟨F,G⟩:=G.peel 1 2 O rfl
 obtain ⟨F,G⟩:=G.peel 1 3 O rfl
 obtain ⟨F,G⟩:=G.peel 1 4 O rfl
 obtain ⟨F,G⟩:=G.peel 1 60 O rfl
 obtain ⟨F,G⟩:=G.peel 1 5 O rfl
 obtain ⟨F,G⟩:=G.peel 1 62 O rfl
 obtain ⟨F,G⟩:=G.peel 1 6 O rfl
 obtain ⟨F,G⟩:=G.peel 1 7 O rfl
 have G:=X2
 obtain ⟨F,G⟩:=G.nM Q3 Kj
 refine Za (Yf ?_)
 replace G:=G.fresh 50 rfl
 replace G:=G.turn 50 O (ZaC (T:=3) (sz:=1) (R:=Zk))
 refine Zj (σ:=(Nat)×(Value)×(List Int)) [0,1,4,9,10] [0,2,3,4,5,6,7,60,62] (fun s=>[(11,.pv (.int .i64 (s.1:Int))),(5,.pv (.is s.2.1))]) (fun s=>[(50,.ob (.val s.2.1) (ZC 3 1 Zk s.2.2))]) (fun s=>s.1≤ks.length∧(s.2.2=((ks.take s.1).filter fun b9=>decide (0<f.U ⟨b9,id⟩)))) (fun s=>ks.length - s.1) ((0),(.slice none 0 0),([])) G ⟨rfl,rfl,rfl,rfl,rfl,rfl,rfl,tv⟩ ⟨rfl,rfl,rfl,rfl,rfl,rfl,rfl,rfl,rfl,rfl,tv⟩ ⟨Yp _,rfl⟩ ?_
 clear G;intro s a w F hC G
 obtain ⟨i,v,out⟩:=s
 have hC:=X4
 obtain ⟨F,G⟩:=G.nM Q3 KB
 have G:=X2
 obtain ⟨hi,hq⟩:=hC
 have hol:out.length≤i:=K6
 refine Ya (rZ G (qL r2) M [12,11,10,9,5,4,1,0] KB fun G=>Ya ?_)
 refine Zb G O (fun hc0=>?_) (fun hc0=>?_)
 ·have hil:i<ks.length:=XV
  refine Yc (Za (Ya (Yf (Ya (Zi G (qy 1 Ybs r2 (qf (oR false 1 .t) r1 qz (qO rr qZ))) M [11,10,9,7,5,4,1,0] KB O O fun a w F G=>?_)))))
  try simp only [Yg] at G
  refine Za (Ya (rZ G (qR rr (qf (Zt 2 .is XI) r1 r1 (qf (oF 3 2 .adr) r1 r1 (qa 2 r1 r1 (qR rr (qR rr (qf (oB [(0,.tmp 19),(1,.tmp 20)] [.int .i64 0,.int .i64 0] [(0,1),(1,1)] (.one O .t one_int kr (.one O .t one_int kr .nil))) r2 qz (qf (ZX (ek:=(fun n:Int=>PV.int .i64 n)) (z0:=(0)) 6 underlying129 ZhB kr (fun _ _=>⟨rfl,ZfP⟩) .is (ZD.agg (enc:=Zbm) (k:=(⟨(Nn ks i),id⟩:K2)) (.pagg .t) O)) r2 r1 (qf (Za7 .t qi) r1 qz qZ))))))))) M [23,11,10,9,7,5,4,1,0] KB fun G=>?_))
  refine Zb G O (fun hc1=>?_) (fun hc1=>?_)
  ·have hU:0<f.U (⟨(Nn ks i),id⟩:K2):=by rw [← hk.u.2];simpa using hc1
   refine rS G (qR rr (qR rr (qf (Zo (sz:=1) (zs:=[.int .i64 0]) (r:=[(0,.tmp 25)]) (l:=[_]) Ybs kr kr kr kr O O (.one O .t one_int kr .nil) O) r1 qz (qf (o_append (sz:=1) (bs:=8) 50 (.mk' Ybs kr kr) XW .is (.arr (l':=[_]) .t) Wu XJ) ⟨rfl,rfl,tv⟩ ⟨rfl,tv⟩ (qO rr qZ))))) M Q3 KB fun τ G=>?_
   have G:=Xh
   generalize τ 27=v27 at G
   refine Zh (Za (rZ G (qp r1 (qR rr qZ)) M Q3 KB fun G=>?_))
   replace G:=G.eI 11 i
   obtain ⟨F,G⟩:=G.nM [10,9,4,1,0,5,11] Jn
   exact ⟨((i+1),_,_),F,⟨ow,(by rw [hq,Zu hil,YU];simp [hU])⟩,G,ow⟩
  have hU:¬ 0<f.U (⟨(Nn ks i),id⟩:K2):=by rw [← hk.u.2];simpa using hc1
  refine Yc (Zh (Za (rZ G (qp r1 (qR rr qZ)) M Q3 KB fun G=>?_)))
  replace G:=G.eI 11 i
  obtain ⟨F,G⟩:=G.nM [10,9,4,1,0,5,11] Jn
  exact ⟨((i+1),_,_),F,⟨ow,(by rw [hq,Zu hil,YU];simp [hU])⟩,G,ow⟩
 have hil:i=ks.length:=XV
 refine Yt (Zg (Zg (Zp (Za (Ya (rZ G (qR rr (qO rr qZ)) M [4] KB fun G=>Yh ?_))))))
 obtain ⟨F,G⟩:=G.give 50 4 O rfl
 obtain ⟨F,G⟩:=G.nM [4] Kj
 have G:=G.fresh 1 rfl
 obtain ⟨F,G⟩:=G.push 1 7 O O O kr
 obtain ⟨F,G⟩:=G.push 1 6 O O O kr
 obtain ⟨F,G⟩:=G.push 1 62 O O O kr
 obtain ⟨F,G⟩:=G.push 1 5 O O O kr
 obtain ⟨F,G⟩:=G.push 1 60 O O O kr
 obtain ⟨F,G⟩:=G.push 1 4 O O O kr
 obtain ⟨F,G⟩:=G.push 1 3 O O O kr
 obtain ⟨F,G⟩:=G.push 1 2 O O O kr
 have G:=G.turn 1 O (r':=RS.hp (ZH (.pointer (some ⟨b,0,none⟩)) f)) (fun _ _ _ _ h=>⟨sx,hk,h⟩)
 refine Zb0 hG G O (.tmp O .nil) (.one (by first | exact .sl (by rw [hq,hil,Yz]) | (rw [hq,hil,Yz];exact .refl))) rfl
theorem ZoA  : FnP prog 218 [.sl Zy [],.int .i64 0,.int .i64 0,.is (.func (.func 90) #[] #[])] (.tup []):=by
 refine FnP.mk func218 O ntmps218 O fun B a w F M hfr G=>Ya ?_
 refine rZ G (qR rr (qp r1 (qO rr qZ))) M [8,3,2,1,0] [0] fun G=>Yf ?_
 obtain ⟨F,G⟩:=G.nM [8,2,1,0] [0]
 refine ZbX (σ:=Unit) (fun s=>(⟨[(0,.pv (.sl Zy [])),(1,.pv (.int .i64 0)),(2,.pv (.int .i64 0)),(8,.pv (.int .i64 (IntKind.wrap .i64 (0+1))))],[(0,frame B)]⟩:En)) (fun s=>True) (fun s=>0) () G trivial ?_
 clear G;intro u a w F hC G
 have hC:=X4
 have G:=X2
 refine Ya (Ya (rZ G (qR rr (qR rr (qL r2))) M [14,8,2,1,0] [0] fun G=>?_))
 refine Zb G O (fun hc0=>?_) (fun hc0=>?_)
 ·have h9:decide (IntKind.wrap .i64 (0+1)<0)=true:=hc0
  exact absurd h9 XJ
 refine Yt (Zg (Zg (Zp (ZL hfr G O .nil (.none)))))
theorem Zny  : FnP prog 151 [.sl Zy [],.int .i64 0,.int .i64 0,.any,.is (.func (.func 90) #[] #[])] (.tup []):=by
 refine FnP.mk func151 O ntmps151 O fun B a w F M hfr G=>Ya ?_
 refine rZ G qB M [10,4,3,2,1,0] [0] fun G=>Ya ?_
 refine rZ G qB M [11,10,4,3,2,1,0] [0] fun G=>Yf ?_
 obtain ⟨F,G⟩:=G.nM [4,2,1,0] [0]
 refine ZbX (σ:=Unit) (fun s=>(⟨[(0,.pv (.sl Zy [])),(1,.pv (.int .i64 0)),(2,.pv (.int .i64 0)),(4,.pv (.is (.func (.func 90) #[] #[])))],[(0,frame B)]⟩:En)) (fun s=>True) (fun s=>0) () G trivial ?_
 clear G;intro u a w F hC G
 have hC:=X4
 have G:=X2
 refine Yf (Ya (rZ G (qR rr (qR rr (qf (o_sub .t .t) r2 qz (qO rr qZ)))) M [12,4,2,1,0] [0] fun G=>(Ya (Ya ?_))))
 refine rZ G (qR rr (qf (Zio .t qi) r1 qz qZ)) M [25,12,4,2,1,0] [0] fun G=>?_
 refine Zb G O (fun hc0=>?_) (fun hc0=>?_)
 ·refine Ya (rZ G (qR rr (qR rr (qR rr (qR rr (qf (oP (ZoA) func218 (Args.four .t .t .t .t)) r4 qz qZ))))) M [12,4,2,1,0] [0] fun G=>(Yh (Ze (Zq (Ze (Zq ?_))))))
  refine ZL hfr G O .nil (.none)
 exact absurd hc0 XJ
theorem ZmY (x:Int) (hx:0≤x∧x<256):FnP prog 227 [.int .u64 x] (.any):=by
 refine FnP.mk func227 O ntmps227 O fun B a w F M hfr G=>?_
 have u8w:IntKind.wrap .u8 x=x:=Zgm ⟨by simp [IntKind.min,IntKind.signed,IntKind.bits];omega,by simp [IntKind.max,IntKind.signed,IntKind.bits];omega⟩
 have hx256:x<(256:Nat):=ow
 refine Ya (rZ G (qI qZ) M KO [0] fun G=>(Ya (Ya ?_)))
 refine rZ G (qR rr (qf (ZbB .t qi) r1 qz qZ)) M Qe [0] fun G=>?_
 refine Zb G O (fun hc0=>?_) (fun hc0=>?_)
 ·simp at hc0;omega
 refine Yc (Za (Ya (Ya (rZ G (qR rr (qf (ZbB .t qi) r1 qz qZ)) M [8,2,0] [0] fun G=>?_))))
 refine Zb G O (fun hc1=>?_) (fun hc1=>?_)
 ·simp at hc1;omega
 refine Yc (Za (Ya (Ya (rZ G (qR rr (qf (ZbB .t qi) r1 qz qZ)) M [14,2,0] [0] fun G=>?_))))
 refine Zb G O (fun hc2=>?_) (fun hc2=>?_)
 ·simp at hc2;omega
 refine Yc (Za (Ya (rZ G (qR rr (qR rr (qf (ZbY underlying5 kr .t) r1 qz (qf (Zju underlying9 (.cs kr) .t (by rw [u8w];omega) (by rw [u8w];exact hx256)) r1 qz (qf (ZbY Ybx kr .t) r1 qz (qf (Zbb .t .t) r2 qz (qO rr qZ))))))) M [2] [0] fun G=>Yh ?_)))
 refine Zr hfr G O O O .any
theorem ZlP (x:Int) (hx:0≤x∧x<256):FnP prog 152 [.int .u64 x] (.any):=by
 refine FnP.mk func152 O ntmps152 O fun B a w F M hfr G=>Ya ?_
 refine rZ G (qI qZ) M KO [0] fun G=>Ya ?_
 refine wp_cond XI ?_
 refine Yc (Za (Ya (rZ G (qR rr (qf (oP (ZmY x hx) func227 (Args.one .t)) r1 qz (qO rr qZ))) M [2] [0] fun G=>Yh ?_)))
 refine Zr hfr G O O O .any
theorem ZmU  : FnP prog 89 [.sl Zy [],.is (.func (.func 90) #[] #[])] (.tup []):=by
 refine FnP.mk func89 O ntmps89 O fun B a w F M hfr G=>Ya ?_
 refine rZ G (qR rr (qu Ybw r1 (qO rr qZ))) M Kr [0] fun G=>?_
 refine Zi G (qR rr (qR rr (qR rr (qf (ZbY underlying219 kr .t) r1 qz (qf (oP (ZlP _ XJ) func152 (Args.one .t)) r1 qz (qR rr (qf (oP (Zny) func151 (Args.five .t qi .t .t .t)) r4 qz qZ))))))) M [] [0] O O fun a w F G=>ZL hfr G O .nil (.none)
def unV {κ ν:Type} (seen:List Nat) (cs:List (GE κ ν)):Nat:=(cs.filter fun e=>decide (e.born ∉ seen)).length
theorem ZoR {κ ν:Type} {seen:List Nat} {e:GE κ ν} (hs:e.born ∉ seen) {cs:List (GE κ ν)} (he:e ∈ cs):unV (seen ++ [e.born]) cs<unV seen cs:=by
 unfold unV
 refine Zdj (e:=e) (fun x hx=>?_) ?_ ?_ he
 ·simp only [Yi] at hx ⊢
  exact fun h=>hx (Yaf _ h)
 ·simpa using hs
 ·simp
theorem Zol {B:ZaK} {E:En} {a:Act} {w:World} {F:Fp} (h:Sat B E a w F) (n:Nat) {mv:Value} {es:List (GE Zad (Value×List Int))} {ck:Nat} (hl:Go.Gm.look E.r n=some (.ob (.val mv) (ZoJ es ck))):∀ e ∈ es,∀ w y,(PV.agg (Zy e.key)).p (kvS Zag e.key) w y:=by
 obtain ⟨_,_,_,_,_,_,_,_,⟨_,h2⟩,_⟩:=h.obGet n hl
 refine fun e he w y=>⟨[_,_,_],rfl,⟨rfl,rfl,h2 e he _ (by simp [Zag])⟩,⟨rfl,rfl,h2 e he _ (by simp [Zag])⟩,⟨rfl,rfl,h2 e he _ (by simp [Zag])⟩,tv⟩
theorem ZmG {v:Value} {T:TypeId} {v1 v2 v3 v4 v5:Value} {i1:Int} : Zfc (.pt (.val v) T [.pv (.is v1),.pv (.is v2),.pv (.is v3),.pv (.is v4),.pv (.is v5),.pv (.int .i64 i1)]):=
 Zmb (l:=[.is v1,.is v2,.is v3,.is v4,.is v5,.int .i64 i1]) fun p hp=>by
  simp only [Yo,YaH,Ybd] at hp
  rcases hp with rfl | rfl | rfl | rfl | rfl | rfl <;> first | exact exact_is _ | exact exact_int _ _
theorem Zip.lack {f:IxF} {s:IxS} (h:Zip f s) (hl:∀ v:Zad,f.R v≠[]→v.nth≤f.X ⟨v.tx,v.key⟩) {e:GE Zad (Value×List Int)} (he:e ∈ s.re):e.key.nth≤f.X ⟨e.key.tx,e.key.key⟩:=hl _ (h.r.2.2 _ (ZbS.2 (YI.2 ⟨e,he,rfl⟩)))
theorem ZfJ {v:Value} {x:IxF} {w:World} {f y:Ys} (h:(ZH v x).p w f y):∃ b,v = .pointer (some ⟨b,0,none⟩):=by
 obtain ⟨_,_,h⟩:=h
 exact HP.star_pt h
theorem ZhR (b:Nat) (f:IxF) (id key:Int) (sx:IxS) (hk:Zip f sx):FnG prog 68 2 [.is (.pointer (some ⟨b,0,none⟩)),.int .i64 id,.int .i64 key] [Zor 132 [.pv (.is sx.tv),.pv (.is sx.wv),.pv (.is sx.rv),.pv (.is sx.uv),.pv (.is sx.xv),.pv (.int .i64 f.wt)] (.pointer (some ⟨b,0,none⟩)),Zov sx.xe sx.xk sx.xv] (.int .i64 (f.X ⟨id,key⟩)) (fun _=>[Zor 132 [.pv (.is sx.tv),.pv (.is sx.wv),.pv (.is sx.rv),.pv (.is sx.uv),.pv (.is sx.xv),.pv (.int .i64 f.wt)] (.pointer (some ⟨b,0,none⟩)),Zov sx.xe sx.xk sx.xv]):=by
 refine FnG.mk func68 O ntmps68 O kr fun B F0 a w F M hG G=>?_
 have G:=G.turn 1 O (r':=.pt (.val (.pointer (some ⟨b,0,none⟩))) 132 [.pv (.is sx.tv),.pv (.is sx.wv),.pv (.is sx.rv),.pv (.is sx.uv),.pv (.is sx.xv),.pv (.int .i64 f.wt)]) (fun τ w f y h=>Znk O τ w f y h)
 have G:=G.turn 2 O (r':=.ob (.val sx.xv) (Zov sx.xe sx.xk)) (fun _ _ _ _ h=>h)
 obtain ⟨F,G⟩:=G.nM Qf Qf
 refine Ya (rZ G (qI qZ) M Qg Qf fun G=>(Ya (Ya ?_)))
 refine rZ G (qR rr (qf (Zau _ Yby rfl .t) r1 qz qZ)) M [8,6,2,1,0] Qf fun G=>?_
 refine Zb G O (fun hc0=>?_) (fun hc0=>?_)
 ·simp at hc0
 refine Yc (Za (Ya (rZ G (qR rr (qf (Zt 1 .is XI) r1 r1 (qf (oF 4 1 .adr) r1 r1 (qa 1 r1 r1 (qR rr (qR rr (qf (Zer (sz:=1) (r:=[(0,.tmp 13),(1,.tmp 14)]) (zs:=[.int .i64 0,.int .i64 0]) (pl:=[(0,1),(1,1)]) underlying142 kr kr O (.one O .t one_int kr (.one O .t one_int kr .nil)) XI) r2 qz (qf (ZX (ek:=(fun n:Int=>PV.int .i64 n)) (z0:=(0)) 2 underlying130 Zir kr (fun _ _=>⟨rfl,ZfP⟩) .is (ZD.agg (enc:=Zbm) (k:=(⟨id,key⟩:K2)) (.pagg .t) O)) r2 r1 (qO rr qZ))))))))) M [6] Qf fun G=>Yh ?_)))
 have G:=G.turn 1 O (r':=RS.hp (Zor 132 [.pv (.is sx.tv),.pv (.is sx.wv),.pv (.is sx.rv),.pv (.is sx.uv),.pv (.is sx.xv),.pv (.int .i64 f.wt)] (.pointer (some ⟨b,0,none⟩)))) (fun τ w f y h=>Znf O τ w f y h)
 have G:=G.turn 2 O (r':=RS.hp (Zov sx.xe sx.xk sx.xv)) (fun _ _ _ _ h=>h)
 obtain ⟨F,G⟩:=G.nM [6] Qf
 refine Zoi hG G O (.tmp O .nil) (.one (.int (hk.x.2 _))) O rfl
theorem ZlQ (b:Nat) (f:IxF) (hlk:∀ v:Zad,f.R v≠[]→v.nth≤f.X ⟨v.tx,v.key⟩):FnG prog 34 1 [.is (.pointer (some ⟨b,0,none⟩))] [ZH (.pointer (some ⟨b,0,none⟩)) f] (.sl Zy []) (fun _=>[ZH (.pointer (some ⟨b,0,none⟩)) f]):=by
 refine FnG.mk func34 O ntmps34 O kr fun B F0 a w F M hG G=>?_
 obtain ⟨sx,G⟩:=G.open_ex 1 rfl
 obtain ⟨hk,G⟩:=G.open_and 1 rfl
 have G:=Xm
 obtain ⟨F,G⟩:=G.peel 1 2 O rfl
 obtain ⟨F,G⟩:=G.peel 1 3 O rfl
 obtain ⟨F,G⟩:=G.peel 1 4 O rfl
 obtain ⟨F,G⟩:=G.peel 1 60 O rfl
 obtain ⟨F,G⟩:=G.peel 1 5 O rfl
 obtain ⟨F,G⟩:=G.peel 1 62 O rfl
 obtain ⟨F,G⟩:=G.peel 1 6 O rfl
 obtain ⟨F,G⟩:=G.peel 1 7 O rfl
 have G:=X2
 obtain ⟨F,G⟩:=G.nM [0] Kj
 have hKV:=Zol G 5 rfl
 refine Ya (rZ G (qC qZ) M KO Kj fun G=>(Ya (Ya ?_)))
 refine rZ G (qR rr (qf (Zau _ Yby rfl .t) r1 qz qZ)) M [6,2,0] Kj fun G=>?_
 refine Zb G O (fun hc0=>?_) (fun hc0=>?_)
 ·simp at hc0
 refine Yc (Za (Ya (rZ G (qC qZ) M J4 Kj fun G=>(Ya (Ya ?_)))))
 refine rS G (qR rr (qf (Zt 2 .is XI) r1 r1 (qf (oF 2 2 .adr) r1 r1 (qa 2 r1 r1 (qf (Zl2 5 101 YbA .is) r1 r1 qZ))))) M [11,3,2,0] Kh fun τ G=>?_
 have G:=Xe
 generalize τ 11=v11 at G
 refine Za (Yf (Zj (σ:=List Nat) [0,2,3,11] [0,2,3,4,5,6,7,60,62] (fun s=>[]) (fun s=>[(101,.ob (.val v11) (iterM sx.rv sx.rk s))]) (fun s=>True) (fun s=>unV s sx.re) ([]) G ⟨rfl,rfl,rfl,rfl,tv⟩ ⟨rfl,rfl,rfl,rfl,rfl,rfl,rfl,rfl,rfl,rfl,tv⟩ trivial ?_))
 clear G;intro seen a w F hC G
 have hC:=X4
 obtain ⟨F,G⟩:=G.nM [11,3,2,0] Kh
 have G:=X2
 refine Ya (rS G (qf (Zop 101 5 .is) r1 r2 (qf (Zn9 101 XJ) qz r1 qZ)) M JC Kh fun τ G=>?_)
 have G:=Xl
 generalize τ 12=v12 at G
 refine Za (Ya (Zb G O (fun hc1=>?_) (fun hc1=>?_)))
 ·obtain ⟨e,he,hns,G⟩:=G.nextTrue 101 rfl hc1
  obtain ⟨F,G⟩:=G.nM JC Kh
  refine Yc (Za (Yf (Ya (rS G (qf (Zm2 (kp:=(.agg (Zy e.key))) 101 5 he (hKV e he) .is) r1 r2 (qf (Zn .t O) r1 qz (qf (oH [.int .i64 0,.int .i64 0,.int .i64 0] 102) trivial qz (qf (oA 3 102 .same (.conv .t .agg)) r2 r1 qZ)))) M [11,4,3,2,0] Kn fun τ G=>?_))))
  have G:=Xh
  generalize τ 4=v4 at G
  refine Za (Ya (ZA G (qg 2 102 r1 r1 (qa 102 r1 r1 (qR rr (qg 0 102 r1 r1 (qa 102 r1 r1 (qg 1 102 r1 r1 (qa 102 r1 r1 (qf (OpC.still (Zm8 (cells:=[.pv _,.pv _,.pv _,.pv _,.pv _,.pv _]) (cells':=[.pv _,.pv _,.pv _,.pv _,.pv _,.pv _]) 2 7 O O (ZhR b f e.key.tx e.key.key sx hk) func68 O kr O (Args.three .t .t .t)) (Zkb ZmG (Zk2 fun c=>exact_int _ _))) r3 r2 (qf (Za7 .t .t) r2 qz qZ))))))))) M [24,11,4,3,2,0] Kn O O fun a w F G=>?_))
  have G:=Xi
  refine Za (Zb G O (fun hc2=>?_) (fun hc2=>?_))
  ·have h9:=hk.lack hlk he
   have h8:=hc2
   simp at h8
   omega
  refine Yc (Zh (Za ?_))
  obtain ⟨F,G⟩:=G.nM [11,3,2,0] [62,60,7,6,5,4,3,2,0,101]
  exact ⟨(seen ++ [e.born]),F,tv,G,ZoR hns he⟩
 obtain ⟨hall,G⟩:=G.nextFalse 101 rfl hc1
 obtain ⟨F,G⟩:=G.nM JC Kh
 refine Yt (Zg (Zg (Zp (Za (Ya (rZ G (qR rr (qf (oP (ZmU) func89 (Args.two (.conv .t (Ent.nilSl)) .f)) r1 qz qZ)) M [3,2] Kh fun G=>Ya ?_))))))
 refine rZ G (qR rr (qO rr qZ)) M [2] Kh fun G=>Yh ?_
 have G:=G.fresh 1 rfl
 obtain ⟨F,G⟩:=G.push 1 7 O O O kr
 obtain ⟨F,G⟩:=G.push 1 6 O O O kr
 obtain ⟨F,G⟩:=G.push 1 62 O O O kr
 obtain ⟨F,G⟩:=G.push 1 5 O O O kr
 obtain ⟨F,G⟩:=G.push 1 60 O O O kr
 obtain ⟨F,G⟩:=G.push 1 4 O O O kr
 obtain ⟨F,G⟩:=G.push 1 3 O O O kr
 obtain ⟨F,G⟩:=G.push 1 2 O O O kr
 have G:=G.turn 1 O (r':=RS.hp (ZH (.pointer (some ⟨b,0,none⟩)) f)) (fun _ _ _ _ h=>⟨sx,hk,h⟩)
 refine Zb0 hG G O (.tmp O .nil) (.one .nilSl) rfl
theorem Zcj {l:List TxD} {id:Int} : (ZS l id).isSome=isK TxD.id id l:=by
 unfold ZS isK
 rw [Y4,List.find?_isSome,Yal]
theorem ZcB {g:Zs} (h:Zx g):NE g.orders:=fun o ho=>by
 have h2:=(Zco g).2 h.2.2
 obtain ⟨j,hj,e⟩:=YK ho
 have:=(h2.2 j hj).2.1
 rwa [Zw hj,e] at this
theorem Zpk {g:Zs} {t:TxD} {there:Int} {wanted:Bool} (h:¬ Zx g):ZgQ g t there wanted=(0,5):=Ye h
theorem ZoV {g:Zs} {t:TxD} {there:Int} {wanted:Bool} (h:Zx g) (h2:ZF t≠0):ZgQ g t there wanted=(0,ZF t):=by unfold ZgQ;rw [Yb (YH.2 h),Ye h2]
theorem ZpA {g:Zs} {t:TxD} {there:Int} {wanted:Bool} (h:Zx g) (h2:ZF t=0) (h3:isK TxD.id t.id g.txs≠wanted):ZgQ g t there wanted=(0,there):=by unfold ZgQ;rw [Yb (YH.2 h),Yb (YH.2 h2),Ye h3]
theorem Zo1 {g:Zs} {t:TxD} {there:Int} {wanted:Bool} (h:Zx g) (h2:ZF t=0) (h3:isK TxD.id t.id g.txs=wanted) (h4:Zak g t=false):ZgQ g t there wanted=(0,6):=by unfold ZgQ;rw [Yb (YH.2 h),Yb (YH.2 h2),Yb (YH.2 h3),Ye h4]
theorem ZmI {g:Zs} {t:TxD} {there:Int} {wanted:Bool} (h:Zx g) (h2:ZF t=0) (h3:isK TxD.id t.id g.txs=wanted) (h4:Zak g t=true):ZgQ g t there wanted=(((lowK TxD.id t.id g.txs:Nat):Int),0):=by unfold ZgQ;rw [Yb (YH.2 h),Yb (YH.2 h2),Yb (YH.2 h3),Yb (by simp [h4])]
theorem Zgh {g:Zs} {t:TxD} {e:Int} (h:ZgQ g t 4 false=(0,e)) (he:e≠0):ZaE g t=(Zah,e):=by unfold ZaE;rw [h];exact Ye he
theorem ZiV {g:Zs} {t:TxD} {e:Int} (h:ZgQ g t 3 true=(0,e)) (he:e≠0):Zbt g t=(Zah,e):=by unfold Zbt;rw [h];exact Ye he
theorem Zl9 {g:Zs} {t:TxD} (h:Zx g) (h2:ZF t=0) (h3:isK TxD.id t.id g.txs=false) (h4:Zak g t=true) (h5:4096≤g.txs.length):ZaE g t=(Zah,2):=by
 have:=h.1
 unfold ZaE
 rw [ZmI h h2 h3 h4,Yb XA,Ye ow]
theorem ZmF {g:Zs} {t:TxD} (hs:ZaF g.orders) (h:Zx g) (h2:ZF t=0) (h3:isK TxD.id t.id g.txs=false) (h4:Zak g t=true) (h5:¬ 4096≤g.txs.length):ZaE g t=(⟨putGR TxD.id t g.txs false,ZbM t g.orders⟩,0):=by
 have hr:=ZZ h
 unfold ZaE
 rw [ZmI h h2 h3 h4,Yb XA,Yb ow,ZdO hr.2 hs (ZcB h),Zfp (ZB.1 hr.1) h3]
theorem Zoc {g:Zs} {t:TxD} (h:Zx g) (h2:ZF t=0) (h3:isK TxD.id t.id g.txs=true) (h4:Zak g t=true) (h5:ZcD g t=true):Zbt g t=(Zah,7):=by
 unfold Zbt
 rw [ZmI h h2 h3 h4,Yb XA,Ye h5]
theorem ZnU {g:Zs} {t:TxD} (hs:ZaF g.orders) (h:Zx g) (h2:ZF t=0) (h3:isK TxD.id t.id g.txs=true) (h4:Zak g t=true) (h5:ZcD g t=false):Zbt g t=(⟨putGR TxD.id t g.txs false,ZbM t g.orders⟩,0):=by
 have hr:=ZZ h
 unfold Zbt
 rw [ZmI h h2 h3 h4,Yb XA,Yb (by simp [h5]),ZdO hr.2 hs (ZcB h),Zfg (ZB.1 hr.1) h3]
theorem ZpS {g:Zs} {id:Int} (h:¬ Zx g):ZR g id=(Zah,5):=Ye h
theorem ZpG {g:Zs} {id:Int} (h:Zx g) (h2:isK TxD.id id g.txs=false):ZR g id=(Zah,3):=by unfold ZR;rw [Yb (YH.2 h),Ye h2]
theorem ZpK {g:Zs} {id:Int} (h:Zx g) (h2:isK TxD.id id g.txs=true) (h3:ZcD g (Zbg id)=true):ZR g id=(Zah,7):=by unfold ZR;rw [Yb (YH.2 h),Yb (by simp [h2]),Ye h3]
theorem ZpL {g:Zs} {id:Int} (hs:ZaF g.orders) (h:Zx g) (h2:isK TxD.id id g.txs=true) (h3:ZcD g (Zbg id)=false):ZR g id=(⟨g.txs.filter fun x=>!decide (x.id=id),ZbM (Zbg id) g.orders⟩,0):=by
 have hr:=ZZ h
 unfold ZR
 rw [Yb (YH.2 h),Yb (by simp [h2]),Yb (by simp [h3]),ZdO hr.2 hs (ZcB h),Zf4 (ZB.1 hr.1) h2]
theorem ZkX {os:List OrdD} {k:Int} (hr:Zb1 OrdD.key os) (h:isK OrdD.key k os=true):getO os k=(Nn os (lowK OrdD.key k os)).txs:=by
 obtain ⟨h1,h2⟩:=ZeI hr h
 have:=Zcy (ZB.1 hr) (ZT h1)
 rwa [h2] at this
theorem Zj8 {os:List OrdD} {k:Int} (hr:Zb1 OrdD.key os) (hn:NE os):getO os k = [] ↔ isK OrdD.key k os=false:=by
 constructor
 ·intro h
  cases hk:isK OrdD.key k os with
  | false=>rfl
  | true=>
   rw [ZkX hr hk] at h
   exact absurd h (hn _ (ZT (ZeI hr hk).1))
 ·exact ZlI
theorem ZkG {g:Zs} {key:Int} {rule:List Int→List Int×Int} (h:¬ Zx g):ZaN g key rule=(Zah,5):=Ye h
theorem ZlW {g:Zs} {key:Int} {rule:List Int→List Int×Int} (h:Zx g) (h2:getO g.orders key = []):ZaN g key rule=(Zah,3):=by
 unfold ZaN
 rw [Yb (YH.2 h),Ye ((Zj8 (ZZ h).2 (ZcB h)).1 h2)]
theorem ZkE {g:Zs} {key:Int} (h:Zx g) (h2:getO g.orders key≠[]):isK OrdD.key key g.orders=true:=by
 cases hk:isK OrdD.key key g.orders with
 | true=>rfl
 | false=>exact absurd ((Zj8 (ZZ h).2 (ZcB h)).2 hk) h2
theorem Zlk {g:Zs} {key:Int} {rule:List Int→List Int×Int} (h:Zx g) (h2:getO g.orders key≠[]) (h3:(rule (getO g.orders key)).2≠0):ZaN g key rule=(Zah,(rule (getO g.orders key)).2):=by
 have hk:=ZkE h h2
 have hg:=ZkX (ZZ h).2 hk
 unfold ZaN
 rw [Yb (YH.2 h),Yb (by simp [hk]),← hg,Ye h3]
theorem Zj5 {g:Zs} {key:Int} {rule:List Int→List Int×Int} (h:Zx g) (h2:getO g.orders key≠[]) (h3:(rule (getO g.orders key)).2=0) (h4:(rule (getO g.orders key)).1≠[]):ZaN g key rule=(⟨g.txs,putGR OrdD.key ⟨key,(rule (getO g.orders key)).1⟩ g.orders (decide ((rule (getO g.orders key)).1 = []))⟩,0):=by
 have hk:=ZkE h h2
 have hr:=(ZZ h).2
 have hg:=ZkX hr hk
 unfold ZaN
 rw [Yb (YH.2 h),Yb (by simp [hk]),← hg,Yb (by simp [h3]),Yw h4,Zfg (κ:=OrdD.key) (t:=⟨key,(rule (getO g.orders key)).1⟩) (ZB.1 hr) hk,(ZeI hr hk).2]
theorem Zhw {l:List Int} {id place:Int} (h:(Zbk l id place).2=0):(Zbk l id place).1.Perm l:=by
 have h9:=h
 unfold Zbk at h9
 split at h9
 ·simp at h9
 ·rename_i h1
  split at h9
  ·simp at h9
  ·rename_i h2
   refine ZjR ?_ (YH.1 h2)
   refine YaP fun hm=>h1 ?_
   rw [Zgs hm];decide
structure EdD where
 kind:Int
 t:TxD
 o:OrdD
 place:Int
 deriving DecidableEq,Inhabited
def rEd (e:EdD):List PV:=[.int .i64 e.kind,.int .i64 e.t.id,.bool e.t.done,.sl rOp e.t.ops,.int .i64 e.o.key,.sl Zk e.o.txs,.int .i64 e.place]
def doH (g:Zs) (e:EdD):Zs×Int:=if e.kind=0 then ZaE g e.t else if e.kind=1 then ZR g e.t.id else if e.kind=2 then Zbt g e.t else if e.kind=3 then Zbz g e.o else if e.kind=4 then ZhL g e.o.key e.t.id e.place else (Zah,5)
def ZbF (e:EdD):Prop:=e.t.ops.length≤24∧e.o.txs.length≤24
instance (e:EdD):Decidable (ZbF e):=by unfold ZbF;exact inferInstance
def Zfb (l:List EdD):Prop:=l.length≤24 ∧ ∀ e ∈ l,ZbF e
instance (l:List EdD):Decidable (Zfb l):=by unfold Zfb;exact inferInstance
theorem Zh4 (g:Zs) (t:TxD) (hs:Zbe g) (ht:t.ops.length≤1000):FnP prog 69 [.agg (Zm g),.agg (rTx t)] (.tup [.agg (Zm (ZaE g t).1),.int .i64 (ZaE g t).2]):=by
 refine FnP.mk func69 O ntmps69 O fun B a w F M hfr G=>?_
 have hsl:=hs.1.1
 refine Ya (rS G (qx 101 r1 (qx 102 r1 (qf (oH [.slice none 0 0,.slice none 0 0] 103) trivial qz (qI qZ)))) M KF Kg fun τ G=>?_)
 have G:=X1
 generalize τ 2=v2,τ 3=v3,τ 4=v4 at G
 refine Za (Ya (Ya (rZ G (qe 2 101 r1 r1 (qf (oP (Zbc g hs) func128 (Args.one (.pagg .t))) r1 qz (qf (o_not .t) r1 qz qZ))) M [11,5,4,3,2] Kg fun G=>?_)))
 refine Zb G O (fun hc0=>?_) (fun hc0=>?_)
 ·have hr:¬ Zx g:=Wk
  have hg:=Zgh (t:=t) (Zpk hr) XJ
  refine Ya (rZ G (qf (oB [] [.slice none 0 0,.slice none 0 0] [(0,1),(1,1)] .nil) trivial qz (qs 2 103 r2 r1 (qI qZ))) M KF Kg fun G=>(Yh (Ze ?_)))
  refine ZL hfr G O (.cl 103 true 2 O O (.tmp O .nil)) (.two WA (.int W9))
 have hr:Zx g:=Wk
 refine Yc (Za (Ya (Ya (rZ G (qe 3 102 r1 r1 (qf (oP (Zch t) func131 (Args.one (.pagg .t))) r1 qz (qO rr qZ))) M Jw Kg fun G=>Ya ?_))))
 refine rZ G (qR rr (qf (o_neq .t qi) r1 qz qZ)) M [16,6,5,4,3,2] Kg fun G=>?_
 refine Zb G O (fun hc1=>?_) (fun hc1=>?_)
 ·have hrt:ZF t≠0:=Wj
  have hg:=Zgh (ZoV hr hrt) hrt
  refine Ya (rZ G (qf (oB [] [.slice none 0 0,.slice none 0 0] [(0,1),(1,1)] .nil) trivial qz (qR rr (qs 2 103 r2 r1 (qO rr qZ)))) M KF Kg fun G=>(Yh (Ze ?_)))
  refine ZL hfr G O (.cl 103 true 2 O O (.tmp O .nil)) (.two WA (.int W9))
 have hrt:ZF t=0:=Wj
 refine Yc (Za (Ya (Ya (rS G (qe 2 101 r1 r1 (qg 0 102 r1 r1 (qa 102 r1 r1 (qf (oP (Zdc g t.id hs.1) func12 (Args.two (.pagg .t) .t)) r2 qz (qR rr (qf (Zn .t O) r1 qz (qf (Zn .t O) r1 qz (qf (oH [.int .i64 0,.bool false,.slice none 0 0] 104) trivial qz (qf (oA 3 104 .same (.conv .t .agg)) r2 r1 (qO rr qZ)))))))))) M [8,5,4,3,2] Kl fun τ G=>?_))))
 have G:=X0
 generalize τ 7=v7 at G
 refine Za (Ya (rZ G (qR rr qZ) M [26,5,4,3,2] Kl fun G=>?_))
 refine Zb G O (fun hc2=>?_) (fun hc2=>?_)
 ·have hik:isK TxD.id t.id g.txs=true:=WW
  have hg:=Zgh (ZpA hr hrt (by rw [hik];decide)) XJ
  refine Ya (rZ G (qf (oB [] [.slice none 0 0,.slice none 0 0] [(0,1),(1,1)] .nil) trivial qz (qs 2 103 r2 r1 (qI qZ))) M KF Kl fun G=>(Yh (Ze ?_)))
  refine ZL hfr G O (.cl 103 true 2 O O (.tmp O .nil)) (.two WA (.int W9))
 have hik:isK TxD.id t.id g.txs=false:=WW
 refine Yc (Za (Ya (Ya (rZ G (qe 2 101 r1 r1 (qe 3 102 r1 r1 (qf (oP (ZcP g t hs.1 ht) func132 (Args.two (.pagg .t) (.pagg .t))) r2 qz (qf (o_not .t) r1 qz qZ)))) M [31,5,4,3,2] Kl fun G=>?_))))
 refine Zb G O (fun hc3=>?_) (fun hc3=>?_)
 ·have hg:=Zgh (Zo1 hr hrt hik Wi) XJ
  refine Ya (rZ G (qf (oB [] [.slice none 0 0,.slice none 0 0] [(0,1),(1,1)] .nil) trivial qz (qs 2 103 r2 r1 (qI qZ))) M KF Kl fun G=>(Yh (Ze ?_)))
  refine ZL hfr G O (.cl 103 true 2 O O (.tmp O .nil)) (.two WA (.int W9))
 have hnd:Zak g t=true:=Wi
 refine Yc (Za (Ya (Ya (rZ G (qg 0 101 r1 r1 (qa 101 r1 r1 (qu Ybt r1 (qf (ZbB .t qi) r1 qz qZ)))) M [36,5,4,3,2] Kl fun G=>?_))))
 refine Zb G O (fun hc4=>?_) (fun hc4=>?_)
 ·have hg:=Zl9 hr hrt hik hnd (by simp at hc4;omega)
  refine Ya (rZ G (qf (oB [] [.slice none 0 0,.slice none 0 0] [(0,1),(1,1)] .nil) trivial qz (qs 2 103 r2 r1 (qI qZ))) M KF Kl fun G=>(Yh (Ze ?_)))
  refine ZL hfr G O (.cl 103 true 2 O O (.tmp O .nil)) (.two WA (.int W9))
 have hg:=ZmF hs.2 hr hrt hik hnd (by simp at hc4;omega)
 refine Yc (Za (Ya (ZA G (qg 0 101 r1 r1 (qa 101 r1 r1 (qe 3 102 r1 r1 (qf (oP (Zkz g.txs t ow) func133 (Args.two .t (.pagg .t))) r2 qz (qg 1 101 r1 r1 (qa 101 r1 r1 (qe 3 102 r1 r1 (qf (oP (ZcW g.orders t hs.2 ht) func134 (Args.two .t (.pagg .t))) r2 qz (qf (oB [(0,.tmp 41),(1,.tmp 45)] [.slice none 0 0,.slice none 0 0] [(0,1),(1,1)] (.one O .t Z7 kr (.one O .t Z7 kr .nil))) r2 qz (qs 2 103 r2 r1 (qI qZ))))))))))) M KZ Kl O O fun a w F G=>?_)))
 have G:=Xa
 refine Za (Yh (ZL hfr G O (.cl 103 true 2 O O (.tmp O .nil)) (.two WA (.int W9))))
theorem ZjE (g:Zs) (t:TxD) (hs:Zbe g) (ht:t.ops.length≤1000):FnP prog 71 [.agg (Zm g),.agg (rTx t)] (.tup [.agg (Zm (Zbt g t).1),.int .i64 (Zbt g t).2]):=by
 refine FnP.mk func71 O ntmps71 O fun B a w F M hfr G=>?_
 have hsl:=hs.1.1
 refine Ya (rS G (qx 101 r1 (qx 102 r1 (qf (oH [.slice none 0 0,.slice none 0 0] 103) trivial qz (qI qZ)))) M KF Kg fun τ G=>?_)
 have G:=X1
 generalize τ 2=v2,τ 3=v3,τ 4=v4 at G
 refine Za (Ya (Ya (rZ G (qe 2 101 r1 r1 (qf (oP (Zbc g hs) func128 (Args.one (.pagg .t))) r1 qz (qf (o_not .t) r1 qz qZ))) M [11,5,4,3,2] Kg fun G=>?_)))
 refine Zb G O (fun hc0=>?_) (fun hc0=>?_)
 ·have hr:¬ Zx g:=Wk
  have hg:=ZiV (t:=t) (Zpk hr) XJ
  refine Ya (rZ G (qf (oB [] [.slice none 0 0,.slice none 0 0] [(0,1),(1,1)] .nil) trivial qz (qs 2 103 r2 r1 (qI qZ))) M KF Kg fun G=>(Yh (Ze ?_)))
  refine ZL hfr G O (.cl 103 true 2 O O (.tmp O .nil)) (.two WA (.int W9))
 have hr:Zx g:=Wk
 refine Yc (Za (Ya (Ya (rZ G (qe 3 102 r1 r1 (qf (oP (Zch t) func131 (Args.one (.pagg .t))) r1 qz (qO rr qZ))) M Jw Kg fun G=>Ya ?_))))
 refine rZ G (qR rr (qf (o_neq .t qi) r1 qz qZ)) M [16,6,5,4,3,2] Kg fun G=>?_
 refine Zb G O (fun hc1=>?_) (fun hc1=>?_)
 ·have hrt:ZF t≠0:=Wj
  have hg:=ZiV (ZoV hr hrt) hrt
  refine Ya (rZ G (qf (oB [] [.slice none 0 0,.slice none 0 0] [(0,1),(1,1)] .nil) trivial qz (qR rr (qs 2 103 r2 r1 (qO rr qZ)))) M KF Kg fun G=>(Yh (Ze ?_)))
  refine ZL hfr G O (.cl 103 true 2 O O (.tmp O .nil)) (.two WA (.int W9))
 have hrt:ZF t=0:=Wj
 refine Yc (Za (Ya (Ya (rS G (qe 2 101 r1 r1 (qg 0 102 r1 r1 (qa 102 r1 r1 (qf (oP (Zdc g t.id hs.1) func12 (Args.two (.pagg .t) .t)) r2 qz (qR rr (qf (Zn .t O) r1 qz (qf (Zn .t O) r1 qz (qf (oH [.int .i64 0,.bool false,.slice none 0 0] 104) trivial qz (qf (oA 3 104 .same (.conv .t .agg)) r2 r1 (qO rr qZ)))))))))) M [8,5,4,3,2] Kl fun τ G=>?_))))
 have G:=X0
 generalize τ 7=v7 at G
 refine Za (Ya (rZ G (qR rr (qf (o_not .t) r1 qz qZ)) M [27,5,4,3,2] Kl fun G=>?_))
 refine Zb G O (fun hc2=>?_) (fun hc2=>?_)
 ·have hik:isK TxD.id t.id g.txs=false:=WW
  have hg:=ZiV (ZpA hr hrt (by rw [hik];decide)) XJ
  refine Ya (rZ G (qf (oB [] [.slice none 0 0,.slice none 0 0] [(0,1),(1,1)] .nil) trivial qz (qs 2 103 r2 r1 (qI qZ))) M KF Kl fun G=>(Yh (Ze ?_)))
  refine ZL hfr G O (.cl 103 true 2 O O (.tmp O .nil)) (.two WA (.int W9))
 have hik:isK TxD.id t.id g.txs=true:=WW
 refine Yc (Za (Ya (Ya (rZ G (qe 2 101 r1 r1 (qe 3 102 r1 r1 (qf (oP (ZcP g t hs.1 ht) func132 (Args.two (.pagg .t) (.pagg .t))) r2 qz (qf (o_not .t) r1 qz qZ)))) M [32,5,4,3,2] Kl fun G=>?_))))
 refine Zb G O (fun hc3=>?_) (fun hc3=>?_)
 ·have hg:=ZiV (Zo1 hr hrt hik Wi) XJ
  refine Ya (rZ G (qf (oB [] [.slice none 0 0,.slice none 0 0] [(0,1),(1,1)] .nil) trivial qz (qs 2 103 r2 r1 (qI qZ))) M KF Kl fun G=>(Yh (Ze ?_)))
  refine ZL hfr G O (.cl 103 true 2 O O (.tmp O .nil)) (.two WA (.int W9))
 have hnd:Zak g t=true:=Wi
 refine Yc (Za (Ya (Ya (rZ G (qe 2 101 r1 r1 (qe 3 102 r1 r1 (qf (oP (Zg7 g t hs.1 ht) func135 (Args.two (.pagg .t) (.pagg .t))) r2 qz qZ))) M [36,5,4,3,2] Kl fun G=>?_))))
 refine Zb G O (fun hc4=>?_) (fun hc4=>?_)
 ·have hg:=Zoc hr hrt hik hnd WG
  refine Ya (rZ G (qf (oB [] [.slice none 0 0,.slice none 0 0] [(0,1),(1,1)] .nil) trivial qz (qs 2 103 r2 r1 (qI qZ))) M KF Kl fun G=>(Yh (Ze ?_)))
  refine ZL hfr G O (.cl 103 true 2 O O (.tmp O .nil)) (.two WA (.int W9))
 have hg:=ZnU hs.2 hr hrt hik hnd WG
 refine Yc (Za (Ya (ZA G (qg 0 101 r1 r1 (qa 101 r1 r1 (qe 3 102 r1 r1 (qf (oP (Zkz g.txs t ow) func133 (Args.two .t (.pagg .t))) r2 qz (qg 1 101 r1 r1 (qa 101 r1 r1 (qe 3 102 r1 r1 (qf (oP (ZcW g.orders t hs.2 ht) func134 (Args.two .t (.pagg .t))) r2 qz (qf (oB [(0,.tmp 41),(1,.tmp 45)] [.slice none 0 0,.slice none 0 0] [(0,1),(1,1)] (.one O .t Z7 kr (.one O .t Z7 kr .nil))) r2 qz (qs 2 103 r2 r1 (qI qZ))))))))))) M KZ Kl O O fun a w F G=>?_)))
 have G:=Xa
 refine Za (Yh (ZL hfr G O (.cl 103 true 2 O O (.tmp O .nil)) (.two WA (.int W9))))
theorem Zh7 (g:Zs) (id:Int) (hs:Zbe g):FnP prog 70 [.agg (Zm g),.int .i64 id] (.tup [.agg (Zm (ZR g id).1),.int .i64 (ZR g id).2]):=by
 refine FnP.mk func70 O ntmps70 O fun B a w F M hfr G=>?_
 have hsl:=hs.1.1
 refine Ya (rS G (qx 101 r1 (qf (oH [.slice none 0 0,.slice none 0 0] 102) trivial qz (qI qZ))) M KU Ke fun τ G=>?_)
 have G:=X1
 generalize τ 2=v2,τ 4=v4 at G
 refine Za (Ya (Ya (rZ G (qe 2 101 r1 r1 (qf (oP (Zbc g hs) func128 (Args.one (.pagg .t))) r1 qz (qf (o_not .t) r1 qz qZ))) M [13,5,4,2,1] Ke fun G=>?_)))
 refine Zb G O (fun hc0=>?_) (fun hc0=>?_)
 ·have hr:¬ Zx g:=Wk
  have hg:=ZpS (id:=id) hr
  refine Ya (rZ G (qf (oB [] [.slice none 0 0,.slice none 0 0] [(0,1),(1,1)] .nil) trivial qz (qs 2 102 r2 r1 (qI qZ))) M KU Ke fun G=>(Yh (Ze ?_)))
  refine ZL hfr G O (.cl 102 true 2 O O (.tmp O .nil)) (.two WA (.int W9))
 have hr:Zx g:=Wk
 refine Yc (Za (Ya (Ya (rS G (qe 2 101 r1 r1 (qR rr (qf (oP (Zdc g id hs.1) func12 (Args.two (.pagg .t) .t)) r2 qz (qR rr (qf (Zn .t O) r1 qz (qf (Zn .t O) r1 qz (qf (oH [.int .i64 0,.bool false,.slice none 0 0] 103) trivial qz (qf (oA 3 103 .same (.conv .t .agg)) r2 r1 (qO rr qZ))))))))) M [7,5,4,2,1] Kg fun τ G=>?_))))
 have G:=X0
 generalize τ 6=v6 at G
 refine Za (Ya (rZ G (qR rr (qf (o_not .t) r1 qz qZ)) M [22,5,4,2,1] Kg fun G=>?_))
 refine Zb G O (fun hc1=>?_) (fun hc1=>?_)
 ·have hg:=ZpG (id:=id) hr (by rw [← Zcj];simpa using hc1)
  refine Ya (rZ G (qf (oB [] [.slice none 0 0,.slice none 0 0] [(0,1),(1,1)] .nil) trivial qz (qs 2 102 r2 r1 (qI qZ))) M KU Kg fun G=>(Yh (Ze ?_)))
  refine ZL hfr G O (.cl 102 true 2 O O (.tmp O .nil)) (.two WA (.int W9))
 have hik:isK TxD.id id g.txs=true:=by rw [← Zcj];simpa using hc1
 refine Yc (Za (Ya (Ya (rZ G (qe 2 101 r1 r1 (qR rr (qf (oB [(0,.tmp 25)] [.int .i64 0,.bool false,.slice none 0 0] [(0,1),(1,1),(2,1)] (.one O .t one_int kr .nil)) r1 qz (qf (oP (Zg7 g (Zbg id) hs.1 WB) func135 (Args.two (.pagg .t) (.conv (.pagg .t) (Ent.paggLe (l:=[.int .i64 id,.bool false,.is (.slice none 0 0)]) (l':=[.int .i64 id,.bool false,.sl rOp []]) ⟨ZW.refl,ZW.refl,ZW.nilSl,tv⟩)))) r2 qz qZ)))) M [27,5,4,2,1] Kg fun G=>?_))))
 refine Zb G O (fun hc2=>?_) (fun hc2=>?_)
 ·have hg:=ZpK (id:=id) hr hik Wh
  refine Ya (rZ G (qf (oB [] [.slice none 0 0,.slice none 0 0] [(0,1),(1,1)] .nil) trivial qz (qs 2 102 r2 r1 (qI qZ))) M KU Kg fun G=>(Yh (Ze ?_)))
  refine ZL hfr G O (.cl 102 true 2 O O (.tmp O .nil)) (.two WA (.int W9))
 have hud:ZcD g (Zbg id)=false:=Wh
 refine Yc (Za (Ya (rZ G (qC qZ) M [8,5,4,2,1] Kg fun G=>(Ya (Ya ?_)))))
 refine rZ G (qg 0 101 r1 r1 (qa 101 r1 r1 (qu Ybt r1 (qJ qZ)))) M Q6 Kg fun G=>Yf ?_
 replace G:=G.fresh 50 rfl
 replace G:=G.turn 50 O (ZaC (T:=36) (sz:=3) (R:=rTx))
 refine Zj (σ:=(Nat)×(Value)×(List TxD)) [1,2,4,5,30,31] [0,101,102,103] (fun s=>[(32,.pv (.int .i64 (s.1:Int))),(8,.pv (.is s.2.1))]) (fun s=>[(50,.ob (.val s.2.1) (ZC 36 3 rTx s.2.2))]) (fun s=>s.1≤g.txs.length∧(s.2.2=((g.txs.take s.1).filter fun x=>!decide (x.id=id)))) (fun s=>g.txs.length - s.1) ((0),(.slice none 0 0),([])) G ⟨rfl,rfl,rfl,rfl,rfl,rfl,rfl,rfl,tv⟩ ⟨rfl,rfl,rfl,rfl,rfl,tv⟩ ⟨Yp _,rfl⟩ ?_
 clear G;intro s a w F hC G
 obtain ⟨i,v,out⟩:=s
 have hC:=X4
 obtain ⟨F,G⟩:=G.nM Q6 Kq
 have G:=X2
 obtain ⟨hi,hq⟩:=hC
 have hol:out.length≤i:=K6
 refine Ya (rZ G (qL r2) M Js Kq fun G=>Ya ?_)
 refine Zb G O (fun hc3=>?_) (fun hc3=>?_)
 ·have hil:i<g.txs.length:=WX
  refine Yc (Za (Ya (Yf (Ya (rS G (qy 3 Ybt r2 (qf (oR true 3 .t) r1 qz (qf (oH [.int .i64 0,.bool false,.slice none 0 0] 104) trivial qz (qS 3 104 r2 r1 qZ)))) M [32,31,30,10,8,5,4,2,1] Kt fun τ G=>?_)))))
  have G:=X0
  generalize τ 10=v10 at G
  try simp only [Yg] at G
  refine Za (Ya (rZ G (qg 0 104 r1 r1 (qa 104 r1 r1 (qR rr (qf (o_neq .t .t) r2 qz qZ)))) M [39,32,31,30,10,8,5,4,2,1] Kt fun G=>?_))
  refine Zb G O (fun hc4=>?_) (fun hc4=>?_)
  ·have hst9:out ++ [(Nn g.txs i)] = ((g.txs.take (i+1)).filter fun x=>!decide (x.id=id)):=by rw [Zu hil,YU,← hq,YW WG];rfl
   refine rS G (qR rr (qe 3 104 r1 r1 (qf (Zo (sz:=3) (zs:=[.int .i64 0,.bool false,.slice none 0 0]) (r:=[(0,.tmp 41)]) (l:=[_,_,_]) Ybt kr kr kr kr O O (.agg O .t kr kr .nil) O) r1 qz (qf (o_append (sz:=3) (bs:=40) 50 (.mk' Ybt kr kr) XW .is (.arr (l':=[(Nn g.txs i)]) .t) W7 XJ) ⟨rfl,rfl,tv⟩ ⟨rfl,tv⟩ (qO rr qZ))))) M Q6 Kt fun τ G=>?_
   have G:=X0
   generalize τ 43=v43 at G
   refine Zh (Za (rZ G (qp r1 (qR rr qZ)) M Q6 Kt fun G=>?_))
   replace G:=G.eI 32 i
   obtain ⟨F,G⟩:=G.nM [31,30,5,4,2,1,8,32] [103,102,101,0,50]
   exact ⟨((i+1),_,_),F,⟨ow,hst9⟩,G,ow⟩
  have hst9:out=((g.txs.take (i+1)).filter fun x=>!decide (x.id=id)):=by rw [Zu hil,YU,← hq,YX WG,Ybo,Y3]
  refine Yc (Zh (Za (rZ G (qp r1 (qR rr qZ)) M Q6 Kt fun G=>?_)))
  replace G:=G.eI 32 i
  obtain ⟨F,G⟩:=G.nM [31,30,5,4,2,1,8,32] [103,102,101,0,50]
  exact ⟨((i+1),_,_),F,⟨ow,hst9⟩,G,ow⟩
 have hil:i=g.txs.length:=WX
 have hout:out=g.txs.filter fun x=>!decide (x.id=id):=K5
 subst hout
 have hg:=ZpL (id:=id) hs.2 hr hik hud
 refine Yt (Zg (Zg (Zp (Za (Ya ?_)))))
 obtain ⟨F,G⟩:=G.give 50 8 O rfl
 obtain ⟨F,G⟩:=G.nM Js Kg
 refine rZ G (qR rr (qg 1 101 r1 r1 (qa 101 r1 r1 (qR rr (qf (oB [(0,.tmp 48)] [.int .i64 0,.bool false,.slice none 0 0] [(0,1),(1,1),(2,1)] (.one O .t one_int kr .nil)) r1 qz (qf (oP (ZcW g.orders (Zbg id) hs.2 WB) func134 (Args.two .t (.conv (.pagg .t) (Ent.paggLe (l:=[.int .i64 id,.bool false,.is (.slice none 0 0)]) (l':=[.int .i64 id,.bool false,.sl rOp []]) ⟨ZW.refl,ZW.refl,ZW.nilSl,tv⟩)))) r2 qz (qf (oB [(0,.tmp 45),(1,.tmp 50)] [.slice none 0 0,.slice none 0 0] [(0,1),(1,1)] (.one O .t Z7 kr (.one O .t Z7 kr .nil))) r2 qz (qs 2 102 r2 r1 (qI qZ))))))))) M KZ Kg fun G=>Yh ?_
 refine ZL hfr G O (.cl 102 true 2 O O (.tmp O .nil)) (.two WA (.int W9))
theorem Zg2 (g:Zs) (o:OrdD) (hs:Zbe g) (ho:o.txs.length≤1000):FnP prog 72 [.agg (Zm g),.agg (Zv o)] (.tup [.agg (Zm (Zbz g o).1),.int .i64 (Zbz g o).2]):=by
 refine FnP.mk func72 O ntmps72 O fun B a w F M hfr G=>?_
 have hso:=hs.2.1
 refine Ya (rS G (qx 101 r1 (qx 102 r1 (qf (oH [.slice none 0 0,.slice none 0 0] 103) trivial qz (qI qZ)))) M KF Kg fun τ G=>?_)
 have G:=X1
 generalize τ 2=v2,τ 3=v3,τ 4=v4 at G
 refine Za (Ya (Ya (rZ G (qe 2 101 r1 r1 (qf (oP (Zbc g hs) func128 (Args.one (.pagg .t))) r1 qz (qf (o_not .t) r1 qz qZ))) M [9,5,4,3,2] Kg fun G=>?_)))
 refine Zb G O (fun hc0=>?_) (fun hc0=>?_)
 ·have hr:¬ Zx g:=Wk
  have hg:Zbz g o=(Zah,5):=ZkG hr
  refine Ya (rZ G (qf (oB [] [.slice none 0 0,.slice none 0 0] [(0,1),(1,1)] .nil) trivial qz (qs 2 103 r2 r1 (qI qZ))) M KF Kg fun G=>(Yh (Ze ?_)))
  refine ZL hfr G O (.cl 103 true 2 O O (.tmp O .nil)) (.two WA (.int W9))
 have hr:Zx g:=Wk
 refine Yc (Za (Ya (rZ G (qe 2 101 r1 r1 (qg 0 102 r1 r1 (qa 102 r1 r1 (qf (oP (ZdY g o.key) func20 (Args.two (.pagg .t) .t)) r2 qz (qO rr qZ))))) M Jw Kg fun G=>(Ya (Ya ?_)))))
 refine rZ G (qR rr (qu Ybs r1 (qf (o_eql .t qi) r1 qz qZ))) M [17,6,5,4,3,2] Kg fun G=>?_
 refine Zb G O (fun hc1=>?_) (fun hc1=>?_)
 ·have hg:Zbz g o=(Zah,3):=ZlW hr Wj
  refine Ya (rZ G (qf (oB [] [.slice none 0 0,.slice none 0 0] [(0,1),(1,1)] .nil) trivial qz (qs 2 103 r2 r1 (qI qZ))) M Jw Kg fun G=>(Yh (Ze ?_)))
  refine ZL hfr G O (.cl 103 true 2 O O (.tmp O .nil)) (.two WA (.int W9))
 have hgn:(getO g.orders o.key)≠[]:=Wj
 have hwl:=Zgn hs.2 o.key
 refine Yc (Za (Ya (Ya (rZ G (qR rr (qg 1 102 r1 r1 (qa 102 r1 r1 (qf (oP (ZiB (getO g.orders o.key) o.txs) func136 (Args.two .t .t)) r2 qz (qf (o_not .t) r1 qz qZ))))) M [23,5,4,3,2] Kg fun G=>?_))))
 refine Zb G O (fun hc2=>?_) (fun hc2=>?_)
 ·have hp:¬ (getO g.orders o.key).Perm o.txs:=Wh
  have hru:ZgI o (getO g.orders o.key)=([],8):=Yb hp
  have hg:Zbz g o=(Zah,8):=by have:=Zlk (rule:=ZgI o) hr hgn (by rw [hru];decide);rw [hru] at this;exact this
  refine Ya (rZ G (qf (oB [] [.slice none 0 0,.slice none 0 0] [(0,1),(1,1)] .nil) trivial qz (qs 2 103 r2 r1 (qI qZ))) M KF Kg fun G=>(Yh (Ze ?_)))
  refine ZL hfr G O (.cl 103 true 2 O O (.tmp O .nil)) (.two WA (.int W9))
 have hp:(getO g.orders o.key).Perm o.txs:=Wh
 have hru:ZgI o (getO g.orders o.key)=(o.txs,0):=Ye hp
 have hg:Zbz g o=(⟨g.txs,putGR OrdD.key o g.orders (decide (o.txs = []))⟩,0):=by have:=Zj5 (rule:=ZgI o) hr hgn (by rw [hru]) (by rw [hru];intro e;have e:o.txs = []:=e;rw [e] at hp;exact hgn hp.eq_nil);rw [hru] at this;exact this
 refine Yc (Za (Ya (ZA G (qg 0 101 r1 r1 (qa 101 r1 r1 (qg 1 101 r1 r1 (qa 101 r1 r1 (qe 2 102 r1 r1 (qf (oP (Zcu g.orders o ow) func137 (Args.two .t (.pagg .t))) r2 qz (qf (oB [(0,.tmp 26),(1,.tmp 30)] [.slice none 0 0,.slice none 0 0] [(0,1),(1,1)] (.one O .t Z7 kr (.one O .t Z7 kr .nil))) r2 qz (qs 2 103 r2 r1 (qI qZ))))))))) M KZ Kg O O fun a w F G=>?_)))
 have G:=Xa
 refine Za (Yh (ZL hfr G O (.cl 103 true 2 O O (.tmp O .nil)) (.two WA (.int W9))))
theorem Zlg (g:Zs) (key id place:Int) (hs:Zbe g):FnP prog 73 [.agg (Zm g),.int .i64 key,.int .i64 id,.int .i64 place] (.tup [.agg (Zm (ZhL g key id place).1),.int .i64 (ZhL g key id place).2]):=by
 refine FnP.mk func73 O ntmps73 O fun B a w F M hfr G=>?_
 have hso:=hs.2.1
 refine Ya (rS G (qx 101 r1 (qf (oH [.slice none 0 0,.slice none 0 0] 102) trivial qz (qI qZ))) M [9,8,4,3,2,1] Ke fun τ G=>?_)
 have G:=X1
 generalize τ 4=v4,τ 8=v8 at G
 refine Za (Ya (Ya (rZ G (qe 2 101 r1 r1 (qf (oP (Zbc g hs) func128 (Args.one (.pagg .t))) r1 qz (qf (o_not .t) r1 qz qZ))) M [15,9,8,4,3,2,1] Ke fun G=>?_)))
 refine Zb G O (fun hc0=>?_) (fun hc0=>?_)
 ·have hr:¬ Zx g:=Wk
  have hg:ZhL g key id place=(Zah,5):=ZkG hr
  refine Ya (rZ G (qf (oB [] [.slice none 0 0,.slice none 0 0] [(0,1),(1,1)] .nil) trivial qz (qs 2 102 r2 r1 (qI qZ))) M [9,8,4,3,2,1] Ke fun G=>(Yh (Ze ?_)))
  refine ZL hfr G O (.cl 102 true 2 O O (.tmp O .nil)) (.two WA (.int W9))
 have hr:Zx g:=Wk
 have hwl:=Zgn hs.2 key
 refine Yc (Za (Ya (rZ G (qe 2 101 r1 r1 (qR rr (qf (oP (ZdY g key) func20 (Args.two (.pagg .t) .t)) r2 qz (qO rr qZ)))) M [10,9,8,4,3,2,1] Ke fun G=>(Ya (Ya ?_)))))
 refine rZ G (qR rr (qu Ybs r1 (qf (o_eql .t qi) r1 qz qZ))) M [22,10,9,8,4,3,2,1] Ke fun G=>?_
 refine Zb G O (fun hc1=>?_) (fun hc1=>?_)
 ·have hg:ZhL g key id place=(Zah,3):=ZlW hr Wj
  refine Ya (rZ G (qf (oB [] [.slice none 0 0,.slice none 0 0] [(0,1),(1,1)] .nil) trivial qz (qs 2 102 r2 r1 (qI qZ))) M [10,9,8,4,3,2,1] Ke fun G=>(Yh (Ze ?_)))
  refine ZL hfr G O (.cl 102 true 2 O O (.tmp O .nil)) (.two WA (.int W9))
 have hgn:(getO g.orders key)≠[]:=Wj
 refine Yc (Za (Ya (rZ G (qR rr (qR rr (qR rr (qf (oP (Zm7 (getO g.orders key) id place ow) func138 (Args.three .t .t .t)) r3 qz (qR rr (qf (Zn .t O) r1 qz (qf (Zn .t O) r1 qz (qO rr (qO rr qZ))))))))) M [12,11,9,8,4,1] Ke fun G=>(Ya (Ya ?_)))))
 refine rZ G (qR rr (qf (o_neq .t qi) r1 qz qZ)) M [32,12,11,9,8,4,1] Ke fun G=>?_
 refine Zb G O (fun hc2=>?_) (fun hc2=>?_)
 ·have hg:ZhL g key id place=(Zah,(Zbk (getO g.orders key) id place).2):=Zlk (rule:=fun l=>Zbk l id place) hr hgn Wh
  refine Ya (rZ G (qf (oB [] [.slice none 0 0,.slice none 0 0] [(0,1),(1,1)] .nil) trivial qz (qR rr (qs 2 102 r2 r1 (qO rr qZ)))) M [11,9,8,4,1] Ke fun G=>(Yh (Ze ?_)))
  refine ZL hfr G O (.cl 102 true 2 O O (.tmp O .nil)) (.two WA (.int W9))
 have hm0:(Zbk (getO g.orders key) id place).2=0:=Wh
 have hg:ZhL g key id place=(⟨g.txs,putGR OrdD.key ⟨key,(Zbk (getO g.orders key) id place).1⟩ g.orders (decide ((Zbk (getO g.orders key) id place).1 = []))⟩,0):=Zj5 (rule:=fun l=>Zbk l id place) hr hgn hm0 (fun e=>hgn (by have hp:=Zhw hm0;rw [e] at hp;exact hp.symm.eq_nil))
 refine Yc (Za (Ya (ZA G (qg 0 101 r1 r1 (qa 101 r1 r1 (qg 1 101 r1 r1 (qa 101 r1 r1 (qR rr (qR rr (qf (oB [(0,.tmp 39),(1,.tmp 40)] [.int .i64 0,.slice none 0 0] [(0,1),(1,1)] (.one O .t one_int kr (.one O .t Z7 kr .nil))) r2 qz (qf (oP (Zcu g.orders ⟨key,(Zbk (getO g.orders key) id place).1⟩ ow) func137 (Args.two .t (.pagg .t))) r2 qz (qf (oB [(0,.tmp 36),(1,.tmp 42)] [.slice none 0 0,.slice none 0 0] [(0,1),(1,1)] (.one O .t Z7 kr (.one O .t Z7 kr .nil))) r2 qz (qs 2 102 r2 r1 (qI qZ))))))))))) M [9,8] Ke O O fun a w F G=>?_)))
 have G:=Xa
 refine Za (Yh (ZL hfr G O (.cl 102 true 2 O O (.tmp O .nil)) (.two WA (.int W9))))
def wSum (l:List TxD):Nat:=(l.map fun t=>t.ops.length+1).sum
theorem Zg6 {l:List TxD} {i:Nat} (hi:i<l.length):wSum (l.take (i+1))=wSum (l.take i)+((Nn l i).ops.length+1):=by
 unfold wSum
 rw [Zu hi,Yaj,List.sum_append];rfl
theorem ZkB {l:List TxD} (h:Zae l):∀ i,i≤l.length→wSum (l.take i)≤1001*i
 | 0,_=>by simp [wSum]
 | i+1,hi=>by
  have:=ZkB h i ow
  have:=h.at (i:=i) ow
  rw [Zg6 ow];omega
theorem ZfD {os:List OrdD} {k:Int} : (Z0 (fun o:OrdD=>decide (o.key=k)) os<0→getO os k = [])∧(¬ Z0 (fun o:OrdD=>decide (o.key=k)) os<0 → ∃ i:Nat,Z0 (fun o:OrdD=>decide (o.key=k)) os=i∧i<os.length∧getO os k=(Nn os i).txs):=by
 rcases Zaz (fun o:OrdD=>decide (o.key=k)) os with ⟨h1,h2⟩ | ⟨i,h1,h2,h3,h4⟩
 ·exact ⟨fun _=>ZkV fun q hq=>by simpa using h2 q hq,fun h=>absurd (by rw [h1];decide) h⟩
 ·exact ⟨fun h=>by rw [h1] at h;omega,fun _=>⟨i,h1,h2,Zk7 h2 XH fun q hq=>by simpa using h4 q hq⟩⟩
def Fit (n:Nat) (g:Zs):Prop:=(g.txs.length≤n ∧ ∀ t ∈ g.txs,t.ops.length≤24)∧g.orders.length≤24*n ∧ ∀ o ∈ g.orders,o.txs.length≤n
theorem Fit.small {n:Nat} {g:Zs} (h:Fit n g) (hn:n≤30):Zbe g:=by
 obtain ⟨⟨h1,h2⟩,h3,h4⟩:=h
 exact ⟨⟨ow,fun t ht=>by have:=h2 t ht;omega⟩,ow,fun o ho=>by have:=h4 o ho;omega⟩
theorem Fit.zero:Fit 0 Zah:=⟨⟨by simp [Zah],fun t ht=>by cases ht⟩,by simp [Zah],fun o ho=>by cases ho⟩
theorem Fit.up {n:Nat} {g:Zs} (h:Fit n g):Fit (n+1) g:=⟨⟨by have:=h.1.1;omega,h.1.2⟩,by have:=h.2.1;omega,fun o ho=>by have:=h.2.2 o ho;omega⟩
theorem Fit.none {n:Nat} : Fit n Zah:=by
 induction n with
 | zero=>exact Fit.zero
 | succ n ih=>exact ih.up
theorem Zj7 {os:List OrdD} {ks:List Int} {t:TxD} {o:OrdD} (h:o ∈ Zav t os ks):o ∈ os∨o.txs = []:=by
 unfold Zav at h
 split at h
 ·have key:∀ (ks:List Int) (os:List OrdD),o ∈ ks.foldl Zef os→o ∈ os∨o.txs = []:=by
   intro ks
   induction ks with
   | nil=>intro os h;exact .inl h
   | cons k ks ih=>
    intro os h
    rcases ih _ h with h | h
    ·rcases ZiZ h with h | h
     ·exact .inl h
     ·exact .inr (by rw [h])
    ·exact .inr h
  exact key ks os h
 ·exact .inl h
theorem ZjH {n:Nat} {t:TxD} {os:List OrdD} (ht:t.ops.length≤24) (h1:os.length≤24*n) (h2:∀ o ∈ os,o.txs.length≤n):(settleO t os).length≤24*(n+1) ∧ ∀ o ∈ settleO t os,o.txs.length≤n+1:=by
 have hk:=Zbj t
 have hl:(Zav t os (Zl t)).length≤os.length+(Zl t).length:=by
  unfold Zav
  split
  ·have key:∀ (ks:List Int) (os:List OrdD),(ks.foldl Zef os).length≤os.length+ks.length:=by
    intro ks
    induction ks with
    | nil=>intro os;simp
    | cons k ks ih=>intro os;have h1:=ih (Zef os k);have h2:=ZiQ os k;rw [Yas,Yl];omega
   exact key _ _
  ·omega
 unfold settleO
 refine ⟨Y5 (YG _ _) (by rw [Y9];omega),fun o ho=>?_⟩
 obtain ⟨o',ho',e⟩:=YI.1 (YA.1 ho).1
 have hlen:o'.txs.length≤n:=by
  rcases Zj7 ho' with h | h
  ·exact h2 o' h
  ·rw [h];simp
 rw [← e]
 unfold ZhV
 show (if _ then _ else _:List Int).length≤_
 split
 ·unfold withO;split
  ·omega
  ·simp;omega
 ·unfold withoutO
  exact Y5 (YG _ _) ow
theorem ZfH {n:Nat} {g:Zs} {key:Int} {rule:List Int→List Int×Int} (hr:∀ l,(rule l).2=0→(rule l).1.length≤l.length) (h:Fit n g):Fit n (ZaN g key rule).1:=by
 unfold ZaN
 split
 ·exact Fit.none
 ·split
  ·exact Fit.none
  ·split
   ·exact Fit.none
   ·rename_i h1 h2 h3
    refine ⟨h.1,by show (List.set _ _ _).length≤_;rw [YT];exact h.2.1,fun o ho=>?_⟩
    rcases List.mem_or_eq_of_mem_set ho with h4 | h4
    ·exact h.2.2 o h4
    ·have hk:isK OrdD.key key g.orders=true:=XO
     have hlt:=(ZeI (ZZ (YH.1 h1)).2 hk).1
     have:=hr _ (YH.1 h3)
     have:=h.2.2 _ (ZT hlt)
     rw [h4];show (rule _).1.length≤n;omega
theorem Fit.doH {n:Nat} {g:Zs} {e:EdD} (h:Fit n g) (he:ZbF e):Fit (n+1) (doH g e).1:=by
 have hset:∀ t:TxD,t.ops.length≤24 → ∀ txs:List TxD,txs.length≤n+1→(∀ t ∈ txs,t.ops.length≤24)→Fit (n+1) ⟨txs,settleO t g.orders⟩:=fun t ht txs h1 h2=>by
  obtain ⟨h3,h4⟩:=ZjH ht h.2.1 h.2.2
  exact ⟨⟨h1,h2⟩,h3,h4⟩
 unfold Go.Proofs.YtfecljadegkmdaaGreat.doH
 split
 ·unfold ZaE
  split
  ·exact Fit.none
  ·split
   ·exact Fit.none
   ·refine hset _ he.1 _ ?_ fun t ht=>?_
    ·have:=h.1.1;rw [Yd,Yd,Yj,Yu];simp;omega
    ·rw [YC,YC] at ht
     rcases ht with (ht | ht) | ht
     ·exact h.1.2 t (Yax ht)
     ·rw [Yn.1 ht];exact he.1
     ·exact h.1.2 t (YaG ht)
 ·split
  ·unfold ZR
   split
   ·exact Fit.none
   ·split
    ·exact Fit.none
    ·split
     ·exact Fit.none
     ·refine hset _ WB _ ?_ fun t ht=>?_
      ·have:=h.1.1;rw [Yd,Yj,Yu];omega
      ·rw [YC] at ht
       rcases ht with ht | ht
       ·exact h.1.2 t (Yax ht)
       ·exact h.1.2 t (YaG ht)
  ·split
   ·unfold Zbt
    split
    ·exact Fit.none
    ·split
     ·exact Fit.none
     ·refine hset _ he.1 _ ?_ fun t ht=>?_
      ·have:=h.1.1;rw [YT];omega
      ·rcases List.mem_or_eq_of_mem_set ht with ht | ht
       ·exact h.1.2 t ht
       ·rw [ht];exact he.1
   ·split
    ·refine (ZfH (fun l h0=>?_) h).up
     unfold ZgI at h0 ⊢
     split at h0
     ·rename_i hp;rw [Ye hp,hp.length_eq];exact YP _
     ·simp at h0
    ·split
     ·exact (ZfH (fun l h0=>by show (Zbk l _ _).1.length≤_;exact Zkr _ _ _) h).up
     ·exact Fit.none
theorem Zmc {l:List EdD} {i:Nat} (h:∀ e ∈ l,ZbF e) (hi:i<l.length):ZbF (Nn l i):=h _ (ZT hi)
theorem Zki {l:List EdD} {i:Nat} (hi:i<l.length) (h:¬ ZbF (Nn l i)):false=decide (Zfb l):=(Yw fun h2=>h (h2.2 _ (ZT hi))).symm
theorem Zks {l:List EdD} (h0:l.length≤24) (h:∀ q,q<l.length→ZbF (Nn l q)):true=decide (Zfb l):=(YS ⟨h0,fun e he=>by
 obtain ⟨j,hj,e2⟩:=YK he
 have:=h j hj
 rwa [Zw hj,e2] at this⟩).symm
theorem Zot (g:Zs) (e:EdD) (hs:Zbe g) (he:ZbF e):FnP prog 30 [.agg (Zm g),.agg (rEd e)] (.tup [.agg (Zm (doH g e).1),.int .i64 (doH g e).2]):=by
 refine FnP.mk func30 O ntmps30 O fun B a w F M hfr G=>Ya ?_
 refine rS G (qx 101 r1 (qx 102 r1 (qf (oH [.slice none 0 0,.slice none 0 0] 103) trivial qz (qI qZ)))) M KF Kg fun τ G=>?_
 have G:=Xr
 generalize τ 2=v2,τ 3=v3,τ 4=v4 at G
 refine Za (Ya (Ya (rZ G (qg 0 102 r1 r1 (qa 102 r1 r1 qZ)) M [7,5,4,3,2] Kg fun G=>(Yf (Ya ?_)))))
 refine rZ G (qf (o_eql .t qi) r1 qz (qO rr qZ)) M [8,7,5,4,3,2] Kg fun G=>?_
 refine Zb G O (fun hc0=>?_) (fun hc0=>?_)
 ·have hg:doH g e=ZaE g e.t:=by unfold doH;rw [Ye Wk]
  refine Ya (rZ G (qe 2 101 r1 r1 (qg 1 102 r1 r1 (qf (oL true 3 102 .adr) r1 r1 (qf (oP (Zh4 g e.t hs (by have:=he.1;omega)) func69 (Args.two (.pagg .t) (.pagg .t))) r2 qz (qf (Zn .t O) r1 qz (qf (Zn .t O) r1 qz (qf (oA 2 103 .is (.conv .t .agg)) r2 r1 (qO rr qZ)))))))) M KZ Kg fun G=>(Yh (Zq (Ze ?_))))
  refine ZL hfr G O (.cl 103 true 2 O O (.tmp O .nil)) (.two WA (.int W9))
 have k0:¬ e.kind=0:=Wk
 refine Ya (rZ G (qf (o_eql .t qi) r1 qz (qO rr qZ)) M [16,7,5,4,3,2] Kg fun G=>?_)
 refine Zb G O (fun hc1=>?_) (fun hc1=>?_)
 ·have hg:doH g e=ZR g e.t.id:=by unfold doH;rw [Yb k0,Ye Wj]
  refine Ya (rZ G (qe 2 101 r1 r1 (qg 1 102 r1 r1 (qf (oF 0 102 .adr) r1 r1 (qa 102 r1 r1 (qf (oP (Zh7 g e.t.id hs) func70 (Args.two (.pagg .t) .t)) r2 qz (qf (Zn .t O) r1 qz (qf (Zn .t O) r1 qz (qf (oA 2 103 .is (.conv .t .agg)) r2 r1 (qO rr qZ))))))))) M KZ Kg fun G=>(Yh (Zq (Ze ?_))))
  refine ZL hfr G O (.cl 103 true 2 O O (.tmp O .nil)) (.two WA (.int W9))
 have k1:¬ e.kind=1:=Wj
 refine Ya (rZ G (qf (o_eql .t qi) r1 qz (qO rr qZ)) M [25,7,5,4,3,2] Kg fun G=>?_)
 refine Zb G O (fun hc2=>?_) (fun hc2=>?_)
 ·have hg:doH g e=Zbt g e.t:=by unfold doH;rw [Yb k0,Yb k1,Ye Wh]
  refine Ya (rZ G (qe 2 101 r1 r1 (qg 1 102 r1 r1 (qf (oL true 3 102 .adr) r1 r1 (qf (oP (ZjE g e.t hs (by have:=he.1;omega)) func71 (Args.two (.pagg .t) (.pagg .t))) r2 qz (qf (Zn .t O) r1 qz (qf (Zn .t O) r1 qz (qf (oA 2 103 .is (.conv .t .agg)) r2 r1 (qO rr qZ)))))))) M KZ Kg fun G=>(Yh (Zq (Ze ?_))))
  refine ZL hfr G O (.cl 103 true 2 O O (.tmp O .nil)) (.two WA (.int W9))
 have k2:¬ e.kind=2:=Wh
 refine Ya (rZ G (qf (o_eql .t qi) r1 qz (qO rr qZ)) M [33,7,5,4,3,2] Kg fun G=>?_)
 refine Zb G O (fun hc3=>?_) (fun hc3=>?_)
 ·have hg:doH g e=Zbz g e.o:=by unfold doH;rw [Yb k0,Yb k1,Yb k2,Ye Wi]
  refine Ya (rZ G (qe 2 101 r1 r1 (qg 4 102 r1 r1 (qf (oL true 2 102 .adr) r1 r1 (qf (oP (Zg2 g e.o hs (by have:=he.2;omega)) func72 (Args.two (.pagg .t) (.pagg .t))) r2 qz (qf (Zn .t O) r1 qz (qf (Zn .t O) r1 qz (qf (oA 2 103 .is (.conv .t .agg)) r2 r1 (qO rr qZ)))))))) M KZ Kg fun G=>(Yh (Zq (Ze ?_))))
  refine ZL hfr G O (.cl 103 true 2 O O (.tmp O .nil)) (.two WA (.int W9))
 have k3:¬ e.kind=3:=Wi
 refine Ya (rZ G (qf (o_eql .t qi) r1 qz (qO rr qZ)) M [41,5,4,3,2] Kg fun G=>?_)
 refine Zb G O (fun hc4=>?_) (fun hc4=>?_)
 ·have hg:doH g e=ZhL g e.o.key e.t.id e.place:=by unfold doH;rw [Yb k0,Yb k1,Yb k2,Yb k3,Ye WG]
  refine Ya (rZ G (qe 2 101 r1 r1 (qg 4 102 r1 r1 (qf (oF 0 102 .adr) r1 r1 (qa 102 r1 r1 (qg 1 102 r1 r1 (qf (oF 0 102 .adr) r1 r1 (qa 102 r1 r1 (qg 6 102 r1 r1 (qa 102 r1 r1 (qf (oP (Zlg g e.o.key e.t.id e.place hs) func73 (Args.four (.pagg .t) .t .t .t)) r4 qz (qf (Zn .t O) r1 qz (qf (Zn .t O) r1 qz (qf (oA 2 103 .is (.conv .t .agg)) r2 r1 (qO rr qZ)))))))))))))) M KZ Kg fun G=>(Yh (Zq (Ze ?_))))
  refine ZL hfr G O (.cl 103 true 2 O O (.tmp O .nil)) (.two WA (.int W9))
 have hg:doH g e=(Zah,5):=by unfold doH;rw [Yb k0,Yb k1,Yb k2,Yb k3,Yb WG]
 refine Yc (Zh (Za (Ya (rZ G (qf (oB [] [.slice none 0 0,.slice none 0 0] [(0,1),(1,1)] .nil) trivial qz (qs 2 103 r2 r1 (qI qZ))) M KZ Kg fun G=>Yh ?_))))
 refine ZL hfr G O (.cl 103 true 2 O O (.tmp O .nil)) (.two WA (.int W9))
theorem ZmD (e:EdD):FnP prog 47 [.agg (rEd e)] (.bool (decide (ZbF e))):=by
 refine FnP.mk func47 O ntmps47 O fun B a w F M hfr G=>Ya ?_
 refine rS G (qx 101 r1 qB) M Ky Kf fun τ G=>?_
 have G:=Xr
 generalize τ 1=v1 at G
 refine Za (Ya (rZ G (qg 1 101 r1 r1 (qf (oF 2 101 .adr) r1 r1 (qa 101 r1 r1 (qu Ybv r1 (qf (Zio .t qi) r1 qz (qR rr (qv 4 101 O r2 r1 (qk O (fun h=>oF 1 101 (.w h .adr)) r2 r1 (qw 101 O r2 r1 (qk O (fun h=>ZbV Ybs (.w h)) r2 qz (qk O (fun h=>Zio (.w h) qi) r2 qz (qf (o_and2 .t .t) r2 qz (qO rr qZ))))))))))))) M [2] Kf fun G=>Yh ?_))
 refine Zr hfr G O O O (.bool (by rw [Y4,Yi,Yr,Yi,Yi];unfold ZbF;omega))
theorem ZmW (l:List EdD):FnP prog 29 [.sl rEd l] (.bool (decide (Zfb l))):=by
 refine FnP.mk func29 O ntmps29 O fun B a w F M hfr G=>?_
 have hll:=Sat.lenSl G (i:=0) rfl
 refine Ya (rZ G qB M KO [0] fun G=>(Ya (Ya ?_)))
 refine rZ G (qR rr (qu underlying72 r1 (qf (Za7 .t qi) r1 qz qZ))) M [7,2,0] [0] fun G=>?_
 refine Zb G O (fun hc0=>?_) (fun hc0=>?_)
 ·have hg:false=decide (Zfb l):=(Yw fun h9=>by have:=h9.1;simp at hc0;omega).symm
  refine Ya (rZ G qB M KO [0] fun G=>(Yh (Ze ?_)))
  refine Zr hfr G O O O (.bool hg)
 have hl0:l.length≤24:=XV
 refine Yc (Za (Ya (Ya (rZ G (qR rr (qu underlying72 r1 (qJ qZ))) M JB [0] fun G=>Yf ?_))))
 refine Zj (σ:=(Nat)) [2,8,9] [0] (fun s=>[(10,.pv (.int .i64 (s:Int)))]) (fun s=>[]) (fun s=>s≤l.length∧(∀ q,q<s→ZbF (Nn l q))) (fun s=>l.length - s) (0) G ⟨rfl,rfl,rfl,rfl,tv⟩ ⟨rfl,tv⟩ ⟨Yp _,fun q hq=>absurd hq (YO q)⟩ ?_
 clear G;intro i a w F hC G
 have hC:=X4
 obtain ⟨F,G⟩:=G.nM JB [0]
 have G:=X2
 obtain ⟨hi,hq⟩:=hC
 refine Ya (rZ G (qL r2) M [11,10,9,8,2] [0] fun G=>Ya ?_)
 refine Zb G O (fun hc1=>?_) (fun hc1=>?_)
 ·have hil:i<l.length:=XU
  refine Yc (Za (Ya (Yf (Ya (rS G (qy 7 underlying72 r2 (qf (oR true 7 .t) r1 qz (qf (oH [.int .i64 0,.int .i64 0,.bool false,.slice none 0 0,.int .i64 0,.slice none 0 0,.int .i64 0] 101) trivial qz (qS 7 101 r2 r1 qZ)))) M QV Kf fun τ G=>?_)))))
  try dsimp only [RS.sub,SF.sub,CF.sub,csub,Anc.sub,List.map,Zc,xL,xM,Nat.reduceAdd,xD,xE,xT,xU,xC,xN,zCF,ldSF,Zm,rTx,Zv,Zy,Zk,rOp,rEd] at G
  generalize τ 4=v4 at G
  try simp only [Yg] at G
  refine Za (Ya (rZ G (qe 7 101 r1 r1 (qf (oP (ZmD (Nn l i)) func47 (Args.one (.pagg .t))) r1 qz (qf (o_not .t) r1 qz qZ))) M [16,10,9,8,2] Kf fun G=>?_))
  refine Zb G O (fun hc2=>?_) (fun hc2=>?_)
  ·have hg:=Zki hil Wh
   refine Ya (rZ G qB M JB Kf fun G=>(Yh (Zq (Ze (Ze (Zq (Ze ?_)))))))
   refine Zr hfr G O O O (.bool hg)
  have hne:ZbF (Nn l i):=Wh
  refine Yc (Zh (Za (rZ G (qp r1 (qR rr qZ)) M JB Kf fun G=>?_)))
  replace G:=G.eI 10 i
  obtain ⟨F,G⟩:=G.nM [9,8,2,10] [0]
  exact ⟨(i+1),F,⟨ow,(fun q h9=>by rcases YF (YL h9) with h8 | h8;exact hq q h8;rw [h8];exact hne)⟩,G,ow⟩
 have hil:i=l.length:=XU
 have hg:=Zks hl0 Wm
 refine Yt (Zg (Zg (Zp (Za (Ya (rZ G qB M [2] [0] fun G=>Yh ?_))))))
 refine Zr hfr G O O O (.bool hg)
theorem Zlz (g:Zs) (hs:Zae g.txs):FnP prog 36 [.agg (Zm g)] (.int .i64 ((wSum g.txs:Nat):Int)):=by
 refine FnP.mk func36 O ntmps36 O fun B a w F M hfr G=>?_
 have hsl:=hs.1
 refine Ya (rS G (qx 101 r1 (qI qZ)) M Ky Kf fun τ G=>?_)
 have G:=X1
 generalize τ 1=v1 at G
 refine Za (Ya (rZ G (qI qZ) M Qm Kf fun G=>(Ya (Ya ?_))))
 refine rZ G (qg 0 101 r1 r1 (qa 101 r1 r1 (qu Ybt r1 (qJ qZ)))) M Jx Kf fun G=>Yf ?_
 refine Zj (σ:=(Nat)) [2,7,8] [0,101] (fun s=>[(9,.pv (.int .i64 (s:Int))),(3,.pv (.int .i64 ((wSum (g.txs.take s):Nat):Int)))]) (fun s=>[]) (fun s=>s≤g.txs.length∧(True)) (fun s=>g.txs.length - s) (0) G ⟨rfl,rfl,rfl,rfl,rfl,tv⟩ ⟨rfl,rfl,tv⟩ ⟨Yp _,tv⟩ ?_
 clear G;intro i a w F hC G
 have hC:=X4
 obtain ⟨F,G⟩:=G.nM Jx Kf
 have G:=X2
 obtain ⟨hi,hq⟩:=hC
 have hwl:=ZkB hs i hi
 refine Ya (rZ G (qL r2) M [10,9,8,7,3,2] Kf fun G=>Ya ?_)
 refine Zb G O (fun hc0=>?_) (fun hc0=>?_)
 ·have hil:i<g.txs.length:=XV
  have hio:=hil
  have hxo:=hs.at hio
  refine Yc (Za (Ya (Yf (Ya (rS G (qy 3 Ybt r2 (qf (oR true 3 .t) r1 qz (qf (oH [.int .i64 0,.bool false,.slice none 0 0] 102) trivial qz (qS 3 102 r2 r1 qZ)))) M [9,8,7,5,3,2] Ke fun τ G=>?_)))))
  have G:=X0
  generalize τ 5=v5 at G
  try simp only [Yg] at G
  refine Za (Zi G (qR rr (qe 3 102 r1 r1 (qf (oP (ZeY (Nn g.txs i) ow) func81 (Args.one (.pagg .t))) r1 qz (qf (Zbb .t .t) r2 qz (qO rr qZ))))) M Jx Ke O O fun a w F G=>Zh (Za ?_))
  refine rZ G (qp r1 (qR rr qZ)) M Jx Ke fun G=>?_
  replace G:=G.eI 9 i
  replace G:=G.ent (i:=3) (s':=.pv (.int .i64 ((wSum (g.txs.take (i+1)):Nat):Int))) O (.int (by rw [Zg6 hio,ZK ow];omega))
  obtain ⟨F,G⟩:=G.nM [8,7,2,3,9] Kf
  exact ⟨(i+1),F,⟨ow,tv⟩,G,ow⟩
 have hil:i=g.txs.length:=XV
 refine Yt (Zg (Zg (Zp (Za (Ya (rZ G (qR rr (qO rr qZ)) M [2] Kf fun G=>Yh ?_))))))
 refine Zr hfr G O O O (.int Wb)
theorem Zmi (o:OrdD) (key:Int):FnP prog 95 [.agg (Zv o),.ref [.int .i64 key]] (.bool (decide (o.key=key))):=by
 refine FnP.mk func95 O ntmps95 O fun B a w F M hfr G=>Ya ?_
 refine rS G (qx 101 r1 qB) M Qm Kf fun τ G=>?_
 have G:=X1
 generalize τ 2=v2 at G
 refine Za (Ya (rZ G (qg 0 101 r1 r1 (qa 101 r1 r1 (qf (oR false 1 .t) r1 qz (qf (o_eql .t .t) r2 qz (qO rr qZ))))) M [3] Kf fun G=>Yh ?_))
 refine Zr hfr G O O O .refl
theorem Zml (g:Zs) (key:Int) (hs:ZaF g.orders):FnP prog 39 [.agg (Zm g),.int .i64 key] (.sl Zk (getO g.orders key)):=by
 refine FnP.mk func39 O ntmps39 O fun B a w F M hfr G=>?_
 have hso:=hs.1
 refine Ya (rS G (qx 101 r1 (qf (Zly 102 .t one_int) r1 qz (qC qZ))) M Qu Ke fun τ G=>?_)
 have G:=X1
 generalize τ 2=v2,τ 3=v3 at G
 refine Za (Ya (ZaS 2 G kr (cG O (oF 1 101 .is) r1 r1 (cG O (oL false 1 101 .adr) r1 r1 ZO.nil)) kr Wd fun a w F G=>?_))
 obtain ⟨F,G⟩:=G.nM [7,4,3,2] Ke
 have G:=X8
 obtain ⟨F,G⟩:=G.giveRef 102 3 O O rfl
 obtain ⟨F,G⟩:=G.nM [7,4,3,2] Kf
 try dsimp only [Go.Gm.unCF] at G
 refine Zbl G kr (cG O (Zcp (Args.one .t)) r1 trivial (cG O (oP (ZlS g.orders (fun o=>decide (o.key=key)) 95 f95 [.ref [.int .i64 key]] func95 O kr (fun o=>Zmi o key)) func94 (Args.two .t .t)) r2 trivial (cG O (oN .t) r1 trivial ZO.nil))) kr Wd fun a w F G=>?_
 obtain ⟨F,G⟩:=G.nM [5,4,2] Kf
 have G:=Xu
 refine Za (Ya (Ya (rZ G (qR rr (qf (ZcQ .t qi) r1 qz qZ)) M [11,5,4,2] Kf fun G=>?_)))
 refine Zb G O (fun hc0=>?_) (fun hc0=>?_)
 ·have hg:[] = getO g.orders key:=(ZfD.1 Wk).symm
  refine Ya (rZ G (qC qZ) M [5,4,2] Kf fun G=>(Yh (Ze ?_)))
  refine Zr hfr G O O O WF
 obtain ⟨fi,hfi,hfl,hfg⟩:=ZfD.2 (show ¬ Z0 (fun o:OrdD=>decide (o.key=key)) g.orders<0 by simpa using hc0)
 have hg:(Nn g.orders (Z0 (fun o:OrdD=>decide (o.key=key)) g.orders).toNat).txs=getO g.orders key:=by rw [hfi,Yg,hfg]
 refine Yc (Za (Ya (Zi G (qg 1 101 r1 r1 (qa 101 r1 r1 (qR rr (qf (ZP (sz:=2) (.mk Ybu kr) XW .t .t (by rw [hfi];omega) (by rw [hfi];omega)) r2 qz (qf (oG 1 .t) r1 qz (qf (oR false 1 .t) r1 qz (qf (oP (cloneIP_c _ (by rw [hfi,Yg];have:=hs.at hfl;omega)) func91 (Args.one .t)) r1 qz (qO rr qZ)))))))) M [4] Kf O O fun a w F G=>?_)))
 try simp only [Yg] at G
 refine Za (Yh (Zr hfr G O O O WF))
instance (l:List TxD):Decidable (Zae l):=by unfold Zae;exact inferInstance
instance (l:List OrdD):Decidable (ZaF l):=by unfold ZaF;exact inferInstance
instance (g:Zs):Decidable (Zbe g):=by unfold Zbe;exact inferInstance
theorem ZcS {l:List TxD} {k x:Int} : x ∈ ZI l k ↔ ∃ t ∈ l,t.id=x∧t.done=true∧0<wcnt t.ops k:=by
 unfold ZI
 rw [YI]
 constructor
 ·rintro ⟨t,ht,e⟩
  rw [YA] at ht
  simp at ht
  exact ⟨t,ht.1,e,ht.2.1,ht.2.2⟩
 ·rintro ⟨t,ht,e,h1,h2⟩
  exact ⟨t,by rw [YA];simp [ht,h1,h2],e⟩
theorem ZcZ {l:List TxD} (h:Zb1 TxD.id l) (k:Int):(ZI l k).Nodup:=by
 unfold ZI
 have h1:(l.map TxD.id).Nodup:=(YaN.2 (ZB.1 h)).imp fun h=>Ybr h
 exact (h1.sublist ((YaM).map _))
theorem Zf9 {l:List TxD} (h:Zb1 TxD.id l) {t:TxD} (ht:t ∈ l):ZS l t.id=some t:=by
 have h:=ZB.1 h
 induction l with
 | nil=>cases ht
 | cons x l ih=>
  rw [Yx] at h
  unfold ZS
  rw [List.find?_cons]
  rcases Yo.1 ht with rfl | ht
  ·simp
  ·have:=h.1 t ht
   rw [show decide (x.id=t.id)=false by simp;omega]
   exact ih (ZB.2 h.2) ht h.2
theorem ZmJ {l:List TxD} {id:Int} (h:∀ t ∈ l,t.id≠id):ZS l id=none:=by
 unfold ZS
 exact Yaq.2 fun t ht=>by simpa using h t ht
theorem ZaG {g:Zs} : Zx g ↔ g.txs.length≤4096∧Zb1 TxD.id g.txs∧(∀ t ∈ g.txs,ZF t=0∧Zak g t=true)∧Zb1 OrdD.key g.orders∧NE g.orders ∧ ∀ k,(getO g.orders k).Perm (ZI g.txs k):=by
 constructor
 ·intro h
  obtain ⟨r1',r2'⟩:=ZZ h
  have hne:=ZcB h
  have h2:=(Zco g).2 h.2.2
  refine ⟨h.1,r1',fun t ht=>?_,r2',hne,fun k=>?_⟩
  ·obtain ⟨j,hj,e⟩:=YK ht
   have:=(h.2.1 j hj).2
   rwa [Zw hj,e] at this
  ·by_cases hk:getO g.orders k = []
   ·rw [hk]
    have hw:ZI g.txs k = []:=by
     refine YaP fun hw=>?_
     obtain ⟨j,hj,e⟩:=YK (Zcf.2 hw)
     have hjo:j<g.orders.length:=by rw [h.2.2.1];exact hj
     have h3:=(h.2.2.2 j hjo).1
     rw [Zw hj,e] at h3
     have h4:=Zcy (ZB.1 r2') (ZT hjo)
     rw [h3,hk] at h4
     exact hne _ (ZT hjo) h4.symm
    rw [hw]
   ·have hm:=ZeC hk
    obtain ⟨j,hj,e⟩:=YK hm
    have:=(h2.2 j hj).2.2
    rw [Zw hj,e] at this
    exact this
 ·rintro ⟨h1,h2,h3,h4,h5,h6⟩
  have hk:g.orders.map OrdD.key=Zai g.txs:=by
   refine Zd0 (YaN.2 (ZB.1 h4)) (Z9 _).1 fun k=>?_
   rw [Zcf,YI]
   constructor
   ·rintro ⟨o,ho,rfl⟩ e
    have:=h6 o.key
    rw [e,Zcy (ZB.1 h4) ho] at this
    exact h5 o ho this.eq_nil
   ·intro e
    have:getO g.orders k≠[]:=fun e2=>by
     have:=h6 k
     rw [e2] at this
     exact e this.symm.eq_nil
    exact ⟨_,ZeC this,rfl⟩
  have hlen:g.orders.length=(Zai g.txs).length:=by rw [← hk,Y9]
  refine ⟨h1,fun i hi=>?_,(Zco g).1 ⟨hlen,fun i hi=>?_⟩⟩
  ·obtain ⟨g1,g2⟩:=h3 _ (ZT hi)
   exact ⟨fun h0=>h2 (i - 1) i ow hi,g1,g2⟩
  ·refine ⟨fun h0=>h4 (i - 1) i ow hi,h5 _ (ZT hi),?_⟩
   have:=h6 (Nn g.orders i).key
   rwa [Zcy (ZB.1 h4) (ZT hi)] at this
theorem ZkO {t:TxD} {l:List Int} {k x:Int} : x ∈ ZcE t l k ↔ (x ∈ l∧x≠t.id)∨(x=t.id∧t.done=true∧0<wcnt t.ops k):=by
 unfold ZcE
 by_cases h:t.done=true∧0<wcnt t.ops k
 ·rw [Ye h]
  unfold withO
  split
  ·rename_i hi
   constructor
   ·intro hx
    by_cases e:x=t.id
    ·exact .inr ⟨e,h⟩
    ·exact .inl ⟨hx,e⟩
   ·rintro (⟨hx,_⟩ | ⟨rfl,_⟩)
    ·exact hx
    ·exact hi
  ·rename_i hi
   rw [YC,Yn]
   constructor
   ·rintro (hx | hx)
    ·exact .inl ⟨hx,fun e=>hi (e ▸ hx)⟩
    ·exact .inr ⟨hx,h⟩
   ·rintro (⟨hx,_⟩ | ⟨e,_⟩)
    ·exact .inl hx
    ·exact .inr e
 ·rw [Yb h]
  unfold withoutO
  rw [YA,Yi]
  exact ⟨fun h1=>.inl h1,fun h1=>h1.elim id fun h2=>absurd h2.2 h⟩
theorem Zib {t:TxD} {l:List Int} (h:l.Nodup) (k:Int):(ZcE t l k).Nodup:=by
 unfold ZcE
 split
 ·unfold withO
  split
  ·exact h
  ·rename_i hi
   rw [List.nodup_append]
   exact ⟨h,by simp,fun a ha b hb=>by rw [Yn] at hb;subst hb;exact fun e=>hi (e ▸ ha)⟩
 ·exact h.filter _
theorem ZdT {g:Zs} {t:TxD} {b:Bool} {l:List TxD} (hR:Zx g) (hs:ZaF g.orders) (hr:Zb1 TxD.id l) (hl:l.length≤4096) (hM:∀ s,s ∈ l ↔ (s ∈ g.txs∧s.id≠t.id)∨(s=t∧b=true))
  (ht:b=true→ZF t=0∧Zak g t=true) (hb:b=false→t.done=false)
  (hu:∀ x ∈ l,∀ v ∈ Zd x,v.tx=t.id→ZdD g v=true→¬ (v.tx=0∧v.nth=0)→b=true∧v.nth≤(wcnt t.ops v.key:Int)):Zx ⟨l,settleO t g.orders⟩:=by
 obtain ⟨h1,h2,h3,h4,h5,h6⟩:=ZaG.1 hR
 obtain ⟨s1,s2⟩:=ZeT (t:=t) h4 hs
 have hhas:∀ x ∈ l,∀ v ∈ Zd x,ZdD g v=true→ZdD ⟨l,settleO t g.orders⟩ v=true:=by
  intro x hx v hv hg
  by_cases hz:v.tx=0∧v.nth=0
  ·unfold ZdD at hg ⊢
   rw [Ye hz] at hg ⊢
   exact hg
  ·have hu2:=hu x hx v hv
   unfold ZdD at hg hu2 ⊢
   rw [Yb hz] at hg hu2 ⊢
   by_cases e:v.tx=t.id
   ·obtain ⟨b1,b2⟩:=hu2 e hg hz
    have hm:t ∈ l:=(hM t).2 (.inr ⟨rfl,b1⟩)
    have hf:=Zf9 hr hm
    simp only [Yr,Yi] at hg ⊢
    show _∧_
    rw [e,hf]
    exact ⟨rfl,hg.2.1,b2⟩
   ·have hf:ZS l v.tx=ZS g.txs v.tx:=by
     cases hc:ZS g.txs v.tx with
     | none=>
      refine ZmJ fun s hsl es=>?_
      rcases (hM s).1 hsl with ⟨m1,m2⟩ | ⟨rfl,_⟩
      ·have:=Zf9 h2 m1
       rw [es,hc] at this;cases this
      ·exact e es.symm
     | some s=>
      obtain ⟨m1,m2⟩:=findT_mem hc
      have hm:s ∈ l:=(hM s).2 (.inl ⟨m1,by rw [m2];exact e⟩)
      have:=Zf9 hr hm
      rwa [m2] at this
    show (((ZS l v.tx).isSome && _):Bool)=true
    rw [hf];exact hg
 refine ZaG.2 ⟨hl,hr,fun x hx=>?_,ZB.2 s1,s2,fun k=>?_⟩
 ·have hx2:ZF x=0∧Zak g x=true:=by
   rcases (hM x).1 hx with ⟨m1,_⟩ | ⟨rfl,b1⟩
   ·exact h3 x m1
   ·exact ht b1
  refine ⟨hx2.1,?_⟩
  have h7:=hx2.2
  unfold Zak at h7 ⊢
  rw [Yag] at h7 ⊢
  exact fun v hv=>hhas x hx v hv (h7 v hv)
 ·rw [ZfU h4 k]
  have hn:(getO g.orders k).Nodup:=(h6 k).symm.nodup (ZcZ h2 k)
  refine (Ya3 (Zib hn k) (ZcZ hr k)).2 fun x=>?_
  rw [ZkO,ZcS,(h6 k).mem_iff,ZcS]
  constructor
  ·rintro (⟨⟨s,m1,m2,m3,m4⟩,m5⟩ | ⟨rfl,m3,m4⟩)
   ·exact ⟨s,(hM s).2 (.inl ⟨m1,by rw [m2];exact m5⟩),m2,m3,m4⟩
   ·refine ⟨t,(hM t).2 (.inr ⟨rfl,?_⟩),rfl,m3,m4⟩
    cases b with
    | true=>rfl
    | false=>rw [hb rfl] at m3;cases m3
  ·rintro ⟨s,m1,m2,m3,m4⟩
   rcases (hM s).1 m1 with ⟨m5,m6⟩ | ⟨rfl,_⟩
   ·exact .inl ⟨⟨s,m5,m2,m3,m4⟩,by rw [← m2];exact m6⟩
   ·exact .inr ⟨m2.symm,m3,m4⟩
theorem Zm3 {l:List TxD} {t:TxD} (h:Zb1 TxD.id l) (hk:isK TxD.id t.id l=false):Zb1 TxD.id (l.take (lowK TxD.id t.id l) ++ [t] ++ l.drop (lowK TxD.id t.id l)) ∧ ∀ s,s ∈ l.take (lowK TxD.id t.id l) ++ [t] ++ l.drop (lowK TxD.id t.id l) ↔ (s ∈ l∧s.id≠t.id)∨(s=t∧true=true):=by
 rw [← Zfp (ZB.1 h) hk]
 refine ⟨ZB.2 (Zcz (ZB.1 h)),fun s=>?_⟩
 rw [Zfp (ZB.1 h) hk,YC,YC,Yn]
 have hne:∀ s ∈ l,s.id≠t.id:=fun s hs e=>by
  have:=YaZ.1 hk s hs
  simp at this;exact this e
 constructor
 ·rintro ((h1 | h1) | h1)
  ·exact .inl ⟨Yax h1,hne s (Yax h1)⟩
  ·exact .inr ⟨h1,rfl⟩
  ·exact .inl ⟨YaG h1,hne s (YaG h1)⟩
 ·rintro (⟨h1,_⟩ | ⟨h1,_⟩)
  ·rw [← YaR (lowK TxD.id t.id l) l,YC] at h1
   rcases h1 with h1 | h1
   ·exact .inl (.inl h1)
   ·exact .inr h1
  ·exact .inl (.inr h1)
theorem ZmX {l:List TxD} {t:TxD} (h:Zb1 TxD.id l) (hk:isK TxD.id t.id l=true):Zb1 TxD.id (l.set (lowK TxD.id t.id l) t) ∧ ∀ s,s ∈ l.set (lowK TxD.id t.id l) t ↔ (s ∈ l∧s.id≠t.id)∨(s=t∧true=true):=by
 rw [← Zfg (ZB.1 h) hk]
 refine ⟨ZB.2 (Zcz (ZB.1 h)),fun s=>?_⟩
 constructor
 ·intro hs
  rcases Zc2 hs with ⟨rfl,_⟩ | h1
  ·exact .inr ⟨rfl,rfl⟩
  ·exact .inl h1
 ·have key:∀ (l:List TxD) (d:Bool),((s ∈ l∧s.id≠t.id)∨(s=t∧d=false))→s ∈ putGR TxD.id t l d:=by
   intro l
   induction l with
   | nil=>
    rintro d (⟨h1,_⟩ | ⟨rfl,h1⟩)
    ·cases h1
    ·subst h1;simp [putGR]
   | cons x l ih=>
    intro d hx
    rw [putGR,YC,YC]
    rcases hx with ⟨h1,h2⟩ | ⟨rfl,h1⟩
    ·rcases Yo.1 h1 with rfl | h1
     ·exact .inl (.inr (by rw [Yb h2];simp))
     ·exact .inr (ih _ (.inl ⟨h1,h2⟩))
    ·by_cases hA:s.id≤x.id
     ·exact .inl (.inl (by rw [Ye ⟨h1,hA⟩];simp))
     ·exact .inr (ih _ (.inr ⟨rfl,by rw [h1];simp;omega⟩))
  rintro (h1 | ⟨h1,_⟩)
  ·exact key l false (.inl h1)
  ·exact key l false (.inr ⟨h1,rfl⟩)
theorem Zjf {t:TxD} {v:Zad} (h:v ∈ Zd t):v.tx≠t.id:=by
 have key:∀ (l:List OpD) (out:List Zad),(∀ v ∈ out,v.tx≠t.id) → ∀ v ∈ l.foldl (Zaa t.id) out,v.tx≠t.id:=by
  intro l
  induction l with
  | nil=>intro out h;exact h
  | cons o l ih=>
   intro out h
   refine ih _ fun v hv=>?_
   unfold Zaa at hv
   split at hv
   ·rename_i hc
    rcases YC.1 hv with hv | hv
    ·exact h v hv
    ·have e:v=ofO o:=by simpa using hv
     have hn:=hc.1
     unfold ZdZ at hn
     simp at hn
     rw [e]
     unfold ofO
     rw [Ye hn.1.1]
     exact hn.2
   ·exact h v hv
 exact key _ _ (fun v hv=>by cases hv) v h
theorem Zi1 {g:Zs} {v:Zad} (h:ZdD g v=true) (hz:¬ (v.tx=0∧v.nth=0)):isK TxD.id v.tx g.txs=true∧1≤v.nth:=by
 unfold ZdD at h
 rw [Yb hz,Yr,Yr,Zcj] at h
 exact ⟨h.1,by simpa using h.2.1⟩
theorem Znr {g:Zs} {t x:TxD} {v:Zad} (h:ZcD g t=false) (hx:x ∈ g.txs) (hn:x.id≠t.id) (hv:v ∈ Zd x) (e:v.tx=t.id):v.nth≤(wcnt t.ops v.key:Int):=by
 have h1:=YaZ.1 h x hx
 unfold Zdm at h1
 rw [YS hn,Ybn] at h1
 have h2:=YaZ.1 XN v hv
 unfold Zeg at h2
 simp [e] at h2
 omega
theorem Zhu {g:Zs} {t:TxD} (hs:Zbe g) (h:(ZaE g t).2=0):Zx (ZaE g t).1:=by
 unfold ZaE at h ⊢
 split at h
 ·rename_i h1;exact absurd h h1
 ·rename_i h1
  split at h
  ·simp at h
  ·rename_i h2
   obtain ⟨hr,hrt,hik,hnd,_⟩:=Znl XJ (YH.1 h1)
   rw [Yb h1,Yb h2]
   obtain ⟨m1,m2⟩:=Zm3 (ZZ hr).1 hik
   refine ZdT (b:=true) hr hs.2 m1 ?_ m2 (fun _=>⟨hrt,hnd⟩) (fun h=>by cases h) fun x _ v _ e hv hz=>?_
   ·have:=hr.1
    rw [Yd,Yd,Yj,Yu];simp;omega
   ·have:=(Zi1 hv hz).1
    rw [e,hik] at this;cases this
theorem Zh3 {g:Zs} {t:TxD} (hs:Zbe g) (h:(Zbt g t).2=0):Zx (Zbt g t).1:=by
 unfold Zbt at h ⊢
 split at h
 ·rename_i h1;exact absurd h h1
 ·rename_i h1
  split at h
  ·simp at h
  ·rename_i h2
   obtain ⟨hr,hrt,hik,hnd,_⟩:=Znl XJ (YH.1 h1)
   rw [Yb h1,Yb h2]
   obtain ⟨m1,m2⟩:=ZmX (ZZ hr).1 hik
   refine ZdT (b:=true) hr hs.2 m1 (by rw [YT];exact hr.1) m2 (fun _=>⟨hrt,hnd⟩) (fun h=>by cases h) fun x hx v hv e _ _=>⟨rfl,?_⟩
   rcases (m2 x).1 hx with ⟨h3,h4⟩ | ⟨rfl,_⟩
   ·exact Znr XO h3 h4 hv e
   ·exact absurd e (Zjf hv)
theorem Zhd {g:Zs} {id:Int} (hs:Zbe g) (h:(ZR g id).2=0):Zx (ZR g id).1:=by
 unfold ZR at h ⊢
 split at h
 ·simp at h
 ·rename_i h1
  split at h
  ·simp at h
  ·rename_i h2
   split at h
   ·simp at h
   ·rename_i h3
    have hr:=YH.1 h1
    have hik:isK TxD.id id g.txs=true:=XO
    have hri:=(ZZ hr).1
    rw [Yb h1,Yb h2,Yb h3,← Zf4 (ZB.1 hri) hik]
    refine ZdT (b:=false) hr hs.2 (ZB.2 ((ZB.1 hri).filter _)) (Y5 (YG _ _) hr.1) (fun s=>?_) (fun h=>by cases h) (fun _=>rfl) fun x hx v hv e hg hz=>?_
    ·rw [YA];simp [Zbg]
    ·rw [YA] at hx
     have h5:=Znr (t:=Zbg id) XH hx.1 (by simpa [Zbg] using hx.2) hv e
     have h6:=(Zi1 hg hz).2
     have h7:wcnt (Zbg id).ops v.key=0:=rfl
     rw [h7] at h5
     omega
theorem Zec {g:Zs} {key:Int} {rule:List Int→List Int×Int} (hp:∀ l,(rule l).2=0→(rule l).1.Perm l) (h:(ZaN g key rule).2=0):Zx (ZaN g key rule).1:=by
 by_cases hr:Zx g
 ·by_cases hg:getO g.orders key = []
  ·rw [ZlW hr hg] at h;simp at h
  ·by_cases h3:(rule (getO g.orders key)).2=0
   ·have hpp:=hp _ h3
    have hne:(rule (getO g.orders key)).1≠[]:=fun e=>hg (by rw [e] at hpp;exact hpp.symm.eq_nil)
    rw [Zj5 hr hg h3 hne,Yw hne]
    obtain ⟨h1,h2,h4,h5,h6,h7⟩:=ZaG.1 hr
    refine ZaG.2 ⟨h1,h2,fun t ht=>?_,ZB.2 (Zcz (ZB.1 h5)),fun o ho=>?_,fun k=>?_⟩
    ·obtain ⟨g1,g2⟩:=h4 t ht
     exact ⟨g1,g2⟩
    ·rcases Zc2 ho with ⟨rfl,_⟩ | ⟨g1,_⟩
     ·exact hne
     ·exact h6 o g1
    ·show (getO (putGR OrdD.key _ g.orders false) k).Perm _
     rw [Zjg (ZB.1 h5)]
     by_cases e:k=key
     ·subst e
      rw [Ye rfl]
      exact hpp.trans (h7 k)
     ·rw [Yb e];exact h7 k
   ·rw [Zlk hr hg h3] at h;exact absurd h h3
 ·rw [ZkG hr] at h;simp at h
theorem Zk5 {o:OrdD} (l:List Int) (h:(ZgI o l).2=0):(ZgI o l).1.Perm l:=by
 unfold ZgI at h ⊢
 split at h
 ·rename_i hp;rw [Ye hp];exact hp.symm
 ·simp at h
theorem Zmj {g:Zs} {e:EdD} (hs:Zbe g) (h:(doH g e).2=0):Zx (doH g e).1:=by
 unfold doH at h ⊢
 by_cases k0:e.kind=0
 ·rw [Ye k0] at h ⊢;exact Zhu hs h
 ·rw [Yb k0] at h ⊢
  by_cases k1:e.kind=1
  ·rw [Ye k1] at h ⊢;exact Zhd hs h
  ·rw [Yb k1] at h ⊢
   by_cases k2:e.kind=2
   ·rw [Ye k2] at h ⊢;exact Zh3 hs h
   ·rw [Yb k2] at h ⊢
    by_cases k3:e.kind=3
    ·rw [Ye k3] at h ⊢;exact Zec Zk5 h
    ·rw [Yb k3] at h ⊢
     by_cases k4:e.kind=4
     ·rw [Ye k4] at h ⊢;exact Zec (rule:=fun l=>Zbk l e.t.id e.place) (fun l h=>Zhw h) h
     ·rw [Yb k4] at h;simp at h
theorem ZjI:Zx Zah:=by decide +kernel
theorem ZnK {t:TxD} {v:Zad} (h:v ∈ Zd t):∃ o ∈ t.ops,ZdZ t.id o=true∧ofO o=v:=by
 have key:∀ (l:List OpD) (out:List Zad),v ∈ l.foldl (Zaa t.id) out→v ∈ out ∨ ∃ o ∈ l,ZdZ t.id o=true∧ofO o=v:=by
  intro l
  induction l with
  | nil=>intro out h;exact .inl h
  | cons x l ih=>
   intro out h
   rw [Yas] at h
   rcases ih _ h with h | ⟨o,o1,o2⟩
   ·unfold Zaa at h
    split at h
    ·rename_i hc
     rcases YC.1 h with h | h
     ·exact .inl h
     ·exact .inr ⟨x,by simp,hc.1,(Yn.1 h).symm⟩
    ·exact .inl h
   ·exact .inr ⟨o,by simp [o1],o2⟩
 exact (key t.ops [] h).resolve_left fun h=>by cases h
structure ZbJ (f:IxF) (l:List TxD):Prop where
 t:∀ id,f.T id=ZS l id
 wi:∀ k,Za3 (f.W k)
 w:∀ k x,x ∈ f.W k ↔ ∃ t ∈ l,t.id=x∧t.done=true∧k ∈ Zl t
 ri:∀ v,Za3 (f.R v)
 r:∀ v x,x ∈ f.R v ↔ ∃ t ∈ l,t.id=x∧v ∈ Zd t
 u:∀ p,f.U p=(((Zd ((ZS l p.a).getD zeroT)).filter fun v=>decide (v.tx=p.b)).length:Nat)
 x:∀ p,f.X p=(wcnt ((ZS l p.a).getD zeroT).ops p.b:Nat)
 wt:f.wt=(wSum l:Nat)
theorem Zd2 (l:List TxD) (id j:Int):ZS (l.filter fun x=>decide (x.id≠id)) j=if j=id then none else ZS l j:=by
 by_cases e:j=id
 ·rw [Ye e]
  unfold ZS
  rw [Yaq]
  intro x hx
  have:=(YA.1 hx).2
  simp at this
  simpa [e] using this
 ·rw [Yb e]
  induction l with
  | nil=>rfl
  | cons x l ih=>
   unfold ZS at ih ⊢
   by_cases h1:x.id=id
   ·rw [YX (by simp [h1]),ih,List.find?_cons_of_neg XG]
   ·rw [YW XN,List.find?_cons,List.find?_cons,ih]
theorem Ze7 {l:List TxD} {t:TxD} (hn:∀ x ∈ l,x.id≠t.id) (j:Int):ZS (l ++ [t]) j=if j=t.id then some t else ZS l j:=by
 unfold ZS
 rw [List.find?_append]
 by_cases e:j=t.id
 ·rw [Ye e,Yaq.2 fun x hx=>by simpa [e] using hn x hx]
  simp [e]
 ·rw [Yb e,List.find?_cons_of_neg XG]
  simp
theorem Zjr {a b:List TxD} (ha:Unl TxD.id a) (hb:Unl TxD.id b) (h:∀ x,x ∈ a ↔ x ∈ b) (j:Int):ZS a j=ZS b j:=by
 cases e:ZS a j with
 | none=>
  symm
  unfold ZS at e ⊢
  rw [Yaq] at e ⊢
  exact fun x hx=>e x ((h x).2 hx)
 | some t=>
  have h1:=findT_mem e
  have h2:ZS b t.id=some t:=ZaQ (κ:=TxD.id) hb ((h t).1 h1.1)
  rw [← h1.2,h2]
theorem ZmA (a b:List TxD):wSum (a++b)=wSum a+wSum b:=by unfold wSum;rw [Yaj,List.sum_append]
theorem Zj2 {l:List TxD} (hu:Unl TxD.id l) {t:TxD} (ht:t ∈ l):wSum l=wSum (l.filter fun x=>decide (x.id≠t.id))+(t.ops.length+1):=by
 induction l with
 | nil=>cases ht
 | cons x l ih=>
  have hu2:=Yx.1 hu
  have e1:∀ (y:TxD) (m:List TxD),wSum (y :: m)=(y.ops.length+1)+wSum m:=fun y m=>by unfold wSum;rw [YJ,Ybp]
  rcases Yo.1 ht with rfl | ht
  ·rw [YX XA,YaL.2 fun y hy=>by simpa using fun e=>hu2.1 y hy e.symm,e1];omega
  ·have hne:x.id≠t.id:=hu2.1 t ht
   rw [YW XK,e1,e1,ih hu2.2 ht];omega
theorem ZnS {l:List TxD} {n:Nat} (h:∀ t ∈ l,t.ops.length≤n):wSum l≤l.length*(n+1):=by
 induction l with
 | nil=>exact Yp _
 | cons x l ih=>
  have h1:=ih fun t ht=>h t (by simp [ht])
  have h2:=h x XA
  have e1:wSum (x :: l)=(x.ops.length+1)+wSum l:=by unfold wSum;rw [YJ,Ybp]
  rw [e1,Yl,Ya7];omega
theorem ZbJ.zero:ZbJ Zc9 []:=⟨fun _=>rfl,fun _=>List.Pairwise.nil,fun _ _=>by simp [Zc9],fun _=>List.Pairwise.nil,fun _ _=>by simp [Zc9],fun _=>rfl,fun _=>rfl,rfl⟩
theorem ZbJ.drop {f:IxF} {l:List TxD} (h:ZbJ f l) (hu:Unl TxD.id l) {t:TxD} (ht:t ∈ l):(ZaZ f t.id).2=0∧ZbJ (ZaZ f t.id).1 (l.filter fun x=>decide (x.id≠t.id)):=by
 have hs:ZS l t.id=some t:=ZaQ (κ:=TxD.id) hu ht
 have hf:f.T t.id=some t:=(h.t _).trans hs
 have hone:∀ s ∈ l,s.id=t.id→s=t:=fun s h1 e=>Zgc hu h1 ht e
 rw [Zcn hf]
 refine ⟨rfl,fun j=>?_,fun k=>ZcI h.wi _ _ _ _,fun k x=>?_,fun v=>ZcI h.ri _ _ _ _,fun v x=>?_,fun p=>?_,fun p=>?_,?_⟩
 ·rw [Zd2]
  show (if j=t.id then none else f.T j)=_
  rw [h.t]
 ·show x ∈ sW f.W t.id (Zl t) false k ↔ _
  have e9:x ∈ sW f.W t.id (Zl t) false k ↔ x ∈ f.W k∧(k ∈ Zl t→x≠t.id):=by
   unfold sW
   split
   ·rename_i hk;rw [mem_setN];simp [hk]
   ·rename_i hk;simp [hk]
  rw [e9,h.w]
  constructor
  ·rintro ⟨⟨s,h1,e,h2,h3⟩,h4⟩
   refine ⟨s,YA.2 ⟨h1,?_⟩,e,h2,h3⟩
   rw [Yi]
   intro e2
   have:=hone s h1 e2
   subst this
   exact h4 h3 e.symm
  ·rintro ⟨s,h1,e,h2,h3⟩
   rw [YA,Yi] at h1
   exact ⟨⟨s,h1.1,e,h2,h3⟩,fun _=>by rw [← e];exact h1.2⟩
 ·show x ∈ sW f.R t.id (Zd t) false v ↔ _
  have e9:x ∈ sW f.R t.id (Zd t) false v ↔ x ∈ f.R v∧(v ∈ Zd t→x≠t.id):=by
   unfold sW
   split
   ·rename_i hk;rw [mem_setN];simp [hk]
   ·rename_i hk;simp [hk]
  rw [e9,h.r]
  constructor
  ·rintro ⟨⟨s,h1,e,h3⟩,h4⟩
   refine ⟨s,YA.2 ⟨h1,?_⟩,e,h3⟩
   rw [Yi]
   intro e2
   have:=hone s h1 e2
   subst this
   exact h4 h3 e.symm
  ·rintro ⟨s,h1,e,h3⟩
   rw [YA,Yi] at h1
   exact ⟨⟨s,h1.1,e,h3⟩,fun _=>by rw [← e];exact h1.2⟩
 ·show dX f.U t.id ((Zd t).map Zad.tx) p=_
  rw [Zd2]
  unfold dX
  by_cases e:p.a=t.id
  ·rw [Ye e]
   show _=((0:Nat):Int)
   split
   ·rfl
   ·rename_i h2
    rw [h.u,e,hs]
    have h3:((Zd t).filter fun v=>decide (v.tx=p.b)) = []:=YaI.2 fun v hv e2=>h2 ⟨e,YI.2 ⟨v,hv,by simpa using e2⟩⟩
    show (((Zd t).filter fun v=>decide (v.tx=p.b)).length:Int)=_
    rw [h3];rfl
  ·rw [Yb e,Yb (fun h2=>e h2.1),h.u]
 ·show dX f.X t.id (Zl t) p=_
  rw [Zd2]
  unfold dX
  by_cases e:p.a=t.id
  ·rw [Ye e]
   show _=((0:Nat):Int)
   split
   ·rfl
   ·rename_i h2
    rw [h.x,e,hs]
    have h3:wcnt t.ops p.b=0:=Nat.eq_zero_of_not_pos fun h3=>h2 ⟨e,ZaH.2 h3⟩
    show ((wcnt t.ops p.b:Nat):Int)=_
    rw [h3]
  ·rw [Yb e,Yb (fun h2=>e h2.1),h.x]
 ·show f.wt - ((t.ops.length+1:Nat):Int)=_
  rw [h.wt,Zj2 hu ht]
  omega
theorem ZbJ.put {f:IxF} {l:List TxD} (h:ZbJ f l) {t:TxD} (hn:∀ x ∈ l,x.id≠t.id) (hr:ZF t=0):(ZhF f t).2=0∧ZbJ (ZhF f t).1 (l ++ [t]):=by
 have hs:ZS l t.id=none:=by
  unfold ZS
  exact Yaq.2 fun x hx=>by simpa using hn x hx
 have hf:f.T t.id=none:=(h.t _).trans hs
 rw [Zh6 hr,Zcs hf,Zjh]
 refine ⟨rfl,fun j=>?_,fun k=>?_,fun k x=>?_,fun v=>ZcI h.ri _ _ _ _,fun v x=>?_,fun p=>?_,fun p=>?_,?_⟩
 ·rw [Ze7 hn]
  show (if j=t.id then some t else f.T j)=_
  rw [h.t]
 ·show Za3 (wP f t (Zl t) k)
  unfold wP
  split
  ·exact ZcI h.wi _ _ _ _
  ·exact h.wi k
 ·show x ∈ wP f t (Zl t) k ↔ _
  have e9:x ∈ wP f t (Zl t) k ↔ x ∈ f.W k∨(x=t.id∧t.done=true∧k ∈ Zl t):=by
   unfold wP
   by_cases hd:t.done=true
   ·rw [Ye hd]
    unfold sW
    split
    ·rename_i hk
     rw [mem_setN]
     constructor
     ·rintro (h1 | h1)
      ·exact .inl h1.1
      ·exact .inr ⟨h1.1,hd,hk⟩
     ·rintro (h1 | h1)
      ·by_cases e:x=t.id
       ·exact .inr ⟨e,rfl⟩
       ·exact .inl ⟨h1,e⟩
      ·exact .inr ⟨h1.1,rfl⟩
    ·rename_i hk;simp [hk]
   ·rw [Yb hd];simp [hd]
  rw [e9,h.w]
  constructor
  ·rintro (⟨s,h1,h2⟩ | ⟨rfl,h2,h3⟩)
   ·exact ⟨s,Yaf _ h1,h2⟩
   ·exact ⟨t,by simp,rfl,h2,h3⟩
  ·rintro ⟨s,h1,e,h2,h3⟩
   rcases YC.1 h1 with h1 | h1
   ·exact .inl ⟨s,h1,e,h2,h3⟩
   ·have:=Yn.1 h1
    subst this
    exact .inr ⟨e.symm,h2,h3⟩
 ·show x ∈ sW f.R t.id (Zd t) true v ↔ _
  have e9:x ∈ sW f.R t.id (Zd t) true v ↔ x ∈ f.R v∨(x=t.id∧v ∈ Zd t):=by
   unfold sW
   split
   ·rename_i hk
    rw [mem_setN]
    constructor
    ·rintro (h1 | h1)
     ·exact .inl h1.1
     ·exact .inr ⟨h1.1,hk⟩
    ·rintro (h1 | h1)
     ·by_cases e:x=t.id
      ·exact .inr ⟨e,rfl⟩
      ·exact .inl ⟨h1,e⟩
     ·exact .inr ⟨h1.1,rfl⟩
   ·rename_i hk;simp [hk]
  rw [e9,h.r]
  constructor
  ·rintro (⟨s,h1,h2⟩ | ⟨rfl,h2⟩)
   ·exact ⟨s,Yaf _ h1,h2⟩
   ·exact ⟨t,by simp,rfl,h2⟩
  ·rintro ⟨s,h1,e,h2⟩
   rcases YC.1 h1 with h1 | h1
   ·exact .inl ⟨s,h1,e,h2⟩
   ·have:=Yn.1 h1
    subst this
    exact .inr ⟨e.symm,h2⟩
 ·show pU f.U t.id (Zd t) p=_
  rw [Ze7 hn]
  unfold pU
  by_cases e:p.a=t.id
  ·rw [Ye e,Ye e,h.u,e,hs]
   show ((0:Nat):Int)+_=_
   simp
  ·rw [Yb e,Yb e,h.u]
 ·show pX f.X t.id (Zl t) (fun k=>(wcnt t.ops k:Int)) p=_
  rw [Ze7 hn]
  unfold pX
  by_cases e:p.a=t.id
  ·rw [Ye e]
   split
   ·rfl
   ·rename_i h2
    have h3:wcnt t.ops p.b=0:=Nat.eq_zero_of_not_pos fun h3=>h2 ⟨e,ZaH.2 h3⟩
    rw [h.x,e,hs]
    show ((0:Nat):Int)=((wcnt t.ops p.b:Nat):Int)
    rw [h3]
  ·rw [Yb e,Yb (fun h2=>e h2.1),h.x]
 ·show f.wt+((t.ops.length+1:Nat):Int)=_
  rw [h.wt,ZmA]
  show _=((wSum l+(t.ops.length+1+0):Nat):Int)
  omega
theorem ZbJ.same {f:IxF} {a b:List TxD} (h:ZbJ f a) (ha:Unl TxD.id a) (hb:Unl TxD.id b) (hp:a.Perm b):ZbJ f b:=by
 have hm:∀ x,x ∈ a ↔ x ∈ b:=fun x=>hp.mem_iff
 have hf:=Zjr ha hb hm
 refine ⟨fun j=>by rw [h.t,hf],h.wi,fun k x=>by rw [h.w];simp only [hm],h.ri,fun v x=>by rw [h.r];simp only [hm],fun p=>by rw [h.u,hf],fun p=>by rw [h.x,hf],?_⟩
 rw [h.wt]
 have:wSum a=wSum b:=(hp.map _).sum_nat
 rw [this]
theorem Zkx {l:List TxD} {a:List Int} (ha:Za3 a) (h:∀ x ∈ a,∃ t ∈ l,t.id=x):a.length≤l.length:=by
 have h1:=Z9 (l.map TxD.id)
 have h2:=(Zgd ha h1.1 fun x hx=>(h1.2 x).2 (YI.2 (h x hx))).1
 have h3:=ZbL (l.map TxD.id)
 rw [Y9] at h3
 omega
theorem ZbJ.fit {f:IxF} {l:List TxD} (h:ZbJ f l) (hl:l.length≤2000) (ho:∀ t ∈ l,t.ops.length≤1000):Zdn f:=by
 have hz:∀ j,((ZS l j).getD zeroT).ops.length≤1000:=fun j=>by
  cases e:ZS l j with
  | none=>exact Yp _
  | some t=>exact ho t (findT_mem e).1
 refine ⟨fun id t e=>ho t (findT_mem ((h.t id).symm.trans e)).1,fun k=>⟨h.wi k,?_⟩,fun v=>⟨h.ri v,?_⟩,fun p=>?_,?_⟩
 ·have:=Zkx (h.wi k) fun x hx=>by obtain ⟨t,h1,e,_⟩:=(h.w k x).1 hx;exact ⟨t,h1,e⟩
  omega
 ·have:=Zkx (h.ri v) fun x hx=>by obtain ⟨t,h1,e,_⟩:=(h.r v x).1 hx;exact ⟨t,h1,e⟩
  omega
 ·rw [h.u]
  have h1:=YG (fun v:Zad=>decide (v.tx=p.b)) (Zd ((ZS l p.a).getD zeroT))
  have h2:=Zff ((ZS l p.a).getD zeroT)
  have h3:=hz p.a
  omega
 ·rw [h.wt]
  have h1:=ZnS ho
  have h2:=YE 1001 hl
  omega
def stD (a was:List TxD) (i:Nat):List TxD:=a.filter fun x=>(ZV TxD.id (was.take i) x.id).isNone
theorem Zmv {a was:List TxD} : stD a was 0=a:=by
 unfold stD
 exact YaL.2 fun x _=>by rw [ZcA];simp
theorem ZmT {a was:List TxD} {i:Nat} (hi:i<was.length):stD a was (i+1)=(stD a was i).filter fun x=>decide (x.id≠(Nn was i).id):=by
 unfold stD
 rw [List.filter_filter]
 refine List.filter_congr fun x _=>?_
 rw [Y4,Yr,ZcA,ZcA,Zu hi,Yi]
 constructor
 ·intro h;exact ⟨fun e=>h _ XA e.symm,fun y hy=>h y (by simp [hy])⟩
 ·rintro ⟨h1,h2⟩ y hy
  rcases YC.1 hy with hy | hy
  ·exact h2 y hy
  ·rw [Yn.1 hy];exact fun e=>h1 e.symm
theorem Zoh {a b:List TxD} (ha:Zax TxD.id a) {i:Nat} (hi:i<(ZN TxD.id a b).length):Nn (ZN TxD.id a b) i ∈ stD a (ZN TxD.id a b) i:=by
 unfold stD
 rw [YA,ZcA]
 refine ⟨Zbh (ZT hi),fun y hy e=>?_⟩
 obtain ⟨j,hj,rfl⟩:=YK hy
 rw [Yj] at hj
 rw [List.getElem_take,Zw hi] at e
 have:=Yao.1 (ZeF (b:=b) ha) j i ow hi ow
 omega
theorem ZnF {a was:List TxD} (ha:Zax TxD.id a) (i:Nat):Unl TxD.id (stD a was i):=ha.unl.sublist YaM
theorem Zlx {a b:List TxD} (ha:Zax TxD.id a) (hb:Zax TxD.id b):Unl TxD.id (stD a (ZN TxD.id a b) (ZN TxD.id a b).length++ZN TxD.id b a):=by
 have h1:=ZiG ha.unl (ZeF (b:=a) hb).unl (Zhq ha hb)
 unfold stD
 rw [Yz]
 exact h1
theorem ZoE {a b:List TxD} (ha:Zax TxD.id a) (hb:Zax TxD.id b) {j:Nat} (hj:j<(ZN TxD.id b a).length):∀ x ∈ stD a (ZN TxD.id a b) (ZN TxD.id a b).length++(ZN TxD.id b a).take j,x.id≠(Nn (ZN TxD.id b a) j).id:=fun x hx=>by
 have h1:=Ybj.1 (Zlx ha hb)
 rcases YC.1 hx with hx | hx
 ·exact h1.2.2 x hx _ (ZT hj)
 ·obtain ⟨k,hk,rfl⟩:=YK hx
  rw [Yj] at hk
  rw [List.getElem_take,Zw hj]
  exact Yao.1 h1.2.1 k j ow hj ow
theorem Zon {a b:List TxD} (ha:Zax TxD.id a) (hb:Zax TxD.id b):(stD a (ZN TxD.id a b) (ZN TxD.id a b).length++ZN TxD.id b a).Perm b:=by
 have h1:=Zlj ha hb
 have h2:(Zkc TxD.id a (ZN TxD.id a b) (ZN TxD.id b a)).Perm _:=ZdM _
 rw [h1] at h2
 unfold stD
 rw [Yz]
 exact h2.symm
theorem ZlH (a was:List TxD) (i:Nat):(stD a was i).length≤a.length:=YG _ _
theorem Zkl {a was:List TxD} {i:Nat} {t:TxD} (h:t ∈ stD a was i):t ∈ a:=(YA.1 h).1
theorem ZbJ.lacks {f:IxF} {g:Zs} (h:ZbJ f g.txs) (hr:Zx g) (v:Zad) (hv:f.R v≠[]):v.nth≤f.X ⟨v.tx,v.key⟩:=by
 obtain ⟨x,hx⟩:=List.exists_mem_of_ne_nil _ hv
 obtain ⟨t,ht,_,hn⟩:=(h.r v x).1 hx
 have h1:=((ZaG.1 hr).2.2.1 t ht).2
 have h2:ZdD g v=true:=Yag.1 h1 v hn
 obtain ⟨o,_,ho,e⟩:=ZnK hn
 have hz:v.tx≠0:=by
  unfold ZdZ at ho
  simp at ho
  rw [← e]
  unfold ofO
  rw [Ye ho.1.1]
  exact ho.1.2
 unfold ZdD at h2
 rw [Yb fun h3=>hz h3.1,Yr,Yr,Yi,Yi] at h2
 rw [h.x]
 exact h2.2.2
theorem ZbJ.writers {f:IxF} {g:Zs} (h:ZbJ f g.txs) (hr:Zx g) (k:Int):(f.W k).Perm (getO g.orders k):=by
 have h1:=ZaG.1 hr
 have hi:Za3 (ZI g.txs k):=by
  unfold ZI
  have h2:Za3 (g.txs.map TxD.id):=YaN.2 (ZB.1 h1.2.1)
  exact h2.sublist ((YaM).map _)
 have e:f.W k=ZI g.txs k:=Zd1 (h.wi k) hi fun x=>by rw [h.w,ZcS];simp only [ZaH]
 rw [e]
 exact (h1.2.2.2.2.2 k).symm
theorem ZbJ.users {f:IxF} {g:Zs} (h:ZbJ f g.txs) (hr:Zx g) {t:TxD} (ht:t ∈ g.txs):(ZR g t.id).2=7 ↔ ((g.txs.map TxD.id).filter fun b=>decide (0<f.U ⟨b,t.id⟩))≠[]:=by
 have h1:=ZaG.1 hr
 have hrise:Zax TxD.id g.txs:=ZB.1 h1.2.1
 have hk:isK TxD.id t.id g.txs=true:=by rw [← Zcj,show ZS g.txs t.id=some t from ZaQ (κ:=TxD.id) hrise.unl ht];rfl
 have e1:(ZR g t.id).2=7 ↔ ZcD g (Zbg t.id)=true:=by
  unfold ZR
  rw [Yb (fun h=>h hr),Yb (by rw [hk];simp)]
  split
  ·rename_i h2;simp [h2]
  ·rename_i h2;simp [h2]
 rw [e1]
 unfold ZcD
 rw [Yal,ne_eq,YaI]
 constructor
 ·rintro ⟨x,hx,hu⟩ hno
  unfold Zdm at hu
  rw [Yr,Yal] at hu
  obtain ⟨v,hv,h2⟩:=hu.2
  unfold Zeg at h2
  rw [Yr,Yi] at h2
  refine hno x.id (YI.2 ⟨x,hx,rfl⟩) ?_
  rw [Yi,h.u,show ZS g.txs x.id=some x from ZaQ (κ:=TxD.id) hrise.unl hx]
  have h3:0<((Zd x).filter fun v=>decide (v.tx=t.id)).length:=List.length_pos_iff_exists_mem.2 ⟨v,YA.2 ⟨hv,by simpa [Zbg] using h2.1⟩⟩
  show (0:Int)<(((Zd x).filter fun v=>decide (v.tx=t.id)).length:Nat)
  omega
 ·intro hno
  simp only [Classical.not_forall] at hno
  obtain ⟨b,hb,h2⟩:=hno
  obtain ⟨x,hx,rfl⟩:=YI.1 hb
  have h2:decide (0<f.U ⟨x.id,t.id⟩)=true:=YH.1 h2
  rw [Yi,h.u,show ZS g.txs x.id=some x from ZaQ (κ:=TxD.id) hrise.unl hx] at h2
  have h3:0<((Zd x).filter fun v=>decide (v.tx=t.id)).length:=by
   have h2:(0:Int)<(((Zd x).filter fun v=>decide (v.tx=t.id)).length:Nat):=h2
   omega
  obtain ⟨v,hv⟩:=List.length_pos_iff_exists_mem.1 h3
  rw [YA,Yi] at hv
  have hxt:x.id≠t.id:=fun e=>Zjf hv.1 (hv.2.trans e.symm)
  have h4:ZdD g v=true:=Yag.1 (h1.2.2.1 x hx).2 v hv.1
  have hid:1≤t.id:=by
   have h5:=(h1.2.2.1 t ht).1
   unfold ZF at h5
   split at h5
   ·simp at h5
   ·rename_i h6
    have:=YH.1 h6
    exact this.1
  have h5:1≤v.nth:=by
   unfold ZdD at h4
   rw [Yb fun h3=>by have:=h3.1;omega,Yr,Yr,Yi] at h4
   exact h4.2.1
  refine ⟨x,hx,?_⟩
  unfold Zdm
  rw [Yr,Yi,Yal]
  refine ⟨hxt,v,hv.1,?_⟩
  unfold Zeg
  rw [Yr,Yi,Yi]
  refine ⟨hv.2,?_⟩
  show ((0:Nat):Int)<v.nth
  omega
theorem ZbJ.ids {f:IxF} {g:Zs} (h:ZbJ f g.txs) (j:Int):j ∈ g.txs.map TxD.id ↔ (f.T j).isSome=true:=by
 rw [h.t]
 unfold ZS
 rw [List.find?_isSome,YI]
 simp
theorem ZbJ.dropS {f:IxF} {a b ws:List TxD} {j:Nat} (hw:ws=ZN TxD.id a b) (ha:Zax TxD.id a) (h:ZbJ f (stD a ws j)) (hj:j<ws.length):(ZaZ f (Nn ws j).id).2=0∧ZbJ (ZaZ f (Nn ws j).id).1 (stD a ws (j+1)):=by
 subst hw
 rw [ZmT hj]
 exact h.drop (ZnF ha j) (Zoh ha hj)
theorem ZbJ.putS {f:IxF} {a b ws nw:List TxD} {j:Nat} (hw:ws=ZN TxD.id a b) (hn:nw=ZN TxD.id b a) (ha:Zax TxD.id a) (hb:Zax TxD.id b) (hr:∀ t ∈ b,ZF t=0) (h:ZbJ f (stD a ws ws.length++nw.take j)) (hj:j<nw.length):(ZhF f (Nn nw j)).2=0∧ZbJ (ZhF f (Nn nw j)).1 (stD a ws ws.length++nw.take (j+1)):=by
 subst hw hn
 rw [Zu hj,← Yad]
 exact h.put (ZoE ha hb hj) (hr _ (Zbh (ZT hj)))
theorem ZbJ.endS {f:IxF} {a b ws nw:List TxD} (hw:ws=ZN TxD.id a b) (hn:nw=ZN TxD.id b a) (ha:Zax TxD.id a) (hb:Zax TxD.id b) (h:ZbJ f (stD a ws ws.length++nw.take nw.length)):ZbJ f b:=by
 rw [Yz] at h
 subst hw hn
 exact h.same (Zlx ha hb) hb.unl (Zon ha hb)
theorem ZbJ.fitD {f:IxF} {a ws:List TxD} {j:Nat} (h:ZbJ f (stD a ws j)) (hl:a.length≤100) (ho:∀ t ∈ a,t.ops.length≤24):Zdn f:=h.fit (by have:=ZlH a ws j;omega) fun t ht=>by have:=ho t (Zkl ht);omega
theorem ZbJ.fitP {f:IxF} {a b ws nw:List TxD} {i j:Nat} (hn:nw=ZN TxD.id b a) (h:ZbJ f (stD a ws i++nw.take j)) (hl:a.length≤100) (ho:∀ t ∈ a,t.ops.length≤24) (hl2:b.length≤100) (ho2:∀ t ∈ b,t.ops.length≤24):Zdn f:=by
 have h1:=ZlH a ws i
 have h2:=List.length_take_le' j nw
 have h3:=Zbi (κ:=TxD.id) b a
 rw [← hn] at h3
 refine h.fit (by rw [Yd];omega) fun t ht=>?_
 rcases YC.1 ht with ht | ht
 ·have:=ho t (Zkl ht);omega
 ·have:=ho2 t (Zbh (by rw [← hn];exact Yax ht));omega
structure ZcJ (f:IxF) (g:Zs) (i:Nat):Prop where
 ix:ZbJ f g.txs
 right:Zx g
 fit:Fit i g
theorem ZcJ.start:ZcJ Zc9 ⟨[],[]⟩ 0:=⟨ZbJ.zero,ZjI,Fit.zero⟩
theorem ZcJ.up {f:IxF} {g:Zs} {i:Nat} (h:ZcJ f g i):ZcJ f g (i+1):=⟨h.ix,h.right,h.fit.up⟩
theorem Zga {g:Zs} (h:Zx g):Zax TxD.id g.txs:=ZB.1 (ZaG.1 h).2.1
theorem ZcJ.fitI {f:IxF} {g:Zs} {i:Nat} (h:ZcJ f g i) (hi:i≤30):Zdn f:=h.ix.fit (by have:=h.fit.1.1;omega) fun t ht=>by have:=h.fit.1.2 t ht;omega
theorem ZoT {a b:Zs} (h1:Zx a) (h2:Zx b):ofD a b=(⟨ZN TxD.id a.txs b.txs,ZN TxD.id b.txs a.txs,ZN OrdD.key a.orders b.orders,ZN OrdD.key b.orders a.orders⟩,0):=by unfold ofD;rw [Ye ⟨h1,h2⟩]
theorem Zjp (d:Za4) (h1:d.was.length≤1000000) (h2:d.now.length≤1000000) (h3:d.old.length≤1000000) (h4:d.new.length≤1000000):decide (IntKind.wrap .i64 (IntKind.wrap .i64 (IntKind.wrap .i64 ((d.was.length:Int)+d.now.length)+d.old.length)+d.new.length)=0)=Zj6 d:=by
 rw [ZK (x:=(d.was.length:Int)+d.now.length) ow,ZK (x:=(d.was.length:Int)+d.now.length+d.old.length) ow,ZK ow]
 unfold Zj6
 refine decide_eq_decide.2 ?_
 rw [← Ybg,← Ybg,← Ybg,← Ybg]
 omega
theorem emptyD_c (d:Za4) (hd:DOk d):FnP prog 67 [.agg (Zaf d)] (.bool (Zj6 d)):=by
 refine FnP.mk func67 O ntmps67 O fun B a w F M hfr G=>Ya ?_
 refine rS G (qx 101 r1 qB) M Ky Kf fun τ G=>?_
 have G:=Xq
 generalize τ 1=v1 at G
 refine Za (Ya (rZ G (qg 0 101 r1 r1 (qa 101 r1 r1 (qu Ybt r1 (qg 1 101 r1 r1 (qa 101 r1 r1 (qu Ybt r1 (qf (Zbb .t .t) r2 qz (qg 2 101 r1 r1 (qa 101 r1 r1 (qu Ybu r1 (qf (Zbb .t .t) r2 qz (qg 3 101 r1 r1 (qa 101 r1 r1 (qu Ybu r1 (qf (Zbb .t .t) r2 qz (qf (o_eql .t qi) r1 qz (qO rr qZ))))))))))))))))) M [2] Kf fun G=>Yh ?_))
 refine Zr hfr G O O O (.bool (Zjp d hd.was.1 hd.now.1 hd.old.1 hd.new.1))
end Go.Proofs.YtfecljadegkmdaaGreat
