/- Texts put together. No condition beyond those that each theorem says. -/
import Derived.Test.YtlkpllemoepamaaGreatJ11
import Derived.Test.YtlkpllemoepamaaGreatJ8
import Derived.Test.YtlkpllemoepamaaGreatJ5
import Derived.Test.YtlkpllemoepamaaGreatJ1
import Derived.Test.YtlkpllemoepamaaGreatJ2
import Derived.Test.YtlkpllemoepamaaGreatJ0
import Derived.Test.YtlkpllemoepamaaGreatLibW
import Derived.Test.YtlkpllemoepamaaGreatJ4
namespace Go.Proofs.YtlkpllemoepamaaGreat
open Go Go.Gm Tryz
set_option linter.unusedVariables false
set_option linter.unusedSimpArgs false
set_option maxHeartbeats 4000000
set_option maxRecDepth 8000
structure Zuz where
 phen:Int
 walk:List Zg
 read:Zp9
 deriving DecidableEq,Inhabited
def Zr1 (w:Zuz):List PV:=[.int .i64 w.phen,.sl Zs w.walk,.int .i64 w.read.tx,.int .i64 w.read.place,.int .i64 w.read.vof.tx,.int .i64 w.read.vof.key,.int .i64 w.read.vof.nth]
def Zqk:Zp9:=⟨0,0,⟨0,0,0⟩⟩
def ZfS:Zuz:=⟨0,[],Zqk⟩
def Zus (p:Int) (R:List Zg):Zuz:=if R = [] then ZfS else ⟨p,R,Zqk⟩
def ZtT (p:Int) (l:List Zp9):Zuz:=if l = [] then ZfS else ⟨p,[],Nn l 0⟩
def Zis (l:List Zg) (p:Int) (R:List Zg):Prop:=if (ZZ p).1=0 then R = [] else
 (R = [] ∧ ∀ j w,¬ CwE (· ∈ l.filter (kindOk (ZZ p).1)) (fun e=>ofB (ZZ p).2 e.kind) (!decide ((ZZ p).2=0)) j w)∨ZeV (· ∈ l.filter (kindOk (ZZ p).1)) (fun e=>ofB (ZZ p).2 e.kind) (!decide ((ZZ p).2=0)) R
theorem ZtB {p:Int} (h:(ZZ p).1≠0):bits .and .i64 (ZZ p).1 14=(ZZ p).1∧bits .and .i64 (ZZ p).2 14=(ZZ p).2∧bits .andNot .i64 (ZZ p).1 (ZZ p).2≠bits .and .i64 (ZZ p).1 (ZZ p).2 ∧
  (∀ k,1≤k→k≤3→ofB (bits .andNot .i64 (ZZ p).1 (ZZ p).2) k=(ofB (ZZ p).1 k && !ofB (ZZ p).2 k)) ∧ ∀ k,1≤k→k≤3→ofB (bits .and .i64 (ZZ p).1 (ZZ p).2) k=(ofB (ZZ p).1 k && ofB (ZZ p).2 k):=by
 have key:∀ a b:Int,(a=2∧b=0)∨(a=6∧b=0)∨(a=14∧b=8)→bits .and .i64 a 14=a∧bits .and .i64 b 14=b∧bits .andNot .i64 a b≠bits .and .i64 a b∧(∀ k,1≤k→k≤3→ofB (bits .andNot .i64 a b) k=(ofB a k && !ofB b k)) ∧ ∀ k,1≤k→k≤3→ofB (bits .and .i64 a b) k=(ofB a k && ofB b k):=by
  rintro a b (⟨rfl,rfl⟩ | ⟨rfl,rfl⟩ | ⟨rfl,rfl⟩) <;> refine ⟨by decide +kernel,by decide +kernel,by decide +kernel,fun k h1 h2=>?_,fun k h1 h2=>?_⟩ <;> (rcases (show k=1∨k=2∨k=3 by omega) with rfl | rfl | rfl <;> decide +kernel)
 refine key _ _ ?_
 unfold ZZ at h ⊢
 by_cases h1:p=1
 ·subst h1;exact .inl ⟨rfl,rfl⟩
 ·by_cases h4:p=4
  ·subst h4;exact .inr (.inl ⟨rfl,rfl⟩)
  ·by_cases h5:p=5
   ·subst h5;exact .inr (.inr ⟨rfl,rfl⟩)
   ·rw [Yc h1,Yc h4,Yc h5] at h;exact absurd rfl h
theorem ZtQ (l:List Zg) (p:Int) (hl:l.length≤100000) (hN:(ZZ p).1≠0→(ZR (l.filter (kindOk (ZZ p).1))).length≤4096) (R:List Zg) (hR:Zis l p R):FnP prog 36 [.sl Zs l,.int .i64 p] (.tup [.agg (Zr1 (Zus p R)),.bool (decide (R≠[]))]):=by
 refine FnP.mk func36 rfl ntmps36 rfl fun B a w F V hfr G=>Ya ?_
 refine Zb G (qf (oH [.int .i64 0,.slice none 0 0,.int .i64 0,.int .i64 0,.int .i64 0,.int .i64 0,.int .i64 0] 101) trivial qz qB) V [5,4,1,0] [101,0] (fun _=>rfl) (fun _=>rfl) fun τ a w F G=>?_
 try dsimp only [RS.sub,SF.sub,CF.sub,csub,Anc.sub,List.map,zCF,Zs] at G
 generalize τ 4=v4 at G
 refine Za (Ya (rZ G (qR rr (qf (oP (Zj4 p) func68 (Args.one .t)) r1 qz (qR rr (qf (Zj .t rfl) r1 qz (qf (Zj .t rfl) r1 qz (qO rr (qO rr qZ))))))) V [7,6,5,4,1,0] [101,0] fun G=>(Ya (Ya ?_))))
 refine rZ G (qR rr (qf (o_eql .t qi) r1 qz qZ)) V [16,7,6,5,4,1,0] [101,0] fun G=>?_
 refine Zc G rfl (fun hc0=>?_) (fun hc0=>?_)
 ·have hm0:(ZZ p).1=0:=Yq hc0
  have hR2:R = []:=by unfold Zis at hR;rw [Yf hm0] at hR;exact hR
  have hw:Zus p R=ZfS:=Yf hR2
  have hok:false=decide (R≠[]):=by rw [hR2];rfl
  refine Ya (rZ G (qf (oB [] [.int .i64 0,.slice none 0 0,.int .i64 0,.int .i64 0,.int .i64 0,.int .i64 0,.int .i64 0] [(0,1),(1,1),(2,5)] .nil) trivial qz (qs 7 101 r2 r1 qB)) V [7,6,5,4,1,0] [101,0] fun G=>(Yh (Zl ?_)))
  refine Zab hfr G rfl (.cl 101 true 7 rfl rfl (.tmp rfl .nil)) (.two (.aggLe rfl (by rw [hw];exact ⟨.refl,.nilSl,.refl,.refl,.refl,.refl,.refl,tv⟩)) (.bool hok))
 have hm0:(ZZ p).1≠0:=YJ hc0
 obtain ⟨hk1,hk2,hk3,hk4,hk5⟩:=ZtB hm0
 have hn0:=hN hm0
 have hR2:=hR
 unfold Zis at hR2
 rw [Yc hm0] at hR2
 refine Ye (Za (Ya (rZ G (qR rr (qR rr (qR rr (qf (oP (Zmp l _ (ZZ p).1 (ZZ p).2 (ZZ p).1 (ZZ p).2 _ _ hk1 hk2 rfl rfl hk3 hk4 hk5 hl rfl hn0 R hR2) func76 (Args.three .t .t .t)) r3 qz (qR rr (qf (Zj .t rfl) r1 qz (qf (Zj .t rfl) r1 qz (qO rr (qO rr qZ))))))))) V [9,8,5,4,1] [101,0] fun G=>(Ya (Ya ?_)))))
 refine rZ G (qR rr (qf (o_neq .t qi) r1 qz qZ)) V [26,8,5,4,1] [101,0] fun G=>?_
 refine Zc G rfl (fun hc1=>?_) (fun hc1=>?_)
 ·have hr0:R = []:=Ybw fun k=>(by have h9:=hc1;rw [Yc k] at h9;simp at h9)
  have hw:Zus p R=ZfS:=Yf hr0
  have hok:false=decide (R≠[]):=by rw [hr0];rfl
  refine Ya (rZ G (qf (oB [] [.int .i64 0,.slice none 0 0,.int .i64 0,.int .i64 0,.int .i64 0,.int .i64 0,.int .i64 0] [(0,1),(1,1),(2,5)] .nil) trivial qz (qs 7 101 r2 r1 qB)) V [8,5,4,1] [101,0] fun G=>(Yh (Zl ?_)))
  refine Zab hfr G rfl (.cl 101 true 7 rfl rfl (.tmp rfl .nil)) (.two (.aggLe rfl (by rw [hw];exact ⟨.refl,.nilSl,.refl,.refl,.refl,.refl,.refl,tv⟩)) (.bool hok))
 have hr0:R≠[]:=fun k=>(by have h9:=hc1;rw [Yf k] at h9;simp at h9)
 have hw:Zus p R = ⟨p,R,Zqk⟩:=Yc hr0
 have hok:true=decide (R≠[]):=(Yac hr0).symm
 refine Ye (Za (Ya (rZ G (qR rr (qR rr (qf (oB [(0,.tmp 28),(1,.tmp 29)] [.int .i64 0,.slice none 0 0,.int .i64 0,.int .i64 0,.int .i64 0,.int .i64 0,.int .i64 0] [(0,1),(1,1),(2,5)] (.one rfl .t one_int kr (.one rfl .t one_sl kr .nil))) r2 qz (qs 7 101 r2 r1 qB)))) V [5,4] [101,0] fun G=>Yh ?_)))
 refine Zab hfr G rfl (.cl 101 true 7 rfl rfl (.tmp rfl .nil)) (.two (.aggU rfl (by rw [hw] <;> rfl)) (.bool hok))
theorem Zpk (g:Zw) (p:Int) (hsm:Zbs g):FnP prog 35 [.agg (Zx g),.int .i64 p] (.tup [.agg (Zr1 (ZtT p (ZaT g p fun _=>true))),.bool (decide ((ZaT g p fun _=>true)≠[]))]):=by
 refine FnP.mk func35 rfl ntmps35 rfl fun B a w F V hfr G=>Ya ?_
 refine Zb G (qx 101 r1 (qf (oH [.int .i64 0,.slice none 0 0,.int .i64 0,.int .i64 0,.int .i64 0,.int .i64 0,.int .i64 0] 102) trivial qz qB)) V [5,4,2,1] [102,101,0] (fun _=>rfl) (fun _=>rfl) fun τ a w F G=>?_
 try dsimp only [RS.sub,SF.sub,CF.sub,csub,Anc.sub,List.map,zCF,Zx,rTx,ZJ,ZW,Zn,rOp,Zic] at G
 generalize τ 2=v2 at G
 generalize τ 4=v4 at G
 refine Za (Ya (rZ G (qe 2 101 r1 r1 (qR rr (qf (oP (ZvI g p hsm) func67 (Args.two (.pagg .t) .t)) r2 qz (qO rr qZ)))) V [6,5,4,1] [102,101,0] fun G=>(Ya (Ya ?_))))
 refine rZ G (qR rr (qu underlying105 r1 (qf (o_eql .t qi) r1 qz qZ))) V [12,6,5,4,1] [102,101,0] fun G=>?_
 refine Zc G rfl (fun hc0=>?_) (fun hc0=>?_)
 ·have hr0:(ZaT g p fun _=>true) = []:=YR (by have h9:=Yq hc0;omega)
  have hw:ZtT p (ZaT g p fun _=>true)=ZfS:=Yf hr0
  have hok:false=decide ((ZaT g p fun _=>true)≠[]):=by rw [hr0];rfl
  refine Ya (rZ G (qf (oB [] [.int .i64 0,.slice none 0 0,.int .i64 0,.int .i64 0,.int .i64 0,.int .i64 0,.int .i64 0] [(0,1),(1,1),(2,5)] .nil) trivial qz (qs 7 102 r2 r1 qB)) V [6,5,4,1] [102,101,0] fun G=>(Yh (Zl ?_)))
  refine Zab hfr G rfl (.cl 102 true 7 rfl rfl (.tmp rfl .nil)) (.two (.aggLe rfl (by rw [hw];exact ⟨.refl,.nilSl,.refl,.refl,.refl,.refl,.refl,tv⟩)) (.bool hok))
 have hne:(ZaT g p fun _=>true)≠[]:=fun k=>(by have h9:=YJ hc0;rw [k] at h9;simp at h9)
 have hw:ZtT p (ZaT g p fun _=>true) = ⟨p,[],Nn (ZaT g p fun _=>true) 0⟩:=Yc hne
 have hok:true=decide ((ZaT g p fun _=>true)≠[]):=(Yac hne).symm
 refine Ye (Za (Ya (Ze G (qR rr (qR rr (qf (o_indexAddr_sl (sz:=5) (.mk underlying105 kr) (by intro x;rfl) .t qi (by decide) (by have:=YaA.2 hne;omega)) r1 qz (qf (oR true 5 .t) r1 qz (qf (oB [(0,.tmp 14),(2,.tmp 17)] [.int .i64 0,.slice none 0 0,.int .i64 0,.int .i64 0,.int .i64 0,.int .i64 0,.int .i64 0] [(0,1),(1,1),(2,5)] (.one rfl .t one_int kr (.agg rfl .t kr kr .nil))) r2 qz (qs 7 102 r2 r1 qB)))))) V [5,4] [102,101,0] rfl rfl fun a w F G=>?_)))
 try simp only [Yb] at G
 refine Za (Yh (Zab hfr G rfl (.cl 102 true 7 rfl rfl (.tmp rfl .nil)) (.two (.aggLe rfl (by rw [hw];exact ⟨.refl,.nilSl,.refl,.refl,.refl,.refl,.refl,tv⟩)) (.bool hok))))
theorem ZmL {g:Zw} (hs:Zbs g) (mask:Int):(ZR ((Zaj g).filter (kindOk mask))).length≤4096:=by
 by_cases hg:ZT g
 ·have h1:(ZR ((Zaj g).filter (kindOk mask))).length≤(g.txs.map TxD.id).length:=List.Nodup.length_le_of_subset ((ZX _).1.imp fun h=>Int.ne_of_lt h) fun x hx=>by
   obtain ⟨e,he,hx⟩:=Zar.1 hx
   obtain ⟨h3,h4⟩:=Zlu hg ((Zf5 hg).1 (YT.1 he).1)
   rcases hx with rfl | rfl
   ·obtain ⟨t,h5,h6,_⟩:=h3;exact Yw.2 ⟨t,h5,h6⟩
   ·obtain ⟨t,h5,h6,_⟩:=h4;exact Yw.2 ⟨t,h5,h6⟩
  have h2:=hs.1.1
  rw [YH] at h1;omega
 ·rw [ZlV hg];exact Yx _
def Zut (g:Zw) (p:Int) (R:List Zg):Zuz:=if p=2∨p=3 then ZtT p (ZaT g p fun _=>true) else Zus p R
def okH (g:Zw) (p:Int) (R:List Zg):Bool:=if p=2∨p=3 then decide ((ZaT g p fun _=>true)≠[]) else decide (R≠[])
theorem ZvQ (g:Zw) (hsm:Zbs g) (hAR:(wwC PT1 g).length+(rdC PT1 g).length≤100000) (p:Int) (R:List Zg) (hR:Zis (Zaj g) p R):FnP prog 12 [.agg (Zx g),.int .i64 p] (.tup [.agg (Zr1 (Zut g p R)),.bool (okH g p R)]):=by
 refine FnP.mk func12 rfl ntmps12 rfl fun B a w F V hfr G=>?_
 have hel:=Zhc (A:=wwC PT1 g) (R:=rdC PT1 g)
 have hkl:=Zf1 (Zgv (wwC PT1 g) (rdC PT1 g))
 have hal:(Zgv (wwC PT1 g) (rdC PT1 g)).length≤100000:=by unfold Zgv;rw [Yd,YH];exact hAR
 have hpl:(Zaj g).length≤100000:=by unfold Zaj;rw [YH];omega
 obtain ⟨rb,hrb⟩:=ZhP (ZeR (Zaj g) (ZZ p).1 (ZZ p).2)
 refine Ya (Zb G (qx 101 r1 (qf (oH [.int .i64 0,.slice none 0 0,.int .i64 0,.int .i64 0,.int .i64 0,.int .i64 0,.int .i64 0] 102) trivial qz qB)) V [5,4,2,1] [102,101,0] (fun _=>rfl) (fun _=>rfl) fun τ a w F G=>?_)
 try dsimp only [RS.sub,SF.sub,CF.sub,csub,Anc.sub,List.map,zCF,Zx,rTx,ZJ,ZW,Zn,rOp,Zic,rHv,Zs] at G
 generalize τ 2=v2 at G
 generalize τ 4=v4 at G
 refine Za (Ya (Ya (rZ G (qR rr qZ) V [6,5,4,2,1] [102,101,0] fun G=>(Yg (Ya (Ya ?_))))))
 refine rZ G (qf (o_eql .t qi) r1 qz (qO rr qZ)) V [7,6,5,4,2,1] [102,101,0] fun G=>?_
 refine Zc G rfl (fun hc0=>?_) (fun hc0=>?_)
 ·have h23:(p=2∨p=3):=(by have h9:=hc0;simp at h9;omega)
  have hw:Zut g p R=ZtT p (ZaT g p fun _=>true):=Yf h23
  have hok:decide ((ZaT g p fun _=>true)≠[])=okH g p R:=(Yf h23).symm
  refine Ye (Za (Zc G rfl (fun hc1=>?_) (fun hc1=>?_)))
  ·have h23:(p=2∨p=3):=(by have h9:=hc1;simp at h9;omega)
   have hw:Zut g p R=ZtT p (ZaT g p fun _=>true):=Yf h23
   have hok:decide ((ZaT g p fun _=>true)≠[])=okH g p R:=(Yf h23).symm
   refine Ya (rZ G (qe 2 101 r1 r1 (qR rr (qf (oP (Zpk g p hsm) func35 (Args.two (.pagg .t) .t)) r2 qz (qf (Zj .t rfl) r1 qz (qf (Zj .t rfl) r1 qz (qf (oA 7 102 .is (.conv .t .agg)) r2 r1 (qO rr qZ))))))) V [5,4,2,1] [102,101,0] fun G=>(Yh (Zz (Zl ?_))))
   refine Zab hfr G rfl (.cl 102 true 7 rfl rfl (.tmp rfl .nil)) (.two (.aggU rfl (by rw [hw] <;> rfl)) (.bool hok))
  exact Bool.noConfusion (hc0.symm.trans hc1)
 refine rZ G (qf (o_eql .t qi) r1 qz (qO rr qZ)) V [7,5,4,2,1] [102,101,0] fun G=>?_
 refine Zc G rfl (fun hc2=>?_) (fun hc2=>?_)
 ·have h23:(p=2∨p=3):=(by have h9:=hc2;simp at h9;omega)
  have hw:Zut g p R=ZtT p (ZaT g p fun _=>true):=Yf h23
  have hok:decide ((ZaT g p fun _=>true)≠[])=okH g p R:=(Yf h23).symm
  refine Ya (rZ G (qe 2 101 r1 r1 (qR rr (qf (oP (Zpk g p hsm) func35 (Args.two (.pagg .t) .t)) r2 qz (qf (Zj .t rfl) r1 qz (qf (Zj .t rfl) r1 qz (qf (oA 7 102 .is (.conv .t .agg)) r2 r1 (qO rr qZ))))))) V [5,4,2,1] [102,101,0] fun G=>(Yh (Zz (Zl ?_))))
  refine Zab hfr G rfl (.cl 102 true 7 rfl rfl (.tmp rfl .nil)) (.two (.aggU rfl (by rw [hw] <;> rfl)) (.bool hok))
 have hn23:¬ (p=2∨p=3):=by rintro (h9 | h9);exact YJ hc0 h9;exact YJ hc2 h9
 have hw:Zut g p R=Zus p R:=Yc hn23
 have hok:decide (R≠[])=okH g p R:=(Yc hn23).symm
 refine Ye (Zh (Za (Ya (rZ G (qe 2 101 r1 r1 (qf (oP (Zpg g hsm (Y0 hAR (by decide))) func38 (Args.one (.pagg .t))) r1 qz (qf (oP (ZoT _ (by have h9:=hpl;unfold Zaj at h9;rw [YH] at h9;exact Y0 h9 (by decide))) func37 (Args.one .t)) r1 qz (qR rr (qf (oP (ZtQ (Zaj g) p hpl (fun _=>ZmL hsm _) R hR) func36 (Args.two .t .t)) r2 qz (qf (Zj .t rfl) r1 qz (qf (Zj .t rfl) r1 qz (qf (oA 7 102 .is (.conv .t .agg)) r2 r1 (qO rr qZ))))))))) V [5,4] [102,101,0] fun G=>Yh ?_))))
 refine Zab hfr G rfl (.cl 102 true 7 rfl rfl (.tmp rfl .nil)) (.two (.aggU rfl (by rw [hw] <;> rfl)) (.bool hok))
def Ziw (k:Int):List UInt8:=if k=1 then [119,119] else if k=2 then [119,114] else if k=3 then [114,119] else [120]
def ZvV (k:Int):Int:=IntKind.wrap .i64 (1*2 ^ min (IntKind.wrap .u64 k).toNat (IntKind.bits .i64))
def Ziv (l:List Zg):Int:=l.foldl (fun n e=>if 1≤e.kind∧e.kind≤3 then bits .or .i64 n (ZvV e.kind) else n) 0
theorem ZgU {l:List Zg} {i:Nat} (h:i<l.length):Ziv (l.take (i+1))=if 1≤(Nn l i).kind∧(Nn l i).kind≤3 then bits .or .i64 (Ziv (l.take i)) (ZvV (Nn l i).kind) else Ziv (l.take i):=by
 rw [Zp h];unfold Ziv;rw [Yau];rfl
def ZjU (g:Zw) (id:Int):Bool:=(Z6 g.txs id).isSome && ((Z6 g.txs id).getD zeroT).done
def ZeA (g:Zw) (v:ZbT):Bool:=decide (v.tx=0) || (ZjU g v.tx && decide (v.nth=((((Z6 g.txs v.tx).getD zeroT).ops.filter fun o=>!o.read && decide (o.key=v.key)).length:Nat)))
def ZkG (g:Zw) (key u x:Int):Bool:=(Zei (getO g.orders key) u).2 && decide ((Zei (getO g.orders key) u).1=x)
theorem ZhZ {g:Zw} (hs:ZaW g.txs) (id:Int):((Z6 g.txs id).getD zeroT).ops.length≤1000000:=by
 cases hf:Z6 g.txs id with
 | none=>simp [zeroT]
 | some t=>exact Y0 (hs.2 _ (findT_mem hf).1) (by decide)
theorem Zo8 (k:Int):FnP prog 74 [.int .i64 k] (.bs (Ziw k)):=by
 refine FnP.mk func74 rfl ntmps74 rfl fun B a w F V hfr G=>Ya ?_
 refine rZ G (qf (oN (.cs kr)) trivial qz qZ) V [2,0] [0] fun G=>(Ya (Ya ?_))
 refine rZ G (qR rr qZ) V [3,2] [0] fun G=>(Yg (Ya ?_))
 refine rZ G (qf (o_eql .t qi) r1 qz (qO rr qZ)) V [4,3,2] [0] fun G=>?_
 refine Zc G rfl (fun hc0=>?_) (fun hc0=>?_)
 ·refine Ya (rZ G (qf (oN (.cs kr)) trivial qz qZ) V [2] [0] fun G=>(Yh (Zz (Zl ?_))))
  refine Zr hfr G rfl rfl rfl (.bs (by unfold Ziw;simp_all))
 refine Ya (rZ G (qf (o_eql .t qi) r1 qz (qO rr qZ)) V [6,3,2] [0] fun G=>?_)
 refine Zc G rfl (fun hc1=>?_) (fun hc1=>?_)
 ·refine Ya (rZ G (qf (oN (.cs kr)) trivial qz qZ) V [2] [0] fun G=>(Yh (Zz (Zl ?_))))
  refine Zr hfr G rfl rfl rfl (.bs (by unfold Ziw;simp_all))
 refine Ya (rZ G (qf (o_eql .t qi) r1 qz (qO rr qZ)) V [8,2] [0] fun G=>?_)
 refine Zc G rfl (fun hc2=>?_) (fun hc2=>?_)
 ·refine Ya (rZ G (qf (oN (.cs kr)) trivial qz qZ) V [2] [0] fun G=>(Yh (Zz (Zl ?_))))
  refine Zr hfr G rfl rfl rfl (.bs (by unfold Ziw;simp_all))
 refine Ye (Zh (Za (Ya (rZ G (qf (oN (.cs kr)) trivial qz qZ) V [2] [0] fun G=>Yh ?_))))
 refine Zr hfr G rfl rfl rfl (.bs (by unfold Ziw;simp_all))
theorem ZtI (l:List Zg) (hl:l.length≤1000000):FnP prog 71 [.sl Zs l] (.int .i64 (Ziv l)):=by
 refine FnP.mk func71 rfl ntmps71 rfl fun B a w F V hfr G=>Ya ?_
 refine rZ G (qI qZ) V [2,0] [0] fun G=>Ya ?_
 refine rZ G (qI qZ) V [3,2,0] [0] fun G=>(Ya (Ya ?_))
 refine rZ G (qR rr (qu underlying31 r1 (qJ qZ))) V [8,7,6,3,2] [0] fun G=>Yg ?_
 refine Zk (σ:=(Nat)) [2,6,7] [0] (fun s=>[(8,.pv (.int .i64 (s:Int))),(3,.pv (.int .i64 (Ziv (l.take s))))]) (fun s=>[]) (fun s=>s≤l.length∧(True)) (fun s=>l.length - s) (0) G ⟨rfl,rfl,rfl,rfl,rfl,tv⟩ ⟨rfl,tv⟩ ⟨Yx _,tv⟩ ?_
 clear G;intro i a w F hC G
 try dsimp only at hC
 obtain ⟨F,G⟩:=G.nM [8,7,6,3,2] [0]
 try dsimp only at G
 obtain ⟨hi,hq⟩:=hC
 refine Ya (rZ G (qL r2) V [9,8,7,6,3,2] [0] fun G=>Ya ?_)
 refine Zc G rfl (fun hc0=>?_) (fun hc0=>?_)
 ·have hil:i<l.length:=by simp at hc0;omega
  refine Ye (Za (Ya (Yg (Ya (Zb G (qy 4 underlying31 r2 (qf (oR true 4 .t) r1 qz (qf (oH [.int .i64 0,.int .i64 0,.int .i64 0,.int .i64 0] 101) trivial qz (qS 4 101 r2 r1 qZ)))) V [8,7,6,5,3,2] [101,0] (fun _=>rfl) (fun _=>rfl) fun τ a w F G=>?_)))))
  try dsimp only [RS.sub,SF.sub,CF.sub,csub,Anc.sub,List.map,Zf,xL,xM,Nat.reduceAdd,xD,xE,xT,xU,xC,xN,zCF,ldSF,Zs] at G
  generalize τ 5=v5 at G
  try simp only [Yb] at G
  refine Za (Ya (rZ G (qg 2 101 r1 r1 (qa 101 r1 r1 (qf (Zbp .t qi) r1 qz (qR rr (qv 2 101 rfl r2 r1 (qw 101 rfl r2 r1 (qk rfl (fun h=>ZkF (.w h) qi) r2 qz (qf (ZE .t .t) r2 qz qZ)))))))) V [19,8,7,6,5,3,2] [101,0] fun G=>?_))
  refine Zc G rfl (fun hc1=>?_) (fun hc1=>?_)
  ·have hyn:1≤(Nn l i).kind∧(Nn l i).kind≤3:=by simpa using hc1
   refine Ze G (qR rr (qg 2 101 r1 r1 (qa 101 r1 r1 (qf (o_conv underlying162 kr .t) r1 qz (qf (o_shl qi .t  (by rw [Zal];omega)) r1 qz (qf (Zst .t .t) r2 qz (qO rr qZ))))))) V [8,7,6,3,2] [0] rfl rfl fun a w F G=>Zh (Za ?_)
   refine rZ G (qp r1 (qR rr qZ)) V [8,7,6,3,2] [0] fun G=>?_
   replace G:=G.ent (i:=8) (s':=.pv (.int .i64 ((i+1:Nat):Int))) rfl (.int (Zd ow))
   replace G:=G.ent (i:=3) (s':=.pv (.int .i64 (Ziv (l.take (i+1))))) rfl (.int (by rw [ZgU hil,Yf hyn];rfl))
   obtain ⟨F,G⟩:=G.nM [7,6,2,3,8] [0]
   exact ⟨(i+1),F,⟨by omega,tv⟩,G,by omega⟩
  have hyn:¬ (1≤(Nn l i).kind∧(Nn l i).kind≤3):=by have h9:=hc1;simp at h9;omega
  refine Ye (Zh (Za (rZ G (qp r1 (qR rr qZ)) V [8,7,6,3,2] [0] fun G=>?_)))
  replace G:=G.ent (i:=8) (s':=.pv (.int .i64 ((i+1:Nat):Int))) rfl (.int (Zd ow))
  replace G:=G.ent (i:=3) (s':=.pv (.int .i64 (Ziv (l.take (i+1))))) rfl (.int (by rw [ZgU hil,Yc hyn]))
  obtain ⟨F,G⟩:=G.nM [7,6,2,3,8] [0]
  exact ⟨(i+1),F,⟨by omega,tv⟩,G,by omega⟩
 have hil:i=l.length:=by simp at hc0;omega
 refine Yv (Zi (Zi (Zo (Za (Ya (rZ G (qR rr (qO rr qZ)) V [2] [0] fun G=>Yh ?_))))))
 refine Zr hfr G rfl rfl rfl (.int (by rw [hil,Yz]))
theorem Zj9 (g:Zw) (id:Int) (hs:ZaW g.txs):FnP prog 80 [.agg (Zx g),.int .i64 id] (.tup [.agg (rTx ((Z6 g.txs id).getD zeroT)),.bool (ZjU g id)]):=by
 refine FnP.mk func80 rfl ntmps80 rfl fun B a w F V hfr G=>Ya ?_
 refine Zb G (qx 101 r1 (qf (oH [.int .i64 0,.bool false,.slice none 0 0] 102) trivial qz qB)) V [5,4,2,1] [102,101,0] (fun _=>rfl) (fun _=>rfl) fun τ a w F G=>?_
 try dsimp only [RS.sub,SF.sub,CF.sub,csub,Anc.sub,List.map,zCF,Zx,rTx,ZJ,ZW,Zn,rOp] at G
 generalize τ 2=v2 at G
 generalize τ 4=v4 at G
 refine Za (Ya (Zb G (qg 0 101 r1 r1 (qf (oL true 2 101 .adr) r1 r1 (qR rr (qf (oP (ZsB g id hs) func28 (Args.two (.pagg .t) .t)) r2 qz (qR rr (qf (Zj .t rfl) r1 qz (qf (Zj .t rfl) r1 qz (qf (oH [.int .i64 0,.bool false,.slice none 0 0] 103) trivial qz (qf (oA 3 103 .same (.conv .t .agg)) r2 r1 (qO rr qZ)))))))))) V [7,6,5,4] [103,102,101,0] (fun _=>rfl) (fun _=>rfl) fun τ a w F G=>?_))
 try dsimp only [RS.sub,SF.sub,CF.sub,csub,Anc.sub,List.map,Zf,xL,xM,Nat.reduceAdd,xD,xE,xT,xU,xC,xN,zCF,ldSF,Zx,rTx,ZJ,ZW,Zn,rOp] at G
 generalize τ 6=v6 at G
 refine Za (Ya (Zv G (qe 3 103 r1 r1 (qR rr (qR rr (qv 1 103 rfl r2 r1 (qw 103 rfl r2 r1 (qf (ZE .t .t) r2 qz (qs 3 102 r2 r1 (qO rr qZ)))))))) V [5,4] [103,102,101,0] rfl rfl fun a w F G=>?_))
 try dsimp only [List.map,Zf,xL,xM,Nat.reduceAdd,xD,xE,xT,xU,xC,xN,zCF,ldSF,Zx,rTx,ZJ,ZW,Zn,rOp] at G
 refine Za (Yh (Zab hfr G rfl (.cl 102 true 3 rfl rfl (.tmp rfl .nil)) (.two (.aggU rfl rfl) (.bool rfl))))
theorem ZpG (g:Zw) (v:ZbT) (hs:ZaW g.txs):FnP prog 84 [.agg (Zx g),.agg (ZW v)] (.bool (ZeA g v)):=by
 refine FnP.mk func84 rfl ntmps84 rfl fun B a w F V hfr G=>Ya ?_
 refine Zb G (qx 101 r1 (qx 102 r1 qB)) V [4,3,2] [102,101,0] (fun _=>rfl) (fun _=>rfl) fun τ a w F G=>?_
 try dsimp only [RS.sub,SF.sub,CF.sub,csub,Anc.sub,List.map,zCF,Zx,rTx,ZJ,ZW,Zn,rOp] at G
 generalize τ 2=v2 at G
 generalize τ 3=v3 at G
 refine Za (Ya (Ya (rZ G (qg 0 102 r1 r1 (qa 102 r1 r1 (qf (o_eql .t qi) r1 qz qZ))) V [9,4,3,2] [102,101,0] fun G=>?_)))
 refine Zc G rfl (fun hc0=>?_) (fun hc0=>?_)
 ·have hg:true=ZeA g v:=by unfold ZeA;rw [Yq hc0];rfl
  refine Ya (rZ G qB V [4,3,2] [102,101,0] fun G=>(Yh (Zl ?_)))
  refine Zr hfr G rfl rfl rfl (.bool hg)
 have hv0:v.tx≠0:=YJ hc0
 have hg:(ZjU g v.tx && decide (v.nth=((((Z6 g.txs v.tx).getD zeroT).ops.filter fun o=>!o.read && decide (o.key=v.key)).length:Nat)))=ZeA g v:=by unfold ZeA;rw [YB hv0,Ybf]
 refine Ye (Za (Ya (Zb G (qe 2 101 r1 r1 (qg 0 102 r1 r1 (qa 102 r1 r1 (qf (oP (Zj9 g v.tx hs) func80 (Args.two (.pagg .t) .t)) r2 qz (qR rr (qf (Zj .t rfl) r1 qz (qf (Zj .t rfl) r1 qz (qf (oH [.int .i64 0,.bool false,.slice none 0 0] 103) trivial qz (qf (oA 3 103 .same (.conv .t .agg)) r2 r1 (qO rr qZ)))))))))) V [6,5,4,3] [103,102,101,0] (fun _=>rfl) (fun _=>rfl) fun τ a w F G=>?_)))
 try dsimp only [RS.sub,SF.sub,CF.sub,csub,Anc.sub,List.map,Zf,xL,xM,Nat.reduceAdd,xD,xE,xT,xU,xC,xN,zCF,ldSF,Zx,rTx,ZJ,ZW,Zn,rOp] at G
 generalize τ 5=v5 at G
 refine Za (Ya (Zv G (qR rr (qR rr (qv 2 102 rfl r2 r1 (qw 102 rfl r2 r1 (qk rfl (fun h=>oL true 3 103 .is) r2 r1 (qv 1 102 rfl r2 r1 (qw 102 rfl r2 r1 (qk rfl (fun h=>oP (Zdf ((Z6 g.txs v.tx).getD zeroT) v.key (ZhZ hs _)) func29 (Args.two (.pagg (.w h)) (.w h))) r3 qz (qk rfl (fun h=>o_eql (.w h) (.w h)) r3 qz (qf (ZE .t .t) r2 qz (qO rr qZ))))))))))) V [4] [103,102,101,0] rfl rfl fun a w F G=>?_))
 try dsimp only [List.map,xD,xE,xT,xU,ldSF,Zx,rTx,ZJ,ZW,Zn,rOp] at G
 refine Za (Yh (Zr hfr G rfl rfl rfl (.bool hg)))
theorem Zov (g:Zw) (key u x:Int) (hs:Zbs g):FnP prog 81 [.agg (Zx g),.int .i64 key,.int .i64 u,.int .i64 x] (.bool (ZkG g key u x)):=by
 refine FnP.mk func81 rfl ntmps81 rfl fun B a w F V hfr G=>Ya ?_
 refine Zb G (qx 101 r1 qB) V [8,4,3,2,1] [101,0] (fun _=>rfl) (fun _=>rfl) fun τ a w F G=>?_
 try dsimp only [RS.sub,SF.sub,CF.sub,csub,Anc.sub,List.map,zCF,Zx,rTx,ZJ,ZW,Zn,rOp] at G
 generalize τ 4=v4 at G
 refine Za (Ya (rZ G (qg 0 101 r1 r1 (qf (oL true 2 101 .adr) r1 r1 (qR rr (qf (oP (ZrA g key hs.2) func16 (Args.two (.pagg .t) .t)) r2 qz (qR rr (qf (oP (Zth (getO g.orders key) u) func15 (Args.two .t .t)) r2 qz (qR rr (qf (Zj .t rfl) r1 qz (qf (Zj .t rfl) r1 qz (qO rr (qO rr qZ))))))))))) V [10,9,8,3] [101,0] fun G=>Ya ?_))
 refine rZ G (qR rr (qR rr (qm rfl rfl rfl rfl (qm rfl rfl rfl rfl (qk rfl (fun h=>o_eql (.w h) (.w h)) r3 qz (qf (ZE .t .t) r2 qz (qO rr qZ))))))) V [8] [101,0] fun G=>Yh ?_
 refine Zr hfr G rfl rfl rfl (.bool rfl)
def Zqc (u:Nat):List Int:=if h:u=0 then [] else Zqc (u / 10) ++ [((48+u % 10:Nat):Int)]
 termination_by u
 decreasing_by omega
def Zid (u:Nat):List Int:=Zqc (u / 10) ++ [((48+u % 10:Nat):Int)]
theorem Zld:Zqc 0 = []:=by unfold Zqc;simp
theorem ZlN {u:Nat} (h:u≠0):Zqc u=Zid u:=by unfold Zqc Zid;simp [h]
def Ze2 (n:Int):List UInt8:=if n<0 then 45 :: (Zid n.natAbs).map toB else (Zid n.natAbs).map toB
structure Zgn (u0 i u:Nat) (l:List Int):Prop where
 hl:l.length=20
 hi:i≤20
 hu:u<10 ^ i
 hb:u≤18446744073709551615
 ok:(i=20∧u=u0)∨(i<20∧Zqc u++l.drop i=Zid u0)
theorem Zgn.start {u0:Nat} (h:u0≤18446744073709551615):Zgn u0 20 u0 [0,0,0,0,0,0,0,0,0,0,0,0,0,0,0,0,0,0,0,0]:=⟨rfl,YN _,by omega,h,.inl ⟨rfl,rfl⟩⟩
theorem Zgn.pos {u0 i u:Nat} {l:List Int} (h:Zgn u0 i u l) (hc:i=20∨0<u):1≤i:=by
 rcases hc with hc | hc
 ·omega
 ·rcases Nat.eq_zero_or_pos i with h0 | h0
  ·have:=h.hu;rw [h0] at this;omega
  ·exact h0
theorem Zgn.next {u0 i u:Nat} {l:List Int} (h:Zgn u0 i u l) (hc:i=20∨0<u):Zgn u0 (i - 1) (u / 10) (l.set (i - 1) ((48+u % 10:Nat):Int)):=by
 have h1:=h.pos hc
 have hi:=h.hi
 have hl:=h.hl
 have hd:(l.set (i - 1) ((48+u % 10:Nat):Int)).drop (i - 1)=((48+u % 10:Nat):Int) :: l.drop i:=by
  rw [Yba (by rw [YL];omega),Ybc,show i - 1+1=i by omega,List.drop_set_of_lt ow]
 refine ⟨by rw [YL];exact h.hl,by omega,?_,by have:=h.hb;omega,.inr ⟨by omega,?_⟩⟩
 ·have:=h.hu
  rw [show i=(i - 1)+1 by omega,Nat.pow_succ] at this
  omega
 ·rw [hd]
  have e:Zqc (u / 10)++((48+u % 10:Nat):Int) :: l.drop i=Zid u++l.drop i:=by
   unfold Zid;simp
  rw [e]
  rcases h.ok with ⟨h2,h3⟩ | ⟨h2,h3⟩
  ·rw [h2,h3,Ya7 ow];simp
  ·rw [← ZlN ow];exact h3
theorem Zgn.done {u0 i u:Nat} {l:List Int} (h:Zgn u0 i u l) (h1:i≠20) (h2:u=0):l.drop i=Zid u0:=by
 rcases h.ok with ⟨h3,_⟩ | ⟨_,h3⟩
 ·exact absurd h3 h1
 ·rw [h2,Zld] at h3;simpa using h3
theorem Zlg (u:Nat) (hu:u≤18446744073709551615):FnP prog 122 [.int .u64 (u:Int)] (.bs ((Zid u).map toB)):=by
 refine FnP.mk func122 rfl ntmps122 rfl fun B a w F V hfr G=>Ya ?_
 refine rZ G (qf (oN (.cs kr)) trivial qz qZ) V [2,0] [0] fun G=>Ya ?_
 refine Zb G (qf (oH [.int .u8 0,.int .u8 0,.int .u8 0,.int .u8 0,.int .u8 0,.int .u8 0,.int .u8 0,.int .u8 0,.int .u8 0,.int .u8 0,.int .u8 0,.int .u8 0,.int .u8 0,.int .u8 0,.int .u8 0,.int .u8 0,.int .u8 0,.int .u8 0,.int .u8 0,.int .u8 0] 101) trivial qz qZ) V [3,2,0] [101,0] (fun _=>rfl) (fun _=>rfl) fun τ a w F G=>?_
 try dsimp only [RS.sub,SF.sub,CF.sub,csub,Anc.sub,List.map,zCF] at G
 generalize τ 3=v3 at G
 refine Za (Ya (rZ G (qI qZ) V [4,3,2,0] [101,0] fun G=>(Ya (Yg ?_))))
 replace G:=G.turn 101 rfl (r':=.ob (.val v3) (Znp 237 (fun x=>PV.int .u8 x) [0,0,0,0,0,0,0,0,0,0,0,0,0,0,0,0,0,0,0,0])) (fun τ w f y h=>Zhu (f:=(fun x=>PV.int .u8 x)) (l:=[0,0,0,0,0,0,0,0,0,0,0,0,0,0,0,0,0,0,0,0]) τ w f y h)
 obtain ⟨F,G⟩:=G.nM [4,3,0] [101,0]
 refine Zbw (σ:=(Nat×Nat×List Int)) (fun s=>(⟨[(0,.pv (.int .u64 s.2.1)),(3,.pv (.is v3)),(4,.pv (.int .i64 s.1))],[(0,frame B),(101,.ob (.val v3) (Znp 237 (fun x=>PV.int .u8 x) s.2.2))]⟩:En)) (fun s=>Zgn u s.1 s.2.1 s.2.2) (fun s=>s.1) (20,u,[0,0,0,0,0,0,0,0,0,0,0,0,0,0,0,0,0,0,0,0]) G (Zgn.start hu) ?_
 clear G;intro s a w F hC G
 obtain ⟨i,x,l⟩:=s
 try dsimp only at hC
 try dsimp only at G
 have hl:=hC.hl
 have hi:=hC.hi
 have hbx:=hC.hb
 try dsimp only at hl hi hbx
 refine Ya (Ya (rZ G (qR rr (qf (o_eql .t qi) r1 qz (qR rr (qm rfl rfl rfl rfl (qk rfl (fun h=>ZaR (.w h) qi) r2 qz (qf (ZaA .t .t) r2 qz qZ)))))) V [10,4,3,0] [101,0] fun G=>?_))
 refine Zc G rfl (fun hc0=>?_) (fun hc0=>?_)
 ·have hcc:i=20∨0<x:=by simp only [YaN,Yu] at hc0;omega
  have hip:=hC.pos hcc
  try dsimp only at hip
  refine Ye (Za (Yg (Ya (Ze G (qR rr (qf (o_sub .t qi) r1 qz (qO rr qZ))) V [4,3,0] [101,0] rfl rfl fun a w F G=>?_))))
  rw [show IntKind.wrap .i64 ((i:Int) - 1)=((i - 1:Nat):Int) by rw [ZA ow];omega] at G
  refine Za (Ya (Ze G (qR rr (qR rr (qf (ZuZ .t qi (by decide)) r1 qz (qf (o_add qi .t) r1 qz (qf (o_conv underlying5 kr .t) r1 qz (qf (Zcc (sz:=1) 101 underlying237 kr .is .t ow ow) r2 r1 (qf (ZmO 101 .adr .t one_int kr (by rw [hl];omega)) r2 r1 qZ))))))) V [4,3,0] [101,0] rfl rfl fun a w F G=>?_))
  rw [show 0+((i - 1:Nat):Int).toNat*1=i - 1 by omega] at G
  rw [show IntKind.wrap .u8 (IntKind.wrap .u64 (48+(x:Int).tmod 10))=((48+x % 10:Nat):Int) by rw [Zts,Zal,Int.tmod_eq_emod_of_nonneg ow];omega] at G
  refine Za (Ze G (qR rr (qf (Zvy .t qi (by decide)) r1 qz (qO rr qZ))) V [4,3,0] [101,0] rfl rfl fun a w F G=>Zh (Za ?_))
  replace G:=G.ent (i:=0) (s':=.pv (.int .u64 ((x / 10:Nat):Int))) rfl (.int (by rw [Zal,Int.tdiv_eq_ediv_of_nonneg ow];omega))
  obtain ⟨F,G⟩:=G.nM [4,3,0] [101,0]
  exact ⟨(i - 1,x / 10,l.set (i - 1) ((48+x % 10:Nat):Int)),F,(hC.next hcc),G,by dsimp only;omega⟩
 have hcc:i≠20∧x=0:=by simp only [YbP,YK] at hc0;omega
 have hdd:=hC.done hcc.1 hcc.2
 refine Yv (Zi (Zi (Zo (Za (Ya ?_)))))
 replace G:=G.turn 101 rfl Zh2
 obtain ⟨F,G⟩:=G.giveRef 101 3 rfl rfl (Zlr _ _)
 rw [Zk1] at G
 obtain ⟨F,G⟩:=G.nM [10,4,3,0] [0]
 refine rZ G (qR rr (qf (Zj3 (sz:=1) (R:=rB) (l:=l) underlying237 kr (by intro x;rfl) hl (by decide) .t .t ow ow) r2 qz (qf (o_conv_sl_bs underlying113 underlying5 underlying9 .t) r1 qz (qO rr qZ)))) V [2] [0] fun G=>Yh ?_
 refine Zr hfr G rfl rfl rfl (.bs (by rw [Yb,hdd]))
theorem ZlM:∀ (k u:Nat),u<10 ^ k→(Zqc u).length≤k
 | 0,u,h=>by
  have:u=0:=by simpa using h
  rw [this,Zld];simp
 | k+1,u,h=>by
  by_cases h0:u=0
  ·rw [h0,Zld];simp
  ·rw [ZlN h0]
   unfold Zid
   have:=ZlM k (u / 10) (by rw [Nat.pow_succ] at h;omega)
   rw [Yd]
   simp only [Yl,Yy]
   omega
theorem ZkQ {u:Nat} (h:u≤18446744073709551615):(Zid u).length≤20:=by
 have:=ZlM 19 (u / 10) ow
 unfold Zid
 rw [Yd]
 simp only [Yl,Yy]
 omega
theorem ZhC {n:Int} (h : -9223372036854775808≤n∧n≤9223372036854775807):n.natAbs≤18446744073709551615:=by omega
structure Zvd (u0 i x:Nat) (l:List UInt8):Prop where
 hl:l.length=i
 hi:i≤20
 hx:x<10 ^ (20 - i)
 hb:x≤18446744073709551615
 ok:(i=0∧x=u0∧l = [])∨(0<i∧(Zqc x).map toB++l=(Zid u0).map toB)
theorem Zvd.done {u0 i x:Nat} {l:List UInt8} (h:Zvd u0 i x l) (h1:i≠0) (h2:x=0):l=(Zid u0).map toB:=by
 rcases h.ok with ⟨h3,_⟩ | ⟨_,h3⟩
 ·exact absurd h3 h1
 ·rw [h2,Zld] at h3;simpa using h3
theorem ZjG (n:Int):FnP prog 73 [.int .i64 n] (.bs (Ze2 n)):=by
 refine FnP.mk func73 rfl ntmps73 rfl fun B a w F V hfr G=>?_
 have hn:=Zpr (G.range (i:=0) rfl)
 have hz:=ZkQ (ZhC hn)
 refine Ya (rZ G (qf (oN (.cs kr)) trivial qz qZ) V [2,0] [0] fun G=>(Ya (Ya ?_)))
 refine rZ G (qR rr (qf (ZaC .t qi) r1 qz qZ)) V [4,2,0] [0] fun G=>?_
 refine Zc G rfl (fun hc0=>?_) (fun hc0=>?_)
 ·have hb:n<0:=Yq hc0
  have hu:IntKind.wrap .u64 (0 - IntKind.wrap .u64 n)=(n.natAbs:Int):=by rw [Zal,Zal];omega
  have hg:Ze2 n=45 :: (Zid n.natAbs).map toB:=Yf hb
  refine Ya (rZ G (qR rr (qf (o_conv underlying175 kr .t) r1 qz (qf (ZvC .t) r1 qz (qf (oP (Zlg n.natAbs (ZhC hn)) func122 (Args.one (.conv .t (.int hu)))) r1 qz (qf (Zbu (.cs kr) .t (by simp only [Yl,Yy,YH];omega)) r1 qz (qO rr qZ)))))) V [2,0] [0] fun G=>(Yh (Zl ?_)))
  refine Zr hfr G rfl rfl rfl (.bs (by rw [hg];try rfl))
 have hb:¬ n<0:=YJ hc0
 have hu:IntKind.wrap .u64 n=(n.natAbs:Int):=by rw [Zal];omega
 have hg:Ze2 n=(Zid n.natAbs).map toB:=Yc hb
 refine Ye (Za (Ya (rZ G (qR rr (qf (o_conv underlying175 kr .t) r1 qz (qf (oP (Zlg n.natAbs (ZhC hn)) func122 (Args.one (.conv .t (.int hu)))) r1 qz (qO rr qZ)))) V [2] [0] fun G=>Yh ?_)))
 refine Zr hfr G rfl rfl rfl (.bs (by rw [hg];try rfl))
def bH (v ad:Value) (l:List UInt8):HP:=.ex fun rv=>.and (l = []→rv = .slice none 0 0) (.star [.pt (.val v) 115 [.pv (.is ad),.pv (.is rv)],.ob (.val rv) (Zu 5 1 rC l)])
def Za6 (v:Value) (l:List UInt8):HP:=.ex fun ad=>.and (ad = .pointer none∨ad=v) (bH v ad l)
theorem FnG.cases {P:Program} {f:FuncId} {args:List PV} {h h1 h2:HP} {q:PV} {qr:Value→List HP} (hh:∀ w fb y,h.p w fb y→h1.p w fb y∨h2.p w fb y) (k1:FnG P f 1 args [h1] q qr) (k2:FnG P f 1 args [h2] q qr):FnG P f 1 args [h] q qr:=fun w F vs hw hle hvs hpr=>by
 rcases hh w (F 1) (U F) (hpr 0 h rfl) with hx | hx
 ·exact k1 w F vs hw hle hvs (fun i h' hi=>by
  match i,hi with
  | 0,hi=>simp at hi;subst hi;exact hx)
 ·exact k2 w F vs hw hle hvs (fun i h' hi=>by
  match i,hi with
  | 0,hi=>simp at hi;subst hi;exact hx)
theorem ZgI {v:Value} {l:List UInt8} (w:World) (fb y:Ys) (h:(Za6 v l).p w fb y):(bH v (.pointer none) l).p w fb y∨(bH v v l).p w fb y:=by
 obtain ⟨ad,h1,h2⟩:=h
 rcases h1 with rfl | rfl
 ·exact .inl h2
 ·exact .inr h2
theorem copy0 (b:Nat) (l:List UInt8):FnG prog 121 1 [.is (.pointer (some ⟨b,0,none⟩))] [bH (.pointer (some ⟨b,0,none⟩)) (.pointer none) l] (.any) (fun _=>[bH (.pointer (some ⟨b,0,none⟩)) (.pointer (some ⟨b,0,none⟩)) l]):=by
 refine FnG.mk func121 rfl ntmps121 rfl kr fun B F0 a w F V hG G=>?_
 obtain ⟨rv,G⟩:=G.open_ex 1 rfl
 obtain ⟨hI,G⟩:=G.open_and 1 rfl
 obtain ⟨F,G⟩:=G.peel 1 2 rfl rfl
 obtain ⟨F,G⟩:=G.peel 1 3 rfl rfl
 obtain ⟨F,G⟩:=G.nM [0] [3,2,0]
 refine Ya (rZ G (qR rr (qf (o_nilCheck 2 .is (by rfl)) r1 r1 (qf (oF 0 2 .adr) r1 r1 (qa 2 r1 r1 (qf (Zin _ underlying112 rfl .t) r1 qz qZ))))) V [6,0] [3,2,0] fun G=>?_)
 refine Zc G rfl (fun hc0=>?_) (fun hc0=>?_)
 ·refine Ze G (qR rr (qR rr (qf (Zib 2 underlying112 underlying235 kr kr .t) r1 r1 (qf (Zmn func165 kr kr kr kr .t) r1 qz (qf (Zkv 2 underlying235 underlying112 kr kr .t) r1 r1 (qf (o_nilCheck 2 .is (by rfl)) r1 r1 (qf (oF 0 2 .adr) r1 r1 (qf (Za4 2 .adr .t one_is kr kr) r2 r1 qZ)))))))) V [] [3,2,0] rfl rfl fun a w F G=>?_
  have G:=G.fresh 1 rfl
  obtain ⟨F,G⟩:=G.push 1 3 rfl rfl rfl kr
  obtain ⟨F,G⟩:=G.push 1 2 rfl rfl rfl kr
  have G:=G.turn 1 rfl (r':=RS.hp (bH (.pointer (some ⟨b,0,none⟩)) (.pointer (some ⟨b,0,none⟩)) l)) (fun _ _ _ _ h=>⟨_,hI,h⟩)
  refine Zad hG G rfl .nil Zba.any rfl
 simp at hc0
theorem copy1 (b:Nat) (l:List UInt8):FnG prog 121 1 [.is (.pointer (some ⟨b,0,none⟩))] [bH (.pointer (some ⟨b,0,none⟩)) (.pointer (some ⟨b,0,none⟩)) l] (.any) (fun _=>[bH (.pointer (some ⟨b,0,none⟩)) (.pointer (some ⟨b,0,none⟩)) l]):=by
 refine FnG.mk func121 rfl ntmps121 rfl kr fun B F0 a w F V hG G=>?_
 obtain ⟨rv,G⟩:=G.open_ex 1 rfl
 obtain ⟨hI,G⟩:=G.open_and 1 rfl
 obtain ⟨F,G⟩:=G.peel 1 2 rfl rfl
 obtain ⟨F,G⟩:=G.peel 1 3 rfl rfl
 obtain ⟨F,G⟩:=G.nM [0] [3,2,0]
 refine Ya (rZ G (qR rr (qf (o_nilCheck 2 .is (by rfl)) r1 r1 (qf (oF 0 2 .adr) r1 r1 (qa 2 r1 r1 (qf (Zin _ underlying112 rfl .t) r1 qz qZ))))) V [6,0] [3,2,0] fun G=>?_)
 refine Zc G rfl (fun hc0=>?_) (fun hc0=>?_)
 ·simp at hc0
 refine Ya (rZ G (qR rr (qf (o_nilCheck 2 .is (by rfl)) r1 r1 (qf (oF 0 2 .adr) r1 r1 (qa 2 r1 r1 (qR rr (qf (Zmb underlying112 kr .t .t) r2 qz qZ)))))) V [19] [3,2,0] fun G=>?_)
 refine Zc G rfl (fun hc1=>?_) (fun hc1=>?_)
 ·simp at hc1
 refine Ye ?_
 have G:=G.fresh 1 rfl
 obtain ⟨F,G⟩:=G.push 1 3 rfl rfl rfl kr
 obtain ⟨F,G⟩:=G.push 1 2 rfl rfl rfl kr
 have G:=G.turn 1 rfl (r':=RS.hp (bH (.pointer (some ⟨b,0,none⟩)) (.pointer (some ⟨b,0,none⟩)) l)) (fun _ _ _ _ h=>⟨_,hI,h⟩)
 refine Zad hG G rfl .nil Zba.any rfl
theorem Zvl (b:Nat) (l:List UInt8):FnG prog 121 1 [.is (.pointer (some ⟨b,0,none⟩))] [Za6 (.pointer (some ⟨b,0,none⟩)) l] .any (fun _=>[bH (.pointer (some ⟨b,0,none⟩)) (.pointer (some ⟨b,0,none⟩)) l]):=FnG.cases ZgI (copy0 b l) (copy1 b l)
theorem Zcz (b:Nat) (l:List UInt8) (hl:l.length≤1000000000) (x:List UInt8) (hx:x≠[]) (hxl:x.length≤1000000000):FnG prog 72 1 [.is (.pointer (some ⟨b,0,none⟩)),.bs x] [Za6 (.pointer (some ⟨b,0,none⟩)) l] (.any) (fun _=>[bH (.pointer (some ⟨b,0,none⟩)) (.pointer (some ⟨b,0,none⟩)) (l++x)]):=by
 refine FnG.mk func72 rfl ntmps72 rfl kr fun B F0 a w F V hG G=>Ya ?_
 refine rZ G (qI (qC qZ)) V [5,4,1,0] [1,0] fun G=>Ya ?_
 refine Ze G (qR rr (qf (ZK 1 (Zvl b l) func121 rfl kr (Args.one .t)) r1 r1 qZ)) V [5,4,1,0] [1,0] rfl rfl fun a w F G=>?_
 obtain ⟨rv,G⟩:=G.open_ex 1 rfl
 obtain ⟨hI,G⟩:=G.open_and 1 rfl
 obtain ⟨F,G⟩:=G.peel 1 2 rfl rfl
 obtain ⟨F,G⟩:=G.peel 1 3 rfl rfl
 obtain ⟨F,G⟩:=G.nM [5,4,1,0] [3,2,0]
 refine Za (Ya (Zb G (qR rr (qR rr (qf (o_nilCheck 2 .is (by rfl)) r1 r1 (qf (oF 1 2 .adr) r1 r1 (qa 2 r1 r1 (qR rr (qf (ZiU 3 underlying113 underlying9 kr .is .t ow) ⟨rfl,rfl,tv⟩ ⟨rfl,tv⟩ (qf (o_nilCheck 2 .is (by rfl)) r1 r1 (qf (oF 1 2 .adr) r1 r1 (qf (o_storeS 2 .adr kr kr) r2 r1 qZ)))))))))) V [5,4,1] [3,2,0] (fun _=>rfl) (fun _=>rfl) fun τ a w F G=>?_))
 try dsimp only [RS.sub,SF.sub,CF.sub,csub,Anc.sub,List.map,Zf,xL,xM,Nat.reduceAdd,xD,xE,xT,xU,xC,xN,zCF,ldSF] at G
 generalize τ 14=v14 at G
 refine Za (Ya (rZ G (qR rr (qf (ZqZ underlying9 .t) r1 qz (qO rr (qC qZ)))) V [5,4] [3,2,0] fun G=>Yh ?_))
 have G:=G.fresh 1 rfl
 obtain ⟨F,G⟩:=G.push 1 3 rfl rfl rfl kr
 obtain ⟨F,G⟩:=G.push 1 2 rfl rfl rfl kr
 have G:=G.turn 1 rfl (r':=RS.hp (bH (.pointer (some ⟨b,0,none⟩)) (.pointer (some ⟨b,0,none⟩)) (l++x))) (fun _ _ _ _ h=>⟨_,(by intro hh;exact absurd (List.append_eq_nil_iff.1 hh).2 hx),h⟩)
 refine Zad hG G rfl (.tmp rfl (.tmp rfl .nil)) Zba.any rfl
theorem ZsT (b:Nat):FnG prog 75 1 [.is (.pointer (some ⟨b,0,none⟩))] [Za6 (.pointer (some ⟨b,0,none⟩)) []] (.bs []) (fun _=>[HP.star []]):=by
 refine FnG.mk func75 rfl ntmps75 rfl kr fun B F0 a w F V hG G=>?_
 obtain ⟨ad,G⟩:=G.open_ex 1 rfl
 obtain ⟨hA,G⟩:=G.open_and 1 rfl
 obtain ⟨rv,G⟩:=G.open_ex 1 rfl
 obtain ⟨hI,G⟩:=G.open_and 1 rfl
 obtain rfl:=hI rfl
 obtain ⟨F,G⟩:=G.peel 1 2 rfl rfl
 obtain ⟨F,G⟩:=G.peel 1 3 rfl rfl
 obtain ⟨F,G⟩:=G.nM [0] [3,2,0]
 refine Ya (rZ G (qf (oN (.cs kr)) trivial qz qZ) V [2,0] [3,2,0] fun G=>Ya ?_)
 refine Zv G (qR rr (qf (o_nilCheck 2 .is (by rfl)) r1 r1 (qf (oF 1 2 .adr) r1 r1 (qa 2 r1 r1 (qf (ZfX .t) r1 qz (qR rr (qf (o_nilCheck 2 .is (by rfl)) r1 r1 (qf (oF 1 2 .adr) r1 r1 (qa 2 r1 r1 (qf (ZS 3 underlying113 .is) r1 r1 (qf (Zd6 .t .t) r2 qz (qO rr qZ)))))))))))) V [2] [3,2,0] rfl rfl fun a w F G=>?_
 try dsimp only [List.map,xD,xE,xT,xU,ldSF] at G
 refine Za (Yh ?_)
 have G:=G.fresh 1 rfl
 refine Zad (h':=HP.star []) hG G rfl (.tmp rfl .nil) (.one .refl) rfl
theorem ZsP (b:Nat) (l:List UInt8) (hne:l≠[]):FnG prog 75 1 [.is (.pointer (some ⟨b,0,none⟩))] [Za6 (.pointer (some ⟨b,0,none⟩)) l] (.bs l) (fun _=>[HP.star []]):=by
 refine FnG.mk func75 rfl ntmps75 rfl kr fun B F0 a w F V hG G=>?_
 obtain ⟨ad,G⟩:=G.open_ex 1 rfl
 obtain ⟨hA,G⟩:=G.open_and 1 rfl
 obtain ⟨rv,G⟩:=G.open_ex 1 rfl
 obtain ⟨hI,G⟩:=G.open_and 1 rfl
 obtain ⟨F,G⟩:=G.peel 1 2 rfl rfl
 obtain ⟨F,G⟩:=G.peel 1 3 rfl rfl
 obtain ⟨F,G⟩:=G.nM [0] [3,2,0]
 refine Ya (rZ G (qf (oN (.cs kr)) trivial qz qZ) V [2,0] [3,2,0] fun G=>Ya ?_)
 refine Zv G (qR rr (qf (o_nilCheck 2 .is (by rfl)) r1 r1 (qf (oF 1 2 .adr) r1 r1 (qa 2 r1 r1 (qf (Zj0 3 hne .is (by rfl)) r1 r1 (qR rr (qf (o_nilCheck 2 .is (by rfl)) r1 r1 (qf (oF 1 2 .adr) r1 r1 (qa 2 r1 r1 (qf (ZS 3 underlying113 .is) r1 r1 (qf (ZgE 3 underlying176 kr hne .t) r2 r1 (qO rr qZ)))))))))))) V [2] [3,2,0] rfl rfl fun a w F G=>?_
 try dsimp only [List.map,xD,xE,xT,xU,ldSF] at G
 refine Za (Yh ?_)
 have G:=G.fresh 1 rfl
 refine Zad (h':=HP.star []) hG G rfl (.tmp rfl .nil) (.one .refl) rfl
theorem Zr5 (b:Nat) (l:List UInt8):FnG prog 75 1 [.is (.pointer (some ⟨b,0,none⟩))] [Za6 (.pointer (some ⟨b,0,none⟩)) l] (.bs l) (fun _=>[HP.star []]):=by
 by_cases h:l = []
 ·subst h;exact ZsT b
 ·exact ZsP b l h
theorem Zs3 (u:Nat):Zid u≠[]:=by unfold Zid;simp
theorem Zsd (n:Int):Ze2 n≠[]:=by
 unfold Ze2
 split
 ·simp
 ·simpa using Zs3 _
theorem Zcp {n:Int} (h : -9223372036854775808≤n∧n≤9223372036854775807):(Ze2 n).length≤21:=by
 have:=ZkQ (ZhC h)
 unfold Ze2
 split <;> simp <;> omega
def Zsh (e:Zg):List UInt8:=((([32] ++ Ziw e.kind)++Ze2 e.key) ++ [32])++Ze2 e.dst
def ZfK (l:List Zg) (i:Nat):List UInt8:=Ze2 (Nn l 0).src++(l.take i).flatMap Zsh
def ZgA (l:List Zg) (i:Nat):List UInt8:=if i=0 then [] else ZfK l i
def Zgf (e:Zg):Prop:=(-9223372036854775808≤e.src∧e.src≤9223372036854775807)∧(-9223372036854775808≤e.dst∧e.dst≤9223372036854775807) ∧ -9223372036854775808≤e.key∧e.key≤9223372036854775807
theorem ZiH (k:Int):(Ziw k).length≤2:=by
 unfold Ziw
 repeat' split
 all_goals simp
theorem ZlY {e:Zg} (h:Zgf e):(Zsh e).length≤50:=by
 have h1:=Zcp h.2.2
 have h2:=Zcp h.2.1
 have h3:=ZiH e.kind
 unfold Zsh
 simp only [Yd,Yl,Yy]
 omega
theorem ZoH {l:List Zg} (h:∀ e ∈ l,Zgf e) {i:Nat} (hi:i<l.length):(ZfK l i).length≤50+50*i:=by
 have h1:=Zcp (h _ (nth_mem (q:=l) (k:=0) ow)).1
 have key:∀ m:List Zg,(∀ e ∈ m,Zgf e)→(m.flatMap Zsh).length≤50*m.length:=by
  intro m
  induction m with
  | nil=>intro _;simp
  | cons e m ih=>
   intro hm
   have:=ih fun x hx=>hm x (by simp [hx])
   have:=ZlY (hm e (by simp))
   rw [Y4,Yd,Yl];omega
 have h2:=key (l.take i) fun e he=>h e (YaM he)
 have h3:(l.take i).length≤i:=by rw [Yi];omega
 unfold ZfK
 rw [Yd];omega
theorem ZgJ {l:List Zg} {i:Nat} (hi:i<l.length):ZfK l i++Zsh (Nn l i)=ZgA l (i+1):=by
 unfold ZgA ZfK
 rw [Yc ow,Zp hi,YV,YO];simp
theorem Znx {l:List Zg} {i:Nat} (h:¬ i=0):ZgA l i=ZfK l i:=Yc h
theorem ZtM (l:List Zg) (hl:l.length≤1000000) (hr:∀ e ∈ l,Zgf e):FnP prog 34 [.sl Zs l] (.bs (ZgA l l.length)):=by
 refine FnP.mk func34 rfl ntmps34 rfl fun B a w F V hfr G=>Ya ?_
 refine rZ G (qf (oN (.cs kr)) trivial qz qZ) V [2,0] [0] fun G=>Ya ?_
 refine Zb G (qf (oH [.pointer none,.slice none 0 0] 101) trivial qz qZ) V [3,2,0] [101,0] (fun _=>rfl) (fun _=>rfl) fun τ a w F G=>?_
 try dsimp only [RS.sub,SF.sub,CF.sub,csub,Anc.sub,List.map,zCF,Zs] at G
 generalize τ 3=v3 at G
 obtain ⟨b,rfl⟩:=G.shape 101 rfl
 replace G:=G.fresh 9 rfl
 replace G:=G.turn 9 rfl (ZaD (T:=5) (sz:=1) (R:=rC))
 replace G:=G.fresh 10 rfl
 obtain ⟨F,G⟩:=G.push 10 9 rfl rfl rfl kr
 obtain ⟨F,G⟩:=G.push 10 101 rfl rfl rfl kr
 replace G:=G.turn 10 rfl (r':=RS.hp (Za6 (.pointer (some ⟨b,0,none⟩)) [])) (fun _ _ _ _ h=>⟨_,.inl rfl,_,fun _=>rfl,h⟩)
 obtain ⟨F,G⟩:=G.nM [3,2,0] [10,0]
 refine Za (Ya (Ya (rZ G (qR rr (qu underlying31 r1 (qJ qZ))) V [8,7,6,3,2] [10,0] fun G=>Yg ?_)))
 refine Zk (σ:=(Nat)) [2,3,6,7] [0] (fun s=>[(8,.pv (.int .i64 (s:Int)))]) (fun s=>[(10,RS.hp (Za6 (.pointer (some ⟨b,0,none⟩)) (ZgA l s)))]) (fun s=>s≤l.length∧(True)) (fun s=>l.length - s) (0) G ⟨rfl,rfl,rfl,rfl,rfl,tv⟩ ⟨rfl,rfl,tv⟩ ⟨Yx _,tv⟩ ?_
 clear G;intro i a w F hC G
 try dsimp only at hC
 obtain ⟨F,G⟩:=G.nM [8,7,6,3,2] [10,0]
 try dsimp only at G
 obtain ⟨hi,hq⟩:=hC
 refine Ya (rZ G (qL r2) V [9,8,7,6,3,2] [10,0] fun G=>Ya ?_)
 refine Zc G rfl (fun hc0=>?_) (fun hc0=>?_)
 ·have hil:i<l.length:=by simp at hc0;omega
  have hsm:=hr _ (nth_mem hil)
  have hcl:=ZoH hr hil
  have hel:=ZlY hsm
  have hx1:=Zcp hsm.1
  have hx2:=Zcp hsm.2.1
  have hx3:=Zcp hsm.2.2
  have hx4:=ZiH (Nn l i).kind
  refine Ye (Za (Ya (Yg (Ya (Zb G (qR rr (qy 4 underlying31 r2 (qf (oR true 4 .t) r1 qz (qf (oH [.int .i64 0,.int .i64 0,.int .i64 0,.int .i64 0] 102) trivial qz (qO rr (qS 4 102 r2 r1 qZ)))))) V [8,7,6,5,4,3,2] [102,10,0] (fun _=>rfl) (fun _=>rfl) fun τ a w F G=>?_)))))
  try dsimp only [RS.sub,SF.sub,CF.sub,csub,Anc.sub,List.map,Zf,xL,xM,Nat.reduceAdd,xD,xE,xT,xU,xC,xN,zCF,ldSF,Zs] at G
  generalize τ 5=v5 at G
  try simp only [Yb] at G
  refine Za (Ya (Ya (rZ G (qR rr (qf (o_eql .t qi) r1 qz qZ)) V [14,8,7,6,5,3,2] [102,10,0] fun G=>?_)))
  refine Zc G rfl (fun hc1=>?_) (fun hc1=>?_)
  ·have hi0:i=0:=by have h9:=Yq hc1;omega
   have hw0:ZgA l i = []:=by rw [hi0];rfl
   rw [hw0] at G
   refine Ze G (qg 0 102 r1 r1 (qa 102 r1 r1 (qf (oP (ZjG (Nn l i).src) func73 (Args.one .t)) r1 qz (qf (ZK 10 (Zcz b [] (by simp) (Ze2 (Nn l i).src) (Zsd _) ow) func72 rfl kr (Args.two .t .t)) r2 r1 qZ)))) V [8,7,6,5,3,2] [102,10,0] rfl rfl fun a w F G=>?_
   replace G:=G.turn 10 rfl (r':=RS.hp (Za6 (.pointer (some ⟨b,0,none⟩)) (ZfK l i))) (fun _ _ _ _ h=>⟨_,.inr rfl,by rw [show ZfK l i = [] ++ Ze2 (Nn l i).src by rw [hi0];simp [ZfK]];exact h⟩)
   refine Za (Zv G (qg 2 102 r1 r1 (qa 102 r1 r1 (qf (oP (Zo8 (Nn l i).kind) func74 (Args.one .t)) r1 qz (qf (Zbu (.cs kr) .t (by simp only [Yd,Yl,Yy];omega)) r1 qz (qg 3 102 r1 r1 (qa 102 r1 r1 (qf (oP (ZjG (Nn l i).key) func73 (Args.one .t)) r1 qz (qf (Zbu .t .t (by simp only [Yd,Yl,Yy];omega)) r2 qz (qf (Zbu .t (.cs kr) (by simp only [Yd,Yl,Yy];omega)) r1 qz (qg 1 102 r1 r1 (qa 102 r1 r1 (qf (oP (ZjG (Nn l i).dst) func73 (Args.one .t)) r1 qz (qf (Zbu .t .t (by simp only [Yd,Yl,Yy];omega)) r2 qz (qf (ZK 10 (Zcz b (ZfK l i) ow (Zsh (Nn l i)) (by unfold Zsh;simp) ow) func72 rfl kr (Args.two .t .t)) r2 r1 qZ)))))))))))))) V [8,7,6,3,2] [10,0] rfl rfl fun a w F G=>?_)
   try dsimp only [List.map,xD,xE,xT,xU,ldSF,Zs] at G
   refine Zh (Za (rZ G (qp r1 (qR rr qZ)) V [8,7,6,3,2] [10,0] fun G=>?_))
   replace G:=G.turn 10 rfl (r':=RS.hp (Za6 (.pointer (some ⟨b,0,none⟩)) (ZgA l (i+1)))) (fun _ _ _ _ h=>⟨_,.inr rfl,by rw [← ZgJ hil];exact h⟩)
   replace G:=G.ent (i:=8) (s':=.pv (.int .i64 ((i+1:Nat):Int))) rfl (.int (Zd ow))
   obtain ⟨F,G⟩:=G.nM [7,6,3,2,8] [0,10]
   exact ⟨(i+1),F,⟨by omega,tv⟩,G,by omega⟩
  have hi0:¬ i=0:=by have h9:=YJ hc1;omega
  rw [Znx hi0] at G
  refine Ye (Za (Zv G (qg 2 102 r1 r1 (qa 102 r1 r1 (qf (oP (Zo8 (Nn l i).kind) func74 (Args.one .t)) r1 qz (qf (Zbu (.cs kr) .t (by simp only [Yd,Yl,Yy];omega)) r1 qz (qg 3 102 r1 r1 (qa 102 r1 r1 (qf (oP (ZjG (Nn l i).key) func73 (Args.one .t)) r1 qz (qf (Zbu .t .t (by simp only [Yd,Yl,Yy];omega)) r2 qz (qf (Zbu .t (.cs kr) (by simp only [Yd,Yl,Yy];omega)) r1 qz (qg 1 102 r1 r1 (qa 102 r1 r1 (qf (oP (ZjG (Nn l i).dst) func73 (Args.one .t)) r1 qz (qf (Zbu .t .t (by simp only [Yd,Yl,Yy];omega)) r2 qz (qf (ZK 10 (Zcz b (ZfK l i) ow (Zsh (Nn l i)) (by unfold Zsh;simp) ow) func72 rfl kr (Args.two .t .t)) r2 r1 qZ)))))))))))))) V [8,7,6,3,2] [10,0] rfl rfl fun a w F G=>?_))
  try dsimp only [List.map,xD,xE,xT,xU,ldSF,Zs] at G
  refine Zh (Za (rZ G (qp r1 (qR rr qZ)) V [8,7,6,3,2] [10,0] fun G=>?_))
  replace G:=G.turn 10 rfl (r':=RS.hp (Za6 (.pointer (some ⟨b,0,none⟩)) (ZgA l (i+1)))) (fun _ _ _ _ h=>⟨_,.inr rfl,by rw [← ZgJ hil];exact h⟩)
  replace G:=G.ent (i:=8) (s':=.pv (.int .i64 ((i+1:Nat):Int))) rfl (.int (Zd ow))
  obtain ⟨F,G⟩:=G.nM [7,6,3,2,8] [0,10]
  exact ⟨(i+1),F,⟨by omega,tv⟩,G,by omega⟩
 have hil:i=l.length:=by simp at hc0;omega
 rw [hil] at G
 refine Yv (Zi (Zi (Zo (Za (Ya (rZ G (qf (ZK 10 (Zr5 b (ZgA l l.length)) func75 rfl kr (Args.one .t)) r1 r1 (qO rr qZ)) V [2] [10,0] fun G=>Yh ?_))))))
 refine Zr hfr G rfl rfl rfl (.bs rfl)
def ZfI (l:List Zg):Bool:=decide ((∀ q,q<l.length→(Nn l q).dst=(Nn l ((q+1) % l.length)).src)∧0<l.length)
def ZeX (t:TxD) (key:Int) (p:ZbT→Bool):Bool:=t.ops.any fun o=>((o.read && decide (o.key=key)) && !decide (o.tx=t.id)) && p (ofO o)
def ZpN (g:Zw) (e:Zg):Bool:=if e.kind=1 then ZkG g e.key e.src e.dst else if e.kind=2 then ZeX ((Z6 g.txs e.dst).getD zeroT) e.key (fun v=>decide (v.tx=e.src) && ZeA g v) else if e.kind=3 then ZeX ((Z6 g.txs e.src).getD zeroT) e.key (fun v=>ZeA g v && ZkG g e.key v.tx e.dst) else false
def ZeZ (g:Zw) (e:Zg):Bool:=!((!ZjU g e.src || !ZjU g e.dst) || decide (e.src=e.dst)) && ZpN g e
theorem Zph (l:List Zg) (hl:l.length≤1000000):FnP prog 14 [.sl Zs l] (.bool (ZfI l)):=by
 refine FnP.mk func14 rfl ntmps14 rfl fun B a w F V hfr G=>Ya ?_
 refine rZ G qB V [2,0] [0] fun G=>(Ya (Ya ?_))
 refine rZ G (qR rr (qu underlying31 r1 (qJ qZ))) V [7,6,5,2,0] [0] fun G=>Yg ?_
 refine Zk (σ:=(Nat)) [0,2,5,6] [0] (fun s=>[(7,.pv (.int .i64 (s:Int)))]) (fun s=>[]) (fun s=>s≤l.length∧(∀ q,q<s→(Nn l q).dst=(Nn l ((q+1) % l.length)).src)) (fun s=>l.length - s) (0) G ⟨rfl,rfl,rfl,rfl,rfl,tv⟩ ⟨rfl,tv⟩ ⟨Yx _,fun q hq=>absurd hq (Y1 q)⟩ ?_
 clear G;intro i a w F hC G
 try dsimp only at hC
 obtain ⟨F,G⟩:=G.nM [7,6,5,2,0] [0]
 try dsimp only at G
 obtain ⟨hi,hq⟩:=hC
 refine Ya (rZ G (qL r2) V [8,7,6,5,2,0] [0] fun G=>Ya ?_)
 refine Zc G rfl (fun hc0=>?_) (fun hc0=>?_)
 ·have hil:i<l.length:=by simp at hc0;omega
  have hml:(i+1) % l.length<l.length:=Ybo _ ow
  have hmi:(IntKind.wrap .i64 ((i:Int)+1)).tmod (l.length:Int)=(((i+1) % l.length:Nat):Int):=by rw [Zd ow,Int.tmod_eq_emod_of_nonneg ow];rfl
  refine Ye (Za (Ya (Yg (Ya (Zb G (qR rr (qy 4 underlying31 r2 (qf (oR true 4 .t) r1 qz (qf (oH [.int .i64 0,.int .i64 0,.int .i64 0,.int .i64 0] 101) trivial qz (qO rr (qS 4 101 r2 r1 qZ)))))) V [7,6,5,4,3,2,0] [101,0] (fun _=>rfl) (fun _=>rfl) fun τ a w F G=>?_)))))
  try dsimp only [RS.sub,SF.sub,CF.sub,csub,Anc.sub,List.map,Zf,xL,xM,Nat.reduceAdd,xD,xE,xT,xU,xC,xN,zCF,ldSF,Zs] at G
  generalize τ 4=v4 at G
  try simp only [Yb] at G
  refine Za (Ya (Zv G (qg 1 101 r1 r1 (qa 101 r1 r1 (qR rr (qR rr (qp r1 (qR rr (qu underlying31 r1 (qf (ZuZ .t .t ow) r2 qz (qf (o_indexAddr_sl (sz:=4) (.mk underlying31 kr) (by intro x;rfl) .t .t (by rw [hmi];omega) (by rw [hmi];omega)) r2 qz (qf (oG 0 .t) r1 qz (qf (oR false 1 .t) r1 qz (qf (o_neq .t .t) r2 qz qZ)))))))))))) V [23,7,6,5,2,0] [0] rfl rfl fun a w F G=>?_))
  try dsimp only [List.map,xD,xE,xT,xU,ldSF,Zs] at G
  try simp only [Yb] at G
  rw [hmi,Yb] at G
  refine Za (Zc G rfl (fun hc1=>?_) (fun hc1=>?_))
  ·have hg:false=ZfI l:=by unfold ZfI;rw [Yas,YK];intro h9;have h8:=hc1;rw [h9.1 i hil] at h8;simp at h8
   refine Ya (rZ G qB V [7,6,5,2,0] [0] fun G=>(Yh (Zz (Zl (Zl (Zz (Zl ?_)))))))
   refine Zr hfr G rfl rfl rfl (.bool hg)
  have hne:(Nn l i).dst=(Nn l ((i+1) % l.length)).src:=by simpa using hc1
  refine Ye (Zh (Za (rZ G (qp r1 (qR rr qZ)) V [7,6,5,2,0] [0] fun G=>?_)))
  replace G:=G.ent (i:=7) (s':=.pv (.int .i64 ((i+1:Nat):Int))) rfl (.int (Zd ow))
  obtain ⟨F,G⟩:=G.nM [6,5,2,0,7] [0]
  exact ⟨(i+1),F,⟨by omega,(fun q h9=>by rcases YX (Y5 h9) with h8 | h8;exact hq q h8;rw [h8];exact hne)⟩,G,by omega⟩
 have hil:i=l.length:=by simp at hc0;omega
 have hg:decide ((0:Int)<(l.length:Int))=ZfI l:=by unfold ZfI;rw [decide_eq_decide];constructor;exact fun h9=>⟨by rw [hil] at hq;exact hq,by omega⟩;exact fun h9=>by have:=h9.2;omega
 refine Yv (Zi (Zi (Zo (Za (Ya (rZ G (qR rr (qu underlying31 r1 (qf (ZaR .t qi) r1 qz (qO rr qZ)))) V [2] [0] fun G=>Yh ?_))))))
 refine Zr hfr G rfl rfl rfl (.bool hg)
theorem ZlB (t : TxD) (key : Int) (ht : t.ops.length ≤ 1000000) (p : ZbT → Bool) (f : FuncId) (fn : Func) (cps : List PV) (hf : prog.funcs[f]? = some fn) (hb : fn.body.isSome = true) (hnn : (fn.name == "runtime.NumGoroutine") = false) (hw : ∀ v : ZbT, FnP prog f (.agg (ZW v) :: cps) (.bool (p v))) : FnP prog 82 [.agg (rTx t), .int .i64 key, .clos f cps] (.bool (ZeX t key p)) := by
 refine FnP.mk func82 rfl ntmps82 rfl fun B a w F V hfr G=>Ya ?_
 refine Zb G (qx 101 r1 qB) V [6,3,2,1] [101,0] (fun _=>rfl) (fun _=>rfl) fun τ a w F G=>?_
 try dsimp only [RS.sub,SF.sub,CF.sub,csub,Anc.sub,List.map,zCF,rTx,rOp,ZW] at G
 generalize τ 3=v3 at G
 refine Za (Ya (Ya (rZ G (qg 2 101 r1 r1 (qa 101 r1 r1 (qu underlying28 r1 (qJ qZ)))) V [12,11,10,6,3,2,1] [101,0] fun G=>Yg ?_)))
 refine Zk (σ:=(Nat)) [1,2,3,6,10,11] [0,101] (fun s=>[(12,.pv (.int .i64 (s:Int)))]) (fun s=>[]) (fun s=>s≤t.ops.length∧(∀ q,q<s→(fun o:OpD=>((o.read && decide (o.key=key)) && !decide (o.tx=t.id)) && p (ofO o)) (Nn t.ops q)=false)) (fun s=>t.ops.length - s) (0) G ⟨rfl,rfl,rfl,rfl,rfl,rfl,rfl,tv⟩ ⟨rfl,rfl,tv⟩ ⟨Yx _,fun q hq=>absurd hq (Y1 q)⟩ ?_
 clear G;intro i a w F hC G
 try dsimp only at hC
 obtain ⟨F,G⟩:=G.nM [12,11,10,6,3,2,1] [101,0]
 try dsimp only at G
 obtain ⟨hi,hq⟩:=hC
 refine Ya (rZ G (qL r2) V [13,12,11,10,6,3,2,1] [101,0] fun G=>Ya ?_)
 refine Zc G rfl (fun hc0=>?_) (fun hc0=>?_)
 ·skip
  have hil:i<t.ops.length:=by simp at hc0;omega
  refine Ye (Za (Ya (Yg (Ya (Zb G (qy 4 underlying28 r2 (qf (oR true 4 .t) r1 qz (qf (oH [.bool false,.int .i64 0,.int .i64 0,.int .i64 0] 102) trivial qz (qS 4 102 r2 r1 qZ)))) V [12,11,10,8,6,3,2,1] [102,101,0] (fun _=>rfl) (fun _=>rfl) fun τ a w F G=>?_)))))
  try dsimp only [RS.sub,SF.sub,CF.sub,csub,Anc.sub,List.map,Zf,xL,xM,Nat.reduceAdd,xD,xE,xT,xU,xC,xN,zCF,ldSF,rTx,rOp,ZW] at G
  generalize τ 8=v8 at G
  try simp only [Yb] at G
  refine Za (Ya (rZ G (qg 0 102 r1 r1 (qa 102 r1 r1 (qR rr (qv 1 102 rfl r2 r1 (qw 102 rfl r2 r1 (qm rfl rfl rfl rfl (qk rfl (fun h=>o_eql (.w h) (.w h)) r3 qz (qf (ZE .t .t) r2 qz (qR rr (qv 2 102 rfl r2 r1 (qw 102 rfl r2 r1 (qv 0 101 rfl r2 r1 (qw 101 rfl r2 r1 (qk rfl (fun h=>o_neq (.w h) (.w h)) r3 qz (qf (ZE .t .t) r2 qz (qR rr (qm rfl rfl rfl rfl (qk rfl (fun h=>oL true 4 102 .is) r2 r1 (qk rfl (fun h=>oP (Zln (Nn t.ops i)) func120 (Args.one (.pagg (.w h)))) r2 qz (qk rfl (fun h=>ZO (avs:=[.agg (ZW (ofO (Nn t.ops i)))]) (.w h) (hw (ofO (Nn t.ops i))) hf hb hnn (Args.one (.w h))) r3 qz (qf (ZE .t .t) r2 qz qZ))))))))))))))))))))) V [36,12,11,10,6,3,2,1] [102,101,0] fun G=>?_))
  refine Zc G rfl (fun hc1=>?_) (fun hc1=>?_)
  ·skip
   have hg:true=ZeX t key p:=(Yay.2 ⟨(Nn t.ops i),nth_mem hil,hc1⟩).symm
   refine Ya (rZ G qB V [12,11,10,6,3,2,1] [102,101,0] fun G=>(Yh (Zz (Zl (Zl (Zz (Zl ?_)))))))
   refine Zr hfr G rfl rfl rfl (.bool hg)
  have hne:(fun o:OpD=>((o.read && decide (o.key=key)) && !decide (o.tx=t.id)) && p (ofO o)) (Nn t.ops i)=false:=hc1
  refine Ye (Zh (Za (rZ G (qp r1 (qR rr qZ)) V [12,11,10,6,3,2,1] [102,101,0] fun G=>?_)))
  replace G:=G.ent (i:=12) (s':=.pv (.int .i64 ((i+1:Nat):Int))) rfl (.int (Zd ow))
  obtain ⟨F,G⟩:=G.nM [11,10,6,3,2,1,12] [101,0]
  exact ⟨(i+1),F,⟨by omega,(fun q h9=>by rcases YX (Y5 h9) with h8 | h8;exact hq q h8;rw [h8];exact hne)⟩,G,by omega⟩
 have hil:i=t.ops.length:=by simp at hc0;omega
 have hg:false=ZeX t key p:=by unfold ZeX;rw [Yas,Ybi];intro o ho;obtain ⟨q,h8,rfl⟩:=Ya4.1 ho;rw [← nth_eq h8,Bool.not_eq_true];exact hq q ow
 refine Yv (Zi (Zi (Zo (Za (Ya (rZ G qB V [6] [101,0] fun G=>Yh ?_))))))
 refine Zr hfr G rfl rfl rfl (.bool hg)
theorem Zq2 (g:Zw) (e:Zg) (v:ZbT) (hs:Zbs g):FnP prog 83 [.agg (ZW v),.ref (Zs e),.ref [.sl rTx g.txs,.sl ZJ g.orders]] (.bool (decide (v.tx=e.src) && ZeA g v)):=by
 refine FnP.mk func83 rfl ntmps83 rfl fun B a w F V hfr G=>Ya ?_
 refine Zb G (qx 101 r1 qB) V [4,3,2,1] [101,0] (fun _=>rfl) (fun _=>rfl) fun τ a w F G=>?_
 try dsimp only [RS.sub,SF.sub,CF.sub,csub,Anc.sub,List.map,zCF,Zx,rTx,ZJ,ZW,Zn,rOp,Zs] at G
 generalize τ 3=v3 at G
 refine Za (Ya (rZ G (qg 0 101 r1 r1 (qa 101 r1 r1 (qf (oG 0 .t) r1 qz (qf (oR false 1 .t) r1 qz (qf (o_eql .t .t) r2 qz (qR rr (qk rfl (fun h=>oR true 2 .t) r2 qz (qk rfl (fun h=>oL true 3 101 .is) r2 r1 (qk rfl (fun h=>oP (ZpG g v hs.1) func84 (Args.two (.pagg (.w h)) (.pagg (.w h)))) r3 qz (qf (ZE .t .t) r2 qz (qO rr qZ))))))))))) V [4] [101,0] fun G=>Yh ?_))
 refine Zr hfr G rfl rfl rfl (.bool rfl)
theorem ZrV (g:Zw) (e:Zg) (v:ZbT) (hs:Zbs g):FnP prog 85 [.agg (ZW v),.ref [.sl rTx g.txs,.sl ZJ g.orders],.ref (Zs e)] (.bool (ZeA g v && ZkG g e.key v.tx e.dst)):=by
 refine FnP.mk func85 rfl ntmps85 rfl fun B a w F V hfr G=>Ya ?_
 refine Zb G (qx 101 r1 qB) V [4,3,2,1] [101,0] (fun _=>rfl) (fun _=>rfl) fun τ a w F G=>?_
 try dsimp only [RS.sub,SF.sub,CF.sub,csub,Anc.sub,List.map,zCF,Zx,rTx,ZJ,ZW,Zn,rOp,Zs] at G
 generalize τ 3=v3 at G
 refine Za (Ya (rZ G (qf (oR true 2 .t) r1 qz (qe 3 101 r1 r1 (qf (oP (ZpG g v hs.1) func84 (Args.two (.pagg .t) (.pagg .t))) r2 qz (qR rr (qk rfl (fun h=>oR true 2 .t) r2 qz (qk rfl (fun h=>oG 3 .t) r2 qz (qk rfl (fun h=>oR false 1 (.w h)) r2 qz (qv 0 101 rfl r2 r1 (qw 101 rfl r2 r1 (qk rfl (fun h=>oG 1 .t) r2 qz (qk rfl (fun h=>oR false 1 (.w h)) r2 qz (qk rfl (fun h=>oP (Zov g e.key v.tx e.dst hs) func81 (Args.four (.pagg (.w h)) (.w h) (.w h) (.w h))) r5 qz (qf (ZE .t .t) r2 qz (qO rr qZ)))))))))))))) V [4] [101,0] fun G=>Yh ?_))
 refine Zr hfr G rfl rfl rfl (.bool rfl)
theorem ZtG (g:Zw) (e:Zg) (hs:Zbs g):FnP prog 43 [.agg (Zx g),.agg (Zs e)] (.bool (ZeZ g e)):=by
 refine FnP.mk func43 rfl ntmps43 rfl fun B a w F V hfr G=>Ya ?_
 refine Zb G (qx 101 r1 (qx 102 r1 qB)) V [4,3,2] [102,101,0] (fun _=>rfl) (fun _=>rfl) fun τ a w F G=>?_
 try dsimp only [RS.sub,SF.sub,CF.sub,csub,Anc.sub,List.map,zCF,Zx,rTx,ZJ,ZW,Zn,rOp,Zs] at G
 generalize τ 2=v2 at G
 generalize τ 3=v3 at G
 obtain ⟨F,G⟩:=G.giveRef 101 2 rfl rfl rfl
 obtain ⟨F,G⟩:=G.nM [4,3,2] [102,0]
 try dsimp only [Go.Gm.unCF] at G
 obtain ⟨F,G⟩:=G.giveRef 102 3 rfl rfl rfl
 obtain ⟨F,G⟩:=G.nM [4,3,2] [0]
 try dsimp only [Go.Gm.unCF] at G
 refine Za (Ya (Zb G (qf (oR true 2 .t) r1 qz (qf (oG 0 .t) r1 qz (qf (oR false 1 .t) r1 qz (qf (oP (Zj9 g e.src hs.1) func80 (Args.two (.pagg .t) .t)) r2 qz (qR rr (qf (Zj .t rfl) r1 qz (qf (Zj .t rfl) r1 qz (qf (oH [.int .i64 0,.bool false,.slice none 0 0] 103) trivial qz (qf (oA 3 103 .same (.conv .t .agg)) r2 r1 (qO rr qZ)))))))))) V [6,5,4,3,2] [103,0] (fun _=>rfl) (fun _=>rfl) fun τ a w F G=>?_))
 try dsimp only [RS.sub,SF.sub,CF.sub,csub,Anc.sub,List.map,Zf,xL,xM,Nat.reduceAdd,xD,xE,xT,xU,xC,xN,zCF,ldSF,Zx,rTx,ZJ,ZW,Zn,rOp,Zs] at G
 generalize τ 5=v5 at G
 refine Za (Ya (Zb G (qf (oR true 2 .t) r1 qz (qf (oG 1 .t) r1 qz (qf (oR false 1 .t) r1 qz (qf (oP (Zj9 g e.dst hs.1) func80 (Args.two (.pagg .t) .t)) r2 qz (qR rr (qf (Zj .t rfl) r1 qz (qf (Zj .t rfl) r1 qz (qf (oH [.int .i64 0,.bool false,.slice none 0 0] 104) trivial qz (qf (oA 3 104 .same (.conv .t .agg)) r2 r1 (qO rr qZ)))))))))) V [8,7,6,5,4,3,2] [104,103,0] (fun _=>rfl) (fun _=>rfl) fun τ a w F G=>?_))
 try dsimp only [RS.sub,SF.sub,CF.sub,csub,Anc.sub,List.map,Zf,xL,xM,Nat.reduceAdd,xD,xE,xT,xU,xC,xN,zCF,ldSF,Zx,rTx,ZJ,ZW,Zn,rOp,Zs] at G
 generalize τ 7=v7 at G
 refine Za (Ya (Ya (rZ G (qR rr (qf (o_not .t) r1 qz (qR rr (qm rfl rfl rfl rfl (qk rfl (fun h=>o_not (.w h)) r2 qz (qf (ZaA .t .t) r2 qz (qR rr (qk rfl (fun h=>oG 0 .t) r2 qz (qk rfl (fun h=>oR false 1 (.w h)) r2 qz (qk rfl (fun h=>oG 1 .t) r2 qz (qk rfl (fun h=>oR false 1 (.w h)) r2 qz (qk rfl (fun h=>o_eql (.w h) (.w h)) r3 qz (qf (ZaA .t .t) r2 qz qZ))))))))))))) V [35,7,5,4,3,2] [104,103,0] fun G=>?_)))
 refine Zc G rfl (fun hc0=>?_) (fun hc0=>?_)
 ·have hg:false=ZeZ g e:=by unfold ZeZ;rw [hc0];rfl
  refine Ya (rZ G qB V [7,5,4,3,2] [104,103,0] fun G=>(Yh (Zl ?_)))
  refine Zr hfr G rfl rfl rfl (.bool hg)
 have hF:((!ZjU g e.src || !ZjU g e.dst) || decide (e.src=e.dst))=false:=hc0
 refine Ye (Za (Ya (Ya (rZ G (qf (oG 2 .t) r1 qz (qf (oR false 1 .t) r1 qz qZ)) V [37,7,5,4,3,2] [104,103,0] fun G=>(Yg (Ya ?_))))))
 refine rZ G (qf (o_eql .t qi) r1 qz (qO rr qZ)) V [38,37,7,5,4,3,2] [104,103,0] fun G=>?_
 refine Zc G rfl (fun hc1=>?_) (fun hc1=>?_)
 ·have hk1:e.kind=1:=Yq hc1
  have hg:ZkG g e.key e.src e.dst=ZeZ g e:=by unfold ZeZ ZpN;rw [hF,Yf hk1];rfl
  refine Ya (rZ G (qf (oR true 2 .t) r1 qz (qf (oG 3 .t) r1 qz (qf (oR false 1 .t) r1 qz (qf (oG 0 .t) r1 qz (qf (oR false 1 .t) r1 qz (qf (oG 1 .t) r1 qz (qf (oR false 1 .t) r1 qz (qf (oP (Zov g e.key e.src e.dst hs) func81 (Args.four (.pagg .t) .t .t .t)) r4 qz (qO rr qZ))))))))) V [4] [104,103,0] fun G=>(Yh (Zz (Zl ?_))))
  refine Zr hfr G rfl rfl rfl (.bool hg)
 have hn1:¬ e.kind=1:=YJ hc1
 refine Ya (rZ G (qf (o_eql .t qi) r1 qz (qO rr qZ)) V [48,37,7,5,4,3,2] [104,103,0] fun G=>?_)
 refine Zc G rfl (fun hc2=>?_) (fun hc2=>?_)
 ·have hk2:e.kind=2:=Yq hc2
  have hg:ZeX ((Z6 g.txs e.dst).getD zeroT) e.key (fun v=>decide (v.tx=e.src) && ZeA g v)=ZeZ g e:=by unfold ZeZ ZpN;rw [hF,Yc hn1,Yf hk2];rfl
  refine Ya (rZ G (qe 3 104 r1 r1 (qf (oG 3 .t) r1 qz (qf (oR false 1 .t) r1 qz (qf (ZaK (Args.two .t .t)) r2 qz (qf (oP (ZlB ((Z6 g.txs e.dst).getD zeroT) e.key (ZhZ hs.1 _) (fun v=>decide (v.tx=e.src) && ZeA g v) 83 f83 [.ref (Zs e),.ref [.sl rTx g.txs,.sl ZJ g.orders]] func83 rfl kr (fun v=>Zq2 g e v hs)) func82 (Args.three (.pagg .t) .t .t)) r3 qz (qO rr qZ)))))) V [4] [104,103,0] fun G=>(Yh (Zz (Zl ?_))))
  refine Zr hfr G rfl rfl rfl (.bool hg)
 have hn2:¬ e.kind=2:=YJ hc2
 refine Ya (rZ G (qf (o_eql .t qi) r1 qz (qO rr qZ)) V [55,5,4,3,2] [104,103,0] fun G=>?_)
 refine Zc G rfl (fun hc3=>?_) (fun hc3=>?_)
 ·have hk3:e.kind=3:=Yq hc3
  have hg:ZeX ((Z6 g.txs e.src).getD zeroT) e.key (fun v=>ZeA g v && ZkG g e.key v.tx e.dst)=ZeZ g e:=by unfold ZeZ ZpN;rw [hF,Yc hn1,Yc hn2,Yf hk3];rfl
  refine Ya (rZ G (qe 3 103 r1 r1 (qf (oG 3 .t) r1 qz (qf (oR false 1 .t) r1 qz (qf (ZaK (Args.two .t .t)) r2 qz (qf (oP (ZlB ((Z6 g.txs e.src).getD zeroT) e.key (ZhZ hs.1 _) (fun v=>ZeA g v && ZkG g e.key v.tx e.dst) 85 f85 [.ref [.sl rTx g.txs,.sl ZJ g.orders],.ref (Zs e)] func85 rfl kr (fun v=>ZrV g e v hs)) func82 (Args.three (.pagg .t) .t .t)) r3 qz (qO rr qZ)))))) V [4] [104,103,0] fun G=>(Yh (Zz (Zl ?_))))
  refine Zr hfr G rfl rfl rfl (.bool hg)
 have hn3:¬ e.kind=3:=YJ hc3
 have hg:false=ZeZ g e:=by unfold ZeZ ZpN;rw [hF,Yc hn1,Yc hn2,Yc hn3];rfl
 refine Ye (Zh (Za (Ya (rZ G qB V [4] [104,103,0] fun G=>Yh ?_))))
 refine Zr hfr G rfl rfl rfl (.bool hg)
def Zie:Zuz:=⟨5,[⟨1,2,3,1⟩,⟨2,1,3,2⟩],Zqk⟩
theorem Zml:∀ i:Nat,i<Zie.walk.length→ZeZ Zd8 (Nn Zie.walk i)=true:=fun i hi=>by
 rcases (show i=0∨i=1 by have:Zie.walk.length=2:=rfl;omega) with rfl | rfl <;> decide +kernel
theorem ZuM  : FnP prog 33 [.agg (Zx Zd8),.agg (Zr1 Zie)] (.bool true):=by
 refine FnP.mk func33 rfl ntmps33 rfl fun B a w F V hfr G=>Ya ?_
 refine Zb G (qx 101 r1 (qx 102 r1 qB)) V [4,3,2] [102,101,0] (fun _=>rfl) (fun _=>rfl) fun τ a w F G=>?_
 try dsimp only [RS.sub,SF.sub,CF.sub,csub,Anc.sub,List.map,zCF,Zx,rTx,ZJ,ZW,Zn,rOp,Zs,Zr1] at G
 generalize τ 2=v2 at G
 generalize τ 3=v3 at G
 refine Za (Ya (Ya (rZ G (qe 2 101 r1 r1 (qf (oP (Zfe Zd8 Zdl.1) func19 (Args.one (.pagg .t))) r1 qz (qf (o_not .t) r1 qz qZ))) V [13,4,3,2] [102,101,0] fun G=>?_)))
 refine Zc G rfl (fun hc0=>?_) (fun hc0=>?_)
 ·exact absurd hc0 (by decide +kernel)
 refine Ye (Za (Ya (Zb G (qe 2 101 r1 r1 (qf (oB [(0,.tmp 14)] [.slice none 0 0,.slice none 0 0] [(0,2)] (.agg rfl .t kr kr .nil)) r1 qz (qf (oH [.slice none 0 0,.slice none 0 0] 103) trivial qz (qS 2 103 r2 r1 qZ)))) V [5,4,3] [103,102,101,0] (fun _=>rfl) (fun _=>rfl) fun τ a w F G=>?_)))
 try dsimp only [RS.sub,SF.sub,CF.sub,csub,Anc.sub,List.map,Zf,xL,xM,Nat.reduceAdd,xD,xE,xT,xU,xC,xN,zCF,ldSF,Zx,rTx,ZJ,ZW,Zn,rOp,Zs,Zr1] at G
 generalize τ 5=v5 at G
 refine Za (Ya (Ya (rZ G (qg 0 102 r1 r1 (qa 102 r1 r1 qZ)) V [17,5,4,3] [103,102,101,0] fun G=>(Yg (Ya (Ya ?_))))))
 refine rZ G (qf (o_eql .t qi) r1 qz (qO rr qZ)) V [18,17,5,4,3] [103,102,101,0] fun G=>?_
 refine Zc G rfl (fun hc1=>?_) (fun hc1=>?_)
 ·exact absurd hc1 (by decide)
 refine rZ G (qf (o_eql .t qi) r1 qz (qO rr qZ)) V [18,5,4,3] [103,102,101,0] fun G=>?_
 refine Zc G rfl (fun hc2=>?_) (fun hc2=>?_)
 ·exact absurd hc2 (by decide)
 refine Ye (Zh (Za (Ya (rZ G (qg 0 102 r1 r1 (qa 102 r1 r1 (qf (oP (Zj4 Zie.phen) func68 (Args.one .t)) r1 qz (qR rr (qf (Zj .t rfl) r1 qz (qf (Zj .t rfl) r1 qz (qO rr (qO rr qZ)))))))) V [7,6,5,4,3] [103,102,101,0] fun G=>Ya ?_))))
 refine rZ G (qg 1 102 r1 r1 (qa 102 r1 r1 (qf (oP (ZtI Zie.walk (by decide)) func71 (Args.one .t)) r1 qz (qO rr qZ)))) V [8,7,6,5,4,3] [103,102,101,0] fun G=>(Ya (Ya ?_))
 refine Ze G (qR rr (qf (o_eql .t qi) r1 qz (qR rr (qv 2 102 rfl r2 r1 (qk rfl (fun h=>oL true 5 102 (.w h .adr)) r2 r1 (qk rfl (fun h=>ZjT (r:=[]) (zs:=[.int .i64 0,.int .i64 0,.int .i64 0,.int .i64 0,.int .i64 0]) (pl:=[(0,1),(1,1),(2,3)]) kr kr .nil (by rfl)) r1 qz (qk rfl (fun h=>Zvb (ks:=[true,true,true,true,true]) kr (.w h) (.w h) (.int (.int (.int (.int (.int .nil)))))) r3 qz (qf (ZaA .t .t) r2 qz (qR rr (qv 1 102 rfl r2 r1 (qw 102 rfl r2 r1 (qk rfl (fun h=>oP (Zph Zie.walk (by decide)) func14 (Args.one (.w h))) r2 qz (qk rfl (fun h=>o_not (.w h)) r2 qz (qf (ZaA .t .t) r2 qz (qR rr (qm rfl rfl rfl rfl (qm rfl rfl rfl rfl (qk rfl (fun h=>ZkU (.w h) (.w h)) r3 qz (qk rfl (fun h=>o_neq (.w h) qi) r2 qz (qf (ZaA .t .t) r2 qz (qR rr (qm rfl rfl rfl rfl (qk rfl (fun h=>o_neq (.w h) qi) r2 qz (qk rfl (fun h=>oM (.w h)) r2 qz (ZB.cons (ZaE.cond2 rfl rfl (fun h=>Za8 .t (by rfl))) r2 qz (ZB.cons (ZaE.cond2 rfl rfl (fun h=>Za8 .t (by rfl))) r2 qz (ZB.cons (ZaE.cond2 rfl rfl (fun h=>o_and (.w h) (.w h))) r3 qz (ZB.cons (ZaE.cond2 rfl rfl (fun h=>o_eql (.w h) qi)) r2 qz (qk rfl (fun h=>ZE (.w h) (.wc h)) r3 qz (qf (ZaA .t .t) r2 qz qZ)))))))))))))))))))))))))))))) V [71,5,4,3] [103,102,101,0] rfl rfl fun a w F G=>?_
 try dsimp only [List.map,Zf,xL,xM,Nat.reduceAdd,xD,xE,xT,xU,xC,xN,zCF,ldSF,Zx,rTx,ZJ,ZW,Zn,rOp,Zs,Zr1] at G
 refine Za (Zc G rfl (fun hc3=>?_) (fun hc3=>?_))
 ·exact absurd hc3 (by decide +kernel)
 refine Ye (Za (Ya (Ya (rZ G (qg 1 102 r1 r1 (qa 102 r1 r1 (qu underlying31 r1 (qJ qZ)))) V [75,74,73,5,4] [103,102,101,0] fun G=>Yg ?_))))
 refine Zk (σ:=(Nat)) [4,5,73,74] [0,101,102,103] (fun s=>[(75,.pv (.int .i64 (s:Int)))]) (fun s=>[]) (fun s=>s≤Zie.walk.length∧(True)) (fun s=>Zie.walk.length - s) (0) G ⟨rfl,rfl,rfl,rfl,rfl,tv⟩ ⟨rfl,rfl,rfl,rfl,tv⟩ ⟨Yx _,tv⟩ ?_
 clear G;intro i a w F hC G
 try dsimp only at hC
 obtain ⟨F,G⟩:=G.nM [75,74,73,5,4] [103,102,101,0]
 try dsimp only at G
 obtain ⟨hi,hq⟩:=hC
 have hwl:Zie.walk.length=2:=rfl
 refine Ya (rZ G (qL r2) V [76,75,74,73,5,4] [103,102,101,0] fun G=>Ya ?_)
 refine Zc G rfl (fun hc4=>?_) (fun hc4=>?_)
 ·have hil:i<Zie.walk.length:=by simp at hc4;omega
  refine Ye (Za (Ya (Yg (Ya (Zb G (qy 4 underlying31 r2 (qf (oR true 4 .t) r1 qz (qf (oH [.int .i64 0,.int .i64 0,.int .i64 0,.int .i64 0] 104) trivial qz (qS 4 104 r2 r1 qZ)))) V [75,74,73,10,5,4] [104,103,102,101,0] (fun _=>rfl) (fun _=>rfl) fun τ a w F G=>?_)))))
  try dsimp only [RS.sub,SF.sub,CF.sub,csub,Anc.sub,List.map,Zf,xL,xM,Nat.reduceAdd,xD,xE,xT,xU,xC,xN,zCF,ldSF,Zx,rTx,ZJ,ZW,Zn,rOp,Zs,Zr1] at G
  generalize τ 10=v10 at G
  try simp only [Yb] at G
  refine Za (Ya (rZ G (qe 2 103 r1 r1 (qe 4 104 r1 r1 (qf (oP (ZtG Zd8 (Nn Zie.walk i) Zdl.1) func43 (Args.two (.pagg .t) (.pagg .t))) r2 qz (qf (o_not .t) r1 qz qZ)))) V [82,75,74,73,5,4] [104,103,102,101,0] fun G=>?_))
  refine Zc G rfl (fun hc5=>?_) (fun hc5=>?_)
  ·rw [Zml i hil] at hc5;cases hc5
  refine Ye (Zh (Za (rZ G (qp r1 (qR rr qZ)) V [75,74,73,5,4] [104,103,102,101,0] fun G=>?_)))
  replace G:=G.ent (i:=75) (s':=.pv (.int .i64 ((i+1:Nat):Int))) rfl (.int (Zd ow))
  obtain ⟨F,G⟩:=G.nM [74,73,5,4,75] [103,102,101,0]
  exact ⟨(i+1),F,⟨by omega,tv⟩,G,by omega⟩
 have hil:i=Zie.walk.length:=by simp at hc4;omega
 refine Yv (Zi (Zi (Zo (Za (Ya (rZ G qB V [4] [103,102,101,0] fun G=>Yh ?_))))))
 refine Zr hfr G rfl rfl rfl .refl
section
variable {B B':Zg→Prop} {m:Zg→Bool} {need:Bool}
end
structure ZvT (x y:Zw):Prop where
 walk:∀ p R,Zis (Zaj x) p R→Zis (Zaj y) p R
 bads:∀ p,ZaT y p PT1=ZaT x p PT1
theorem ZtR {j:Int} {w:List Zg} (h:CwE (· ∈ [(⟨1,2,3,1⟩:Zg),⟨2,1,3,2⟩]) (fun e=>ofB 8 e.kind) true j w):2≤w.length∧j=1∧(w.length=2→w = [⟨1,2,3,1⟩,⟨2,1,3,2⟩]):=by
 obtain ⟨h1,h2,h3,_⟩:=h
 cases w with
 | nil=>exact absurd rfl h1
 | cons e w=>
  obtain ⟨he,ha,h4⟩:=h2
  rcases Yk.1 he with rfl | he
  ·have ha:(1:Int)=j:=ha
   subst ha
   cases w with
   | nil=>have h4:(2:Int)=1:=h4;omega
   | cons f w=>
    obtain ⟨hf,hb,h5⟩:=h4
    refine ⟨by simp,rfl,fun hl=>?_⟩
    have hw:w = []:=by simpa using hl
    subst hw
    rcases Yk.1 hf with rfl | hf
    ·have hb:(1:Int)=2:=hb;omega
    ·rw [Yj.1 hf]
  ·have he:=Yj.1 he
   subst he
   have ha:(2:Int)=j:=ha
   subst ha
   have:=h3 ⟨2,1,3,2⟩ (by simp)
   have:(2:Int)≤1:=this
   omega
theorem ZnC:Zis (Zaj Zd8) 5 [⟨1,2,3,1⟩,⟨2,1,3,2⟩]:=by
 have hf:(Zaj Zd8).filter (kindOk (ZZ 5).1) = [⟨1,2,3,1⟩,⟨2,1,3,2⟩]:=by rw [Zmh];decide
 unfold Zis
 rw [Yc (by decide),hf]
 have h8:(ZZ 5).2=8:=rfl
 rw [h8]
 refine .inr ⟨1,⟨by simp,⟨by simp,rfl,by simp,rfl,rfl⟩,?_,fun _=>⟨⟨1,2,3,1⟩,by simp,by decide⟩⟩,fun j' w' k=>?_⟩
 ·intro e he
  rcases Yk.1 he with rfl | he
  ·show (1:Int)≤2;decide
  ·rw [Yj.1 he];show (1:Int)≤1;decide
 ·obtain ⟨k1,k2,k3⟩:=ZtR k
  by_cases hl:w'.length=2
  ·exact .inr ⟨hl.symm,.inr ⟨k2.symm,.inl (k3 hl)⟩⟩
  ·exact .inl (by show 2<_;omega)
theorem ZkN:Zut Zd8 5 [⟨1,2,3,1⟩,⟨2,1,3,2⟩] = Zie∧okH Zd8 5 [⟨1,2,3,1⟩,⟨2,1,3,2⟩] = true:=⟨rfl,by decide⟩
theorem Zn7:ZgA Zie.walk Zie.walk.length = [49,32,114,119,49,32,50,32,114,119,50,32,49]:=by decide +kernel
theorem Zne:∀ e ∈ Zie.walk,Zgf e:=fun e he=>by
 rcases Yk.1 he with rfl | he
 ·unfold Zgf;decide
 ·rw [Yj.1 he];unfold Zgf;decide
theorem Zmr  : FnP prog 10 [] (.bool true):=by
 refine FnP.mk func10 rfl ntmps10 rfl fun B a w F V hfr G=>Ya ?_
 refine rZ G qB V [0] [0] fun G=>Ya ?_
 refine Zb G (qf (oP (Zu7) func32 Args.nil) trivial qz (qf (oH [.slice none 0 0,.slice none 0 0] 101) trivial qz (qf (oA 2 101 .same (.conv .t .agg)) r2 r1 qZ))) V [1,0] [101,0] (fun _=>rfl) (fun _=>rfl) fun τ a w F G=>?_
 try dsimp only [RS.sub,SF.sub,CF.sub,csub,Anc.sub,List.map,Zf,xL,xM,Nat.reduceAdd,xD,xE,xT,xU,xC,xN,zCF,Zx,rTx,ZJ,ZW,Zn,rOp] at G
 generalize τ 1=v1 at G
 refine Za (Ya (Zb G (qe 2 101 r1 r1 (qf (oP (ZvQ Zd8 Zdl.1 Zdl.2 5 [⟨1,2,3,1⟩,⟨2,1,3,2⟩] ZnC) func12 (Args.two (.pagg .t) qi)) r1 qz (qR rr (qf (Zj .t rfl) r1 qz (qf (Zj .t rfl) r1 qz (qf (oH [.int .i64 0,.slice none 0 0,.int .i64 0,.int .i64 0,.int .i64 0,.int .i64 0,.int .i64 0] 102) trivial qz (qf (oA 7 102 .same (.conv .t .agg)) r2 r1 (qO rr qZ)))))))) V [3,2,1,0] [102,101,0] (fun _=>rfl) (fun _=>rfl) fun τ a w F G=>?_))
 try dsimp only [RS.sub,SF.sub,CF.sub,csub,Anc.sub,List.map,Zf,xL,xM,Nat.reduceAdd,xD,xE,xT,xU,xC,xN,zCF,ldSF,Zx,rTx,ZJ,ZW,Zn,rOp] at G
 generalize τ 2=v2 at G
 rw [ZkN.1,ZkN.2] at G
 try dsimp only [Zr1] at G
 refine Za (Ya (rZ G (qR rr (qR rr (qk rfl (fun h=>oL true 2 101 .is) r2 r1 (qk rfl (fun h=>oL true 7 102 .is) r2 r1 (qk rfl (fun h=>oP (ZuM) func33 (Args.two (.pagg (.w h)) (.pagg (.w h)))) r3 qz (qf (ZE .t .t) r2 qz (qR rr (qv 1 102 rfl r2 r1 (qw 102 rfl r2 r1 (qk rfl (fun h=>oP (ZtM Zie.walk (by decide) Zne) func34 (Args.one (.w h))) r2 qz (qk rfl (fun h=>Zsg underlying9 (.w h) (.cs kr)) r2 qz (qf (ZE .t .t) r2 qz (qO rr qZ))))))))))))) V [0] [102,101,0] fun G=>Yh ?_))
 refine Zr hfr G rfl rfl rfl (.bool (by rw [Zn7];rfl))
theorem ZpB (g:Zw) (id:Int):FnP prog 8 [.agg (Zx g),.int .i64 id] (.bool true):=by
 refine FnP.mk func8 rfl ntmps8 rfl fun B a w F V hfr G=>Ya ?_
 refine Zb G (qx 101 r1 qB) V [4,2,1] [101,0] (fun _=>rfl) (fun _=>rfl) fun τ a w F G=>?_
 try dsimp only [RS.sub,SF.sub,CF.sub,csub,Anc.sub,List.map,zCF,Zx,rTx,ZJ,ZW,Zn,rOp] at G
 generalize τ 2=v2 at G
 refine Za (Ya (Ya (rZ G (qf (oP (Zmr) func10 Args.nil) trivial qz (qf (o_not .t) r1 qz qZ)) V [9,4,2,1] [101,0] fun G=>?_)))
 refine Zc G rfl (fun hc0=>?_) (fun hc0=>?_)
 ·simp at hc0
 refine Ye (Za (Ya (Ya (rZ G (qe 2 101 r1 r1 (qf (oP (ZrC g) func11 (Args.one (.pagg .t))) r1 qz (qf (o_not .t) r1 qz qZ))) V [12,4,2,1] [101,0] fun G=>?_))))
 refine Zc G rfl (fun hc1=>?_) (fun hc1=>?_)
 ·refine Ya (rZ G qB V [4,2,1] [101,0] fun G=>(Yh (Zl ?_)))
  refine Zr hfr G rfl rfl rfl (.bool rfl)
 have hlt:Zcn g:=by simpa using hc1
 have hf:=Zpv hlt
 obtain ⟨hsm,hAR⟩:=ZiI hf (by decide)
 refine Ye (Za (Ya (Zb G (qe 2 101 r1 r1 (qR rr (qf (oP (Zpo g id hsm) func30 (Args.two (.pagg .t) .t)) r2 qz (qR rr (qf (Zj .t rfl) r1 qz (qf (Zj .t rfl) r1 qz (qf (oH [.slice none 0 0,.slice none 0 0] 102) trivial qz (qf (oA 2 102 .same (.conv .t .agg)) r2 r1 (qO rr qZ))))))))) V [6,5,4,2] [102,101,0] (fun _=>rfl) (fun _=>rfl) fun τ a w F G=>?_)))
 try dsimp only [RS.sub,SF.sub,CF.sub,csub,Anc.sub,List.map,Zf,xL,xM,Nat.reduceAdd,xD,xE,xT,xU,xC,xN,zCF,ldSF,Zx,rTx,ZJ,ZW,Zn,rOp] at G
 generalize τ 5=v5 at G
 refine Za (Ya (Ya (rZ G (qR rr (qf (o_neq .t qi) r1 qz qZ)) V [20,5,4,2] [102,101,0] fun G=>?_)))
 refine Zc G rfl (fun hc2=>?_) (fun hc2=>?_)
 ·refine Ya (rZ G qB V [5,4,2] [102,101,0] fun G=>(Yh (Zl ?_)))
  refine Zr hfr G rfl rfl rfl (.bool rfl)
 have hz:(Z4 g id).2=0:=by simpa using hc2
 have hgn:=Zra hsm hz
 obtain ⟨hsx,hAx⟩:=ZiI (ZsY hf hz) (by decide)
 refine Ye (Za (Ya (Ya (rZ G (qI qZ) V [7,5,4,2] [102,101,0] fun G=>Yg ?_))))
 replace G:=G.ent (i:=7) (s':=.pv (.int .i64 ((1:Nat):Int))) rfl (.int rfl)
 refine Zk (σ:=Nat) [2,4,5] [0,101,102] (fun s=>[(7,.pv (.int .i64 (s:Int)))]) (fun s=>[]) (fun s=>True) (fun s=>6 - s) (1) G ⟨rfl,rfl,rfl,rfl,tv⟩ ⟨rfl,rfl,rfl,tv⟩ trivial ?_
 clear G;intro p a w F hC G
 try dsimp only at hC
 obtain ⟨F,G⟩:=G.nM [7,5,4,2] [102,101,0]
 try dsimp only at G
 refine Ya (Ya (rZ G (qR rr (qf (ZaC .t qi) r1 qz qZ)) V [22,7,5,4,2] [102,101,0] fun G=>?_))
 refine Zc G rfl (fun hc3=>?_) (fun hc3=>?_)
 ·have hp6:p<6:=by have h9:=Yq hc3;omega
  obtain ⟨b0,hb0⟩:=ZhP (PhB g (p:Int))
  obtain ⟨b1,hb1⟩:=ZhP (PhB (Z4 g id).1 (p:Int))
  refine Ye (Za (Ya (Yg (Ya (rZ G (qe 2 102 r1 r1 (qR rr (qf (oP (ZnD (Z4 g id).1 hsx hAx (p:Int) b1 hb1) func31 (Args.two (.pagg .t) .t)) r2 qz (qR rr (qk rfl (fun h=>oL true 2 101 .is) r2 r1 (qm rfl rfl rfl rfl (qk rfl (fun h=>oP (ZnD g hsm hAR (p:Int) b0 hb0) func31 (Args.two (.pagg (.w h)) (.w h))) r3 qz (qk rfl (fun h=>o_not (.w h)) r2 qz (qf (ZE .t .t) r2 qz qZ))))))))) V [33,7,5,4,2] [102,101,0] fun G=>?_)))))
  refine Zc G rfl (fun hc4=>?_) (fun hc4=>?_)
  ·have h9:=hc4;simp at h9;have h8:=hb0.2 (hgn.phen (hb1.1 h9.1));rw [h8] at h9;simp at h9
  refine Ye (Zh (Za (rZ G (qR rr (qp r1 (qO rr qZ))) V [7,5,4,2] [102,101,0] fun G=>?_)))
  replace G:=G.ent (i:=7) (s':=.pv (.int .i64 ((p+1:Nat):Int))) rfl (.int (Zd ow))
  obtain ⟨F,G⟩:=G.nM [5,4,2,7] [102,101,0]
  exact ⟨(p+1),F,tv,G,by omega⟩
 refine Yv (Zi (Zi (Zo (Za (Ya (rZ G qB V [4] [102,101,0] fun G=>Yh ?_))))))
 refine Zr hfr G rfl rfl rfl (.bool rfl)
end Go.Proofs.YtlkpllemoepamaaGreat
