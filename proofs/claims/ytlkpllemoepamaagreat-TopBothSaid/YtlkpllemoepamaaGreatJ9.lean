/- Laws and walks. No condition beyond what each says. -/
import Derived.Test.YtlkpllemoepamaaGreatJ8
namespace Go.Proofs.YtlkpllemoepamaaGreat
open Go Go.Gm Tryz
set_option linter.unusedVariables false
set_option linter.unusedSimpArgs false
set_option maxHeartbeats 4000000
set_option maxRecDepth 8000
structure ZnQ where
 phen:Int
 walk:List Zf
 read:Zi1
 deriving DecidableEq,Inhabited
def ZeV (w:ZnQ):List PV:=[.int .i64 w.phen,.sl Zp w.walk,.int .i64 w.read.tx,.int .i64 w.read.place,.int .i64 w.read.vof.tx,.int .i64 w.read.vof.key,.int .i64 w.read.vof.nth]
def Zpu:Zi1:=⟨0,0,⟨0,0,0⟩⟩
def ZfB:ZnQ:=⟨0,[],Zpu⟩
def ZrM (p:Int) (R:List Zf):ZnQ:=if R = [] then ZfB else ⟨p,R,Zpu⟩
def Zmc (p:Int) (l:List Zi1):ZnQ:=if l = [] then ZfB else ⟨p,[],Nn l 0⟩
def ZbD (l:List Zf) (p:Int) (R:List Zf):Prop:=if (maskP p).1=0 then R = [] else
 (R = [] ∧ ∀ j w,¬ CwE (· ∈ l.filter (kindOk (maskP p).1)) (fun e=>ofB (maskP p).2 e.kind) (!decide ((maskP p).2=0)) j w)∨ZaB (· ∈ l.filter (kindOk (maskP p).1)) (fun e=>ofB (maskP p).2 e.kind) (!decide ((maskP p).2=0)) R
theorem Zsg {p:Int} (h:(maskP p).1≠0):bits .and .i64 (maskP p).1 14=(maskP p).1∧bits .and .i64 (maskP p).2 14=(maskP p).2∧bits .andNot .i64 (maskP p).1 (maskP p).2≠bits .and .i64 (maskP p).1 (maskP p).2 ∧
  (∀ k,1≤k→k≤3→ofB (bits .andNot .i64 (maskP p).1 (maskP p).2) k=(ofB (maskP p).1 k && !ofB (maskP p).2 k)) ∧ ∀ k,1≤k→k≤3→ofB (bits .and .i64 (maskP p).1 (maskP p).2) k=(ofB (maskP p).1 k && ofB (maskP p).2 k):=by
 have key:∀ a b:Int,(a=2∧b=0)∨(a=6∧b=0)∨(a=14∧b=8)→bits .and .i64 a 14=a∧bits .and .i64 b 14=b∧bits .andNot .i64 a b≠bits .and .i64 a b∧(∀ k,1≤k→k≤3→ofB (bits .andNot .i64 a b) k=(ofB a k && !ofB b k)) ∧ ∀ k,1≤k→k≤3→ofB (bits .and .i64 a b) k=(ofB a k && ofB b k):=by
  rintro a b (⟨rfl,rfl⟩ | ⟨rfl,rfl⟩ | ⟨rfl,rfl⟩) <;> refine ⟨by decide +kernel,by decide +kernel,by decide +kernel,fun k h1 h2=>?_,fun k h1 h2=>?_⟩ <;> (rcases (show k=1∨k=2∨k=3 by omega) with rfl | rfl | rfl <;> decide +kernel)
 refine key _ _ ?_
 unfold maskP at h ⊢
 by_cases h1:p=1
 ·subst h1;exact .inl ⟨rfl,rfl⟩
 ·by_cases h4:p=4
  ·subst h4;exact .inr (.inl ⟨rfl,rfl⟩)
  ·by_cases h5:p=5
   ·subst h5;exact .inr (.inr ⟨rfl,rfl⟩)
   ·rw [Yb h1,Yb h4,Yb h5] at h;exact absurd rfl h
theorem Zrq (l:List Zf) (p:Int) (hl:l.length≤100000) (hN:(maskP p).1≠0→(ZK (l.filter (kindOk (maskP p).1))).length≤4096) (R:List Zf) (hR:ZbD l p R):FnP prog 36 [.sl Zp l,.int .i64 p] (.tup [.agg (ZeV (ZrM p R)),.bool (decide (R≠[]))]):=by
 refine FnP.mk func36 rfl ntmps36 rfl fun B a w F Z hfr G=>Ya ?_
 refine Zb G (qf (oH [.int .i64 0,.slice none 0 0,.int .i64 0,.int .i64 0,.int .i64 0,.int .i64 0,.int .i64 0] 101) trivial qz qB) Z [5,4,1,0] [101,0] (fun _=>rfl) (fun _=>rfl) fun τ a w F G=>?_
 try dsimp only [RS.sub,SF.sub,CF.sub,csub,Anc.sub,List.map,zCF,Zp] at G
 generalize τ 4=v4 at G
 refine Za (Ya (rZ G (qR rr (qf (oP (Zoy p) func68 (Args.one .t)) r1 qz (qR rr (qf (Zi .t rfl) r1 qz (qf (Zi .t rfl) r1 qz (qO rr (qO rr qZ))))))) Z [7,6,5,4,1,0] [101,0] fun G=>(Ya (Ya ?_))))
 refine rZ G (qR rr (qf (o_eql .t qi) r1 qz qZ)) Z [16,7,6,5,4,1,0] [101,0] fun G=>?_
 refine Zc G rfl (fun hc0=>?_) (fun hc0=>?_)
 ·have hm0:(maskP p).1=0:=Yw hc0
  have hR2:R = []:=by unfold ZbD at hR;rw [Ye hm0] at hR;exact hR
  have hw:ZrM p R=ZfB:=Ye hR2
  have hok:false=decide (R≠[]):=by rw [hR2];rfl
  refine Ya (rZ G (qf (oB [] [.int .i64 0,.slice none 0 0,.int .i64 0,.int .i64 0,.int .i64 0,.int .i64 0,.int .i64 0] [(0,1),(1,1),(2,5)] .nil) trivial qz (qs 7 101 r2 r1 qB)) Z [7,6,5,4,1,0] [101,0] fun G=>(Yh (Zl ?_)))
  refine Zae hfr G rfl (.cl 101 true 7 rfl rfl (.tmp rfl .nil)) (.two (.aggLe rfl (by rw [hw];exact ⟨.refl,.nilSl,.refl,.refl,.refl,.refl,.refl,tv⟩)) (.bool hok))
 have hm0:(maskP p).1≠0:=YG hc0
 obtain ⟨hk1,hk2,hk3,hk4,hk5⟩:=Zsg hm0
 have hn0:=hN hm0
 have hR2:=hR
 unfold ZbD at hR2
 rw [Yb hm0] at hR2
 refine Yf (Za (Ya (rZ G (qR rr (qR rr (qR rr (qf (oP (Zla l _ (maskP p).1 (maskP p).2 (maskP p).1 (maskP p).2 _ _ hk1 hk2 rfl rfl hk3 hk4 hk5 hl rfl hn0 R hR2) func76 (Args.three .t .t .t)) r3 qz (qR rr (qf (Zi .t rfl) r1 qz (qf (Zi .t rfl) r1 qz (qO rr (qO rr qZ))))))))) Z [9,8,5,4,1] [101,0] fun G=>(Ya (Ya ?_)))))
 refine rZ G (qR rr (qf (o_neq .t qi) r1 qz qZ)) Z [26,8,5,4,1] [101,0] fun G=>?_
 refine Zc G rfl (fun hc1=>?_) (fun hc1=>?_)
 ·have hr0:R = []:=Ya3 fun k=>(by have h9:=hc1;rw [Yb k] at h9;simp at h9)
  have hw:ZrM p R=ZfB:=Ye hr0
  have hok:false=decide (R≠[]):=by rw [hr0];rfl
  refine Ya (rZ G (qf (oB [] [.int .i64 0,.slice none 0 0,.int .i64 0,.int .i64 0,.int .i64 0,.int .i64 0,.int .i64 0] [(0,1),(1,1),(2,5)] .nil) trivial qz (qs 7 101 r2 r1 qB)) Z [8,5,4,1] [101,0] fun G=>(Yh (Zl ?_)))
  refine Zae hfr G rfl (.cl 101 true 7 rfl rfl (.tmp rfl .nil)) (.two (.aggLe rfl (by rw [hw];exact ⟨.refl,.nilSl,.refl,.refl,.refl,.refl,.refl,tv⟩)) (.bool hok))
 have hr0:R≠[]:=fun k=>(by have h9:=hc1;rw [Ye k] at h9;simp at h9)
 have hw:ZrM p R = ⟨p,R,Zpu⟩:=Yb hr0
 have hok:true=decide (R≠[]):=(Yaa hr0).symm
 refine Yf (Za (Ya (rZ G (qR rr (qR rr (qf (oB [(0,.tmp 28),(1,.tmp 29)] [.int .i64 0,.slice none 0 0,.int .i64 0,.int .i64 0,.int .i64 0,.int .i64 0,.int .i64 0] [(0,1),(1,1),(2,5)] (.one rfl .t one_int kr (.one rfl .t Zm1 kr .nil))) r2 qz (qs 7 101 r2 r1 qB)))) Z [5,4] [101,0] fun G=>Yh ?_)))
 refine Zae hfr G rfl (.cl 101 true 7 rfl rfl (.tmp rfl .nil)) (.two (.aggU rfl (by rw [hw] <;> rfl)) (.bool hok))
theorem ZnU (g:Zo) (p:Int) (hsm:ZbR g):FnP prog 35 [.agg (Zu g),.int .i64 p] (.tup [.agg (ZeV (Zmc p (ZX g p fun _=>true))),.bool (decide ((ZX g p fun _=>true)≠[]))]):=by
 refine FnP.mk func35 rfl ntmps35 rfl fun B a w F Z hfr G=>Ya ?_
 refine Zb G (qx 101 r1 (qf (oH [.int .i64 0,.slice none 0 0,.int .i64 0,.int .i64 0,.int .i64 0,.int .i64 0,.int .i64 0] 102) trivial qz qB)) Z [5,4,2,1] [102,101,0] (fun _=>rfl) (fun _=>rfl) fun τ a w F G=>?_
 try dsimp only [RS.sub,SF.sub,CF.sub,csub,Anc.sub,List.map,zCF,Zu,rTx,ZP,ZN,Zn,rOp,Zes] at G
 generalize τ 2=v2,τ 4=v4 at G
 refine Za (Ya (rZ G (qe 2 101 r1 r1 (qR rr (qf (oP (Zuc g p hsm) func67 (Args.two (.pagg .t) .t)) r2 qz (qO rr qZ)))) Z [6,5,4,1] [102,101,0] fun G=>(Ya (Ya ?_))))
 refine rZ G (qR rr (qu underlying105 r1 (qf (o_eql .t qi) r1 qz qZ))) Z [12,6,5,4,1] [102,101,0] fun G=>?_
 refine Zc G rfl (fun hc0=>?_) (fun hc0=>?_)
 ·have hr0:(ZX g p fun _=>true) = []:=YR (by have h9:=Yw hc0;omega)
  have hw:Zmc p (ZX g p fun _=>true)=ZfB:=Ye hr0
  have hok:false=decide ((ZX g p fun _=>true)≠[]):=by rw [hr0];rfl
  refine Ya (rZ G (qf (oB [] [.int .i64 0,.slice none 0 0,.int .i64 0,.int .i64 0,.int .i64 0,.int .i64 0,.int .i64 0] [(0,1),(1,1),(2,5)] .nil) trivial qz (qs 7 102 r2 r1 qB)) Z [6,5,4,1] [102,101,0] fun G=>(Yh (Zl ?_)))
  refine Zae hfr G rfl (.cl 102 true 7 rfl rfl (.tmp rfl .nil)) (.two (.aggLe rfl (by rw [hw];exact ⟨.refl,.nilSl,.refl,.refl,.refl,.refl,.refl,tv⟩)) (.bool hok))
 have hne:(ZX g p fun _=>true)≠[]:=fun k=>(by have h9:=YG hc0;rw [k] at h9;simp at h9)
 have hw:Zmc p (ZX g p fun _=>true) = ⟨p,[],Nn (ZX g p fun _=>true) 0⟩:=Yb hne
 have hok:true=decide ((ZX g p fun _=>true)≠[]):=(Yaa hne).symm
 refine Yf (Za (Ya (Zg G (qR rr (qR rr (qf (o_indexAddr_sl (sz:=5) (.mk underlying105 kr) (by intro x;rfl) .t qi (by decide) (by have:=Yaf.2 hne;omega)) r1 qz (qf (oR true 5 .t) r1 qz (qf (oB [(0,.tmp 14),(2,.tmp 17)] [.int .i64 0,.slice none 0 0,.int .i64 0,.int .i64 0,.int .i64 0,.int .i64 0,.int .i64 0] [(0,1),(1,1),(2,5)] (.one rfl .t one_int kr (.agg rfl .t kr kr .nil))) r2 qz (qs 7 102 r2 r1 qB)))))) Z [5,4] [102,101,0] rfl rfl fun a w F G=>?_)))
 try simp only [Yd] at G
 refine Za (Yh (Zae hfr G rfl (.cl 102 true 7 rfl rfl (.tmp rfl .nil)) (.two (.aggLe rfl (by rw [hw];exact ⟨.refl,.nilSl,.refl,.refl,.refl,.refl,.refl,tv⟩)) (.bool hok))))
theorem Zlw {g:Zo} (hs:ZbR g) (mask:Int):(ZK ((ZV g).filter (kindOk mask))).length≤4096:=by
 by_cases hg:ZO g
 ·have h1:(ZK ((ZV g).filter (kindOk mask))).length≤(g.txs.map TxD.id).length:=List.Nodup.length_le_of_subset ((ZL _).1.imp fun h=>Int.ne_of_lt h) fun x hx=>by
   obtain ⟨e,he,hx⟩:=Zaf.1 hx
   obtain ⟨h3,h4⟩:=Zhj hg ((ZbV hg).1 (YN.1 he).1)
   rcases hx with rfl | rfl
   ·obtain ⟨t,h5,h6,_⟩:=h3;exact Yu.2 ⟨t,h5,h6⟩
   ·obtain ⟨t,h5,h6,_⟩:=h4;exact Yu.2 ⟨t,h5,h6⟩
  have h2:=hs.1.1
  rw [YC] at h1;omega
 ·rw [Zp8 hg];exact Yx _
def Zhv (g:Zo) (p:Int) (R:List Zf):ZnQ:=if p=2∨p=3 then Zmc p (ZX g p fun _=>true) else ZrM p R
def okH (g:Zo) (p:Int) (R:List Zf):Bool:=if p=2∨p=3 then decide ((ZX g p fun _=>true)≠[]) else decide (R≠[])
theorem Zqj (g:Zo) (hsm:ZbR g) (hAR:(wwC PT1 g).length+(rdC PT1 g).length≤100000) (p:Int) (R:List Zf) (hR:ZbD (ZV g) p R):FnP prog 12 [.agg (Zu g),.int .i64 p] (.tup [.agg (ZeV (Zhv g p R)),.bool (okH g p R)]):=by
 refine FnP.mk func12 rfl ntmps12 rfl fun B a w F Z hfr G=>?_
 have hel:=Zll (A:=wwC PT1 g) (R:=rdC PT1 g)
 have hkl:=Zij (Zg4 (wwC PT1 g) (rdC PT1 g))
 have hal:(Zg4 (wwC PT1 g) (rdC PT1 g)).length≤100000:=by unfold Zg4;rw [Yc,YC];exact hAR
 have hpl:(ZV g).length≤100000:=by unfold ZV;rw [YC];omega
 obtain ⟨rb,hrb⟩:=Zrw (Ztn (ZV g) (maskP p).1 (maskP p).2)
 refine Ya (Zb G (qx 101 r1 (qf (oH [.int .i64 0,.slice none 0 0,.int .i64 0,.int .i64 0,.int .i64 0,.int .i64 0,.int .i64 0] 102) trivial qz qB)) Z [5,4,2,1] [102,101,0] (fun _=>rfl) (fun _=>rfl) fun τ a w F G=>?_)
 try dsimp only [RS.sub,SF.sub,CF.sub,csub,Anc.sub,List.map,zCF,Zu,rTx,ZP,ZN,Zn,rOp,Zes,rHv,Zp] at G
 generalize τ 2=v2,τ 4=v4 at G
 refine Za (Ya (Ya (rZ G (qR rr qZ) Z [6,5,4,2,1] [102,101,0] fun G=>(Yg (Ya (Ya ?_))))))
 refine rZ G (qf (o_eql .t qi) r1 qz (qO rr qZ)) Z [7,6,5,4,2,1] [102,101,0] fun G=>?_
 refine Zc G rfl (fun hc0=>?_) (fun hc0=>?_)
 ·have h23:(p=2∨p=3):=(by have h9:=hc0;simp at h9;omega)
  have hw:Zhv g p R=Zmc p (ZX g p fun _=>true):=Ye h23
  have hok:decide ((ZX g p fun _=>true)≠[])=okH g p R:=(Ye h23).symm
  refine Yf (Za (Zc G rfl (fun hc1=>?_) (fun hc1=>?_)))
  ·have h23:(p=2∨p=3):=(by have h9:=hc1;simp at h9;omega)
   have hw:Zhv g p R=Zmc p (ZX g p fun _=>true):=Ye h23
   have hok:decide ((ZX g p fun _=>true)≠[])=okH g p R:=(Ye h23).symm
   refine Ya (rZ G (qe 2 101 r1 r1 (qR rr (qf (oP (ZnU g p hsm) func35 (Args.two (.pagg .t) .t)) r2 qz (qf (Zi .t rfl) r1 qz (qf (Zi .t rfl) r1 qz (qf (oA 7 102 .is (.conv .t .agg)) r2 r1 (qO rr qZ))))))) Z [5,4,2,1] [102,101,0] fun G=>(Yh (Zx (Zl ?_))))
   refine Zae hfr G rfl (.cl 102 true 7 rfl rfl (.tmp rfl .nil)) (.two (.aggU rfl (by rw [hw] <;> rfl)) (.bool hok))
  exact Bool.noConfusion (hc0.symm.trans hc1)
 refine rZ G (qf (o_eql .t qi) r1 qz (qO rr qZ)) Z [7,5,4,2,1] [102,101,0] fun G=>?_
 refine Zc G rfl (fun hc2=>?_) (fun hc2=>?_)
 ·have h23:(p=2∨p=3):=(by have h9:=hc2;simp at h9;omega)
  have hw:Zhv g p R=Zmc p (ZX g p fun _=>true):=Ye h23
  have hok:decide ((ZX g p fun _=>true)≠[])=okH g p R:=(Ye h23).symm
  refine Ya (rZ G (qe 2 101 r1 r1 (qR rr (qf (oP (ZnU g p hsm) func35 (Args.two (.pagg .t) .t)) r2 qz (qf (Zi .t rfl) r1 qz (qf (Zi .t rfl) r1 qz (qf (oA 7 102 .is (.conv .t .agg)) r2 r1 (qO rr qZ))))))) Z [5,4,2,1] [102,101,0] fun G=>(Yh (Zx (Zl ?_))))
  refine Zae hfr G rfl (.cl 102 true 7 rfl rfl (.tmp rfl .nil)) (.two (.aggU rfl (by rw [hw] <;> rfl)) (.bool hok))
 have hn23:¬ (p=2∨p=3):=by rintro (h9 | h9);exact YG hc0 h9;exact YG hc2 h9
 have hw:Zhv g p R=ZrM p R:=Yb hn23
 have hok:decide (R≠[])=okH g p R:=(Yb hn23).symm
 refine Yf (Zj (Za (Ya (rZ G (qe 2 101 r1 r1 (qf (oP (Zsy g hsm (Y6 hAR (by decide))) func38 (Args.one (.pagg .t))) r1 qz (qf (oP (Zsr _ (by have h9:=hpl;unfold ZV at h9;rw [YC] at h9;exact Y6 h9 (by decide))) func37 (Args.one .t)) r1 qz (qR rr (qf (oP (Zrq (ZV g) p hpl (fun _=>Zlw hsm _) R hR) func36 (Args.two .t .t)) r2 qz (qf (Zi .t rfl) r1 qz (qf (Zi .t rfl) r1 qz (qf (oA 7 102 .is (.conv .t .agg)) r2 r1 (qO rr qZ))))))))) Z [5,4] [102,101,0] fun G=>Yh ?_))))
 refine Zae hfr G rfl (.cl 102 true 7 rfl rfl (.tmp rfl .nil)) (.two (.aggU rfl (by rw [hw] <;> rfl)) (.bool hok))
theorem Zm8 (x y:List Zf):FnP prog 94 [.sl Zp x,.sl Zp y] (.bool (decide (x=y))):=by
 refine FnP.mk func94 rfl ntmps94 rfl fun B a w F Z hfr G=>?_
 have hxl:=Sat.lenSl G (i:=0) rfl
 refine Ya (rZ G qB Z [4,1,0] [0] fun G=>(Ya (Ya ?_)))
 refine rZ G (qR rr (qu Yb1 r1 (qR rr (qu Yb1 r1 (qf (o_neq .t .t) r2 qz qZ))))) Z [10,4,1,0] [0] fun G=>?_
 refine Zc G rfl (fun hc0=>?_) (fun hc0=>?_)
 ·have hg:false=decide (x=y):=by
    rw [Yan,YA]
    intro h
    subst h
    simp at hc0
  refine Ya (rZ G qB Z [4,1,0] [0] fun G=>(Yh (Zl ?_)))
  refine Zv hfr G rfl rfl rfl (.bool hg)
 have hl:x.length=y.length:=by simp at hc0;omega
 refine Yf (Za (Ya (Ya (rZ G (qR rr (qu Yb1 r1 (qJ qZ))) Z [13,12,4,1,0] [0] fun G=>Yg ?_))))
 obtain ⟨F,G⟩:=G.nM [13,12,1,0] [0]
 refine Za9 (σ:=Nat) (fun s=>(⟨[(0,.pv (.sl Zp x)),(1,.pv (.sl Zp y)),(12,.pv (.int .i64 x.length)),(13,.pv (.int .i64 s))],[(0,frame B)]⟩:En)) (fun s=>s≤x.length ∧ ∀ j,j<s→Nn x j=Nn y j) (fun s=>x.length - s) 0 G ⟨Yx _,fun j hj=>absurd hj (Y3 j)⟩ ?_
 clear G;intro i a w F hC G
 try dsimp only at hC
 try dsimp only at G
 obtain ⟨hi,hq⟩:=hC
 refine Ya (rZ G (qL r2) Z [14,13,12,1,0] [0] fun G=>Ya ?_)
 refine Zc G rfl (fun hc1=>?_) (fun hc1=>?_)
 ·have hil:i<x.length:=by simp at hc1;omega
  refine Yf (Za (Ya (Yg (Ya (rZ G (qR rr (qO rr qZ)) Z [13,12,5,1,0] [0] fun G=>Ya ?_)))))
  refine ZB G (qR rr (qR rr (qy 4 Yb1 r2 (qf (oR true 4 .t) r1 qz (qR rr (qR rr (qy 4 Yb1 r2 (qf (oR true 4 .t) r1 qz (qf (o_neqS (ks:=[true,true,true,true]) kr .t .t (.int (.int (.int (.int .nil))))) r2 qz qZ))))))))) Z [24,13,12,1,0] [0] rfl rfl fun a w F G=>?_
  try dsimp only [List.map,xD,xE,xT,xU,ldSF] at G
  refine Za (Zc G rfl (fun hc2=>?_) (fun hc2=>?_))
  ·have hg:false=decide (x=y):=by
     rw [Yan,YA]
     intro h
     subst h
     simp at hc2
   refine Ya (rZ G qB Z [13,12,4,1,0] [0] fun G=>(Yh (Zx (Zl (Zl (Zx (Zl ?_)))))))
   refine Zv hfr G rfl rfl rfl (.bool hg)
  rw [Yd] at hc2
  have hqi:Nn x i=Nn y i:=by simp only [ZsN] at hc2;simpa using hc2
  refine Yf (Zj (Za (rZ G (qp r1 (qR rr qZ)) Z [13,12,1,0] [0] fun G=>?_)))
  replace G:=G.ent (i:=13) (s':=.pv (.int .i64 ((i+1:Nat):Int))) rfl (.int (Zd ow))
  obtain ⟨F,G⟩:=G.nM [13,12,1,0] [0]
  exact ⟨i+1,F,⟨by omega,fun j hj=>by rcases YZ (Y5 hj) with h | h;exact hq j h;rw [h];exact hqi⟩,G,by omega⟩
 have hg:true=decide (x=y):=by
   rw [Yan,Yp]
   exact ZaJ hl fun j hj=>hq j (by simp at hc1;omega)
 refine Yz (Zh (Zh (Zr (Za (Ya (rZ G qB Z [4] [0] fun G=>Yh ?_))))))
 refine Zv hfr G rfl rfl rfl (.bool hg)
theorem Zgf (x y:List Zf):FnP prog 48 [.sl Zp x,.sl Zp y] (.bool (decide (x=y))):=by
 refine FnP.mk func48 rfl ntmps48 rfl fun B a w F Z hfr G=>Ya ?_
 refine rZ G qB Z [4,1,0] [0] fun G=>Ya ?_
 refine rZ G (qR rr (qR rr (qf (oP (Zm8 x y) func94 (Args.two .t .t)) r2 qz (qO rr qZ)))) Z [4] [0] fun G=>Yh ?_
 refine Zv hfr G rfl rfl rfl .refl
theorem Zpg (x y:ZnQ):(((decide (x.phen=y.phen)) && decide (x.read=y.read)) && decide (x.walk=y.walk))=decide (x=y):=by
 obtain ⟨a,b,c⟩:=x
 obtain ⟨d,e,f⟩:=y
 rw [Ya4]
 simp only [Yt,Yp,ZnQ.mk.injEq]
 constructor
 ·rintro ⟨⟨h1,h2⟩,h3⟩;exact ⟨h1,h3,h2⟩
 ·rintro ⟨h1,h2,h3⟩;exact ⟨⟨h1,h3⟩,h2⟩
theorem Znb (x y:ZnQ):FnP prog 22 [.agg (ZeV x),.agg (ZeV y)] (.bool (decide (x=y))):=by
 refine FnP.mk func22 rfl ntmps22 rfl fun B a w F Z hfr G=>Ya ?_
 refine Zb G (qx 101 r1 (qx 102 r1 qB)) Z [4,3,2] [102,101,0] (fun _=>rfl) (fun _=>rfl) fun τ a w F G=>?_
 try dsimp only [RS.sub,SF.sub,CF.sub,csub,Anc.sub,List.map,zCF,Zp,ZeV] at G
 generalize τ 2=v2,τ 3=v3 at G
 refine Za (Ya (rZ G (qg 0 101 r1 r1 (qa 101 r1 r1 (qg 0 102 r1 r1 (qa 102 r1 r1 (qf (o_eql .t .t) r2 qz (qR rr (qv 2 101 rfl r2 r1 (qk rfl (fun h=>oL true 5 101 (.w h .adr)) r2 r1 (qv 2 102 rfl r2 r1 (qk rfl (fun h=>oL true 5 102 (.w h .adr)) r2 r1 (qk rfl (fun h=>ZsT (ks:=[true,true,true,true,true]) kr (.w h) (.w h) (.int (.int (.int (.int (.int .nil)))))) r3 qz (qf (ZH .t .t) r2 qz (qR rr (qv 1 101 rfl r2 r1 (qw 101 rfl r2 r1 (qv 1 102 rfl r2 r1 (qw 102 rfl r2 r1 (qk rfl (fun h=>oP (Zgf x.walk y.walk) func48 (Args.two (.w h) (.w h))) r3 qz (qf (ZH .t .t) r2 qz (qO rr qZ)))))))))))))))))))) Z [4] [0] fun G=>Yh ?_))
 refine Zv hfr G rfl rfl rfl (.bool (by rw [← Zpg];exact Y0 (fun b=>(decide (x.phen=y.phen) && b) && decide (x.walk=y.walk)) (ZrD rfl)))
section
variable {B B':Zf→Prop} {m:Zf→Bool} {need:Bool}
theorem CwE.mono (Z:∀ e,B e→B' e) {i:Int} {w:List Zf} (h:CwE B m need i w):CwE B' m need i w:=⟨h.1,ZfY (fun e _=>Z e) h.2.1,h.2.2⟩
theorem ZaB.le {w v:List Zf} {j:Int} (h:ZaB B m need w) (k:CwE B m need j v):w.length≤v.length:=by
 obtain ⟨i,_,h2⟩:=h
 rcases h2 j v k with h3 | ⟨h3,_⟩ <;> omega
theorem ZeD {B'':Zf→Prop} (h:∀ i w,CwE B m need i w ↔ CwE B'' m need i w) {w:List Zf} : ZaB B m need w ↔ ZaB B'' m need w:=by
 unfold ZaB
 constructor
 ·rintro ⟨j,h1,h2⟩;exact ⟨j,(h j w).1 h1,fun j' w' k=>h2 j' w' ((h j' w').2 k)⟩
 ·rintro ⟨j,h1,h2⟩;exact ⟨j,(h j w).2 h1,fun j' w' k=>h2 j' w' ((h j' w').1 k)⟩
theorem ZeR (hd:∀ e f,B e→B' f→e.src≠f.src∧e.dst≠f.src∧f.dst≠e.src) {i:Int} {w:List Zf} : CwE (fun e=>B e∨B' e) m need i w ↔ CwE B m need i w∨CwE B' m need i w:=by
 constructor
 ·rintro ⟨h1,h2,h3⟩
  have key:∀ {B B':Zf→Prop},(∀ e f,B e→B' f→e.dst≠f.src) → ∀ {a b:Int} {w:List Zf} {e:Zf},B e→Zep (fun e=>B e∨B' e) a (e :: w) b→Zep B a (e :: w) b:=by
   intro B B' hd a b w
   induction w generalizing a with
   | nil=>intro e he h;exact ⟨he,h.2⟩
   | cons f w ih=>
    intro e he h
    have hf:B f:=by
     rcases h.2.2.1 with k | k
     ·exact k
     ·exact absurd h.2.2.2.1.symm (hd e f he k)
    exact ⟨he,h.2.1,ih hf h.2.2⟩
  cases w with
  | nil=>exact absurd rfl h1
  | cons e w=>
   rcases h2.1 with k | k
   ·exact .inl ⟨by simp,key (fun e f he hf=>(hd e f he hf).2.1) k h2,h3⟩
   ·refine .inr ⟨by simp,key (B:=B') (B':=B) (fun e f he hf=>(hd f e hf he).2.2) k (ZfY (fun e _ h=>h.symm) h2),h3⟩
 ·rintro (h | h)
  ·exact h.mono fun e=>.inl
  ·exact h.mono fun e=>.inr
theorem ZeJ {i:Int} {w:List Zf} (h:CwE B m need i w):∃ e,w.head? = some e∧B e∧e.src=i:=by
 cases w with
 | nil=>exact absurd rfl h.1
 | cons e w=>exact ⟨e,rfl,h.2.1.1,h.2.1.2.1⟩
theorem Zlq (hd:∀ e f,B e→B' f→e.src≠f.src∧e.dst≠f.src∧f.dst≠e.src) (hl:∀ e f,B e→B' f→e.src<f.src) :
  (∀ u,ZaB B m need u→(∀ v,ZaB B' m need v→u.length≤v.length)→((∃ i v,CwE B' m need i v) → ∃ v,ZaB B' m need v)→ZaB (fun e=>B e∨B' e) m need u) ∧
  (∀ v,ZaB B' m need v→(∀ i u,CwE B m need i u→v.length<u.length)→ZaB (fun e=>B e∨B' e) m need v):=by
 constructor
 ·rintro u ⟨j,h1,h2⟩ hle hex
  refine ⟨j,(ZeR hd).2 (.inl h1),fun j' w' k=>?_⟩
  rcases (ZeR hd).1 k with k | k
  ·exact h2 j' w' k
  ·obtain ⟨v,hv⟩:=hex ⟨j',w',k⟩
   have a:=hle v hv
   have b:=hv.le k
   by_cases hlt:u.length<w'.length
   ·exact .inl hlt
   ·obtain ⟨e,_,e2,e3⟩:=ZeJ h1
    obtain ⟨f,_,f2,f3⟩:=ZeJ k
    have:=hl e f e2 f2
    exact .inr ⟨by omega,.inl ow⟩
 ·rintro v ⟨j,h1,h2⟩ hlt
  refine ⟨j,(ZeR hd).2 (.inr h1),fun j' w' k=>?_⟩
  rcases (ZeR hd).1 k with k | k
  ·exact .inl (hlt j' w' k)
  ·exact h2 j' w' k
end
theorem ZkX {α:Type} {P:α→Prop} {R:α→α→Prop} (tot:∀ a b,P a→P b→R a b∨R b a) (tr:∀ a b c,P a→P b→P c→R a b→R b c→R a c):∀ L:List α,(∃ a ∈ L,P a) → ∃ a ∈ L,P a ∧ ∀ b ∈ L,P b→R a b
 | [],h=>by obtain ⟨a,h,_⟩:=h;cases h
 | x :: L,h=>by
  by_cases hL:∃ a ∈ L,P a
  ·obtain ⟨a,a1,a2,a3⟩:=ZkX tot tr L hL
   by_cases hx:P x
   ·rcases tot x a hx a2 with k | k
    ·refine ⟨x,by simp,hx,fun b hb hp=>?_⟩
     rcases Yl.1 hb with rfl | hb
     ·rcases tot b b hp hp with q | q <;> exact q
     ·exact tr _ _ _ hx a2 hp k (a3 b hb hp)
    ·refine ⟨a,by simp [a1],a2,fun b hb hp=>?_⟩
     rcases Yl.1 hb with rfl | hb
     ·exact k
     ·exact a3 b hb hp
   ·refine ⟨a,by simp [a1],a2,fun b hb hp=>?_⟩
    rcases Yl.1 hb with rfl | hb
    ·exact absurd hp hx
    ·exact a3 b hb hp
  ·obtain ⟨a,a1,a2⟩:=h
   have e:a=x:=(Yl.1 a1).resolve_right fun k=>hL ⟨a,k,a2⟩
   subst e
   refine ⟨a,by simp,a2,fun b hb hp=>?_⟩
   rcases Yl.1 hb with rfl | hb
   ·rcases tot b b hp hp with q | q <;> exact q
   ·exact absurd ⟨b,hb,hp⟩ hL
def ZiH (l:List Zf):Nat→List (List Zf)
 | 0=>[[]]
 | k+1=>l.flatMap fun e=>(ZiH l k).map (e :: ·)
theorem ZgL {l:List Zf} : ∀ {w:List Zf},(∀ e ∈ w,e ∈ l)→w ∈ ZiH l w.length
 | [],_=>by simp [ZiH]
 | e :: w,h=>by
  show e :: w ∈ l.flatMap _
  exact Yaq.2 ⟨e,h e (by simp),Yu.2 ⟨w,ZgL fun x hx=>h x (by simp [hx]),rfl⟩⟩
def RwE (w v:List Zf):Prop:=∃ x y,w.head? = some x∧v.head? = some y∧(x.src<y.src∨(x.src=y.src∧(v=w∨LtE w v)))
theorem LtE.trans:∀ {w v u:List Zf},LtE w v→LtE v u→LtE w u
 | x :: w,y :: v,z :: u,h,k=>by
  rcases h with h | ⟨rfl,h⟩ <;> rcases k with k | ⟨rfl,k⟩
  ·left;unfold ltK at *;omega
  ·exact .inl h
  ·exact .inl k
  ·exact .inr ⟨rfl,h.trans k⟩
 | [],_,_,h,_=>h.elim
 | _ :: _,[],_,h,_=>h.elim
 | _ :: _,_ :: _,[],_,k=>k.elim
theorem ZnA {B:Zf→Prop} {a b c:Int} : ∀ {w v:List Zf},w.length=v.length→Zep B a w b→Zep B a v c→w=v∨LtE w v∨LtE v w
 | [],[],_,_,_=>.inl rfl
 | x :: w,y :: v,hl,h,k=>by
  by_cases e:x=y
  ·subst e
   rcases ZnA (by simpa using hl) h.2.2 k.2.2 with q | q | q
   ·exact .inl (by rw [q])
   ·exact .inr (.inl (.inr ⟨rfl,q⟩))
   ·exact .inr (.inr (.inr ⟨rfl,q⟩))
  ·have hs:x.src=y.src:=h.2.1.trans k.2.1.symm
   have:ltK x y∨ltK y x:=by
    apply Ya3
    intro hn
    apply e
    cases x;cases y
    unfold ltK at hn
    simp only [Zf.mk.injEq] at *
    omega
   rcases this with q | q
   ·exact .inr (.inl (.inl q))
   ·exact .inr (.inr (.inl q))
 | [],_ :: _,hl,_,_=>by simp at hl
 | _ :: _,[],hl,_,_=>by simp at hl
theorem ZoS {l:List Zf} {m:Zf→Bool} {need:Bool} (h:∃ i w,CwE (· ∈ l) m need i w):∃ w,ZaB (· ∈ l) m need w:=by
 obtain ⟨k,⟨k0,i,w,hw,hk⟩,hmin⟩:=ZqY (P:=fun k=>0≤k ∧ ∃ i w,CwE (· ∈ l) m need i w∧(w.length:Int)=k) (fun x hx=>hx.1) (u:=((Classical.choose (Yby h)).length:Int)) ⟨by omega,_,_,Yby (Yby h),rfl⟩
 have hin:∀ {i:Int} {v:List Zf},CwE (· ∈ l) m need i v→v.length=w.length→v ∈ ZiH l w.length:=fun hv hl=>by
  rw [← hl];exact ZgL (Zhh hv.2.1)
 have hh:∀ {i:Int} {v:List Zf},CwE (· ∈ l) m need i v → ∃ x,v.head? = some x∧x.src=i:=fun hv=>by
  obtain ⟨x,x1,_,x3⟩:=ZeJ hv;exact ⟨x,x1,x3⟩
 obtain ⟨v,v1,⟨j,v2⟩,v3⟩:=ZkX (P:=fun v=>∃ i,CwE (· ∈ l) m need i v∧v.length=w.length) (R:=RwE) (fun a b ⟨i,ha,la⟩ ⟨j,hb,lb⟩=>by
   obtain ⟨x,x1,x2⟩:=hh ha
   obtain ⟨y,y1,y2⟩:=hh hb
   by_cases e:i=j
   ·subst e
    rcases ZnA ow ha.2.1 hb.2.1 with q | q | q
    ·exact .inl ⟨x,y,x1,y1,.inr ⟨by omega,.inl q.symm⟩⟩
    ·exact .inl ⟨x,y,x1,y1,.inr ⟨by omega,.inr q⟩⟩
    ·exact .inr ⟨y,x,y1,x1,.inr ⟨by omega,.inr q⟩⟩
   ·by_cases hlt:i<j
    ·exact .inl ⟨x,y,x1,y1,.inl ow⟩
    ·exact .inr ⟨y,x,y1,x1,.inl ow⟩) (fun a b c _ _ _ ⟨x,y,x1,y1,h1⟩ ⟨y',z,y2,z1,h2⟩=>by
   have e:y' = y:=YaB (y2.symm.trans y1)
   subst e
   refine ⟨x,z,x1,z1,?_⟩
   rcases h1 with h1 | ⟨h1,h3⟩ <;> rcases h2 with h2 | ⟨h2,h4⟩
   ·exact .inl ow
   ·exact .inl ow
   ·exact .inl ow
   ·refine .inr ⟨by omega,?_⟩
    rcases h3 with rfl | h3 <;> rcases h4 with rfl | h4
    ·exact .inl rfl
    ·exact .inr h4
    ·exact .inr h3
    ·exact .inr (h3.trans h4)) (ZiH l w.length) ⟨w,hin hw rfl,i,hw,rfl⟩
 refine ⟨v,j,v2.1,fun j' w' k=>?_⟩
 have hlen:=hmin (w'.length:Int) ⟨by omega,j',w',k,rfl⟩
 by_cases hl:w'.length=w.length
 ·refine .inr ⟨by rw [hl,v2.2],?_⟩
  obtain ⟨x,y,x1,y1,h1⟩:=v3 w' (hin k hl) ⟨j',k,hl⟩
  obtain ⟨x',x2,x3⟩:=hh v2.1
  obtain ⟨y',y2,y3⟩:=hh k
  have e1:x' = x:=YaB (x2.symm.trans x1)
  have e2:y' = y:=YaB (y2.symm.trans y1)
  subst e1;subst e2
  rcases h1 with h1 | ⟨h1,h2⟩
  ·exact .inl ow
  ·exact .inr ⟨by omega,h2⟩
 ·exact .inl (by rw [v2.2];omega)
theorem Zkd (l:List Zf) (p:Int):∃ R,ZbD l p R:=by
 by_cases h0:(maskP p).1=0
 ·exact ⟨[],by unfold ZbD;rw [Ye h0]⟩
 ·by_cases hc:∃ i w,CwE (· ∈ l.filter (kindOk (maskP p).1)) (fun e=>ofB (maskP p).2 e.kind) (!decide ((maskP p).2=0)) i w
  ·obtain ⟨w,hw⟩:=ZoS hc
   exact ⟨w,by unfold ZbD;rw [Yb h0];exact .inr hw⟩
  ·exact ⟨[],by unfold ZbD;rw [Yb h0];exact .inl ⟨rfl,fun j w h=>hc ⟨j,w,h⟩⟩⟩
theorem ZaB.ne {B:Zf→Prop} {m:Zf→Bool} {need:Bool} {w:List Zf} (h:ZaB B m need w):w≠[]:=by
 obtain ⟨j,h1,_⟩:=h
 exact h1.1
structure ZnC (x y:Zo):Prop where
 walk:∀ p R,ZbD (ZV x) p R→ZbD (ZV y) p R
 bads:∀ p,ZX y p PT1=ZX x p PT1
theorem ZnC.symm {x y:Zo} (h:ZnC x y) (hw:∀ p R,ZbD (ZV y) p R→ZbD (ZV x) p R):ZnC y x:=⟨hw,fun p=>(h.bads p).symm⟩
theorem Zh9 {g:Zo} {t:TxD} (hn:Zc8 g t=true) {o:OpD} (ho:o ∈ t.ops) (hd:ZaY t.id o=true):(ZJ g.txs o.tx).isSome=true:=by
 have hv:=Zkj ho hd
 have h0:o.read=true∧o.tx≠0:=by unfold ZaY at hd;simp at hd;exact hd.1
 have ev:ofO o = ⟨o.tx,o.key,o.nth⟩:=by unfold ofO;rw [Ye h0.1]
 have h4:=Yat.1 hn _ hv
 unfold Zi4 at h4
 rw [ev,Yb (by simp;omega),Yt] at h4
 exact h4.1
def shO (u c:Int) (o:OpD):OpD:=⟨o.read,o.key+c,if o.read=true∧¬ o.tx=0 then o.tx+u else o.tx,o.nth⟩
def shT (u c:Int) (t:TxD):TxD:=⟨t.id+u,t.done,t.ops.map (shO u c)⟩
def shR (u c:Int) (o:OrdD):OrdD:=⟨o.key+c,o.txs.map (· + u)⟩
def shH (u c:Int) (g:Zo):Zo:=⟨g.txs.map (shT u c),g.orders.map (shR u c)⟩
def ZjM (m:Int) (g:Zo):Prop:=∀ t ∈ g.txs,(1≤t.id∧t.id≤m) ∧ ∀ o ∈ t.ops,1≤o.key∧o.key≤m
theorem Zg0 (u c:Int) (l:List OpD) (k:Int):wcnt (l.map (shO u c)) (k+c)=wcnt l k:=by
 unfold wcnt
 rw [List.filter_map,YC]
 congr 1
 refine YbF fun o _=>?_
 show (!o.read && decide (o.key+c=k+c))=_
 congr 1
 rw [Yak]
 omega
def shI (u x:Int):Int:=if x=0 then 0 else x+u
theorem Zsw {u x y:Int} (hu:0≤u) (hx:0≤x) (hy:0≤y) (h:shI u x=shI u y):x=y:=by
 unfold shI at h
 split at h <;> split at h <;> omega
theorem Zdf {id:Int} : ∀ (r s:List OpD),Zai id s r=0 → ∀ o ∈ r,ZaA o=true
 | [],_,_,o,ho=>by cases ho
 | x :: r,s,h,o,ho=>by
  rw [ZcM] at h
  split at h
  ·cases h
  ·rename_i h1
   split at h
   ·cases h
   ·rcases Yl.1 ho with rfl | ho
    ·simpa using h1
    ·exact Zdf r _ h o ho
theorem Zed {t:TxD} (h:ZaE t=0):(1≤t.id∧t.id≤1048575)∧Zai t.id [] t.ops=0 ∧ ∀ o ∈ t.ops,ZaA o=true:=by
 unfold ZaE at h
 split at h
 ·cases h
 ·rename_i h1
  split at h
  ·cases h
  ·exact ⟨by omega,h,Zdf _ _ h⟩
theorem Zog {u c:Int} {o:OpD} (hu:0≤u∧u≤40000) (hc:0≤c∧c≤40000) (h:ZaA o=true) (hk:o.key≤1000000) (ht:o.tx≤1000000):ZaA (shO u c o)=true:=by
 obtain ⟨⟨k1,k2⟩,⟨t1,t2⟩,n1,n2⟩:=ZcB h
 unfold ZaA at h ⊢
 by_cases hr:o.read=true
 ·rw [Ye hr] at h
  rw [Ye (show (shO u c o).read=true from hr)]
  unfold Zb1 at h ⊢
  have etx:(shO u c o).tx=shI u o.tx:=by
   unfold shO shI
   by_cases h:o.tx=0
   ·simp [h]
   ·simp [h,hr]
  dsimp only at h ⊢
  rw [etx,show (shO u c o).key=o.key+c from rfl,show (shO u c o).nth=o.nth from rfl]
  by_cases h0:o.tx=0
  ·rw [Ye h0] at h
   rw [Ye (by rw [h0];rfl)]
   simp only [Yt,Yp,Zd7] at h ⊢
   omega
  ·rw [Yb h0] at h
   rw [show shI u o.tx=o.tx+u from Yb h0,Yb ow]
   simp only [Yt,Yp,Zd7] at h ⊢
   omega
 ·rw [Yb hr] at h
  rw [Yb (show ¬ (shO u c o).read=true from hr)]
  have etx:(shO u c o).tx=o.tx:=by unfold shO;simp [hr]
  rw [etx,show (shO u c o).key=o.key+c from rfl,show (shO u c o).nth=o.nth from rfl]
  simp only [Yt,Yp,Zd7] at h ⊢
  omega
theorem Zdz {u c id:Int} (hid:1≤id) (hu:0≤u):∀ (r s:List OpD),Zai id s r=0→(∀ o ∈ r,ZaA (shO u c o)=true)→Zai (id+u) (s.map (shO u c)) (r.map (shO u c))=0
 | [],_,_,_=>rfl
 | o :: r,s,h,ho=>by
  have hal:=Zdf _ _ h o (by simp)
  rw [ZcM] at h
  rw [YT,ZcM,Yb (by rw [ho o (by simp)];decide)]
  split at h
  ·cases h
  ·split at h
   ·cases h
   ·rename_i h1 h2
    have ih:=Zdz (u:=u) (c:=c) hid hu r (s ++ [o]) h fun x hx=>ho x (YE _ hx)
    rw [YJ,YaR] at ih
    rw [Yb]
    ·exact ih
    ·rintro ⟨g1,g2,g3⟩
     have hr:o.read=true:=g1
     rw [show (shO u c o).key=o.key+c from rfl,Zg0] at g3
     refine h2 ⟨hr,?_,g3⟩
     have ht:=(ZcB hal).2.1.1
     unfold shO at g2
     dsimp only at g2
     split at g2 <;> rename_i h9
     ·omega
     ·have h0:o.tx=0:=by
       by_cases h0:o.tx=0
       ·exact h0
       ·exact absurd ⟨hr,h0⟩ h9
      omega
theorem ZjH {u c:Int} (l:List TxD) (id:Int):ZJ (l.map (shT u c)) (id+u)=(ZJ l id).map (shT u c):=by
 unfold ZJ
 rw [List.find?_map]
 congr 2
 funext t
 show decide (t.id+u=id+u)=decide (t.id=id)
 rw [Yak]
 omega
def shV (u c:Int) (v:Zbh):Zbh:=⟨shI u v.tx,v.key+c,v.nth⟩
theorem Zsb {u c:Int} (hu:0≤u) {v w:Zbh} (hv:0≤v.tx) (hw:0≤w.tx) (h:shV u c v=shV u c w):v=w:=by
 unfold shV at h
 injection h with h1 h2 h3
 have h4:=Zsw hu hv hw h1
 cases v;cases w
 simp only [Zbh.mk.injEq]
 simp only at h2 h3 h4
 omega
theorem Zq8 {u c:Int} {o:OpD} (hr:o.read=true):(shO u c o).tx=shI u o.tx:=by
 unfold shO shI
 by_cases h:o.tx=0
 ·simp [h]
 ·simp [h,hr]
theorem Zc0 {o:OpD} (hr:o.read=true):ofO o = ⟨o.tx,o.key,o.nth⟩:=by unfold ofO;rw [Ye hr]
theorem ZoF {u c:Int} {o:OpD} (hr:o.read=true):ofO (shO u c o)=shV u c (ofO o):=by
 rw [Zc0 hr,Zc0 (show (shO u c o).read=true from hr),Zq8 hr]
 rfl
theorem ZfI {u c id:Int} (hu:0≤u) (hid:1≤id) {o:OpD} (ho:0≤o.tx):ZaY (id+u) (shO u c o)=ZaY id o:=by
 unfold ZaY
 cases hr:o.read with
 | false=>rw [show (shO u c o).read=false from hr];rfl
 | true=>
  rw [show (shO u c o).read=true from hr,Zq8 hr]
  unfold shI
  by_cases h0:o.tx=0
  ·simp [h0]
  ·rw [Yb h0]
   simp only [Ybb]
   congr 1
   ·congr 1;rw [Yak];omega
   ·congr 1;rw [Yak];omega
theorem Zfp {u c id:Int} (hu:0≤u) (hid:1≤id):∀ (l:List OpD) (out:List Zbh),(∀ o ∈ l,0≤o.tx)→(∀ v ∈ out,0≤v.tx)→(l.map (shO u c)).foldl (ZY (id+u)) (out.map (shV u c))=(l.foldl (ZY id) out).map (shV u c)
 | [],_,_,_=>rfl
 | o :: l,out,hl,ho=>by
  rw [YT,Yal,Yal]
  have h0:=hl o (by simp)
  have e:ZY (id+u) (out.map (shV u c)) (shO u c o)=(ZY id out o).map (shV u c) ∧ ∀ v ∈ ZY id out o,0≤v.tx:=by
   by_cases hn:ZaY id o=true
   ·have hr:o.read=true:=by unfold ZaY at hn;simp at hn;exact hn.1.1
    have hof:(ofO o).tx=o.tx:=by rw [Zc0 hr]
    unfold ZY
    rw [ZfI hu hid h0,ZoF hr]
    by_cases hm:ofO o ∈ out
    ·rw [Yb (fun h=>h.2 (Yu.2 ⟨_,hm,rfl⟩)),Yb (fun h=>h.2 hm)]
     exact ⟨rfl,ho⟩
    ·rw [Ye ⟨hn,fun h=>by
      obtain ⟨v,hv,e⟩:=Yu.1 h
      have:=Zsb hu (ho v hv) (by rw [hof];exact h0) e
      exact hm (this ▸ hv)⟩,Ye ⟨hn,hm⟩,YJ]
     exact ⟨rfl,fun v hv=>by
      rcases Yy.1 hv with h | h
      ·exact ho v h
      ·simp at h;rw [h,hof];exact h0⟩
   ·unfold ZY
    rw [ZfI hu hid h0,Yb (fun h=>hn h.1),Yb (fun h=>hn h.1)]
    exact ⟨rfl,ho⟩
  rw [e.1]
  exact Zfp hu hid l _ (fun x hx=>hl x (YE _ hx)) e.2
theorem Zh5 {u c:Int} (hu:0≤u) {t:TxD} (hid:1≤t.id) (hl:∀ o ∈ t.ops,0≤o.tx):Zek (shT u c t)=(Zek t).map (shV u c):=Zfp hu hid t.ops [] hl (by simp)
theorem Zle {u c:Int} {g:Zo} (hid:∀ t ∈ g.txs,1≤t.id) (hu:0≤u) (hc:0≤c∧c≤40000) {v:Zbh} (hv:0≤v.tx) (hk:v.key≤1000000) (h:Zi4 g v=true):Zi4 (shH u c g) (shV u c v)=true:=by
 unfold Zi4 at h ⊢
 rw [show (shV u c v).nth=v.nth from rfl,show (shV u c v).key=v.key+c from rfl,show (shV u c v).tx=shI u v.tx from rfl,show (shH u c g).txs=g.txs.map (shT u c) from rfl]
 by_cases h0:v.tx=0
 ·rw [h0] at h ⊢
  rw [show shI u 0=0 from rfl]
  by_cases hn:v.nth=0
  ·rw [Ye ⟨rfl,hn⟩] at h ⊢
   rw [Yp] at h ⊢
   omega
  ·rw [Yb (fun h9=>hn h9.2)] at h
   cases hf:ZJ g.txs 0 with
   | none=>rw [hf] at h;simp at h
   | some t=>
    obtain ⟨h1,h2⟩:=findT_mem hf
    have:=hid t h1
    omega
 ·rw [Yb (fun h9=>h0 h9.1)] at h
  rw [show shI u v.tx=v.tx+u from Yb h0,Yb (fun h9=>by have:=h9.1;omega),ZjH]
  cases hf:ZJ g.txs v.tx with
  | none=>rw [hf] at h;simp at h
  | some t=>
   rw [hf] at h
   simp only [YaA,Option.isSome_some,Option.getD_some,Ybb] at h ⊢
   have hw:wcnt (shT u c t).ops (v.key+c)=wcnt t.ops v.key:=Zg0 u c t.ops v.key
   simp only [hw]
   exact h
theorem Zcw {t:TxD} {k:Int} : k ∈ ZaW t ↔ ∃ o ∈ t.ops,o.read=false∧o.key=k:=by
 unfold ZaW
 rw [(ZL _).2,Yu]
 constructor
 ·rintro ⟨o,ho,rfl⟩
  obtain ⟨h1,h2⟩:=YN.1 ho
  exact ⟨o,h1,by simpa using h2,rfl⟩
 ·rintro ⟨o,h1,h2,rfl⟩
  exact ⟨o,YN.2 ⟨h1,by simp [h2]⟩,rfl⟩
theorem Zdu {l:List TxD} {k:Int} : k ∈ Za4 l ↔ ∃ t ∈ l,t.done=true∧k ∈ ZaW t:=by
 unfold Za4
 rw [(ZL _).2,Yaq]
 constructor
 ·rintro ⟨t,ht,hk⟩
  obtain ⟨h1,h2⟩:=YN.1 ht
  exact ⟨t,h1,h2,hk⟩
 ·rintro ⟨t,h1,h2,hk⟩
  exact ⟨t,YN.2 ⟨h1,h2⟩,hk⟩
theorem Zfc {u c:Int} (l:List TxD):Za4 (l.map (shT u c))=(Za4 l).map (· + c):=by
 refine ZcP (ZL _).1 ?_ fun k=>?_
 ·exact Ybc.2 ((ZL _).1.imp fun h=>by omega)
 ·rw [Zdu,Yu]
  constructor
  ·rintro ⟨t',ht',hd,hk⟩
   obtain ⟨t,ht,rfl⟩:=Yu.1 ht'
   obtain ⟨o',ho',h2,h3⟩:=Zcw.1 hk
   obtain ⟨o,ho,rfl⟩:=Yu.1 ho'
   exact ⟨o.key,Zdu.2 ⟨t,ht,hd,Zcw.2 ⟨o,ho,h2,rfl⟩⟩,h3⟩
  ·rintro ⟨k0,hk0,rfl⟩
   obtain ⟨t,ht,hd,hk⟩:=Zdu.1 hk0
   obtain ⟨o,ho,h2,h3⟩:=Zcw.1 hk
   exact ⟨shT u c t,Yu.2 ⟨t,ht,rfl⟩,hd,Zcw.2 ⟨shO u c o,Yu.2 ⟨o,ho,rfl⟩,h2,by show o.key+c=k0+c;rw [h3]⟩⟩
theorem Zf6 {u c:Int} (l:List TxD) (k:Int):ZG (l.map (shT u c)) (k+c)=(ZG l k).map (· + u):=by
 unfold ZG
 rw [List.filter_map,Ya6,Ya6]
 have e:((fun t:TxD=>t.done && decide (0<wcnt t.ops (k+c))) ∘ shT u c)=fun t=>t.done && decide (0<wcnt t.ops k):=by
  funext t
  show (t.done && decide (0<wcnt (t.ops.map (shO u c)) (k+c)))=_
  rw [Zg0]
 rw [e]
 rfl
theorem Zlx {t:TxD} {v:Zbh} (h:v ∈ Zek t):∃ o ∈ t.ops,o.read=true∧v=ofO o:=by
 have key:∀ (l:List OpD) (out:List Zbh),v ∈ l.foldl (ZY t.id) out→v ∈ out ∨ ∃ o ∈ l,o.read=true∧v=ofO o:=by
  intro l
  induction l with
  | nil=>intro out h;exact .inl h
  | cons x l ih=>
   intro out h
   rw [Yal] at h
   rcases ih _ h with h | ⟨o,ho,h⟩
   ·unfold ZY at h
    split at h
    ·rename_i hn
     rcases Yy.1 h with h | h
     ·exact .inl h
     ·simp at h
      have hr:x.read=true:=by have:=hn.1;unfold ZaY at this;simp at this;exact this.1.1
      exact .inr ⟨x,by simp,hr,h⟩
    ·exact .inl h
   ·exact .inr ⟨o,YE _ ho,h⟩
 rcases key t.ops [] h with h | h
 ·cases h
 ·exact h
theorem ZtP {g:Zo} (hl:ZjM 1000000 g) {t:TxD} (ht:t ∈ g.txs) (hr:ZaE t=0) (hn:Zc8 g t=true) {o:OpD} (ho:o ∈ t.ops):o.tx≤1000000:=by
 have hro:=(Zed hr).2.2 o ho
 cases hrd:o.read with
 | false=>
  unfold ZaA at hro
  rw [Yb (by rw [hrd];decide)] at hro
  simp only [Yt,Yp] at hro
  omega
 | true=>
  by_cases h0:o.tx=0
  ·omega
  ·by_cases h1:o.tx=t.id
   ·have:=(hl t ht).1;omega
   ·have h2:=Yat.1 hn _ (Zkj ho (by unfold ZaY;simp [hrd,h0,h1]))
    rw [Zc0 hrd] at h2
    unfold Zi4 at h2
    rw [Yb (fun h9=>h0 h9.1)] at h2
    cases hf:ZJ g.txs o.tx with
    | none=>rw [hf] at h2;simp at h2
    | some s=>
     obtain ⟨h3,h4⟩:=findT_mem hf
     have:=(hl s h3).1
     omega
theorem Zjp {u c:Int} {g:Zo} (hu:0≤u∧u≤40000) (hc:0≤c∧c≤40000) (hl:ZjM 1000000 g) (hr:ZO g):ZO (shH u c g):=by
 obtain ⟨h1,h2,h3,h4⟩:=hr
 refine ⟨by show (g.txs.map (shT u c)).length≤4096;rw [YC];exact h1,fun i hi=>?_,by show (g.orders.map (shR u c)).length=(Za4 (g.txs.map (shT u c))).length;rw [Zfc,YC,YC];exact h3,fun i hi=>?_⟩
 ·have hi':i<g.txs.length:=by
   have:i<(g.txs.map (shT u c)).length:=hi
   rwa [YC] at this
  obtain ⟨a1,a2,a3⟩:=h2 i hi'
  have hm:=nth_mem hi'
  have hlt:=hl _ hm
  obtain ⟨b1,b2,b3⟩:=Zed a2
  have hnn:∀ o ∈ (Nn g.txs i).ops,0≤o.tx:=fun o ho=>(ZcB (b3 o ho)).2.1.1
  refine ⟨fun h0=>?_,?_,?_⟩
  ·show (Nn (g.txs.map (shT u c)) (i - 1)).id<(Nn (g.txs.map (shT u c)) i).id
   rw [ZaH ow,ZaH hi']
   have:=a1 h0
   show (Nn g.txs (i - 1)).id+u<(Nn g.txs i).id+u
   omega
  ·show ZaE (Nn (g.txs.map (shT u c)) i)=0
   rw [ZaH hi']
   have hlen:¬ 4095<(Nn g.txs i).ops.length:=by
    intro h9
    unfold ZaE at a2
    rw [Yb ow,Ye h9] at a2
    cases a2
   unfold ZaE
   rw [Yb (by show ¬ ¬ (1≤(Nn g.txs i).id+u∧(Nn g.txs i).id+u≤1048575);omega),Yb (by show ¬ 4095<((Nn g.txs i).ops.map (shO u c)).length;rw [YC];exact hlen)]
   exact Zdz (s:=[]) b1.1 hu.1 _ b2 fun o ho=>Zog hu hc (b3 o ho) (hlt.2 o ho).2 (ZtP hl hm a2 a3 ho)
  ·show Zc8 (shH u c g) (Nn (g.txs.map (shT u c)) i)=true
   rw [ZaH hi']
   unfold Zc8 at a3 ⊢
   rw [Zh5 hu.1 b1.1 hnn,List.all_map,Yat]
   intro v hv
   obtain ⟨o,ho,hrd,rfl⟩:=Zlx hv
   have h9:=Yat.1 a3 _ hv
   exact Zle (fun t ht=>(hl t ht).1.1) hu.1 hc (by rw [Zc0 hrd];exact hnn o ho) (by rw [Zc0 hrd];exact (hlt.2 o ho).2) h9
 ·have hi':i<g.orders.length:=by
   have:i<(g.orders.map (shR u c)).length:=hi
   rwa [YC] at this
  obtain ⟨b1,b2⟩:=h4 i hi'
  have hkl:i<(Za4 g.txs).length:=by rw [← h3];exact hi'
  refine ⟨?_,?_⟩
  ·show (Nn (g.orders.map (shR u c)) i).key=Nn (Za4 (g.txs.map (shT u c))) i
   rw [Zfc,ZaH hi',ZaH hkl,← b1]
   rfl
  ·show (Nn (g.orders.map (shR u c)) i).txs.Perm (ZG (g.txs.map (shT u c)) (Nn (g.orders.map (shR u c)) i).key)
   rw [ZaH hi']
   show ((Nn g.orders i).txs.map (· + u)).Perm (ZG (g.txs.map (shT u c)) ((Nn g.orders i).key+c))
   rw [Zf6]
   exact b2.map _
def Za2 (a c:Zo):Zo:=⟨a.txs++c.txs,a.orders++c.orders⟩
structure Z2 (a c:Zo):Prop where
 ra:ZO a
 rc:ZO c
 la:∀ t ∈ a.txs,t.id≤1000 ∧ ∀ o ∈ t.ops,o.key≤1000
 lc:∀ t ∈ c.txs,1000<t.id ∧ ∀ o ∈ t.ops,1000<o.key
 len:a.txs.length+c.txs.length≤4096
section
variable {a c:Zo}
theorem ZmG {l:List OpD} {k:Int} (h:0<wcnt l k):∃ o ∈ l,o.key=k:=by
 unfold wcnt at h
 obtain ⟨o,ho⟩:=List.exists_mem_of_length_pos h
 have:=YN.1 ho
 simp at this
 exact ⟨o,this.1,this.2.2⟩
theorem ZmP {g:Zo} (hg:ZO g) {o:OrdD} (ho:o ∈ g.orders):∃ t ∈ g.txs,∃ x ∈ t.ops,x.key=o.key:=by
 obtain ⟨_,_,_,h4,h5,h6⟩:=Zbf.1 hg
 have hne:=h5 o ho
 have hp:=h6 o.key
 rw [ZcZ (ZU.1 h4) ho] at hp
 cases hl:o.txs with
 | nil=>exact absurd hl hne
 | cons z l=>
  obtain ⟨t,t1,_,_,t4⟩:=Zce.1 (hp.mem_iff.1 (show z ∈ o.txs by rw [hl];simp))
  obtain ⟨x,x1,x2⟩:=ZmG t4
  exact ⟨t,t1,x,x1,x2⟩
theorem Z2.ka (h:Z2 a c) {o:OrdD} (ho:o ∈ a.orders):o.key≤1000:=by
 obtain ⟨t,t1,x,x1,x2⟩:=ZmP h.ra ho
 have:=(h.la t t1).2 x x1;omega
theorem Z2.kc (h:Z2 a c) {o:OrdD} (ho:o ∈ c.orders):1000<o.key:=by
 obtain ⟨t,t1,x,x1,x2⟩:=ZmP h.rc ho
 have:=(h.lc t t1).2 x x1;omega
theorem Z2.findA (h:Z2 a c) {i:Int} (hi:i≤1000):ZJ (Za2 a c).txs i=ZJ a.txs i:=by
 have e:ZJ c.txs i=none:=Zkm fun t ht e=>by have:=(h.lc t ht).1;omega
 unfold ZJ Za2 at *
 rw [YbE,e,Option.or_none]
theorem Z2.findC (h:Z2 a c) {i:Int} (hi:1000<i):ZJ (Za2 a c).txs i=ZJ c.txs i:=by
 have e:ZJ a.txs i=none:=Zkm fun t ht e=>by have:=(h.la t ht).1;omega
 unfold ZJ Za2 at *
 rw [YbE,e,Option.none_or]
theorem Z2.getA (h:Z2 a c) {k:Int} (hk:k≤1000):getO (Za2 a c).orders k=getO a.orders k:=by
 have e:c.orders.find? (fun o=>decide (o.key=k))=none:=YaQ.2 fun o ho=>by have:=h.kc ho;simp;omega
 unfold getO Za2
 rw [YbE,e,Option.or_none]
theorem Z2.getC (h:Z2 a c) {k:Int} (hk:1000<k):getO (Za2 a c).orders k=getO c.orders k:=by
 have e:a.orders.find? (fun o=>decide (o.key=k))=none:=YaQ.2 fun o ho=>by have:=h.ka ho;simp;omega
 unfold getO Za2
 rw [YbE,e,Option.none_or]
theorem Z2.uA (h:Z2 a c) {t:TxD} (ht:t ∈ a.txs) {o:OpD} (ho:o ∈ t.ops) (hd:ZaY t.id o=true):ZJ (Za2 a c).txs o.tx=ZJ a.txs o.tx:=by
 obtain ⟨_,_,h3,_⟩:=Zbf.1 h.ra
 have hs:=Zh9 (h3 t ht).2 ho hd
 obtain ⟨u,hu⟩:=YaK.1 hs
 obtain ⟨u1,u2⟩:=findT_mem hu
 exact h.findA (by have:=(h.la u u1).1;omega)
theorem Z2.uC (h:Z2 a c) {t:TxD} (ht:t ∈ c.txs) {o:OpD} (ho:o ∈ t.ops) (hd:ZaY t.id o=true):ZJ (Za2 a c).txs o.tx=ZJ c.txs o.tx:=by
 obtain ⟨_,_,h3,_⟩:=Zbf.1 h.rc
 have hs:=Zh9 (h3 t ht).2 ho hd
 obtain ⟨u,hu⟩:=YaK.1 hs
 obtain ⟨u1,u2⟩:=findT_mem hu
 exact h.findC (by have:=(h.lc u u1).1;omega)
theorem ZiJ {g x:Zo} {v:Zbh} (hv:∀ u,ZJ g.txs v.tx=some u→ZJ x.txs v.tx=some u) (h:Zi4 g v=true):Zi4 x v=true:=by
 unfold Zi4 at h ⊢
 split
 ·rename_i h0;rw [Ye h0] at h;exact h
 ·rename_i h0
  rw [Yb h0] at h
  cases hf:ZJ g.txs v.tx with
  | none=>rw [hf] at h;cases h
  | some u=>rw [hv u hf];rw [hf] at h;exact h
theorem Zeo {l:List TxD} {k:Int} (h:∀ t ∈ l,∀ o ∈ t.ops,o.key≠k):ZG l k = []:=by
 cases hl:ZG l k with
 | nil=>rfl
 | cons z m=>
  obtain ⟨t,t1,_,_,t4⟩:=Zce.1 (show z ∈ ZG l k by rw [hl];simp)
  obtain ⟨o,o1,o2⟩:=ZmG t4
  exact absurd o2 (h t t1 o o1)
theorem Z2.right (h:Z2 a c):ZO (Za2 a c):=by
 obtain ⟨_,a2,a3,a4,a5,a6⟩:=Zbf.1 h.ra
 obtain ⟨_,c2,c3,c4,c5,c6⟩:=Zbf.1 h.rc
 refine Zbf.2 ⟨by show (_++_:List TxD).length≤_;rw [Yc];exact h.len,ZU.2 (YaT.2 ⟨ZU.1 a2,ZU.1 c2,fun s hs t ht=>by have:=(h.la s hs).1;have:=(h.lc t ht).1;omega⟩),fun t ht=>?_,ZU.2 (YaT.2 ⟨ZU.1 a4,ZU.1 c4,fun s hs t ht=>by have:=h.ka hs;have:=h.kc ht;omega⟩),fun o ho=>?_,fun k=>?_⟩
 ·rcases Yy.1 ht with ht | ht
  ·refine ⟨(a3 t ht).1,?_⟩
   have:=(a3 t ht).2
   unfold Zc8 at this ⊢
   rw [Yat] at this ⊢
   exact fun v hv=>ZiJ (fun u hu=>by
    obtain ⟨u1,u2⟩:=findT_mem hu
    rw [h.findA (by have:=(h.la u u1).1;omega),hu]) (this v hv)
  ·refine ⟨(c3 t ht).1,?_⟩
   have:=(c3 t ht).2
   unfold Zc8 at this ⊢
   rw [Yat] at this ⊢
   exact fun v hv=>ZiJ (fun u hu=>by
    obtain ⟨u1,u2⟩:=findT_mem hu
    rw [h.findC (by have:=(h.lc u u1).1;omega),hu]) (this v hv)
 ·rcases Yy.1 ho with ho | ho
  ·exact a5 o ho
  ·exact c5 o ho
 ·have hw:ZG (Za2 a c).txs k=ZG a.txs k++ZG c.txs k:=by unfold ZG Za2;rw [Yae,YJ]
  rw [hw]
  by_cases hk:k≤1000
  ·rw [h.getA hk,Zeo (l:=c.txs) fun t ht o ho e=>by have:=(h.lc t ht).2 o ho;omega,YM];exact a6 k
  ·rw [h.getC ow,Zeo (l:=a.txs) fun t ht o ho e=>by have:=(h.la t ht).2 o ho;omega,Yai];exact c6 k
theorem ZeE {g x:Zo} {t:TxD} {o:OpD} (hr:o.read=true) (hf:ZaY t.id o=true→ZJ x.txs o.tx=ZJ g.txs o.tx) (ho:getO x.orders o.key=getO g.orders o.key) {e:Zf} : RdS x t o e ↔ RdS g t o e:=by
 unfold RdS
 refine and_congr_right fun h1=>?_
 have hv:OkV x o ↔ OkV g o:=by
  unfold OkV
  by_cases h0:o.tx=0
  ·exact ⟨fun _=>.inl h0,fun _=>.inl h0⟩
  ·rw [hf (by unfold ZaY;rw [hr,YF h0,YF h1];rfl)]
 rw [hv,ho]
theorem Z2.edge (h:Z2 a c) {e:Zf} : EdS (Za2 a c) e ↔ EdS a e∨EdS c e:=by
 constructor
 ·rintro (⟨h1,h2⟩ | ⟨t,ht,hd,o,ho,hr,k⟩)
  ·by_cases hk:e.key≤1000
   ·rw [h.getA hk] at h2;exact .inl (.inl ⟨h1,h2⟩)
   ·rw [h.getC ow] at h2;exact .inr (.inl ⟨h1,h2⟩)
  ·rcases Yy.1 ht with ht | ht
   ·exact .inl (.inr ⟨t,ht,hd,o,ho,hr,(ZeE hr (h.uA ht ho) (h.getA ((h.la t ht).2 o ho))).1 k⟩)
   ·exact .inr (.inr ⟨t,ht,hd,o,ho,hr,(ZeE hr (h.uC ht ho) (h.getC ((h.lc t ht).2 o ho))).1 k⟩)
 ·rintro ((⟨h1,h2⟩ | ⟨t,ht,hd,o,ho,hr,k⟩) | (⟨h1,h2⟩ | ⟨t,ht,hd,o,ho,hr,k⟩))
  ·have hk:=h.ka (ZdZ (os:=a.orders) (k:=e.key) fun e9=>by rw [e9] at h2;cases h2)
   exact .inl ⟨h1,by rw [h.getA hk];exact h2⟩
  ·exact .inr ⟨t,Yy.2 (.inl ht),hd,o,ho,hr,(ZeE hr (h.uA ht ho) (h.getA ((h.la t ht).2 o ho))).2 k⟩
  ·have hk:=h.kc (ZdZ (os:=c.orders) (k:=e.key) fun e9=>by rw [e9] at h2;cases h2)
   exact .inl ⟨h1,by rw [h.getC hk];exact h2⟩
  ·exact .inr ⟨t,Yy.2 (.inr ht),hd,o,ho,hr,(ZeE hr (h.uC ht ho) (h.getC ((h.lc t ht).2 o ho))).2 k⟩
theorem Ze7 {g x:Zo} {p:Int} {t:TxD} (hf:∀ o ∈ t.ops,ZaY t.id o=true→ZJ x.txs o.tx=ZJ g.txs o.tx):ZaK x p PT1 t t.ops=ZaK g p PT1 t t.ops:=by
 unfold ZaK
 congr 1
 refine YbF fun z hz=>?_
 have hm:z.1 ∈ t.ops:=by
  obtain ⟨i,hi,e⟩:=YH hz
  simp at e
  rw [← e];exact YaH _
 congr 1
 unfold Zjh
 cases hn:ZaY t.id z.1
 ·rfl
 ·unfold uOf
  rw [hf z.1 hm hn]
theorem Z2.bads (h:Z2 a c) (p:Int):ZX (Za2 a c) p PT1=ZX a p PT1++ZX c p PT1:=by
 unfold ZX
 rw [Ye h.right,Ye h.ra,Ye h.rc]
 unfold badsG
 show (a.txs++c.txs).flatMap _=_
 rw [YQ]
 have key:∀ {x g:Zo} {l:List TxD},(∀ t ∈ l,ZaK x p PT1 t t.ops=ZaK g p PT1 t t.ops)→l.flatMap (fun t=>ZaK x p PT1 t t.ops)=l.flatMap fun t=>ZaK g p PT1 t t.ops:=fun {x g l} hl=>by
  induction l with
  | nil=>rfl
  | cons t l ih=>rw [YV,YV,hl t (by simp),ih fun u hu=>hl u (by simp [hu])]
 rw [key (g:=a) fun t ht=>Ze7 fun o ho hd=>h.uA ht ho hd,key (g:=c) fun t ht=>Ze7 fun o ho hd=>h.uC ht ho hd]
theorem Z2.low (h:Z2 a c):(∀ e,EdS a e→e.src≤1000∧e.dst≤1000) ∧ ∀ e,EdS c e→1000<e.src∧1000<e.dst:=by
 refine ⟨fun e he=>?_,fun e he=>?_⟩
 ·obtain ⟨⟨t,t1,t2,_⟩,u,u1,u2,_⟩:=Zhj h.ra he
  have:=(h.la t t1).1
  have:=(h.la u u1).1
  omega
 ·obtain ⟨⟨t,t1,t2,_⟩,u,u1,u2,_⟩:=Zhj h.rc he
  have:=(h.lc t t1).1
  have:=(h.lc u u1).1
  omega
def Zhm (u v:List Zf):List Zf:=if u = [] then v else if v≠[]∧v.length<u.length then v else u
theorem Z2.walk (h:Z2 a c) {p:Int} {U V:List Zf} (hU:ZbD (ZV a) p U) (hV:ZbD (ZV c) p V):ZbD (ZV (Za2 a c)) p (Zhm U V):=by
 unfold ZbD at *
 by_cases h0:(maskP p).1=0
 ·rw [Ye h0] at hU hV ⊢
  rw [hU,hV];rfl
 ·rw [Yb h0] at hU hV ⊢
  generalize (maskP p).1=mk at *
  generalize (fun e:Zf=>ofB (maskP p).2 e.kind)=m at *
  generalize (!decide ((maskP p).2=0))=need at *
  have hA:∀ e:Zf,e ∈ (ZV a).filter (kindOk mk) ↔ EdS a e∧kindOk mk e=true:=fun e=>by rw [YN,ZbV h.ra]
  have hC:∀ e:Zf,e ∈ (ZV c).filter (kindOk mk) ↔ EdS c e∧kindOk mk e=true:=fun e=>by rw [YN,ZbV h.rc]
  have Z:∀ e:Zf,e ∈ (ZV (Za2 a c)).filter (kindOk mk) ↔ (e ∈ (ZV a).filter (kindOk mk))∨e ∈ (ZV c).filter (kindOk mk):=fun e=>by
   rw [YN,ZbV h.right,h.edge,hA,hC,or_and_right]
  have hd:∀ e f:Zf,e ∈ (ZV a).filter (kindOk mk)→f ∈ (ZV c).filter (kindOk mk)→e.src≠f.src∧e.dst≠f.src∧f.dst≠e.src:=fun e f he hf=>by
   have h1:=h.low.1 e ((hA e).1 he).1
   have h2:=h.low.2 f ((hC f).1 hf).1
   omega
  have hl:∀ e f:Zf,e ∈ (ZV a).filter (kindOk mk)→f ∈ (ZV c).filter (kindOk mk)→e.src<f.src:=fun e f he hf=>by
   have h1:=h.low.1 e ((hA e).1 he).1
   have h2:=h.low.2 f ((hC f).1 hf).1
   omega
  have hcw:∀ (i:Int) (w:List Zf),CwE (· ∈ (ZV (Za2 a c)).filter (kindOk mk)) m need i w ↔ CwE (fun e=>e ∈ (ZV a).filter (kindOk mk)∨e ∈ (ZV c).filter (kindOk mk)) m need i w:=fun i w=>
   ⟨fun k=>k.mono fun e he=>(Z e).1 he,fun k=>k.mono fun e he=>(Z e).2 he⟩
  obtain ⟨f1,f2⟩:=Zlq (m:=m) (need:=need) hd hl
  unfold Zhm
  rcases hU with ⟨rfl,u2⟩ | u1
  ·rw [Ye rfl]
   rcases hV with ⟨rfl,v2⟩ | v1
   ·refine .inl ⟨rfl,fun j w k=>?_⟩
    rcases (ZeR hd).1 ((hcw j w).1 k) with k | k
    ·exact u2 j w k
    ·exact v2 j w k
   ·exact .inr ((ZeD fun i w=>hcw i w).2 (f2 V v1 fun i u k=>absurd k (u2 i u)))
  ·rw [Yb u1.ne]
   rcases hV with ⟨rfl,v2⟩ | v1
   ·rw [Yb (by simp)]
    exact .inr ((ZeD fun i w=>hcw i w).2 (f1 U u1 (fun v hv=>by obtain ⟨j,k,_⟩:=hv;exact absurd k (v2 j v)) fun ⟨i,v,k⟩=>absurd k (v2 i v)))
   ·by_cases hlt:V.length<U.length
    ·rw [Ye ⟨v1.ne,hlt⟩]
     exact .inr ((ZeD fun i w=>hcw i w).2 (f2 V v1 fun i u k=>Yar hlt (u1.le k)))
    ·rw [Yb fun k=>hlt k.2]
     exact .inr ((ZeD fun i w=>hcw i w).2 (f1 U u1 (fun v hv=>by rw [hv.one v1];omega) fun _=>⟨V,v1⟩))
end
def ZoJ (p:Int) (U V:List Zf):Bool:=if p=2∨p=3 then false else decide (V.length<U.length)
def Zl5 (a c:Zo) (p:Int) (U V:List Zf):Bool:=!okH a p U || (okH c p V && ZoJ p U V)
section
variable {a c:Zo}
theorem Z2.ok (h:Z2 a c) (p:Int) (U V:List Zf):okH (Za2 a c) p (Zhm U V)=(okH a p U || okH c p V):=by
 unfold okH
 by_cases h23:p=2∨p=3
 ·rw [Ye h23,Ye h23,Ye h23]
  show decide (ZX (Za2 a c) p PT1≠[])=(decide (ZX a p PT1≠[]) || decide (ZX c p PT1≠[]))
  rw [h.bads]
  by_cases h1:ZX a p PT1 = []
  ·simp [h1]
  ·simp [h1]
 ·rw [Yb h23,Yb h23,Yb h23]
  unfold Zhm
  by_cases h1:U = []
  ·simp [h1]
  ·by_cases h2:V≠[]∧V.length<U.length
   ·rw [Yb h1,Ye h2];simp [h1,h2.1]
   ·rw [Yb h1,Yb h2];simp [h1]
theorem Z2.wit (h:Z2 a c) (p:Int) (U V:List Zf):Zhv (Za2 a c) p (Zhm U V)=if Zl5 a c p U V=true then Zhv c p V else Zhv a p U:=by
 unfold Zl5 ZoJ okH Zhv
 by_cases h23:p=2∨p=3
 ·simp only [Ye h23]
  show Zmc p (ZX (Za2 a c) p PT1)=if ((!decide (ZX a p PT1≠[])) || (decide (ZX c p PT1≠[]) && false))=true then Zmc p (ZX c p PT1) else Zmc p (ZX a p PT1)
  rw [h.bads]
  by_cases h1:ZX a p PT1 = []
  ·simp [h1]
  ·rw [Yb (by simp [h1])]
   unfold Zmc
   rw [Yb (by simp [h1]),Yb h1]
   congr 1
   have hl:0<(ZX a p PT1).length:=Yaf.2 h1
   rw [nth_eq (by rw [Yc];omega),nth_eq hl,List.getElem_append_left hl]
 ·simp only [Yb h23]
  unfold Zhm
  by_cases h1:U = []
  ·simp [h1]
  ·by_cases h2:V≠[]∧V.length<U.length
   ·rw [Yb h1,Ye h2,Ye (by simp [h2.1,h2.2])]
   ·rw [Yb h1,Yb h2,Yb (by simp [h1];exact fun k=>Nat.not_lt.1 fun k2=>h2 ⟨k,k2⟩)]
theorem ZnW {g:Zo} {p:Int} {b:Zi1} (h:b ∈ ZX g p PT1):∃ t ∈ g.txs,b.tx=t.id:=by
 unfold ZX at h
 split at h
 ·unfold badsG at h
  obtain ⟨t,ht,h⟩:=Yaq.1 h
  unfold ZaK at h
  obtain ⟨z,_,rfl⟩:=Yu.1 h
  exact ⟨t,ht,rfl⟩
 ·cases h
theorem ZhN {l:List Zf} {p:Int} {R:List Zf} (h:ZbD l p R) (hn:R≠[]):Nn R 0 ∈ l:=by
 unfold ZbD at h
 split at h
 ·exact absurd h hn
 ·rcases h with ⟨h,_⟩ | ⟨j,h,_⟩
  ·exact absurd h hn
  ·obtain ⟨e,e1,e2,_⟩:=ZeJ h
   cases R with
   | nil=>exact absurd rfl hn
   | cons x R=>
    have e1:=YaB e1
    rw [nth_eq (by simp)]
    show x ∈ l
    rw [e1];exact (YN.1 e2).1
def Zm3 (v u:ZnQ) (r:Bool):Prop:=(v.walk=u.walk→ZlZ v.read u.read=r)∧(v.walk≠u.walk→(v.walk.length≠u.walk.length→decide (v.walk.length<u.walk.length)=r)∧(v.walk.length=u.walk.length→0<v.walk.length∧Nn v.walk 0≠Nn u.walk 0∧decide (cmpE (Nn v.walk 0) (Nn u.walk 0)<0)=r))
theorem Z2.ahead (h:Z2 a c) {p:Int} {U V:List Zf} (hU:ZbD (ZV a) p U) (hV:ZbD (ZV c) p V) (hu:okH a p U=true) (hv:okH c p V=true):Zm3 (Zhv c p V) (Zhv a p U) (ZoJ p U V):=by
 unfold okH at hu hv
 unfold Zm3 ZoJ Zhv
 by_cases h23:p=2∨p=3
 ·simp only [Ye h23] at hu hv ⊢
  rw [Yp] at hu hv
  have hlu:0<(ZX a p fun _=>true).length:=Yaf.2 hu
  have hlv:0<(ZX c p fun _=>true).length:=Yaf.2 hv
  obtain ⟨t,t1,t2⟩:=ZnW (p:=p) (nth_mem hlu)
  obtain ⟨s,s1,s2⟩:=ZnW (p:=p) (nth_mem hlv)
  have t2:(Nn (ZX a p fun _=>true) 0).tx=t.id:=t2
  have s2:(Nn (ZX c p fun _=>true) 0).tx=s.id:=s2
  have k1:=(h.la t t1).1
  have k2:=(h.lc s s1).1
  unfold Zmc
  rw [Yb hu,Yb hv]
  refine ⟨fun _=>?_,fun k=>absurd rfl k⟩
  unfold ZlZ
  show (if (Nn (ZX c p fun _=>true) 0).tx≠(Nn (ZX a p fun _=>true) 0).tx then _ else _)=false
  rw [Ye ow]
  exact YF (by show ¬ (Nn (ZX c p fun _=>true) 0).tx<(Nn (ZX a p fun _=>true) 0).tx;omega)
 ·simp only [Yb h23] at hu hv ⊢
  rw [Yp] at hu hv
  unfold ZrM
  rw [Yb hu,Yb hv]
  have k1:=(h.low.1 _ ((ZbV h.ra).1 (ZhN hU hu))).1
  have k2:=(h.low.2 _ ((ZbV h.rc).1 (ZhN hV hv))).1
  refine ⟨fun k=>?_,fun _=>⟨fun _=>rfl,fun k=>⟨Yaf.2 hv,fun e=>?_,?_⟩⟩⟩
  ·have k:V=U:=k
   rw [k] at k2;omega
  ·have e:Nn V 0=Nn U 0:=e
   rw [e] at k2;omega
  ·have k:V.length=U.length:=k
   rw [YF (show ¬ V.length<U.length by omega)]
   refine YF fun k9=>?_
   have k9:cmpE (Nn V 0) (Nn U 0)<0:=k9
   rcases (ZhA _ _).1 k9 with k9 | ⟨k9,_⟩ <;> omega
theorem Zqq {g x:Zo} (hg:ZaC g) (hx:ZaC x) (u k:Int):Fit 24 (Za2 g (shH u k x))∧Fit 24 (shH u k x):=by
 obtain ⟨g1,g2,g3,g4⟩:=hg
 obtain ⟨x1,x2,x3,x4⟩:=hx
 have tg:∀ t ∈ g.txs,t.ops.length≤24:=fun t ht=>by
  obtain ⟨j,hj,e⟩:=YH ht
  have:=g3 j hj
  rw [nth_eq hj,e] at this;omega
 have og:∀ o ∈ g.orders,o.txs.length≤24:=fun o ho=>by
  obtain ⟨j,hj,e⟩:=YH ho
  have:=g4 j hj
  rw [nth_eq hj,e] at this;omega
 have tx:∀ t ∈ (shH u k x).txs,t.ops.length≤24:=fun t ht=>by
  obtain ⟨v,hv,rfl⟩:=Yu.1 ht
  obtain ⟨j,hj,e⟩:=YH hv
  have:=x3 j hj
  rw [nth_eq hj,e] at this
  show (v.ops.map _).length≤24
  rw [YC];omega
 have ox:∀ o ∈ (shH u k x).orders,o.txs.length≤24:=fun o ho=>by
  obtain ⟨v,hv,rfl⟩:=Yu.1 ho
  obtain ⟨j,hj,e⟩:=YH hv
  have:=x4 j hj
  rw [nth_eq hj,e] at this
  show (v.txs.map _).length≤24
  rw [YC];omega
 have lx:(shH u k x).txs.length=x.txs.length:=YC _
 have lo:(shH u k x).orders.length=x.orders.length:=YC _
 refine ⟨⟨⟨by show (_++_:List TxD).length≤_;rw [Yc];omega,fun t ht=>?_⟩,by show (_++_:List OrdD).length≤_;rw [Yc];omega,fun o ho=>?_⟩,⟨⟨by omega,tx⟩,by omega,ox⟩⟩
 ·rcases Yy.1 ht with ht | ht
  ·exact tg t ht
  ·exact tx t ht
 ·rcases Yy.1 ho with ho | ho
  ·exact og o ho
  ·exact ox o ho
theorem Zju {g x:Zo} (hg:ZaC g) (hx:ZaC x) (lg:ZjM 1000 g) (lx:ZjM 1000 x) (rg:ZO g) (rx:ZO x):Z2 g (shH 1000 1000 x):=by
 have lx':ZjM 1000000 x:=fun t ht=>⟨⟨(lx t ht).1.1,by have:=(lx t ht).1.2;omega⟩,fun o ho=>⟨((lx t ht).2 o ho).1,by have:=((lx t ht).2 o ho).2;omega⟩⟩
 refine ⟨rg,Zjp (by decide) (by decide) lx' rx,fun t ht=>⟨(lg t ht).1.2,fun o ho=>((lg t ht).2 o ho).2⟩,fun t ht=>?_,?_⟩
 ·obtain ⟨v,hv,rfl⟩:=Yu.1 ht
  refine ⟨by show 1000<v.id+1000;have:=(lx v hv).1.1;omega,fun o ho=>?_⟩
  obtain ⟨q,hq,rfl⟩:=Yu.1 ho
  show 1000<q.key+1000
  have:=((lx v hv).2 q hq).1;omega
 ·have h1:=hg.1
  have h2:=hx.1
  show g.txs.length+(x.txs.map _).length≤4096
  rw [YC];omega
end
theorem ZrO (x y:List Zf) (hl:x.length=y.length) (h0:0<x.length) (hne:(Nn x 0)≠(Nn y 0)):FnP prog 96 [.sl Zp x,.sl Zp y,.int .i64 0,.int .i64 0] (.bool (decide (cmpE (Nn x 0) (Nn y 0)<0))):=by
 refine FnP.mk func96 rfl ntmps96 rfl fun B a w F Z hfr G=>?_
 have hxl:=Sat.lenSl G (i:=0) rfl
 refine Ya (rZ G qB Z [8,3,2,1,0] [0] fun G=>(Ya (Ya ?_)))
 refine rZ G (qR rr (qu Yb1 r1 (qJ qZ))) Z [14,13,8,3,2,1,0] [0] fun G=>Yg ?_
 refine Zm (σ:=(Nat)) [0,1,2,3,8,13] [0] (fun s=>[(14,.pv (.int .i64 (s:Int)))]) (fun s=>[]) (fun s=>s≤x.length∧(s=0)) (fun s=>x.length - s) (0) G ⟨rfl,rfl,rfl,rfl,rfl,rfl,rfl,tv⟩ ⟨rfl,tv⟩ ⟨Yx _,rfl⟩ ?_
 clear G;intro i a w F hC G
 try dsimp only at hC
 obtain ⟨F,G⟩:=G.nM [14,13,8,3,2,1,0] [0]
 try dsimp only at G
 obtain ⟨hi,hq⟩:=hC
 have hi0:i=0:=hq
 have hmx:(IntKind.wrap .i64 (0+(i:Int))).tmod (x.length:Int)=0:=by rw [hi0];show (IntKind.wrap .i64 (0+0)).tmod _=0;rw [show IntKind.wrap .i64 (0+0)=0 by decide];exact Int.zero_tmod _
 have hmy:(IntKind.wrap .i64 (0+(i:Int))).tmod (y.length:Int)=0:=by rw [hi0];show (IntKind.wrap .i64 (0+0)).tmod _=0;rw [show IntKind.wrap .i64 (0+0)=0 by decide];exact Int.zero_tmod _
 refine Ya (rZ G (qL r2) Z [15,14,13,8,3,2,1,0] [0] fun G=>Ya ?_)
 refine Zc G rfl (fun hc0=>?_) (fun hc0=>?_)
 ·have hil:i<x.length:=by simp at hc0;omega
  refine Yf (Za (Ya (Yg (Ya (rZ G (qR rr (qO rr qZ)) Z [14,13,9,8,3,2,1,0] [0] fun G=>Ya ?_)))))
  refine Zba G (qR rr (qR rr (qR rr (qf (o_add .t .t) r2 qz (qR rr (qu Yb1 r1 (qf (o_rem .t .t ow) r2 qz (qf (o_indexAddr_sl (sz:=4) (.mk Yb1 kr) (by intro x;rfl) .t .t (by rw [hmx];decide) (by rw [hmx];omega)) r2 qz (qf (oR true 4 .t) r1 qz (qR rr (qR rr (qR rr (qf (o_add .t .t) r2 qz (qR rr (qu Yb1 r1 (qf (o_rem .t .t ow) r2 qz (qf (o_indexAddr_sl (sz:=4) (.mk Yb1 kr) (by intro x;rfl) .t .t (by rw [hmy];decide) (by rw [hmy];omega)) r2 qz (qf (oR true 4 .t) r1 qz (qf (oH [.int .i64 0,.int .i64 0,.int .i64 0,.int .i64 0] 101) trivial qz (qf (oH [.int .i64 0,.int .i64 0,.int .i64 0,.int .i64 0] 102) trivial qz (qS 4 101 r2 r1 (qS 4 102 r2 r1 qZ)))))))))))))))))))))) Z [14,13,11,10,8,3,2,1,0] [102,101,0] (fun _=>rfl) (fun _=>rfl) fun τ a w F G=>?_
  try dsimp only [RS.sub,SF.sub,CF.sub,csub,Anc.sub,List.map,Ze,xL,xM,Nat.reduceAdd,xD,xE,xT,xU,xC,xN,zCF,ldSF,Zp] at G
  generalize τ 10=v10,τ 11=v11 at G
  try simp only [Yd] at G
  rw [hmx,hmy,Int.toNat_zero] at G
  refine Za (Ya (rZ G (qe 4 101 r1 r1 (qe 4 102 r1 r1 (qf (o_neqS (ks:=[true,true,true,true]) kr .t .t (.int (.int (.int (.int .nil))))) r2 qz qZ))) Z [37,14,13,11,10,8,3,2,1,0] [102,101,0] fun G=>?_))
  refine Zc G rfl (fun hc1=>?_) (fun hc1=>?_)
  ·refine Ya (rZ G (qe 4 101 r1 r1 (qe 4 102 r1 r1 (qf (oP (Ztm (Nn x 0) (Nn y 0)) func143 (Args.two (.pagg .t) (.pagg .t))) r2 qz (qO rr qZ)))) Z [14,13,8,3,2,1,0] [0] fun G=>(Yh (Zx (Zl (Zl (Zx (Zl ?_)))))))
   refine Zv hfr G rfl rfl rfl (.bool rfl)
  simp only [ZsN] at hc1;simp at hc1;exact absurd hc1 hne
 have hil:i=x.length:=by simp at hc0;omega
 exact absurd hil ow
theorem Zpq (x y:List Zf) (r:Bool) (h1:x.length≠y.length→decide (x.length<y.length)=r) (h2:x.length=y.length→0<x.length∧(Nn x 0)≠(Nn y 0)∧decide (cmpE (Nn x 0) (Nn y 0)<0)=r):FnP prog 50 [.sl Zp x,.sl Zp y] (.bool r):=by
 refine FnP.mk func50 rfl ntmps50 rfl fun B a w F Z hfr G=>Ya ?_
 refine rZ G qB Z [4,1,0] [0] fun G=>(Ya (Ya ?_))
 refine rZ G (qR rr (qu Yb1 r1 (qR rr (qu Yb1 r1 (qf (o_neq .t .t) r2 qz qZ))))) Z [9,4,1,0] [0] fun G=>?_
 refine Zc G rfl (fun hc0=>?_) (fun hc0=>?_)
 ·have hnx:x.length≠y.length:=by have h9:=hc0;simp at h9;omega
  have hg:decide ((x.length:Int)<(y.length:Int))=r:=by rw [← h1 hnx,Yak];omega
  refine Ya (rZ G (qR rr (qu Yb1 r1 (qR rr (qu Yb1 r1 (qf (Zar .t .t) r2 qz (qO rr qZ)))))) Z [4,1,0] [0] fun G=>(Yh (Zl ?_)))
  refine Zv hfr G rfl rfl rfl (.bool hg)
 have hxy:x.length=y.length:=by have h9:=hc0;simp at h9;omega
 have hg:=(h2 hxy).2.2
 refine Yf (Za (Ya (rZ G (qR rr (qR rr (qf (oP (ZrO x y hxy (h2 hxy).1 (h2 hxy).2.1) func96 (Args.four .t .t qi qi)) r2 qz (qO rr qZ)))) Z [4] [0] fun G=>Yh ?_)))
 refine Zv hfr G rfl rfl rfl (.bool hg)
theorem Zrg (v u:ZnQ) (r:Bool) (hA:Zm3 v u r):FnP prog 21 [.agg (ZeV v),.agg (ZeV u)] (.bool r):=by
 refine FnP.mk func21 rfl ntmps21 rfl fun B a w F Z hfr G=>Ya ?_
 refine Zb G (qx 101 r1 (qx 102 r1 qB)) Z [4,3,2] [102,101,0] (fun _=>rfl) (fun _=>rfl) fun τ a w F G=>?_
 try dsimp only [RS.sub,SF.sub,CF.sub,csub,Anc.sub,List.map,zCF,Zp,ZeV,Zes] at G
 generalize τ 2=v2,τ 3=v3 at G
 refine Za (Ya (Ya (rZ G (qg 1 101 r1 r1 (qa 101 r1 r1 (qg 1 102 r1 r1 (qa 102 r1 r1 (qf (oP (Zgf v.walk u.walk) func48 (Args.two .t .t)) r2 qz qZ))))) Z [9,4,3,2] [102,101,0] fun G=>?_)))
 refine Zc G rfl (fun hc0=>?_) (fun hc0=>?_)
 ·have hg:ZlZ v.read u.read=r:=hA.1 (Yw hc0)
  refine Ya (rZ G (qg 2 101 r1 r1 (qf (oL true 5 101 .adr) r1 r1 (qg 2 102 r1 r1 (qf (oL true 5 102 .adr) r1 r1 (qf (oP (ZmH v.read u.read) func49 (Args.two (.pagg .t) (.pagg .t))) r2 qz (qO rr qZ)))))) Z [4,3,2] [102,101,0] fun G=>(Yh (Zl ?_)))
  refine Zv hfr G rfl rfl rfl (.bool hg)
 have hwn:v.walk≠u.walk:=YG hc0
 have hg:r=r:=rfl
 refine Yf (Za (Ya (rZ G (qg 1 101 r1 r1 (qa 101 r1 r1 (qg 1 102 r1 r1 (qa 102 r1 r1 (qf (oP (Zpq v.walk u.walk r (hA.2 hwn).1 (hA.2 hwn).2) func50 (Args.two .t .t)) r2 qz (qO rr qZ)))))) Z [4] [0] fun G=>Yh ?_)))
 refine Zv hfr G rfl rfl rfl (.bool hg)
def ZiR (k:Int):List UInt8:=if k=1 then [119,119] else if k=2 then [119,114] else if k=3 then [114,119] else [120]
def Zt3 (k:Int):Int:=IntKind.wrap .i64 (1*2 ^ min (IntKind.wrap .u64 k).toNat (IntKind.bits .i64))
def Zii (l:List Zf):Int:=l.foldl (fun n e=>if 1≤e.kind∧e.kind≤3 then bits .or .i64 n (Zt3 e.kind) else n) 0
theorem ZgH {l:List Zf} {i:Nat} (h:i<l.length):Zii (l.take (i+1))=if 1≤(Nn l i).kind∧(Nn l i).kind≤3 then bits .or .i64 (Zii (l.take i)) (Zt3 (Nn l i).kind) else Zii (l.take i):=by
 rw [Zs h];unfold Zii;rw [Ybp];rfl
def Zjr (g:Zo) (id:Int):Bool:=(ZJ g.txs id).isSome && ((ZJ g.txs id).getD zeroT).done
def ZdU (g:Zo) (v:Zbh):Bool:=decide (v.tx=0) || (Zjr g v.tx && decide (v.nth=((((ZJ g.txs v.tx).getD zeroT).ops.filter fun o=>!o.read && decide (o.key=v.key)).length:Nat)))
def ZjB (g:Zo) (key u x:Int):Bool:=(ZdK (getO g.orders key) u).2 && decide ((ZdK (getO g.orders key) u).1=x)
theorem Zha {g:Zo} (hs:ZaN g.txs) (id:Int):((ZJ g.txs id).getD zeroT).ops.length≤1000000:=by
 cases hf:ZJ g.txs id with
 | none=>simp [zeroT]
 | some t=>exact Y6 (hs.2 _ (findT_mem hf).1) (by decide)
theorem Zn0 (k:Int):FnP prog 74 [.int .i64 k] (.bs (ZiR k)):=by
 refine FnP.mk func74 rfl ntmps74 rfl fun B a w F Z hfr G=>Ya ?_
 refine rZ G (qf (oN (.cs kr)) trivial qz qZ) Z [2,0] [0] fun G=>(Ya (Ya ?_))
 refine rZ G (qR rr qZ) Z [3,2] [0] fun G=>(Yg (Ya ?_))
 refine rZ G (qf (o_eql .t qi) r1 qz (qO rr qZ)) Z [4,3,2] [0] fun G=>?_
 refine Zc G rfl (fun hc0=>?_) (fun hc0=>?_)
 ·refine Ya (rZ G (qf (oN (.cs kr)) trivial qz qZ) Z [2] [0] fun G=>(Yh (Zx (Zl ?_))))
  refine Zv hfr G rfl rfl rfl (.bs (by unfold ZiR;simp_all))
 refine Ya (rZ G (qf (o_eql .t qi) r1 qz (qO rr qZ)) Z [6,3,2] [0] fun G=>?_)
 refine Zc G rfl (fun hc1=>?_) (fun hc1=>?_)
 ·refine Ya (rZ G (qf (oN (.cs kr)) trivial qz qZ) Z [2] [0] fun G=>(Yh (Zx (Zl ?_))))
  refine Zv hfr G rfl rfl rfl (.bs (by unfold ZiR;simp_all))
 refine Ya (rZ G (qf (o_eql .t qi) r1 qz (qO rr qZ)) Z [8,2] [0] fun G=>?_)
 refine Zc G rfl (fun hc2=>?_) (fun hc2=>?_)
 ·refine Ya (rZ G (qf (oN (.cs kr)) trivial qz qZ) Z [2] [0] fun G=>(Yh (Zx (Zl ?_))))
  refine Zv hfr G rfl rfl rfl (.bs (by unfold ZiR;simp_all))
 refine Yf (Zj (Za (Ya (rZ G (qf (oN (.cs kr)) trivial qz qZ) Z [2] [0] fun G=>Yh ?_))))
 refine Zv hfr G rfl rfl rfl (.bs (by unfold ZiR;simp_all))
theorem Zsh (l:List Zf) (hl:l.length≤1000000):FnP prog 71 [.sl Zp l] (.int .i64 (Zii l)):=by
 refine FnP.mk func71 rfl ntmps71 rfl fun B a w F Z hfr G=>Ya ?_
 refine rZ G (qI qZ) Z [2,0] [0] fun G=>Ya ?_
 refine rZ G (qI qZ) Z [3,2,0] [0] fun G=>(Ya (Ya ?_))
 refine rZ G (qR rr (qu Yb1 r1 (qJ qZ))) Z [8,7,6,3,2] [0] fun G=>Yg ?_
 refine Zm (σ:=(Nat)) [2,6,7] [0] (fun s=>[(8,.pv (.int .i64 (s:Int))),(3,.pv (.int .i64 (Zii (l.take s))))]) (fun s=>[]) (fun s=>s≤l.length∧(True)) (fun s=>l.length - s) (0) G ⟨rfl,rfl,rfl,rfl,rfl,tv⟩ ⟨rfl,tv⟩ ⟨Yx _,tv⟩ ?_
 clear G;intro i a w F hC G
 try dsimp only at hC
 obtain ⟨F,G⟩:=G.nM [8,7,6,3,2] [0]
 try dsimp only at G
 obtain ⟨hi,hq⟩:=hC
 refine Ya (rZ G (qL r2) Z [9,8,7,6,3,2] [0] fun G=>Ya ?_)
 refine Zc G rfl (fun hc0=>?_) (fun hc0=>?_)
 ·have hil:i<l.length:=by simp at hc0;omega
  refine Yf (Za (Ya (Yg (Ya (Zb G (qy 4 Yb1 r2 (qf (oR true 4 .t) r1 qz (qf (oH [.int .i64 0,.int .i64 0,.int .i64 0,.int .i64 0] 101) trivial qz (qS 4 101 r2 r1 qZ)))) Z [8,7,6,5,3,2] [101,0] (fun _=>rfl) (fun _=>rfl) fun τ a w F G=>?_)))))
  try dsimp only [RS.sub,SF.sub,CF.sub,csub,Anc.sub,List.map,Ze,xL,xM,Nat.reduceAdd,xD,xE,xT,xU,xC,xN,zCF,ldSF,Zp] at G
  generalize τ 5=v5 at G
  try simp only [Yd] at G
  refine Za (Ya (rZ G (qg 2 101 r1 r1 (qa 101 r1 r1 (qf (ZbE .t qi) r1 qz (qR rr (qv 2 101 rfl r2 r1 (qw 101 rfl r2 r1 (qk rfl (fun h=>Zlf (.w h) qi) r2 qz (qf (ZH .t .t) r2 qz qZ)))))))) Z [19,8,7,6,5,3,2] [101,0] fun G=>?_))
  refine Zc G rfl (fun hc1=>?_) (fun hc1=>?_)
  ·have hyn:1≤(Nn l i).kind∧(Nn l i).kind≤3:=by simpa using hc1
   refine Zg G (qR rr (qg 2 101 r1 r1 (qa 101 r1 r1 (qf (Zat Yb8 kr .t) r1 qz (qf (ZgZ qi .t  (by rw [Zap];omega)) r1 qz (qf (ZqN .t .t) r2 qz (qO rr qZ))))))) Z [8,7,6,3,2] [0] rfl rfl fun a w F G=>Zj (Za ?_)
   refine rZ G (qp r1 (qR rr qZ)) Z [8,7,6,3,2] [0] fun G=>?_
   replace G:=G.ent (i:=8) (s':=.pv (.int .i64 ((i+1:Nat):Int))) rfl (.int (Zd ow))
   replace G:=G.ent (i:=3) (s':=.pv (.int .i64 (Zii (l.take (i+1))))) rfl (.int (by rw [ZgH hil,Ye hyn];rfl))
   obtain ⟨F,G⟩:=G.nM [7,6,2,3,8] [0]
   exact ⟨(i+1),F,⟨by omega,tv⟩,G,by omega⟩
  have hyn:¬ (1≤(Nn l i).kind∧(Nn l i).kind≤3):=by have h9:=hc1;simp at h9;omega
  refine Yf (Zj (Za (rZ G (qp r1 (qR rr qZ)) Z [8,7,6,3,2] [0] fun G=>?_)))
  replace G:=G.ent (i:=8) (s':=.pv (.int .i64 ((i+1:Nat):Int))) rfl (.int (Zd ow))
  replace G:=G.ent (i:=3) (s':=.pv (.int .i64 (Zii (l.take (i+1))))) rfl (.int (by rw [ZgH hil,Yb hyn]))
  obtain ⟨F,G⟩:=G.nM [7,6,2,3,8] [0]
  exact ⟨(i+1),F,⟨by omega,tv⟩,G,by omega⟩
 have hil:i=l.length:=by simp at hc0;omega
 refine Yz (Zh (Zh (Zr (Za (Ya (rZ G (qR rr (qO rr qZ)) Z [2] [0] fun G=>Yh ?_))))))
 refine Zv hfr G rfl rfl rfl (.int (by rw [hil,YD]))
theorem Zja (g:Zo) (id:Int) (hs:ZaN g.txs):FnP prog 80 [.agg (Zu g),.int .i64 id] (.tup [.agg (rTx ((ZJ g.txs id).getD zeroT)),.bool (Zjr g id)]):=by
 refine FnP.mk func80 rfl ntmps80 rfl fun B a w F Z hfr G=>Ya ?_
 refine Zb G (qx 101 r1 (qf (oH [.int .i64 0,.bool false,.slice none 0 0] 102) trivial qz qB)) Z [5,4,2,1] [102,101,0] (fun _=>rfl) (fun _=>rfl) fun τ a w F G=>?_
 try dsimp only [RS.sub,SF.sub,CF.sub,csub,Anc.sub,List.map,zCF,Zu,rTx,ZP,ZN,Zn,rOp] at G
 generalize τ 2=v2,τ 4=v4 at G
 refine Za (Ya (Zb G (qg 0 101 r1 r1 (qf (oL true 2 101 .adr) r1 r1 (qR rr (qf (oP (ZqK g id hs) func28 (Args.two (.pagg .t) .t)) r2 qz (qR rr (qf (Zi .t rfl) r1 qz (qf (Zi .t rfl) r1 qz (qf (oH [.int .i64 0,.bool false,.slice none 0 0] 103) trivial qz (qf (oA 3 103 .same (.conv .t .agg)) r2 r1 (qO rr qZ)))))))))) Z [7,6,5,4] [103,102,101,0] (fun _=>rfl) (fun _=>rfl) fun τ a w F G=>?_))
 try dsimp only [RS.sub,SF.sub,CF.sub,csub,Anc.sub,List.map,Ze,xL,xM,Nat.reduceAdd,xD,xE,xT,xU,xC,xN,zCF,ldSF,Zu,rTx,ZP,ZN,Zn,rOp] at G
 generalize τ 6=v6 at G
 refine Za (Ya (ZB G (qe 3 103 r1 r1 (qR rr (qR rr (qv 1 103 rfl r2 r1 (qw 103 rfl r2 r1 (qf (ZH .t .t) r2 qz (qs 3 102 r2 r1 (qO rr qZ)))))))) Z [5,4] [103,102,101,0] rfl rfl fun a w F G=>?_))
 try dsimp only [List.map,Ze,xL,xM,Nat.reduceAdd,xD,xE,xT,xU,xC,xN,zCF,ldSF,Zu,rTx,ZP,ZN,Zn,rOp] at G
 refine Za (Yh (Zae hfr G rfl (.cl 102 true 3 rfl rfl (.tmp rfl .nil)) (.two (.aggU rfl rfl) (.bool rfl))))
theorem ZoM (g:Zo) (v:Zbh) (hs:ZaN g.txs):FnP prog 84 [.agg (Zu g),.agg (ZN v)] (.bool (ZdU g v)):=by
 refine FnP.mk func84 rfl ntmps84 rfl fun B a w F Z hfr G=>Ya ?_
 refine Zb G (qx 101 r1 (qx 102 r1 qB)) Z [4,3,2] [102,101,0] (fun _=>rfl) (fun _=>rfl) fun τ a w F G=>?_
 try dsimp only [RS.sub,SF.sub,CF.sub,csub,Anc.sub,List.map,zCF,Zu,rTx,ZP,ZN,Zn,rOp] at G
 generalize τ 2=v2,τ 3=v3 at G
 refine Za (Ya (Ya (rZ G (qg 0 102 r1 r1 (qa 102 r1 r1 (qf (o_eql .t qi) r1 qz qZ))) Z [9,4,3,2] [102,101,0] fun G=>?_)))
 refine Zc G rfl (fun hc0=>?_) (fun hc0=>?_)
 ·have hg:true=ZdU g v:=by unfold ZdU;rw [Yw hc0];rfl
  refine Ya (rZ G qB Z [4,3,2] [102,101,0] fun G=>(Yh (Zl ?_)))
  refine Zv hfr G rfl rfl rfl (.bool hg)
 have hv0:v.tx≠0:=YG hc0
 have hg:(Zjr g v.tx && decide (v.nth=((((ZJ g.txs v.tx).getD zeroT).ops.filter fun o=>!o.read && decide (o.key=v.key)).length:Nat)))=ZdU g v:=by unfold ZdU;rw [YF hv0,Bool.false_or]
 refine Yf (Za (Ya (Zb G (qe 2 101 r1 r1 (qg 0 102 r1 r1 (qa 102 r1 r1 (qf (oP (Zja g v.tx hs) func80 (Args.two (.pagg .t) .t)) r2 qz (qR rr (qf (Zi .t rfl) r1 qz (qf (Zi .t rfl) r1 qz (qf (oH [.int .i64 0,.bool false,.slice none 0 0] 103) trivial qz (qf (oA 3 103 .same (.conv .t .agg)) r2 r1 (qO rr qZ)))))))))) Z [6,5,4,3] [103,102,101,0] (fun _=>rfl) (fun _=>rfl) fun τ a w F G=>?_)))
 try dsimp only [RS.sub,SF.sub,CF.sub,csub,Anc.sub,List.map,Ze,xL,xM,Nat.reduceAdd,xD,xE,xT,xU,xC,xN,zCF,ldSF,Zu,rTx,ZP,ZN,Zn,rOp] at G
 generalize τ 5=v5 at G
 refine Za (Ya (ZB G (qR rr (qR rr (qv 2 102 rfl r2 r1 (qw 102 rfl r2 r1 (qk rfl (fun h=>oL true 3 103 .is) r2 r1 (qv 1 102 rfl r2 r1 (qw 102 rfl r2 r1 (qk rfl (fun h=>oP (Zfg ((ZJ g.txs v.tx).getD zeroT) v.key (Zha hs _)) func29 (Args.two (.pagg (.w h)) (.w h))) r3 qz (qk rfl (fun h=>o_eql (.w h) (.w h)) r3 qz (qf (ZH .t .t) r2 qz (qO rr qZ))))))))))) Z [4] [103,102,101,0] rfl rfl fun a w F G=>?_))
 try dsimp only [List.map,xD,xE,xT,xU,ldSF,Zu,rTx,ZP,ZN,Zn,rOp] at G
 refine Za (Yh (Zv hfr G rfl rfl rfl (.bool hg)))
theorem Znl (g:Zo) (key u x:Int) (hs:ZbR g):FnP prog 81 [.agg (Zu g),.int .i64 key,.int .i64 u,.int .i64 x] (.bool (ZjB g key u x)):=by
 refine FnP.mk func81 rfl ntmps81 rfl fun B a w F Z hfr G=>Ya ?_
 refine Zb G (qx 101 r1 qB) Z [8,4,3,2,1] [101,0] (fun _=>rfl) (fun _=>rfl) fun τ a w F G=>?_
 try dsimp only [RS.sub,SF.sub,CF.sub,csub,Anc.sub,List.map,zCF,Zu,rTx,ZP,ZN,Zn,rOp] at G
 generalize τ 4=v4 at G
 refine Za (Ya (rZ G (qg 0 101 r1 r1 (qf (oL true 2 101 .adr) r1 r1 (qR rr (qf (oP (ZpL g key hs.2) func16 (Args.two (.pagg .t) .t)) r2 qz (qR rr (qf (oP (ZsG (getO g.orders key) u) func15 (Args.two .t .t)) r2 qz (qR rr (qf (Zi .t rfl) r1 qz (qf (Zi .t rfl) r1 qz (qO rr (qO rr qZ))))))))))) Z [10,9,8,3] [101,0] fun G=>Ya ?_))
 refine rZ G (qR rr (qR rr (qm rfl rfl rfl rfl (qm rfl rfl rfl rfl (qk rfl (fun h=>o_eql (.w h) (.w h)) r3 qz (qf (ZH .t .t) r2 qz (qO rr qZ))))))) Z [8] [101,0] fun G=>Yh ?_
 refine Zv hfr G rfl rfl rfl (.bool rfl)
def ZoR (u:Nat):List Int:=if h:u=0 then [] else ZoR (u / 10) ++ [((48+u % 10:Nat):Int)]
 termination_by u
 decreasing_by omega
def ZhF (u:Nat):List Int:=ZoR (u / 10) ++ [((48+u % 10:Nat):Int)]
theorem Zkf:ZoR 0 = []:=by unfold ZoR;simp
theorem Zk0 {u:Nat} (h:u≠0):ZoR u=ZhF u:=by unfold ZoR ZhF;simp [h]
def Zer (n:Int):List UInt8:=if n<0 then 45 :: (ZhF n.natAbs).map toB else (ZhF n.natAbs).map toB
structure Ze0 (u0 i u:Nat) (l:List Int):Prop where
 hl:l.length=20
 hi:i≤20
 hu:u<10 ^ i
 hb:u≤18446744073709551615
 ok:(i=20∧u=u0)∨(i<20∧ZoR u++l.drop i=ZhF u0)
theorem Ze0.start {u0:Nat} (h:u0≤18446744073709551615):Ze0 u0 20 u0 [0,0,0,0,0,0,0,0,0,0,0,0,0,0,0,0,0,0,0,0]:=⟨rfl,YO _,by omega,h,.inl ⟨rfl,rfl⟩⟩
theorem Ze0.pos {u0 i u:Nat} {l:List Int} (h:Ze0 u0 i u l) (hc:i=20∨0<u):1≤i:=by
 rcases hc with hc | hc
 ·omega
 ·rcases Nat.eq_zero_or_pos i with h0 | h0
  ·have:=h.hu;rw [h0] at this;omega
  ·exact h0
theorem Ze0.next {u0 i u:Nat} {l:List Int} (h:Ze0 u0 i u l) (hc:i=20∨0<u):Ze0 u0 (i - 1) (u / 10) (l.set (i - 1) ((48+u % 10:Nat):Int)):=by
 have h1:=h.pos hc
 have hi:=h.hi
 have hl:=h.hl
 have hd:(l.set (i - 1) ((48+u % 10:Nat):Int)).drop (i - 1)=((48+u % 10:Nat):Int) :: l.drop i:=by
  rw [List.drop_eq_getElem_cons (by rw [YU];omega),YbA,show i - 1+1=i by omega,List.drop_set_of_lt ow]
 refine ⟨by rw [YU];exact h.hl,by omega,?_,by have:=h.hb;omega,.inr ⟨by omega,?_⟩⟩
 ·have:=h.hu
  rw [show i=(i - 1)+1 by omega,Nat.pow_succ] at this
  omega
 ·rw [hd]
  have e:ZoR (u / 10)++((48+u % 10:Nat):Int) :: l.drop i=ZhF u++l.drop i:=by
   unfold ZhF;simp
  rw [e]
  rcases h.ok with ⟨h2,h3⟩ | ⟨h2,h3⟩
  ·rw [h2,h3,YaX ow];simp
  ·rw [← Zk0 ow];exact h3
theorem Ze0.done {u0 i u:Nat} {l:List Int} (h:Ze0 u0 i u l) (h1:i≠20) (h2:u=0):l.drop i=ZhF u0:=by
 rcases h.ok with ⟨h3,_⟩ | ⟨_,h3⟩
 ·exact absurd h3 h1
 ·rw [h2,Zkf] at h3;simpa using h3
theorem Zka (u:Nat) (hu:u≤18446744073709551615):FnP prog 122 [.int .u64 (u:Int)] (.bs ((ZhF u).map toB)):=by
 refine FnP.mk func122 rfl ntmps122 rfl fun B a w F Z hfr G=>Ya ?_
 refine rZ G (qf (oN (.cs kr)) trivial qz qZ) Z [2,0] [0] fun G=>Ya ?_
 refine Zb G (qf (oH [.int .u8 0,.int .u8 0,.int .u8 0,.int .u8 0,.int .u8 0,.int .u8 0,.int .u8 0,.int .u8 0,.int .u8 0,.int .u8 0,.int .u8 0,.int .u8 0,.int .u8 0,.int .u8 0,.int .u8 0,.int .u8 0,.int .u8 0,.int .u8 0,.int .u8 0,.int .u8 0] 101) trivial qz qZ) Z [3,2,0] [101,0] (fun _=>rfl) (fun _=>rfl) fun τ a w F G=>?_
 try dsimp only [RS.sub,SF.sub,CF.sub,csub,Anc.sub,List.map,zCF] at G
 generalize τ 3=v3 at G
 refine Za (Ya (rZ G (qI qZ) Z [4,3,2,0] [101,0] fun G=>(Ya (Yg ?_))))
 replace G:=G.turn 101 rfl (r':=.ob (.val v3) (Zmd 237 (fun x=>PV.int .u8 x) [0,0,0,0,0,0,0,0,0,0,0,0,0,0,0,0,0,0,0,0])) (fun τ w f y h=>Zhd (f:=(fun x=>PV.int .u8 x)) (l:=[0,0,0,0,0,0,0,0,0,0,0,0,0,0,0,0,0,0,0,0]) τ w f y h)
 obtain ⟨F,G⟩:=G.nM [4,3,0] [101,0]
 refine Za9 (σ:=(Nat×Nat×List Int)) (fun s=>(⟨[(0,.pv (.int .u64 s.2.1)),(3,.pv (.is v3)),(4,.pv (.int .i64 s.1))],[(0,frame B),(101,.ob (.val v3) (Zmd 237 (fun x=>PV.int .u8 x) s.2.2))]⟩:En)) (fun s=>Ze0 u s.1 s.2.1 s.2.2) (fun s=>s.1) (20,u,[0,0,0,0,0,0,0,0,0,0,0,0,0,0,0,0,0,0,0,0]) G (Ze0.start hu) ?_
 clear G;intro s a w F hC G
 obtain ⟨i,x,l⟩:=s
 try dsimp only at hC
 try dsimp only at G
 have hl:=hC.hl
 have hi:=hC.hi
 have hbx:=hC.hb
 try dsimp only at hl hi hbx
 refine Ya (Ya (rZ G (qR rr (qf (o_eql .t qi) r1 qz (qR rr (qm rfl rfl rfl rfl (qk rfl (fun h=>Za3 (.w h) qi) r2 qz (qf (Zaa .t .t) r2 qz qZ)))))) Z [10,4,3,0] [101,0] fun G=>?_))
 refine Zc G rfl (fun hc0=>?_) (fun hc0=>?_)
 ·have hcc:i=20∨0<x:=by simp only [YaN,Yp] at hc0;omega
  have hip:=hC.pos hcc
  try dsimp only at hip
  refine Yf (Za (Yg (Ya (Zg G (qR rr (qf (o_sub .t qi) r1 qz (qO rr qZ))) Z [4,3,0] [101,0] rfl rfl fun a w F G=>?_))))
  rw [show IntKind.wrap .i64 ((i:Int) - 1)=((i - 1:Nat):Int) by rw [Zz ow];omega] at G
  refine Za (Ya (Zg G (qR rr (qR rr (qf (o_rem .t qi (by decide)) r1 qz (qf (o_add qi .t) r1 qz (qf (Zat underlying5 kr .t) r1 qz (qf (ZbQ (sz:=1) 101 underlying237 kr .is .t ow ow) r2 r1 (qf (Zl6 101 .adr .t one_int kr (by rw [hl];omega)) r2 r1 qZ))))))) Z [4,3,0] [101,0] rfl rfl fun a w F G=>?_))
  rw [show 0+((i - 1:Nat):Int).toNat*1=i - 1 by omega] at G
  rw [show IntKind.wrap .u8 (IntKind.wrap .u64 (48+(x:Int).tmod 10))=((48+x % 10:Nat):Int) by rw [Zry,Zap,Int.tmod_eq_emod_of_nonneg ow];omega] at G
  refine Za (Zg G (qR rr (qf (ZtR .t qi (by decide)) r1 qz (qO rr qZ))) Z [4,3,0] [101,0] rfl rfl fun a w F G=>Zj (Za ?_))
  replace G:=G.ent (i:=0) (s':=.pv (.int .u64 ((x / 10:Nat):Int))) rfl (.int (by rw [Zap,Int.tdiv_eq_ediv_of_nonneg ow];omega))
  obtain ⟨F,G⟩:=G.nM [4,3,0] [101,0]
  exact ⟨(i - 1,x / 10,l.set (i - 1) ((48+x % 10:Nat):Int)),F,(hC.next hcc),G,by dsimp only;omega⟩
 have hcc:i≠20∧x=0:=by simp only [YbG,YA] at hc0;omega
 have hdd:=hC.done hcc.1 hcc.2
 refine Yz (Zh (Zh (Zr (Za (Ya ?_)))))
 replace G:=G.turn 101 rfl Zhz
 obtain ⟨F,G⟩:=G.giveRef 101 3 rfl rfl (Zkh _ _)
 rw [ZkF] at G
 obtain ⟨F,G⟩:=G.nM [10,4,3,0] [0]
 refine rZ G (qR rr (qf (ZjN (sz:=1) (R:=rB) (l:=l) underlying237 kr (by intro x;rfl) hl (by decide) .t .t ow ow) r2 qz (qf (o_conv_sl_bs underlying113 underlying5 Ycd .t) r1 qz (qO rr qZ)))) Z [2] [0] fun G=>Yh ?_
 refine Zv hfr G rfl rfl rfl (.bs (by rw [Yd,hdd]))
theorem Zkx:∀ (k u:Nat),u<10 ^ k→(ZoR u).length≤k
 | 0,u,h=>by
  have:u=0:=by simpa using h
  rw [this,Zkf];simp
 | k+1,u,h=>by
  by_cases h0:u=0
  ·rw [h0,Zkf];simp
  ·rw [Zk0 h0]
   unfold ZhF
   have:=Zkx k (u / 10) (by rw [Nat.pow_succ] at h;omega)
   rw [Yc]
   simp only [Yk,Yv]
   omega
theorem ZjW {u:Nat} (h:u≤18446744073709551615):(ZhF u).length≤20:=by
 have:=Zkx 19 (u / 10) ow
 unfold ZhF
 rw [Yc]
 simp only [Yk,Yv]
 omega
theorem Zhr {n:Int} (h : -9223372036854775808≤n∧n≤9223372036854775807):n.natAbs≤18446744073709551615:=by omega
structure Ztv (u0 i x:Nat) (l:List UInt8):Prop where
 hl:l.length=i
 hi:i≤20
 hx:x<10 ^ (20 - i)
 hb:x≤18446744073709551615
 ok:(i=0∧x=u0∧l = [])∨(0<i∧(ZoR x).map toB++l=(ZhF u0).map toB)
theorem Ztv.done {u0 i x:Nat} {l:List UInt8} (h:Ztv u0 i x l) (h1:i≠0) (h2:x=0):l=(ZhF u0).map toB:=by
 rcases h.ok with ⟨h3,_⟩ | ⟨_,h3⟩
 ·exact absurd h3 h1
 ·rw [h2,Zkf] at h3;simpa using h3
theorem ZiQ (n:Int):FnP prog 73 [.int .i64 n] (.bs (Zer n)):=by
 refine FnP.mk func73 rfl ntmps73 rfl fun B a w F Z hfr G=>?_
 have hn:=Zos (G.range (i:=0) rfl)
 have hz:=ZjW (Zhr hn)
 refine Ya (rZ G (qf (oN (.cs kr)) trivial qz qZ) Z [2,0] [0] fun G=>(Ya (Ya ?_)))
 refine rZ G (qR rr (qf (Zar .t qi) r1 qz qZ)) Z [4,2,0] [0] fun G=>?_
 refine Zc G rfl (fun hc0=>?_) (fun hc0=>?_)
 ·have hb:n<0:=Yw hc0
  have hu:IntKind.wrap .u64 (0 - IntKind.wrap .u64 n)=(n.natAbs:Int):=by rw [Zap,Zap];omega
  have hg:Zer n=45 :: (ZhF n.natAbs).map toB:=Ye hb
  refine Ya (rZ G (qR rr (qf (Zat Yce kr .t) r1 qz (qf (ZtY .t) r1 qz (qf (oP (Zka n.natAbs (Zhr hn)) func122 (Args.one (.conv .t (.int hu)))) r1 qz (qf (Zbl (.cs kr) .t (by simp only [Yk,Yv,YC];omega)) r1 qz (qO rr qZ)))))) Z [2,0] [0] fun G=>(Yh (Zl ?_)))
  refine Zv hfr G rfl rfl rfl (.bs (by rw [hg];try rfl))
 have hb:¬ n<0:=YG hc0
 have hu:IntKind.wrap .u64 n=(n.natAbs:Int):=by rw [Zap];omega
 have hg:Zer n=(ZhF n.natAbs).map toB:=Yb hb
 refine Yf (Za (Ya (rZ G (qR rr (qf (Zat Yce kr .t) r1 qz (qf (oP (Zka n.natAbs (Zhr hn)) func122 (Args.one (.conv .t (.int hu)))) r1 qz (qO rr qZ)))) Z [2] [0] fun G=>Yh ?_)))
 refine Zv hfr G rfl rfl rfl (.bs (by rw [hg];try rfl))
end Go.Proofs.YtlkpllemoepamaaGreat
