/- Texts put together. No condition beyond those that each theorem says. -/
import Derived.Test.YtlkpllemoepamaaGreatJ2
import Derived.Test.YtlkpllemoepamaaGreatLibE
import Derived.Test.YtlkpllemoepamaaGreatJ5
import Derived.Test.YtlkpllemoepamaaGreatJ1
import Derived.Test.YtlkpllemoepamaaGreatJ3
import Derived.Test.YtlkpllemoepamaaGreatJ0
import Derived.Test.YtlkpllemoepamaaGreatLibP
namespace Go.Proofs.YtlkpllemoepamaaGreat
open Go Go.Gm Tryz
set_option linter.unusedVariables false
set_option linter.unusedSimpArgs false
set_option maxHeartbeats 4000000
set_option maxRecDepth 8000
theorem cloneIP_c (l:List Int) (hl:l.length≤1000000):FnP prog 42 [.sl Zn l] (.sl Zn l):=by
 refine FnP.mk func42 rfl ntmps42 rfl fun B a w F V hfr G=>Ya ?_
 refine rZ G (qC qZ) V [2,0] [0] fun G=>(Ya (Ya ?_))
 refine Ze G (qR rr (qf (ZbG Ycd .t) r1 qz qZ)) V [4,2,0] [0] rfl rfl fun a w F G=>?_
 obtain ⟨β4,hβ4,G⟩:=G.pickBool 4 rfl
 obtain ⟨F,G⟩:=G.nM [4,2,0] [0]
 refine Za (Zc G rfl (fun hc0=>?_) (fun hc0=>?_))
 ·have hg:l = []:=hβ4 hc0
  refine Ya (rZ G (qC qZ) V [2,0] [0] fun G=>(Yh (Zk ?_)))
  refine Zs hfr G rfl rfl rfl (.trans .nilSl (.sl (by rw [hg])))
 have hg:l = [] ++ l:=rfl
 refine Ye (Za (Ya (Zb G (qf (Za6 (R:=Zn) (sz:=1) 101 Ycd kr) trivial qz (qR rr (qf (ZR (sz:=1) (bs:=8) 101 (.mk' Ycd kr kr) (by intro x;rfl) .same (.sl .t) (by simp only [Yd,Yy];omega) (by decide)) ⟨rfl,rfl,tv⟩ ⟨rfl,tv⟩ (qO rr qZ)))) V [2] [101,0] (fun _=>rfl) (fun _=>rfl) fun τ a w F G=>?_)))
 try dsimp only [RS.sub,SF.sub,CF.sub,csub,Anc.sub,List.map,Zf,xL,xM,Nat.reduceAdd,xD,xE,xT,xU,xC,xN,zCF,Zn] at G
 generalize τ 7=v7 at G
 refine Za (Yh ?_)
 obtain ⟨F,G⟩:=G.give 101 2 rfl rfl
 refine Zs hfr G rfl rfl rfl (.sl (by rw [hg]))
theorem Zue (g:Zr) (hs:Za9 g):FnG prog 60 1 [.agg (Zw g)] [.star []] (PV.self Zvv) (fun v=>[Zui (Zy 30 3 rTx g.txs) (Zy 70 2 ZJ g.orders) v]):=by
 refine FnG.mk func60 rfl ntmps60 rfl kr fun B F0 a w F V hG G=>?_
 have hsl:=hs.1.1
 have hso:=hs.2.1
 obtain ⟨F,G⟩:=G.nM [0] [0]
 refine Ya (Zb G (qx 101 r1 (qf (oH [.slice none 0 0,.slice none 0 0] 102) trivial qz qZ)) V [2,1] [102,101,0] (fun _=>rfl) (fun _=>rfl) fun τ a w F G=>?_)
 try dsimp only [RS.sub,SF.sub,CF.sub,csub,Anc.sub,List.map,zCF,Zw,rTx,ZJ,ZT,Zn,rOp] at G
 generalize τ 1=v1,τ 2=v2 at G
 refine Za (Ya (Zb G (qf (oH [.slice none 0 0,.slice none 0 0] 103) trivial qz qZ) V [3,2,1] [103,102,101,0] (fun _=>rfl) (fun _=>rfl) fun τ a w F G=>?_))
 try dsimp only [RS.sub,SF.sub,CF.sub,csub,Anc.sub,List.map,zCF,Zw,rTx,ZJ,ZT,Zn,rOp] at G
 generalize τ 3=v3 at G
 refine Za (Ya (Ya (rZ G (qg 0 101 r1 r1 (qa 101 r1 r1 (qu Ycg r1 (qJ qZ)))) V [11,10,9,3,2,1] [103,102,101,0] fun G=>Yg ?_)))
 replace G:=G.fresh 50 rfl
 replace G:=G.turn 50 rfl (ZaE (T:=30) (sz:=3) (R:=rTx))
 refine Zl (σ:=(Nat)×(Value)×(List TxD)) [1,2,3,9,10] [0,101,102] (fun s=>[(11,.pv (.int .i64 (s.1:Int)))]) (fun s=>[(103,.pt (.val v3) 25 [.pv (.is s.2.1),.pv (.is (.slice none 0 0))]),(50,.ob (.val s.2.1) (Zy 30 3 rTx s.2.2))]) (fun s=>s.1≤g.txs.length∧(s.2.2=g.txs.take s.1)) (fun s=>g.txs.length - s.1) ((0),(.slice none 0 0),([])) G ⟨rfl,rfl,rfl,rfl,rfl,rfl,tv⟩ ⟨rfl,rfl,rfl,rfl,rfl,tv⟩ ⟨Yx _,rfl⟩ ?_
 clear G;intro s a w F hC G
 obtain ⟨i,va,oa⟩:=s
 try dsimp only at hC
 obtain ⟨F,G⟩:=G.nM [11,10,9,3,2,1] [103,102,101,50,0]
 try dsimp only at G
 obtain ⟨hi,hq⟩:=hC
 have hol:oa.length≤i:=by rw [hq,Yi];omega
 refine Ya (rZ G (qL r2) V [12,11,10,9,3,2,1] [103,102,101,50,0] fun G=>Ya ?_)
 refine Zc G rfl (fun hc0=>?_) (fun hc0=>?_)
 ·have hil:i<g.txs.length:=by simp at hc0;omega
  have hio:=hil
  refine Ye (Za (Ya (Yg (Ya (Zb G (qy 3 Ycg r2 (qf (oR true 3 .t) r1 qz (qf (oH [.int .i64 0,.bool false,.slice none 0 0] 104) trivial qz (qS 3 104 r2 r1 qZ)))) V [11,10,9,5,3,2,1] [104,103,102,101,50,0] (fun _=>rfl) (fun _=>rfl) fun τ a w F G=>?_)))))
  try dsimp only [RS.sub,SF.sub,CF.sub,csub,Anc.sub,List.map,Zf,xL,xM,Nat.reduceAdd,xD,xE,xT,xU,xC,xN,zCF,ldSF,Zw,rTx,ZJ,ZT,Zn,rOp] at G
  generalize τ 5=v5 at G
  try simp only [Yb] at G
  refine Za (ZaD G (qg 0 103 r1 r1 (qa 103 r1 r1 (qe 3 104 r1 r1 (qf (oP (Zhw (Nn g.txs i) (by have:=hs.1.at hio;omega)) func62 (Args.one (.pagg .t))) r1 qz (qf (o_buildSliceE (sz:=3) (zs:=[.int .i64 0,.bool false,.slice none 0 0]) (r:=[(0,.tmp 18)]) (l:=[_,_,_]) Ycg kr kr kr kr rfl rfl (.agg rfl (.conv .t .agg) kr kr .nil) rfl) r1 qz (qf (ZR (sz:=3) (bs:=40) 50 (.mk' Ycg kr kr) (by intro x;rfl) .is (.arr (l':=[(Nn g.txs i)]) .t) (by simp only [Yd,Yl,Yy];omega) (by decide)) ⟨rfl,rfl,tv⟩ ⟨rfl,tv⟩ (qg 0 103 r1 r1 (qf (o_storeS 103 .adr kr kr) r2 r1 qZ)))))))) V [11,10,9,3,2,1] [104,103,102,101,50,0] (fun _=>rfl) (fun _=>rfl) fun τ a w F G=>?_)
  try dsimp only [RS.sub,SF.sub,CF.sub,csub,Anc.sub,List.map,Zf,xL,xM,Nat.reduceAdd,xD,xE,xT,xU,xC,xN,zCF,ldSF,Zw,rTx,ZJ,ZT,Zn,rOp] at G
  generalize τ 20=v20 at G
  refine Zi (Za (rZ G (qp r1 (qR rr qZ)) V [11,10,9,3,2,1] [104,103,102,101,50,0] fun G=>?_))
  replace G:=G.ent (i:=11) (s':=.pv (.int .i64 ((i+1:Nat):Int))) rfl (.int (Zd ow))
  obtain ⟨F,G⟩:=G.nM [10,9,3,2,1,11] [102,101,0,50,103]
  exact ⟨((i+1),_,_),F,⟨by omega,(by rw [Zp hil,← hq])⟩,G,by omega⟩
 have hil:i=g.txs.length:=by simp at hc0;omega
 have hqa:oa=g.txs:=by rw [hq,hil,YA]
 subst hqa
 refine Yw (Zj (Zj (Zo (Za (Ya (Ya (rZ G (qg 1 101 r1 r1 (qa 101 r1 r1 (qu Ycf r1 (qJ qZ)))) V [26,25,24,3,2] [103,102,101,50,0] fun G=>Yg ?_)))))))
 replace G:=G.fresh 51 rfl
 replace G:=G.turn 51 rfl (ZaE (T:=70) (sz:=2) (R:=ZJ))
 refine Zl (σ:=(Nat)×(Value)×(List OrdD)) [2,3,24,25] [0,50,101,102] (fun s=>[(26,.pv (.int .i64 (s.1:Int)))]) (fun s=>[(103,.pt (.val v3) 25 [.pv (.is va),.pv (.is s.2.1)]),(51,.ob (.val s.2.1) (Zy 70 2 ZJ s.2.2))]) (fun s=>s.1≤g.orders.length∧(s.2.2=g.orders.take s.1)) (fun s=>g.orders.length - s.1) ((0),(.slice none 0 0),([])) G ⟨rfl,rfl,rfl,rfl,rfl,tv⟩ ⟨rfl,rfl,rfl,rfl,rfl,rfl,tv⟩ ⟨Yx _,rfl⟩ ?_
 clear G;intro s a w F hC G
 obtain ⟨i,vb,ob⟩:=s
 try dsimp only at hC
 obtain ⟨F,G⟩:=G.nM [26,25,24,3,2] [103,102,101,51,50,0]
 try dsimp only at G
 obtain ⟨hi,hq⟩:=hC
 have hol:ob.length≤i:=by rw [hq,Yi];omega
 refine Ya (rZ G (qL r2) V [27,26,25,24,3,2] [103,102,101,51,50,0] fun G=>Ya ?_)
 refine Zc G rfl (fun hc1=>?_) (fun hc1=>?_)
 ·have hil:i<g.orders.length:=by simp at hc1;omega
  have hio:=hil
  refine Ye (Za (Ya (Yg (Ya (Zb G (qy 2 Ycf r2 (qf (oR true 2 .t) r1 qz (qf (oH [.int .i64 0,.slice none 0 0] 105) trivial qz (qS 2 105 r2 r1 qZ)))) V [26,25,24,7,3,2] [105,103,102,101,51,50,0] (fun _=>rfl) (fun _=>rfl) fun τ a w F G=>?_)))))
  try dsimp only [RS.sub,SF.sub,CF.sub,csub,Anc.sub,List.map,Zf,xL,xM,Nat.reduceAdd,xD,xE,xT,xU,xC,xN,zCF,ldSF,Zw,rTx,ZJ,ZT,Zn,rOp] at G
  generalize τ 7=v7 at G
  try simp only [Yb] at G
  refine Za (ZaD G (qg 1 103 r1 r1 (qa 103 r1 r1 (qg 0 105 r1 r1 (qa 105 r1 r1 (qg 1 105 r1 r1 (qa 105 r1 r1 (qf (oP (cloneIP_c (Nn g.orders i).txs (by have:=hs.2.at hio;omega)) func42 (Args.one .t)) r1 qz (qf (oB [(0,.tmp 33),(1,.tmp 36)] [.int .i64 0,.slice none 0 0] [(0,1),(1,1)] (.one rfl .t one_int kr (.one rfl .t one_sl kr .nil))) r2 qz (qf (o_buildSliceE (sz:=2) (zs:=[.int .i64 0,.slice none 0 0]) (r:=[(0,.tmp 37)]) (l:=[_,_]) Ycf kr kr kr kr rfl rfl (.agg rfl .t kr kr .nil) rfl) r1 qz (qf (ZR (sz:=2) (bs:=32) 51 (.mk' Ycf kr kr) (by intro x;rfl) .is (.arr (l':=[(Nn g.orders i)]) .t) (by simp only [Yd,Yl,Yy];omega) (by decide)) ⟨rfl,rfl,tv⟩ ⟨rfl,tv⟩ (qg 1 103 r1 r1 (qf (o_storeS 103 .adr kr kr) r2 r1 qZ)))))))))))) V [26,25,24,3,2] [105,103,102,101,51,50,0] (fun _=>rfl) (fun _=>rfl) fun τ a w F G=>?_)
  try dsimp only [RS.sub,SF.sub,CF.sub,csub,Anc.sub,List.map,Zf,xL,xM,Nat.reduceAdd,xD,xE,xT,xU,xC,xN,zCF,ldSF,Zw,rTx,ZJ,ZT,Zn,rOp] at G
  generalize τ 39=v39 at G
  refine Zi (Za (rZ G (qp r1 (qR rr qZ)) V [26,25,24,3,2] [105,103,102,101,51,50,0] fun G=>?_))
  replace G:=G.ent (i:=26) (s':=.pv (.int .i64 ((i+1:Nat):Int))) rfl (.int (Zd ow))
  obtain ⟨F,G⟩:=G.nM [25,24,3,2,26] [102,101,50,0,51,103]
  exact ⟨((i+1),_,_),F,⟨by omega,(by rw [Zp hil,← hq])⟩,G,by omega⟩
 have hil:i=g.orders.length:=by simp at hc1;omega
 have hqb:ob=g.orders:=by rw [hq,hil,YA]
 subst hqb
 refine Yw (Zj (Zj (Zo (Za (Ya (rZ G (qe 2 103 r1 r1 (qs 2 102 r2 r1 qZ)) V [2] [103,102,101,51,50,0] fun G=>Yh ?_))))))
 have G:=G.fresh 1 rfl
 obtain ⟨F,G⟩:=G.push 1 51 rfl rfl rfl rfl
 obtain ⟨F,G⟩:=G.push 1 50 rfl rfl rfl rfl
 refine ZuU hG G rfl (.cl 102 true 2 rfl rfl .nil) (.one (.aggU rfl rfl)) rfl
def ZeY (os:List OrdD) (k:Int):List OrdD:=if isK OrdD.key k os=true then os else os.take (lowK OrdD.key k os) ++ [⟨k,[]⟩] ++ os.drop (lowK OrdD.key k os)
def ZjV (k:Int):List OrdD→List OrdD
 | []=>[⟨k,[]⟩]
 | o :: os=>if o.key<k then o :: ZjV k os else if o.key=k then o :: os else ⟨k,[]⟩ :: o :: os
theorem ZhD {α:Type} {κ:α→Int} {k:Int} (l:List α):lowK κ k l≤l.length:=by
 unfold lowK
 exact (List.takeWhile_sublist _).length_le
theorem ZS {α:Type} [Inhabited α] {κ:α→Int} {l:List α} : Zcq κ l ↔ l.Pairwise fun a b=>κ a<κ b:=by
 rw [YaL]
 constructor
 ·intro h i j hi hj hij
  have:=h i j hij hj
  rwa [nth_eq hi,nth_eq hj] at this
 ·intro h a b hab hb
  rw [nth_eq ow,nth_eq hb]
  exact h a b ow hb hab
theorem ZhH (k:Int):∀ {os:List OrdD},Zcq OrdD.key os→ZeY os k=ZjV k os
 | [],_=>rfl
 | o :: os,h=>by
  rw [ZS,Yo] at h
  have ih:=ZhH k (os:=os) (ZS.2 h.2)
  have e1:lowK OrdD.key k (o :: os)=if o.key<k then lowK OrdD.key k os+1 else 0:=by
   unfold lowK
   split
   ·rename_i h1
    rw [Ybo (by simpa using h1),Yl]
   ·rename_i h1
    rw [List.takeWhile_cons_of_neg (by simpa using h1)];rfl
  have e2:isK OrdD.key k (o :: os)=(decide (o.key=k) || isK OrdD.key k os):=by unfold isK;rw [YbQ]
  by_cases h1:o.key<k
  ·rw [Yf h1] at e1
   have e3:isK OrdD.key k (o :: os)=isK OrdD.key k os:=by rw [e2,YF ow,YbI]
   unfold ZeY at ih ⊢
   unfold ZjV
   rw [Yf h1,e3,e1]
   split
   ·rename_i h2;rw [Yf h2] at ih;exact Y4 (o :: ·) ih
   ·rename_i h2;rw [Yc h2] at ih;rw [← ih];simp
  ·rw [Yc h1] at e1
   unfold ZeY ZjV
   rw [Yc h1,e1]
   by_cases h3:o.key=k
   ·rw [Yf h3,Yf (by rw [e2,Yag h3,Yb0])]
   ·rw [Yc h3,Yc]
    ·simp
    ·rw [e2,YF h3,YbI]
     unfold isK
     rw [Yaz]
     rintro ⟨x,hx,hk⟩
     have:=h.1 x hx
     simp at hk
     omega
theorem Zmb {k:Int} {o:OrdD} : ∀ {os:List OrdD},o ∈ ZjV k os→o ∈ os∨o = ⟨k,[]⟩
 | [],h=>by simp [ZjV] at h;exact .inr h
 | x :: os,h=>by
  unfold ZjV at h
  split at h
  ·rcases Yj.1 h with h | h
   ·exact .inl (by simp [h])
   ·rcases Zmb h with h | h
    ·exact .inl (by simp [h])
    ·exact .inr h
  ·split at h
   ·exact .inl h
   ·rcases Yj.1 h with h | h
    ·exact .inr h
    ·exact .inl h
theorem ZjL {k:Int} : ∀ {os:List OrdD},(os.Pairwise fun a b=>a.key<b.key)→(ZjV k os).Pairwise fun a b=>a.key<b.key
 | [],_=>by simp [ZjV]
 | x :: os,h=>by
  rw [Yo] at h
  unfold ZjV
  split
  ·rename_i h1
   rw [Yo]
   refine ⟨fun o ho=>?_,ZjL h.2⟩
   rcases Zmb ho with h3 | h3
   ·exact h.1 o h3
   ·rw [h3];exact h1
  ·split
   ·rw [Yo];exact h
   ·rw [Yo,Yo]
    refine ⟨fun o ho=>?_,h⟩
    rcases Yj.1 ho with h3 | h3
    ·rw [h3];show k<x.key;omega
    ·have:=h.1 o h3;show k<o.key;omega
theorem insK_rise {os:List OrdD} (k:Int) (h:Zcq OrdD.key os):Zcq OrdD.key (ZeY os k):=by
 rw [ZhH k h,ZS]
 exact ZjL (ZS.1 h)
theorem Zlc (os:List OrdD) (k:Int):(ZeY os k).length≤os.length+1:=by
 unfold ZeY
 split
 ·omega
 ·rw [Yd,Yd,Yi,YE];simp;omega
theorem Zmc {os:List OrdD} {k:Int} {o:OrdD} (h:o ∈ ZeY os k):o ∈ os∨o = ⟨k,[]⟩:=by
 unfold ZeY at h
 split at h
 ·exact .inl h
 ·rw [Yz,Yz] at h
  rcases h with (h | h) | h
  ·exact .inl (Yak h)
  ·exact .inr (by simpa using h)
  ·exact .inl (Ya1 h)
def ZdD (t:TxD) (os:List OrdD) (ks:List Int):List OrdD:=if t.done=true then ks.foldl ZeY os else os
theorem ZgQ {t:TxD} {os:List OrdD} (h:Zcq OrdD.key os) (hs:Zdz os) (ks:List Int):Zcq OrdD.key (ZdD t os ks)∧(ZdD t os ks).length≤os.length+ks.length ∧ ∀ o ∈ ZdD t os ks,o.txs.length≤1000:=by
 unfold ZdD
 split
 ·have key:∀ (ks:List Int) (os:List OrdD),Zcq OrdD.key os→(∀ o ∈ os,o.txs.length≤1000)→Zcq OrdD.key (ks.foldl ZeY os)∧(ks.foldl ZeY os).length≤os.length+ks.length ∧ ∀ o ∈ ks.foldl ZeY os,o.txs.length≤1000:=by
   intro ks
   induction ks with
   | nil=>intro os h1 h2;exact ⟨h1,by simp,h2⟩
   | cons k ks ih=>
    intro os h1 h2
    obtain ⟨g1,g2,g3⟩:=ih (ZeY os k) (insK_rise k h1) (fun o ho=>by
     rcases Zmc ho with h | h
     ·exact h2 o h
     ·rw [h];simp)
    have:=Zlc os k
    exact ⟨g1,by rw [Yan,Yl];omega,g3⟩
  exact key ks os h hs.2
 ·exact ⟨h,by omega,hs.2⟩
theorem ZpC {t:TxD} {os:List OrdD} {ks:List Int} {i:Nat} (hi:i<ks.length) (hc:t.done=true∧isK OrdD.key (Nn ks i) (ZdD t os (ks.take i))=false) :
  (ZdD t os (ks.take i)).take (lowK OrdD.key (Nn ks i) (ZdD t os (ks.take i))) ++ [⟨Nn ks i,[]⟩] ++ (ZdD t os (ks.take i)).drop (lowK OrdD.key (Nn ks i) (ZdD t os (ks.take i)))=ZdD t os (ks.take (i+1)):=by
 have e:ZdD t os (ks.take (i+1))=ZeY (ZdD t os (ks.take i)) (Nn ks i):=by
  unfold ZdD
  rw [Yf hc.1,Yf hc.1,Zp hi,Yat];rfl
 rw [e];unfold ZeY;rw [Yc (by rw [hc.2];simp)]
theorem Zp9 {t:TxD} {os:List OrdD} {ks:List Int} {i:Nat} (hi:i<ks.length) (hc:¬ (t.done=true∧isK OrdD.key (Nn ks i) (ZdD t os (ks.take i))=false)):ZdD t os (ks.take i)=ZdD t os (ks.take (i+1)):=by
 unfold ZdD at hc ⊢
 by_cases hd:t.done=true
 ·rw [Yf hd] at hc
  rw [Yf hd,Yf hd,Zp hi,Yat]
  have hx:∀ X k,isK OrdD.key k X=true→ZeY X k=X:=fun X k h=>by unfold ZeY;rw [Yf h]
  show _=ZeY _ _
  rw [hx]
  cases h:isK OrdD.key (Nn ks i) ((ks.take i).foldl ZeY os) with
  | true=>rfl
  | false=>exact absurd ⟨hd,h⟩ hc
 ·rw [Yc hd,Yc hd]
def ZkG (t:TxD) (o:OrdD):OrdD:=⟨o.key,if t.done=true∧0<wcnt t.ops o.key then withO o.txs t.id else withoutO o.txs t.id⟩
def settleO (t:TxD) (os:List OrdD):List OrdD:=((ZdD t os (Zaa t)).map (ZkG t)).filter fun o=>!decide (o.txs = [])
theorem Zvg {α:Type} [Inhabited α] {f:α→α} {l l2:List α} {i:Nat} (hi:i<l.length) (h:l2=(l.take i).map f++l.drop i):Nn l2 i=Nn l i∧l2.length=l.length:=by
 have h2:l2.length=l.length:=by rw [h,Yd,YH,Yi,YE];omega
 refine ⟨?_,h2⟩
 rw [nth_eq ow,nth_eq hi]
 subst h
 rw [List.getElem_append_right (by rw [YH,Yi];omega)]
 simp only [YH,Yi,List.getElem_drop]
 congr 1
 omega
theorem Ztg {α:Type} [Inhabited α] {f:α→α} {l l2:List α} {i:Nat} (hi:i<l.length) (h:l2=(l.take i).map f++l.drop i):l2.set i (f (Nn l i))=(l.take (i+1)).map f++l.drop (i+1):=by
 have hd:l.drop i=Nn l i :: l.drop (i+1):=by rw [nth_eq hi];exact Ya8 hi
 rw [h,Zp hi,YQ,YN,List.set_append_right _ _ (by rw [YH,Yi];omega)]
 congr 1
 have:i - ((l.take i).map f).length=0:=by rw [YH,Yi];omega
 rw [this,hd];rfl
abbrev Zsc (T TR:TypeId) (p va:Value) (os:List OrdD):HP:=HP.ex fun vb:Value=>HP.star [.pt (.val p) T [.pv (.is va),.pv (.is vb)],.ob (.val vb) (Zy TR 2 ZJ os)]
theorem Zoq {k:IntKind} {a:Int} {b:Bool} (v:Value) (w:World) (y y':Ys) (h:(PV.tup [.int k a,.bool b]).p v w y):(PV.tup [.int k a,.bool b]).p v w y':=by
 obtain ⟨vs,e,h⟩:=h
 match vs,h with
 | [_,_],h=>exact ⟨_,e,h⟩
theorem Zu9 {α:Type} {R:α→List PV} {l:List PV} {l':List α} (h:Nat.ble l'.length maxLen=true) (e:Zeq l (l'.flatMap R)):Ent (.pv (.arr l'.length l)) (.pv (.sl R l')):=fun _ w y v k=>Zis.arrSl h e v w y k
theorem ZnJ (o:OrdD):FnP prog 107 [.agg (ZJ o)] (.bool (decide (o.txs = []))):=by
 refine FnP.mk func107 rfl ntmps107 rfl fun B a w F V hfr G=>Ya ?_
 refine Zb G (qx 101 r1 qB) V [2,1] [101,0] (fun _=>rfl) (fun _=>rfl) fun τ a w F G=>?_
 try dsimp only [RS.sub,SF.sub,CF.sub,csub,Anc.sub,List.map,zCF,ZJ,Zn] at G
 generalize τ 1=v1 at G
 refine Za (Ya (rZ G (qg 1 101 r1 r1 (qa 101 r1 r1 (qu Ycd r1 (qf (o_eql .t qi) r1 qz (qO rr qZ))))) V [2] [0] fun G=>Yh ?_))
 refine Zs hfr G rfl rfl rfl (.bool (by rw [Yai];simp))
theorem Zqz (p va:Value) (os:List OrdD) (t:TxD) (hs:Zdz os) (hr:Zcq OrdD.key os) (ht:t.ops.length≤1000):FnG prog 63 1 [.is p,.agg (rTx t)] [Zsc 25 70 p va os] (.tup []) (fun _=>[Zsc 25 70 p va (settleO t os)]):=by
 refine FnG.mk func63 rfl ntmps63 rfl kr fun B F0 a w F V hG G=>?_
 have hso:=hs.1
 have hkl:=Zd5 t
 replace G:=G.turn 1 rfl (r':=RS.hp (HP.ex fun vb:Value=>HP.star [.pt (.val p) 25 [.pv (.is va),.pv (.is vb)],.ob (.val vb) (Zy 70 2 ZJ os)])) (fun _ _ _ _ h=>h)
 obtain ⟨vb0,G⟩:=G.open_ex 1 rfl
 obtain ⟨F,G⟩:=G.peel 1 61 rfl rfl
 obtain ⟨F,G⟩:=G.peel 1 62 rfl rfl
 obtain ⟨F,G⟩:=G.nM [1,0] [62,61,1,0]
 refine Ya (Zb G (qx 101 r1 qZ) V [3,0] [101,62,61,1,0] (fun _=>rfl) (fun _=>rfl) fun τ a w F G=>?_)
 try dsimp only [RS.sub,SF.sub,CF.sub,csub,Anc.sub,List.map,zCF,Zw,rTx,ZJ,ZT,Zn,rOp] at G
 generalize τ 3=v3 at G
 refine Za (Ya (Ya (Ze G (qe 3 101 r1 r1 (qf (oP (ZnX t ow) func91 (Args.one (.pagg .t))) r1 qz (qu Ycd r1 (qJ qZ)))) V [13,12,11,3,0] [101,62,61,1,0] rfl rfl fun a w F G=>?_)))
 rw [show Zbr ((t.ops.filter fun o=>!o.read).map OpD.key)=Zaa t from rfl] at G
 refine Za (Yg (Zl (σ:=(Nat)×(Value)×(List OrdD)) [0,3,11,12] [0,1,101] (fun s=>[(13,.pv (.int .i64 (s.1:Int)))]) (fun s=>[(61,.pt (.val p) 25 [.pv (.is va),.pv (.is s.2.1)]),(62,.ob (.val s.2.1) (Zy 70 2 ZJ s.2.2))]) (fun s=>s.1≤(Zaa t).length∧(s.2.2=ZdD t os ((Zaa t).take s.1))) (fun s=>(Zaa t).length - s.1) ((0),(vb0),(os)) G ⟨rfl,rfl,rfl,rfl,rfl,tv⟩ ⟨rfl,rfl,rfl,rfl,rfl,tv⟩ ⟨Yx _,(by unfold ZdD;split <;> rfl)⟩ ?_))
 clear G;intro s a w F hC G
 obtain ⟨i,vb,ol⟩:=s
 try dsimp only at hC
 obtain ⟨F,G⟩:=G.nM [13,12,11,3,0] [101,62,61,1,0]
 try dsimp only at G
 obtain ⟨hi,hq⟩:=hC
 obtain ⟨hf1,hf2,hf3⟩:=ZgQ (t:=t) hr hs ((Zaa t).take i)
 rw [Yi,← hq] at hf2
 rw [← hq] at hf1 hf3
 have hst:=fun h=>ZpC (t:=t) (os:=os) (ks:=(Zaa t)) (i:=i) h
 have hsk:=fun h=>Zp9 (t:=t) (os:=os) (ks:=(Zaa t)) (i:=i) h
 rw [← hq] at hst hsk
 have hlk:=ZhD (κ:=OrdD.key) (k:=(Nn (Zaa t) i)) ol
 refine Ya (rZ G (qL r2) V [14,13,12,11,3,0] [101,62,61,1,0] fun G=>Ya ?_)
 refine Zc G rfl (fun hc0=>?_) (fun hc0=>?_)
 ·have hil:i<(Zaa t).length:=by simp at hc0;omega
  have hio:=hil
  refine Ye (Za (Ya (Yg (Ya (Ze G (qy 1 Ycd r2 (qf (oR false 1 .t) r1 qz (qO rr qZ))) V [13,12,11,5,3,0] [101,62,61,1,0] rfl rfl fun a w F G=>?_)))))
  try simp only [Yb] at G
  refine Za (Ya (rZ G (qR rr (qf (o_nilCheck 61 .is (by rfl)) r1 r1 (qf (oF 1 61 .adr) r1 r1 (qa 61 r1 r1 (qR rr (qf (OpC.lendRow 62 [21] (oP (Zv9 ol (Nn (Zaa t) i) ow hf1 98 f98 [] func98 rfl kr (fun x=>Ztm x (Nn (Zaa t) i))) func97 (Args.three .t .t (.conv .f (Ent.fnClos)))) ⟨rfl,tv,tv⟩ (.pv Zoq) trivial (by rfl)) r2 r1 (qR rr (qf (Zh .t rfl) r1 qz (qf (Zh .t rfl) r1 qz (qO rr (qO rr qZ))))))))))) V [13,12,11,7,6,5,3,0] [101,62,61,1,0] fun G=>Ya ?_))
  refine rZ G (qg 1 101 r1 r1 (qa 101 r1 r1 (qR rr (qm rfl rfl rfl rfl (qk rfl (fun h=>o_not (.w h)) r2 qz (qf (ZE .t .t) r2 qz qZ)))))) V [31,13,12,11,6,5,3,0] [101,62,61,1,0] fun G=>?_
  refine Zc G rfl (fun hc1=>?_) (fun hc1=>?_)
  ·have hq9:=hst hio (by simpa using hc1)
   refine Zb G (qR rr (qR rr (qf (o_nilCheck 61 .is (by rfl)) r1 r1 (qf (oF 1 61 .adr) r1 r1 (qa 61 r1 r1 (qR rr (qR rr (qf (oB [(0,.tmp 38)] [.int .i64 0,.slice none 0 0] [(0,1),(1,1)] (.one rfl .t one_int kr .nil)) r1 qz (qf (o_buildSliceE (sz:=2) (zs:=[.int .i64 0,.slice none 0 0]) (r:=[(0,.tmp 39)]) (l:=[_,_]) Ycf kr kr kr kr rfl rfl (.agg rfl .t kr kr .nil) rfl) r1 qz (qf (o_callRowN 62 (Zvt vb ol (lowK OrdD.key (Nn (Zaa t) i) ol) ⟨(Nn (Zaa t) i),[]⟩ ow hlk) func103 rfl kr (Args.three .t .t (.conv .t (Zu9 (l:=[.int .i64 (Nn (Zaa t) i),.is (.slice none 0 0)]) (R:=ZJ) (l':=[⟨(Nn (Zaa t) i),[]⟩]) rfl ⟨Zis.refl,Zis.nilSl,tv⟩))) pvOne1) r3 r1 (qf (o_nilCheck 61 .is (by rfl)) r1 r1 (qf (oF 1 61 .adr) r1 r1 (qf (o_storeS 61 .adr kr kr) r2 r1 qZ))))))))))))) V [13,12,11,3,0] [101,62,61,1,0] (fun _=>rfl) (fun _=>rfl) fun τ a w F G=>?_
   try dsimp only [RS.sub,SF.sub,CF.sub,csub,Anc.sub,List.map,Zf,xL,xM,Nat.reduceAdd,xD,xE,xT,xU,xC,xN,zCF,ldSF,Zw,rTx,ZJ,ZT,Zn,rOp] at G
   generalize τ 41=v41 at G
   refine Zi (Za (rZ G (qp r1 (qR rr qZ)) V [13,12,11,3,0] [101,62,61,1,0] fun G=>?_))
   replace G:=G.ent (i:=13) (s':=.pv (.int .i64 ((i+1:Nat):Int))) rfl (.int (Zd ow))
   obtain ⟨F,G⟩:=G.nM [12,11,3,0,13] [101,1,0,62,61]
   exact ⟨((i+1),_,_),F,⟨by omega,hq9⟩,G,by omega⟩
  have hq9:=hsk hio (by intro e;simp [e.1,e.2] at hc1)
  refine Ye (Zi (Za (rZ G (qp r1 (qR rr qZ)) V [13,12,11,3,0] [101,62,61,1,0] fun G=>?_)))
  replace G:=G.ent (i:=13) (s':=.pv (.int .i64 ((i+1:Nat):Int))) rfl (.int (Zd ow))
  obtain ⟨F,G⟩:=G.nM [12,11,3,0,13] [101,1,0,62,61]
  exact ⟨((i+1),_,_),F,⟨by omega,hq9⟩,G,by omega⟩
 have hil:i=(Zaa t).length:=by simp at hc0;omega
 have hq0:ol=ZdD t os (Zaa t):=by rw [hq,hil,YA]
 refine Yw (Zj (Zj (Zo (Za (Ya (Ya (rZ G (qR rr (qf (o_nilCheck 61 .is (by rfl)) r1 r1 (qf (oF 1 61 .adr) r1 r1 (qa 61 r1 r1 (qf (ZU 62 Ycf .is) r1 r1 (qJ qZ)))))) V [50,49,3,0] [101,62,61,1,0] fun G=>Yg ?_)))))))
 refine Zl (σ:=(Nat)×(List OrdD)) [0,3,49] [0,1,61,101] (fun s=>[(50,.pv (.int .i64 (s.1:Int)))]) (fun s=>[(62,.ob (.val vb) (Zy 70 2 ZJ s.2))]) (fun s=>s.1≤ol.length∧(s.2=(ol.take s.1).map (ZkG t)++ol.drop s.1)) (fun s=>ol.length - s.1) ((0),(ol)) G ⟨rfl,rfl,rfl,rfl,tv⟩ ⟨rfl,rfl,rfl,rfl,rfl,tv⟩ ⟨Yx _,(by simp)⟩ ?_
 clear G;intro s a w F hC G
 obtain ⟨i,o2⟩:=s
 try dsimp only at hC
 obtain ⟨F,G⟩:=G.nM [50,49,3,0] [101,62,61,1,0]
 try dsimp only at G
 obtain ⟨hi,hq⟩:=hC
 have hm:=fun h=>Zvg (f:=ZkG t) (l:=ol) (i:=i) h hq
 have hms:=fun h=>Ztg (f:=ZkG t) (l:=ol) (i:=i) h hq
 refine Ya (rZ G (qL r2) V [51,50,49,3,0] [101,62,61,1,0] fun G=>Ya ?_)
 refine Zc G rfl (fun hc2=>?_) (fun hc2=>?_)
 ·have hil:i<ol.length:=by simp at hc2;omega
  have hio:=hil
  have hol:=hf3 _ (nth_mem hio)
  have hmn:=(hm hio).1
  have hms2:=hms hio
  have hol2:(Nn o2 i).txs.length≤1000:=by rw [hmn];exact hol
  refine Ye (Za (Ya (Yg (Ya (rZ G (qR rr (qO rr qZ)) V [50,49,8,3,0] [101,62,61,1,0] fun G=>Ya ?_)))))
  refine Ze G (qR rr (qf (o_nilCheck 61 .is (by rfl)) r1 r1 (qf (oF 1 61 .adr) r1 r1 (qa 61 r1 r1 (qR rr (qf (o_indexAddr_row (sz:=2) 62 (.mk Ycf kr) .is .t ow ow (by rfl)) r2 r1 (qO rr qZ))))))) V [50,49,9,3,0] [101,62,61,1,0] rfl rfl fun a w F G=>?_
  try simp only [Yb] at G
  refine Za (Ya (Zv G (qg 1 101 r1 r1 (qa 101 r1 r1 (qR rr (qk rfl (fun h=>oL true 3 101 .is) r2 r1 (qm rfl rfl rfl rfl (qk rfl (fun h=>o_nilCheck_row0 (sz:=2) 62 (.w h) (by intro x;rfl) (by have:=(hm hil).2;omega)) r2 r1 (qk rfl (fun h=>o_fieldAddr_row (off:=0) (sz:=2) 62 (.w h) (by have:=(hm hil).2;omega) kr (by rfl)) r2 r1 (qk rfl (fun h=>Zaj (ag:=false) (sz':=1) (sz:=2) 62 (.w h) (by intro x;rfl) (by have:=(hm hil).2;omega) kr kr kr) r2 r1 (qk rfl (fun h=>oP (Zek t (Nn o2 i).key ow) func29 (Args.two (.pagg (.w h)) (.w h))) r3 qz (qk rfl (fun h=>ZaP (.w h) qi) r2 qz (qf (ZE .t .t) r2 qz qZ))))))))))) V [69,50,49,9,3,0] [101,62,61,1,0] rfl rfl fun a w F G=>?_))
  try dsimp only [List.map,xD,xE,xT,xU,ldSF,Zw,rTx,ZJ,ZT,Zn,rOp] at G
  refine Za (Zc G rfl (fun hc3=>?_) (fun hc3=>?_))
  ·have hq9:o2.set i ⟨(Nn o2 i).key,withO (Nn o2 i).txs t.id⟩ = (ol.take (i+1)).map (ZkG t)++ol.drop (i+1):=by rw [← hms2,hmn];unfold ZkG;rw [Yf (by have h9:=hc3;unfold wcnt;simpa [hmn] using h9)]
   refine Zv G (qR rr (qR rr (qf (o_nilCheck_row0 (sz:=2) 62 .t (by intro x;rfl) (by have:=(hm hil).2;omega)) r1 r1 (qf (o_fieldAddr_row (off:=1) (sz:=2) 62 .t (by have:=(hm hil).2;omega) kr (by rfl)) r1 r1 (qf (Zaj (ag:=false) (sz':=1) (sz:=2) 62 .t (by intro x;rfl) (by have:=(hm hil).2;omega) kr kr kr) r1 r1 (qg 0 101 r1 r1 (qa 101 r1 r1 (qf (oP (Zt0 (Nn o2 i).txs t.id ow) func104 (Args.two .t .t)) r2 qz (qf (o_nilCheck_row0 (sz:=2) 62 .t (by intro x;rfl) (by have:=(hm hil).2;omega)) r1 r1 (qf (o_fieldAddr_row (off:=1) (sz:=2) 62 .t (by have:=(hm hil).2;omega) kr (by rfl)) r1 r1 (qf (Zc5 (R:=ZJ) (sz:=2) (off:=1) (v':=(⟨(Nn o2 i).key,withO (Nn o2 i).txs t.id⟩:OrdD)) 62 .t (by intro x;rfl) (by have:=(hm hil).2;omega) (by decide) .t one_sl rfl kr) r2 r1 qZ))))))))))) V [50,49,3,0] [101,62,61,1,0] rfl rfl fun a w F G=>?_
   try dsimp only [List.map,Zf,xL,xM,Nat.reduceAdd,xD,xE,xT,xU,xC,xN,zCF,ldSF,Zw,rTx,ZJ,ZT,Zn,rOp] at G
   refine Zi (Za (rZ G (qp r1 (qR rr qZ)) V [50,49,3,0] [101,62,61,1,0] fun G=>?_))
   replace G:=G.ent (i:=50) (s':=.pv (.int .i64 ((i+1:Nat):Int))) rfl (.int (Zd ow))
   obtain ⟨F,G⟩:=G.nM [49,3,0,50] [101,61,1,0,62]
   exact ⟨((i+1),_),F,⟨by omega,hq9⟩,G,by omega⟩
  have hq9:o2.set i ⟨(Nn o2 i).key,withoutO (Nn o2 i).txs t.id⟩ = (ol.take (i+1)).map (ZkG t)++ol.drop (i+1):=by rw [← hms2,hmn];unfold ZkG;rw [Yc (by have h9:=hc3;unfold wcnt;intro e;rw [← hmn] at e;simp [e.1,e.2] at h9)]
  refine Zv G (qR rr (qR rr (qf (o_nilCheck_row0 (sz:=2) 62 .t (by intro x;rfl) (by have:=(hm hil).2;omega)) r1 r1 (qf (o_fieldAddr_row (off:=1) (sz:=2) 62 .t (by have:=(hm hil).2;omega) kr (by rfl)) r1 r1 (qf (Zaj (ag:=false) (sz':=1) (sz:=2) 62 .t (by intro x;rfl) (by have:=(hm hil).2;omega) kr kr kr) r1 r1 (qg 0 101 r1 r1 (qa 101 r1 r1 (qf (oP (Zm9 (Nn o2 i).txs t.id ow) func105 (Args.two .t .t)) r2 qz (qf (o_nilCheck_row0 (sz:=2) 62 .t (by intro x;rfl) (by have:=(hm hil).2;omega)) r1 r1 (qf (o_fieldAddr_row (off:=1) (sz:=2) 62 .t (by have:=(hm hil).2;omega) kr (by rfl)) r1 r1 (qf (Zc5 (R:=ZJ) (sz:=2) (off:=1) (v':=(⟨(Nn o2 i).key,withoutO (Nn o2 i).txs t.id⟩:OrdD)) 62 .t (by intro x;rfl) (by have:=(hm hil).2;omega) (by decide) .t one_sl rfl kr) r2 r1 qZ))))))))))) V [50,49,3,0] [101,62,61,1,0] rfl rfl fun a w F G=>?_
  try dsimp only [List.map,Zf,xL,xM,Nat.reduceAdd,xD,xE,xT,xU,xC,xN,zCF,ldSF,Zw,rTx,ZJ,ZT,Zn,rOp] at G
  refine Zi (Za (rZ G (qp r1 (qR rr qZ)) V [50,49,3,0] [101,62,61,1,0] fun G=>?_))
  replace G:=G.ent (i:=50) (s':=.pv (.int .i64 ((i+1:Nat):Int))) rfl (.int (Zd ow))
  obtain ⟨F,G⟩:=G.nM [49,3,0,50] [101,61,1,0,62]
  exact ⟨((i+1),_),F,⟨by omega,hq9⟩,G,by omega⟩
 have hil:i=ol.length:=by simp at hc2;omega
 have hfin:(o2.filter fun o=>!decide (o.txs = []))=settleO t os:=by rw [hq,hil,YA,List.drop_length,YP,hq0];rfl
 have ho2:o2.length=ol.length:=by rw [hq,hil];simp
 refine Yw (Zj (Zj (Zo (Za (Zb G (qR rr (qR rr (qf (o_nilCheck 61 .is (by rfl)) r1 r1 (qf (oF 1 61 .adr) r1 r1 (qa 61 r1 r1 (qf (o_callRowN 62 (ZuI vb o2 ow (fun o=>decide (o.txs = [])) 107 f107 [] func107 rfl kr (fun o=>ZnJ o)) func106 rfl kr (Args.two .t (.conv .f (Ent.fnClos))) pvOne1) r1 r1 (qf (o_nilCheck 61 .is (by rfl)) r1 r1 (qf (oF 1 61 .adr) r1 r1 (qf (o_storeS 61 .adr kr kr) r2 r1 qZ))))))))) V [] [101,62,61,1,0] (fun _=>rfl) (fun _=>rfl) fun τ a w F G=>?_)))))
 try dsimp only [RS.sub,SF.sub,CF.sub,csub,Anc.sub,List.map,Zf,xL,xM,Nat.reduceAdd,xD,xE,xT,xU,xC,xN,zCF,ldSF,Zw,rTx,ZJ,ZT,Zn,rOp] at G
 generalize τ 96=v96 at G
 obtain ⟨F,G⟩:=G.push 1 62 rfl rfl rfl rfl
 obtain ⟨F,G⟩:=G.push 1 61 rfl rfl rfl rfl
 have G:=G.turn 1 rfl (r':=RS.hp (Zsc 25 70 p va (settleO t os))) (fun _ _ _ _ h=>⟨v96,by rw [hfin] at h;exact h⟩)
 refine Zaf hG G rfl .nil .none rfl
def insE (l:List Z8) (e:Z8):List Z8:=l.take (lowK Za2 (Za2 e) l) ++ [e] ++ l.drop (lowK Za2 (Za2 e) l)
theorem putE_c (v:Value) (l:List Z8) (e:Z8) (hll:l.length≤1000000) (hs:Zcq Za2 l) (hl:∀ x ∈ l,okE x) (he:okE e):FnG prog 157 1 [.is v,.agg (Zav e)] [Zy 217 3 Zav l v] (PV.one) (fun v=>[Zy 217 3 Zav (insE l e) v]):=by
 refine FnG.mk func157 rfl ntmps157 rfl kr fun B F0 a w F V hG G=>?_
 replace G:=G.turn 1 rfl (r':=.ob (.val v) (Zy 217 3 Zav l)) (fun _ _ _ _ h=>h)
 refine Ya (Zb G (qx 101 r1 (qC qZ)) V [4,3,0] [101,1,0] (fun _=>rfl) (fun _=>rfl) fun τ a w F G=>?_)
 try dsimp only [RS.sub,SF.sub,CF.sub,csub,Anc.sub,List.map,zCF,Zav,Zau,Zn,Zao] at G
 generalize τ 3=v3 at G
 refine Za (Ya (rZ G (qR rr (qe 3 101 r1 r1 (qf (OpC.lendRow 1 [8] (oP (Zu7 l e (Za2 e) hll hs 196 f196 [] func196 rfl kr (fun x hx=>ZsM x e (hl x hx) he)) func195 (Args.three .t (.pagg .t) (.conv .f (Ent.fnClos)))) ⟨rfl,tv,tv⟩ (.pv Zoq) trivial (by rfl)) r2 r1 (qR rr (qf (Zh .t rfl) r1 qz (qf (Zh .t rfl) r1 qz (qO rr (qO rr qZ)))))))) V [5,4,3,0] [101,1,0] fun G=>Ya ?_))
 refine Zb G (qR rr (qR rr (qe 3 101 r1 r1 (qf (o_buildSliceE (sz:=3) (zs:=[.int .i64 0,.int .i64 0,.int .i64 0]) (r:=[(0,.tmp 15)]) (l:=[_,_,_]) Ych kr kr kr kr rfl rfl (.agg rfl .t kr kr .nil) rfl) r1 qz (qf (o_callRowN 1 (ZuY v l (lowK Za2 (Za2 e) l) e hll (ZhD l)) func197 rfl kr (Args.three .t .t (.conv .t (Ent.arrSl (R:=Zav) (l:=[e]) rfl))) pvOne1) r3 r1 (qO rr qZ)))))) V [4] [1,0] (fun _=>rfl) (fun _=>rfl) fun τ a w F G=>?_
 try dsimp only [RS.sub,SF.sub,CF.sub,csub,Anc.sub,List.map,Zf,xL,xM,Nat.reduceAdd,xD,xE,xT,xU,xC,xN,zCF,ldSF,Zav,Zau,Zn,Zao] at G
 generalize τ 17=v17 at G
 have hg:insE l e=l.take (lowK Za2 (Za2 e) l) ++ [e] ++ l.drop (lowK Za2 (Za2 e) l):=rfl
 refine Za (Yh ?_)
 have G:=G.turn 1 rfl (r':=RS.hp (Zy 217 3 Zav (insE l e) v17)) (fun _ _ _ _ h=>by rw [hg];exact h)
 refine Z1 (h':=fun v=>Zy 217 3 Zav (insE l e) v) hG G rfl (.tmp rfl .nil) (.one .one) rfl
def ZvL (L:List (List Z8)):Prop:=∀ l ∈ L,l.length≤1000000∧Zcq Za2 l ∧ ∀ e ∈ l,okE e
def Zqt (O:List (List Z8)) (x:Zx):Bool:=ZaK O.length x && isK Za2 (Za2 (endO x)) (Nn O x.src.toNat)
theorem ZP {n:Nat} {x:Zx} : ZaK n x=true ↔ (0≤x.src∧x.src<n)∧(0≤x.dst∧x.dst<n)∧(1≤x.kind∧x.kind≤3)∧0≤x.label∧x.label≤1048575:=by
 unfold ZaK
 simp only [Yr,Yq]
 constructor
 ·rintro ⟨⟨⟨⟨⟨a,b⟩,c⟩,d⟩,e⟩,f⟩;exact ⟨a,b,⟨c,d⟩,e,f⟩
 ·rintro ⟨a,b,⟨c,d⟩,e,f⟩;exact ⟨⟨⟨⟨⟨a,b⟩,c⟩,d⟩,e⟩,f⟩
theorem endO_ok {n:Nat} {x:Zx} (h:ZaK n x=true) (hn:n≤4096):okE (endO x):=by
 obtain ⟨h1,h2,h3,h4,h5⟩:=ZP.1 h
 exact ⟨⟨h4,h5⟩,h2.1,show x.dst≤4095 by omega⟩
theorem endI_ok {n:Nat} {x:Zx} (h:ZaK n x=true) (hn:n≤4096):okE (endI x):=by
 obtain ⟨h1,h2,h3,h4,h5⟩:=ZP.1 h
 exact ⟨⟨h4,h5⟩,h1.1,show x.src≤4095 by omega⟩
theorem Zs3 (O I:List (List Z8)) (m:Nat) (x:Zx) (hO:ZvL O) (hn:O.length≤4096):FnP prog 155 [Zez O I m,.agg (Zao x)] (.bool (Zqt O x)):=by
 refine FnP.mk func155 rfl ntmps155 rfl fun B a w F V hfr G=>Ya ?_
 refine Zb G (qx 101 r1 qB) V [4,3,0] [101,0] (fun _=>rfl) (fun _=>rfl) fun τ a w F G=>?_
 try dsimp only [RS.sub,SF.sub,CF.sub,csub,Anc.sub,List.map,zCF,Zav,Zau,Zn,Zao] at G
 generalize τ 3=v3 at G
 refine Za (Ya (Ya (rZ G (qR rr (qe 4 101 r1 r1 (qf (oP (ZiT O I m x) func154 (Args.two .t (.pagg .t))) r2 qz (qf (o_not .t) r1 qz qZ)))) V [12,4,3,0] [101,0] fun G=>?_)))
 refine Zc G rfl (fun hc0=>?_) (fun hc0=>?_)
 ·have hrf:ZaK O.length x=false:=by simpa using hc0
  have hg:false=Zqt O x:=by unfold Zqt;rw [hrf];rfl
  refine Ya (rZ G qB V [4,3,0] [101,0] fun G=>(Yh (Zk ?_)))
  refine Zs hfr G rfl rfl rfl (.bool hg)
 have hrt:ZaK O.length x=true:=by simpa using hc0
 obtain ⟨hs1,hs2⟩:=(ZP.1 hrt).1
 have hg:isK Za2 (Za2 (endO x)) (Nn O x.src.toNat)=Zqt O x:=by unfold Zqt;rw [hrt,Ybf]
 refine Ye (Za (Ya (Zb G (qe 4 101 r1 r1 (qf (oP (Zl6 x) func156 (Args.one (.pagg .t))) r1 qz (qR rr (qf (Zh .t rfl) r1 qz (qf (Zh .t rfl) r1 qz (qf (oH [.int .i64 0,.int .i64 0,.int .i64 0] 102) trivial qz (qf (oH [.int .i64 0,.int .i64 0,.int .i64 0] 103) trivial qz (qf (oA 3 102 .same (.conv .t .agg)) r2 r1 (qf (oA 3 103 .same (.conv .t .agg)) r2 r1 qZ))))))))) V [5,4,3,0] [102,101,0] (fun _=>rfl) (fun _=>rfl) fun τ a w F G=>?_)))
 try dsimp only [RS.sub,SF.sub,CF.sub,csub,Anc.sub,List.map,Zf,xL,xM,Nat.reduceAdd,xD,xE,xT,xU,xC,xN,zCF,ldSF,Zav,Zau,Zn,Zao] at G
 generalize τ 5=v5,τ 6=v6 at G
 refine Za (Ya (Zv G (qR rr (qf (ZD .t) r1 qz (qf (oG 0 .t) r1 qz (qf (oR false 1 .t) r1 qz (qg 0 101 r1 r1 (qa 101 r1 r1 (qy 1 Yco r2 (qf (oR false 1 .t) r1 qz (qe 3 102 r1 r1 (qf (oP (Zu7 (Nn O x.src.toNat) (endO x) (Za2 (endO x)) (hO _ (nth_mem ow)).1 (hO _ (nth_mem ow)).2.1 196 f196 [] func196 rfl kr (fun z hz=>ZsM z (endO x) ((hO _ (nth_mem ow)).2.2 z hz) (endO_ok hrt hn))) func195 (Args.three .t (.pagg .t) (.conv .f (Ent.fnClos)))) r2 qz (qR rr (qf (Zh .t rfl) r1 qz (qf (Zh .t rfl) r1 qz (qO rr (qO rr qZ))))))))))))))) V [8,4] [0] rfl rfl fun a w F G=>?_))
 try dsimp only [List.map,xD,xE,xT,xU,ldSF,Zav,Zau,Zn,Zao] at G
 try simp only [Yb] at G
 refine Za (Ya (rZ G (qR rr (qO rr qZ)) V [4] [0] fun G=>Yh ?_))
 refine Zs hfr G rfl rfl rfl (.bool hg)
theorem ZvN {α:Type} [Inhabited α] {l:List α} {k j:Nat} {v:α} (h:j<l.length):Nn (l.set k v) j=if k=j then v else Nn l j:=by
 rw [nth_eq (by simpa using h),YbX]
 split
 ·rfl
 ·exact (nth_eq h).symm
theorem Zlw {hs:List Value} {L:List (List Z8)} {k:Nat} {v:Value} {l:List Z8} (h2:hs.length=L.length):ZeX (hs.set k v) (L.set k l)=(ZeX hs L).set k (v,l):=by
 apply Ya3 (by simp [ZeX])
 intro j h3 h4
 have hj:j<hs.length:=by simpa [ZeX] using h3
 simp only [ZeX,List.getElem_map,List.getElem_range,YbX]
 rw [ZvN hj,ZvN ow]
 split <;> rfl
def ZeT (O I:List (List Z8)) (m:Nat) (x:Zx):List (List Z8)×List (List Z8)×Nat×Int:=
 if ZaK O.length x then if Zqt O x then (O,I,m,4) else (O.set x.src.toNat (insE (Nn O x.src.toNat) (endO x)),I.set x.dst.toNat (insE (Nn I x.dst.toNat) (endI x)),m+1,0) else (O,I,m,1)
theorem Zpp (b:Nat) (O I:List (List Z8)) (m:Nat) (x:Zx) (hO:ZvL O) (hI:ZvL I) (hOI:I.length=O.length) (hn:O.length≤4096) (hm:m<1000000):FnG prog 116 1 [.is (Value.pointer (some { block:=b,off:=0 })),.agg (Zao x)] [Znr O I m (Value.pointer (some { block:=b,off:=0 }))] (.int .i64 (ZeT O I m x).2.2.2) (fun _=>[Znr (ZeT O I m x).1 (ZeT O I m x).2.1 (ZeT O I m x).2.2.1 (Value.pointer (some { block:=b,off:=0 }))]):=by
 refine FnG.mk func116 rfl ntmps116 rfl kr fun B F0 a w F V hG G=>Ya ?_
 refine Zb G (qx 101 r1 (qI qZ)) V [4,3,0] [101,1,0] (fun _=>rfl) (fun _=>rfl) fun τ a w F G=>?_
 try dsimp only [RS.sub,SF.sub,CF.sub,csub,Anc.sub,List.map,zCF,Zav,Zau,Zn,Zao] at G
 generalize τ 3=v3 at G
 refine Za (Ya (Yg (Ya (rZ G (qR rr (qe 4 101 r1 r1 (qf (OpC.lend 1 [8] Ze8 (oP (ZiT O I m x) func154 (Args.two .t (.pagg .t))) ⟨rfl,tv,tv⟩ (.pv (fun _ _ _ _ h=>h)) trivial (by rfl)) r2 r1 (qf (o_not .t) r1 qz (qO rr qZ))))) V [7,4,3,0] [101,1,0] fun G=>?_))))
 refine Zc G rfl (fun hc0=>?_) (fun hc0=>?_)
 ·have hrf:ZaK O.length x=false:=by simpa using hc0
  have hg:ZeT O I m x=(O,I,m,1):=by unfold ZeT;rw [hrf];rfl
  refine Ya (rZ G (qI qZ) V [4,3,0] [101,1,0] fun G=>(Yh (ZA (Zk ?_))))
  rw [hg]
  refine Zaf hG G rfl (.tmp rfl .nil) (.one .refl) rfl
 have hrt:ZaK O.length x=true:=by simpa using hc0
 obtain ⟨⟨hs1,hs2⟩,⟨hd1,hd2⟩,_⟩:=ZP.1 hrt
 refine Ya (rZ G (qR rr (qe 4 101 r1 r1 (qf (OpC.lend 1 [13] Ze8 (oP (Zs3 O I m x hO hn) func155 (Args.two .t (.pagg .t))) ⟨rfl,tv,tv⟩ (.pv (fun _ _ _ _ h=>h)) trivial (by rfl)) r2 r1 (qO rr qZ)))) V [12,4,3,0] [101,1,0] fun G=>?_)
 refine Zc G rfl (fun hc1=>?_) (fun hc1=>?_)
 ·have hht:Zqt O x=true:=hc1
  have hg:ZeT O I m x=(O,I,m,4):=by unfold ZeT;rw [hrt,hht];rfl
  refine Ya (rZ G (qI qZ) V [4,3,0] [101,1,0] fun G=>(Yh (ZA (Zk ?_))))
  rw [hg]
  refine Zaf hG G rfl (.tmp rfl .nil) (.one .refl) rfl
 have hhf:Zqt O x=false:=hc1
 have hg:ZeT O I m x=(O.set x.src.toNat (insE (Nn O x.src.toNat) (endO x)),I.set x.dst.toNat (insE (Nn I x.dst.toNat) (endI x)),m+1,0):=by unfold ZeT;rw [hrt,hhf];rfl
 refine Ye (Zi (Za (Ya (Zb G (qe 4 101 r1 r1 (qf (oP (Zl6 x) func156 (Args.one (.pagg .t))) r1 qz (qR rr (qf (Zh .t rfl) r1 qz (qf (Zh .t rfl) r1 qz (qf (oH [.int .i64 0,.int .i64 0,.int .i64 0] 102) trivial qz (qf (oH [.int .i64 0,.int .i64 0,.int .i64 0] 103) trivial qz (qf (oA 3 102 .same (.conv .t .agg)) r2 r1 (qf (oA 3 103 .same (.conv .t .agg)) r2 r1 qZ))))))))) V [6,5,4,3,0] [103,102,101,1,0] (fun _=>rfl) (fun _=>rfl) fun τ a w F G=>?_))))
 try dsimp only [RS.sub,SF.sub,CF.sub,csub,Anc.sub,List.map,Zf,xL,xM,Nat.reduceAdd,xD,xE,xT,xU,xC,xN,zCF,ldSF,Zav,Zau,Zn,Zao] at G
 generalize τ 5=v5,τ 6=v6 at G
 obtain ⟨ov,G⟩:=G.open_ex 1 rfl
 obtain ⟨iv,G⟩:=G.open_ex 1 rfl
 obtain ⟨F,G⟩:=G.peel 1 2 rfl rfl
 obtain ⟨F,G⟩:=G.peel 1 3 rfl rfl
 obtain ⟨F,G⟩:=G.peel 1 4 rfl rfl
 obtain ⟨hs,G⟩:=G.open_ex 3 rfl
 obtain ⟨hl1,G⟩:=G.open_and 3 rfl
 obtain ⟨F,G⟩:=G.peel 3 5 rfl rfl
 obtain ⟨F,G⟩:=G.peel 3 6 rfl rfl
 obtain ⟨js,G⟩:=G.open_ex 4 rfl
 obtain ⟨hl2,G⟩:=G.open_and 4 rfl
 obtain ⟨F,G⟩:=G.peel 4 7 rfl rfl
 obtain ⟨F,G⟩:=G.peel 4 8 rfl rfl
 obtain ⟨F,G⟩:=G.nM [6,5,4,3,0] [103,102,101,8,7,6,5,2,0]
 obtain ⟨F,G⟩:=G.takeAt Znv 6 61 (x.src.toNat) rfl rfl (Zow ow)
 replace G:=G.turn 61 rfl (r':=.ob (.val (Nn hs x.src.toNat)) (Zy 217 3 Zav (Nn O x.src.toNat))) (fun _ _ _ _ h=>h)
 obtain ⟨F,G⟩:=G.nM [6,5,4,3,0] [103,102,101,61,8,7,6,5,2,0]
 obtain ⟨F,G⟩:=G.takeAt Znv 8 62 (x.dst.toNat) rfl rfl (Zow ow)
 replace G:=G.turn 62 rfl (r':=.ob (.val (Nn js x.dst.toNat)) (Zy 217 3 Zav (Nn I x.dst.toNat))) (fun _ _ _ _ h=>h)
 obtain ⟨F,G⟩:=G.nM [6,5,4,3,0] [103,102,101,62,61,8,7,6,5,2,0]
 refine Za (Ya (ZaD G (qR rr (qf (o_nilCheck 2 .is (by rfl)) r1 r1 (qf (oF 0 2 .adr) r1 r1 (qa 2 r1 r1 (qg 0 101 r1 r1 (qa 101 r1 r1 (qR rr (qf (o_nilCheck 2 .is (by rfl)) r1 r1 (qf (oF 0 2 .adr) r1 r1 (qa 2 r1 r1 (qg 0 101 r1 r1 (qa 101 r1 r1 (qf (o_indexAddr_row (sz:=1) 5 (.mk Yco kr) .is .t ow ow (by rfl)) r2 r1 (qf (Zu (ag:=false) (sz':=1) (sz:=1) 5 .t (by intro x;rfl) ow kr kr kr) r1 r1 (qe 3 102 r1 r1 (qf (o_callRowN 61 (putE_c _ (Nn O x.src.toNat) (endO x) (hO _ (nth_mem ow)).1 (hO _ (nth_mem ow)).2.1 (hO _ (nth_mem ow)).2.2 (endO_ok hrt hn)) func157 rfl kr (Args.two .t (.pagg .t)) pvOne1) r2 r1 (qf (o_indexAddr_row (sz:=1) 5 (.mk Yco kr) .is .t ow ow (by rfl)) r2 r1 (qf (ZlC (i:=36) (j:=36) (by rfl) (fun z=>ZI (R:=rV) (sz:=1) (v:=z) 5 .t (by intro x;rfl) ow .t rfl one_is kr)) r2 r1 qZ)))))))))))))))))) V [6,4,3,0] [103,101,62,61,8,7,6,5,2,0] (fun _=>rfl) (fun _=>rfl) fun τ a w F G=>?_))
 try dsimp only [RS.sub,SF.sub,CF.sub,csub,Anc.sub,List.map,Zf,xL,xM,Nat.reduceAdd,xD,xE,xT,xU,xC,xN,zCF,ldSF,Zav,Zau,Zn,Zao] at G
 generalize τ 36=v36 at G
 try simp only [Yb] at G
 replace G:=G.turn 61 rfl (r':=RS.hp (Znv (v36,insE (Nn O x.src.toNat) (endO x)))) (fun _ _ _ _ h=>h)
 obtain ⟨F,G⟩:=G.putAt Znv (L:=ZeX hs O) (x:=(v36,insE (Nn O x.src.toNat) (endO x))) 6 61 (x.src.toNat) (by rw [Zl5];omega) rfl rfl rfl
 rw [← Zlw ow] at G
 obtain ⟨F,G⟩:=G.nM [6,4,3,0] [103,101,62,8,7,6,5,2,0]
 refine Za (Ya (ZaD G (qR rr (qf (o_nilCheck 2 .is (by rfl)) r1 r1 (qf (oF 1 2 .adr) r1 r1 (qa 2 r1 r1 (qg 1 101 r1 r1 (qa 101 r1 r1 (qR rr (qf (o_nilCheck 2 .is (by rfl)) r1 r1 (qf (oF 1 2 .adr) r1 r1 (qa 2 r1 r1 (qg 1 101 r1 r1 (qa 101 r1 r1 (qf (o_indexAddr_row (sz:=1) 7 (.mk Yco kr) .is .t ow ow (by rfl)) r2 r1 (qf (Zu (ag:=false) (sz':=1) (sz:=1) 7 .t (by intro x;rfl) ow kr kr kr) r1 r1 (qe 3 103 r1 r1 (qf (o_callRowN 62 (putE_c _ (Nn I x.dst.toNat) (endI x) (hI _ (nth_mem ow)).1 (hI _ (nth_mem ow)).2.1 (hI _ (nth_mem ow)).2.2 (endI_ok hrt hn)) func157 rfl kr (Args.two .t (.pagg .t)) pvOne1) r2 r1 (qf (o_indexAddr_row (sz:=1) 7 (.mk Yco kr) .is .t ow ow (by rfl)) r2 r1 (qf (ZlC (i:=53) (j:=53) (by rfl) (fun z=>ZI (R:=rV) (sz:=1) (v:=z) 7 .t (by intro x;rfl) ow .t rfl one_is kr)) r2 r1 qZ)))))))))))))))))) V [4,0] [62,8,7,6,5,2,0] (fun _=>rfl) (fun _=>rfl) fun τ a w F G=>?_))
 try dsimp only [RS.sub,SF.sub,CF.sub,csub,Anc.sub,List.map,Zf,xL,xM,Nat.reduceAdd,xD,xE,xT,xU,xC,xN,zCF,ldSF,Zav,Zau,Zn,Zao] at G
 generalize τ 53=v53 at G
 try simp only [Yb] at G
 replace G:=G.turn 62 rfl (r':=RS.hp (Znv (v53,insE (Nn I x.dst.toNat) (endI x)))) (fun _ _ _ _ h=>h)
 obtain ⟨F,G⟩:=G.putAt Znv (L:=ZeX js I) (x:=(v53,insE (Nn I x.dst.toNat) (endI x))) 8 62 (x.dst.toNat) (by rw [Zl5];omega) rfl rfl rfl
 rw [← Zlw ow] at G
 obtain ⟨F,G⟩:=G.nM [4,0] [8,7,6,5,2,0]
 refine Za (Ya (rZ G (qR rr (qf (o_nilCheck 2 .is (by rfl)) r1 r1 (qf (oF 2 2 .adr) r1 r1 (qa 2 r1 r1 (qp r1 (qf (o_nilCheck 2 .is (by rfl)) r1 r1 (qf (oF 2 2 .adr) r1 r1 (qf (ZaZ 2 .adr .t one_int kr kr) r2 r1 qZ)))))))) V [4] [8,7,6,5,2,0] fun G=>Ya ?_))
 refine rZ G (qI qZ) V [4] [8,7,6,5,2,0] fun G=>Yh ?_
 rw [Zd ow] at G
 have hl3:(hs.set x.src.toNat v36).length=(O.set x.src.toNat (insE (Nn O x.src.toNat) (endO x))).length:=by simp [hl1]
 have hl4:(js.set x.dst.toNat v53).length=(I.set x.dst.toNat (insE (Nn I x.dst.toNat) (endI x))).length:=by simp [hl2]
 have G:=G.fresh 3 rfl
 have G:=G.fresh 4 rfl
 have G:=G.fresh 1 rfl
 obtain ⟨F,G⟩:=G.push 3 6 rfl rfl rfl kr
 obtain ⟨F,G⟩:=G.push 3 5 rfl rfl rfl kr
 obtain ⟨F,G⟩:=G.push 4 8 rfl rfl rfl kr
 obtain ⟨F,G⟩:=G.push 4 7 rfl rfl rfl kr
 have G:=G.turn 3 rfl (r':=RS.hp (ZjH _ ov)) (fun _ _ _ _ h=>⟨_,hl3,h⟩)
 have G:=G.turn 4 rfl (r':=RS.hp (ZjH _ iv)) (fun _ _ _ _ h=>⟨_,hl4,h⟩)
 obtain ⟨F,G⟩:=G.push 1 4 rfl rfl rfl kr
 obtain ⟨F,G⟩:=G.push 1 3 rfl rfl rfl kr
 obtain ⟨F,G⟩:=G.push 1 2 rfl rfl rfl kr
 have G:=G.turn 1 rfl (r':=RS.hp (Znr (ZeT O I m x).1 (ZeT O I m x).2.1 (ZeT O I m x).2.2.1 (Value.pointer (some { block:=b,off:=0 })))) (fun _ _ _ _ h=>by rw [hg];exact ⟨_,_,h⟩)
 refine Zaf hG G rfl (.tmp rfl .nil) (.one (.int (by rw [hg]))) rfl
def adjO (O:List (List Z8)) (mask u:Int):List Int:=if 0≤u∧u<O.length then Zbr (((Nn O u.toNat).filter fun e=>ofB mask e.kind).map Z8.node) else []
theorem dgNodesOf_c (l:List Z8) (mask:Int) (hl:l.length≤1000000):FnP prog 198 [.sl Zav l,.int .i64 mask] (.sl Zn (Zbr ((l.filter fun e=>ofB mask e.kind).map Z8.node))):=by
 refine FnP.mk func198 rfl ntmps198 rfl fun B a w F V hfr G=>Ya ?_
 refine rZ G (qC qZ) V [4,1,0] [0] fun G=>Ya ?_
 refine rZ G (qC qZ) V [5,4,1,0] [0] fun G=>(Ya (Ya ?_))
 refine rZ G (qR rr (qu Ych r1 (qJ qZ))) V [10,9,8,5,4,1] [0] fun G=>Yg ?_
 replace G:=G.fresh 50 rfl
 replace G:=G.turn 50 rfl (ZaE (T:=3) (sz:=1) (R:=Zn))
 refine Zl (σ:=(Nat)×(Value)×(List Int)) [1,4,8,9] [0] (fun s=>[(10,.pv (.int .i64 (s.1:Int))),(5,.pv (.is s.2.1))]) (fun s=>[(50,.ob (.val s.2.1) (Zy 3 1 Zn s.2.2))]) (fun s=>s.1≤l.length∧(s.2.2=(((l.take s.1).filter fun e=>ofB mask e.kind).map Z8.node))) (fun s=>l.length - s.1) ((0),(.slice none 0 0),([])) G ⟨rfl,rfl,rfl,rfl,rfl,rfl,tv⟩ ⟨rfl,rfl,tv⟩ ⟨Yx _,rfl⟩ ?_
 clear G;intro s a w F hC G
 obtain ⟨i,v,out⟩:=s
 try dsimp only at hC
 obtain ⟨F,G⟩:=G.nM [10,9,8,5,4,1] [50,0]
 try dsimp only at G
 obtain ⟨hi,hq⟩:=hC
 have hol:out.length≤i:=by rw [hq,YH];exact Y1 (Yac _ _) (by rw [Yi];omega)
 refine Ya (rZ G (qL r2) V [11,10,9,8,5,4,1] [50,0] fun G=>Ya ?_)
 refine Zc G rfl (fun hc0=>?_) (fun hc0=>?_)
 ·have hil:i<l.length:=by simp at hc0;omega
  refine Ye (Za (Ya (Yg (Ya (Zb G (qy 3 Ych r2 (qf (oR true 3 .t) r1 qz (qf (oH [.int .i64 0,.int .i64 0,.int .i64 0] 101) trivial qz (qS 3 101 r2 r1 qZ)))) V [10,9,8,7,5,4,1] [101,50,0] (fun _=>rfl) (fun _=>rfl) fun τ a w F G=>?_)))))
  try dsimp only [RS.sub,SF.sub,CF.sub,csub,Anc.sub,List.map,Zf,xL,xM,Nat.reduceAdd,xD,xE,xT,xU,xC,xN,zCF,ldSF,Zav,Zau,Zn,Zao] at G
  generalize τ 7=v7 at G
  try simp only [Yb] at G
  refine Za (Ya (rZ G (qR rr (qg 0 101 r1 r1 (qa 101 r1 r1 (qf (oP (ZsZ mask (Nn l i).kind) func210 (Args.two .t .t)) r2 qz qZ)))) V [17,10,9,8,7,5,4,1] [101,50,0] fun G=>?_))
  refine Zc G rfl (fun hc1=>?_) (fun hc1=>?_)
  ·have hBq:ofB mask (Nn l i).kind=true:=by simpa using hc1
   refine Zb G (qR rr (qg 2 101 r1 r1 (qa 101 r1 r1 (qf (o_buildSliceE (sz:=1) (zs:=[.int .i64 0]) (r:=[(0,.tmp 20)]) (l:=[_]) Ycd kr kr kr kr rfl rfl (.one rfl .t one_int kr .nil) rfl) r1 qz (qf (ZR (sz:=1) (bs:=8) 50 (.mk' Ycd kr kr) (by intro x;rfl) .is (.arr (l':=[_]) .t) (by simp only [Yd,Yl,Yy,Yi,YE];omega) (by decide)) ⟨rfl,rfl,tv⟩ ⟨rfl,tv⟩ (qO rr qZ)))))) V [10,9,8,5,4,1] [101,50,0] (fun _=>rfl) (fun _=>rfl) fun τ a w F G=>?_
   try dsimp only [RS.sub,SF.sub,CF.sub,csub,Anc.sub,List.map,Zf,xL,xM,Nat.reduceAdd,xD,xE,xT,xU,xC,xN,zCF,ldSF,Zav,Zau,Zn,Zao] at G
   generalize τ 22=v22 at G
   refine Zi (Za (rZ G (qp r1 (qR rr qZ)) V [10,9,8,5,4,1] [101,50,0] fun G=>?_))
   replace G:=G.ent (i:=10) (s':=.pv (.int .i64 ((i+1:Nat):Int))) rfl (.int (Zd ow))
   obtain ⟨F,G⟩:=G.nM [9,8,4,1,5,10] [0,50]
   exact ⟨((i+1),_,_),F,⟨by omega,(by rw [Zp hil,Yaa,YQ,← hq];simp [hBq])⟩,G,by omega⟩
  have hBq:ofB mask (Nn l i).kind=false:=by simpa using hc1
  refine Ye (Zi (Za (rZ G (qp r1 (qR rr qZ)) V [10,9,8,5,4,1] [101,50,0] fun G=>?_)))
  replace G:=G.ent (i:=10) (s':=.pv (.int .i64 ((i+1:Nat):Int))) rfl (.int (Zd ow))
  obtain ⟨F,G⟩:=G.nM [9,8,4,1,5,10] [0,50]
  exact ⟨((i+1),_,_),F,⟨by omega,(by rw [Zp hil,Yaa,YQ,← hq];simp [hBq])⟩,G,by omega⟩
 have hil:i=l.length:=by simp at hc0;omega
 refine Yw (Zj (Zj (Zo (Za (Ya (rZ G (qR rr (qf (Zbk 50 (Zjp _ out ow) func92 rfl kr (Args.one .t)) r1 r1 qZ)) V [5,4] [50,0] fun G=>Ya ?_))))))
 refine Zb G (qR rr (qf (o_callRowN 50 (Zj1 _ _ (by rw [Ybt];omega)) func179 rfl kr (Args.one .t) pvOne1) r1 r1 (qO rr qZ))) V [4] [50,0] (fun _=>rfl) (fun _=>rfl) fun τ a w F G=>?_
 try dsimp only [RS.sub,SF.sub,CF.sub,csub,Anc.sub,List.map,Zav,Zau,Zn,Zao] at G
 generalize τ 27=v27 at G
 refine Za (Yh ?_)
 obtain ⟨F,G⟩:=G.give 50 4 rfl rfl
 refine Zs hfr G rfl rfl rfl (.sl (by rw [Zdp,ZdK,hq,hil,YA]))
theorem ZqB (O I:List (List Z8)) (m:Nat) (u mask:Int) (hO:∀ l ∈ O,l.length≤1000000):FnP prog 160 [Zez O I m,.int .i64 u,.int .i64 mask] (.sl Zn (adjO O mask u)):=by
 refine FnP.mk func160 rfl ntmps160 rfl fun B a w F V hfr G=>Ya ?_
 refine rZ G (qC qZ) V [6,2,1,0] [0] fun G=>(Ya (Ya ?_))
 refine rZ G (qR rr (qR rr (qf (oP (Zel O I m u) func194 (Args.two .t .t)) r2 qz (qf (o_not .t) r1 qz qZ)))) V [10,6,2,1,0] [0] fun G=>?_
 refine Zc G rfl (fun hc0=>?_) (fun hc0=>?_)
 ·have hg:[] = adjO O mask u:=by unfold adjO;rw [Yc (by have h9:=hc0;simp at h9;omega)]
  refine Ya (rZ G (qC qZ) V [6,2,1,0] [0] fun G=>(Yh (Zk ?_)))
  refine Zs hfr G rfl rfl rfl (.trans .nilSl (.sl hg))
 have hth:0≤u∧u<O.length:=by simpa using hc0
 have hg:(Zbr (((Nn O u.toNat).filter fun e=>ofB mask e.kind).map Z8.node))=adjO O mask u:=by unfold adjO;rw [Yf hth]
 refine Ye (Za (Ya (Ze G (qR rr (qf (ZD .t) r1 qz (qf (oG 0 .t) r1 qz (qf (oR false 1 .t) r1 qz (qR rr (qf (o_indexAddr_sl (sz:=1) (.mk Yco kr) (by intro x;rfl) .t .t (by exact hth.1) (by exact hth.2)) r2 qz (qf (oR false 1 .t) r1 qz (qR rr (qf (oP (dgNodesOf_c (Nn O u.toNat) mask (hO _ (nth_mem ow))) func198 (Args.two .t .t)) r2 qz (qO rr qZ)))))))))) V [6] [0] rfl rfl fun a w F G=>?_)))
 try simp only [Yb] at G
 refine Za (Yh (Zs hfr G rfl rfl rfl (.sl hg)))
def Zc1:Zr:=⟨[],[]⟩
theorem Zaz {g:Zr} (h:ZW g):Zcq TxD.id g.txs∧Zcq OrdD.key g.orders:=by
 constructor
 ·have hi:Zdu (g.txs.map TxD.id):=ZfI fun i hi h0=>by
   have hi':i<g.txs.length:=by simpa using hi
   rw [Zcy ow,Zcy hi']
   exact (h.2.1 i hi').1 h0
  rw [ZS]
  exact YaW.1 hi
 ·have h2:=(Zdd g).2 h.2.2
  have hi:Zdu (g.orders.map OrdD.key):=ZfI fun i hi h0=>by
   have hi':i<g.orders.length:=by simpa using hi
   rw [Zcy ow,Zcy hi']
   exact (h2.2 i hi').1 h0
  rw [ZS]
  exact YaW.1 hi
def Zv7 (t:TxD) (v:Zb0):Bool:=decide (v.tx=t.id) && decide ((wcnt t.ops v.key:Int)<v.nth)
def Zv0 (t x:TxD):Bool:=decide (x.id≠t.id) && (Zf1 x).any (Zv7 t)
def Zvo (g:Zr) (t:TxD):Bool:=g.txs.any (Zv0 t)
def ZgA (g:Zr) (t:TxD) (there:Int) (wanted:Bool):Int×Int:=if ¬ ZW g then (0,5) else if ZaI t≠0 then (0,ZaI t) else if isK TxD.id t.id g.txs≠wanted then (0,there) else if Zdw g t=false then (0,6) else (lowK TxD.id t.id g.txs,0)
def Z3 (g:Zr) (t:TxD):Zr×Int:=if (ZgA g t 4 false).2≠0 then (Zc1,(ZgA g t 4 false).2) else if g.txs.length=4096 then (Zc1,2) else (⟨g.txs.take (lowK TxD.id t.id g.txs) ++ [t] ++ g.txs.drop (lowK TxD.id t.id g.txs),settleO t g.orders⟩,0)
def ZuF (id:Int):TxD:=⟨id,false,[]⟩
def ZpZ (g:Zr) (id:Int):Zr×Int:=if ¬ ZW g then (Zc1,5) else if isK TxD.id id g.txs=false then (Zc1,3) else if Zvo g (ZuF id)=true then (Zc1,7) else (⟨g.txs.take (lowK TxD.id id g.txs)++g.txs.drop (lowK TxD.id id g.txs+1),settleO (ZuF id) g.orders⟩,0)
def ZsW (g:Zr) (t:TxD):Zr×Int:=if (ZgA g t 3 true).2≠0 then (Zc1,(ZgA g t 3 true).2) else if Zvo g t=true then (Zc1,7) else (⟨g.txs.set (lowK TxD.id t.id g.txs) t,settleO t g.orders⟩,0)
theorem Zqq {g:Zr} {t:TxD} {there:Int} {wanted:Bool} (ht:there≠0) (h:(ZgA g t there wanted).2=0):ZW g∧ZaI t=0∧isK TxD.id t.id g.txs=wanted∧Zdw g t=true∧(ZgA g t there wanted).1=lowK TxD.id t.id g.txs:=by
 unfold ZgA at h ⊢
 split at h
 ·simp at h
 ·rename_i h1
  split at h
  ·rename_i h2;exact absurd h h2
  ·rename_i h2
   split at h
   ·exact absurd h ht
   ·rename_i h3
    split at h
    ·simp at h
    ·rename_i h4
     rw [Yc h1,Yc h2,Yc h3,Yc h4]
     exact ⟨Yax.1 h1,Yax.1 h2,Yax.1 h3,by simpa using h4,rfl⟩
theorem Zte {α:Type} [Inhabited α] {κ:α→Int} {k:Int} {l:List α} (hs:Zcq κ l) (h:isK κ k l=true):lowK κ k l<l.length∧κ (Nn l (lowK κ k l))=k:=by
 obtain ⟨x,hx,hk⟩:=Yaz.1 h
 obtain ⟨q,hq,e⟩:=Yab hx
 have hk':κ (Nn l q)=k:=by rw [nth_eq hq,e];simpa using hk
 have hl:=ZdN (κ:=κ) (k:=k) (l:=l) (i:=q) (Nat.le_of_lt hq) (fun p hp=>by have:=hs p q hp hq;omega) (fun p hp hp2=>by have:=ZbL hs hp hp2;omega)
 rw [hl]
 exact ⟨hq,hk'⟩
theorem ZvT (g:Zr) (t:TxD) (there:Int) (wanted:Bool) (hs:Za9 g) (ht:t.ops.length≤1000):FnP prog 59 [.agg (Zw g),.agg (rTx t),.int .i64 there,.bool wanted] (.tup [.int .i64 (ZgA g t there wanted).1,.int .i64 (ZgA g t there wanted).2]):=by
 refine FnP.mk func59 rfl ntmps59 rfl fun B a w F V hfr G=>?_
 have hsl:=hs.1.1
 refine Ya (Zb G (qx 101 r1 (qx 102 r1 (qI (qI qZ)))) V [9,8,5,4,3,2] [102,101,0] (fun _=>rfl) (fun _=>rfl) fun τ a w F G=>?_)
 try dsimp only [RS.sub,SF.sub,CF.sub,csub,Anc.sub,List.map,zCF,Zw,rTx,ZJ,ZT,Zn,rOp] at G
 generalize τ 4=v4,τ 5=v5 at G
 refine Za (Ya (Ya (rZ G (qe 2 101 r1 r1 (qf (oP (Zff g hs) func19 (Args.one (.pagg .t))) r1 qz (qf (o_not .t) r1 qz qZ))) V [15,9,8,5,4,3,2] [102,101,0] fun G=>?_)))
 refine Zc G rfl (fun hc0=>?_) (fun hc0=>?_)
 ·have hr:¬ ZW g:=by simpa using hc0
  have hg:ZgA g t there wanted=(0,5):=by unfold ZgA;rw [Yf hr]
  refine Ya (rZ G (qI (qI qZ)) V [9,8,5,4,3,2] [102,101,0] fun G=>(Yh (Zk ?_)))
  refine Z6 hfr G rfl (.tmp rfl (.tmp rfl .nil)) (.two (.int (by rw [hg])) (.int (by rw [hg])))
 have hr:ZW g:=by simpa using hc0
 have hrr:=Zaz hr
 refine Ye (Za (Ya (Ya (rZ G (qe 3 102 r1 r1 (qf (oP (ZiU t) func44 (Args.one (.pagg .t))) r1 qz (qO rr qZ))) V [10,9,8,5,4,3,2] [102,101,0] fun G=>Ya ?_))))
 refine rZ G (qR rr (qf (o_neq .t qi) r1 qz qZ)) V [19,10,9,8,5,4,3,2] [102,101,0] fun G=>?_
 refine Zc G rfl (fun hc1=>?_) (fun hc1=>?_)
 ·have hrt:ZaI t≠0:=by simpa using hc1
  have hg:ZgA g t there wanted=(0,ZaI t):=by unfold ZgA;rw [Yc (Yax.2 hr),Yf hrt]
  refine Ya (rZ G (qR rr (qI (qO rr qZ))) V [9,8,5,4,3,2] [102,101,0] fun G=>(Yh (Zk ?_)))
  refine Z6 hfr G rfl (.tmp rfl (.tmp rfl .nil)) (.two (.int (by rw [hg])) (.int (by rw [hg])))
 have hrt:¬ ZaI t≠0:=by simpa using hc1
 refine Ye (Za (Ya (rZ G (qe 2 101 r1 r1 (qg 0 102 r1 r1 (qa 102 r1 r1 (qf (oP (Zs5 g t.id hs.1 hrr.1) func64 (Args.two (.pagg .t) .t)) r2 qz (qR rr (qf (Zh .t rfl) r1 qz (qf (Zh .t rfl) r1 qz (qO rr (qO rr qZ))))))))) V [12,11,9,8,5,4,3,2] [102,101,0] fun G=>(Ya (Yg (Ya ?_))))))
 refine rZ G (qR rr (qR rr (qf (Zk7 Ycs .t .t) r2 qz (qO rr qZ)))) V [28,11,9,8,5,4,2] [102,101,0] fun G=>?_
 refine Zc G rfl (fun hc2=>?_) (fun hc2=>?_)
 ·have hwt:isK TxD.id t.id g.txs≠wanted:=by simpa using hc2
  have hg:ZgA g t there wanted=(0,there):=by unfold ZgA;rw [Yc (Yax.2 hr),Yc hrt,Yf hwt]
  refine Ya (rZ G (qR rr (qI (qO rr qZ))) V [11,9,8] [102,101,0] fun G=>(Yh (ZA (Zk ?_))))
  refine Z6 hfr G rfl (.tmp rfl (.tmp rfl .nil)) (.two (.int (by rw [hg])) (.int (by rw [hg])))
 have hwt:¬ isK TxD.id t.id g.txs≠wanted:=by simpa using hc2
 refine Ya (rZ G (qe 2 101 r1 r1 (qe 3 102 r1 r1 (qf (oP (Zmf g t hs.1 ht) func45 (Args.two (.pagg .t) (.pagg .t))) r2 qz (qf (o_not .t) r1 qz (qO rr qZ))))) V [33,11,9,8] [102,101,0] fun G=>?_)
 refine Zc G rfl (fun hc3=>?_) (fun hc3=>?_)
 ·have hg:ZgA g t there wanted=(0,6):=by unfold ZgA;rw [Yc (Yax.2 hr),Yc hrt,Yc hwt,Yf (by simpa using hc3)]
  refine Ya (rZ G (qI (qI qZ)) V [11,9,8] [102,101,0] fun G=>(Yh (ZA (Zk ?_))))
  refine Z6 hfr G rfl (.tmp rfl (.tmp rfl .nil)) (.two (.int (by rw [hg])) (.int (by rw [hg])))
 have hg:ZgA g t there wanted=(((lowK TxD.id t.id g.txs:Nat):Int),0):=by unfold ZgA;rw [Yc (Yax.2 hr),Yc hrt,Yc hwt,Yc (by simpa using hc3)]
 refine Ye (Zi (Za (Ya (rZ G (qR rr (qO rr (qI qZ))) V [9,8] [102,101,0] fun G=>Yh ?_))))
 refine Z6 hfr G rfl (.tmp rfl (.tmp rfl .nil)) (.two (.int (by rw [hg])) (.int (by rw [hg])))
theorem ZjD (g:Zr) (t:TxD) (hs:Za9 g) (ht:t.ops.length≤1000):FnP prog 27 [.agg (Zw g),.agg (rTx t)] (.tup [.agg (Zw (Z3 g t).1),.int .i64 (Z3 g t).2]):=by
 refine FnP.mk func27 rfl ntmps27 rfl fun B a w F V hfr G=>?_
 have hsl:=hs.1.1
 refine Ya (Zb G (qx 101 r1 (qx 102 r1 (qf (oH [.slice none 0 0,.slice none 0 0] 103) trivial qz (qI qZ)))) V [5,4,3,2] [103,102,101,0] (fun _=>rfl) (fun _=>rfl) fun τ a w F G=>?_)
 try dsimp only [RS.sub,SF.sub,CF.sub,csub,Anc.sub,List.map,zCF,Zw,rTx,ZJ,ZT,Zn,rOp] at G
 generalize τ 2=v2,τ 3=v3,τ 4=v4 at G
 refine Za (Ya (rZ G (qe 2 101 r1 r1 (qe 3 102 r1 r1 (qf (oP (ZvT g t 4 false hs ht) func59 (Args.four (.pagg .t) (.pagg .t) qi .cb)) r2 qz (qR rr (qf (Zh .t rfl) r1 qz (qf (Zh .t rfl) r1 qz (qO rr (qO rr qZ)))))))) V [7,6,5,4,3,2] [103,102,101,0] fun G=>(Ya (Yg (Ya ?_)))))
 refine rZ G (qR rr (qf (o_neq .t qi) r1 qz (qO rr qZ))) V [15,7,6,5,4,3,2] [103,102,101,0] fun G=>?_
 refine Zc G rfl (fun hc0=>?_) (fun hc0=>?_)
 ·have hm:(ZgA g t 4 false).2≠0:=by simpa using hc0
  have hg:Z3 g t=(Zc1,(ZgA g t 4 false).2):=by unfold Z3;rw [Yf hm]
  refine Ya (rZ G (qf (oB [] [.slice none 0 0,.slice none 0 0] [(0,1),(1,1)] .nil) trivial qz (qR rr (qs 2 103 r2 r1 (qO rr qZ)))) V [6,5,4,3,2] [103,102,101,0] fun G=>(Yh (ZA (Zk ?_))))
  refine Z6 hfr G rfl (.cl 103 true 2 rfl rfl (.tmp rfl .nil)) (.two (by rw [hg];first | exact .aggU rfl rfl | exact .aggLe rfl ⟨Zis.nilSl,Zis.nilSl,tv⟩) (.int (by rw [hg])))
 have hm:¬ (ZgA g t 4 false).2≠0:=by simpa using hc0
 obtain ⟨hr,hrt,hik,hnd,hlo⟩:=Zqq (by decide) (Yax.1 hm)
 have hrr:=Zaz hr
 have hlk:=ZhD (κ:=TxD.id) (k:=t.id) g.txs
 refine Ya (rZ G (qg 0 101 r1 r1 (qa 101 r1 r1 (qu Ycg r1 (qf (o_eql .t qi) r1 qz (qO rr qZ))))) V [20,6,5,4,3,2] [103,102,101,0] fun G=>?_)
 refine Zc G rfl (fun hc1=>?_) (fun hc1=>?_)
 ·have hg:Z3 g t=(Zc1,2):=by unfold Z3;rw [Yc hm,Yf (by simp at hc1;omega)]
  refine Ya (rZ G (qf (oB [] [.slice none 0 0,.slice none 0 0] [(0,1),(1,1)] .nil) trivial qz (qs 2 103 r2 r1 (qI qZ))) V [6,5,4,3,2] [103,102,101,0] fun G=>(Yh (ZA (Zk ?_))))
  refine Z6 hfr G rfl (.cl 103 true 2 rfl rfl (.tmp rfl .nil)) (.two (by rw [hg];first | exact .aggU rfl rfl | exact .aggLe rfl ⟨Zis.nilSl,Zis.nilSl,tv⟩) (.int (by rw [hg])))
 have hg:Z3 g t=(⟨g.txs.take (lowK TxD.id t.id g.txs) ++ [t] ++ g.txs.drop (lowK TxD.id t.id g.txs),settleO t g.orders⟩,0):=by unfold Z3;rw [Yc hm,Yc (by simp at hc1;omega)]
 refine Ye (Zi (Za (Ya ?_)))
 replace G:=G.fresh 104 rfl
 refine Zb G (qe 2 101 r1 r1 (qf (Zsz 104 (Zue g hs) func60 rfl kr (Args.one (.pagg .t))) r1 r1 (qf (oH [.slice none 0 0,.slice none 0 0] 105) trivial qz (qf (oA 2 105 .same (.conv .t (Ent.fnAgg (.fn (.fn .nil))))) r2 r1 qZ)))) V [8,6,5,4,3] [105,104,103,102,101,0] (fun _=>rfl) (fun _=>rfl) fun τ a w F G=>?_
 try dsimp only [RS.sub,SF.sub,CF.sub,csub,Anc.sub,List.map,Zf,xL,xM,Nat.reduceAdd,xD,xE,xT,xU,xC,xN,zCF,ldSF,Zw,rTx,ZJ,ZT,Zn,rOp] at G
 generalize τ 8=v8,τ 27=v27 at G
 replace G:=G.turn 104 rfl (r':=RS.hp (HP.star [.ob (.val (cellN 0 v27)) (Zy 30 3 rTx g.txs),.ob (.val (cellN 1 v27)) (Zy 70 2 ZJ g.orders)])) (fun _ _ _ _ h=>h)
 obtain ⟨F,G⟩:=G.peel 104 70 rfl rfl
 obtain ⟨F,G⟩:=G.peel 104 71 rfl rfl
 obtain ⟨F,G⟩:=G.nM [8,6,5,4,3] [105,103,102,101,71,70,0]
 generalize cellN 0 v27=va,cellN 1 v27=vb at G
 refine Za (Ya (ZaD G (qg 0 105 r1 r1 (qa 105 r1 r1 (qR rr (qe 3 102 r1 r1 (qf (oP (Zhw t ow) func62 (Args.one (.pagg .t))) r1 qz (qf (o_buildSliceE (sz:=3) (zs:=[.int .i64 0,.bool false,.slice none 0 0]) (r:=[(0,.tmp 32)]) (l:=[_,_,_]) Ycg kr kr kr kr rfl rfl (.agg rfl (.conv .t .agg) kr kr .nil) rfl) r1 qz (qf (o_callRowN 70 (Zvx va g.txs (lowK TxD.id t.id g.txs) t ow hlk) func61 rfl kr (Args.three .t (.conv .t (.int hlo)) (.conv .t (Ent.arrSl (R:=rTx) (l:=[t]) rfl))) pvOne1) r3 r1 (qg 0 105 r1 r1 (qf (o_storeS 105 .adr kr kr) r2 r1 qZ))))))))) V [8,5,4,3] [105,103,102,101,71,70,0] (fun _=>rfl) (fun _=>rfl) fun τ a w F G=>?_))
 try dsimp only [RS.sub,SF.sub,CF.sub,csub,Anc.sub,List.map,Zf,xL,xM,Nat.reduceAdd,xD,xE,xT,xU,xC,xN,zCF,ldSF,Zw,rTx,ZJ,ZT,Zn,rOp] at G
 generalize τ 34=v34 at G
 refine Za (Ya ?_)
 replace G:=G.fresh 72 rfl
 obtain ⟨F,G⟩:=G.push 72 71 rfl rfl rfl rfl
 obtain ⟨F,G⟩:=G.push 72 105 rfl rfl rfl rfl
 replace G:=G.turn 72 rfl (r':=RS.hp (Zsc 25 70 v8 v34 g.orders)) (fun _ _ _ _ h=>⟨vb,h⟩)
 obtain ⟨F,G⟩:=G.nM [8,5,4,3] [103,102,101,72,70,0]
 refine Ze G (qe 3 102 r1 r1 (qf (ZK 72 (Zqz v8 v34 g.orders t hs.2 hrr.2 ht) func63 rfl kr (Args.two .t (.pagg .t))) r2 r1 qZ)) V [8,5,4] [103,102,101,72,70,0] rfl rfl fun a w F G=>?_
 replace G:=G.turn 72 rfl (r':=RS.hp (HP.ex fun vb:Value=>HP.star [.pt (.val v8) 25 [.pv (.is v34),.pv (.is vb)],.ob (.val vb) (Zy 70 2 ZJ (settleO t g.orders))])) (fun _ _ _ _ h=>h)
 obtain ⟨vb2,G⟩:=G.open_ex 72 rfl
 obtain ⟨F,G⟩:=G.peel 72 73 rfl rfl
 obtain ⟨F,G⟩:=G.peel 72 74 rfl rfl
 obtain ⟨F,G⟩:=G.nM [8,5,4] [103,102,101,74,73,70,0]
 obtain ⟨F,G⟩:=G.giveCell 70 73 0 rfl rfl rfl rfl rfl
 try dsimp only [List.set] at G
 obtain ⟨F,G⟩:=G.nM [8,5,4] [103,102,101,74,73,0]
 obtain ⟨F,G⟩:=G.giveCell 74 73 1 rfl rfl rfl rfl rfl
 try dsimp only [List.set] at G
 obtain ⟨F,G⟩:=G.nM [8,5,4] [103,102,101,73,0]
 refine Za (Ya (rZ G (qe 2 73 r1 r1 (qs 2 103 r2 r1 (qI qZ))) V [5,4] [103,102,101,73,0] fun G=>Yh ?_))
 refine Z6 hfr G rfl (.cl 103 true 2 rfl rfl (.tmp rfl .nil)) (.two (by rw [hg];first | exact .aggU rfl rfl | exact .aggLe rfl ⟨Zis.nilSl,Zis.nilSl,tv⟩) (.int (by rw [hg])))
theorem Zn5 (l:List Int) (tx place:Int):(Zrm l tx place).1.length≤l.length:=by
 unfold Zrm
 split
 ·simp
 ·split
  ·simp
  ·rename_i h1 h2
   have hr:=ZgX tx l
   have h3:(l.eraseIdx (ZaC tx l).toNat).length=l.length - 1:=by rw [List.length_eraseIdx,Yf ow]
   show (ZvS _ _ _).length≤_
   unfold ZvS
   split
   ·rw [Yd,Yl,Yi,YE];omega
   ·omega
def Zij (g:Zr) (key:Int) (rule:List Int→List Int×Int):Zr×Int:=if ¬ ZW g then (Zc1,5) else if isK OrdD.key key g.orders=false then (Zc1,3) else if (rule (Nn g.orders (lowK OrdD.key key g.orders)).txs).2≠0 then (Zc1,(rule (Nn g.orders (lowK OrdD.key key g.orders)).txs).2) else (⟨g.txs,g.orders.set (lowK OrdD.key key g.orders) ⟨(Nn g.orders (lowK OrdD.key key g.orders)).key,(rule (Nn g.orders (lowK OrdD.key key g.orders)).txs).1⟩⟩,0)
def Zvu (o:OrdD) (l:List Int):List Int×Int:=if l.Perm o.txs then (o.txs,0) else ([],8)
def ZrC (g:Zr) (o:OrdD):Zr×Int:=Zij g o.key (Zvu o)
def Zv3 (g:Zr) (key id place:Int):Zr×Int:=Zij g key fun l=>Zrm l id place
end Go.Proofs.YtlkpllemoepamaaGreat
