/- Laws and walks. No condition beyond what each says. -/
import Derived.Test.YtlkpllemoepamaaGreatJ5
namespace Go.Proofs.YtlkpllemoepamaaGreat
open Go Go.Gm Tryz
set_option linter.unusedVariables false
set_option linter.unusedSimpArgs false
set_option maxHeartbeats 4000000
set_option maxRecDepth 8000
section
variable {B B':Zg→Prop} {m:Zg→Bool} {need:Bool}
theorem ZrC {i:Int} {w:List Zg} (h:CwE B m need i w):∃ e,w.head? = some e∧B e∧e.src=i:=by
 cases w with
 | nil=>exact absurd rfl h.1
 | cons e w=>exact ⟨e,rfl,h.2.1.1,h.2.1.2.1⟩
end
theorem Zly {α:Type} {P:α→Prop} {R:α→α→Prop} (tot:∀ a b,P a→P b→R a b∨R b a) (tr:∀ a b c,P a→P b→P c→R a b→R b c→R a c):∀ L:List α,(∃ a ∈ L,P a) → ∃ a ∈ L,P a ∧ ∀ b ∈ L,P b→R a b
 | [],h=>by obtain ⟨a,h,_⟩:=h;cases h
 | x :: L,h=>by
  by_cases hL:∃ a ∈ L,P a
  ·obtain ⟨a,a1,a2,a3⟩:=Zly tot tr L hL
   by_cases hx:P x
   ·rcases tot x a hx a2 with k | k
    ·refine ⟨x,by simp,hx,fun b hb hp=>?_⟩
     rcases Yj.1 hb with rfl | hb
     ·rcases tot b b hp hp with q | q <;> exact q
     ·exact tr _ _ _ hx a2 hp k (a3 b hb hp)
    ·refine ⟨a,by simp [a1],a2,fun b hb hp=>?_⟩
     rcases Yj.1 hb with rfl | hb
     ·exact k
     ·exact a3 b hb hp
   ·refine ⟨a,by simp [a1],a2,fun b hb hp=>?_⟩
    rcases Yj.1 hb with rfl | hb
    ·exact absurd hp hx
    ·exact a3 b hb hp
  ·obtain ⟨a,a1,a2⟩:=h
   have e:a=x:=(Yj.1 a1).resolve_right fun k=>hL ⟨a,k,a2⟩
   subst e
   refine ⟨a,by simp,a2,fun b hb hp=>?_⟩
   rcases Yj.1 hb with rfl | hb
   ·rcases tot b b hp hp with q | q <;> exact q
   ·exact absurd ⟨b,hb,hp⟩ hL
def Zjf (l:List Zg):Nat→List (List Zg)
 | 0=>[[]]
 | k+1=>l.flatMap fun e=>(Zjf l k).map (e :: ·)
theorem Zhf {l:List Zg} : ∀ {w:List Zg},(∀ e ∈ w,e ∈ l)→w ∈ Zjf l w.length
 | [],_=>by simp [Zjf]
 | e :: w,h=>by
  show e :: w ∈ l.flatMap _
  exact YaI.2 ⟨e,h e (by simp),Yu.2 ⟨w,Zhf fun x hx=>h x (by simp [hx]),rfl⟩⟩
def RwE (w v:List Zg):Prop:=∃ x y,w.head? = some x∧v.head? = some y∧(x.src<y.src∨(x.src=y.src∧(v=w∨LtE w v)))
theorem LtE.trans:∀ {w v u:List Zg},LtE w v→LtE v u→LtE w u
 | x :: w,y :: v,z :: u,h,k=>by
  rcases h with h | ⟨rfl,h⟩ <;> rcases k with k | ⟨rfl,k⟩
  ·left;unfold ltK at *;omega
  ·exact .inl h
  ·exact .inl k
  ·exact .inr ⟨rfl,h.trans k⟩
 | [],_,_,h,_=>h.elim
 | _ :: _,[],_,h,_=>h.elim
 | _ :: _,_ :: _,[],_,k=>k.elim
theorem ZpL {B:Zg→Prop} {a b c:Int} : ∀ {w v:List Zg},w.length=v.length→Zcj B a w b→Zcj B a v c→w=v∨LtE w v∨LtE v w
 | [],[],_,_,_=>.inl rfl
 | x :: w,y :: v,hl,h,k=>by
  by_cases e:x=y
  ·subst e
   rcases ZpL (by simpa using hl) h.2.2 k.2.2 with q | q | q
   ·exact .inl (by rw [q])
   ·exact .inr (.inl (.inr ⟨rfl,q⟩))
   ·exact .inr (.inr (.inr ⟨rfl,q⟩))
  ·have hs:x.src=y.src:=h.2.1.trans k.2.1.symm
   have:ltK x y∨ltK y x:=by
    apply Ybz
    intro hn
    apply e
    cases x;cases y
    unfold ltK at hn
    simp only [Zg.mk.injEq] at *
    omega
   rcases this with q | q
   ·exact .inr (.inl (.inl q))
   ·exact .inr (.inr (.inl q))
 | [],_ :: _,hl,_,_=>by simp at hl
 | _ :: _,[],hl,_,_=>by simp at hl
theorem ZqP {l:List Zg} {m:Zg→Bool} {need:Bool} (h:∃ i w,CwE (· ∈ l) m need i w):∃ w,Zc8 (· ∈ l) m need w:=by
 obtain ⟨k,⟨k0,i,w,hw,hk⟩,hmin⟩:=ZpG (P:=fun k=>0≤k ∧ ∃ i w,CwE (· ∈ l) m need i w∧(w.length:Int)=k) (fun x hx=>hx.1) (u:=((Classical.choose (YbQ h)).length:Int)) ⟨by omega,_,_,YbQ (YbQ h),rfl⟩
 have hin:∀ {i:Int} {v:List Zg},CwE (· ∈ l) m need i v→v.length=w.length→v ∈ Zjf l w.length:=fun hv hl=>by
  rw [← hl];exact Zhf (Zgc hv.2.1)
 have hh:∀ {i:Int} {v:List Zg},CwE (· ∈ l) m need i v → ∃ x,v.head? = some x∧x.src=i:=fun hv=>by
  obtain ⟨x,x1,_,x3⟩:=ZrC hv;exact ⟨x,x1,x3⟩
 obtain ⟨v,v1,⟨j,v2⟩,v3⟩:=Zly (P:=fun v=>∃ i,CwE (· ∈ l) m need i v∧v.length=w.length) (R:=RwE) (fun a b ⟨i,ha,la⟩ ⟨j,hb,lb⟩=>by
   obtain ⟨x,x1,x2⟩:=hh ha
   obtain ⟨y,y1,y2⟩:=hh hb
   by_cases e:i=j
   ·subst e
    rcases ZpL ow ha.2.1 hb.2.1 with q | q | q
    ·exact .inl ⟨x,y,x1,y1,.inr ⟨by omega,.inl q.symm⟩⟩
    ·exact .inl ⟨x,y,x1,y1,.inr ⟨by omega,.inr q⟩⟩
    ·exact .inr ⟨y,x,y1,x1,.inr ⟨by omega,.inr q⟩⟩
   ·by_cases hlt:i<j
    ·exact .inl ⟨x,y,x1,y1,.inl ow⟩
    ·exact .inr ⟨y,x,y1,x1,.inl ow⟩) (fun a b c _ _ _ ⟨x,y,x1,y1,h1⟩ ⟨y',z,y2,z1,h2⟩=>by
   have e:y' = y:=YaQ (y2.symm.trans y1)
   subst e
   refine ⟨x,z,x1,z1,?_⟩
   rcases h1 with h1 | ⟨h1,h3⟩ <;> rcases h2 with h2 | ⟨h2,h4⟩
   ·exact .inl ow
   ·exact .inl ow
   ·exact .inl ow
   ·refine .inr ⟨by omega,?_⟩
    rcases h3 with rfl | h3 <;> rcases h4 with rfl | h4
    ·exact .inl rfl
    ·exact .inr h4
    ·exact .inr h3
    ·exact .inr (h3.trans h4)) (Zjf l w.length) ⟨w,hin hw rfl,i,hw,rfl⟩
 refine ⟨v,j,v2.1,fun j' w' k=>?_⟩
 have hlen:=hmin (w'.length:Int) ⟨by omega,j',w',k,rfl⟩
 by_cases hl:w'.length=w.length
 ·refine .inr ⟨by rw [hl,v2.2],?_⟩
  obtain ⟨x,y,x1,y1,h1⟩:=v3 w' (hin k hl) ⟨j',k,hl⟩
  obtain ⟨x',x2,x3⟩:=hh v2.1
  obtain ⟨y',y2,y3⟩:=hh k
  have e1:x' = x:=YaQ (x2.symm.trans x1)
  have e2:y' = y:=YaQ (y2.symm.trans y1)
  subst e1;subst e2
  rcases h1 with h1 | ⟨h1,h2⟩
  ·exact .inl ow
  ·exact .inr ⟨by omega,h2⟩
 ·exact .inl (by rw [v2.2];omega)
theorem Zsv (l:List Zg) (p:Int):∃ R,Zek l p R:=by
 by_cases h0:(ZY p).1=0
 ·exact ⟨[],by unfold Zek;rw [Yf h0]⟩
 ·by_cases hc:∃ i w,CwE (· ∈ l.filter (kindOk (ZY p).1)) (fun e=>ofB (ZY p).2 e.kind) (!decide ((ZY p).2=0)) i w
  ·obtain ⟨w,hw⟩:=ZqP hc
   exact ⟨w,by unfold Zek;rw [Yc h0];exact .inr hw⟩
  ·exact ⟨[],by unfold Zek;rw [Yc h0];exact .inl ⟨rfl,fun j w h=>hc ⟨j,w,h⟩⟩⟩
theorem Zc8.ne {B:Zg→Prop} {m:Zg→Bool} {need:Bool} {w:List Zg} (h:Zc8 B m need w):w≠[]:=by
 obtain ⟨j,h1,_⟩:=h
 exact h1.1
theorem ZsK {l:List Zg} {mk mu:Int} (hm:bits .and .i64 mu 14=mu):Ze3 l mk mu ↔ ∃ i w,CwE (· ∈ l.filter (kindOk mk)) (fun e=>ofB mu e.kind) (!decide (mu=0)) i w:=by
 have hcw:∀ i w,CwE (· ∈ l.filter (kindOk mk)) (fun e=>ofB mu e.kind) (!decide (mu=0)) i w ↔ CwE (· ∈ l.filter (kindOk mk)) (fun e=>ZgX mu e.kind) (!decide (mu=0)) i w:=fun i w=>by
  unfold CwE
  refine Ybp fun _=>Ybp fun _=>Ybp fun _=>?_
  unfold ZgX
  rw [hm]
  by_cases hz:mu=0
  ·simp [hz]
  ·simp [hz]
 have h1:=ZvC (B:=(· ∈ l.filter (kindOk mk))) (m:=fun e=>ZgX mu e.kind) (need:=!decide (mu=0)) (fun hn e=>by
  unfold ZgX
  rw [hm]
  simp at hn
  simp [hn])
 have h2:Ze3 l mk mu ↔ ∃ e,e ∈ l.filter (kindOk mk)∧ZgX mu e.kind=true∧(e.dst=e.src∨Rch (fun x y=>∃ e,e ∈ l.filter (kindOk mk)∧e.src=x∧e.dst=y) e.dst e.src):=Iff.rfl
 rw [h2,← h1]
 exact ⟨fun ⟨i,w,h⟩=>⟨i,w,(hcw i w).2 h⟩,fun ⟨i,w,h⟩=>⟨i,w,(hcw i w).1 h⟩⟩
theorem ZvV {g:Zr} {p:Int} {R:List Zg} (hR:Zek (Zab g) p R):okH g p R=true ↔ PhB g p:=by
 unfold PhB okH
 by_cases h23:p=2∨p=3
 ·rw [Yf h23,Yf h23,Yq]
 ·rw [Yc h23,Yc h23,Yq]
  unfold Zek at hR
  by_cases h0:(ZY p).1=0
  ·rw [Yf h0] at hR
   exact ⟨fun h=>absurd hR h,fun h=>absurd h0 h.1⟩
  ·rw [Yc h0] at hR
   rw [ZsK (ZpC h0).2.1]
   rcases hR with ⟨h1,h2⟩ | h1
   ·exact ⟨fun h=>absurd h1 h,fun ⟨_,i,w,h⟩=>absurd h (h2 i w)⟩
   ·refine ⟨fun _=>⟨h0,?_⟩,fun _=>h1.ne⟩
    obtain ⟨j,h2,_⟩:=h1
    exact ⟨j,_,h2⟩
structure Zl9 (x y:Zr):Prop where
 walk:∀ p R,Zek (Zab x) p R→Zek (Zab y) p R
 bads:∀ p,ZaP y p PT1=ZaP x p PT1
theorem Zl9.wit {x y:Zr} (h:Zl9 x y) (p:Int) (R:List Zg):ZpU y p R=ZpU x p R∧okH y p R=okH x p R:=by
 have e:(ZaP y p fun _=>true)=ZaP x p fun _=>true:=h.bads p
 unfold ZpU okH
 rw [e]
 exact ⟨rfl,rfl⟩
theorem ZjH (g:Zr):ZnE ltE (Zab g):=by
 unfold Zab ZfW
 rw [Ybk,show (HvD.edge ∘ fun e=>(⟨e,cntA (wwC PT1 g) (rdC PT1 g) e⟩:HvD))=id from rfl,List.map_id]
 exact (Zbn Zbu _).1
theorem Zes.alike2 {x y:Zr} {id:Int} (h:Zes x y id):Zl9 y x:=⟨fun p R hR=>by
 have e:Zab y=Zab x:=ZdS Zbu (ZjH y) (ZjH x) fun e=>by rw [Zep h.ry,Zep h.rx];exact h.edge
 rw [← e];exact hR,fun p=>(h.bads p).symm⟩
theorem ZuZ {g:Zr} (hg:ZS g) {k z:Int} (hz:z ∈ getO g.orders k):∃ t ∈ g.txs,t.id=z∧t.done=true:=by
 obtain ⟨_,_,_,_,_,h6⟩:=ZbQ.1 hg
 obtain ⟨t,h4,h5,h7,_⟩:=ZbH.1 ((h6 k).mem_iff.1 hz)
 exact ⟨t,h4,h5,h7⟩
theorem ZiY {l:List Int} {id:Int} (h:id ∉ l):withoutO l id=l:=YbI.2 fun x hx=>by simp;exact fun e=>h (e ▸ hx)
theorem Zsq {g:Zr} {id:Int} {t:TxD} (hs:Za9 g) (h:(Z5 g id).2=0) (ht:Z3 g.txs id=some t) (hd:t.done=false):Zes (Z5 g id).1 g id:=by
 obtain ⟨h1,h2,h3,h4⟩:=ZvI h
 have hid:id≠0:=by
  have:=ZvU h1 (findT_mem ht).1
  rw [(findT_mem ht).2] at this;omega
 refine ⟨ZjL hs h,h1,fun k=>?_,by rw [h4],fun u hu e=>?_,fun u hu o ho hr=>?_⟩
 ·rw [h4,ZhD (Zas h1).2]
  unfold ZhJ
  rw [Yc (fun h9=>by cases h9.1)]
  refine (ZiY fun hz=>?_).symm
  obtain ⟨u,u1,u2,u3⟩:=ZuZ h1 hz
  have:=Zdo (Zas h1).1 u1
  rw [u2] at this
  rw [show (Zce id).id=id from rfl,ht] at this
  have:=YaQ this
  rw [← this,hd] at u3;cases u3
 ·have:=Zdo (Zas h1).1 hu
  rw [e,ht] at this
  exact .inl (YaQ this ▸ hd)
 ·rw [h4] at hu
  have hu2:=YU.1 hu
  exact ZqB (t:=Zce id) h1 hid (fun _=>rfl) h3 u hu2.1 (show u.id≠id by simpa using hu2.2) o ho hr
theorem ZtZ {j:Int} {w:List Zg} (h:CwE (· ∈ [(⟨1,2,3,1⟩:Zg),⟨2,1,3,2⟩]) (fun e=>ofB 8 e.kind) true j w):2≤w.length∧j=1∧(w.length=2→w = [⟨1,2,3,1⟩,⟨2,1,3,2⟩]):=by
 obtain ⟨h1,h2,h3,_⟩:=h
 cases w with
 | nil=>exact absurd rfl h1
 | cons e w=>
  obtain ⟨he,ha,h4⟩:=h2
  rcases Yj.1 he with rfl | he
  ·have ha:(1:Int)=j:=ha
   subst ha
   cases w with
   | nil=>have h4:(2:Int)=1:=h4;omega
   | cons f w=>
    obtain ⟨hf,hb,h5⟩:=h4
    refine ⟨by simp,rfl,fun hl=>?_⟩
    have hw:w = []:=by simpa using hl
    subst hw
    rcases Yj.1 hf with rfl | hf
    ·have hb:(1:Int)=2:=hb;omega
    ·rw [Yk.1 hf]
  ·have he:=Yk.1 he
   subst he
   have ha:(2:Int)=j:=ha
   subst ha
   have:=h3 ⟨2,1,3,2⟩ (by simp)
   have:(2:Int)≤1:=this
   omega
theorem Zom:Zek (Zab Zef) 5 [⟨1,2,3,1⟩,⟨2,1,3,2⟩]:=by
 have hf:(Zab Zef).filter (kindOk (ZY 5).1) = [⟨1,2,3,1⟩,⟨2,1,3,2⟩]:=by rw [Znw];decide
 unfold Zek
 rw [Yc (by decide),hf]
 have h8:(ZY 5).2=8:=rfl
 rw [h8]
 refine .inr ⟨1,⟨by simp,⟨by simp,rfl,by simp,rfl,rfl⟩,?_,fun _=>⟨⟨1,2,3,1⟩,by simp,by decide⟩⟩,fun j' w' k=>?_⟩
 ·intro e he
  rcases Yj.1 he with rfl | he
  ·show (1:Int)≤2;decide
  ·rw [Yk.1 he];show (1:Int)≤1;decide
 ·obtain ⟨k1,k2,k3⟩:=ZtZ k
  by_cases hl:w'.length=2
  ·exact .inr ⟨hl.symm,.inr ⟨k2.symm,.inl (k3 hl)⟩⟩
  ·exact .inl (by show 2<_;omega)
theorem Zlf:ZpU Zef 5 [⟨1,2,3,1⟩,⟨2,1,3,2⟩] = ZiB∧okH Zef 5 [⟨1,2,3,1⟩,⟨2,1,3,2⟩] = true:=⟨rfl,by decide⟩
theorem Zou:ZgU ZiB.walk ZiB.walk.length = [49,32,114,119,49,32,50,32,114,119,50,32,49]:=by decide +kernel
theorem ZmA:∀ e ∈ ZiB.walk,Zgi e:=fun e he=>by
 rcases Yj.1 he with rfl | he
 ·unfold Zgi;decide
 ·rw [Yk.1 he];unfold Zgi;decide
theorem Zm7  : FnP prog 10 [] (.bool true):=by
 refine FnP.mk func10 Z ntmps10 Z fun B a w F V hfr G=>Ya ?_
 refine rZ G qB V [0] [0] fun G=>Ya ?_
 refine Zb G (qf (oP (ZvB) func32 Args.nil) trivial qz (qf (oH [.slice none 0 0,.slice none 0 0] 101) trivial qz (qf (oA 2 101 .same (.conv .t .agg)) r2 r1 qZ))) V [1,0] [101,0] (fun _=>rfl) (fun _=>rfl) fun τ a w F G=>?_
 try dsimp only [RS.sub,SF.sub,CF.sub,csub,Anc.sub,List.map,Zf,xL,xM,Nat.reduceAdd,xD,xE,xT,xU,xC,xN,zCF,Zv,rTx,ZH,ZU,Zn,rOp] at G
 generalize τ 1=v1 at G
 refine Za (Ya (Zb G (qe 2 101 r1 r1 (qf (oP (Zun Zef Zdq.1 Zdq.2 5 [⟨1,2,3,1⟩,⟨2,1,3,2⟩] Zom) func12 (Args.two (.pagg .t) qi)) r1 qz (qR rr (qf (Zh .t Z) r1 qz (qf (Zh .t Z) r1 qz (qf (oH [.int .i64 0,.slice none 0 0,.int .i64 0,.int .i64 0,.int .i64 0,.int .i64 0,.int .i64 0] 102) trivial qz (qf (oA 7 102 .same (.conv .t .agg)) r2 r1 (qO rr qZ)))))))) V [3,2,1,0] [102,101,0] (fun _=>rfl) (fun _=>rfl) fun τ a w F G=>?_))
 try dsimp only [RS.sub,SF.sub,CF.sub,csub,Anc.sub,List.map,Zf,xL,xM,Nat.reduceAdd,xD,xE,xT,xU,xC,xN,zCF,ldSF,Zv,rTx,ZH,ZU,Zn,rOp] at G
 generalize τ 2=v2 at G
 rw [Zlf.1,Zlf.2] at G
 try dsimp only [ZkS] at G
 refine Za (Ya (rZ G (qR rr (qR rr (qk Z (fun h=>oL true 2 101 .is) r2 r1 (qk Z (fun h=>oL true 7 102 .is) r2 r1 (qk Z (fun h=>oP (Zvo) func33 (Args.two (.pagg (.w h)) (.pagg (.w h)))) r3 qz (qf (ZE .t .t) r2 qz (qR rr (qv 1 102 Z r2 r1 (qw 102 Z r2 r1 (qk Z (fun h=>oP (ZtF ZiB.walk (by decide) ZmA) func34 (Args.one (.w h))) r2 qz (qk Z (fun h=>ZrN Ycu (.w h) (.cs kr)) r2 qz (qf (ZE .t .t) r2 qz (qO rr qZ))))))))))))) V [0] [102,101,0] fun G=>Yh ?_))
 refine Zs hfr G Z Z Z (.bool (by rw [Zou];rfl))
theorem ZuI (g x:Zr) (hsm:Za9 g) (hAR:(wwC PT1 g).length+(rdC PT1 g).length≤100000) (hsx:Za9 x) (hAx:(wwC PT1 x).length+(rdC PT1 x).length≤100000) (ha:Zl9 g x):FnP prog 26 [.agg (Zv g),.agg (Zv x)] (.bool true):=by
 refine FnP.mk func26 Z ntmps26 Z fun B a w F V hfr G=>Ya ?_
 refine Zb G (qx 101 r1 (qx 102 r1 qB)) V [4,3,2] [102,101,0] (fun _=>rfl) (fun _=>rfl) fun τ a w F G=>?_
 try dsimp only [RS.sub,SF.sub,CF.sub,csub,Anc.sub,List.map,zCF,Zv,rTx,ZH,ZU,Zn,rOp,ZkS] at G
 generalize τ 2=v2,τ 3=v3 at G
 refine Za (Ya (Ya (rZ G (qI qZ) V [5,4,3,2] [102,101,0] fun G=>Yg ?_)))
 replace G:=G.ent (i:=5) (s':=.pv (.int .i64 ((1:Nat):Int))) Z (.int Z)
 refine Zk (σ:=Nat) [2,3,4] [0,101,102] (fun s=>[(5,.pv (.int .i64 (s:Int)))]) (fun s=>[]) (fun s=>True) (fun s=>6 - s) (1) G ⟨rfl,rfl,rfl,rfl,tv⟩ ⟨rfl,rfl,rfl,tv⟩ trivial ?_
 clear G;intro p a w F hC G
 try dsimp only at hC
 obtain ⟨F,G⟩:=G.nM [5,4,3,2] [102,101,0]
 try dsimp only at G
 refine Ya (Ya (rZ G (qR rr (qf (ZaA .t qi) r1 qz qZ)) V [11,5,4,3,2] [102,101,0] fun G=>?_))
 refine Zc G Z (fun hc0=>?_) (fun hc0=>?_)
 ·have hp6:p<6:=by have h9:=Yr hc0;omega
  obtain ⟨R,hR⟩:=Zsv (Zab g) (p:Int)
  obtain ⟨hw1,hw2⟩:=ha.wit (p:Int) R
  refine Ye (Za (Ya (Yg (Ya (Zb G (qe 2 101 r1 r1 (qR rr (qf (oP (Zun g hsm hAR (p:Int) R hR) func12 (Args.two (.pagg .t) .t)) r2 qz (qR rr (qf (Zh .t Z) r1 qz (qf (Zh .t Z) r1 qz (qf (oH [.int .i64 0,.slice none 0 0,.int .i64 0,.int .i64 0,.int .i64 0,.int .i64 0,.int .i64 0] 103) trivial qz (qf (oA 7 103 .same (.conv .t .agg)) r2 r1 (qO rr qZ))))))))) V [7,6,5,4,3,2] [103,102,101,0] (fun _=>rfl) (fun _=>rfl) fun τ a w F G=>?_)))))
  try dsimp only [RS.sub,SF.sub,CF.sub,csub,Anc.sub,List.map,Zf,xL,xM,Nat.reduceAdd,xD,xE,xT,xU,xC,xN,zCF,ldSF,Zv,rTx,ZH,ZU,Zn,rOp,ZkS] at G
  generalize τ 6=v6 at G
  refine Za (Ya (Zb G (qe 2 102 r1 r1 (qR rr (qf (oP (Zun x hsx hAx (p:Int) R (ha.walk _ R hR)) func12 (Args.two (.pagg .t) .t)) r2 qz (qR rr (qf (Zh .t Z) r1 qz (qf (Zh .t Z) r1 qz (qf (oH [.int .i64 0,.slice none 0 0,.int .i64 0,.int .i64 0,.int .i64 0,.int .i64 0,.int .i64 0] 104) trivial qz (qf (oA 7 104 .same (.conv .t .agg)) r2 r1 (qO rr qZ))))))))) V [9,8,7,6,5,4,3,2] [104,103,102,101,0] (fun _=>rfl) (fun _=>rfl) fun τ a w F G=>?_))
  try dsimp only [RS.sub,SF.sub,CF.sub,csub,Anc.sub,List.map,Zf,xL,xM,Nat.reduceAdd,xD,xE,xT,xU,xC,xN,zCF,ldSF,Zv,rTx,ZH,ZU,Zn,rOp,ZkS] at G
  generalize τ 8=v8 at G
  refine Za (Ya (rZ G (qR rr (qR rr (qf (Zn6 underlying4 .t .t) r2 qz (qR rr (qk Z (fun h=>oL true 7 103 .is) r2 r1 (qk Z (fun h=>oL true 7 104 .is) r2 r1 (qk Z (fun h=>oP (Zt0 (ZpU g (p:Int) R) (ZpU x (p:Int) R)) func22 (Args.two (.pagg (.w h)) (.pagg (.w h)))) r3 qz (qk Z (fun h=>o_not (.w h)) r2 qz (qf (Zak .t .t) r2 qz (qR rr (qk Z (fun h=>oL true 2 101 .is) r2 r1 (qm Z Z Z Z (qk Z (fun h=>oP (Zqp g hsm hAR (p:Int) (okH g (p:Int) R) (ZvV hR)) func31 (Args.two (.pagg (.w h)) (.w h))) r3 qz (qm Z Z Z Z (qk Z (fun h=>Zn6 underlying4 (.w h) (.w h)) r3 qz (qf (Zak .t .t) r2 qz (qR rr (qk Z (fun h=>oL true 2 102 .is) r2 r1 (qm Z Z Z Z (qk Z (fun h=>oP (Zqp x hsx hAx (p:Int) (okH x (p:Int) R) (ZvV (ha.walk _ R hR))) func31 (Args.two (.pagg (.w h)) (.w h))) r3 qz (qm Z Z Z Z (qk Z (fun h=>Zn6 underlying4 (.w h) (.w h)) r3 qz (qf (Zak .t .t) r2 qz qZ))))))))))))))))))))))) V [48,5,4,3,2] [104,103,102,101,0] fun G=>?_))
  refine Zc G Z (fun hc1=>?_) (fun hc1=>?_)
  ·rw [hw1,hw2] at hc1;simp at hc1
  refine Ye (Zi (Za (rZ G (qR rr (qp r1 (qO rr qZ))) V [5,4,3,2] [104,103,102,101,0] fun G=>?_)))
  replace G:=G.ent (i:=5) (s':=.pv (.int .i64 ((p+1:Nat):Int))) Z (.int (Zd ow))
  obtain ⟨F,G⟩:=G.nM [4,3,2,5] [102,101,0]
  exact ⟨(p+1),F,tv,G,by omega⟩
 refine Yx (Zj (Zj (Zo (Za (Ya (rZ G qB V [4] [102,101,0] fun G=>Yh ?_))))))
 refine Zs hfr G Z Z Z (.bool Z)
theorem Zrk {n:Nat} {g:Zr} {id:Int} (h:Fit n g):Fit (n+1) (Z5 g id).1:=by
 have:=h.doH (e:=⟨1,Zce id,⟨0,[]⟩,0⟩) ⟨Yw _,Yw _⟩
 unfold doH at this
 rw [Yc (show ¬ (1:Int)=0 by decide),Yf rfl] at this
 exact this
theorem ZjZ (g:Zr) (id:Int) (hb:∀ t ∈ g.txs,t.ops.length*32≤140737488351232):FnP prog 9 [.agg (Zv g),.int .i64 id] (.bool true):=by
 refine FnP.mk func9 Z ntmps9 Z fun B a w F V hfr G=>Ya ?_
 refine Zb G (qx 101 r1 qB) V [4,2,1] [101,0] (fun _=>rfl) (fun _=>rfl) fun τ a w F G=>?_
 try dsimp only [RS.sub,SF.sub,CF.sub,csub,Anc.sub,List.map,zCF,Zv,rTx,ZH,ZU,Zn,rOp,rTx] at G
 generalize τ 2=v2 at G
 refine Za (Ya (Ya (rZ G (qf (oP (Zm7) func10 Args.nil) trivial qz (qf (o_not .t) r1 qz qZ)) V [10,4,2,1] [101,0] fun G=>?_)))
 refine Zc G Z (fun hc0=>?_) (fun hc0=>?_)
 ·simp at hc0
 refine Ye (Za (Ya (Zb G (qe 2 101 r1 r1 (qR rr (qf (oP (ZoK g id hb) func28 (Args.two (.pagg .t) .t)) r2 qz (qR rr (qf (Zh .t Z) r1 qz (qf (Zh .t Z) r1 qz (qf (oH [.int .i64 0,.bool false,.slice none 0 0] 102) trivial qz (qf (oA 3 102 .same (.conv .t .agg)) r2 r1 (qO rr qZ))))))))) V [6,5,4,2,1] [102,101,0] (fun _=>rfl) (fun _=>rfl) fun τ a w F G=>?_)))
 try dsimp only [RS.sub,SF.sub,CF.sub,csub,Anc.sub,List.map,Zf,xL,xM,Nat.reduceAdd,xD,xE,xT,xU,xC,xN,zCF,ldSF,Zv,rTx,ZH,ZU,Zn,rOp,rTx] at G
 generalize τ 5=v5 at G
 refine Za (Ya (Ya (rZ G (qe 2 101 r1 r1 (qf (oP (ZrL g) func11 (Args.one (.pagg .t))) r1 qz (qf (o_not .t) r1 qz (qR rr (qm Z Z Z Z (qk Z (fun h=>o_not (.w h)) r2 qz (qf (Zak .t .t) r2 qz (qR rr (qv 1 102 Z r2 r1 (qw 102 Z r2 r1 (qf (Zak .t .t) r2 qz qZ))))))))))) V [27,4,2,1] [102,101,0] fun G=>?_)))
 refine Zc G Z (fun hc1=>?_) (fun hc1=>?_)
 ·refine Ya (rZ G qB V [4,2,1] [102,101,0] fun G=>(Yh (Zl ?_)))
  refine Zs hfr G Z Z Z (.bool (by simp))
 have h9:=hc1
 simp at h9
 have hlt:Zck g:=h9.1.1
 obtain ⟨tt,htf⟩:=Ybf.1 h9.1.2
 have hd:tt.done=false:=by have h8:=h9.2;rw [htf] at h8;exact h8
 have hf:=Zqh hlt
 obtain ⟨hsm,hAR⟩:=Zj3 hf (by decide)
 obtain ⟨hsx,hAx⟩:=Zj3 (Zrk hf) (by decide)
 refine Ye (Za (Ya (Zb G (qe 2 101 r1 r1 (qR rr (qf (oP (Zqn g id hsm) func30 (Args.two (.pagg .t) .t)) r2 qz (qR rr (qf (Zh .t Z) r1 qz (qf (Zh .t Z) r1 qz (qf (oH [.slice none 0 0,.slice none 0 0] 103) trivial qz (qf (oA 2 103 .same (.conv .t .agg)) r2 r1 (qO rr qZ))))))))) V [8,7,4,2] [103,102,101,0] (fun _=>rfl) (fun _=>rfl) fun τ a w F G=>?_)))
 try dsimp only [RS.sub,SF.sub,CF.sub,csub,Anc.sub,List.map,Zf,xL,xM,Nat.reduceAdd,xD,xE,xT,xU,xC,xN,zCF,ldSF,Zv,rTx,ZH,ZU,Zn,rOp,rTx] at G
 generalize τ 7=v7 at G
 refine Za (Ya (rZ G (qR rr (qf (o_neq .t qi) r1 qz (qR rr (qk Z (fun h=>oL true 2 101 .is) r2 r1 (qk Z (fun h=>oL true 2 103 .is) r2 r1 (qk Z (fun h=>oP (ZuI g (Z5 g id).1 hsm hAR hsx hAx (Zsq hsm (by simpa using h) htf hd).alike2) func26 (Args.two (.pagg (.w h)) (.pagg (.w h)))) r3 qz (qf (Zak .t .t) r2 qz (qO rr qZ)))))))) V [4] [103,102,101,0] fun G=>Yh ?_))
 refine Zs hfr G Z Z Z (.bool (by simp))
end Go.Proofs.YtlkpllemoepamaaGreat
