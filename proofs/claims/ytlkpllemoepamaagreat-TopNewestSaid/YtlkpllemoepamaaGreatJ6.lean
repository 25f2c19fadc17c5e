/- Laws and walks. No condition beyond what each says. -/
import Derived.Test.YtlkpllemoepamaaGreatJ5
namespace Go.Proofs.YtlkpllemoepamaaGreat
open Go Go.Gm Tryz
set_option linter.unusedVariables false
set_option linter.unusedSimpArgs false
set_option maxHeartbeats 4000000
set_option maxRecDepth 8000
section
variable {B B':Zg→Prop} {m:Zg→Bool} {need:Bool}
theorem CwE.mono (V:∀ e,B e→B' e) {i:Int} {w:List Zg} (h:CwE B m need i w):CwE B' m need i w:=⟨h.1,Zf6 (fun e _=>V e) h.2.1,h.2.2⟩
theorem Ztb {z:Int} (hs:∀ e,B e→B' e) (hn:∀ e,B' e→B e∨e.dst=z) (hz:∀ e,B' e→e.src≠z) {i:Int} {w:List Zg} : CwE B' m need i w ↔ CwE B m need i w:=by
 refine ⟨fun h=>⟨h.1,Zf6 (fun e he hb=>?_) h.2.1,h.2.2⟩,CwE.mono hs⟩
 rcases hn e hb with k | k
 ·exact k
 ·have nxt:∀ {a b:Int} {w:List Zg},ZbE B' a w b → ∀ y ∈ w,y.dst=b ∨ ∃ z ∈ w,z.src=y.dst:=by
   intro a b w
   induction w generalizing a with
   | nil=>intro _ y hy;cases hy
   | cons z w ih=>
    intro k y hy
    rcases Yj.1 hy with rfl | hy
    ·cases w with
     | nil=>exact .inl k.2.2
     | cons z w=>exact .inr ⟨z,by simp,k.2.2.2.1⟩
    ·rcases ih k.2.2 y hy with q | ⟨z2,q1,q2⟩
     ·exact .inl q
     ·exact .inr ⟨z2,by simp [q1],q2⟩
  have first:∃ x ∈ w,x.src=i:=by
   cases w with
   | nil=>exact absurd rfl h.1
   | cons x w=>exact ⟨x,by simp,h.2.1.2.1⟩
  obtain ⟨x,x1,x2⟩:∃ x ∈ w,x.src=e.dst:=by
   rcases nxt h.2.1 e he with q | q
   ·rw [q];exact first
   ·exact q
  exact absurd (x2.trans k) (hz x (Zey h.2.1 x x1))
theorem ZqG {B'':Zg→Prop} (h:∀ i w,CwE B m need i w ↔ CwE B'' m need i w) {w:List Zg} : Zb1 B m need w ↔ Zb1 B'' m need w:=by
 unfold Zb1
 constructor
 ·rintro ⟨j,h1,h2⟩;exact ⟨j,(h j w).1 h1,fun j' w' k=>h2 j' w' ((h j' w').2 k)⟩
 ·rintro ⟨j,h1,h2⟩;exact ⟨j,(h j w).2 h1,fun j' w' k=>h2 j' w' ((h j' w').1 k)⟩
theorem Zrw {i:Int} {w:List Zg} (h:CwE B m need i w):∃ e,w.head? = some e∧B e∧e.src=i:=by
 cases w with
 | nil=>exact absurd rfl h.1
 | cons e w=>exact ⟨e,rfl,h.2.1.1,h.2.1.2.1⟩
end
theorem Zmk {α:Type} {P:α→Prop} {R:α→α→Prop} (tot:∀ a b,P a→P b→R a b∨R b a) (tr:∀ a b c,P a→P b→P c→R a b→R b c→R a c):∀ L:List α,(∃ a ∈ L,P a) → ∃ a ∈ L,P a ∧ ∀ b ∈ L,P b→R a b
 | [],h=>by obtain ⟨a,h,_⟩:=h;cases h
 | x :: L,h=>by
  by_cases hL:∃ a ∈ L,P a
  ·obtain ⟨a,a1,a2,a3⟩:=Zmk tot tr L hL
   by_cases hx:P x
   ·rcases tot x a hx a2 with k | k
    ·refine ⟨x,by simp,hx,fun b hb hp=>?_⟩
     rcases Yj.1 hb with rfl | hb
     ·rcases tot b b hp hp with q | q <;> exact q
     ·exact tr _ _ _ hx a2 hp k (a3 b hb hp)
    ·refine ⟨a,by simp [a1],a2,fun b hb hp=>?_⟩
     rcases Yj.1 hb with rfl | hb
     ·exact k
     ·exact a3 b hb hp
   ·refine ⟨a,by simp [a1],a2,fun b hb hp=>?_⟩
    rcases Yj.1 hb with rfl | hb
    ·exact absurd hp hx
    ·exact a3 b hb hp
  ·obtain ⟨a,a1,a2⟩:=h
   have e:a=x:=(Yj.1 a1).resolve_right fun k=>hL ⟨a,k,a2⟩
   subst e
   refine ⟨a,by simp,a2,fun b hb hp=>?_⟩
   rcases Yj.1 hb with rfl | hb
   ·rcases tot b b hp hp with q | q <;> exact q
   ·exact absurd ⟨b,hb,hp⟩ hL
def Ziw (l:List Zg):Nat→List (List Zg)
 | 0=>[[]]
 | k+1=>l.flatMap fun e=>(Ziw l k).map (e :: ·)
theorem Zhq {l:List Zg} : ∀ {w:List Zg},(∀ e ∈ w,e ∈ l)→w ∈ Ziw l w.length
 | [],_=>by simp [Ziw]
 | e :: w,h=>by
  show e :: w ∈ l.flatMap _
  exact YaI.2 ⟨e,h e (by simp),Yu.2 ⟨w,Zhq fun x hx=>h x (by simp [hx]),rfl⟩⟩
def RwE (w v:List Zg):Prop:=∃ x y,w.head? = some x∧v.head? = some y∧(x.src<y.src∨(x.src=y.src∧(v=w∨LtE w v)))
theorem LtE.trans:∀ {w v u:List Zg},LtE w v→LtE v u→LtE w u
 | x :: w,y :: v,z :: u,h,k=>by
  rcases h with h | ⟨rfl,h⟩ <;> rcases k with k | ⟨rfl,k⟩
  ·left;unfold ltK at *;omega
  ·exact .inl h
  ·exact .inl k
  ·exact .inr ⟨rfl,h.trans k⟩
 | [],_,_,h,_=>h.elim
 | _ :: _,[],_,h,_=>h.elim
 | _ :: _,_ :: _,[],_,k=>k.elim
theorem Zoc {B:Zg→Prop} {a b c:Int} : ∀ {w v:List Zg},w.length=v.length→ZbE B a w b→ZbE B a v c→w=v∨LtE w v∨LtE v w
 | [],[],_,_,_=>.inl rfl
 | x :: w,y :: v,hl,h,k=>by
  by_cases e:x=y
  ·subst e
   rcases Zoc (by simpa using hl) h.2.2 k.2.2 with q | q | q
   ·exact .inl (by rw [q])
   ·exact .inr (.inl (.inr ⟨rfl,q⟩))
   ·exact .inr (.inr (.inr ⟨rfl,q⟩))
  ·have hs:x.src=y.src:=h.2.1.trans k.2.1.symm
   have:ltK x y∨ltK y x:=by
    apply Ybw
    intro hn
    apply e
    cases x;cases y
    unfold ltK at hn
    simp only [Zg.mk.injEq] at *
    omega
   rcases this with q | q
   ·exact .inr (.inl (.inl q))
   ·exact .inr (.inr (.inl q))
 | [],_ :: _,hl,_,_=>by simp at hl
 | _ :: _,[],hl,_,_=>by simp at hl
theorem Zst {l:List Zg} {m:Zg→Bool} {need:Bool} (h:∃ i w,CwE (· ∈ l) m need i w):∃ w,Zb1 (· ∈ l) m need w:=by
 obtain ⟨k,⟨k0,i,w,hw,hk⟩,hmin⟩:=ZpF (P:=fun k=>0≤k ∧ ∃ i w,CwE (· ∈ l) m need i w∧(w.length:Int)=k) (fun x hx=>hx.1) (u:=((Classical.choose (YbN h)).length:Int)) ⟨by omega,_,_,YbN (YbN h),rfl⟩
 have hin:∀ {i:Int} {v:List Zg},CwE (· ∈ l) m need i v→v.length=w.length→v ∈ Ziw l w.length:=fun hv hl=>by
  rw [← hl];exact Zhq (Zey hv.2.1)
 have hh:∀ {i:Int} {v:List Zg},CwE (· ∈ l) m need i v → ∃ x,v.head? = some x∧x.src=i:=fun hv=>by
  obtain ⟨x,x1,_,x3⟩:=Zrw hv;exact ⟨x,x1,x3⟩
 obtain ⟨v,v1,⟨j,v2⟩,v3⟩:=Zmk (P:=fun v=>∃ i,CwE (· ∈ l) m need i v∧v.length=w.length) (R:=RwE) (fun a b ⟨i,ha,la⟩ ⟨j,hb,lb⟩=>by
   obtain ⟨x,x1,x2⟩:=hh ha
   obtain ⟨y,y1,y2⟩:=hh hb
   by_cases e:i=j
   ·subst e
    rcases Zoc ow ha.2.1 hb.2.1 with q | q | q
    ·exact .inl ⟨x,y,x1,y1,.inr ⟨by omega,.inl q.symm⟩⟩
    ·exact .inl ⟨x,y,x1,y1,.inr ⟨by omega,.inr q⟩⟩
    ·exact .inr ⟨y,x,y1,x1,.inr ⟨by omega,.inr q⟩⟩
   ·by_cases hlt:i<j
    ·exact .inl ⟨x,y,x1,y1,.inl ow⟩
    ·exact .inr ⟨y,x,y1,x1,.inl ow⟩) (fun a b c _ _ _ ⟨x,y,x1,y1,h1⟩ ⟨y',z,y2,z1,h2⟩=>by
   have e:y' = y:=Ya9 (y2.symm.trans y1)
   subst e
   refine ⟨x,z,x1,z1,?_⟩
   rcases h1 with h1 | ⟨h1,h3⟩ <;> rcases h2 with h2 | ⟨h2,h4⟩
   ·exact .inl ow
   ·exact .inl ow
   ·exact .inl ow
   ·refine .inr ⟨by omega,?_⟩
    rcases h3 with rfl | h3 <;> rcases h4 with rfl | h4
    ·exact .inl rfl
    ·exact .inr h4
    ·exact .inr h3
    ·exact .inr (h3.trans h4)) (Ziw l w.length) ⟨w,hin hw rfl,i,hw,rfl⟩
 refine ⟨v,j,v2.1,fun j' w' k=>?_⟩
 have hlen:=hmin (w'.length:Int) ⟨by omega,j',w',k,rfl⟩
 by_cases hl:w'.length=w.length
 ·refine .inr ⟨by rw [hl,v2.2],?_⟩
  obtain ⟨x,y,x1,y1,h1⟩:=v3 w' (hin k hl) ⟨j',k,hl⟩
  obtain ⟨x',x2,x3⟩:=hh v2.1
  obtain ⟨y',y2,y3⟩:=hh k
  have e1:x' = x:=Ya9 (x2.symm.trans x1)
  have e2:y' = y:=Ya9 (y2.symm.trans y1)
  subst e1;subst e2
  rcases h1 with h1 | ⟨h1,h2⟩
  ·exact .inl ow
  ·exact .inr ⟨by omega,h2⟩
 ·exact .inl (by rw [v2.2];omega)
theorem Zso (l:List Zg) (p:Int):∃ R,ZdP l p R:=by
 by_cases h0:(ZZ p).1=0
 ·exact ⟨[],by unfold ZdP;rw [Yf h0]⟩
 ·by_cases hc:∃ i w,CwE (· ∈ l.filter (kindOk (ZZ p).1)) (fun e=>ofB (ZZ p).2 e.kind) (!decide ((ZZ p).2=0)) i w
  ·obtain ⟨w,hw⟩:=Zst hc
   exact ⟨w,by unfold ZdP;rw [Yc h0];exact .inr hw⟩
  ·exact ⟨[],by unfold ZdP;rw [Yc h0];exact .inl ⟨rfl,fun j w h=>hc ⟨j,w,h⟩⟩⟩
theorem Zb1.ne {B:Zg→Prop} {m:Zg→Bool} {need:Bool} {w:List Zg} (h:Zb1 B m need w):w≠[]:=by
 obtain ⟨j,h1,_⟩:=h
 exact h1.1
theorem ZqR {l:List Zg} {mk mu:Int} (hm:bits .and .i64 mu 14=mu):ZeS l mk mu ↔ ∃ i w,CwE (· ∈ l.filter (kindOk mk)) (fun e=>ofB mu e.kind) (!decide (mu=0)) i w:=by
 have hcw:∀ i w,CwE (· ∈ l.filter (kindOk mk)) (fun e=>ofB mu e.kind) (!decide (mu=0)) i w ↔ CwE (· ∈ l.filter (kindOk mk)) (fun e=>ZgT mu e.kind) (!decide (mu=0)) i w:=fun i w=>by
  unfold CwE
  refine Ybl fun _=>Ybl fun _=>Ybl fun _=>?_
  unfold ZgT
  rw [hm]
  by_cases hz:mu=0
  ·simp [hz]
  ·simp [hz]
 have h1:=Zve (B:=(· ∈ l.filter (kindOk mk))) (m:=fun e=>ZgT mu e.kind) (need:=!decide (mu=0)) (fun hn e=>by
  unfold ZgT
  rw [hm]
  simp at hn
  simp [hn])
 have h2:ZeS l mk mu ↔ ∃ e,e ∈ l.filter (kindOk mk)∧ZgT mu e.kind=true∧(e.dst=e.src∨Rch (fun x y=>∃ e,e ∈ l.filter (kindOk mk)∧e.src=x∧e.dst=y) e.dst e.src):=Iff.rfl
 rw [h2,← h1]
 exact ⟨fun ⟨i,w,h⟩=>⟨i,w,(hcw i w).2 h⟩,fun ⟨i,w,h⟩=>⟨i,w,(hcw i w).1 h⟩⟩
theorem ZvB {g:Zp} {p:Int} {R:List Zg} (hR:ZdP (Zab g) p R):okH g p R=true ↔ PhB g p:=by
 unfold PhB okH
 by_cases h23:p=2∨p=3
 ·rw [Yf h23,Yf h23,Yq]
 ·rw [Yc h23,Yc h23,Yq]
  unfold ZdP at hR
  by_cases h0:(ZZ p).1=0
  ·rw [Yf h0] at hR
   exact ⟨fun h=>absurd hR h,fun h=>absurd h0 h.1⟩
  ·rw [Yc h0] at hR
   rw [ZqR (ZpU h0).2.1]
   rcases hR with ⟨h1,h2⟩ | h1
   ·exact ⟨fun h=>absurd h1 h,fun ⟨_,i,w,h⟩=>absurd h (h2 i w)⟩
   ·refine ⟨fun _=>⟨h0,?_⟩,fun _=>h1.ne⟩
    obtain ⟨j,h2,_⟩:=h1
    exact ⟨j,_,h2⟩
structure ZlT (x y:Zp):Prop where
 walk:∀ p R,ZdP (Zab x) p R→ZdP (Zab y) p R
 bads:∀ p,ZaQ y p PT1=ZaQ x p PT1
theorem ZlT.wit {x y:Zp} (h:ZlT x y) (p:Int) (R:List Zg):Zo0 y p R=Zo0 x p R∧okH y p R=okH x p R:=by
 have e:(ZaQ y p fun _=>true)=ZaQ x p fun _=>true:=h.bads p
 unfold Zo0 okH
 rw [e]
 exact ⟨rfl,rfl⟩
theorem Zha {g:Zp} {t:TxD} (h:(ZL g t).2=0):ZV g∧ZaF t=0∧isK TxD.id t.id g.txs=false∧Zdw g t=true∧(ZL g t).1 = ⟨g.txs.take (lowK TxD.id t.id g.txs) ++ [t] ++ g.txs.drop (lowK TxD.id t.id g.txs),settleO t g.orders⟩:=by
 unfold ZL at h ⊢
 split at h
 ·rename_i h1;exact absurd h h1
 ·rename_i h1
  split at h
  ·cases h
  ·rename_i h2
   obtain ⟨a,b,c,d,_⟩:=ZpM (by decide) (Yay.1 h1)
   exact ⟨a,b,c,d,by rw [Yc h1,Yc h2]⟩
theorem Zow {g:Zp} {t:TxD} (hn:Zdw g t=true) {o:OpD} (ho:o ∈ t.ops) (hd:Zdu t.id o=true):(ZU g.txs o.tx).isSome=true:=by
 have hv:=Zsj ho hd
 have h0:o.read=true∧o.tx≠0:=by unfold Zdu at hd;simp at hd;exact hd.1
 have ev:ofO o = ⟨o.tx,o.key,o.nth⟩:=by unfold ofO;rw [Yf h0.1]
 have h4:=YaT.1 hn _ hv
 unfold Zj0 at h4
 rw [ev,Yc (by simp;omega),Yt] at h4
 exact h4.1
theorem Zea {g:Zp} {t:TxD} (h:(ZL g t).2=0):(∀ u ∈ g.txs,u.id≠t.id) ∧ ∀ u ∈ g.txs,∀ o ∈ u.ops,o.read=true→o.tx≠t.id:=by
 obtain ⟨h1,h2,h3,_⟩:=Zha h
 have hn:∀ u ∈ g.txs,u.id≠t.id:=fun u hu e=>by
  have:isK TxD.id t.id g.txs=true:=by unfold isK;rw [YaA];exact ⟨u,hu,by simpa using e⟩
  rw [h3] at this;cases this
 refine ⟨hn,fun u hu o ho hr e=>?_⟩
 have hid:1≤t.id:=Zmg h2
 have hd:Zdu u.id o=true:=by
  unfold Zdu
  have:=hn u hu
  rw [hr,YF ow,YF ow];rfl
 obtain ⟨_,_,a3,_⟩:=Zcm.1 h1
 have:=Zow (a3 u hu).2 ho hd
 rw [Zoi,e,h3] at this;cases this
theorem Zku {g:Zp} (hg:ZV g) {k z:Int} (hz:z ∈ getO g.orders k):∃ t ∈ g.txs,t.id=z∧t.done=true:=by
 obtain ⟨_,_,_,_,_,h6⟩:=Zcm.1 hg
 obtain ⟨t,h4,h5,h7,_⟩:=ZbC.1 ((h6 k).mem_iff.1 hz)
 exact ⟨t,h4,h5,h7⟩
theorem ZjV {l:List Int} {id:Int} (h:id ∉ l):withoutO l id=l:=Ybj.2 fun x hx=>by simp;exact fun e=>h (e ▸ hx)
theorem ZkJ {g:Zp} {t:TxD} (h:(ZL g t).2=0):g.txs=(ZL g t).1.txs.filter fun u=>!decide (u.id=t.id):=by
 obtain ⟨_,_,_,_,h5⟩:=Zha h
 rw [h5]
 show g.txs=List.filter _ (_ ++ [t] ++ _)
 rw [Yaa,Yaa,Yas (by simp),List.filter_nil,YR,← Yaa,YaG]
 exact (Ybj.2 fun u hu=>by simpa using (Zea h).1 u hu).symm
theorem ZtD {g:Zp} {t:TxD} (h:(ZL g t).2=0) (hi:t.done=false ∨ ∀ k,wcnt t.ops k=0) (k:Int):getO (ZL g t).1.orders k=getO g.orders k:=by
 obtain ⟨h1,_,_,_,h5⟩:=Zha h
 rw [h5,Zho (Zar h1).2]
 unfold ZhL
 rw [Yc (fun h9=>by rcases hi with hi | hi;rw [hi] at h9;cases h9.1;have:=hi k;omega)]
 exact ZjV fun hz=>by
  obtain ⟨u,u1,u2,_⟩:=Zku h1 hz
  exact (Zea h).1 u u1 u2
theorem ZpC {g:Zp} {t:TxD} (h:(ZL g t).2=0) {u:TxD} (hu:u ∈ (ZL g t).1.txs) (e:u.id=t.id):u=t:=by
 obtain ⟨h1,_,h3,_,h5⟩:=Zha h
 rw [h5] at hu
 rcases ((Zl4 (t:=t) (Zar h1).1 h3).2 u).1 hu with ⟨_,k⟩ | ⟨k,_⟩
 ·exact absurd e k
 ·exact k
theorem Zuh {j:Int} {w:List Zg} (h:CwE (· ∈ [(⟨1,2,3,1⟩:Zg),⟨2,1,3,2⟩]) (fun e=>ofB 8 e.kind) true j w):2≤w.length∧j=1∧(w.length=2→w = [⟨1,2,3,1⟩,⟨2,1,3,2⟩]):=by
 obtain ⟨h1,h2,h3,_⟩:=h
 cases w with
 | nil=>exact absurd rfl h1
 | cons e w=>
  obtain ⟨he,ha,h4⟩:=h2
  rcases Yj.1 he with rfl | he
  ·have ha:(1:Int)=j:=ha
   subst ha
   cases w with
   | nil=>have h4:(2:Int)=1:=h4;omega
   | cons f w=>
    obtain ⟨hf,hb,h5⟩:=h4
    refine ⟨by simp,rfl,fun hl=>?_⟩
    have hw:w = []:=by simpa using hl
    subst hw
    rcases Yj.1 hf with rfl | hf
    ·have hb:(1:Int)=2:=hb;omega
    ·rw [Yk.1 hf]
  ·have he:=Yk.1 he
   subst he
   have ha:(2:Int)=j:=ha
   subst ha
   have:=h3 ⟨2,1,3,2⟩ (by simp)
   have:(2:Int)≤1:=this
   omega
theorem ZoU:ZdP (Zab ZdV) 5 [⟨1,2,3,1⟩,⟨2,1,3,2⟩]:=by
 have hf:(Zab ZdV).filter (kindOk (ZZ 5).1) = [⟨1,2,3,1⟩,⟨2,1,3,2⟩]:=by rw [ZmU];decide
 unfold ZdP
 rw [Yc (by decide),hf]
 have h8:(ZZ 5).2=8:=rfl
 rw [h8]
 refine .inr ⟨1,⟨by simp,⟨by simp,rfl,by simp,rfl,rfl⟩,?_,fun _=>⟨⟨1,2,3,1⟩,by simp,by decide⟩⟩,fun j' w' k=>?_⟩
 ·intro e he
  rcases Yj.1 he with rfl | he
  ·show (1:Int)≤2;decide
  ·rw [Yk.1 he];show (1:Int)≤1;decide
 ·obtain ⟨k1,k2,k3⟩:=Zuh k
  by_cases hl:w'.length=2
  ·exact .inr ⟨hl.symm,.inr ⟨k2.symm,.inl (k3 hl)⟩⟩
  ·exact .inl (by show 2<_;omega)
theorem ZlR:Zo0 ZdV 5 [⟨1,2,3,1⟩,⟨2,1,3,2⟩] = Zit∧okH ZdV 5 [⟨1,2,3,1⟩,⟨2,1,3,2⟩] = true:=⟨rfl,by decide⟩
theorem Zph:ZgL Zit.walk Zit.walk.length = [49,32,114,119,49,32,50,32,114,119,50,32,49]:=by decide +kernel
theorem Zmx:∀ e ∈ Zit.walk,Zgt e:=fun e he=>by
 rcases Yj.1 he with rfl | he
 ·unfold Zgt;decide
 ·rw [Yk.1 he];unfold Zgt;decide
theorem Zm7  : FnP prog 10 [] (.bool true):=by
 refine FnP.mk func10 Z ntmps10 Z fun B a w F V hfr G=>Ya ?_
 refine rZ G qB V [0] [0] fun G=>Ya ?_
 refine Zb G (qf (oP (Zvo) func32 Args.nil) trivial qz (qf (oH [.slice none 0 0,.slice none 0 0] 101) trivial qz (qf (oA 2 101 .same (.conv .t .agg)) r2 r1 qZ))) V [1,0] [101,0] (fun _=>rfl) (fun _=>rfl) fun τ a w F G=>?_
 try dsimp only [RS.sub,SF.sub,CF.sub,csub,Anc.sub,List.map,Zf,xL,xM,Nat.reduceAdd,xD,xE,xT,xU,xC,xN,zCF,Zu,rTx,ZG,ZT,Zm,rOp] at G
 generalize τ 1=v1 at G
 refine Za (Ya (Zb G (qe 2 101 r1 r1 (qf (oP (Zum ZdV Zdo.1 Zdo.2 5 [⟨1,2,3,1⟩,⟨2,1,3,2⟩] ZoU) func12 (Args.two (.pagg .t) qi)) r1 qz (qR rr (qf (o_extract .t Z) r1 qz (qf (o_extract .t Z) r1 qz (qf (oH [.int .i64 0,.slice none 0 0,.int .i64 0,.int .i64 0,.int .i64 0,.int .i64 0,.int .i64 0] 102) trivial qz (qf (oA 7 102 .same (.conv .t .agg)) r2 r1 (qO rr qZ)))))))) V [3,2,1,0] [102,101,0] (fun _=>rfl) (fun _=>rfl) fun τ a w F G=>?_))
 try dsimp only [RS.sub,SF.sub,CF.sub,csub,Anc.sub,List.map,Zf,xL,xM,Nat.reduceAdd,xD,xE,xT,xU,xC,xN,zCF,ldSF,Zu,rTx,ZG,ZT,Zm,rOp] at G
 generalize τ 2=v2 at G
 rw [ZlR.1,ZlR.2] at G
 try dsimp only [Zky] at G
 refine Za (Ya (rZ G (qR rr (qR rr (qk Z (fun h=>oL true 2 101 .is) r2 r1 (qk Z (fun h=>oL true 7 102 .is) r2 r1 (qk Z (fun h=>oP (Zu5) func33 (Args.two (.pagg (.w h)) (.pagg (.w h)))) r3 qz (qf (ZD .t .t) r2 qz (qR rr (qv 1 102 Z r2 r1 (qw 102 Z r2 r1 (qk Z (fun h=>oP (ZtC Zit.walk (by decide) Zmx) func34 (Args.one (.w h))) r2 qz (qk Z (fun h=>ZrA Yct (.w h) (.cs kr)) r2 qz (qf (ZD .t .t) r2 qz (qO rr qZ))))))))))))) V [0] [102,101,0] fun G=>Yh ?_))
 refine Zs hfr G Z Z Z (.bool (by rw [Zph];rfl))
theorem Zt2 (g x:Zp) (hsm:Za7 g) (hAR:(wwC PT1 g).length+(rdC PT1 g).length≤100000) (hsx:Za7 x) (hAx:(wwC PT1 x).length+(rdC PT1 x).length≤100000) (ha:ZlT g x):FnP prog 26 [.agg (Zu g),.agg (Zu x)] (.bool true):=by
 refine FnP.mk func26 Z ntmps26 Z fun B a w F V hfr G=>Ya ?_
 refine Zb G (qx 101 r1 (qx 102 r1 qB)) V [4,3,2] [102,101,0] (fun _=>rfl) (fun _=>rfl) fun τ a w F G=>?_
 try dsimp only [RS.sub,SF.sub,CF.sub,csub,Anc.sub,List.map,zCF,Zu,rTx,ZG,ZT,Zm,rOp,Zky] at G
 generalize τ 2=v2,τ 3=v3 at G
 refine Za (Ya (Ya (rZ G (qI qZ) V [5,4,3,2] [102,101,0] fun G=>Yg ?_)))
 replace G:=G.ent (i:=5) (s':=.pv (.int .i64 ((1:Nat):Int))) Z (.int Z)
 refine Zj (σ:=Nat) [2,3,4] [0,101,102] (fun s=>[(5,.pv (.int .i64 (s:Int)))]) (fun s=>[]) (fun s=>True) (fun s=>6 - s) (1) G ⟨rfl,rfl,rfl,rfl,tv⟩ ⟨rfl,rfl,rfl,tv⟩ trivial ?_
 clear G;intro p a w F hC G
 try dsimp only at hC
 obtain ⟨F,G⟩:=G.nM [5,4,3,2] [102,101,0]
 try dsimp only at G
 refine Ya (Ya (rZ G (qR rr (qf (ZaD .t qi) r1 qz qZ)) V [11,5,4,3,2] [102,101,0] fun G=>?_))
 refine Zc G Z (fun hc0=>?_) (fun hc0=>?_)
 ·have hp6:p<6:=by have h9:=Yr hc0;omega
  obtain ⟨R,hR⟩:=Zso (Zab g) (p:Int)
  obtain ⟨hw1,hw2⟩:=ha.wit (p:Int) R
  refine Ye (Za (Ya (Yg (Ya (Zb G (qe 2 101 r1 r1 (qR rr (qf (oP (Zum g hsm hAR (p:Int) R hR) func12 (Args.two (.pagg .t) .t)) r2 qz (qR rr (qf (o_extract .t Z) r1 qz (qf (o_extract .t Z) r1 qz (qf (oH [.int .i64 0,.slice none 0 0,.int .i64 0,.int .i64 0,.int .i64 0,.int .i64 0,.int .i64 0] 103) trivial qz (qf (oA 7 103 .same (.conv .t .agg)) r2 r1 (qO rr qZ))))))))) V [7,6,5,4,3,2] [103,102,101,0] (fun _=>rfl) (fun _=>rfl) fun τ a w F G=>?_)))))
  try dsimp only [RS.sub,SF.sub,CF.sub,csub,Anc.sub,List.map,Zf,xL,xM,Nat.reduceAdd,xD,xE,xT,xU,xC,xN,zCF,ldSF,Zu,rTx,ZG,ZT,Zm,rOp,Zky] at G
  generalize τ 6=v6 at G
  refine Za (Ya (Zb G (qe 2 102 r1 r1 (qR rr (qf (oP (Zum x hsx hAx (p:Int) R (ha.walk _ R hR)) func12 (Args.two (.pagg .t) .t)) r2 qz (qR rr (qf (o_extract .t Z) r1 qz (qf (o_extract .t Z) r1 qz (qf (oH [.int .i64 0,.slice none 0 0,.int .i64 0,.int .i64 0,.int .i64 0,.int .i64 0,.int .i64 0] 104) trivial qz (qf (oA 7 104 .same (.conv .t .agg)) r2 r1 (qO rr qZ))))))))) V [9,8,7,6,5,4,3,2] [104,103,102,101,0] (fun _=>rfl) (fun _=>rfl) fun τ a w F G=>?_))
  try dsimp only [RS.sub,SF.sub,CF.sub,csub,Anc.sub,List.map,Zf,xL,xM,Nat.reduceAdd,xD,xE,xT,xU,xC,xN,zCF,ldSF,Zu,rTx,ZG,ZT,Zm,rOp,Zky] at G
  generalize τ 8=v8 at G
  refine Za (Ya (rZ G (qR rr (qR rr (qf (ZlZ Ycs .t .t) r2 qz (qR rr (qk Z (fun h=>oL true 7 103 .is) r2 r1 (qk Z (fun h=>oL true 7 104 .is) r2 r1 (qk Z (fun h=>oP (Zug (Zo0 g (p:Int) R) (Zo0 x (p:Int) R)) func22 (Args.two (.pagg (.w h)) (.pagg (.w h)))) r3 qz (qk Z (fun h=>o_not (.w h)) r2 qz (qf (Zal .t .t) r2 qz (qR rr (qk Z (fun h=>oL true 2 101 .is) r2 r1 (qm Z Z Z Z (qk Z (fun h=>oP (ZoS g hsm hAR (p:Int) (okH g (p:Int) R) (ZvB hR)) func31 (Args.two (.pagg (.w h)) (.w h))) r3 qz (qm Z Z Z Z (qk Z (fun h=>ZlZ Ycs (.w h) (.w h)) r3 qz (qf (Zal .t .t) r2 qz (qR rr (qk Z (fun h=>oL true 2 102 .is) r2 r1 (qm Z Z Z Z (qk Z (fun h=>oP (ZoS x hsx hAx (p:Int) (okH x (p:Int) R) (ZvB (ha.walk _ R hR))) func31 (Args.two (.pagg (.w h)) (.w h))) r3 qz (qm Z Z Z Z (qk Z (fun h=>ZlZ Ycs (.w h) (.w h)) r3 qz (qf (Zal .t .t) r2 qz qZ))))))))))))))))))))))) V [48,5,4,3,2] [104,103,102,101,0] fun G=>?_))
  refine Zc G Z (fun hc1=>?_) (fun hc1=>?_)
  ·rw [hw1,hw2] at hc1;simp at hc1
  refine Ye (Zh (Za (rZ G (qR rr (qp r1 (qO rr qZ))) V [5,4,3,2] [104,103,102,101,0] fun G=>?_)))
  replace G:=G.ent (i:=5) (s':=.pv (.int .i64 ((p+1:Nat):Int))) Z (.int (Zd ow))
  obtain ⟨F,G⟩:=G.nM [4,3,2,5] [102,101,0]
  exact ⟨(p+1),F,tv,G,by omega⟩
 refine Yx (Zi (Zi (Zn (Za (Ya (rZ G qB V [4] [102,101,0] fun G=>Yh ?_))))))
 refine Zs hfr G Z Z Z (.bool Z)
theorem Zue {n:Nat} {g:Zp} {t:TxD} (ht:t.ops.length≤24) (h:Fit n g):Fit (n+1) (ZL g t).1:=by
 have:=h.doH (e:=⟨0,t,⟨0,[]⟩,0⟩) ⟨ht,Yy _⟩
 unfold doH at this
 rw [Yf rfl] at this
 exact this
theorem ZoP {x y:Zp} {id:Int} {p:Int} (rx:ZV x) (ry:ZV y) (flt:x.txs=y.txs.filter fun t=>!decide (t.id=id)) (hb:∀ t ∈ y.txs,t.id=id → ∀ o ∈ t.ops,ZnB y p t o=false) (free:∀ t ∈ x.txs,∀ o ∈ t.ops,o.read=true→o.tx≠id):ZaQ y p PT1=ZaQ x p PT1:=by
 unfold ZaQ
 rw [Yf ry,Yf rx]
 unfold badsG
 have hfind:∀ {i:Int},i≠id→ZU y.txs i=ZU x.txs i:=fun {i} hi=>by rw [flt,ZeU,Yc hi]
 rw [flt]
 refine Zf4 (fun t ht hp=>?_) fun t ht hp=>?_
 ·have e:t.id=id:=by simpa using hp
  unfold Zda
  rw [List.map_eq_nil_iff,Ybm]
  intro z hz h9
  have hm:z.1 ∈ t.ops:=by
   obtain ⟨i,hi,e⟩:=Yab hz
   simp at e
   rw [← e];exact Ya2 _
  rw [hb t ht e z.1 hm] at h9;simp at h9
 ·have e:t.id≠id:=by simpa using hp
  have hx:t ∈ x.txs:=by rw [flt,YS];exact ⟨ht,hp⟩
  unfold Zda
  congr 1
  refine List.filter_congr fun z hz=>?_
  have hm:z.1 ∈ t.ops:=by
   obtain ⟨i,hi,e⟩:=Yab hz
   simp at e
   rw [← e];exact Ya2 _
  congr 1
  unfold ZnB
  cases hn:Zdu t.id z.1
  ·rfl
  ·have hr:z.1.read=true:=by
    unfold Zdu at hn
    cases hor:z.1.read
    ·rw [hor] at hn;simp at hn
    ·rfl
   unfold uOf
   rw [hfind (free t hx z.1 hm hr)]
def Znx (g:Zp) (k:Int):OpD:=if getO g.orders k = [] then ⟨true,k,0,0⟩ else ⟨true,k,((ZU g.txs (Nn (getO g.orders k) ((getO g.orders k).length - 1))).getD zeroT).id,(wcnt ((ZU g.txs (Nn (getO g.orders k) ((getO g.orders k).length - 1))).getD zeroT).ops k:Int)⟩
def Zh8 (g:Zp) (id:Int) (keys:List Int):TxD:=⟨id,true,keys.map (Znx g)⟩
theorem ZjC {g:Zp} {k:Int} (hg:ZV g) (h:getO g.orders k≠[]):∃ u ∈ g.txs,u.done=true∧ZU g.txs u.id=some u∧Znx g k = ⟨true,k,u.id,(wcnt u.ops k:Int)⟩∧u.id=Nn (getO g.orders k) ((getO g.orders k).length - 1)∧0<(getO g.orders k).length:=by
 have hl:0<(getO g.orders k).length:=Yav.2 h
 obtain ⟨u,u1,u2,u3⟩:=Zku hg (nth_mem (q:=getO g.orders k) (k:=(getO g.orders k).length - 1) ow)
 have hf:=ZdW (Zar hg).1 u1
 refine ⟨u,u1,u3,hf,?_,u2,hl⟩
 unfold Znx
 rw [Yc h,← u2,hf];rfl
theorem ZmD {g:Zp} {keys:List Int} (k:Int):wcnt (keys.map (Znx g)) k=0:=by
 unfold wcnt
 rw [List.length_eq_zero_iff,Ybm]
 intro o ho
 obtain ⟨k',_,rfl⟩:=Yu.1 ho
 unfold Znx
 split <;> simp
theorem Zrk {l:List Int} (hn:l.Nodup) (h1:∀ z ∈ l,1≤z) (hl:0<l.length) {y:Int} : ¬ ZlV l (Nn l (l.length - 1)) y:=fun h=>by
 obtain ⟨j,hj,e1,_⟩:=ZfK.1 h
 have hlast:=h1 _ (nth_mem (q:=l) (k:=l.length - 1) ow)
 by_cases h0:j=0
 ·rw [Yf h0] at e1;omega
 ·rw [Yc h0] at e1
  rw [nth_eq ow,nth_eq ow] at e1
  exact absurd e1 (Yaz.1 hn (j - 1) (l.length - 1) ow ow ow)
section
variable {g:Zp} {id:Int} {keys:List Int}
theorem ZlO (h:(ZL g (Zh8 g id keys)).2=0) {i:Int} (hi:i≠id):ZU (ZL g (Zh8 g id keys)).1.txs i=ZU g.txs i:=by
 have e:=ZkJ h
 rw [show ZU g.txs i=ZU ((ZL g (Zh8 g id keys)).1.txs.filter fun u=>!decide (u.id=id)) i from Y1 (ZU · i) e,ZeU,Yc hi]
theorem Zik (hs:Za7 g) (h:(ZL g (Zh8 g id keys)).2=0) {e:Zg} : (EdS g e→EdS (ZL g (Zh8 g id keys)).1 e)∧(EdS (ZL g (Zh8 g id keys)).1 e→(EdS g e∨e.dst=id)∧e.src≠id):=by
 have hg:=(Zha h).1
 have ho:=ZtD h (.inr ZmD)
 have hfree:=Zea h
 have hmem:∀ {t:TxD},t ∈ g.txs ↔ t ∈ (ZL g (Zh8 g id keys)).1.txs∧t.id≠id:=fun {t}=>by
  rw [show (t ∈ g.txs)=(t ∈ (ZL g (Zh8 g id keys)).1.txs.filter fun u=>!decide (u.id=id)) from Y1 (t ∈ ·) (ZkJ h),YS];simp
 have hrd:∀ {t:TxD},t ∈ g.txs → ∀ {o:OpD},o ∈ t.ops→o.read=true→(RdS (ZL g (Zh8 g id keys)).1 t o e ↔ RdS g t o e):=fun {t} ht {o} ho2 hr=>by
  unfold RdS OkV
  rw [ZlO h (hfree.2 t ht o ho2 hr),ho]
 have hord:∀ {k z:Int},z ∈ getO g.orders k→z≠id:=fun {k z} hz e9=>by
  obtain ⟨u,u1,u2,_⟩:=Zku hg hz
  exact hfree.1 u u1 (u2.trans e9)
 constructor
 ·rintro (⟨h1,h2⟩ | ⟨t,ht,hd,o,ho1,hr,k⟩)
  ·exact .inl ⟨h1,by rw [ho];exact h2⟩
  ·exact .inr ⟨t,(hmem.1 ht).1,hd,o,ho1,hr,(hrd ht ho1 hr).2 k⟩
 ·rintro (⟨h1,h2⟩ | ⟨t,ht,hd,o,ho1,hr,k⟩)
  ·rw [ho] at h2
   exact ⟨.inl (.inl ⟨h1,h2⟩),hord h2.mem.1⟩
  ·by_cases e9:t.id=id
   ·have et:=ZpC h ht e9
    subst et
    obtain ⟨key,_,rfl⟩:=Yu.1 ho1
    obtain ⟨k1,k2,k3⟩:=k
    by_cases hne:getO g.orders key = []
    ·have en:Znx g key = ⟨true,key,0,0⟩:=Yf hne
     rw [en] at k3
     rcases k3 with ⟨k3,_⟩ | ⟨y,k3,_⟩
     ·exact absurd rfl k3
     ·rw [ho,hne] at k3
      have:=k3.mem;cases this
    ·obtain ⟨u,u1,u2,u3,u4,u5,u6⟩:=ZjC hg hne
     rw [u4] at k3
     rcases k3 with ⟨_,rfl⟩ | ⟨y,k3,_⟩
     ·exact ⟨.inr rfl,hfree.1 u u1⟩
     ·rw [ho] at k3
      rw [show (⟨true,key,u.id,(wcnt u.ops key:Int)⟩:OpD).tx=u.id from rfl,u5] at k3
      exact absurd k3 (Zrk (ZdY hg key).1 (ZdY hg key).2 u6)
   ·have hx:=hmem.2 ⟨ht,e9⟩
    have k':=(hrd hx ho1 hr).1 k
    refine ⟨.inl (.inr ⟨t,hx,hd,o,ho1,hr,k'⟩),?_⟩
    obtain ⟨_,_,k3⟩:=k'
    rcases k3 with ⟨_,rfl⟩ | ⟨y,_,_,rfl⟩
    ·exact hfree.2 t hx o ho1 hr
    ·exact e9
theorem Zqu (hs:Za7 g) (h:(ZL g (Zh8 g id keys)).2=0):ZlT g (ZL g (Zh8 g id keys)).1:=by
 have hg:=(Zha h).1
 have hy:=ZiW hs h
 refine ⟨fun p R hR=>?_,fun p=>ZoP hg hy (ZkJ h) (fun t ht e o ho=>?_) (Zea h).2⟩
 ·have hF:∀ mk:Int,∀ e:Zg,e ∈ (Zab (ZL g (Zh8 g id keys)).1).filter (kindOk mk) ↔ EdS (ZL g (Zh8 g id keys)).1 e∧kindOk mk e=true:=fun mk e=>by rw [YS,Zec hy]
  have hG:∀ mk:Int,∀ e:Zg,e ∈ (Zab g).filter (kindOk mk) ↔ EdS g e∧kindOk mk e=true:=fun mk e=>by rw [YS,Zec hg]
  have hcw:∀ (mk:Int) (m:Zg→Bool) (need:Bool) (i:Int) (w:List Zg),CwE (· ∈ (Zab (ZL g (Zh8 g id keys)).1).filter (kindOk mk)) m need i w ↔ CwE (· ∈ (Zab g).filter (kindOk mk)) m need i w:=fun mk m need i w=>
   Ztb (z:=id) (fun e he=>(hF mk e).2 ⟨(Zik hs h).1 ((hG mk e).1 he).1,((hG mk e).1 he).2⟩) (fun e he=>(((Zik hs h).2 ((hF mk e).1 he).1).1).imp (fun k=>(hG mk e).2 ⟨k,((hF mk e).1 he).2⟩) fun k=>k) (fun e he=>((Zik hs h).2 ((hF mk e).1 he).1).2)
  unfold ZdP at hR ⊢
  split
  ·rename_i h0;rw [Yf h0] at hR;exact hR
  ·rename_i h0
   rw [Yc h0] at hR
   rcases hR with ⟨r1,r2⟩ | r1
   ·exact .inl ⟨r1,fun j w k=>r2 j w ((hcw _ _ _ _ _).1 k)⟩
   ·exact .inr ((ZqG fun i w=>hcw _ _ _ i w).2 r1)
 ·have et:=ZpC h ht e
  subst et
  obtain ⟨key,_,rfl⟩:=Yu.1 ho
  by_cases hne:getO g.orders key = []
  ·have en:Znx g key = ⟨true,key,0,0⟩:=Yf hne
   rw [en];rfl
  ·obtain ⟨u,u1,u2,u3,u4,u5,u6⟩:=ZjC hg hne
   have hu:uOf (ZL g (Zh8 g id keys)).1 ⟨true,key,u.id,(wcnt u.ops key:Int)⟩ = u:=by
    unfold uOf
    rw [show ZU (ZL g (Zh8 g id keys)).1.txs u.id=some u from (ZlO h ((Zea h).1 u u1)).trans u3];rfl
   rw [u4]
   unfold ZnB Zg7
   rw [hu,u2]
   simp
end
theorem Zj5 (g:Zp) (id:Int) (keys:List Int):FnP prog 7 [.agg (Zu g),.int .i64 id,.sl Zm keys] (.bool true):=by
 refine FnP.mk func7 Z ntmps7 Z fun B a w F V hfr G=>Ya ?_
 refine Zb G (qx 101 r1 qB) V [6,3,2,1] [101,0] (fun _=>rfl) (fun _=>rfl) fun τ a w F G=>?_
 try dsimp only [RS.sub,SF.sub,CF.sub,csub,Anc.sub,List.map,zCF,Zu,rTx,ZG,ZT,Zm,rOp,rTx,rOp,Zm] at G
 generalize τ 3=v3 at G
 refine Za (Ya (Ya (rZ G (qf (oP (Zm7) func10 Args.nil) trivial qz (qf (o_not .t) r1 qz qZ)) V [17,6,3,2,1] [101,0] fun G=>?_)))
 refine Zc G Z (fun hc0=>?_) (fun hc0=>?_)
 ·simp at hc0
 refine Ye (Za (Ya (Ya (rZ G (qe 2 101 r1 r1 (qf (oP (Zrl g) func11 (Args.one (.pagg .t))) r1 qz (qf (o_not .t) r1 qz (qR rr (qm Z Z Z Z (qk Z (fun h=>Zcw Ycd (.w h)) r2 qz (qk Z (fun h=>ZaG (.w h) qi) r2 qz (qf (Zal .t .t) r2 qz qZ)))))))) V [25,6,3,2,1] [101,0] fun G=>?_))))
 refine Zc G Z (fun hc1=>?_) (fun hc1=>?_)
 ·refine Ya (rZ G qB V [6,3,2,1] [101,0] fun G=>(Yh (Zk ?_)))
  refine Zs hfr G Z Z Z (.bool (by simp))
 have h9:=hc1
 simp at h9
 have hlt:Zco g:=h9.1
 have hol:keys.length≤12:=by omega
 have hf:=ZnV hlt
 obtain ⟨hsm,hAR⟩:=Zjq hf (by decide)
 have hul:(Zh8 g id keys).ops.length≤24:=by show (keys.map (Znx g)).length≤24;rw [YG];omega
 obtain ⟨hsx,hAx⟩:=Zjq (Zue hul hf) (by decide)
 refine Ye (Za (Ya (Zb G (qR rr (qf (oB [(0,.tmp 26),(1,_)] [.int .i64 0,.bool false,.slice none 0 0] [(0,1),(1,1),(2,1)] (.one Z .t one_int kr (.one Z .cb Zdn kr .nil))) r1 qz (qf (oH [.int .i64 0,.bool false,.slice none 0 0] 102) trivial qz (qS 3 102 r2 r1 qZ)))) V [7,6,3,2] [102,101,0] (fun _=>rfl) (fun _=>rfl) fun τ a w F G=>?_)))
 try dsimp only [RS.sub,SF.sub,CF.sub,csub,Anc.sub,List.map,Zf,xL,xM,Nat.reduceAdd,xD,xE,xT,xU,xC,xN,zCF,Zu,rTx,ZG,ZT,Zm,rOp,rTx,rOp,Zm] at G
 generalize τ 7=v7 at G
 refine Za (Ya (Ya (rZ G (qR rr (qu Ycd r1 (qJ qZ))) V [30,29,28,7,6,3] [102,101,0] fun G=>Yg ?_)))
 replace G:=G.fresh 50 rfl
 replace G:=G.turn 50 Z (ZaA (T:=60) (sz:=4) (R:=rOp))
 refine Zj (σ:=(Nat)×(Value)×(List OpD)) [3,6,7,28,29] [0,101] (fun s=>[(30,.pv (.int .i64 (s.1:Int)))]) (fun s=>[(102,.pt (.val v7) 30 [.pv (.int .i64 id),.pv (.bool true),.pv (.is s.2.1)]),(50,.ob (.val s.2.1) (Zw 60 4 rOp s.2.2))]) (fun s=>s.1≤keys.length∧(s.2.2=(keys.take s.1).map (Znx g))) (fun s=>keys.length - s.1) ((0),(.slice none 0 0),([])) G ⟨rfl,rfl,rfl,rfl,rfl,rfl,tv⟩ ⟨rfl,rfl,rfl,rfl,tv⟩ ⟨Yy _,rfl⟩ ?_
 clear G;intro s a w F hC G
 obtain ⟨i,va,xa⟩:=s
 try dsimp only at hC
 obtain ⟨F,G⟩:=G.nM [30,29,28,7,6,3] [102,101,50,0]
 try dsimp only at G
 obtain ⟨hi,hq⟩:=hC
 have hxl:xa.length=i:=by rw [hq,YG,Yi];omega
 refine Ya (rZ G (qL r2) V [31,30,29,28,7,6,3] [102,101,50,0] fun G=>Ya ?_)
 refine Zc G Z (fun hc2=>?_) (fun hc2=>?_)
 ·have hil:i<keys.length:=by simp at hc2;omega
  refine Ye (Za (Ya (Yg (Ya (Ze G (qy 1 Ycd r2 (qf (oR false 1 .t) r1 qz (qO rr qZ))) V [30,29,28,9,7,6,3] [102,101,50,0] Z Z fun a w F G=>?_)))))
  try simp only [Yb] at G
  refine Za (Ya (Zb G (qR rr (qf (oB [(0,_),(1,.tmp 34)] [.bool false,.int .i64 0,.int .i64 0,.int .i64 0] [(0,1),(1,1),(2,1),(3,1)] (.one Z .cb Zdn kr (.one Z .t one_int kr .nil))) r1 qz (qf (oH [.bool false,.int .i64 0,.int .i64 0,.int .i64 0] 103) trivial qz (qS 4 103 r2 r1 qZ)))) V [30,29,28,10,9,7,6,3] [103,102,101,50,0] (fun _=>rfl) (fun _=>rfl) fun τ a w F G=>?_))
  try dsimp only [RS.sub,SF.sub,CF.sub,csub,Anc.sub,List.map,Zf,xL,xM,Nat.reduceAdd,xD,xE,xT,xU,xC,xN,zCF,Zu,rTx,ZG,ZT,Zm,rOp,rTx,rOp,Zm] at G
  generalize τ 10=v10 at G
  refine Za (Ya (rZ G (qe 2 101 r1 r1 (qR rr (qf (oP (Zlh g (Nn keys i) hsm.2) func16 (Args.two (.pagg .t) .t)) r2 qz (qO rr qZ)))) V [30,29,28,11,10,9,7,6,3] [103,102,101,50,0] fun G=>(Ya (Ya ?_))))
  refine rZ G (qR rr (qu Ycd r1 (qf (ZaG .t qi) r1 qz qZ))) V [41,30,29,28,11,10,9,7,6,3] [103,102,101,50,0] fun G=>?_
  refine Zc G Z (fun hc3=>?_) (fun hc3=>?_)
  ·have hlp:0<(getO g.orders (Nn keys i)).length:=by have h9:=Yr hc3;omega
   have hnl:=Zsl hsm.2 (Nn keys i)
   have hw1:IntKind.wrap .i64 (((getO g.orders (Nn keys i)).length:Int) - 1)=(((getO g.orders (Nn keys i)).length - 1:Nat):Int):=by rw [Zy ow];omega
   have hop:Znx g (Nn keys i) = ⟨true,Nn keys i,((ZU g.txs (Nn (getO g.orders (Nn keys i)) ((getO g.orders (Nn keys i)).length - 1))).getD zeroT).id,(wcnt ((ZU g.txs (Nn (getO g.orders (Nn keys i)) ((getO g.orders (Nn keys i)).length - 1))).getD zeroT).ops (Nn keys i):Int)⟩:=Yc (List.ne_nil_of_length_pos hlp)
   refine Ya (Zax G (qe 2 101 r1 r1 (qR rr (qR rr (qu Ycd r1 (qf (o_sub .t qi) r1 qz (qf (o_indexAddr_sl (sz:=1) (.mk Ycd kr) (by intro x;rfl) .t .t (by rw [hw1];omega) (by rw [hw1];omega)) r2 qz (qf (oR false 1 .t) r1 qz (qf (oP (find_c g _ hsm.1) func28 (Args.two (.pagg .t) .t)) r2 qz (qR rr (qf (o_extract .t Z) r1 qz (qf (o_extract .t Z) r1 qz (qf (oH [.int .i64 0,.bool false,.slice none 0 0] 104) trivial qz (qf (oA 3 104 .same (.conv .t .agg)) r2 r1 (qO rr qZ)))))))))))))) V [30,29,28,12,10,9,7,6,3] [104,103,102,101,50,0] (fun _=>rfl) (fun _=>rfl) fun τ a w F G=>?_)
   try dsimp only [RS.sub,SF.sub,CF.sub,csub,Anc.sub,List.map,Zf,xL,xM,Nat.reduceAdd,xD,xE,xT,xU,xC,xN,zCF,ldSF,Zu,rTx,ZG,ZT,Zm,rOp,rTx,rOp,Zm] at G
   generalize τ 12=v12 at G
   try simp only [Yb] at G
   rw [hw1,Yb] at G
   refine Za (Ya (rZ G (qg 0 104 r1 r1 (qa 104 r1 r1 (qg 2 103 r1 r1 (qf (ZaM 103 .adr .t one_int kr kr) r2 r1 qZ)))) V [30,29,28,12,10,9,7,6,3] [104,103,102,101,50,0] fun G=>?_))
   refine rZ G (qe 3 104 r1 r1 (qR rr (qf (oP (Zdc ((ZU g.txs (Nn (getO g.orders (Nn keys i)) ((getO g.orders (Nn keys i)).length - 1))).getD zeroT) (Nn keys i) (Zfg hsm.1 _)) func29 (Args.two (.pagg .t) .t)) r2 qz (qg 3 103 r1 r1 (qf (ZaM 103 .adr .t one_int kr kr) r2 r1 qZ))))) V [30,29,28,10,7,6,3] [104,103,102,101,50,0] fun G=>?_
   refine Zb G (qg 2 102 r1 r1 (qa 102 r1 r1 (qe 4 103 r1 r1 (qf (o_buildSliceE (sz:=4) (zs:=[.bool false,.int .i64 0,.int .i64 0,.int .i64 0]) (r:=[(0,.tmp 62)]) (l:=[_,_,_,_]) Yci kr kr kr kr Z Z (.agg Z .t kr kr .nil) Z) r1 qz (qf (ZP (sz:=4) (bs:=32) 50 (.mk' Yci kr kr) (by intro x;rfl) .is (.arr (l':=[(⟨true,Nn keys i,((ZU g.txs (Nn (getO g.orders (Nn keys i)) ((getO g.orders (Nn keys i)).length - 1))).getD zeroT).id,(wcnt ((ZU g.txs (Nn (getO g.orders (Nn keys i)) ((getO g.orders (Nn keys i)).length - 1))).getD zeroT).ops (Nn keys i):Int)⟩:OpD)]) .t) (by simp only [Yl,Yw];omega) (by decide)) ⟨rfl,rfl,tv⟩ ⟨rfl,tv⟩ (qg 2 102 r1 r1 (qf (o_storeS 102 .adr kr kr) r2 r1 qZ))))))) V [30,29,28,7,6,3] [104,103,102,101,50,0] (fun _=>rfl) (fun _=>rfl) fun τ a w F G=>?_
   try dsimp only [RS.sub,SF.sub,CF.sub,csub,Anc.sub,List.map,Zf,xL,xM,Nat.reduceAdd,xD,xE,xT,xU,xC,xN,zCF,ldSF,Zu,rTx,ZG,ZT,Zm,rOp,rTx,rOp,Zm] at G
   generalize τ 64=v64 at G
   refine Zh (Za (rZ G (qp r1 (qR rr qZ)) V [30,29,28,7,6,3] [104,103,102,101,50,0] fun G=>?_))
   replace G:=G.ent (i:=30) (s':=.pv (.int .i64 ((i+1:Nat):Int))) Z (.int (Zd ow))
   obtain ⟨F,G⟩:=G.nM [29,28,7,6,3,30] [101,0,50,102]
   exact ⟨((i+1),(v64),_),F,⟨by omega,(by rw [Zo hil,YO,← hq];exact Y1 (xa ++ [·]) hop.symm)⟩,G,by omega⟩
  have hlp:getO g.orders (Nn keys i) = []:=YQ (by have h9:=YH hc3;omega)
  have hop:Znx g (Nn keys i) = ⟨true,Nn keys i,0,0⟩:=Yf hlp
  refine Ye (Za (Zb G (qg 2 102 r1 r1 (qa 102 r1 r1 (qe 4 103 r1 r1 (qf (o_buildSliceE (sz:=4) (zs:=[.bool false,.int .i64 0,.int .i64 0,.int .i64 0]) (r:=[(0,.tmp 62)]) (l:=[_,_,_,_]) Yci kr kr kr kr Z Z (.agg Z .t kr kr .nil) Z) r1 qz (qf (ZP (sz:=4) (bs:=32) 50 (.mk' Yci kr kr) (by intro x;rfl) .is (.arr (l':=[(⟨true,Nn keys i,0,0⟩:OpD)]) .t) (by simp only [Yl,Yw];omega) (by decide)) ⟨rfl,rfl,tv⟩ ⟨rfl,tv⟩ (qg 2 102 r1 r1 (qf (o_storeS 102 .adr kr kr) r2 r1 qZ))))))) V [30,29,28,7,6,3] [103,102,101,50,0] (fun _=>rfl) (fun _=>rfl) fun τ a w F G=>?_))
  try dsimp only [RS.sub,SF.sub,CF.sub,csub,Anc.sub,List.map,Zf,xL,xM,Nat.reduceAdd,xD,xE,xT,xU,xC,xN,zCF,ldSF,Zu,rTx,ZG,ZT,Zm,rOp,rTx,rOp,Zm] at G
  generalize τ 64=v64 at G
  refine Zh (Za (rZ G (qp r1 (qR rr qZ)) V [30,29,28,7,6,3] [103,102,101,50,0] fun G=>?_))
  replace G:=G.ent (i:=30) (s':=.pv (.int .i64 ((i+1:Nat):Int))) Z (.int (Zd ow))
  obtain ⟨F,G⟩:=G.nM [29,28,7,6,3,30] [101,0,50,102]
  exact ⟨((i+1),(v64),_),F,⟨by omega,(by rw [Zo hil,YO,← hq];exact Y1 (xa ++ [·]) hop.symm)⟩,G,by omega⟩
 have hil:i=keys.length:=by simp at hc2;omega
 have hx:xa=keys.map (Znx g):=by rw [hq,hil,Yz]
 subst hx
 obtain ⟨F,G⟩:=G.giveCell 50 102 2 Z Z Z Z rfl
 try dsimp only [List.set] at G
 obtain ⟨F,G⟩:=G.nM [31,30,29,28,7,6,3] [102,101,0]
 refine Yx (Zi (Zi (Zn (Za (Ya (Zb G (qe 2 101 r1 r1 (qe 3 102 r1 r1 (qf (oP (Zqj g (Zh8 g id keys) hsm ow) func27 (Args.two (.pagg .t) (.pagg .t))) r2 qz (qR rr (qf (o_extract .t Z) r1 qz (qf (o_extract .t Z) r1 qz (qf (oH [.slice none 0 0,.slice none 0 0] 105) trivial qz (qf (oA 2 105 .same (.conv .t .agg)) r2 r1 (qO rr qZ))))))))) V [15,14,6,3] [105,102,101,0] (fun _=>rfl) (fun _=>rfl) fun τ a w F G=>?_))))))
 try dsimp only [RS.sub,SF.sub,CF.sub,csub,Anc.sub,List.map,Zf,xL,xM,Nat.reduceAdd,xD,xE,xT,xU,xC,xN,zCF,ldSF,Zu,rTx,ZG,ZT,Zm,rOp,rTx,rOp,Zm] at G
 generalize τ 14=v14 at G
 refine Za (Ya (rZ G (qR rr (qf (o_neq .t qi) r1 qz (qR rr (qk Z (fun h=>oL true 2 101 .is) r2 r1 (qk Z (fun h=>oL true 2 105 .is) r2 r1 (qk Z (fun h=>oP (Zt2 g (ZL g (Zh8 g id keys)).1 hsm hAR hsx hAx (Zqu hsm (by simpa using h))) func26 (Args.two (.pagg (.w h)) (.pagg (.w h)))) r3 qz (qf (Zal .t .t) r2 qz (qO rr qZ)))))))) V [6] [105,102,101,0] fun G=>Yh ?_))
 refine Zs hfr G Z Z Z (.bool (by simp))
end Go.Proofs.YtlkpllemoepamaaGreat
