/- Texts put together. No condition beyond those that each theorem says. -/
import Derived.Test.YtlkpllemoepamaaGreatJ8
import Derived.Test.YtlkpllemoepamaaGreatJ0
import Derived.Test.YtlkpllemoepamaaGreatJ4
import Derived.Test.YtlkpllemoepamaaGreatJ7
namespace Go.Proofs.YtlkpllemoepamaaGreat
open Go Go.Gm
set_option linter.unusedVariables false
set_option linter.unusedSimpArgs false
set_option maxHeartbeats 4000000
set_option maxRecDepth 8000
inductive Rch (E:Int→Int→Prop) (u:Int):Int→Prop
 | one {v:Int} (h:E u v):Rch E u v
 | step {v w:Int} (h:Rch E u v) (k:E v w):Rch E u w
theorem Rch.trans {E:Int→Int→Prop} {u v w:Int} (h:Rch E u v) (k:Rch E v w):Rch E u w:=by
 induction k with
 | one k=>exact .step h k
 | step _ k ih=>exact .step ih k
theorem Rch.mono {E E':Int→Int→Prop} (hE:∀ a b,E a b→E' a b) {u v:Int} (h:Rch E u v):Rch E' u v:=by
 induction h with
 | one h=>exact .one (hE _ _ h)
 | step _ k ih=>exact .step ih (hE _ _ k)
def EJ (adj:Int→List Int) (x y:Int):Prop:=y ∈ adj x
def ZcO (f:Int→Int) (x c:Int):Int→Int:=fun y=>if y=x then c else f y
theorem ZN {f:Int→Int} {x c:Int} : ZcO f x c x=c:=Yf rfl
theorem ZaB {f:Int→Int} {x c y:Int} (h:y≠x):ZcO f x c y=f y:=Yc h
def Zb2 (wh:Int→Int) (st:List Int) (d:Int):Prop:=wh d≠0∧d ∉ st
def Znw (adj:Int→List Int) (u x:Int):Prop:=x=u∨(Rch (EJ adj) u x∧Rch (EJ adj) x u)
def Zp5 (adj:Int→List Int) (u m:Int):Prop:=Znw adj u m ∧ ∀ x,Znw adj u x→m≤x
abbrev Zmr:Type:=List (Int×List Int)
def NxT (wh:Int→Int) (way:Zmr) (v y:Int):Prop:=(∃ q ∈ way,q.1=y)∧wh v<wh y ∧ ∀ p ∈ way,¬ (wh v<wh p.1∧wh p.1<wh y)
structure Tj (adj:Int→List Int) (wh lo out:Int→Int) (ck:Int) (st:List Int) (way:Zmr):Prop where
 pos:∀ u ∈ st,0<wh u
 dec:st.Pairwise fun a b=>wh b<wh a
 vis:∀ u,0≤wh u∧wh u≤ck
 low:∀ u ∈ st,lo u≤wh u ∧ ∃ w ∈ st,wh w=lo u∧(w=u∨Rch (EJ adj) u w)
 fin:∀ u ∈ st,(∀ p ∈ way,p.1≠u)→lo u<wh u ∧ ∀ y ∈ adj u,Zb2 wh st y∨(y ∈ st∧lo u≤wh y)
 done:∀ d,Zb2 wh st d→(∀ y ∈ adj d,Zb2 wh st y)∧Zp5 adj d (out d)
 onst:∀ r ∈ way,r.1 ∈ st
 sub:∀ r ∈ way,∀ y ∈ r.2,y ∈ adj r.1
 wdec:way.Pairwise fun a b=>wh b.1<wh a.1
 arcs:∀ r ∈ way,∀ y ∈ adj r.1,y ∉ r.2→Zb2 wh st y∨(y ∈ st∧lo r.1≤wh y)∨NxT wh way r.1 y
 lows:∀ r ∈ way,∀ u ∈ st,(∀ p ∈ way,p.1≠u)→wh r.1<wh u→(∀ p ∈ way,¬ (wh r.1<wh p.1∧wh p.1<wh u))→lo r.1≤lo u
 reach:∀ r ∈ way,∀ u ∈ st,wh r.1≤wh u→u=r.1∨Rch (EJ adj) r.1 u
 root:∀ u ∈ st,∃ r,way.getLast? = some r∧wh r.1≤wh u
section
variable {adj:Int→List Int} {wh lo out:Int→Int} {ck:Int} {st:List Int} {rest:Zmr} {v x:Int} {next:List Int}
theorem Zqa (h:st.Pairwise fun a b=>wh b<wh a) {a b:Int} (ha:a ∈ st) (hb:b ∈ st) (e:wh a=wh b):a=b:=by
 induction st with
 | nil=>cases ha
 | cons x l ih=>
  rw [Yo] at h
  rcases Yj.1 ha with e1 | ha2 <;> rcases Yj.1 hb with e2 | hb2
  ·rw [e1,e2]
  ·have:=h.1 b hb2;rw [e1] at e;omega
  ·have:=h.1 a ha2;rw [e2] at e;omega
  ·exact ih h.2 ha2 hb2
theorem Tj.zero:Tj adj (fun _=>0) lo out 0 [] []:=
 ⟨by simp,.nil,fun _=>⟨Yao _,Yao _⟩,by simp,by simp,fun d h=>absurd rfl h.1,by simp,by simp,.nil,by simp,by simp,by simp,by simp⟩
theorem Tj.first (h:Tj adj wh lo out ck [] []) (hx:wh x=0):Tj adj (ZcO wh x (ck+1)) (ZcO lo x (ck+1)) out (ck+1) [x] [(x,adj x)]:=by
 have hck:=(h.vis x).2
 have hd:∀ y,Zb2 (ZcO wh x (ck+1)) [x] y ↔ Zb2 wh [] y:=fun y=>by
  unfold Zb2
  by_cases e:y=x
  ·subst e;simp [hx]
  ·rw [ZaB e];simp [e]
 have v0:=h.vis x
 refine ⟨fun u hu=>?_,by simp,fun u=>?_,fun u hu=>?_,fun u hu hp=>?_,fun d hdd=>?_,fun r hr=>?_,fun r hr y hy=>?_,by simp,fun r hr y hy hn=>?_,fun r hr u hu hp=>?_,fun r hr u hu _=>?_,fun u hu=>?_⟩
 ·obtain rfl:=Yk.1 hu;rw [ZN];omega
 ·by_cases e:u=x
  ·rw [e,ZN];omega
  ·rw [ZaB e];have:=h.vis u;omega
 ·obtain rfl:=Yk.1 hu;exact ⟨by rw [ZN,ZN];exact Yao _,u,by simp,by rw [ZN,ZN],.inl rfl⟩
 ·obtain rfl:=Yk.1 hu;exact absurd rfl (hp (u,adj u) (by simp))
 ·obtain ⟨h1,h2⟩:=h.done d ((hd d).1 hdd)
  exact ⟨fun y hy=>(hd y).2 (h1 y hy),h2⟩
 ·obtain rfl:=Yk.1 hr;simp
 ·obtain rfl:=Yk.1 hr;exact hy
 ·obtain rfl:=Yk.1 hr;exact absurd hy hn
 ·obtain rfl:=Yk.1 hr;obtain rfl:=Yk.1 hu;exact absurd rfl (hp (u,adj u) (by simp))
 ·obtain rfl:=Yk.1 hr;obtain rfl:=Yk.1 hu;exact .inl rfl
 ·obtain rfl:=Yk.1 hu;exact ⟨(u,adj u),rfl,Yao _⟩
theorem Tj.top (h:Tj adj wh lo out ck st ((v,next) :: rest)):(∀ r ∈ rest,wh r.1<wh v) ∧ ∀ p ∈ (v,next) :: rest,wh p.1≤wh v:=by
 have h1:=(Yo.1 h.wdec).1
 refine ⟨h1,fun p hp=>?_⟩
 rcases Yj.1 hp with rfl | hp
 ·exact Yao _
 ·exact Yb6 (h1 p hp)
theorem Tj.meet (h:Tj adj wh lo out ck st ((v,x :: next) :: rest)) (hx:wh x=0):Tj adj (ZcO wh x (ck+1)) (ZcO lo x (ck+1)) out (ck+1) (x :: st) ((x,adj x) :: (v,next) :: rest):=by
 have v0:=h.vis x
 have hxs:x ∉ st:=fun hm=>by have:=h.pos x hm;omega
 have hne:∀ u ∈ st,u≠x:=fun u hu e=>hxs (e ▸ hu)
 have hw:∀ u ∈ st,ZcO wh x (ck+1) u=wh u:=fun u hu=>ZaB (hne u hu)
 have hl:∀ u ∈ st,ZcO lo x (ck+1) u=lo u:=fun u hu=>ZaB (hne u hu)
 have hd:∀ y,Zb2 (ZcO wh x (ck+1)) (x :: st) y ↔ Zb2 wh st y:=fun y=>by
  unfold Zb2
  by_cases e:y=x
  ·subst e;simp [hx]
  ·rw [ZaB e];simp [e]
 have hon:∀ r ∈ (v,next) :: rest,r.1 ∈ st:=fun r hr=>by
  rcases Yj.1 hr with rfl | hr
  ·exact h.onst (v,x :: next) (by simp)
  ·exact h.onst r (by simp [hr])
 have hfs:∀ p ∈ (v,next) :: rest,∃ q ∈ (v,x :: next) :: rest,q.1=p.1:=fun p hp=>by
  rcases Yj.1 hp with rfl | hp
  ·exact ⟨_,YaD,rfl⟩
  ·exact ⟨p,by simp [hp],rfl⟩
 have hfs2:∀ p ∈ (v,x :: next) :: rest,∃ q ∈ (v,next) :: rest,q.1=p.1:=fun p hp=>by
  rcases Yj.1 hp with rfl | hp
  ·exact ⟨_,YaD,rfl⟩
  ·exact ⟨p,by simp [hp],rfl⟩
 obtain ⟨ht1,ht2⟩:=h.top
 have hvs:v ∈ st:=h.onst (v,x :: next) (by simp)
 have hxv:x ∈ adj v:=h.sub (v,x :: next) (by simp) x (by simp)
 have hnx:∀ r ∈ (v,next) :: rest,∀ y ∈ st,NxT wh ((v,x :: next) :: rest) r.1 y→NxT (ZcO wh x (ck+1)) ((x,adj x) :: (v,next) :: rest) r.1 y:=fun r hr y hy ⟨⟨q,hq,e⟩,h2,h3⟩=>by
  obtain ⟨q',hq',e'⟩:=hfs2 q hq
  refine ⟨⟨q',YC _ hq',e'.trans e⟩,by rw [hw _ (hon r hr),hw y hy];exact h2,fun p hp=>?_⟩
  rw [hw _ (hon r hr),hw y hy]
  rcases Yj.1 hp with rfl | hp
  ·rw [ZN];have:=(h.vis y).2;omega
  ·rw [hw _ (hon p hp)]
   obtain ⟨p',hp',e2⟩:=hfs p hp
   rw [← e2];exact h3 p' hp'
 refine ⟨fun u hu=>?_,?_,fun u=>?_,fun u hu=>?_,fun u hu hp=>?_,fun d hdd=>?_,fun r hr=>?_,fun r hr y hy=>?_,?_,fun r hr y hy hn=>?_,fun r hr u hu hp hlt hb=>?_,fun r hr u hu hle=>?_,fun u hu=>?_⟩
 ·rcases Yj.1 hu with rfl | hu
  ·rw [ZN];omega
  ·rw [hw u hu];exact h.pos u hu
 ·refine Yo.2 ⟨fun u hu=>?_,?_⟩
  ·rw [ZN,hw u hu];have:=(h.vis u).2;omega
  ·refine List.Pairwise.imp_of_mem (fun {a b} ha hb k=>?_) h.dec
   rw [hw a ha,hw b hb];exact k
 ·by_cases e:u=x
  ·rw [e,ZN];omega
  ·rw [ZaB e];have:=h.vis u;omega
 ·rcases Yj.1 hu with rfl | hu
  ·exact ⟨by rw [ZN,ZN];exact Yao _,u,by simp,by rw [ZN,ZN],.inl rfl⟩
  ·obtain ⟨h1,w,hws,h2,h3⟩:=h.low u hu
   rw [hl u hu,hw u hu]
   exact ⟨h1,w,by simp [hws],by rw [hw w hws];exact h2,h3⟩
 ·have hux:u≠x:=fun e=>hp (x,adj x) (by simp) e.symm
  have hu:=(Yj.1 hu).resolve_left hux
  obtain ⟨h1,h2⟩:=h.fin u hu fun p hp2=>by
   obtain ⟨q,hq,e⟩:=hfs2 p hp2
   rw [← e];exact hp q (YC _ hq)
  rw [hl u hu,hw u hu]
  refine ⟨h1,fun y hy=>?_⟩
  rcases h2 y hy with h3 | ⟨h3,h4⟩
  ·exact .inl ((hd y).2 h3)
  ·exact .inr ⟨by simp [h3],by rw [hw y h3];exact h4⟩
 ·obtain ⟨h1,h2⟩:=h.done d ((hd d).1 hdd)
  exact ⟨fun y hy=>(hd y).2 (h1 y hy),h2⟩
 ·rcases Yj.1 hr with rfl | hr
  ·simp
  ·simp [hon r hr]
 ·rcases Yj.1 hr with rfl | hr
  ·exact hy
  ·rcases Yj.1 hr with rfl | hr
   ·exact h.sub (v,x :: next) (by simp) y (by simp at hy ⊢;exact .inr hy)
   ·exact h.sub r (by simp [hr]) y hy
 ·refine Yo.2 ⟨fun r hr=>?_,?_⟩
  ·show ZcO wh x (ck+1) r.1<ZcO wh x (ck+1) x
   rw [ZN,hw _ (hon r hr)];have:=(h.vis r.1).2;omega
  ·have h9:((v,next) :: rest).Pairwise fun a b=>wh b.1<wh a.1:=Yo.2 (Yo.1 h.wdec)
   refine List.Pairwise.imp_of_mem (fun {a b} ha hb k=>?_) h9
   rw [hw _ (hon a ha),hw _ (hon b hb)];exact k
 ·rcases Yj.1 hr with rfl | hr
  ·exact absurd hy hn
  ·rcases Yj.1 hr with rfl | hr
   ·by_cases e:y=x
    ·subst e
     refine .inr (.inr ⟨⟨_,YaD,rfl⟩,by show ZcO wh y (ck+1) v<ZcO wh y (ck+1) y;rw [ZN,hw v hvs];have:=(h.vis v).2;omega,fun p hp=>?_⟩)
     show ¬ (ZcO wh y (ck+1) v<ZcO wh y (ck+1) p.1∧ZcO wh y (ck+1) p.1<ZcO wh y (ck+1) y)
     rcases Yj.1 hp with rfl | hp
     ·exact fun h9=>absurd h9.2 (Int.lt_irrefl _)
     ·rw [hw v hvs,hw _ (hon p hp)]
      obtain ⟨p',hp',e2⟩:=hfs p hp
      have:=ht2 p' hp'
      rw [e2] at this
      omega
    ·rcases h.arcs (v,x :: next) (by simp) y hy (by simp at hn ⊢;exact ⟨e,hn⟩) with h1 | ⟨h1,h2⟩ | ⟨⟨q,hq,e2⟩,h2,_⟩
     ·exact .inl ((hd y).2 h1)
     ·exact .inr (.inl ⟨by simp [h1],by show ZcO lo x (ck+1) v≤_;rw [hl v hvs,hw y h1];exact h2⟩)
     ·have:=ht2 q hq
      rw [e2] at this
      have h2:wh v<wh y:=h2
      omega
   ·have hrs:=h.onst r (by simp [hr])
    rcases h.arcs r (by simp [hr]) y hy hn with h1 | ⟨h1,h2⟩ | h3
    ·exact .inl ((hd y).2 h1)
    ·exact .inr (.inl ⟨by simp [h1],by rw [hl _ hrs,hw y h1];exact h2⟩)
    ·obtain ⟨⟨q,hq,e⟩,_⟩:=id h3
     exact .inr (.inr (hnx r (by simp [hr]) y (e ▸ h.onst q hq) h3))
 ·have hux:u≠x:=fun e=>hp (x,adj x) (by simp) e.symm
  have hu:=(Yj.1 hu).resolve_left hux
  rcases Yj.1 hr with rfl | hr
  ·have hlt:ZcO wh x (ck+1) x<ZcO wh x (ck+1) u:=hlt
   rw [ZN,hw u hu] at hlt
   have:=(h.vis u).2;omega
  ·have hrs:=hon r hr
   rw [hl _ hrs,hl u hu]
   rw [hw _ hrs,hw u hu] at hlt
   obtain ⟨r',hr',e⟩:=hfs r hr
   rw [← e] at hlt ⊢
   refine h.lows r' hr' u hu (fun p hp2=>?_) hlt fun p hp2=>?_
   ·obtain ⟨q,hq,e3⟩:=hfs2 p hp2
    rw [← e3];exact hp q (YC _ hq)
   ·obtain ⟨q,hq,e3⟩:=hfs2 p hp2
    have:=hb q (YC _ hq)
    rw [hw _ hrs,hw u hu,hw _ (hon q hq),e3,← e] at this
    exact this
 ·rcases Yj.1 hr with rfl | hr
  ·rcases Yj.1 hu with rfl | hu
   ·exact .inl rfl
   ·have hle:ZcO wh x (ck+1) x≤ZcO wh x (ck+1) u:=hle
    rw [ZN,hw u hu] at hle
    have:=(h.vis u).2;omega
  ·obtain ⟨r',hr',e⟩:=hfs r hr
   rcases Yj.1 hu with rfl | hu
   ·refine .inr ?_
    have hvx:Rch (EJ adj) v u:=.one hxv
    rw [← e]
    rcases h.reach r' hr' v hvs (ht2 r' hr') with h9 | h9
    ·rw [← h9];exact hvx
    ·exact h9.trans hvx
   ·rw [hw _ (hon r hr),hw u hu,← e] at hle
    rw [← e];exact h.reach r' hr' u hu hle
 ·have hlast:∀ r,((v,x :: next) :: rest).getLast? = some r → ∃ r',((x,adj x) :: (v,next) :: rest).getLast? = some r' ∧ r'.1=r.1:=fun r hr=>by
   cases rest with
   | nil=>exact ⟨(v,next),rfl,by have:(v,x :: next)=r:=(by simpa using hr);rw [← this]⟩
   | cons y l=>exact ⟨r,by simpa using hr,rfl⟩
  obtain ⟨r,h1,h2⟩:=h.root v hvs
  obtain ⟨r',h3,h4⟩:=hlast r h1
  refine ⟨r',h3,?_⟩
  have hrs:r'.1 ∈ st:=by rw [h4];exact h.onst r (List.mem_of_getLast? h1)
  rw [hw _ hrs]
  rcases Yj.1 hu with rfl | hu
  ·rw [ZN];have:=(h.vis r'.1).2;omega
  ·rw [hw u hu,h4]
   obtain ⟨r2,h5,h6⟩:=h.root u hu
   rw [h1] at h5
   rw [Ya9 h5];exact h6
theorem Tj.pass {c:Int} (h:Tj adj wh lo out ck st ((v,x :: next) :: rest)) (hc:(Zb2 wh st x∧c=lo v)∨(x ∈ st∧c=min (lo v) (wh x))):Tj adj wh (ZcO lo v c) out ck st ((v,next) :: rest):=by
 have hvs:v ∈ st:=h.onst (v,x :: next) (by simp)
 have hxv:x ∈ adj v:=h.sub (v,x :: next) (by simp) x (by simp)
 obtain ⟨ht1,ht2⟩:=h.top
 have hcl:c≤lo v:=by rcases hc with ⟨_,h1⟩ | ⟨_,h1⟩ <;> omega
 have hfs:∀ p ∈ (v,next) :: rest,∃ q ∈ (v,x :: next) :: rest,q.1=p.1:=fun p hp=>by
  rcases Yj.1 hp with rfl | hp
  ·exact ⟨_,YaD,rfl⟩
  ·exact ⟨p,by simp [hp],rfl⟩
 have hfs2:∀ p ∈ (v,x :: next) :: rest,∃ q ∈ (v,next) :: rest,q.1=p.1:=fun p hp=>by
  rcases Yj.1 hp with rfl | hp
  ·exact ⟨_,YaD,rfl⟩
  ·exact ⟨p,by simp [hp],rfl⟩
 have hnx:∀ a y,NxT wh ((v,x :: next) :: rest) a y→NxT wh ((v,next) :: rest) a y:=fun a y ⟨⟨q,hq,e⟩,h2,h3⟩=>by
  obtain ⟨q',hq',e'⟩:=hfs2 q hq
  refine ⟨⟨q',hq',e'.trans e⟩,h2,fun p hp=>?_⟩
  obtain ⟨p',hp',e2⟩:=hfs p hp
  rw [← e2];exact h3 p' hp'
 have hrv:∀ r ∈ rest,r.1≠v:=fun r hr e=>by have:=ht1 r hr;rw [e] at this;omega
 refine ⟨h.pos,h.dec,h.vis,fun u hu=>?_,fun u hu hp=>?_,h.done,fun r hr=>?_,fun r hr y hy=>?_,Yo.2 (Yo.1 h.wdec),fun r hr y hy hn=>?_,fun r hr u hu hp hlt hb=>?_,fun r hr u hu hle=>?_,fun u hu=>?_⟩
 ·by_cases e:u=v
  ·subst e
   rw [ZN]
   obtain ⟨h1,w,hws,h2,h3⟩:=h.low u hu
   refine ⟨by omega,?_⟩
   rcases hc with ⟨_,h4⟩ | ⟨h5,h4⟩
   ·exact ⟨w,hws,by omega,h3⟩
   ·by_cases h6:lo u≤wh x
    ·exact ⟨w,hws,by omega,h3⟩
    ·exact ⟨x,h5,by omega,.inr (.one hxv)⟩
  ·rw [ZaB e];exact h.low u hu
 ·have huv:u≠v:=fun e=>hp (v,next) (by simp) e.symm
  rw [ZaB huv]
  exact h.fin u hu fun p hp2=>by
   obtain ⟨q,hq,e⟩:=hfs2 p hp2
   rw [← e];exact hp q hq
 ·obtain ⟨q,hq,e⟩:=hfs r hr
  rw [← e];exact h.onst q hq
 ·rcases Yj.1 hr with rfl | hr
  ·exact h.sub (v,x :: next) (by simp) y (by simp at hy ⊢;exact .inr hy)
  ·exact h.sub r (by simp [hr]) y hy
 ·rcases Yj.1 hr with rfl | hr
  ·show Zb2 wh st y∨(y ∈ st∧ZcO lo v c v≤wh y)∨_
   rw [ZN]
   by_cases e:y=x
   ·subst e
    rcases hc with ⟨h1,_⟩ | ⟨h1,h2⟩
    ·exact .inl h1
    ·exact .inr (.inl ⟨h1,by omega⟩)
   ·rcases h.arcs (v,x :: next) (by simp) y hy (by simp at hn ⊢;exact ⟨e,hn⟩) with h1 | ⟨h1,h2⟩ | h3
    ·exact .inl h1
    ·have h2:lo v≤wh y:=h2
     exact .inr (.inl ⟨h1,by omega⟩)
    ·exact .inr (.inr (hnx _ _ h3))
  ·rw [ZaB (hrv r hr)]
   rcases h.arcs r (by simp [hr]) y hy hn with h1 | h1 | h3
   ·exact .inl h1
   ·exact .inr (.inl h1)
   ·exact .inr (.inr (hnx _ _ h3))
 ·have huv:u≠v:=fun e=>hp (v,next) (by simp) e.symm
  rw [ZaB huv]
  obtain ⟨r',hr',e⟩:=hfs r hr
  have h9:=h.lows r' hr' u hu (fun p hp2=>by
   obtain ⟨q,hq,e3⟩:=hfs2 p hp2
   rw [← e3];exact hp q hq) (by rw [e];exact hlt) fun p hp2=>by
   obtain ⟨q,hq,e3⟩:=hfs2 p hp2
   have:=hb q hq
   rwa [e3,← e] at this
  rw [e] at h9
  by_cases e2:r.1=v
  ·rw [e2] at h9 ⊢;rw [ZN];omega
  ·rw [ZaB e2];exact h9
 ·obtain ⟨r',hr',e⟩:=hfs r hr
  rw [← e] at hle ⊢
  exact h.reach r' hr' u hu hle
 ·obtain ⟨r,h1,h2⟩:=h.root u hu
  cases rest with
  | nil=>simp at h1;exact ⟨(v,next),rfl,by rw [← h1] at h2;exact h2⟩
  | cons y l=>simp at h1;exact ⟨r,by simp [h1],h2⟩
theorem Tj.above {u0:Int} {nx:List Int} (h:Tj adj wh lo out ck st ((v,next) :: (u0,nx) :: rest)):wh u0<wh v∧(∀ r ∈ rest,wh r.1<wh u0):=by
 have h1:=Yo.1 h.wdec
 exact ⟨h1.1 (u0,nx) (by simp),(Yo.1 h1.2).1⟩
theorem Tj.stay {u0:Int} {nx:List Int} (h:Tj adj wh lo out ck st ((v,[]) :: (u0,nx) :: rest)) (hlo:lo v≠wh v):Tj adj wh (ZcO lo u0 (min (lo u0) (lo v))) out ck st ((u0,nx) :: rest):=by
 obtain ⟨a1,a2⟩:=h.above
 obtain ⟨ht1,ht2⟩:=h.top
 have hvs:v ∈ st:=h.onst (v,[]) (by simp)
 have hus:u0 ∈ st:=h.onst (u0,nx) (by simp)
 have hvu:v≠u0:=fun e=>by rw [e] at a1;omega
 have hr0:∀ r ∈ rest,r.1≠u0:=fun r hr e=>by have:=a2 r hr;rw [e] at this;omega
 have hlv:=h.low v hvs
 refine ⟨h.pos,h.dec,h.vis,fun u hu=>?_,fun u hu hp=>?_,h.done,fun r hr=>h.onst r (YC _ hr),fun r hr=>h.sub r (YC _ hr),(Yo.1 h.wdec).2,fun r hr y hy hn=>?_,fun r hr u hu hp hlt hb=>?_,fun r hr=>h.reach r (YC _ hr),fun u hu=>?_⟩
 ·by_cases e:u=u0
  ·subst e
   rw [ZN]
   obtain ⟨h1,w,hws,h2,h3⟩:=h.low u hu
   refine ⟨by omega,?_⟩
   by_cases h4:lo u≤lo v
   ·exact ⟨w,hws,by omega,h3⟩
   ·obtain ⟨h5,w2,hw2,h6,h7⟩:=hlv
    refine ⟨w2,hw2,by omega,.inr ?_⟩
    have h8:=(h.reach (u,nx) (by simp) v hvs (Yb6 a1)).resolve_left hvu
    rcases h7 with rfl | h7
    ·exact h8
    ·exact h8.trans h7
  ·rw [ZaB e];exact h.low u hu
 ·have hu0:u≠u0:=fun e=>hp (u0,nx) (by simp) e.symm
  rw [ZaB hu0]
  by_cases e:u=v
  ·subst e
   refine ⟨by have:=hlv.1;omega,fun y hy=>?_⟩
   rcases h.arcs (u,[]) (by simp) y hy (by simp) with h1 | h1 | ⟨⟨q,hq,e2⟩,h2,_⟩
   ·exact .inl h1
   ·exact .inr h1
   ·have:=ht2 q hq
    rw [e2] at this
    have h2:wh u<wh y:=h2
    omega
  ·refine h.fin u hu fun p hp2=>?_
   rcases Yj.1 hp2 with rfl | hp2
   ·exact fun e2=>e e2.symm
   ·exact hp p hp2
 ·rcases Yj.1 hr with rfl | hr2
  ·show Zb2 wh st y∨(y ∈ st∧ZcO lo u0 _ u0≤wh y)∨_
   rw [ZN]
   rcases h.arcs (u0,nx) (by simp) y hy hn with h1 | ⟨h1,h2⟩ | ⟨⟨q,hq,e2⟩,h2,h3⟩
   ·exact .inl h1
   ·have h2:lo u0≤wh y:=h2
    exact .inr (.inl ⟨h1,by omega⟩)
   ·have h2:wh u0<wh y:=h2
    have h4:¬ (wh u0<wh v∧wh v<wh y):=h3 (v,[]) (by simp)
    have hy2:y=v:=by
     rcases Yj.1 hq with rfl | hq
     ·exact e2.symm
     ·rcases Yj.1 hq with rfl | hq
      ·have e2:u0=y:=e2
       rw [← e2] at h2;omega
      ·have:=a2 q hq
       rw [e2] at this;omega
    subst hy2
    exact .inr (.inl ⟨hvs,by have:=hlv.1;omega⟩)
  ·rw [ZaB (hr0 r hr2)]
   rcases h.arcs r (by simp [hr2]) y hy hn with h1 | h1 | ⟨⟨q,hq,e2⟩,h2,h3⟩
   ·exact .inl h1
   ·exact .inr (.inl h1)
   ·refine .inr (.inr ⟨?_,h2,fun p hp=>h3 p (YC _ hp)⟩)
    rcases Yj.1 hq with rfl | hq
    ·have e2:v=y:=e2
     have h4:¬ (wh r.1<wh u0∧wh u0<wh y):=h3 (u0,nx) (by simp)
     exact absurd ⟨a2 r hr2,by rw [← e2];exact a1⟩ h4
    ·exact ⟨q,hq,e2⟩
 ·have hu0:u≠u0:=fun e=>hp (u0,nx) (by simp) e.symm
  rw [ZaB hu0]
  rcases Yj.1 hr with rfl | hr2
  ·show ZcO lo u0 _ u0≤lo u
   rw [ZN]
   by_cases e:u=v
   ·subst e;omega
   ·have hp2:∀ p ∈ (v,[]) :: (u0,nx) :: rest,p.1≠u:=fun p hp3=>by
     rcases Yj.1 hp3 with rfl | hp3
     ·exact fun e2=>e e2.symm
     ·exact hp p hp3
    rcases Int.lt_or_le (wh u) (wh v) with h1 | h1
    ·have:=h.lows (u0,nx) (by simp) u hu hp2 hlt fun p hp3=>by
      rcases Yj.1 hp3 with rfl | hp3
      ·exact fun h9=>by have h9:wh v<wh u:=h9.2;omega
      ·exact hb p hp3
     have this:lo u0≤lo u:=this
     omega
    ·have h2:wh v<wh u:=by
      rcases Int.lt_or_eq_of_le h1 with h2 | h2
      ·exact h2
      ·exact absurd (Zqa h.dec hu hvs h2.symm) e
     have:=h.lows (v,[]) (by simp) u hu hp2 h2 fun p hp3 h9=>by
      have h10:=ht2 p hp3
      have h9:wh v<wh p.1:=h9.1
      omega
     have this:lo v≤lo u:=this
     omega
  ·rw [ZaB (hr0 r hr2)]
   have h1:wh u<wh u0:=by
    have h2:¬ (wh r.1<wh u0∧wh u0<wh u):=hb (u0,nx) (by simp)
    have h3:=a2 r hr2
    rcases Int.lt_or_le (wh u) (wh u0) with h4 | h4
    ·exact h4
    ·have h5:wh u=wh u0:=by omega
     exact absurd (Zqa h.dec hu hus h5) hu0
   refine h.lows r (by simp [hr2]) u hu (fun p hp3=>?_) hlt fun p hp3=>?_
   ·rcases Yj.1 hp3 with rfl | hp3
    ·exact fun e2=>by have e2:v=u:=e2;rw [e2] at a1;omega
    ·exact hp p hp3
   ·rcases Yj.1 hp3 with rfl | hp3
    ·exact fun h9=>by have h9:wh v<wh u:=h9.2;omega
    ·exact hb p hp3
 ·obtain ⟨r,h1,h2⟩:=h.root u hu
  exact ⟨r,by simpa using h1,h2⟩
theorem Tj.part {A B:List Int} {m:Int} (h:Tj adj wh lo out ck (A++v :: B) ((v,[]) :: rest)) (hlo:lo v=wh v) (hm:m ∈ A ++ [v]) (hmin:∀ x ∈ A ++ [v],m≤x) :
  Tj adj wh lo (fun u=>if u ∈ A ++ [v] then m else out u) ck B rest:=by
 obtain ⟨ht1,ht2⟩:=h.top
 have hdec:=Ybx.1 h.dec
 have hdB:=Yo.1 hdec.2.1
 have hP:∀ u ∈ A ++ [v],wh v≤wh u∧u ∈ A++v :: B:=fun u hu=>by
  rcases Yz.1 hu with h1 | h1
  ·exact ⟨Yb6 (hdec.2.2 u h1 v (by simp)),by simp [h1]⟩
  ·obtain rfl:=Yk.1 h1
   exact ⟨Yao _,by simp⟩
 have V:∀ u ∈ B,wh u<wh v∧u ∈ A++v :: B:=fun u hu=>⟨hdB.1 u hu,by simp [hu]⟩
 have hsplit:∀ u ∈ A++v :: B,u ∈ A ++ [v]∨u ∈ B:=fun u hu=>by
  rcases Yz.1 hu with h1 | h1
  ·exact .inl (Yz.2 (.inl h1))
  ·rcases Yj.1 h1 with h1 | h1
   ·exact .inl (by simp [h1])
   ·exact .inr h1
 have hvs:v ∈ A++v :: B:=by simp
 have hPt:∀ u ∈ A ++ [v],u≠v → ∀ p ∈ (v,[]) :: rest,p.1≠u:=fun u hu hne p hp e=>by
  rcases Yj.1 hp with rfl | hp
  ·exact hne e.symm
  ·have h1:=ht1 p hp
   rw [e] at h1
   have:=(hP u hu).1
   omega
 have hno:∀ u ∈ A ++ [v],wh v<wh u → ∀ p ∈ (v,[]) :: rest,¬ (wh v<wh p.1∧wh p.1<wh u):=fun u hu _ p hp h9=>by
  have:=ht2 p hp
  omega
 have hlow:∀ u ∈ A ++ [v],wh v≤lo u:=fun u hu=>by
  by_cases e:u=v
  ·rw [e,hlo];exact Yao _
  ·have h1:wh v<wh u:=by
    rcases Int.lt_or_eq_of_le (hP u hu).1 with h1 | h1
    ·exact h1
    ·exact absurd (Zqa h.dec (hP u hu).2 hvs h1.symm) e
   have:=h.lows (v,[]) (by simp) u (hP u hu).2 (hPt u hu e) h1 (hno u hu h1)
   rw [← hlo];exact this
 have hback:∀ (k:Nat) (u:Int),u ∈ A ++ [v]→(wh u).toNat=k→u=v∨Rch (EJ adj) u v:=by
  intro k
  induction k using Nat.strongRecOn with
  | _ k ih=>
   intro u hu hk
   by_cases e:u=v
   ·exact .inl e
   ·refine .inr ?_
    have h1:=(h.fin u (hP u hu).2 (hPt u hu e)).1
    obtain ⟨_,w,hws,h2,h3⟩:=h.low u (hP u hu).2
    have h4:=hlow u hu
    have hwP:w ∈ A ++ [v]:=(hsplit w hws).resolve_right fun h9=>by have:=(V w h9).1;omega
    have h5:Rch (EJ adj) u w:=h3.resolve_left fun e2=>by rw [e2] at h2;omega
    have h6:=h.pos w hws
    rcases ih (wh w).toNat ow w hwP rfl with h7 | h7
    ·rw [← h7];exact h5
    ·exact h5.trans h7
 have hfwd:∀ u ∈ A ++ [v],u=v∨Rch (EJ adj) v u:=fun u hu=>h.reach (v,[]) (by simp) u (hP u hu).2 (hP u hu).1
 have hcl:∀ u ∈ A ++ [v],∀ y ∈ adj u,Zb2 wh (A++v :: B) y∨y ∈ A ++ [v]:=fun u hu y hy=>by
  have key:Zb2 wh (A++v :: B) y∨(y ∈ A++v :: B∧wh v≤wh y):=by
   by_cases e:u=v
   ·rw [e] at hy
    rcases h.arcs (v,[]) (by simp) y hy (by simp) with h1 | ⟨h1,h2⟩ | ⟨⟨q,hq,e2⟩,h2,_⟩
    ·exact .inl h1
    ·exact .inr ⟨h1,by have h2:lo v≤wh y:=h2;omega⟩
    ·have h3:=ht2 q hq
     rw [e2] at h3
     have h2:wh v<wh y:=h2
     omega
   ·rcases (h.fin u (hP u hu).2 (hPt u hu e)).2 y hy with h1 | ⟨h1,h2⟩
    ·exact .inl h1
    ·exact .inr ⟨h1,by have:=hlow u hu;omega⟩
  rcases key with h1 | ⟨h1,h2⟩
  ·exact .inl h1
  ·exact .inr ((hsplit y h1).resolve_right fun h9=>by have:=(V y h9).1;omega)
 have hdr:∀ {d y:Int},Zb2 wh (A++v :: B) d→Rch (EJ adj) d y→Zb2 wh (A++v :: B) y:=fun {d y} hd hr=>by
  induction hr with
  | one k=>exact (h.done _ hd).1 _ k
  | step _ k ih=>exact (h.done _ ih).1 _ k
 have hCr:∀ {u y:Int},u ∈ A ++ [v]→Rch (EJ adj) u y→Zb2 wh (A++v :: B) y∨y ∈ A ++ [v]:=fun {u y} hu hr=>by
  induction hr with
  | one k=>exact hcl _ hu _ k
  | step _ k ih=>
   rcases ih with h1 | h1
   ·exact .inl ((h.done _ h1).1 _ k)
   ·exact hcl _ h1 _ k
 have hmut:∀ u ∈ A ++ [v],∀ x,Znw adj u x ↔ x ∈ A ++ [v]:=fun u hu x=>by
  constructor
  ·rintro (rfl | ⟨h1,h2⟩)
   ·exact hu
   ·rcases hCr hu h1 with h3 | h3
    ·exact absurd (hP u hu).2 (hdr h3 h2).2
    ·exact h3
  ·intro hx
   by_cases e:x=u
   ·exact .inl e
   ·refine .inr ?_
    have key:∀ a ∈ A ++ [v],∀ b ∈ A ++ [v],b≠a→Rch (EJ adj) a b:=fun a ha b hb hne=>by
     rcases hback _ a ha rfl with h1 | h1 <;> rcases hfwd b hb with h2 | h2
     ·exact absurd (h2.trans h1.symm) hne
     ·rw [h1];exact h2
     ·rw [h2];exact h1
     ·exact h1.trans h2
    exact ⟨key u hu x hx e,key x hx u hu fun e2=>e e2.symm⟩
 have hlab:∀ u ∈ A ++ [v],Zp5 adj u m:=fun u hu=>⟨(hmut u hu m).2 hm,fun x hx=>hmin x ((hmut u hu x).1 hx)⟩
 have hdn:∀ d,Zb2 wh B d ↔ Zb2 wh (A++v :: B) d∨d ∈ A ++ [v]:=fun d=>by
  constructor
  ·rintro ⟨h1,h2⟩
   by_cases h3:d ∈ A++v :: B
   ·exact .inr ((hsplit d h3).resolve_right h2)
   ·exact .inl ⟨h1,h3⟩
  ·rintro (⟨h1,h2⟩ | h1)
   ·exact ⟨h1,fun h3=>h2 (V d h3).2⟩
   ·refine ⟨by have:=h.pos d (hP d h1).2;omega,fun h3=>?_⟩
    have:=(V d h3).1
    have:=(hP d h1).1
    omega
 have hrB:∀ r ∈ rest,r.1 ∈ B:=fun r hr=>(hsplit r.1 (h.onst r (by simp [hr]))).resolve_left fun h9=>by
  have:=(hP _ h9).1
  have:=ht1 r hr
  omega
 refine ⟨fun u hu=>h.pos u (V u hu).2,hdB.2,h.vis,fun u hu=>?_,fun u hu hp=>?_,fun d hd=>?_,hrB,fun r hr=>h.sub r (YC _ hr),(Yo.1 h.wdec).2,fun r hr y hy hn=>?_,fun r hr u hu hp hlt hb=>?_,fun r hr u hu hle=>h.reach r (YC _ hr) u (V u hu).2 hle,fun u hu=>?_⟩
 ·obtain ⟨h1,w,hws,h2,h3⟩:=h.low u (V u hu).2
  refine ⟨h1,w,(hsplit w hws).resolve_left fun h9=>?_,h2,h3⟩
  have:=(hP w h9).1
  have:=(V u hu).1
  omega
 ·have huv:u≠v:=fun e=>by have:=(V u hu).1;rw [e] at this;omega
  obtain ⟨h1,h2⟩:=h.fin u (V u hu).2 fun p hp2=>by
   rcases Yj.1 hp2 with rfl | hp2
   ·exact fun e=>huv e.symm
   ·exact hp p hp2
  refine ⟨h1,fun y hy=>?_⟩
  rcases h2 y hy with h3 | ⟨h3,h4⟩
  ·exact .inl ((hdn y).2 (.inl h3))
  ·rcases hsplit y h3 with h5 | h5
   ·exact .inl ((hdn y).2 (.inr h5))
   ·exact .inr ⟨h5,h4⟩
 ·rcases (hdn d).1 hd with h1 | h1
  ·have hnp:d ∉ A ++ [v]:=fun h9=>h1.2 (hP d h9).2
   obtain ⟨h2,h3⟩:=h.done d h1
   refine ⟨fun y hy=>(hdn y).2 (.inl (h2 y hy)),?_⟩
   show Zp5 adj d (if d ∈ A ++ [v] then m else out d)
   rw [Yc hnp];exact h3
  ·refine ⟨fun y hy=>(hdn y).2 (hcl d h1 y hy),?_⟩
   show Zp5 adj d (if d ∈ A ++ [v] then m else out d)
   rw [Yf h1];exact hlab d h1
 ·rcases h.arcs r (by simp [hr]) y hy hn with h1 | ⟨h1,h2⟩ | ⟨⟨q,hq,e2⟩,h2,h3⟩
  ·exact .inl ((hdn y).2 (.inl h1))
  ·rcases hsplit y h1 with h5 | h5
   ·exact .inl ((hdn y).2 (.inr h5))
   ·exact .inr (.inl ⟨h5,h2⟩)
  ·rcases Yj.1 hq with rfl | hq
   ·have e2:v=y:=e2
    exact .inl ((hdn y).2 (.inr (by rw [← e2];simp)))
   ·exact .inr (.inr ⟨⟨q,hq,e2⟩,h2,fun p hp=>h3 p (YC _ hp)⟩)
 ·refine h.lows r (by simp [hr]) u (V u hu).2 (fun p hp2=>?_) hlt fun p hp2=>?_
  ·rcases Yj.1 hp2 with rfl | hp2
   ·exact fun e=>by have e:v=u:=e;have:=(V u hu).1;rw [e] at this;omega
   ·exact hp p hp2
  ·rcases Yj.1 hp2 with rfl | hp2
   ·exact fun h9=>by have h9:wh v<wh u:=h9.2;have:=(V u hu).1;omega
   ·exact hb p hp2
 ·obtain ⟨r,h1,h2⟩:=h.root u (V u hu).2
  cases rest with
  | nil=>simp at h1;rw [← h1] at h2;have:=(V u hu).1;have h2:wh v≤wh u:=h2;omega
  | cons y l=>exact ⟨r,by simpa using h1,h2⟩
end
structure Zbw where
 wh:List Int
 lo:List Int
 wait:List Int
 inn:List Int
 ck:Int
 out:List Int
def fI (l:List Int):Int→Int:=fun x=>if 0≤x then Nn l x.toNat else 0
theorem ZaR {l:List Int} {x:Int} (h:0≤x):fI l x=Nn l x.toNat:=Yf h
theorem ZcI {l:List Int} {i j:Nat} {c:Int} (hi:i<l.length):Nn (l.set i c) j=if j=i then c else Nn l j:=by
 by_cases hj:j<l.length
 ·rw [nth_eq (by simpa using hj),YbX,nth_eq hj]
  by_cases e:j=i
  ·rw [Yf e,Yf e.symm]
  ·rw [Yc e,Yc fun h=>e h.symm]
 ·rw [Yc ow]
  have e1:∀ (m:List Int),m.length≤j→Nn m j=(default:Int):=fun m hm=>by
   unfold Nn
   simp [YaG,hm]
  rw [e1 _ (by simp;omega),e1 _ ow]
theorem ZcN {l:List Int} {x c:Int} (h:0≤x∧x<l.length):fI (l.set x.toNat c)=ZcO (fI l) x c:=by
 funext y
 show (if 0≤y then Nn (l.set x.toNat c) y.toNat else 0)=if y=x then c else (if 0≤y then Nn l y.toNat else 0)
 by_cases hy:0≤y
 ·rw [Yf hy,Yf hy,ZcI ow]
  by_cases e:y=x
  ·rw [Yf e,Yf (by rw [e])]
  ·rw [Yc e,Yc ow]
 ·rw [Yc hy,Yc hy,Yc ow]
def Znx (n:Nat) (wh:List Int):List Nat:=(List.range n).filter fun i=>decide (Nn wh i=0)
def muW (way:Zmr):Nat:=(way.map fun r=>r.2.length+1).sum
def muU (n:Nat) (adj:Int→List Int) (wh:List Int):Nat:=((Znx n wh).map fun i:Nat=>(adj (i:Int)).length+2).sum
structure TI (n:Nat) (adj:Int→List Int) (s:Zbw) (way:Zmr):Prop where
 tj:Tj adj (fI s.wh) (fI s.lo) (fI s.out) s.ck s.wait.reverse way.reverse
 lw:s.wh.length=n
 ll:s.lo.length=n
 lout:s.out.length=n
 rng:∀ u ∈ s.wait,0≤u∧u<n
 up:Up n s.inn
 mem:∀ u,u ∈ s.inn ↔ u ∈ s.wait
 cnt:s.ck+(Znx n s.wh).length=n
def Zbv (n:Nat) (s:Zbw) (x:Int):Zbw:=⟨s.wh.set x.toNat (s.ck+1),s.lo.set x.toNat (s.ck+1),s.wait ++ [x],putL s.inn n x true,s.ck+1,s.out⟩
theorem Zlu {n:Nat} {wh:List Int} {x c:Int} (hl:wh.length=n) (hx:0≤x∧x<n) (h0:Nn wh x.toNat=0) (hc:c≠0) (f:Nat→Nat) :
  ((Znx n (wh.set x.toNat c)).map f).sum+f x.toNat=((Znx n wh).map f).sum:=by
 have hlt:x.toNat<n:=by omega
 have e:Znx n (wh.set x.toNat c)=(Znx n wh).erase x.toNat:=by
  have hn:(Znx n wh).Nodup:=(List.nodup_range).filter _
  rw [hn.erase_eq_filter]
  unfold Znx
  rw [List.filter_filter]
  refine List.filter_congr fun i hi=>?_
  rw [ZcI ow]
  by_cases e:i=x.toNat
  ·rw [Yf e];simp [e,hc]
  ·rw [Yc e];simp [e]
 have hm:x.toNat ∈ Znx n wh:=YV.2 ⟨Ya7.2 hlt,by simpa using h0⟩
 rw [e]
 have hp:=(List.perm_cons_erase hm).map f
 have:=hp.sum_nat
 rw [this,YS,List.sum_cons,Yb5]
theorem ZhL {n:Nat} {l:List Int} {i j:Int} {on:Bool} (hi:0≤i∧i<n):j ∈ putL l n i on ↔ (j≠i∧j ∈ l)∨(j=i∧on=true):=by
 have e:(!on || decide (i<0) || decide ((n:Int)≤i)) = !on:=by
  rw [YF ow,YF ow,Bool.or_false,Bool.or_false]
 unfold putL
 rw [Zd3,e]
 simp
theorem Zla {n:Nat} {l:List Int} {i:Int} {on:Bool} (h:Up n l) (hi:0≤i∧i<n):Up n (putL l n i on):=by
 refine ⟨?_,fun j hj=>?_⟩
 ·unfold putL;exact Zj2 _ _ _ h.1
 ·rcases (ZhL hi).1 hj with h1 | h1
  ·exact h.2 j h1.2
  ·rw [h1.1];exact hi
section
variable {n:Nat} {adj:Int→List Int} {s:Zbw} {way:Zmr} {v x:Int} {next:List Int}
theorem TI.zero (n:Nat) (adj:Int→List Int):TI n adj ⟨List.replicate n 0,List.replicate n 0,[],[],0,List.replicate n 0⟩ []:=by
 have e:fI (List.replicate n 0)=fun _=>0:=by
  funext y
  unfold fI
  split
  ·by_cases h:y.toNat<n
   ·rw [nth_eq (by simpa using h)];simp
   ·unfold Nn;simp [YaG,show n≤y.toNat by omega]
  ·rfl
 have hu:Znx n (List.replicate n 0)=List.range n:=Ybk.2 fun i hi=>by
  rw [nth_eq (by simpa using hi)];simp
 refine ⟨?_,by simp,by simp,by simp,by simp,⟨.nil,by simp⟩,by simp,?_⟩
 ·show Tj adj (fI (List.replicate n 0)) _ _ 0 [] []
  rw [e];exact Tj.zero
 ·show (0:Int)+((Znx n (List.replicate n 0)).length:Int)=n
  rw [hu];simp
theorem TI.unv (h:TI n adj s way) {u:Int} (hu:fI s.wh u=0):u ∉ s.wait:=fun hm=>by
 have:=h.tj.pos u (Yal.2 hm)
 omega
theorem ZhK (hx:0≤x∧x<n) (h:TI n adj s way) (h0:fI s.wh x=0):(Zbv n s x).ck+(Znx n (Zbv n s x).wh).length=n∧muU n adj (Zbv n s x).wh+((adj x).length+2)=muU n adj s.wh:=by
 rw [ZaR hx.1] at h0
 have hc:s.ck+1≠0:=by have:=(h.tj.vis x);omega
 have h1:=Zlu h.lw hx h0 hc (fun _=>1)
 have h2:=Zlu h.lw hx h0 hc (fun i:Nat=>(adj (i:Int)).length+2)
 have e:∀ l:List Nat,(l.map fun _=>1).sum=l.length:=fun l=>by
  induction l with
  | nil=>rfl
  | cons y l ih=>rw [YS,List.sum_cons,ih,Yl];omega
 rw [e,e] at h1
 have hx2:((x.toNat:Nat):Int)=x:=by omega
 rw [hx2] at h2
 have:=h.cnt
 unfold Zbv muU
 dsimp only
 exact ⟨by omega,h2⟩
theorem Zja (hx:0≤x∧x<n) (h:TI n adj s way):(∀ u ∈ (Zbv n s x).wait,0≤u∧u<n)∧Up n (Zbv n s x).inn ∧ ∀ u,u ∈ (Zbv n s x).inn ↔ u ∈ (Zbv n s x).wait:=by
 refine ⟨fun u hu=>?_,Zla h.up hx,fun u=>?_⟩
 ·rcases Yz.1 hu with h1 | h1
  ·exact h.rng u h1
  ·rw [Yk.1 h1];exact hx
 ·show u ∈ putL s.inn n x true ↔ u ∈ s.wait ++ [x]
  rw [ZhL hx,h.mem u,Yz,Yk]
  by_cases e:u=x
  ·simp [e]
  ·simp [e]
theorem TI.first (hx:0≤x∧x<n) (h:TI n adj s []) (h0:fI s.wh x=0):TI n adj (Zbv n s x) [(x,adj x)]:=by
 have hw:s.wait = []:=by
  cases hc:s.wait with
  | nil=>rfl
  | cons y l=>
   obtain ⟨r,hr,_⟩:=h.tj.root y (Yal.2 (by rw [hc];simp))
   cases hr
 have htj:=h.tj
 rw [hw] at htj
 obtain ⟨r1',r2',r3'⟩:=Zja hx h
 refine ⟨?_,by simp [Zbv,h.lw],by simp [Zbv,h.ll],h.lout,r1',r2',r3',(ZhK hx h h0).1⟩
 show Tj adj (fI (s.wh.set _ _)) (fI (s.lo.set _ _)) _ _ (s.wait ++ [x]).reverse _
 rw [hw,ZcN (by rw [h.lw];exact hx),ZcN (by rw [h.ll];exact hx)]
 exact htj.first h0
theorem TI.meet (hadj:∀ u y,y ∈ adj u→0≤y∧y<(n:Int)) (h:TI n adj s (way ++ [(v,x :: next)])) (h0:fI s.wh x=0):TI n adj (Zbv n s x) (way ++ [(v,next)] ++ [(x,adj x)]):=by
 have hx:0≤x∧x<n:=hadj v x (h.tj.sub (v,x :: next) (by simp) x (by simp))
 have htj:=h.tj
 rw [Yaj] at htj
 obtain ⟨r1',r2',r3'⟩:=Zja hx h
 refine ⟨?_,by simp [Zbv,h.lw],by simp [Zbv,h.ll],h.lout,r1',r2',r3',(ZhK hx h h0).1⟩
 show Tj adj (fI (s.wh.set _ _)) (fI (s.lo.set _ _)) _ _ (s.wait ++ [x]).reverse _
 rw [ZcN (by rw [h.lw];exact hx),ZcN (by rw [h.ll];exact hx),Yaj,Yaj,Yaj]
 exact htj.meet h0
theorem TI.wait (hv:0≤v∧v<n) (h:TI n adj s (way ++ [(v,x :: next)])) (hx:x ∈ s.inn):TI n adj { s with lo:=s.lo.set v.toNat (min (fI s.lo v) (fI s.wh x)) } (way ++ [(v,next)]):=by
 have htj:=h.tj
 rw [Yaj] at htj
 refine ⟨?_,h.lw,by simp [h.ll],h.lout,h.rng,h.up,h.mem,h.cnt⟩
 show Tj adj _ (fI (s.lo.set _ _)) _ _ _ _
 rw [ZcN (by rw [h.ll];exact hv),Yaj]
 exact htj.pass (.inr ⟨Yal.2 ((h.mem x).1 hx),rfl⟩)
theorem TI.past (h:TI n adj s (way ++ [(v,x :: next)])) (h0:fI s.wh x≠0) (hx:x ∉ s.inn):TI n adj s (way ++ [(v,next)]):=by
 have htj:=h.tj
 rw [Yaj] at htj
 refine ⟨?_,h.lw,h.ll,h.lout,h.rng,h.up,h.mem,h.cnt⟩
 have h1:=htj.pass (c:=fI s.lo v) (.inl ⟨⟨h0,fun hm=>hx ((h.mem x).2 (Yal.1 hm))⟩,rfl⟩)
 have e:ZcO (fI s.lo) v (fI s.lo v)=fI s.lo:=by
  funext y;unfold ZcO;split
  ·rename_i e;rw [e]
  ·rfl
 rw [e] at h1
 rw [Yaj];exact h1
def partL (wait:List Int) (v:Int):List Int:=(wait.reverse.takeWhile fun y=>decide (y≠v)) ++ [v]
def keepL (wait:List Int) (v:Int):List Int:=((wait.reverse.dropWhile fun y=>decide (y≠v)).drop 1).reverse
theorem Zhp {wait:List Int} {v:Int} (h:v ∈ wait):wait.reverse=(wait.reverse.takeWhile fun y=>decide (y≠v))++v :: (keepL wait v).reverse:=by
 have h1:=List.takeWhile_append_dropWhile (p:=fun y=>decide (y≠v)) (l:=wait.reverse)
 have h2:∃ t,wait.reverse.dropWhile (fun y=>decide (y≠v))=v :: t:=by
  have key:∀ l:List Int,v ∈ l → ∃ t,l.dropWhile (fun y=>decide (y≠v))=v :: t:=by
   intro l
   induction l with
   | nil=>intro h;cases h
   | cons y l ih=>
    intro h
    by_cases e:y=v
    ·rw [List.dropWhile_cons_of_neg (by simpa using e),e];exact ⟨l,rfl⟩
    ·rw [List.dropWhile_cons_of_pos (by simpa using e)]
     exact ih ((Yj.1 h).resolve_left fun h9=>e h9.symm)
  exact key _ (Yal.2 h)
 obtain ⟨t,h2⟩:=h2
 unfold keepL
 rw [h2] at h1 ⊢
 rw [YbT]
 exact h1.symm
def Zu8 (m:Int) (l:List Int):Prop:=m ∈ l ∧ ∀ x ∈ l,m≤x
def outL (part:List Int) (m:Int) (out:List Int):List Int:=part.foldl (fun o y=>o.set y.toNat m) out
def innL (n:Nat) (part:List Int) (inn:List Int):List Int:=part.foldl (fun l y=>putL l n y false) inn
theorem Zhu (m:Int):∀ (part out:List Int),(outL part m out).length=out.length
 | [],out=>rfl
 | y :: part,out=>by
  have:=Zhu m part (out.set y.toNat m)
  rw [YI] at this
  exact this
theorem ZnP (m:Int):∀ (part out:List Int),(∀ y ∈ part,0≤y∧y<out.length)→fI (outL part m out)=fun u=>if u ∈ part then m else fI out u
 | [],out,_=>by funext u;simp [outL]
 | y :: part,out,h=>by
  have h1:=h y (by simp)
  have ih:=ZnP m part (out.set y.toNat m) fun z hz=>by rw [YI];exact h z (by simp [hz])
  have e:outL (y :: part) m out=outL part m (out.set y.toNat m):=rfl
  rw [e,ih,ZcN h1]
  funext u
  unfold ZcO
  by_cases e1:u ∈ part
  ·rw [Yf e1,Yf (by simp [e1])]
  ·rw [Yc e1]
   by_cases e2:u=y
   ·rw [Yf e2,Yf (by simp [e2])]
   ·rw [Yc e2,Yc (by simp [e1,e2])]
theorem ZoX (n:Nat):∀ (part inn:List Int),(∀ y ∈ part,0≤y∧y<(n:Int))→Up n inn→Up n (innL n part inn) ∧ ∀ u,u ∈ innL n part inn ↔ u ∈ inn∧u ∉ part
 | [],inn,_,hu=>⟨hu,fun u=>by simp [innL]⟩
 | y :: part,inn,h,hu=>by
  have h1:=h y (by simp)
  obtain ⟨i1,i2⟩:=ZoX n part (putL inn n y false) (fun z hz=>h z (by simp [hz])) (Zla hu h1)
  have e:innL n (y :: part) inn=innL n part (putL inn n y false):=rfl
  rw [e]
  refine ⟨i1,fun u=>?_⟩
  rw [i2,ZhL h1]
  simp
  constructor
  ·rintro ⟨⟨h2,h3⟩,h4⟩;exact ⟨h3,h2,h4⟩
  ·rintro ⟨h3,h2,h4⟩;exact ⟨⟨h2,h3⟩,h4⟩
def Zn2 (n:Nat) (s:Zbw) (v m:Int):Zbw:={ s with wait:=keepL s.wait v,inn:=innL n (partL s.wait v) s.inn,out:=outL (partL s.wait v) m s.out }
theorem TI.part {m:Int} (h:TI n adj s (way ++ [(v,[])])) (hlo:fI s.lo v=fI s.wh v) (hm:Zu8 m (partL s.wait v)):TI n adj (Zn2 n s v m) way:=by
 have htj:=h.tj
 rw [Yaj] at htj
 have hvw:v ∈ s.wait:=Yal.1 (htj.onst (v,[]) (by simp))
 have hsp:=Zhp hvw
 rw [hsp] at htj
 have hpr:∀ y ∈ partL s.wait v,0≤y∧y<(n:Int):=fun y hy=>by
  refine h.rng y (Yal.1 ?_)
  rw [hsp]
  unfold partL at hy
  rcases Yz.1 hy with h1 | h1
  ·exact Yaf _ h1
  ·rw [Yk.1 h1];simp
 have hnew:=htj.part hlo hm.1 hm.2
 obtain ⟨i1,i2⟩:=ZoX n (partL s.wait v) s.inn hpr h.up
 have hsub:∀ u ∈ keepL s.wait v,u ∈ s.wait:=fun u hu=>Yal.1 (by rw [hsp];simp [hu])
 refine ⟨?_,h.lw,h.ll,by show (outL _ _ _).length=n;rw [Zhu];exact h.lout,fun u hu=>h.rng u (hsub u hu),i1,fun u=>?_,h.cnt⟩
 ·show Tj adj (fI s.wh) (fI s.lo) (fI (outL (partL s.wait v) m s.out)) s.ck (keepL s.wait v).reverse way.reverse
  rw [ZnP m _ _ fun y hy=>by rw [h.lout];exact hpr y hy]
  exact hnew
 ·show u ∈ innL n (partL s.wait v) s.inn ↔ u ∈ keepL s.wait v
  rw [i2,h.mem]
  have hd:=htj.dec
  constructor
  ·rintro ⟨h1,h2⟩
   have h3:u ∈ s.wait.reverse:=Yal.2 h1
   rw [hsp] at h3
   unfold partL at h2
   rcases Yz.1 h3 with h4 | h4
   ·exact absurd (Yaf _ h4) h2
   ·rcases Yj.1 h4 with h4 | h4
    ·exact absurd (YX _ (by simp [h4])) h2
    ·exact Yal.1 h4
  ·intro hu
   refine ⟨hsub u hu,fun h2=>?_⟩
   have hur:u ∈ (keepL s.wait v).reverse:=Yal.2 hu
   obtain ⟨_,d2,d3⟩:=Ybx.1 hd
   unfold partL at h2
   rcases Yz.1 h2 with h4 | h4
   ·have:=d3 u h4 u (YC _ hur);omega
   ·have:=(Yo.1 d2).1 u hur
    rw [Yk.1 h4] at this;omega
theorem TI.stay {u0:Int} {nx:List Int} (hu:0≤u0∧u0<n) (h:TI n adj s (way ++ [(u0,nx)] ++ [(v,[])])) (hlo:fI s.lo v≠fI s.wh v):TI n adj { s with lo:=s.lo.set u0.toNat (min (fI s.lo u0) (fI s.lo v)) } (way ++ [(u0,nx)]):=by
 have htj:=h.tj
 rw [Yaj,Yaj] at htj
 refine ⟨?_,h.lw,by simp [h.ll],h.lout,h.rng,h.up,h.mem,h.cnt⟩
 show Tj adj _ (fI (s.lo.set _ _)) _ _ _ _
 rw [ZcN (by rw [h.ll];exact hu),Yaj]
 exact htj.stay hlo
theorem TI.root (h:TI n adj s [(v,[])]):fI s.lo v=fI s.wh v:=by
 have hvs:=h.tj.onst (v,[]) (by simp)
 obtain ⟨h1,w,hw,h2,_⟩:=h.tj.low v hvs
 obtain ⟨r,h3,h4⟩:=h.tj.root w hw
 have:r=(v,[]):=by simpa using h3.symm
 rw [this] at h4
 have h4:fI s.wh v≤fI s.wh w:=h4
 omega
theorem TI.same {u0:Int} {nx:List Int} (h:TI n adj s (way ++ [(u0,nx)] ++ [(v,[])])) (hlo:fI s.lo v=fI s.wh v):min (fI s.lo u0) (fI s.lo v)=fI s.lo u0:=by
 have htj:=h.tj
 rw [Yaj,Yaj] at htj
 have h1:=htj.above.1
 have h2:=(htj.low u0 (htj.onst (u0,nx) (by simp))).1
 omega
end
theorem ZoU {P:Int→Prop} (h0:∀ x,P x→0≤x) {u:Int} (hu:P u):∃ m,P m ∧ ∀ x,P x→m≤x:=by
 apply Ybv
 intro hn
 have key:∀ k:Nat,∀ x,P x→(k:Int)≤x:=by
  intro k
  induction k with
  | zero=>intro x hx;exact h0 x hx
  | succ k ih=>
   intro x hx
   have h1:=ih x hx
   by_cases e:x=k
   ·exact absurd ⟨x,hx,fun y hy=>by have:=ih y hy;omega⟩ hn
   ·omega
 have h1:=key (u.toNat+1) u hu
 have h2:=h0 u hu
 omega
theorem ZkC {P:Nat→Int→Prop} : ∀ n:Nat,(∀ u,u<n → ∃ m,P u m) → ∃ L:List Int,L.length=n ∧ ∀ u,u<n→P u (Nn L u)
 | 0,_=>⟨[],rfl,fun u hu=>absurd hu (Y2 u)⟩
 | n+1,h=>by
  obtain ⟨L,h1,h2⟩:=ZkC n fun u hu=>h u ow
  obtain ⟨m,hm⟩:=h n ow
  refine ⟨L ++ [m],by simp [h1],fun u hu=>?_⟩
  rw [nth_eq (by simp;omega)]
  by_cases e:u<n
  ·rw [List.getElem_append_left ow,← nth_eq ow];exact h2 u e
  ·have e:u=L.length:=by omega
   subst e
   rw [List.getElem_append_right ow];simpa [h1] using hm
def Zky (adj:Int→List Int) (n:Nat) (L:List Int):Prop:=L.length=n ∧ ∀ u:Nat,u<n→Zp5 adj (u:Int) (Nn L u)
theorem Zsx {E:Int→Int→Prop} {a b:Int} (h:Rch E a b):∃ c,E c b:=by
 cases h with
 | one k=>exact ⟨_,k⟩
 | step _ k=>exact ⟨_,k⟩
theorem Zs7 {adj:Int→List Int} (n:Nat) (hadj:∀ u y,y ∈ adj u→0≤y):∃ L,Zky adj n L:=by
 refine ZkC n fun u _=>ZoU (P:=Znw adj (u:Int)) (fun x hx=>?_) (.inl rfl)
 rcases hx with h | ⟨h,_⟩
 ·omega
 ·obtain ⟨c,k⟩:=Zsx h;exact hadj c x k
theorem Zp5.one {adj:Int→List Int} {u a b:Int} (h:Zp5 adj u a) (k:Zp5 adj u b):a=b:=Int.le_antisymm (h.2 b k.1) (k.2 a h.1)
theorem Znw.symm {adj:Int→List Int} {u x:Int} (h:Znw adj u x):Znw adj x u:=h.elim (fun e=>.inl e.symm) fun e=>.inr ⟨e.2,e.1⟩
theorem Znw.trans {adj:Int→List Int} {u x y:Int} (h:Znw adj u x) (k:Znw adj x y):Znw adj u y:=by
 rcases h with rfl | ⟨h1,h2⟩
 ·exact k
 ·rcases k with rfl | ⟨k1,k2⟩
  ·exact .inr ⟨h1,h2⟩
  ·exact .inr ⟨h1.trans k1,k2.trans h2⟩
theorem Zp5.same {adj:Int→List Int} {u v a b:Int} (h:Zp5 adj u a) (k:Zp5 adj v b):a=b ↔ Znw adj u v:=by
 constructor
 ·intro e;subst e;exact h.1.trans k.1.symm
 ·intro m
  exact Int.le_antisymm (h.2 b (m.trans k.1)) (k.2 a (m.symm.trans h.1))
theorem Zky.one {adj:Int→List Int} {n:Nat} {L M:List Int} (h:Zky adj n L) (k:Zky adj n M):L=M:=by
 refine ZaV (by rw [h.1,k.1]) fun j hj=>?_
 rw [h.1] at hj
 exact (h.2 j hj).one (k.2 j hj)
theorem TI.labs {n:Nat} {adj:Int→List Int} {s:Zbw} (h:TI n adj s []) (hv:∀ u:Nat,u<n→Nn s.wh u≠0):Zky adj n s.out:=by
 refine ⟨h.lout,fun u hu=>?_⟩
 have hd:Zb2 (fI s.wh) s.wait.reverse (u:Int):=by
  refine ⟨by rw [ZaR ow];exact hv u ow,fun hm=>?_⟩
  obtain ⟨r,hr,_⟩:=h.tj.root _ hm
  cases hr
 have:=(h.tj.done _ hd).2
 rw [ZaR ow] at this
 exact this
theorem ZdH {n:Nat} {l:List Int} (hnd:l.Nodup) (h:∀ y ∈ l,0≤y∧y<n):l.length≤n:=by
 have hn2:l.Nodup→(∀ y ∈ l,y ∈ (List.range n).map fun i:Nat=>(i:Int))→l.length≤((List.range n).map fun i:Nat=>(i:Int)).length:=fun a b=>List.Nodup.length_le_of_subset a b
 have:=hn2 hnd fun y hy=>Yv.2 ⟨y.toNat,Ya7.2 (by have:=h y hy;omega),by have:=h y hy;omega⟩
 simpa using this
def ZjX:List Int→Int
 | []=>0
 | x :: l=>l.foldl min x
theorem Zn1 {l:List Int} (h:l≠[]):Zu8 (ZjX l) l:=by
 have key:∀ (l:List Int) (x:Int),(l.foldl min x=x∨l.foldl min x ∈ l)∧l.foldl min x≤x ∧ ∀ y ∈ l,l.foldl min x≤y:=by
  intro l
  induction l with
  | nil=>intro x;exact ⟨.inl rfl,Yao _,by simp⟩
  | cons a l ih=>
   intro x
   obtain ⟨h1,h2,h3⟩:=ih (min x a)
   rw [Yan]
   refine ⟨?_,by omega,fun y hy=>?_⟩
   ·rcases h1 with h1 | h1
    ·rw [h1]
     by_cases e:x≤a
     ·left;omega
     ·right;have:min x a=a:=by omega
      rw [this];simp
    ·right;simp [h1]
   ·rcases Yj.1 hy with rfl | hy
    ·omega
    ·exact h3 y hy
 cases l with
 | nil=>exact absurd rfl h
 | cons x l=>
  obtain ⟨h1,h2,h3⟩:=key l x
  refine ⟨?_,fun y hy=>?_⟩
  ·show l.foldl min x ∈ x :: l
   rcases h1 with h1 | h1
   ·rw [h1];simp
   ·simp [h1]
  ·rcases Yj.1 hy with rfl | hy
   ·exact h2
   ·exact h3 y hy
def leaveD (n:Nat) (s:Zbw) (v:Int):Zbw:=if fI s.lo v=fI s.wh v then Zn2 n s v (ZjX (partL s.wait v)) else s
theorem Zf0 (n:Nat) (s:Zbw) (v:Int):(leaveD n s v).wh=s.wh∧(leaveD n s v).lo=s.lo:=by unfold leaveD;split <;> exact ⟨rfl,rfl⟩
theorem Zik (w:List Int) (v:Int):partL w v≠[]:=by unfold partL;simp
theorem ZtY {w:List Int} {k:Nat} {v:Int} (hk:k<w.length) (hn:v ∉ w.reverse.take k) (hv:Nn w (w.length - (k+1))=v):w.reverse.take k ++ [v] = partL w v∧w.take (w.length - (k+1))=keepL w v:=by
 have e0:Nn w.reverse k=v:=by
  rw [nth_eq (by simpa using hk),List.getElem_reverse,← hv,nth_eq ow]
  congr 1;omega
 have e1:w.reverse=w.reverse.take k++v :: w.reverse.drop (k+1):=by
  conv=>lhs;rw [← YaF k w.reverse]
  rw [Ya8 (by simpa using hk),← nth_eq (by simpa using hk),e0]
 have key:∀ (a b:List Int),v ∉ a→(a++v :: b).takeWhile (fun y=>decide (y≠v))=a∧(a++v :: b).dropWhile (fun y=>decide (y≠v))=v :: b:=by
  intro a b
  induction a with
  | nil=>intro _;simp
  | cons x a ih=>
   intro h
   have h1:x≠v:=fun e=>h (by simp [e])
   obtain ⟨i1,i2⟩:=ih fun h2=>h (by simp [h2])
   rw [Yah,Ybo (by simpa using h1),List.dropWhile_cons_of_pos (by simpa using h1),i1,i2]
   exact ⟨rfl,rfl⟩
 obtain ⟨k1,k2⟩:=key _ (w.reverse.drop (k+1)) hn
 rw [← e1] at k1 k2
 unfold partL keepL
 rw [k1,k2]
 refine ⟨rfl,?_⟩
 show _=(w.reverse.drop (k+1)).reverse
 rw [List.drop_reverse,YbT]
theorem ZlG {w:List Int} {k:Nat} (hk:k<w.length):w.reverse.take k ++ [Nn w (w.length - (k+1))] = w.reverse.take (k+1)∧w.take (w.length - k)=w.take (w.length - (k+1)) ++ [Nn w (w.length - (k+1))]:=by
 constructor
 ·rw [Zp (by simpa using hk)]
  congr 2
  rw [nth_eq ow,nth_eq (by simpa using hk),List.getElem_reverse]
  congr 1;omega
 ·conv=>lhs;rw [show w.length - k=w.length - (k+1)+1 by omega]
  exact Zp ow
section
variable {n:Nat} {adj:Int→List Int} {s:Zbw} {way:Zmr} {v u:Int} {nx:List Int}
theorem ZrZ {l:List Int} {i:Nat} : l.set i (Nn l i)=l:=by
 apply Ya3 (by simp)
 intro j h1 h2
 rw [YbX]
 split
 ·rename_i e;subst e;rw [nth_eq h2]
 ·rfl
theorem TI.leftRoot (h:TI n adj s [(v,[])]):TI n adj (leaveD n s v) []:=by
 unfold leaveD
 rw [Yf h.root]
 exact TI.part (way:=[]) h h.root (Zn1 (Zik _ _))
theorem TI.left (hu:0≤u∧u<n) (h:TI n adj s (way ++ [(u,nx)] ++ [(v,[])])):TI n adj { leaveD n s v with lo:=(leaveD n s v).lo.set u.toNat (min (fI s.lo u) (fI s.lo v)) } (way ++ [(u,nx)]):=by
 unfold leaveD
 by_cases e:fI s.lo v=fI s.wh v
 ·rw [Yf e]
  have h1:=TI.part (way:=way ++ [(u,nx)]) h e (Zn1 (Zik _ _))
  have h2:=h.same e
  rw [h2,ZaR hu.1]
  have:(Zn2 n s v (ZjX (partL s.wait v))).lo=s.lo:=rfl
  rw [this,ZrZ]
  exact h1
 ·rw [Yc e];exact h.stay hu e
theorem TI.nodes (h:TI n adj s way):∀ r ∈ way,r.1 ∈ s.wait∧0≤r.1∧r.1<n:=fun r hr=>by
 have:=Yal.1 (h.tj.onst r (Yal.2 hr))
 exact ⟨this,h.rng _ this⟩
theorem TI.wayLen (h:TI n adj s way):way.length≤n:=by
 have h1:(way.reverse.map Prod.fst).Nodup:=by
  rw [List.Nodup,YaW]
  exact h.tj.wdec.imp fun h e=>by rw [e] at h;omega
 have:=ZdH h1 fun y hy=>by
  obtain ⟨r,hr,rfl⟩:=Yv.1 hy
  exact (h.nodes r (Yal.1 hr)).2
 simpa using this
theorem TI.waitNd (h:TI n adj s way):s.wait.Nodup:=by
 have:s.wait.reverse.Nodup:=h.tj.dec.imp fun h e=>by rw [e] at h;omega
 exact (List.pairwise_reverse.1 this).imp fun h=>h.symm
theorem TI.waitLe (h:TI n adj s way):s.wait.length≤n:=ZdH h.waitNd h.rng
theorem TI.waitLt (h:TI n adj s way) (hu:0≤u∧u<n) (h0:fI s.wh u=0):s.wait.length<n:=by
 have:=ZdH (n:=n) (l:=u :: s.wait) (Ybi.2 ⟨h.unv h0,h.waitNd⟩) fun y hy=>by
  rcases Yj.1 hy with rfl | hy
  ·exact hu
  ·exact h.rng y hy
 rw [Yl] at this;omega
theorem TI.ckLe (h:TI n adj s way):0≤s.ck∧s.ck≤n:=by
 have h1:=h.cnt
 have h2:=h.tj.vis 0
 omega
theorem ZbP (way:Zmr) (r:Int×List Int):muW (way ++ [r])=muW way+(r.2.length+1):=by
 unfold muW;simp
theorem Zpw (hx:0≤v∧v<n) (h:TI n adj s way) (y:Int):fI (Zbv n s v).wh y=if y=v then s.ck+1 else fI s.wh y:=by
 show fI (s.wh.set _ _) y=_
 rw [ZcN (by rw [h.lw];exact hx)];rfl
end
theorem Zro {α:Type} {l:List α} {x y:α} : (l ++ [x]).set l.length y=l ++ [y]:=by simp
theorem ZpA {part:List Int} {m:Int} {out:List Int} {i:Nat} (h:i<part.length):(outL (part.take i) m out).set (Nn part i).toNat m=outL (part.take (i+1)) m out:=by
 unfold outL
 rw [Zp h,Yat];rfl
theorem Zpz {n:Nat} {part:List Int} {y:Int} {inn:List Int} : putL (innL n part inn) n y false=innL n (part ++ [y]) inn:=by
 unfold innL
 rw [Yat];rfl
theorem ZrJ {w:List Int} {v y:Int} (hv:v ∈ w) (h:y ∈ partL w v):y ∈ w:=by
 have hs:=Zhp hv
 refine Yal.1 ?_
 rw [hs]
 unfold partL at h
 rcases Yz.1 h with h1 | h1
 ·exact Yaf _ h1
 ·rw [Yk.1 h1];simp
theorem Zpf {w:List Int} {v:Int} {j:Nat} (hv:v ∈ w) (h:v ∉ w.reverse.take j):j<w.length:=by
 refine Nat.lt_of_not_le fun hj=>h ?_
 rw [Yad (by simpa using hj)];exact Yal.2 hv
theorem Zn3 {l:List Int} {i:Nat} (h1:1≤i) (h2:i<l.length):(if Nn l i<ZjX (l.take i) then Nn l i else ZjX (l.take i))=ZjX (l.take (i+1)):=by
 rw [Zp h2]
 cases l with
 | nil=>simp at h2
 | cons x l=>
  obtain ⟨j,rfl⟩:∃ j,i=j+1:=⟨i - 1,by omega⟩
  rw [List.take_succ_cons,Yah]
  show _=(l.take j ++ [_]).foldl min x
  rw [Yat]
  show (if _<(l.take j).foldl min x then _ else (l.take j).foldl min x)=min ((l.take j).foldl min x) _
  split <;> omega
theorem Zq2 {l:List Int} (h:l≠[]):Nn l 0=ZjX (l.take 1):=by
 cases l with
 | nil=>exact absurd rfl h
 | cons x l=>rw [nth_eq (by simp)];rfl
theorem ZsS (a b:Int):(if b<a then b else a)=min a b:=by split <;> omega
theorem ZoV {α:Type} {l:List α} (h:l≠[]):∃ m r,l=m ++ [r]:=⟨l.dropLast,l.getLast h,(List.dropLast_concat_getLast h).symm⟩
theorem ZrU {α:Type} [Inhabited α] {l:List α} {x:α} : Nn (x :: l) 0=x:=by rw [nth_eq (by simp)];rfl
def FrI (n:Nat) (adj:Int→List Int) (w0:List Int) (x:Int) (q:Zbw) (way:Zmr):Prop:=TI n adj q way∧fI q.wh x≠0 ∧ ∀ y,fI w0 y≠0→fI q.wh y≠0
def muF (n:Nat) (adj:Int→List Int) (q:Zbw) (way:Zmr):Nat:=muW way+muU n adj q.wh
section
variable {n:Nat} {adj:Int→List Int} {w0:List Int} {x:Int} {q:Zbw} {way:Zmr} {v u y:Int} {nx nu:List Int}
theorem Zfh (hx:0≤v∧v<n) (h:TI n adj q way):fI (Zbv n q v).wh v≠0 ∧ ∀ y,fI q.wh y≠0→fI (Zbv n q v).wh y≠0:=by
 have hc:=h.ckLe
 refine ⟨by rw [Zpw hx h,Yf rfl];omega,fun y hy=>?_⟩
 rw [Zpw hx h]
 split
 ·omega
 ·exact hy
theorem FrI.start (hx:0≤x∧x<n) (h:TI n adj q []) (h0:fI q.wh x=0):FrI n adj q.wh x (Zbv n q x) [(x,adj x)]:=⟨h.first hx h0,(Zfh hx h).1,(Zfh hx h).2⟩
theorem FrI.root (h:FrI n adj w0 x q [(v,[])]):FrI n adj w0 x (leaveD n q v) []∧muF n adj (leaveD n q v) [] < muF n adj q [(v,[])]:=by
 obtain ⟨h1,h2,h3⟩:=h
 have e:=(Zf0 n q v).1
 refine ⟨⟨h1.leftRoot,by rw [e];exact h2,fun y hy=>by rw [e];exact h3 y hy⟩,?_⟩
 unfold muF muW
 rw [e];simp
theorem FrI.left (h:FrI n adj w0 x q (way ++ [(u,nu)] ++ [(v,[])])):FrI n adj w0 x { leaveD n q v with lo:=(leaveD n q v).lo.set u.toNat (min (fI q.lo u) (fI q.lo v)) } (way ++ [(u,nu)])∧muF n adj { leaveD n q v with lo:=(leaveD n q v).lo.set u.toNat (min (fI q.lo u) (fI q.lo v)) } (way ++ [(u,nu)])<muF n adj q (way ++ [(u,nu)] ++ [(v,[])]):=by
 obtain ⟨h1,h2,h3⟩:=h
 have e:=(Zf0 n q v).1
 refine ⟨⟨h1.left (h1.nodes (u,nu) (by simp)).2,by show fI (leaveD n q v).wh x≠0;rw [e];exact h2,fun y hy=>by show fI (leaveD n q v).wh y≠0;rw [e];exact h3 y hy⟩,?_⟩
 show muW _+muU n adj (leaveD n q v).wh<muW _+muU n adj q.wh
 rw [e,ZbP (way ++ [(u,nu)])];omega
theorem FrI.meet (hadj:∀ u y,y ∈ adj u→0≤y∧y<(n:Int)) (h:FrI n adj w0 x q (way ++ [(v,y :: nx)])) (h0:fI q.wh y=0):FrI n adj w0 x (Zbv n q y) (way ++ [(v,nx)] ++ [(y,adj y)])∧muF n adj (Zbv n q y) (way ++ [(v,nx)] ++ [(y,adj y)])<muF n adj q (way ++ [(v,y :: nx)]):=by
 obtain ⟨h1,h2,h3⟩:=h
 have hy:0≤y∧y<n:=hadj v y (h1.tj.sub (v,y :: nx) (by simp) y (by simp))
 refine ⟨⟨h1.meet hadj h0,(Zfh hy h1).2 x h2,fun z hz=>(Zfh hy h1).2 z (h3 z hz)⟩,?_⟩
 have:=(ZhK hy h1 h0).2
 unfold muF
 rw [ZbP,ZbP,ZbP,Yl]
 dsimp only
 omega
theorem FrI.wait (h:FrI n adj w0 x q (way ++ [(v,y :: nx)])) (hx:y ∈ q.inn):FrI n adj w0 x { q with lo:=q.lo.set v.toNat (min (fI q.lo v) (fI q.wh y)) } (way ++ [(v,nx)])∧muF n adj { q with lo:=q.lo.set v.toNat (min (fI q.lo v) (fI q.wh y)) } (way ++ [(v,nx)])<muF n adj q (way ++ [(v,y :: nx)]):=by
 obtain ⟨h1,h2,h3⟩:=h
 refine ⟨⟨h1.wait (h1.nodes (v,y :: nx) (by simp)).2 hx,h2,h3⟩,?_⟩
 show muW _+muU n adj q.wh<muW _+muU n adj q.wh
 rw [ZbP,ZbP,Yl];dsimp only;omega
theorem FrI.past (h:FrI n adj w0 x q (way ++ [(v,y :: nx)])) (h0:fI q.wh y≠0) (hx:y ∉ q.inn):FrI n adj w0 x q (way ++ [(v,nx)])∧muF n adj q (way ++ [(v,nx)])<muF n adj q (way ++ [(v,y :: nx)]):=by
 obtain ⟨h1,h2,h3⟩:=h
 refine ⟨⟨h1.past h0 hx,h2,h3⟩,?_⟩
 unfold muF
 rw [ZbP,ZbP,Yl];dsimp only;omega
end
theorem ZiM (id k:Int) (l:List OpD):(Zb1 id l).count ⟨id,k⟩ = wcnt l k:=by
 unfold Zb1 wcnt
 induction l with
 | nil=>rfl
 | cons o l ih=>
  cases hr:o.read with
  | true=>simp [YbW,hr] at ih ⊢;exact ih
  | false=>
   rw [Yar (by simp [hr]),YS,List.count_cons,ih]
   by_cases hk:o.key=k
   ·rw [Yar (by simp [hr,hk])];simp [hk]
   ·rw [Yas (by simp [hr,hk])]
    have:¬ ((⟨id,o.key⟩:ZdT) == ⟨id,k⟩)=true:=by simp [hk]
    simp [hk]
theorem ZiQ {id id2 k:Int} (h:id2≠id) (l:List OpD):(Zb1 id2 l).count ⟨id,k⟩ = 0:=by
 rw [List.count_eq_zero]
 intro hm
 unfold Zb1 at hm
 obtain ⟨o,_,e⟩:=Yv.1 hm
 exact h (Y4 ZdT.fst e)
theorem Zf4 {id k:Int} {l:List TxD} (h:∀ t ∈ l,t.id≠id):(lastK l).count ⟨id,k⟩ = 0:=by
 induction l with
 | nil=>rfl
 | cons t l ih=>
  have h1:=ih fun x hx=>h x (YC _ hx)
  unfold lastK at h1 ⊢
  rw [YZ,YbR,h1]
  split
  ·rw [ZiQ (h t (by simp))]
  ·rfl
theorem ZrF {g:Zr} (hr:ZW g) {u:TxD} (hu:u ∈ g.txs) (hd:u.done=true) (k:Int):(lastK g.txs).count ⟨u.id,k⟩ = wcnt u.ops k:=by
 have hp:List.Pairwise (fun a b:TxD=>a.id<b.id) g.txs:=YaW.1 (Zpi hr.2.1)
 obtain ⟨s,r,e⟩:=List.append_of_mem hu
 rw [e] at hp ⊢
 obtain ⟨_,h2,h3⟩:=Ybx.1 hp
 have hs:=Zf4 (id:=u.id) (k:=k) (l:=s) fun t ht=>by have:=h3 t ht u (by simp);omega
 have ht:=Zf4 (id:=u.id) (k:=k) (l:=r) fun t ht=>by have:=(Yo.1 h2).1 t ht;omega
 unfold lastK at hs ht ⊢
 rw [YU,YZ,YbR,YbR,hs,ht,Yf hd,ZiM]
 omega
theorem ZlH {t:TxD} (h:ZaI t=0):1≤t.id:=by
 unfold ZaI at h
 split at h
 ·cases h
 ·rename_i h1;exact (Yax.1 h1).1
def ZhE:List Int→Int→Int→Prop
 | x :: y :: l,a,b=>(x=a∧y=b)∨ZhE (y :: l) a b
 | _,_,_=>False
def Zmw (l:List Int) (x y:Int):Prop:=(x=0∧l.head? = some y)∨ZhE l x y
theorem Zea:∀ {l:List Int} {a b:Int},ZhE l a b ↔ ∃ i,i+1<l.length∧Nn l i=a∧Nn l (i+1)=b
 | [],a,b=>by simp [ZhE]
 | [x],a,b=>by simp [ZhE]
 | x :: y :: l,a,b=>by
  have ih:=Zea (l:=y :: l) (a:=a) (b:=b)
  unfold ZhE
  rw [ih]
  constructor
  ·rintro (⟨rfl,rfl⟩ | ⟨i,h1,h2,h3⟩)
   ·exact ⟨0,by simp,by rw [nth_eq (by simp)];rfl,by rw [nth_eq (by simp)];rfl⟩
   ·have h1':i+1<(y :: l).length:=h1
    refine ⟨i+1,by simp at h1 ⊢;omega,?_,?_⟩
    ·rw [← h2,nth_eq (l:=x :: y :: l) (by simp at h1 ⊢;omega),nth_eq (l:=y :: l) ow];rfl
    ·rw [← h3,nth_eq (l:=x :: y :: l) (by simp at h1 ⊢;omega),nth_eq (l:=y :: l) h1'];rfl
  ·rintro ⟨i,h1,h2,h3⟩
   cases i with
   | zero=>
    rw [nth_eq (by simp)] at h2 h3
    exact .inl ⟨h2,h3⟩
   | succ i=>
    refine .inr ⟨i,by simp at h1 ⊢;omega,?_,?_⟩
    ·rw [← h2,nth_eq (l:=x :: y :: l) (by simp at h1 ⊢;omega),nth_eq (l:=y :: l) (by simp at h1 ⊢;omega)];rfl
    ·rw [← h3,nth_eq (l:=x :: y :: l) (by simp at h1 ⊢;omega),nth_eq (l:=y :: l) (by simp at h1 ⊢;omega)];rfl
theorem ZhE.mem:∀ {l:List Int} {a b:Int},ZhE l a b→a ∈ l∧b ∈ l
 | x :: y :: l,a,b,h=>by
  rcases h with ⟨rfl,rfl⟩ | h
  ·simp
  ·have:=h.mem
   exact ⟨YC _ this.1,YC _ this.2⟩
theorem ZhS {l:List Int} {x y:Int} : Zmw l x y ↔ ∃ j,j<l.length∧(if j=0 then x=0 else Nn l (j - 1)=x)∧Nn l j=y:=by
 unfold Zmw
 rw [Zea]
 constructor
 ·rintro (⟨h1,h2⟩ | ⟨i,h1,h2,h3⟩)
  ·cases l with
   | nil=>cases h2
   | cons z l=>exact ⟨0,by simp,by rw [Yf rfl];exact h1,by rw [nth_eq (by simp)];exact Ya9 h2⟩
  ·exact ⟨i+1,h1,by rw [Yc ow];exact h2,h3⟩
 ·rintro ⟨j,h1,h2,h3⟩
  cases j with
  | zero=>
   cases l with
   | nil=>cases h1
   | cons z l=>exact .inl ⟨by rw [Yf rfl] at h2;exact h2,by rw [nth_eq (by simp)] at h3;exact Y4 some h3⟩
  | succ i=>exact .inr ⟨i,h1,by rw [Yc ow] at h2;exact h2,h3⟩
theorem Zmw.mem {l:List Int} {x y:Int} (h:Zmw l x y):y ∈ l:=by
 rcases h with ⟨_,h⟩ | h
 ·exact List.mem_of_head? h
 ·exact h.mem.2
theorem ZrX {l:List Int} (hn:l.Nodup) (h1:∀ z ∈ l,1≤z) {x y y':Int} (h:Zmw l x y) (k:Zmw l x y'):y=y':=by
 obtain ⟨i,hi,e1,e2⟩:=ZhS.1 h
 obtain ⟨j,hj,f1,f2⟩:=ZhS.1 k
 have hinj:∀ {a b:Nat},a<l.length→b<l.length→Nn l a=Nn l b→a=b:=fun {a b} ha hb e=>by
  rw [nth_eq ha,nth_eq hb] at e
  rcases Nat.lt_trichotomy a b with h9 | h9 | h9
  ·exact absurd e (YaL.1 hn a b ha hb h9)
  ·exact h9
  ·exact absurd e.symm (YaL.1 hn b a hb ha h9)
 have:i=j:=by
  by_cases h0:i=0 <;> by_cases h2:j=0
  ·omega
  ·rw [Yf h0] at e1
   rw [Yc h2] at f1
   have:=h1 _ (nth_mem (q:=l) (k:=j - 1) ow)
   omega
  ·rw [Yc h0] at e1
   rw [Yf h2] at f1
   have:=h1 _ (nth_mem (q:=l) (k:=i - 1) ow)
   omega
  ·rw [Yc h0] at e1
   rw [Yc h2] at f1
   have:=hinj ow ow (e1.trans f1.symm)
   omega
 rw [← e2,← f2,this]
def OkV (g:Zr) (o:OpD):Prop:=o.tx=0 ∨ ∃ u,Z5 g.txs o.tx=some u∧u.done=true∧(wcnt u.ops o.key:Int)=o.nth
def RdS (g:Zr) (t:TxD) (o:OpD) (e:Zg):Prop:=o.tx≠t.id∧OkV g o∧((o.tx≠0∧e = ⟨o.tx,t.id,2,o.key⟩) ∨ ∃ y,Zmw (getO g.orders o.key) o.tx y∧y≠t.id∧e = ⟨t.id,y,3,o.key⟩)
def EdS (g:Zr) (e:Zg):Prop:=(e.kind=1∧ZhE (getO g.orders e.key) e.src e.dst) ∨ ∃ t ∈ g.txs,t.done=true ∧ ∃ o ∈ t.ops,o.read=true∧RdS g t o e
theorem Zjk {g:Zr} (hg:ZW g) (k:Int):(getO g.orders k).Nodup ∧ ∀ z ∈ getO g.orders k,1≤z:=by
 obtain ⟨_,h2,h3,_,_,h6⟩:=Zcc.1 hg
 refine ⟨(h6 k).nodup_iff.2 (Zcr h2 k),fun z hz=>?_⟩
 obtain ⟨t,h4,h5,_⟩:=ZbA.1 ((h6 k).mem_iff.1 hz)
 rw [← h5];exact ZlH (h3 t h4).1
theorem Zou {κ:Type} [DecidableEq κ] {k:κ} {v:Int} {A:List (κ×Int)} (hA:∀ z ∈ A,z.1=k→z.2=v) (hk:∃ z ∈ A,z.1=k):Znt A k=v:=by
 have key:∀ (A:List (κ×Int)) (x:Int),(∀ z ∈ A,z.1=k→z.2=v)→((∃ z ∈ A,z.1=k)∨x=v)→A.foldl (fun x z=>if k=z.1 then z.2 else x) x=v:=by
  intro A
  induction A with
  | nil=>rintro x _ (⟨z,hz,_⟩ | h);cases hz;exact h
  | cons z A ih=>
   intro x hA h
   rw [Yan]
   refine ih _ (fun z hz=>hA z (YC _ hz)) ?_
   by_cases e:k=z.1
   ·rw [Yf e];exact .inr (hA z YaD e.symm)
   ·rw [Yc e]
    rcases h with ⟨y,hy,h⟩ | h
    ·rcases Yj.1 hy with rfl | hy
     ·exact absurd h.symm e
     ·exact .inl ⟨y,hy,h⟩
    ·exact .inr h
 exact key A 0 hA (.inl hk)
theorem Ziq {κ:Type} [DecidableEq κ] {k:κ} {A:List (κ×Int)} (hA:∀ z ∈ A,z.1≠k):Znt A k=0:=by
 have key:∀ (A:List (κ×Int)) (x:Int),(∀ z ∈ A,z.1≠k)→A.foldl (fun x z=>if k=z.1 then z.2 else x) x=x:=by
  intro A
  induction A with
  | nil=>intro x _;rfl
  | cons z A ih=>
   intro x hA
   rw [Yan,Yc fun e=>hA z YaD e.symm]
   exact ih x fun y hy=>hA y (YC _ hy)
 exact key A 0 hA
theorem ZvP {g:Zr} (hg:ZW g) {k x:Int} : (∀ y,Zmw (getO g.orders k) x y→nxI g k x=y)∧((¬ ∃ y,Zmw (getO g.orders k) x y)→nxI g k x=0):=by
 have hr:=(Zaz hg).2
 have hm:∀ z ∈ nxA g.orders,z.1=(⟨k,x⟩:ZdT)→Zmw (getO g.orders k) x z.2:=fun z hz e=>by
  unfold nxA at hz
  obtain ⟨o,ho,hz⟩:=YaH.1 hz
  unfold nxO at hz
  obtain ⟨j,hj,rfl⟩:=Yv.1 hz
  injection e with e1 e2
  rw [← e1,Zd2 (ZS.1 hr) ho]
  refine ZhS.2 ⟨j,Ya7.1 hj,?_,rfl⟩
  unfold atI at e2
  by_cases h0:j=0
  ·rw [Yf h0] at e2 ⊢;exact e2.symm
  ·rw [Yc h0] at e2 ⊢;exact e2
 have hin:∀ y,Zmw (getO g.orders k) x y → ∃ z ∈ nxA g.orders,z.1=(⟨k,x⟩:ZdT):=fun y h=>by
  have hne:getO g.orders k≠[]:=fun e=>by have:=h.mem;rw [e] at this;cases this
  have ho:=ZhB hne
  obtain ⟨j,h1,h2,h3⟩:=ZhS.1 h
  refine ⟨(⟨k,x⟩,y),?_,rfl⟩
  unfold nxA
  refine YaH.2 ⟨_,ho,?_⟩
  unfold nxO
  refine Yv.2 ⟨j,Ya7.2 h1,?_⟩
  dsimp only
  rw [h3]
  unfold atI
  by_cases h0:j=0
  ·rw [Yf h0] at h2 ⊢;rw [h2]
  ·rw [Yc h0] at h2 ⊢;rw [h2]
 obtain ⟨o1,o2⟩:=Zjk hg k
 refine ⟨fun y h=>Zou (fun z hz e=>ZrX o1 o2 (hm z hz e) h) (hin y h),fun h=>Ziq fun z hz e=>h ⟨_,hm z hz e⟩⟩
theorem ZtU {g:Zr} (hg:ZW g) {id k n:Int} : (ZiC g id=0∨¬ ZmX g id k=n) ↔ ¬ ∃ u,Z5 g.txs id=some u∧u.done=true∧(wcnt u.ops k:Int)=n:=by
 have hr:=(Zaz hg).1
 by_cases h:∃ u,Z5 g.txs id=some u∧u.done=true
 ·obtain ⟨u,h1,h2⟩:=h
  obtain ⟨m1,m2⟩:=findT_mem h1
  have hd:ZiC g id=1:=by
   unfold ZiC Zdv
   refine Zou (fun z hz _=>?_) ⟨(u.id,1),Yv.2 ⟨u,YV.2 ⟨m1,h2⟩,rfl⟩,m2⟩
   obtain ⟨t,_,rfl⟩:=Yv.1 hz
   rfl
  have hl:ZmX g id k=(wcnt u.ops k:Int):=by
   unfold ZmX
   rw [← m2,ZrF hg m1 h2]
  rw [hd,hl,h1]
  simp [h2]
 ·have hd:ZiC g id=0:=by
   unfold ZiC Zdv
   refine Ziq fun z hz e=>?_
   obtain ⟨t,ht,rfl⟩:=Yv.1 hz
   obtain ⟨m1,m2⟩:=YV.1 ht
   exact h ⟨t,by rw [← e];exact Zfd hr m1,m2⟩
  rw [hd]
  simp only [true_or,true_iff]
  rintro ⟨u,h1,h2,_⟩
  exact h ⟨u,h1,h2⟩
theorem ZsO {g:Zr} (hg:ZW g) {t:TxD} {o:OpD} {e:Zg} : e ∈ rdO g t o ↔ RdS g t o e:=by
 unfold rdO RdS OkV
 have hno:ZsH g t o=true ↔ ¬ (o.tx≠t.id∧(o.tx=0 ∨ ∃ u,Z5 g.txs o.tx=some u∧u.done=true∧(wcnt u.ops o.key:Int)=o.nth)):=by
  unfold ZsH
  have:=ZtU hg (id:=o.tx) (k:=o.key) (n:=o.nth)
  simp only [YaM,Yr,Yq,Yap,YD]
  rw [this]
  by_cases h1:o.tx=t.id <;> by_cases h2:o.tx=0 <;> simp [h1,h2]
  all_goals (try omega)
 obtain ⟨n1,n2⟩:=ZvP hg (k:=o.key) (x:=o.tx)
 by_cases hb:ZsH g t o=true
 ·rw [Yf hb]
  have:=hno.1 hb
  constructor
  ·intro h;cases h
  ·rintro ⟨h1,h2,_⟩;exact absurd ⟨h1,h2⟩ this
 ·rw [Yc hb]
  have hok:o.tx≠t.id∧(o.tx=0 ∨ ∃ u,Z5 g.txs o.tx=some u∧u.done=true∧(wcnt u.ops o.key:Int)=o.nth):=Classical.not_not.1 fun h=>hb (hno.2 h)
  rw [Yz]
  have V:e ∈ rdB g t o ↔ ∃ y,Zmw (getO g.orders o.key) o.tx y∧y≠t.id∧e = ⟨t.id,y,3,o.key⟩:=by
   unfold rdB
   by_cases hx:∃ y,Zmw (getO g.orders o.key) o.tx y
   ·obtain ⟨y,hy⟩:=hx
    have e1:=n1 y hy
    have hy1:=(Zjk hg o.key).2 y hy.mem
    rw [e1]
    by_cases h2:y=t.id
    ·rw [Yc (by simp [h2])]
     constructor
     ·intro h;cases h
     ·rintro ⟨y',h3,h4,_⟩
      have:=n1 y' h3
      rw [e1] at this
      exact absurd (this.symm.trans h2) h4
    ·rw [Yf ⟨by omega,h2⟩,Yk]
     constructor
     ·intro h;exact ⟨y,hy,h2,h⟩
     ·rintro ⟨y',h3,_,h4⟩
      have:=n1 y' h3
      rw [e1] at this
      rw [this];exact h4
   ·rw [n2 hx,Yc (by simp)]
    constructor
    ·intro h;cases h
    ·rintro ⟨y,h,_⟩;exact absurd ⟨y,h⟩ hx
  rw [V]
  have hA:e ∈ rdA t o ↔ o.tx≠0∧e = ⟨o.tx,t.id,2,o.key⟩:=by
   unfold rdA
   split
   ·rename_i h;simp [h]
   ·rename_i h;simp [h]
  rw [hA]
  exact ⟨fun h=>⟨hok.1,hok.2,h⟩,fun h=>h.2.2⟩
abbrev PT1:Int→Bool:=fun _=>true
theorem Zvq {g:Zr} (hg:ZW g) {e:Zg} : e ∈ ZgC (wwC PT1 g) (rdC PT1 g) ↔ EdS g e:=by
 unfold ZgC wwC rdC EdS
 rw [Yf hg,Yf hg,Yz]
 have hr:=(Zaz hg).2
 refine or_congr ?_ ?_
 ·rw [Yv]
  unfold wwA
  constructor
  ·rintro ⟨z,hz,rfl⟩
   obtain ⟨o,ho,hz⟩:=YaH.1 hz
   rw [Yf rfl] at hz
   unfold wwO at hz
   obtain ⟨i,hi,rfl⟩:=Yv.1 hz
   have:=Ya7.1 hi
   refine ⟨rfl,?_⟩
   dsimp only
   rw [Zd2 (ZS.1 hr) ho,Zea]
   exact ⟨i,by omega,rfl,rfl⟩
  ·rintro ⟨h1,h2⟩
   have hne:getO g.orders e.key≠[]:=fun e9=>by rw [e9] at h2;cases h2
   have ho:=ZhB hne
   obtain ⟨i,h3,h4,h5⟩:=Zea.1 h2
   refine ⟨(e,1),YaH.2 ⟨_,ho,?_⟩,rfl⟩
   rw [Yf rfl]
   unfold wwO
   refine Yv.2 ⟨i,Ya7.2 (by dsimp only;omega),?_⟩
   dsimp only
   rw [h4,h5]
   cases e;simp only at h1;subst h1;rfl
 ·unfold rdH
  rw [YaH]
  refine exists_congr fun t=>Ybm fun ht=>?_
  unfold rdT
  rw [YaH]
  constructor
  ·rintro ⟨o,ho,h⟩
   split at h
   ·rename_i hc
    simp only [Yr,and_true] at hc
    exact ⟨hc.1,o,ho,hc.2,(ZsO hg).1 h⟩
   ·cases h
  ·rintro ⟨h1,o,ho,h2,h3⟩
   exact ⟨o,ho,by rw [Yf (by simp [h1,h2])];exact (ZsO hg).2 h3⟩
structure Zwj (g x:Zr) (id:Int):Prop where
 rg:ZW g
 rx:ZW x
 tab:∀ i,Z5 x.txs i=if i=id then none else Z5 g.txs i
 ord:∀ k,getO x.orders k=withoutO (getO g.orders k) id
 free:∀ t ∈ g.txs,t.id≠id → ∀ o ∈ t.ops,o.read=true→o.tx≠id
section
variable {g x:Zr} {id:Int}
end
end Go.Proofs.YtlkpllemoepamaaGreat
