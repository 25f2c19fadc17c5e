/- Laws and walks. No condition beyond what each says. -/
import Derived.Test.YtolmpgbpdapaiaaGreatJ2
import Derived.Shelf.SlIter.Collect
import Derived.Maps.RangeRun
import Derived.Sort.MapsRangeIn
import Derived.RangeFuncBound
namespace Go.Proofs.YtolmpgbpdapaiaaGreat
open Go Go.Gm Tryz
set_option linter.unusedVariables false
set_option linter.unusedSimpArgs false
set_option maxHeartbeats 4000000
set_option maxRecDepth 8000
inductive Rch (E:Int→Int→Prop) (u:Int):Int→Prop
 | one {v:Int} (h:E u v):Rch E u v
 | step {v w:Int} (h:Rch E u v) (k:E v w):Rch E u w
theorem Rch.trans {E:Int→Int→Prop} {u v w:Int} (h:Rch E u v) (k:Rch E v w):Rch E u w:=by
 induction k with
 | one k=>exact .step h k
 | step _ k ih=>exact .step ih k
theorem Rch.mono {E E':Int→Int→Prop} (hE:∀ a b,E a b→E' a b) {u v:Int} (h:Rch E u v):Rch E' u v:=by
 induction h with
 | one h=>exact .one (hE _ _ h)
 | step _ k ih=>exact .step ih (hE _ _ k)
def EJ (adj:Int→List Int) (x y:Int):Prop:=y ∈ adj x
def ZcI (f:Int→Int) (x c:Int):Int→Int:=fun y=>if y=x then c else f y
theorem ZF {f:Int→Int} {x c:Int} : ZcI f x c x=c:=Ye rfl
theorem Zav {f:Int→Int} {x c y:Int} (h:y≠x):ZcI f x c y=f y:=Yb h
def ZbR (wh:Int→Int) (st:List Int) (d:Int):Prop:=wh d≠0∧d ∉ st
def Znb (adj:Int→List Int) (u x:Int):Prop:=x=u∨(Rch (EJ adj) u x∧Rch (EJ adj) x u)
def Znt (adj:Int→List Int) (u m:Int):Prop:=Znb adj u m ∧ ∀ x,Znb adj u x→m≤x
abbrev Zmk:Type:=List (Int×List Int)
def NxT (wh:Int→Int) (way:Zmk) (v y:Int):Prop:=(∃ q ∈ way,q.1=y)∧wh v<wh y ∧ ∀ p ∈ way,¬ (wh v<wh p.1∧wh p.1<wh y)
structure Tj (adj:Int→List Int) (wh lo out:Int→Int) (ck:Int) (st:List Int) (way:Zmk):Prop where
 pos:∀ u ∈ st,0<wh u
 dec:st.Pairwise fun a b=>wh b<wh a
 vis:∀ u,0≤wh u∧wh u≤ck
 low:∀ u ∈ st,lo u≤wh u ∧ ∃ w ∈ st,wh w=lo u∧(w=u∨Rch (EJ adj) u w)
 fin:∀ u ∈ st,(∀ p ∈ way,p.1≠u)→lo u<wh u ∧ ∀ y ∈ adj u,ZbR wh st y∨(y ∈ st∧lo u≤wh y)
 done:∀ d,ZbR wh st d→(∀ y ∈ adj d,ZbR wh st y)∧Znt adj d (out d)
 onst:∀ r ∈ way,r.1 ∈ st
 sub:∀ r ∈ way,∀ y ∈ r.2,y ∈ adj r.1
 wdec:way.Pairwise fun a b=>wh b.1<wh a.1
 arcs:∀ r ∈ way,∀ y ∈ adj r.1,y ∉ r.2→ZbR wh st y∨(y ∈ st∧lo r.1≤wh y)∨NxT wh way r.1 y
 lows:∀ r ∈ way,∀ u ∈ st,(∀ p ∈ way,p.1≠u)→wh r.1<wh u→(∀ p ∈ way,¬ (wh r.1<wh p.1∧wh p.1<wh u))→lo r.1≤lo u
 reach:∀ r ∈ way,∀ u ∈ st,wh r.1≤wh u→u=r.1∨Rch (EJ adj) r.1 u
 root:∀ u ∈ st,∃ r,way.getLast? = some r∧wh r.1≤wh u
section
variable {adj:Int→List Int} {wh lo out:Int→Int} {ck:Int} {st:List Int} {rest:Zmk} {v x:Int} {next:List Int}
theorem Zns (h:st.Pairwise fun a b=>wh b<wh a) {a b:Int} (ha:a ∈ st) (hb:b ∈ st) (e:wh a=wh b):a=b:=by
 induction st with
 | nil=>cases ha
 | cons x l ih=>
  rw [Yu] at h
  rcases Ym.1 ha with e1 | ha2 <;> rcases Ym.1 hb with e2 | hb2
  ·rw [e1,e2]
  ·have:=h.1 b hb2;rw [e1] at e;omega
  ·have:=h.1 a ha2;rw [e2] at e;omega
  ·exact ih h.2 ha2 hb2
theorem Tj.zero:Tj adj (fun _=>0) lo out 0 [] []:=
 ⟨by simp,.nil,fun _=>⟨Yar _,Yar _⟩,by simp,by simp,fun d h=>absurd rfl h.1,by simp,by simp,.nil,by simp,by simp,by simp,by simp⟩
theorem Tj.first (h:Tj adj wh lo out ck [] []) (hx:wh x=0):Tj adj (ZcI wh x (ck+1)) (ZcI lo x (ck+1)) out (ck+1) [x] [(x,adj x)]:=by
 have hck:=(h.vis x).2
 have hd:∀ y,ZbR (ZcI wh x (ck+1)) [x] y ↔ ZbR wh [] y:=fun y=>by
  unfold ZbR
  by_cases e:y=x
  ·subst e;simp [hx]
  ·rw [Zav e];simp [e]
 have v0:=h.vis x
 refine ⟨fun u hu=>?_,by simp,fun u=>?_,fun u hu=>?_,fun u hu hp=>?_,fun d hdd=>?_,fun r hr=>?_,fun r hr y hy=>?_,by simp,fun r hr y hy hn=>?_,fun r hr u hu hp=>?_,fun r hr u hu _=>?_,fun u hu=>?_⟩
 ·obtain rfl:=Yn.1 hu;rw [ZF];omega
 ·by_cases e:u=x
  ·rw [e,ZF];omega
  ·rw [Zav e];have:=h.vis u;omega
 ·obtain rfl:=Yn.1 hu;exact ⟨by rw [ZF,ZF];exact Yar _,u,by simp,by rw [ZF,ZF],.inl rfl⟩
 ·obtain rfl:=Yn.1 hu;exact absurd rfl (hp (u,adj u) XM)
 ·obtain ⟨h1,h2⟩:=h.done d ((hd d).1 hdd)
  exact ⟨fun y hy=>(hd y).2 (h1 y hy),h2⟩
 ·obtain rfl:=Yn.1 hr;simp
 ·obtain rfl:=Yn.1 hr;exact hy
 ·obtain rfl:=Yn.1 hr;exact absurd hy hn
 ·obtain rfl:=Yn.1 hr;obtain rfl:=Yn.1 hu;exact absurd rfl (hp (u,adj u) XM)
 ·obtain rfl:=Yn.1 hr;obtain rfl:=Yn.1 hu;exact .inl rfl
 ·obtain rfl:=Yn.1 hu;exact ⟨(u,adj u),rfl,Yar _⟩
theorem Tj.top (h:Tj adj wh lo out ck st ((v,next) :: rest)):(∀ r ∈ rest,wh r.1<wh v) ∧ ∀ p ∈ (v,next) :: rest,wh p.1≤wh v:=by
 have h1:=(Yu.1 h.wdec).1
 refine ⟨h1,fun p hp=>?_⟩
 rcases Ym.1 hp with rfl | hp
 ·exact Yar _
 ·exact YaV (h1 p hp)
theorem Tj.meet (h:Tj adj wh lo out ck st ((v,x :: next) :: rest)) (hx:wh x=0):Tj adj (ZcI wh x (ck+1)) (ZcI lo x (ck+1)) out (ck+1) (x :: st) ((x,adj x) :: (v,next) :: rest):=by
 have v0:=h.vis x
 have hxs:x ∉ st:=fun hm=>by have:=h.pos x hm;omega
 have hne:∀ u ∈ st,u≠x:=fun u hu e=>hxs (e ▸ hu)
 have hw:∀ u ∈ st,ZcI wh x (ck+1) u=wh u:=fun u hu=>Zav (hne u hu)
 have hl:∀ u ∈ st,ZcI lo x (ck+1) u=lo u:=fun u hu=>Zav (hne u hu)
 have hd:∀ y,ZbR (ZcI wh x (ck+1)) (x :: st) y ↔ ZbR wh st y:=fun y=>by
  unfold ZbR
  by_cases e:y=x
  ·subst e;simp [hx]
  ·rw [Zav e];simp [e]
 have hon:∀ r ∈ (v,next) :: rest,r.1 ∈ st:=fun r hr=>by
  rcases Ym.1 hr with rfl | hr
  ·exact h.onst (v,x :: next) XM
  ·exact h.onst r WD
 have hfs:∀ p ∈ (v,next) :: rest,∃ q ∈ (v,x :: next) :: rest,q.1=p.1:=fun p hp=>by
  rcases Ym.1 hp with rfl | hp
  ·exact ⟨_,Yay,rfl⟩
  ·exact ⟨p,by simp [hp],rfl⟩
 have hfs2:∀ p ∈ (v,x :: next) :: rest,∃ q ∈ (v,next) :: rest,q.1=p.1:=fun p hp=>by
  rcases Ym.1 hp with rfl | hp
  ·exact ⟨_,Yay,rfl⟩
  ·exact ⟨p,by simp [hp],rfl⟩
 obtain ⟨ht1,ht2⟩:=h.top
 have hvs:v ∈ st:=h.onst (v,x :: next) XM
 have hxv:x ∈ adj v:=h.sub (v,x :: next) XM x XM
 have hnx:∀ r ∈ (v,next) :: rest,∀ y ∈ st,NxT wh ((v,x :: next) :: rest) r.1 y→NxT (ZcI wh x (ck+1)) ((x,adj x) :: (v,next) :: rest) r.1 y:=fun r hr y hy ⟨⟨q,hq,e⟩,h2,h3⟩=>by
  obtain ⟨q',hq',e'⟩:=hfs2 q hq
  refine ⟨⟨q',Yy _ hq',e'.trans e⟩,by rw [hw _ (hon r hr),hw y hy];exact h2,fun p hp=>?_⟩
  rw [hw _ (hon r hr),hw y hy]
  rcases Ym.1 hp with rfl | hp
  ·rw [ZF];have:=(h.vis y).2;omega
  ·rw [hw _ (hon p hp)]
   obtain ⟨p',hp',e2⟩:=hfs p hp
   rw [← e2];exact h3 p' hp'
 refine ⟨fun u hu=>?_,?_,fun u=>?_,fun u hu=>?_,fun u hu hp=>?_,fun d hdd=>?_,fun r hr=>?_,fun r hr y hy=>?_,?_,fun r hr y hy hn=>?_,fun r hr u hu hp hlt hb=>?_,fun r hr u hu hle=>?_,fun u hu=>?_⟩
 ·rcases Ym.1 hu with rfl | hu
  ·rw [ZF];omega
  ·rw [hw u hu];exact h.pos u hu
 ·refine Yu.2 ⟨fun u hu=>?_,?_⟩
  ·rw [ZF,hw u hu];have:=(h.vis u).2;omega
  ·refine List.Pairwise.imp_of_mem (fun {a b} ha hb k=>?_) h.dec
   rw [hw a ha,hw b hb];exact k
 ·by_cases e:u=x
  ·rw [e,ZF];omega
  ·rw [Zav e];have:=h.vis u;omega
 ·rcases Ym.1 hu with rfl | hu
  ·exact ⟨by rw [ZF,ZF];exact Yar _,u,by simp,by rw [ZF,ZF],.inl rfl⟩
  ·obtain ⟨h1,w,hws,h2,h3⟩:=h.low u hu
   rw [hl u hu,hw u hu]
   exact ⟨h1,w,by simp [hws],by rw [hw w hws];exact h2,h3⟩
 ·have hux:u≠x:=fun e=>hp (x,adj x) XM e.symm
  have hu:=(Ym.1 hu).resolve_left hux
  obtain ⟨h1,h2⟩:=h.fin u hu fun p hp2=>by
   obtain ⟨q,hq,e⟩:=hfs2 p hp2
   rw [← e];exact hp q (Yy _ hq)
  rw [hl u hu,hw u hu]
  refine ⟨h1,fun y hy=>?_⟩
  rcases h2 y hy with h3 | ⟨h3,h4⟩
  ·exact .inl ((hd y).2 h3)
  ·exact .inr ⟨by simp [h3],by rw [hw y h3];exact h4⟩
 ·obtain ⟨h1,h2⟩:=h.done d ((hd d).1 hdd)
  exact ⟨fun y hy=>(hd y).2 (h1 y hy),h2⟩
 ·rcases Ym.1 hr with rfl | hr
  ·simp
  ·simp [hon r hr]
 ·rcases Ym.1 hr with rfl | hr
  ·exact hy
  ·rcases Ym.1 hr with rfl | hr
   ·exact h.sub (v,x :: next) XM y (by simp at hy ⊢;exact .inr hy)
   ·exact h.sub r WD y hy
 ·refine Yu.2 ⟨fun r hr=>?_,?_⟩
  ·show ZcI wh x (ck+1) r.1<ZcI wh x (ck+1) x
   rw [ZF,hw _ (hon r hr)];have:=(h.vis r.1).2;omega
  ·have h9:((v,next) :: rest).Pairwise fun a b=>wh b.1<wh a.1:=Yu.2 (Yu.1 h.wdec)
   refine List.Pairwise.imp_of_mem (fun {a b} ha hb k=>?_) h9
   rw [hw _ (hon a ha),hw _ (hon b hb)];exact k
 ·rcases Ym.1 hr with rfl | hr
  ·exact absurd hy hn
  ·rcases Ym.1 hr with rfl | hr
   ·by_cases e:y=x
    ·subst e
     refine .inr (.inr ⟨⟨_,Yay,rfl⟩,by show ZcI wh y (ck+1) v<ZcI wh y (ck+1) y;rw [ZF,hw v hvs];have:=(h.vis v).2;omega,fun p hp=>?_⟩)
     show ¬ (ZcI wh y (ck+1) v<ZcI wh y (ck+1) p.1∧ZcI wh y (ck+1) p.1<ZcI wh y (ck+1) y)
     rcases Ym.1 hp with rfl | hp
     ·exact fun h9=>absurd h9.2 (Int.lt_irrefl _)
     ·rw [hw v hvs,hw _ (hon p hp)]
      obtain ⟨p',hp',e2⟩:=hfs p hp
      have:=ht2 p' hp'
      rw [e2] at this
      omega
    ·rcases h.arcs (v,x :: next) XM y hy (by simp at hn ⊢;exact ⟨e,hn⟩) with h1 | ⟨h1,h2⟩ | ⟨⟨q,hq,e2⟩,h2,_⟩
     ·exact .inl ((hd y).2 h1)
     ·exact .inr (.inl ⟨by simp [h1],by show ZcI lo x (ck+1) v≤_;rw [hl v hvs,hw y h1];exact h2⟩)
     ·have:=ht2 q hq
      rw [e2] at this
      have h2:wh v<wh y:=h2
      omega
   ·have hrs:=h.onst r WD
    rcases h.arcs r WD y hy hn with h1 | ⟨h1,h2⟩ | h3
    ·exact .inl ((hd y).2 h1)
    ·exact .inr (.inl ⟨by simp [h1],by rw [hl _ hrs,hw y h1];exact h2⟩)
    ·obtain ⟨⟨q,hq,e⟩,_⟩:=id h3
     exact .inr (.inr (hnx r WD y (e ▸ h.onst q hq) h3))
 ·have hux:u≠x:=fun e=>hp (x,adj x) XM e.symm
  have hu:=(Ym.1 hu).resolve_left hux
  rcases Ym.1 hr with rfl | hr
  ·have hlt:ZcI wh x (ck+1) x<ZcI wh x (ck+1) u:=hlt
   rw [ZF,hw u hu] at hlt
   have:=(h.vis u).2;omega
  ·have hrs:=hon r hr
   rw [hl _ hrs,hl u hu]
   rw [hw _ hrs,hw u hu] at hlt
   obtain ⟨r',hr',e⟩:=hfs r hr
   rw [← e] at hlt ⊢
   refine h.lows r' hr' u hu (fun p hp2=>?_) hlt fun p hp2=>?_
   ·obtain ⟨q,hq,e3⟩:=hfs2 p hp2
    rw [← e3];exact hp q (Yy _ hq)
   ·obtain ⟨q,hq,e3⟩:=hfs2 p hp2
    have:=hb q (Yy _ hq)
    rw [hw _ hrs,hw u hu,hw _ (hon q hq),e3,← e] at this
    exact this
 ·rcases Ym.1 hr with rfl | hr
  ·rcases Ym.1 hu with rfl | hu
   ·exact .inl rfl
   ·have hle:ZcI wh x (ck+1) x≤ZcI wh x (ck+1) u:=hle
    rw [ZF,hw u hu] at hle
    have:=(h.vis u).2;omega
  ·obtain ⟨r',hr',e⟩:=hfs r hr
   rcases Ym.1 hu with rfl | hu
   ·refine .inr ?_
    have hvx:Rch (EJ adj) v u:=.one hxv
    rw [← e]
    rcases h.reach r' hr' v hvs (ht2 r' hr') with h9 | h9
    ·rw [← h9];exact hvx
    ·exact h9.trans hvx
   ·rw [hw _ (hon r hr),hw u hu,← e] at hle
    rw [← e];exact h.reach r' hr' u hu hle
 ·have hlast:∀ r,((v,x :: next) :: rest).getLast? = some r → ∃ r',((x,adj x) :: (v,next) :: rest).getLast? = some r' ∧ r'.1=r.1:=fun r hr=>by
   cases rest with
   | nil=>exact ⟨(v,next),rfl,by have:(v,x :: next)=r:=(by simpa using hr);rw [← this]⟩
   | cons y l=>exact ⟨r,by simpa using hr,rfl⟩
  obtain ⟨r,h1,h2⟩:=h.root v hvs
  obtain ⟨r',h3,h4⟩:=hlast r h1
  refine ⟨r',h3,?_⟩
  have hrs:r'.1 ∈ st:=by rw [h4];exact h.onst r (List.mem_of_getLast? h1)
  rw [hw _ hrs]
  rcases Ym.1 hu with rfl | hu
  ·rw [ZF];have:=(h.vis r'.1).2;omega
  ·rw [hw u hu,h4]
   obtain ⟨r2,h5,h6⟩:=h.root u hu
   rw [h1] at h5
   rw [Ya6 h5];exact h6
theorem Tj.pass {c:Int} (h:Tj adj wh lo out ck st ((v,x :: next) :: rest)) (hc:(ZbR wh st x∧c=lo v)∨(x ∈ st∧c=min (lo v) (wh x))):Tj adj wh (ZcI lo v c) out ck st ((v,next) :: rest):=by
 have hvs:v ∈ st:=h.onst (v,x :: next) XM
 have hxv:x ∈ adj v:=h.sub (v,x :: next) XM x XM
 obtain ⟨ht1,ht2⟩:=h.top
 have hcl:c≤lo v:=by rcases hc with ⟨_,h1⟩ | ⟨_,h1⟩ <;> omega
 have hfs:∀ p ∈ (v,next) :: rest,∃ q ∈ (v,x :: next) :: rest,q.1=p.1:=fun p hp=>by
  rcases Ym.1 hp with rfl | hp
  ·exact ⟨_,Yay,rfl⟩
  ·exact ⟨p,by simp [hp],rfl⟩
 have hfs2:∀ p ∈ (v,x :: next) :: rest,∃ q ∈ (v,next) :: rest,q.1=p.1:=fun p hp=>by
  rcases Ym.1 hp with rfl | hp
  ·exact ⟨_,Yay,rfl⟩
  ·exact ⟨p,by simp [hp],rfl⟩
 have hnx:∀ a y,NxT wh ((v,x :: next) :: rest) a y→NxT wh ((v,next) :: rest) a y:=fun a y ⟨⟨q,hq,e⟩,h2,h3⟩=>by
  obtain ⟨q',hq',e'⟩:=hfs2 q hq
  refine ⟨⟨q',hq',e'.trans e⟩,h2,fun p hp=>?_⟩
  obtain ⟨p',hp',e2⟩:=hfs p hp
  rw [← e2];exact h3 p' hp'
 have hrv:∀ r ∈ rest,r.1≠v:=fun r hr e=>by have:=ht1 r hr;rw [e] at this;omega
 refine ⟨h.pos,h.dec,h.vis,fun u hu=>?_,fun u hu hp=>?_,h.done,fun r hr=>?_,fun r hr y hy=>?_,Yu.2 (Yu.1 h.wdec),fun r hr y hy hn=>?_,fun r hr u hu hp hlt hb=>?_,fun r hr u hu hle=>?_,fun u hu=>?_⟩
 ·by_cases e:u=v
  ·subst e
   rw [ZF]
   obtain ⟨h1,w,hws,h2,h3⟩:=h.low u hu
   refine ⟨ow,?_⟩
   rcases hc with ⟨_,h4⟩ | ⟨h5,h4⟩
   ·exact ⟨w,hws,ow,h3⟩
   ·by_cases h6:lo u≤wh x
    ·exact ⟨w,hws,ow,h3⟩
    ·exact ⟨x,h5,ow,.inr (.one hxv)⟩
  ·rw [Zav e];exact h.low u hu
 ·have huv:u≠v:=fun e=>hp (v,next) XM e.symm
  rw [Zav huv]
  exact h.fin u hu fun p hp2=>by
   obtain ⟨q,hq,e⟩:=hfs2 p hp2
   rw [← e];exact hp q hq
 ·obtain ⟨q,hq,e⟩:=hfs r hr
  rw [← e];exact h.onst q hq
 ·rcases Ym.1 hr with rfl | hr
  ·exact h.sub (v,x :: next) XM y (by simp at hy ⊢;exact .inr hy)
  ·exact h.sub r WD y hy
 ·rcases Ym.1 hr with rfl | hr
  ·show ZbR wh st y∨(y ∈ st∧ZcI lo v c v≤wh y)∨_
   rw [ZF]
   by_cases e:y=x
   ·subst e
    rcases hc with ⟨h1,_⟩ | ⟨h1,h2⟩
    ·exact .inl h1
    ·exact .inr (.inl ⟨h1,ow⟩)
   ·rcases h.arcs (v,x :: next) XM y hy (by simp at hn ⊢;exact ⟨e,hn⟩) with h1 | ⟨h1,h2⟩ | h3
    ·exact .inl h1
    ·have h2:lo v≤wh y:=h2
     exact .inr (.inl ⟨h1,ow⟩)
    ·exact .inr (.inr (hnx _ _ h3))
  ·rw [Zav (hrv r hr)]
   rcases h.arcs r WD y hy hn with h1 | h1 | h3
   ·exact .inl h1
   ·exact .inr (.inl h1)
   ·exact .inr (.inr (hnx _ _ h3))
 ·have huv:u≠v:=fun e=>hp (v,next) XM e.symm
  rw [Zav huv]
  obtain ⟨r',hr',e⟩:=hfs r hr
  have h9:=h.lows r' hr' u hu (fun p hp2=>by
   obtain ⟨q,hq,e3⟩:=hfs2 p hp2
   rw [← e3];exact hp q hq) (by rw [e];exact hlt) fun p hp2=>by
   obtain ⟨q,hq,e3⟩:=hfs2 p hp2
   have:=hb q hq
   rwa [e3,← e] at this
  rw [e] at h9
  by_cases e2:r.1=v
  ·rw [e2] at h9 ⊢;rw [ZF];omega
  ·rw [Zav e2];exact h9
 ·obtain ⟨r',hr',e⟩:=hfs r hr
  rw [← e] at hle ⊢
  exact h.reach r' hr' u hu hle
 ·obtain ⟨r,h1,h2⟩:=h.root u hu
  cases rest with
  | nil=>simp at h1;exact ⟨(v,next),rfl,by rw [← h1] at h2;exact h2⟩
  | cons y l=>simp at h1;exact ⟨r,by simp [h1],h2⟩
theorem Tj.above {u0:Int} {nx:List Int} (h:Tj adj wh lo out ck st ((v,next) :: (u0,nx) :: rest)):wh u0<wh v∧(∀ r ∈ rest,wh r.1<wh u0):=by
 have h1:=Yu.1 h.wdec
 exact ⟨h1.1 (u0,nx) XM,(Yu.1 h1.2).1⟩
theorem Tj.stay {u0:Int} {nx:List Int} (h:Tj adj wh lo out ck st ((v,[]) :: (u0,nx) :: rest)) (hlo:lo v≠wh v):Tj adj wh (ZcI lo u0 (min (lo u0) (lo v))) out ck st ((u0,nx) :: rest):=by
 obtain ⟨a1,a2⟩:=h.above
 obtain ⟨ht1,ht2⟩:=h.top
 have hvs:v ∈ st:=h.onst (v,[]) XM
 have hus:u0 ∈ st:=h.onst (u0,nx) XM
 have hvu:v≠u0:=fun e=>by rw [e] at a1;omega
 have hr0:∀ r ∈ rest,r.1≠u0:=fun r hr e=>by have:=a2 r hr;rw [e] at this;omega
 have hlv:=h.low v hvs
 refine ⟨h.pos,h.dec,h.vis,fun u hu=>?_,fun u hu hp=>?_,h.done,fun r hr=>h.onst r (Yy _ hr),fun r hr=>h.sub r (Yy _ hr),(Yu.1 h.wdec).2,fun r hr y hy hn=>?_,fun r hr u hu hp hlt hb=>?_,fun r hr=>h.reach r (Yy _ hr),fun u hu=>?_⟩
 ·by_cases e:u=u0
  ·subst e
   rw [ZF]
   obtain ⟨h1,w,hws,h2,h3⟩:=h.low u hu
   refine ⟨ow,?_⟩
   by_cases h4:lo u≤lo v
   ·exact ⟨w,hws,ow,h3⟩
   ·obtain ⟨h5,w2,hw2,h6,h7⟩:=hlv
    refine ⟨w2,hw2,ow,.inr ?_⟩
    have h8:=(h.reach (u,nx) XM v hvs (YaV a1)).resolve_left hvu
    rcases h7 with rfl | h7
    ·exact h8
    ·exact h8.trans h7
  ·rw [Zav e];exact h.low u hu
 ·have hu0:u≠u0:=fun e=>hp (u0,nx) XM e.symm
  rw [Zav hu0]
  by_cases e:u=v
  ·subst e
   refine ⟨by have:=hlv.1;omega,fun y hy=>?_⟩
   rcases h.arcs (u,[]) XM y hy XM with h1 | h1 | ⟨⟨q,hq,e2⟩,h2,_⟩
   ·exact .inl h1
   ·exact .inr h1
   ·have:=ht2 q hq
    rw [e2] at this
    have h2:wh u<wh y:=h2
    omega
  ·refine h.fin u hu fun p hp2=>?_
   rcases Ym.1 hp2 with rfl | hp2
   ·exact fun e2=>e e2.symm
   ·exact hp p hp2
 ·rcases Ym.1 hr with rfl | hr2
  ·show ZbR wh st y∨(y ∈ st∧ZcI lo u0 _ u0≤wh y)∨_
   rw [ZF]
   rcases h.arcs (u0,nx) XM y hy hn with h1 | ⟨h1,h2⟩ | ⟨⟨q,hq,e2⟩,h2,h3⟩
   ·exact .inl h1
   ·have h2:lo u0≤wh y:=h2
    exact .inr (.inl ⟨h1,ow⟩)
   ·have h2:wh u0<wh y:=h2
    have h4:¬ (wh u0<wh v∧wh v<wh y):=h3 (v,[]) XM
    have hy2:y=v:=by
     rcases Ym.1 hq with rfl | hq
     ·exact e2.symm
     ·rcases Ym.1 hq with rfl | hq
      ·have e2:u0=y:=e2
       rw [← e2] at h2;omega
      ·have:=a2 q hq
       rw [e2] at this;omega
    subst hy2
    exact .inr (.inl ⟨hvs,by have:=hlv.1;omega⟩)
  ·rw [Zav (hr0 r hr2)]
   rcases h.arcs r (by simp [hr2]) y hy hn with h1 | h1 | ⟨⟨q,hq,e2⟩,h2,h3⟩
   ·exact .inl h1
   ·exact .inr (.inl h1)
   ·refine .inr (.inr ⟨?_,h2,fun p hp=>h3 p (Yy _ hp)⟩)
    rcases Ym.1 hq with rfl | hq
    ·have e2:v=y:=e2
     have h4:¬ (wh r.1<wh u0∧wh u0<wh y):=h3 (u0,nx) XM
     exact absurd ⟨a2 r hr2,by rw [← e2];exact a1⟩ h4
    ·exact ⟨q,hq,e2⟩
 ·have hu0:u≠u0:=fun e=>hp (u0,nx) XM e.symm
  rw [Zav hu0]
  rcases Ym.1 hr with rfl | hr2
  ·show ZcI lo u0 _ u0≤lo u
   rw [ZF]
   by_cases e:u=v
   ·subst e;omega
   ·have hp2:∀ p ∈ (v,[]) :: (u0,nx) :: rest,p.1≠u:=fun p hp3=>by
     rcases Ym.1 hp3 with rfl | hp3
     ·exact fun e2=>e e2.symm
     ·exact hp p hp3
    rcases Int.lt_or_le (wh u) (wh v) with h1 | h1
    ·have:=h.lows (u0,nx) XM u hu hp2 hlt fun p hp3=>by
      rcases Ym.1 hp3 with rfl | hp3
      ·exact fun h9=>by have h9:wh v<wh u:=h9.2;omega
      ·exact hb p hp3
     have this:lo u0≤lo u:=this
     omega
    ·have h2:wh v<wh u:=by
      rcases Int.lt_or_eq_of_le h1 with h2 | h2
      ·exact h2
      ·exact absurd (Zns h.dec hu hvs h2.symm) e
     have:=h.lows (v,[]) XM u hu hp2 h2 fun p hp3 h9=>by
      have h10:=ht2 p hp3
      have h9:wh v<wh p.1:=h9.1
      omega
     have this:lo v≤lo u:=this
     omega
  ·rw [Zav (hr0 r hr2)]
   have h1:wh u<wh u0:=by
    have h2:¬ (wh r.1<wh u0∧wh u0<wh u):=hb (u0,nx) XM
    have h3:=a2 r hr2
    rcases Int.lt_or_le (wh u) (wh u0) with h4 | h4
    ·exact h4
    ·have h5:wh u=wh u0:=ow
     exact absurd (Zns h.dec hu hus h5) hu0
   refine h.lows r (by simp [hr2]) u hu (fun p hp3=>?_) hlt fun p hp3=>?_
   ·rcases Ym.1 hp3 with rfl | hp3
    ·exact fun e2=>by have e2:v=u:=e2;rw [e2] at a1;omega
    ·exact hp p hp3
   ·rcases Ym.1 hp3 with rfl | hp3
    ·exact fun h9=>by have h9:wh v<wh u:=h9.2;omega
    ·exact hb p hp3
 ·obtain ⟨r,h1,h2⟩:=h.root u hu
  exact ⟨r,by simpa using h1,h2⟩
theorem Tj.part {A B:List Int} {m:Int} (h:Tj adj wh lo out ck (A++v :: B) ((v,[]) :: rest)) (hlo:lo v=wh v) (hm:m ∈ A ++ [v]) (hmin:∀ x ∈ A ++ [v],m≤x) :
  Tj adj wh lo (fun u=>if u ∈ A ++ [v] then m else out u) ck B rest:=by
 obtain ⟨ht1,ht2⟩:=h.top
 have hdec:=YbM.1 h.dec
 have hdB:=Yu.1 hdec.2.1
 have hP:∀ u ∈ A ++ [v],wh v≤wh u∧u ∈ A++v :: B:=fun u hu=>by
  rcases YC.1 hu with h1 | h1
  ·exact ⟨YaV (hdec.2.2 u h1 v XM),by simp [h1]⟩
  ·obtain rfl:=Yn.1 h1
   exact ⟨Yar _,by simp⟩
 have Z:∀ u ∈ B,wh u<wh v∧u ∈ A++v :: B:=fun u hu=>⟨hdB.1 u hu,by simp [hu]⟩
 have hsplit:∀ u ∈ A++v :: B,u ∈ A ++ [v]∨u ∈ B:=fun u hu=>by
  rcases YC.1 hu with h1 | h1
  ·exact .inl (YC.2 (.inl h1))
  ·rcases Ym.1 h1 with h1 | h1
   ·exact .inl (by simp [h1])
   ·exact .inr h1
 have hvs:v ∈ A++v :: B:=XM
 have hPt:∀ u ∈ A ++ [v],u≠v → ∀ p ∈ (v,[]) :: rest,p.1≠u:=fun u hu hne p hp e=>by
  rcases Ym.1 hp with rfl | hp
  ·exact hne e.symm
  ·have h1:=ht1 p hp
   rw [e] at h1
   have:=(hP u hu).1
   omega
 have hno:∀ u ∈ A ++ [v],wh v<wh u → ∀ p ∈ (v,[]) :: rest,¬ (wh v<wh p.1∧wh p.1<wh u):=fun u hu _ p hp h9=>by
  have:=ht2 p hp
  omega
 have hlow:∀ u ∈ A ++ [v],wh v≤lo u:=fun u hu=>by
  by_cases e:u=v
  ·rw [e,hlo];exact Yar _
  ·have h1:wh v<wh u:=by
    rcases Int.lt_or_eq_of_le (hP u hu).1 with h1 | h1
    ·exact h1
    ·exact absurd (Zns h.dec (hP u hu).2 hvs h1.symm) e
   have:=h.lows (v,[]) XM u (hP u hu).2 (hPt u hu e) h1 (hno u hu h1)
   rw [← hlo];exact this
 have hback:∀ (k:Nat) (u:Int),u ∈ A ++ [v]→(wh u).toNat=k→u=v∨Rch (EJ adj) u v:=by
  intro k
  induction k using Nat.strongRecOn with
  | _ k ih=>
   intro u hu hk
   by_cases e:u=v
   ·exact .inl e
   ·refine .inr ?_
    have h1:=(h.fin u (hP u hu).2 (hPt u hu e)).1
    obtain ⟨_,w,hws,h2,h3⟩:=h.low u (hP u hu).2
    have h4:=hlow u hu
    have hwP:w ∈ A ++ [v]:=(hsplit w hws).resolve_right fun h9=>by have:=(Z w h9).1;omega
    have h5:Rch (EJ adj) u w:=h3.resolve_left fun e2=>by rw [e2] at h2;omega
    have h6:=h.pos w hws
    rcases ih (wh w).toNat ow w hwP rfl with h7 | h7
    ·rw [← h7];exact h5
    ·exact h5.trans h7
 have hfwd:∀ u ∈ A ++ [v],u=v∨Rch (EJ adj) v u:=fun u hu=>h.reach (v,[]) XM u (hP u hu).2 (hP u hu).1
 have hcl:∀ u ∈ A ++ [v],∀ y ∈ adj u,ZbR wh (A++v :: B) y∨y ∈ A ++ [v]:=fun u hu y hy=>by
  have key:ZbR wh (A++v :: B) y∨(y ∈ A++v :: B∧wh v≤wh y):=by
   by_cases e:u=v
   ·rw [e] at hy
    rcases h.arcs (v,[]) XM y hy XM with h1 | ⟨h1,h2⟩ | ⟨⟨q,hq,e2⟩,h2,_⟩
    ·exact .inl h1
    ·exact .inr ⟨h1,by have h2:lo v≤wh y:=h2;omega⟩
    ·have h3:=ht2 q hq
     rw [e2] at h3
     have h2:wh v<wh y:=h2
     omega
   ·rcases (h.fin u (hP u hu).2 (hPt u hu e)).2 y hy with h1 | ⟨h1,h2⟩
    ·exact .inl h1
    ·exact .inr ⟨h1,by have:=hlow u hu;omega⟩
  rcases key with h1 | ⟨h1,h2⟩
  ·exact .inl h1
  ·exact .inr ((hsplit y h1).resolve_right fun h9=>by have:=(Z y h9).1;omega)
 have hdr:∀ {d y:Int},ZbR wh (A++v :: B) d→Rch (EJ adj) d y→ZbR wh (A++v :: B) y:=fun {d y} hd hr=>by
  induction hr with
  | one k=>exact (h.done _ hd).1 _ k
  | step _ k ih=>exact (h.done _ ih).1 _ k
 have hCr:∀ {u y:Int},u ∈ A ++ [v]→Rch (EJ adj) u y→ZbR wh (A++v :: B) y∨y ∈ A ++ [v]:=fun {u y} hu hr=>by
  induction hr with
  | one k=>exact hcl _ hu _ k
  | step _ k ih=>
   rcases ih with h1 | h1
   ·exact .inl ((h.done _ h1).1 _ k)
   ·exact hcl _ h1 _ k
 have hmut:∀ u ∈ A ++ [v],∀ x,Znb adj u x ↔ x ∈ A ++ [v]:=fun u hu x=>by
  constructor
  ·rintro (rfl | ⟨h1,h2⟩)
   ·exact hu
   ·rcases hCr hu h1 with h3 | h3
    ·exact absurd (hP u hu).2 (hdr h3 h2).2
    ·exact h3
  ·intro hx
   by_cases e:x=u
   ·exact .inl e
   ·refine .inr ?_
    have key:∀ a ∈ A ++ [v],∀ b ∈ A ++ [v],b≠a→Rch (EJ adj) a b:=fun a ha b hb hne=>by
     rcases hback _ a ha rfl with h1 | h1 <;> rcases hfwd b hb with h2 | h2
     ·exact absurd (h2.trans h1.symm) hne
     ·rw [h1];exact h2
     ·rw [h2];exact h1
     ·exact h1.trans h2
    exact ⟨key u hu x hx e,key x hx u hu fun e2=>e e2.symm⟩
 have hlab:∀ u ∈ A ++ [v],Znt adj u m:=fun u hu=>⟨(hmut u hu m).2 hm,fun x hx=>hmin x ((hmut u hu x).1 hx)⟩
 have hdn:∀ d,ZbR wh B d ↔ ZbR wh (A++v :: B) d∨d ∈ A ++ [v]:=fun d=>by
  constructor
  ·rintro ⟨h1,h2⟩
   by_cases h3:d ∈ A++v :: B
   ·exact .inr ((hsplit d h3).resolve_right h2)
   ·exact .inl ⟨h1,h3⟩
  ·rintro (⟨h1,h2⟩ | h1)
   ·exact ⟨h1,fun h3=>h2 (Z d h3).2⟩
   ·refine ⟨by have:=h.pos d (hP d h1).2;omega,fun h3=>?_⟩
    have:=(Z d h3).1
    have:=(hP d h1).1
    omega
 have hrB:∀ r ∈ rest,r.1 ∈ B:=fun r hr=>(hsplit r.1 (h.onst r WD)).resolve_left fun h9=>by
  have:=(hP _ h9).1
  have:=ht1 r hr
  omega
 refine ⟨fun u hu=>h.pos u (Z u hu).2,hdB.2,h.vis,fun u hu=>?_,fun u hu hp=>?_,fun d hd=>?_,hrB,fun r hr=>h.sub r (Yy _ hr),(Yu.1 h.wdec).2,fun r hr y hy hn=>?_,fun r hr u hu hp hlt hb=>?_,fun r hr u hu hle=>h.reach r (Yy _ hr) u (Z u hu).2 hle,fun u hu=>?_⟩
 ·obtain ⟨h1,w,hws,h2,h3⟩:=h.low u (Z u hu).2
  refine ⟨h1,w,(hsplit w hws).resolve_left fun h9=>?_,h2,h3⟩
  have:=(hP w h9).1
  have:=(Z u hu).1
  omega
 ·have huv:u≠v:=fun e=>by have:=(Z u hu).1;rw [e] at this;omega
  obtain ⟨h1,h2⟩:=h.fin u (Z u hu).2 fun p hp2=>by
   rcases Ym.1 hp2 with rfl | hp2
   ·exact fun e=>huv e.symm
   ·exact hp p hp2
  refine ⟨h1,fun y hy=>?_⟩
  rcases h2 y hy with h3 | ⟨h3,h4⟩
  ·exact .inl ((hdn y).2 (.inl h3))
  ·rcases hsplit y h3 with h5 | h5
   ·exact .inl ((hdn y).2 (.inr h5))
   ·exact .inr ⟨h5,h4⟩
 ·rcases (hdn d).1 hd with h1 | h1
  ·have hnp:d ∉ A ++ [v]:=fun h9=>h1.2 (hP d h9).2
   obtain ⟨h2,h3⟩:=h.done d h1
   refine ⟨fun y hy=>(hdn y).2 (.inl (h2 y hy)),?_⟩
   show Znt adj d (if d ∈ A ++ [v] then m else out d)
   rw [Yb hnp];exact h3
  ·refine ⟨fun y hy=>(hdn y).2 (hcl d h1 y hy),?_⟩
   show Znt adj d (if d ∈ A ++ [v] then m else out d)
   rw [Ye h1];exact hlab d h1
 ·rcases h.arcs r WD y hy hn with h1 | ⟨h1,h2⟩ | ⟨⟨q,hq,e2⟩,h2,h3⟩
  ·exact .inl ((hdn y).2 (.inl h1))
  ·rcases hsplit y h1 with h5 | h5
   ·exact .inl ((hdn y).2 (.inr h5))
   ·exact .inr (.inl ⟨h5,h2⟩)
  ·rcases Ym.1 hq with rfl | hq
   ·have e2:v=y:=e2
    exact .inl ((hdn y).2 (.inr (by rw [← e2];simp)))
   ·exact .inr (.inr ⟨⟨q,hq,e2⟩,h2,fun p hp=>h3 p (Yy _ hp)⟩)
 ·refine h.lows r WD u (Z u hu).2 (fun p hp2=>?_) hlt fun p hp2=>?_
  ·rcases Ym.1 hp2 with rfl | hp2
   ·exact fun e=>by have e:v=u:=e;have:=(Z u hu).1;rw [e] at this;omega
   ·exact hp p hp2
  ·rcases Ym.1 hp2 with rfl | hp2
   ·exact fun h9=>by have h9:wh v<wh u:=h9.2;have:=(Z u hu).1;omega
   ·exact hb p hp2
 ·obtain ⟨r,h1,h2⟩:=h.root u (Z u hu).2
  cases rest with
  | nil=>simp at h1;rw [← h1] at h2;have:=(Z u hu).1;have h2:wh v≤wh u:=h2;omega
  | cons y l=>exact ⟨r,by simpa using h1,h2⟩
end
structure Zbj where
 wh:List Int
 lo:List Int
 wait:List Int
 inn:List Int
 ck:Int
 out:List Int
def fI (l:List Int):Int→Int:=fun x=>if 0≤x then Nn l x.toNat else 0
theorem Zcd {l:List Int} {x:Int} (h:0≤x):fI l x=Nn l x.toNat:=Ye h
theorem ZpM {l:List Int} {i j:Nat} {c:Int} (hi:i<l.length):Nn (l.set i c) j=if j=i then c else Nn l j:=by
 by_cases hj:j<l.length
 ·rw [nth_eq XJ,YbN,nth_eq hj]
  by_cases e:j=i
  ·rw [Ye e,Ye e.symm]
  ·rw [Yb e,Yb fun h=>e h.symm]
 ·rw [Yb ow]
  have e1:∀ (m:List Int),m.length≤j→Nn m j=(default:Int):=fun m hm=>by
   unfold Nn
   simp [YaN,hm]
  rw [e1 _ XT,e1 _ ow]
theorem Zc1 {l:List Int} {x c:Int} (h:0≤x∧x<l.length):fI (l.set x.toNat c)=ZcI (fI l) x c:=by
 funext y
 show (if 0≤y then Nn (l.set x.toNat c) y.toNat else 0)=if y=x then c else (if 0≤y then Nn l y.toNat else 0)
 by_cases hy:0≤y
 ·rw [Ye hy,Ye hy,ZpM ow]
  by_cases e:y=x
  ·rw [Ye e,Ye (by rw [e])]
  ·rw [Yb e,Yb ow]
 ·rw [Yb hy,Yb hy,Yb ow]
def Zm2 (n:Nat) (wh:List Int):List Nat:=(List.range n).filter fun i=>decide (Nn wh i=0)
def muW (way:Zmk):Nat:=(way.map fun r=>r.2.length+1).sum
def muU (n:Nat) (adj:Int→List Int) (wh:List Int):Nat:=((Zm2 n wh).map fun i:Nat=>(adj (i:Int)).length+2).sum
structure TI (n:Nat) (adj:Int→List Int) (s:Zbj) (way:Zmk):Prop where
 tj:Tj adj (fI s.wh) (fI s.lo) (fI s.out) s.ck s.wait.reverse way.reverse
 lw:s.wh.length=n
 ll:s.lo.length=n
 lout:s.out.length=n
 rng:∀ u ∈ s.wait,0≤u∧u<n
 up:Up n s.inn
 mem:∀ u,u ∈ s.inn ↔ u ∈ s.wait
 cnt:s.ck+(Zm2 n s.wh).length=n
def Zbi (n:Nat) (s:Zbj) (x:Int):Zbj:=⟨s.wh.set x.toNat (s.ck+1),s.lo.set x.toNat (s.ck+1),s.wait ++ [x],putL s.inn n x true,s.ck+1,s.out⟩
theorem Zk4 {n:Nat} {wh:List Int} {x c:Int} (hl:wh.length=n) (hx:0≤x∧x<n) (h0:Nn wh x.toNat=0) (hc:c≠0) (f:Nat→Nat) :
  ((Zm2 n (wh.set x.toNat c)).map f).sum+f x.toNat=((Zm2 n wh).map f).sum:=by
 have hlt:x.toNat<n:=ow
 have e:Zm2 n (wh.set x.toNat c)=(Zm2 n wh).erase x.toNat:=by
  have hn:(Zm2 n wh).Nodup:=(List.nodup_range).filter _
  rw [hn.erase_eq_filter]
  unfold Zm2
  rw [List.filter_filter]
  refine List.filter_congr fun i hi=>?_
  rw [ZpM ow]
  by_cases e:i=x.toNat
  ·rw [Ye e];simp [e,hc]
  ·rw [Yb e];simp [e]
 have hm:x.toNat ∈ Zm2 n wh:=YK.2 ⟨YaE.2 hlt,by simpa using h0⟩
 rw [e]
 have hp:=(List.perm_cons_erase hm).map f
 have:=hp.sum_nat
 rw [this,YG,YaO,YbC]
theorem Zhj {n:Nat} {l:List Int} {i j:Int} {on:Bool} (hi:0≤i∧i<n):j ∈ putL l n i on ↔ (j≠i∧j ∈ l)∨(j=i∧on=true):=by
 have e:(!on || decide (i<0) || decide ((n:Int)≤i)) = !on:=by
  rw [YO ow,YO ow,Bool.or_false,Bool.or_false]
 unfold putL
 rw [ZdG,e]
 simp
theorem ZkU {n:Nat} {l:List Int} {i:Int} {on:Bool} (h:Up n l) (hi:0≤i∧i<n):Up n (putL l n i on):=by
 refine ⟨?_,fun j hj=>?_⟩
 ·unfold putL;exact Zks _ _ _ h.1
 ·rcases (Zhj hi).1 hj with h1 | h1
  ·exact h.2 j h1.2
  ·rw [h1.1];exact hi
section
variable {n:Nat} {adj:Int→List Int} {s:Zbj} {way:Zmk} {v x:Int} {next:List Int}
theorem TI.zero (n:Nat) (adj:Int→List Int):TI n adj ⟨List.replicate n 0,List.replicate n 0,[],[],0,List.replicate n 0⟩ []:=by
 have e:fI (List.replicate n 0)=fun _=>0:=by
  funext y
  unfold fI
  split
  ·by_cases h:y.toNat<n
   ·rw [nth_eq XL];simp
   ·unfold Nn;simp [YaN,show n≤y.toNat by omega]
  ·rfl
 have hu:Zm2 n (List.replicate n 0)=List.range n:=List.filter_eq_self.2 fun i hi=>by
  rw [nth_eq XP];simp
 refine ⟨?_,by simp,by simp,by simp,by simp,⟨.nil,by simp⟩,by simp,?_⟩
 ·show Tj adj (fI (List.replicate n 0)) _ _ 0 [] []
  rw [e];exact Tj.zero
 ·show (0:Int)+((Zm2 n (List.replicate n 0)).length:Int)=n
  rw [hu];simp
theorem TI.unv (h:TI n adj s way) {u:Int} (hu:fI s.wh u=0):u ∉ s.wait:=fun hm=>by
 have:=h.tj.pos u (Yap.2 hm)
 omega
theorem Zhs (hx:0≤x∧x<n) (h:TI n adj s way) (h0:fI s.wh x=0):(Zbi n s x).ck+(Zm2 n (Zbi n s x).wh).length=n∧muU n adj (Zbi n s x).wh+((adj x).length+2)=muU n adj s.wh:=by
 rw [Zcd hx.1] at h0
 have hc:s.ck+1≠0:=by have:=(h.tj.vis x);omega
 have h1:=Zk4 h.lw hx h0 hc (fun _=>1)
 have h2:=Zk4 h.lw hx h0 hc (fun i:Nat=>(adj (i:Int)).length+2)
 have e:∀ l:List Nat,(l.map fun _=>1).sum=l.length:=fun l=>by
  induction l with
  | nil=>rfl
  | cons y l ih=>rw [YG,YaO,ih,Yh];omega
 rw [e,e] at h1
 have hx2:((x.toNat:Nat):Int)=x:=ow
 rw [hx2] at h2
 have:=h.cnt
 unfold Zbi muU
 dsimp only
 exact ⟨ow,h2⟩
theorem Zim (hx:0≤x∧x<n) (h:TI n adj s way):(∀ u ∈ (Zbi n s x).wait,0≤u∧u<n)∧Up n (Zbi n s x).inn ∧ ∀ u,u ∈ (Zbi n s x).inn ↔ u ∈ (Zbi n s x).wait:=by
 refine ⟨fun u hu=>?_,ZkU h.up hx,fun u=>?_⟩
 ·rcases YC.1 hu with h1 | h1
  ·exact h.rng u h1
  ·rw [Yn.1 h1];exact hx
 ·show u ∈ putL s.inn n x true ↔ u ∈ s.wait ++ [x]
  rw [Zhj hx,h.mem u,YC,Yn]
  by_cases e:u=x
  ·simp [e]
  ·simp [e]
theorem TI.first (hx:0≤x∧x<n) (h:TI n adj s []) (h0:fI s.wh x=0):TI n adj (Zbi n s x) [(x,adj x)]:=by
 have hw:s.wait = []:=by
  cases hc:s.wait with
  | nil=>rfl
  | cons y l=>
   obtain ⟨r,hr,_⟩:=h.tj.root y (Yap.2 (by rw [hc];simp))
   cases hr
 have htj:=h.tj
 rw [hw] at htj
 obtain ⟨r1',r2',r3'⟩:=Zim hx h
 refine ⟨?_,by simp [Zbi,h.lw],by simp [Zbi,h.ll],h.lout,r1',r2',r3',(Zhs hx h h0).1⟩
 show Tj adj (fI (s.wh.set _ _)) (fI (s.lo.set _ _)) _ _ (s.wait ++ [x]).reverse _
 rw [hw,Zc1 (by rw [h.lw];exact hx),Zc1 (by rw [h.ll];exact hx)]
 exact htj.first h0
theorem TI.meet (hadj:∀ u y,y ∈ adj u→0≤y∧y<(n:Int)) (h:TI n adj s (way ++ [(v,x :: next)])) (h0:fI s.wh x=0):TI n adj (Zbi n s x) (way ++ [(v,next)] ++ [(x,adj x)]):=by
 have hx:0≤x∧x<n:=hadj v x (h.tj.sub (v,x :: next) XM x XM)
 have htj:=h.tj
 rw [Yan] at htj
 obtain ⟨r1',r2',r3'⟩:=Zim hx h
 refine ⟨?_,by simp [Zbi,h.lw],by simp [Zbi,h.ll],h.lout,r1',r2',r3',(Zhs hx h h0).1⟩
 show Tj adj (fI (s.wh.set _ _)) (fI (s.lo.set _ _)) _ _ (s.wait ++ [x]).reverse _
 rw [Zc1 (by rw [h.lw];exact hx),Zc1 (by rw [h.ll];exact hx),Yan,Yan,Yan]
 exact htj.meet h0
theorem TI.wait (hv:0≤v∧v<n) (h:TI n adj s (way ++ [(v,x :: next)])) (hx:x ∈ s.inn):TI n adj { s with lo:=s.lo.set v.toNat (min (fI s.lo v) (fI s.wh x)) } (way ++ [(v,next)]):=by
 have htj:=h.tj
 rw [Yan] at htj
 refine ⟨?_,h.lw,by simp [h.ll],h.lout,h.rng,h.up,h.mem,h.cnt⟩
 show Tj adj _ (fI (s.lo.set _ _)) _ _ _ _
 rw [Zc1 (by rw [h.ll];exact hv),Yan]
 exact htj.pass (.inr ⟨Yap.2 ((h.mem x).1 hx),rfl⟩)
theorem TI.past (h:TI n adj s (way ++ [(v,x :: next)])) (h0:fI s.wh x≠0) (hx:x ∉ s.inn):TI n adj s (way ++ [(v,next)]):=by
 have htj:=h.tj
 rw [Yan] at htj
 refine ⟨?_,h.lw,h.ll,h.lout,h.rng,h.up,h.mem,h.cnt⟩
 have h1:=htj.pass (c:=fI s.lo v) (.inl ⟨⟨h0,fun hm=>hx ((h.mem x).2 (Yap.1 hm))⟩,rfl⟩)
 have e:ZcI (fI s.lo) v (fI s.lo v)=fI s.lo:=by
  funext y;unfold ZcI;split
  ·rename_i e;rw [e]
  ·rfl
 rw [e] at h1
 rw [Yan];exact h1
def partL (wait:List Int) (v:Int):List Int:=(wait.reverse.takeWhile fun y=>decide (y≠v)) ++ [v]
def keepL (wait:List Int) (v:Int):List Int:=((wait.reverse.dropWhile fun y=>decide (y≠v)).drop 1).reverse
theorem ZgE {wait:List Int} {v:Int} (h:v ∈ wait):wait.reverse=(wait.reverse.takeWhile fun y=>decide (y≠v))++v :: (keepL wait v).reverse:=by
 have h1:=List.takeWhile_append_dropWhile (p:=fun y=>decide (y≠v)) (l:=wait.reverse)
 have h2:∃ t,wait.reverse.dropWhile (fun y=>decide (y≠v))=v :: t:=by
  have key:∀ l:List Int,v ∈ l → ∃ t,l.dropWhile (fun y=>decide (y≠v))=v :: t:=by
   intro l
   induction l with
   | nil=>intro h;cases h
   | cons y l ih=>
    intro h
    by_cases e:y=v
    ·rw [List.dropWhile_cons_of_neg XN,e];exact ⟨l,rfl⟩
    ·rw [List.dropWhile_cons_of_pos XN]
     exact ih ((Ym.1 h).resolve_left fun h9=>e h9.symm)
  exact key _ (Yap.2 h)
 obtain ⟨t,h2⟩:=h2
 unfold keepL
 rw [h2] at h1 ⊢
 rw [List.reverse_reverse]
 exact h1.symm
def ZuQ (m:Int) (l:List Int):Prop:=m ∈ l ∧ ∀ x ∈ l,m≤x
def outL (part:List Int) (m:Int) (out:List Int):List Int:=part.foldl (fun o y=>o.set y.toNat m) out
def innL (n:Nat) (part:List Int) (inn:List Int):List Int:=part.foldl (fun l y=>putL l n y false) inn
theorem Zh7 (m:Int):∀ (part out:List Int),(outL part m out).length=out.length
 | [],out=>rfl
 | y :: part,out=>by
  have:=Zh7 m part (out.set y.toNat m)
  rw [YU] at this
  exact this
theorem Zpr (m:Int):∀ (part out:List Int),(∀ y ∈ part,0≤y∧y<out.length)→fI (outL part m out)=fun u=>if u ∈ part then m else fI out u
 | [],out,_=>by funext u;simp [outL]
 | y :: part,out,h=>by
  have h1:=h y XM
  have ih:=Zpr m part (out.set y.toNat m) fun z hz=>by rw [YU];exact h z W8
  have e:outL (y :: part) m out=outL part m (out.set y.toNat m):=rfl
  rw [e,ih,Zc1 h1]
  funext u
  unfold ZcI
  by_cases e1:u ∈ part
  ·rw [Ye e1,Ye (by simp [e1])]
  ·rw [Yb e1]
   by_cases e2:u=y
   ·rw [Ye e2,Ye (by simp [e2])]
   ·rw [Yb e2,Yb (by simp [e1,e2])]
theorem ZoB (n:Nat):∀ (part inn:List Int),(∀ y ∈ part,0≤y∧y<(n:Int))→Up n inn→Up n (innL n part inn) ∧ ∀ u,u ∈ innL n part inn ↔ u ∈ inn∧u ∉ part
 | [],inn,_,hu=>⟨hu,fun u=>by simp [innL]⟩
 | y :: part,inn,h,hu=>by
  have h1:=h y XM
  obtain ⟨i1,i2⟩:=ZoB n part (putL inn n y false) (fun z hz=>h z W8) (ZkU hu h1)
  have e:innL n (y :: part) inn=innL n part (putL inn n y false):=rfl
  rw [e]
  refine ⟨i1,fun u=>?_⟩
  rw [i2,Zhj h1]
  simp
  constructor
  ·rintro ⟨⟨h2,h3⟩,h4⟩;exact ⟨h3,h2,h4⟩
  ·rintro ⟨h3,h2,h4⟩;exact ⟨⟨h2,h3⟩,h4⟩
def ZnX (n:Nat) (s:Zbj) (v m:Int):Zbj:={ s with wait:=keepL s.wait v,inn:=innL n (partL s.wait v) s.inn,out:=outL (partL s.wait v) m s.out }
theorem TI.part {m:Int} (h:TI n adj s (way ++ [(v,[])])) (hlo:fI s.lo v=fI s.wh v) (hm:ZuQ m (partL s.wait v)):TI n adj (ZnX n s v m) way:=by
 have htj:=h.tj
 rw [Yan] at htj
 have hvw:v ∈ s.wait:=Yap.1 (htj.onst (v,[]) XM)
 have hsp:=ZgE hvw
 rw [hsp] at htj
 have hpr:∀ y ∈ partL s.wait v,0≤y∧y<(n:Int):=fun y hy=>by
  refine h.rng y (Yap.1 ?_)
  rw [hsp]
  unfold partL at hy
  rcases YC.1 hy with h1 | h1
  ·exact Y6 _ h1
  ·rw [Yn.1 h1];simp
 have hnew:=htj.part hlo hm.1 hm.2
 obtain ⟨i1,i2⟩:=ZoB n (partL s.wait v) s.inn hpr h.up
 have hsub:∀ u ∈ keepL s.wait v,u ∈ s.wait:=fun u hu=>Yap.1 (by rw [hsp];simp [hu])
 refine ⟨?_,h.lw,h.ll,by show (outL _ _ _).length=n;rw [Zh7];exact h.lout,fun u hu=>h.rng u (hsub u hu),i1,fun u=>?_,h.cnt⟩
 ·show Tj adj (fI s.wh) (fI s.lo) (fI (outL (partL s.wait v) m s.out)) s.ck (keepL s.wait v).reverse way.reverse
  rw [Zpr m _ _ fun y hy=>by rw [h.lout];exact hpr y hy]
  exact hnew
 ·show u ∈ innL n (partL s.wait v) s.inn ↔ u ∈ keepL s.wait v
  rw [i2,h.mem]
  have hd:=htj.dec
  constructor
  ·rintro ⟨h1,h2⟩
   have h3:u ∈ s.wait.reverse:=Yap.2 h1
   rw [hsp] at h3
   unfold partL at h2
   rcases YC.1 h3 with h4 | h4
   ·exact absurd (Y6 _ h4) h2
   ·rcases Ym.1 h4 with h4 | h4
    ·exact absurd (YW _ (by simp [h4])) h2
    ·exact Yap.1 h4
  ·intro hu
   refine ⟨hsub u hu,fun h2=>?_⟩
   have hur:u ∈ (keepL s.wait v).reverse:=Yap.2 hu
   obtain ⟨_,d2,d3⟩:=YbM.1 hd
   unfold partL at h2
   rcases YC.1 h2 with h4 | h4
   ·have:=d3 u h4 u (Yy _ hur);omega
   ·have:=(Yu.1 d2).1 u hur
    rw [Yn.1 h4] at this;omega
theorem TI.stay {u0:Int} {nx:List Int} (hu:0≤u0∧u0<n) (h:TI n adj s (way ++ [(u0,nx)] ++ [(v,[])])) (hlo:fI s.lo v≠fI s.wh v):TI n adj { s with lo:=s.lo.set u0.toNat (min (fI s.lo u0) (fI s.lo v)) } (way ++ [(u0,nx)]):=by
 have htj:=h.tj
 rw [Yan,Yan] at htj
 refine ⟨?_,h.lw,by simp [h.ll],h.lout,h.rng,h.up,h.mem,h.cnt⟩
 show Tj adj _ (fI (s.lo.set _ _)) _ _ _ _
 rw [Zc1 (by rw [h.ll];exact hu),Yan]
 exact htj.stay hlo
theorem TI.root (h:TI n adj s [(v,[])]):fI s.lo v=fI s.wh v:=by
 have hvs:=h.tj.onst (v,[]) XM
 obtain ⟨h1,w,hw,h2,_⟩:=h.tj.low v hvs
 obtain ⟨r,h3,h4⟩:=h.tj.root w hw
 have:r=(v,[]):=by simpa using h3.symm
 rw [this] at h4
 have h4:fI s.wh v≤fI s.wh w:=h4
 omega
theorem TI.same {u0:Int} {nx:List Int} (h:TI n adj s (way ++ [(u0,nx)] ++ [(v,[])])) (hlo:fI s.lo v=fI s.wh v):min (fI s.lo u0) (fI s.lo v)=fI s.lo u0:=by
 have htj:=h.tj
 rw [Yan,Yan] at htj
 have h1:=htj.above.1
 have h2:=(htj.low u0 (htj.onst (u0,nx) XM)).1
 omega
end
theorem ZuO {P:Int→Prop} (h0:∀ x,P x→0≤x) {u:Int} (hu:P u):∃ m,P m ∧ ∀ x,P x→m≤x:=by
 apply Ya5
 intro hn
 have key:∀ k:Nat,∀ x,P x→(k:Int)≤x:=by
  intro k
  induction k with
  | zero=>intro x hx;exact h0 x hx
  | succ k ih=>
   intro x hx
   have h1:=ih x hx
   by_cases e:x=k
   ·exact absurd ⟨x,hx,fun y hy=>by have:=ih y hy;omega⟩ hn
   ·omega
 have h1:=key (u.toNat+1) u hu
 have h2:=h0 u hu
 omega
theorem Zps {P:Nat→Int→Prop} : ∀ n:Nat,(∀ u,u<n → ∃ m,P u m) → ∃ L:List Int,L.length=n ∧ ∀ u,u<n→P u (Nn L u)
 | 0,_=>⟨[],rfl,fun u hu=>absurd hu (Yah u)⟩
 | n+1,h=>by
  obtain ⟨L,h1,h2⟩:=Zps n fun u hu=>h u ow
  obtain ⟨m,hm⟩:=h n ow
  refine ⟨L ++ [m],by simp [h1],fun u hu=>?_⟩
  rw [nth_eq XT]
  by_cases e:u<n
  ·rw [List.getElem_append_left ow,← nth_eq ow];exact h2 u e
  ·have e:u=L.length:=ow
   subst e
   rw [List.getElem_append_right ow];simpa [h1] using hm
def ZjV (adj:Int→List Int) (n:Nat) (L:List Int):Prop:=L.length=n ∧ ∀ u:Nat,u<n→Znt adj (u:Int) (Nn L u)
theorem Zp7 {E:Int→Int→Prop} {a b:Int} (h:Rch E a b):∃ c,E c b:=by
 cases h with
 | one k=>exact ⟨_,k⟩
 | step _ k=>exact ⟨_,k⟩
theorem Ztm {adj:Int→List Int} (n:Nat) (hadj:∀ u y,y ∈ adj u→0≤y):∃ L,ZjV adj n L:=by
 refine Zps n fun u _=>ZuO (P:=Znb adj (u:Int)) (fun x hx=>?_) (.inl rfl)
 rcases hx with h | ⟨h,_⟩
 ·omega
 ·obtain ⟨c,k⟩:=Zp7 h;exact hadj c x k
theorem Znt.one {adj:Int→List Int} {u a b:Int} (h:Znt adj u a) (k:Znt adj u b):a=b:=Int.le_antisymm (h.2 b k.1) (k.2 a h.1)
theorem Znb.symm {adj:Int→List Int} {u x:Int} (h:Znb adj u x):Znb adj x u:=h.elim (fun e=>.inl e.symm) fun e=>.inr ⟨e.2,e.1⟩
theorem Znb.trans {adj:Int→List Int} {u x y:Int} (h:Znb adj u x) (k:Znb adj x y):Znb adj u y:=by
 rcases h with rfl | ⟨h1,h2⟩
 ·exact k
 ·rcases k with rfl | ⟨k1,k2⟩
  ·exact .inr ⟨h1,h2⟩
  ·exact .inr ⟨h1.trans k1,k2.trans h2⟩
theorem Znt.same {adj:Int→List Int} {u v a b:Int} (h:Znt adj u a) (k:Znt adj v b):a=b ↔ Znb adj u v:=by
 constructor
 ·intro e;subst e;exact h.1.trans k.1.symm
 ·intro m
  exact Int.le_antisymm (h.2 b (m.trans k.1)) (k.2 a (m.symm.trans h.1))
theorem ZjV.one {adj:Int→List Int} {n:Nat} {L M:List Int} (h:ZjV adj n L) (k:ZjV adj n M):L=M:=by
 refine ZdH (by rw [h.1,k.1]) fun j hj=>?_
 rw [h.1] at hj
 exact (h.2 j hj).one (k.2 j hj)
theorem TI.labs {n:Nat} {adj:Int→List Int} {s:Zbj} (h:TI n adj s []) (hv:∀ u:Nat,u<n→Nn s.wh u≠0):ZjV adj n s.out:=by
 refine ⟨h.lout,fun u hu=>?_⟩
 have hd:ZbR (fI s.wh) s.wait.reverse (u:Int):=by
  refine ⟨by rw [Zcd ow];exact hv u ow,fun hm=>?_⟩
  obtain ⟨r,hr,_⟩:=h.tj.root _ hm
  cases hr
 have:=(h.tj.done _ hd).2
 rw [Zcd ow] at this
 exact this
theorem ZfU {n:Nat} {l:List Int} (hnd:l.Nodup) (h:∀ y ∈ l,0≤y∧y<n):l.length≤n:=by
 have hn2:l.Nodup→(∀ y ∈ l,y ∈ (List.range n).map fun i:Nat=>(i:Int))→l.length≤((List.range n).map fun i:Nat=>(i:Int)).length:=fun a b=>List.Nodup.length_le_of_subset a b
 have:=hn2 hnd fun y hy=>YB.2 ⟨y.toNat,YaE.2 (by have:=h y hy;omega),by have:=h y hy;omega⟩
 simpa using this
def ZjN:List Int→Int
 | []=>0
 | x :: l=>l.foldl min x
theorem ZoF {l:List Int} (h:l≠[]):ZuQ (ZjN l) l:=by
 have key:∀ (l:List Int) (x:Int),(l.foldl min x=x∨l.foldl min x ∈ l)∧l.foldl min x≤x ∧ ∀ y ∈ l,l.foldl min x≤y:=by
  intro l
  induction l with
  | nil=>intro x;exact ⟨.inl rfl,Yar _,by simp⟩
  | cons a l ih=>
   intro x
   obtain ⟨h1,h2,h3⟩:=ih (min x a)
   rw [Yav]
   refine ⟨?_,ow,fun y hy=>?_⟩
   ·rcases h1 with h1 | h1
    ·rw [h1]
     by_cases e:x≤a
     ·left;omega
     ·right;have:min x a=a:=ow
      rw [this];simp
    ·right;simp [h1]
   ·rcases Ym.1 hy with rfl | hy
    ·omega
    ·exact h3 y hy
 cases l with
 | nil=>exact absurd rfl h
 | cons x l=>
  obtain ⟨h1,h2,h3⟩:=key l x
  refine ⟨?_,fun y hy=>?_⟩
  ·show l.foldl min x ∈ x :: l
   rcases h1 with h1 | h1
   ·rw [h1];simp
   ·simp [h1]
  ·rcases Ym.1 hy with rfl | hy
   ·exact h2
   ·exact h3 y hy
def leaveD (n:Nat) (s:Zbj) (v:Int):Zbj:=if fI s.lo v=fI s.wh v then ZnX n s v (ZjN (partL s.wait v)) else s
theorem ZfY (n:Nat) (s:Zbj) (v:Int):(leaveD n s v).wh=s.wh∧(leaveD n s v).lo=s.lo:=by unfold leaveD;split <;> exact ⟨rfl,rfl⟩
theorem Zhk (w:List Int) (v:Int):partL w v≠[]:=by unfold partL;simp
theorem Zti {w:List Int} {k:Nat} {v:Int} (hk:k<w.length) (hn:v ∉ w.reverse.take k) (hv:Nn w (w.length - (k+1))=v):w.reverse.take k ++ [v] = partL w v∧w.take (w.length - (k+1))=keepL w v:=by
 have e0:Nn w.reverse k=v:=by
  rw [nth_eq W7,List.getElem_reverse,← hv,nth_eq ow]
  congr 1;omega
 have e1:w.reverse=w.reverse.take k++v :: w.reverse.drop (k+1):=by
  conv=>lhs;rw [← YaD k w.reverse]
  rw [Ya4 W7,← nth_eq W7,e0]
 have key:∀ (a b:List Int),v ∉ a→(a++v :: b).takeWhile (fun y=>decide (y≠v))=a∧(a++v :: b).dropWhile (fun y=>decide (y≠v))=v :: b:=by
  intro a b
  induction a with
  | nil=>intro _;simp
  | cons x a ih=>
   intro h
   have h1:x≠v:=fun e=>h (by simp [e])
   obtain ⟨i1,i2⟩:=ih fun h2=>h (by simp [h2])
   rw [Yao,List.takeWhile_cons_of_pos W4,List.dropWhile_cons_of_pos W4,i1,i2]
   exact ⟨rfl,rfl⟩
 obtain ⟨k1,k2⟩:=key _ (w.reverse.drop (k+1)) hn
 rw [← e1] at k1 k2
 unfold partL keepL
 rw [k1,k2]
 refine ⟨rfl,?_⟩
 show _=(w.reverse.drop (k+1)).reverse
 rw [List.drop_reverse,List.reverse_reverse]
theorem ZlP {w:List Int} {k:Nat} (hk:k<w.length):w.reverse.take k ++ [Nn w (w.length - (k+1))] = w.reverse.take (k+1)∧w.take (w.length - k)=w.take (w.length - (k+1)) ++ [Nn w (w.length - (k+1))]:=by
 constructor
 ·rw [Zy W7]
  congr 2
  rw [nth_eq ow,nth_eq W7,List.getElem_reverse]
  congr 1;omega
 ·conv=>lhs;rw [show w.length - k=w.length - (k+1)+1 by omega]
  exact Zy ow
section
variable {n:Nat} {adj:Int→List Int} {s:Zbj} {way:Zmk} {v u:Int} {nx:List Int}
theorem ZqM {l:List Int} {i:Nat} : l.set i (Nn l i)=l:=by
 apply YaM XM
 intro j h1 h2
 rw [YbN]
 split
 ·rename_i e;subst e;rw [nth_eq h2]
 ·rfl
theorem TI.leftRoot (h:TI n adj s [(v,[])]):TI n adj (leaveD n s v) []:=by
 unfold leaveD
 rw [Ye h.root]
 exact TI.part (way:=[]) h h.root (ZoF (Zhk _ _))
theorem TI.left (hu:0≤u∧u<n) (h:TI n adj s (way ++ [(u,nx)] ++ [(v,[])])):TI n adj { leaveD n s v with lo:=(leaveD n s v).lo.set u.toNat (min (fI s.lo u) (fI s.lo v)) } (way ++ [(u,nx)]):=by
 unfold leaveD
 by_cases e:fI s.lo v=fI s.wh v
 ·rw [Ye e]
  have h1:=TI.part (way:=way ++ [(u,nx)]) h e (ZoF (Zhk _ _))
  have h2:=h.same e
  rw [h2,Zcd hu.1]
  have:(ZnX n s v (ZjN (partL s.wait v))).lo=s.lo:=rfl
  rw [this,ZqM]
  exact h1
 ·rw [Yb e];exact h.stay hu e
theorem TI.nodes (h:TI n adj s way):∀ r ∈ way,r.1 ∈ s.wait∧0≤r.1∧r.1<n:=fun r hr=>by
 have:=Yap.1 (h.tj.onst r (Yap.2 hr))
 exact ⟨this,h.rng _ this⟩
theorem TI.wayLen (h:TI n adj s way):way.length≤n:=by
 have h1:(way.reverse.map Prod.fst).Nodup:=by
  rw [List.Nodup,Ya3]
  exact h.tj.wdec.imp fun h e=>by rw [e] at h;omega
 have:=ZfU h1 fun y hy=>by
  obtain ⟨r,hr,rfl⟩:=YB.1 hy
  exact (h.nodes r (Yap.1 hr)).2
 simpa using this
theorem TI.waitNd (h:TI n adj s way):s.wait.Nodup:=by
 have:s.wait.reverse.Nodup:=h.tj.dec.imp fun h e=>by rw [e] at h;omega
 exact (List.pairwise_reverse.1 this).imp fun h=>h.symm
theorem TI.waitLe (h:TI n adj s way):s.wait.length≤n:=ZfU h.waitNd h.rng
theorem TI.waitLt (h:TI n adj s way) (hu:0≤u∧u<n) (h0:fI s.wh u=0):s.wait.length<n:=by
 have:=ZfU (n:=n) (l:=u :: s.wait) (YaT.2 ⟨h.unv h0,h.waitNd⟩) fun y hy=>by
  rcases Ym.1 hy with rfl | hy
  ·exact hu
  ·exact h.rng y hy
 rw [Yh] at this;omega
theorem TI.ckLe (h:TI n adj s way):0≤s.ck∧s.ck≤n:=by
 have h1:=h.cnt
 have h2:=h.tj.vis 0
 omega
theorem ZbL (way:Zmk) (r:Int×List Int):muW (way ++ [r])=muW way+(r.2.length+1):=by
 unfold muW;simp
theorem ZnR (hx:0≤v∧v<n) (h:TI n adj s way) (y:Int):fI (Zbi n s v).wh y=if y=v then s.ck+1 else fI s.wh y:=by
 show fI (s.wh.set _ _) y=_
 rw [Zc1 (by rw [h.lw];exact hx)];rfl
end
theorem ZrO {α:Type} {l:List α} {x y:α} : (l ++ [x]).set l.length y=l ++ [y]:=by simp
theorem Zo8 {part:List Int} {m:Int} {out:List Int} {i:Nat} (h:i<part.length):(outL (part.take i) m out).set (Nn part i).toNat m=outL (part.take (i+1)) m out:=by
 unfold outL
 rw [Zy h,Ya2];rfl
theorem Zne {n:Nat} {part:List Int} {y:Int} {inn:List Int} : putL (innL n part inn) n y false=innL n (part ++ [y]) inn:=by
 unfold innL
 rw [Ya2];rfl
theorem Zr8 {w:List Int} {v y:Int} (hv:v ∈ w) (h:y ∈ partL w v):y ∈ w:=by
 have hs:=ZgE hv
 refine Yap.1 ?_
 rw [hs]
 unfold partL at h
 rcases YC.1 h with h1 | h1
 ·exact Y6 _ h1
 ·rw [Yn.1 h1];simp
theorem ZnP {w:List Int} {v:Int} {j:Nat} (hv:v ∈ w) (h:v ∉ w.reverse.take j):j<w.length:=by
 refine Nat.lt_of_not_le fun hj=>h ?_
 rw [Yaf XJ];exact Yap.2 hv
theorem ZpJ {l:List Int} {i:Nat} (h1:1≤i) (h2:i<l.length):(if Nn l i<ZjN (l.take i) then Nn l i else ZjN (l.take i))=ZjN (l.take (i+1)):=by
 rw [Zy h2]
 cases l with
 | nil=>simp at h2
 | cons x l=>
  obtain ⟨j,rfl⟩:∃ j,i=j+1:=⟨i - 1,ow⟩
  rw [List.take_succ_cons,Yao]
  show _=(l.take j ++ [_]).foldl min x
  rw [Ya2]
  show (if _<(l.take j).foldl min x then _ else (l.take j).foldl min x)=min ((l.take j).foldl min x) _
  split <;> omega
theorem ZrK {l:List Int} (h:l≠[]):Nn l 0=ZjN (l.take 1):=by
 cases l with
 | nil=>exact absurd rfl h
 | cons x l=>rw [nth_eq XM];rfl
theorem ZsL (a b:Int):(if b<a then b else a)=min a b:=by split <;> omega
theorem ZpY {α:Type} {l:List α} (h:l≠[]):∃ m r,l=m ++ [r]:=⟨l.dropLast,l.getLast h,(List.dropLast_concat_getLast h).symm⟩
theorem Zrh {α:Type} [Inhabited α] {l:List α} {x:α} : Nn (x :: l) 0=x:=by rw [nth_eq (by simp)];rfl
def FrI (n:Nat) (adj:Int→List Int) (w0:List Int) (x:Int) (q:Zbj) (way:Zmk):Prop:=TI n adj q way∧fI q.wh x≠0 ∧ ∀ y,fI w0 y≠0→fI q.wh y≠0
def muF (n:Nat) (adj:Int→List Int) (q:Zbj) (way:Zmk):Nat:=muW way+muU n adj q.wh
section
variable {n:Nat} {adj:Int→List Int} {w0:List Int} {x:Int} {q:Zbj} {way:Zmk} {v u y:Int} {nx nu:List Int}
theorem ZeU (hx:0≤v∧v<n) (h:TI n adj q way):fI (Zbi n q v).wh v≠0 ∧ ∀ y,fI q.wh y≠0→fI (Zbi n q v).wh y≠0:=by
 have hc:=h.ckLe
 refine ⟨by rw [ZnR hx h,Ye rfl];omega,fun y hy=>?_⟩
 rw [ZnR hx h]
 split
 ·omega
 ·exact hy
theorem FrI.start (hx:0≤x∧x<n) (h:TI n adj q []) (h0:fI q.wh x=0):FrI n adj q.wh x (Zbi n q x) [(x,adj x)]:=⟨h.first hx h0,(ZeU hx h).1,(ZeU hx h).2⟩
theorem FrI.root (h:FrI n adj w0 x q [(v,[])]):FrI n adj w0 x (leaveD n q v) []∧muF n adj (leaveD n q v) [] < muF n adj q [(v,[])]:=by
 obtain ⟨h1,h2,h3⟩:=h
 have e:=(ZfY n q v).1
 refine ⟨⟨h1.leftRoot,by rw [e];exact h2,fun y hy=>by rw [e];exact h3 y hy⟩,?_⟩
 unfold muF muW
 rw [e];simp
theorem FrI.left (h:FrI n adj w0 x q (way ++ [(u,nu)] ++ [(v,[])])):FrI n adj w0 x { leaveD n q v with lo:=(leaveD n q v).lo.set u.toNat (min (fI q.lo u) (fI q.lo v)) } (way ++ [(u,nu)])∧muF n adj { leaveD n q v with lo:=(leaveD n q v).lo.set u.toNat (min (fI q.lo u) (fI q.lo v)) } (way ++ [(u,nu)])<muF n adj q (way ++ [(u,nu)] ++ [(v,[])]):=by
 obtain ⟨h1,h2,h3⟩:=h
 have e:=(ZfY n q v).1
 refine ⟨⟨h1.left (h1.nodes (u,nu) XM).2,by show fI (leaveD n q v).wh x≠0;rw [e];exact h2,fun y hy=>by show fI (leaveD n q v).wh y≠0;rw [e];exact h3 y hy⟩,?_⟩
 show muW _+muU n adj (leaveD n q v).wh<muW _+muU n adj q.wh
 rw [e,ZbL (way ++ [(u,nu)])];omega
theorem FrI.meet (hadj:∀ u y,y ∈ adj u→0≤y∧y<(n:Int)) (h:FrI n adj w0 x q (way ++ [(v,y :: nx)])) (h0:fI q.wh y=0):FrI n adj w0 x (Zbi n q y) (way ++ [(v,nx)] ++ [(y,adj y)])∧muF n adj (Zbi n q y) (way ++ [(v,nx)] ++ [(y,adj y)])<muF n adj q (way ++ [(v,y :: nx)]):=by
 obtain ⟨h1,h2,h3⟩:=h
 have hy:0≤y∧y<n:=hadj v y (h1.tj.sub (v,y :: nx) XM y XM)
 refine ⟨⟨h1.meet hadj h0,(ZeU hy h1).2 x h2,fun z hz=>(ZeU hy h1).2 z (h3 z hz)⟩,?_⟩
 have:=(Zhs hy h1 h0).2
 unfold muF
 rw [ZbL,ZbL,ZbL,Yh]
 dsimp only
 omega
theorem FrI.wait (h:FrI n adj w0 x q (way ++ [(v,y :: nx)])) (hx:y ∈ q.inn):FrI n adj w0 x { q with lo:=q.lo.set v.toNat (min (fI q.lo v) (fI q.wh y)) } (way ++ [(v,nx)])∧muF n adj { q with lo:=q.lo.set v.toNat (min (fI q.lo v) (fI q.wh y)) } (way ++ [(v,nx)])<muF n adj q (way ++ [(v,y :: nx)]):=by
 obtain ⟨h1,h2,h3⟩:=h
 refine ⟨⟨h1.wait (h1.nodes (v,y :: nx) XM).2 hx,h2,h3⟩,?_⟩
 show muW _+muU n adj q.wh<muW _+muU n adj q.wh
 rw [ZbL,ZbL,Yh];dsimp only;omega
theorem FrI.past (h:FrI n adj w0 x q (way ++ [(v,y :: nx)])) (h0:fI q.wh y≠0) (hx:y ∉ q.inn):FrI n adj w0 x q (way ++ [(v,nx)])∧muF n adj q (way ++ [(v,nx)])<muF n adj q (way ++ [(v,y :: nx)]):=by
 obtain ⟨h1,h2,h3⟩:=h
 refine ⟨⟨h1.past h0 hx,h2,h3⟩,?_⟩
 unfold muF
 rw [ZbL,ZbL,Yh];dsimp only;omega
end
theorem Zih (id k:Int) (l:List OpD):(ZbN id l).count ⟨id,k⟩ = wcnt l k:=by
 unfold ZbN wcnt
 induction l with
 | nil=>rfl
 | cons o l ih=>
  cases hr:o.read with
  | true=>simp [List.filter_cons,hr] at ih ⊢;exact ih
  | false=>
   rw [YT WD,YG,List.count_cons,ih]
   by_cases hk:o.key=k
   ·rw [YT (by simp [hr,hk])];simp [hk]
   ·rw [Y9 (by simp [hr,hk])]
    have:¬ ((⟨id,o.key⟩:Zdn) == ⟨id,k⟩)=true:=by simp [hk]
    simp [hk]
theorem ZiO {id id2 k:Int} (h:id2≠id) (l:List OpD):(ZbN id2 l).count ⟨id,k⟩ = 0:=by
 rw [List.count_eq_zero]
 intro hm
 unfold ZbN at hm
 obtain ⟨o,_,e⟩:=YB.1 hm
 exact h (Y8 Zdn.fst e)
theorem ZfS {id k:Int} {l:List TxD} (h:∀ t ∈ l,t.id≠id):(lastK l).count ⟨id,k⟩ = 0:=by
 induction l with
 | nil=>rfl
 | cons t l ih=>
  have h1:=ih fun x hx=>h x (Yy _ hx)
  unfold lastK at h1 ⊢
  rw [Y0,YbJ,h1]
  split
  ·rw [ZiO (h t XM)]
  ·rfl
theorem ZqE {g:Zl} (hr:ZA g) {u:TxD} (hu:u ∈ g.txs) (hd:u.done=true) (k:Int):(lastK g.txs).count ⟨u.id,k⟩ = wcnt u.ops k:=by
 have hp:List.Pairwise (fun a b:TxD=>a.id<b.id) g.txs:=Ya3.1 (Znx hr.2.1)
 obtain ⟨s,r,e⟩:=List.append_of_mem hu
 rw [e] at hp ⊢
 obtain ⟨_,h2,h3⟩:=YbM.1 hp
 have hs:=ZfS (id:=u.id) (k:=k) (l:=s) fun t ht=>by have:=h3 t ht u XM;omega
 have ht:=ZfS (id:=u.id) (k:=k) (l:=r) fun t ht=>by have:=(Yu.1 h2).1 t ht;omega
 unfold lastK at hs ht ⊢
 rw [Y2,Y0,YbJ,YbJ,hs,ht,Ye hd,Zih]
 omega
theorem ZqO {t:TxD} (h:ZaU t=0):1≤t.id:=by
 unfold ZaU at h
 split at h
 ·cases h
 ·rename_i h1;exact (Decidable.not_not.1 h1).1
def Zeg:List Int→Int→Int→Prop
 | x :: y :: l,a,b=>(x=a∧y=b)∨Zeg (y :: l) a b
 | _,_,_=>False
def Zkm (l:List Int) (x y:Int):Prop:=(x=0∧l.head? = some y)∨Zeg l x y
theorem Zdt:∀ {l:List Int} {a b:Int},Zeg l a b ↔ ∃ i,i+1<l.length∧Nn l i=a∧Nn l (i+1)=b
 | [],a,b=>by simp [Zeg]
 | [x],a,b=>by simp [Zeg]
 | x :: y :: l,a,b=>by
  have ih:=Zdt (l:=y :: l) (a:=a) (b:=b)
  unfold Zeg
  rw [ih]
  constructor
  ·rintro (⟨rfl,rfl⟩ | ⟨i,h1,h2,h3⟩)
   ·exact ⟨0,by simp,by rw [nth_eq XM];rfl,by rw [nth_eq XM];rfl⟩
   ·have h1':i+1<(y :: l).length:=h1
    refine ⟨i+1,by simp at h1 ⊢;omega,?_,?_⟩
    ·rw [← h2,nth_eq (l:=x :: y :: l) WT,nth_eq (l:=y :: l) ow];rfl
    ·rw [← h3,nth_eq (l:=x :: y :: l) WT,nth_eq (l:=y :: l) h1'];rfl
  ·rintro ⟨i,h1,h2,h3⟩
   cases i with
   | zero=>
    rw [nth_eq XM] at h2 h3
    exact .inl ⟨h2,h3⟩
   | succ i=>
    refine .inr ⟨i,by simp at h1 ⊢;omega,?_,?_⟩
    ·rw [← h2,nth_eq (l:=x :: y :: l) WT,nth_eq (l:=y :: l) WT];rfl
    ·rw [← h3,nth_eq (l:=x :: y :: l) WT,nth_eq (l:=y :: l) WT];rfl
theorem Zeg.mem:∀ {l:List Int} {a b:Int},Zeg l a b→a ∈ l∧b ∈ l
 | x :: y :: l,a,b,h=>by
  rcases h with ⟨rfl,rfl⟩ | h
  ·simp
  ·have:=h.mem
   exact ⟨Yy _ this.1,Yy _ this.2⟩
theorem ZhD {l:List Int} {x y:Int} : Zkm l x y ↔ ∃ j,j<l.length∧(if j=0 then x=0 else Nn l (j - 1)=x)∧Nn l j=y:=by
 unfold Zkm
 rw [Zdt]
 constructor
 ·rintro (⟨h1,h2⟩ | ⟨i,h1,h2,h3⟩)
  ·cases l with
   | nil=>cases h2
   | cons z l=>exact ⟨0,by simp,by rw [Ye rfl];exact h1,by rw [nth_eq XM];exact Ya6 h2⟩
  ·exact ⟨i+1,h1,by rw [Yb ow];exact h2,h3⟩
 ·rintro ⟨j,h1,h2,h3⟩
  cases j with
  | zero=>
   cases l with
   | nil=>cases h1
   | cons z l=>exact .inl ⟨by rw [Ye rfl] at h2;exact h2,by rw [nth_eq XM] at h3;exact Y8 some h3⟩
  | succ i=>exact .inr ⟨i,h1,by rw [Yb ow] at h2;exact h2,h3⟩
theorem Zkm.mem {l:List Int} {x y:Int} (h:Zkm l x y):y ∈ l:=by
 rcases h with ⟨_,h⟩ | h
 ·exact List.mem_of_head? h
 ·exact h.mem.2
theorem ZqF {l:List Int} (hn:l.Nodup) (h1:∀ z ∈ l,1≤z) {x y y':Int} (h:Zkm l x y) (k:Zkm l x y'):y=y':=by
 obtain ⟨i,hi,e1,e2⟩:=ZhD.1 h
 obtain ⟨j,hj,f1,f2⟩:=ZhD.1 k
 have hinj:∀ {a b:Nat},a<l.length→b<l.length→Nn l a=Nn l b→a=b:=fun {a b} ha hb e=>by
  rw [nth_eq ha,nth_eq hb] at e
  rcases YbG a b with h9 | h9 | h9
  ·exact absurd e (Y4.1 hn a b ha hb h9)
  ·exact h9
  ·exact absurd e.symm (Y4.1 hn b a hb ha h9)
 have:i=j:=by
  by_cases h0:i=0 <;> by_cases h2:j=0
  ·omega
  ·rw [Ye h0] at e1
   rw [Yb h2] at f1
   have:=h1 _ (nth_mem (q:=l) (k:=j - 1) ow)
   omega
  ·rw [Yb h0] at e1
   rw [Ye h2] at f1
   have:=h1 _ (nth_mem (q:=l) (k:=i - 1) ow)
   omega
  ·rw [Yb h0] at e1
   rw [Yb h2] at f1
   have:=hinj ow ow (e1.trans f1.symm)
   omega
 rw [← e2,← f2,this]
def OkV (g:Zl) (o:OpD):Prop:=o.tx=0 ∨ ∃ u,ZaM g.txs o.tx=some u∧u.done=true∧(wcnt u.ops o.key:Int)=o.nth
def RdS (g:Zl) (t:TxD) (o:OpD) (e:Zi):Prop:=o.tx≠t.id∧OkV g o∧((o.tx≠0∧e = ⟨o.tx,t.id,2,o.key⟩) ∨ ∃ y,Zkm (getO g.orders o.key) o.tx y∧y≠t.id∧e = ⟨t.id,y,3,o.key⟩)
def EdS (g:Zl) (e:Zi):Prop:=(e.kind=1∧Zeg (getO g.orders e.key) e.src e.dst) ∨ ∃ t ∈ g.txs,t.done=true ∧ ∃ o ∈ t.ops,o.read=true∧RdS g t o e
theorem Zf5 {g:Zl} (hg:ZA g) (k:Int):(getO g.orders k).Nodup ∧ ∀ z ∈ getO g.orders k,1≤z:=by
 obtain ⟨_,h2,h3,_,_,h6⟩:=ZbY.1 hg
 refine ⟨(h6 k).nodup_iff.2 (ZhX h2 k),fun z hz=>?_⟩
 obtain ⟨t,h4,h5,_⟩:=writers_mem.1 ((h6 k).mem_iff.1 hz)
 rw [← h5];exact ZqO (h3 t h4).1
theorem Zok {κ:Type} [DecidableEq κ] {k:κ} {v:Int} {A:List (κ×Int)} (hA:∀ z ∈ A,z.1=k→z.2=v) (hk:∃ z ∈ A,z.1=k):Zm5 A k=v:=by
 have key:∀ (A:List (κ×Int)) (x:Int),(∀ z ∈ A,z.1=k→z.2=v)→((∃ z ∈ A,z.1=k)∨x=v)→A.foldl (fun x z=>if k=z.1 then z.2 else x) x=v:=by
  intro A
  induction A with
  | nil=>rintro x _ (⟨z,hz,_⟩ | h);cases hz;exact h
  | cons z A ih=>
   intro x hA h
   rw [Yav]
   refine ih _ (fun z hz=>hA z (Yy _ hz)) ?_
   by_cases e:k=z.1
   ·rw [Ye e];exact .inr (hA z Yay e.symm)
   ·rw [Yb e]
    rcases h with ⟨y,hy,h⟩ | h
    ·rcases Ym.1 hy with rfl | hy
     ·exact absurd h.symm e
     ·exact .inl ⟨y,hy,h⟩
    ·exact .inr h
 exact key A 0 hA (.inl hk)
theorem Zi1 {κ:Type} [DecidableEq κ] {k:κ} {A:List (κ×Int)} (hA:∀ z ∈ A,z.1≠k):Zm5 A k=0:=by
 have key:∀ (A:List (κ×Int)) (x:Int),(∀ z ∈ A,z.1≠k)→A.foldl (fun x z=>if k=z.1 then z.2 else x) x=x:=by
  intro A
  induction A with
  | nil=>intro x _;rfl
  | cons z A ih=>
   intro x hA
   rw [Yav,Yb fun e=>hA z Yay e.symm]
   exact ih x fun y hy=>hA y (Yy _ hy)
 exact key A 0 hA
theorem Zwa {g:Zl} (hg:ZA g) {k x:Int} : (∀ y,Zkm (getO g.orders k) x y→nxI g k x=y)∧((¬ ∃ y,Zkm (getO g.orders k) x y)→nxI g k x=0):=by
 have hr:=(ZO hg).2
 have hm:∀ z ∈ nxA g.orders,z.1=(⟨k,x⟩:Zdn)→Zkm (getO g.orders k) x z.2:=fun z hz e=>by
  unfold nxA at hz
  obtain ⟨o,ho,hz⟩:=YaK.1 hz
  unfold nxO at hz
  obtain ⟨j,hj,rfl⟩:=YB.1 hz
  injection e with e1 e2
  rw [← e1,ZcO (Z7.1 hr) ho]
  refine ZhD.2 ⟨j,YaE.1 hj,?_,rfl⟩
  unfold atI at e2
  by_cases h0:j=0
  ·rw [Ye h0] at e2 ⊢;exact e2.symm
  ·rw [Yb h0] at e2 ⊢;exact e2
 have hin:∀ y,Zkm (getO g.orders k) x y → ∃ z ∈ nxA g.orders,z.1=(⟨k,x⟩:Zdn):=fun y h=>by
  have hne:getO g.orders k≠[]:=fun e=>by have:=h.mem;rw [e] at this;cases this
  have ho:=Zfc hne
  obtain ⟨j,h1,h2,h3⟩:=ZhD.1 h
  refine ⟨(⟨k,x⟩,y),?_,rfl⟩
  unfold nxA
  refine YaK.2 ⟨_,ho,?_⟩
  unfold nxO
  refine YB.2 ⟨j,YaE.2 h1,?_⟩
  dsimp only
  rw [h3]
  unfold atI
  by_cases h0:j=0
  ·rw [Ye h0] at h2 ⊢;rw [h2]
  ·rw [Yb h0] at h2 ⊢;rw [h2]
 obtain ⟨o1,o2⟩:=Zf5 hg k
 refine ⟨fun y h=>Zok (fun z hz e=>ZqF o1 o2 (hm z hz e) h) (hin y h),fun h=>Zi1 fun z hz e=>h ⟨_,hm z hz e⟩⟩
theorem Zs2 {g:Zl} (hg:ZA g) {id k n:Int} : (Zix g id=0∨¬ Zmp g id k=n) ↔ ¬ ∃ u,ZaM g.txs id=some u∧u.done=true∧(wcnt u.ops k:Int)=n:=by
 have hr:=(ZO hg).1
 by_cases h:∃ u,ZaM g.txs id=some u∧u.done=true
 ·obtain ⟨u,h1,h2⟩:=h
  obtain ⟨m1,m2⟩:=findT_mem h1
  have hd:Zix g id=1:=by
   unfold Zix Zc2
   refine Zok (fun z hz _=>?_) ⟨(u.id,1),YB.2 ⟨u,YK.2 ⟨m1,h2⟩,rfl⟩,m2⟩
   obtain ⟨t,_,rfl⟩:=YB.1 hz
   rfl
  have hl:Zmp g id k=(wcnt u.ops k:Int):=by
   unfold Zmp
   rw [← m2,ZqE hg m1 h2]
  rw [hd,hl,h1]
  simp [h2]
 ·have hd:Zix g id=0:=by
   unfold Zix Zc2
   refine Zi1 fun z hz e=>?_
   obtain ⟨t,ht,rfl⟩:=YB.1 hz
   obtain ⟨m1,m2⟩:=YK.1 ht
   exact h ⟨t,by rw [← e];exact Zbm hr m1,m2⟩
  rw [hd]
  simp only [true_or,true_iff]
  rintro ⟨u,h1,h2,_⟩
  exact h ⟨u,h1,h2⟩
theorem ZsR {g:Zl} (hg:ZA g) {t:TxD} {o:OpD} {e:Zi} : e ∈ rdO g t o ↔ RdS g t o e:=by
 unfold rdO RdS OkV
 have hno:Zss g t o=true ↔ ¬ (o.tx≠t.id∧(o.tx=0 ∨ ∃ u,ZaM g.txs o.tx=some u∧u.done=true∧(wcnt u.ops o.key:Int)=o.nth)):=by
  unfold Zss
  have:=Zs2 hg (id:=o.tx) (k:=o.key) (n:=o.nth)
  simp only [Yaq,Yw,Yl,Yae,Yr]
  rw [this]
  by_cases h1:o.tx=t.id <;> by_cases h2:o.tx=0 <;> simp [h1,h2]
  all_goals (try omega)
 obtain ⟨n1,n2⟩:=Zwa hg (k:=o.key) (x:=o.tx)
 by_cases hb:Zss g t o=true
 ·rw [Ye hb]
  have:=hno.1 hb
  constructor
  ·intro h;cases h
  ·rintro ⟨h1,h2,_⟩;exact absurd ⟨h1,h2⟩ this
 ·rw [Yb hb]
  have hok:o.tx≠t.id∧(o.tx=0 ∨ ∃ u,ZaM g.txs o.tx=some u∧u.done=true∧(wcnt u.ops o.key:Int)=o.nth):=Classical.not_not.1 fun h=>hb (hno.2 h)
  rw [YC]
  have Z:e ∈ rdB g t o ↔ ∃ y,Zkm (getO g.orders o.key) o.tx y∧y≠t.id∧e = ⟨t.id,y,3,o.key⟩:=by
   unfold rdB
   by_cases hx:∃ y,Zkm (getO g.orders o.key) o.tx y
   ·obtain ⟨y,hy⟩:=hx
    have e1:=n1 y hy
    have hy1:=(Zf5 hg o.key).2 y hy.mem
    rw [e1]
    by_cases h2:y=t.id
    ·rw [Yb (by simp [h2])]
     constructor
     ·intro h;cases h
     ·rintro ⟨y',h3,h4,_⟩
      have:=n1 y' h3
      rw [e1] at this
      exact absurd (this.symm.trans h2) h4
    ·rw [Ye ⟨ow,h2⟩,Yn]
     constructor
     ·intro h;exact ⟨y,hy,h2,h⟩
     ·rintro ⟨y',h3,_,h4⟩
      have:=n1 y' h3
      rw [e1] at this
      rw [this];exact h4
   ·rw [n2 hx,Yb XM]
    constructor
    ·intro h;cases h
    ·rintro ⟨y,h,_⟩;exact absurd ⟨y,h⟩ hx
  rw [Z]
  have hA:e ∈ rdA t o ↔ o.tx≠0∧e = ⟨o.tx,t.id,2,o.key⟩:=by
   unfold rdA
   split
   ·rename_i h;simp [h]
   ·rename_i h;simp [h]
  rw [hA]
  exact ⟨fun h=>⟨hok.1,hok.2,h⟩,fun h=>h.2.2⟩
abbrev PT1:Int→Bool:=fun _=>true
theorem ZuI {g:Zl} (hg:ZA g) {e:Zi} : e ∈ Zgq (wwC PT1 g) (rdC PT1 g) ↔ EdS g e:=by
 unfold Zgq wwC rdC EdS
 rw [Ye hg,Ye hg,YC]
 have hr:=(ZO hg).2
 refine or_congr ?_ ?_
 ·rw [YB]
  unfold wwA
  constructor
  ·rintro ⟨z,hz,rfl⟩
   obtain ⟨o,ho,hz⟩:=YaK.1 hz
   rw [Ye rfl] at hz
   unfold wwO at hz
   obtain ⟨i,hi,rfl⟩:=YB.1 hz
   have:=YaE.1 hi
   refine ⟨rfl,?_⟩
   dsimp only
   rw [ZcO (Z7.1 hr) ho,Zdt]
   exact ⟨i,ow,rfl,rfl⟩
  ·rintro ⟨h1,h2⟩
   have hne:getO g.orders e.key≠[]:=fun e9=>by rw [e9] at h2;cases h2
   have ho:=Zfc hne
   obtain ⟨i,h3,h4,h5⟩:=Zdt.1 h2
   refine ⟨(e,1),YaK.2 ⟨_,ho,?_⟩,rfl⟩
   rw [Ye rfl]
   unfold wwO
   refine YB.2 ⟨i,YaE.2 (by dsimp only;omega),?_⟩
   dsimp only
   rw [h4,h5]
   cases e;simp only at h1;subst h1;rfl
 ·unfold rdH
  rw [YaK]
  refine exists_congr fun t=>and_congr_right fun ht=>?_
  unfold rdT
  rw [YaK]
  constructor
  ·rintro ⟨o,ho,h⟩
   split at h
   ·rename_i hc
    simp only [Yw,and_true] at hc
    exact ⟨hc.1,o,ho,hc.2,(ZsR hg).1 h⟩
   ·cases h
  ·rintro ⟨h1,o,ho,h2,h3⟩
   exact ⟨o,ho,by rw [Ye (by simp [h1,h2])];exact (ZsR hg).2 h3⟩
structure ZwC (g x:Zl) (id:Int):Prop where
 rg:ZA g
 rx:ZA x
 tab:∀ i,ZaM x.txs i=if i=id then none else ZaM g.txs i
 ord:∀ k,getO x.orders k=Zhz (getO g.orders k) id
 free:∀ t ∈ g.txs,t.id≠id → ∀ o ∈ t.ops,o.read=true→o.tx≠id
section
variable {g x:Zl} {id:Int}
end
def ZgG (n:Nat) (x:List Int) (v:Value):HP:=.ex fun ws:List Int=>.and (Zed n ws x) (Zh3 v n ws)
def Zwm (n:Nat) (x:List Int):PV:=⟨fun u w y=>∃ ws,Zed n ws x∧(PV.ref [.int .i64 n,.sl ZuD ws]).p u w y,fun h ⟨ws,h1,h2⟩=>⟨ws,h1,PV.mono _ h h2⟩⟩
theorem ZcP {v:Value} {n:Nat} {x:List Int} {w:World} {f y:Ys} (h:(ZgG n x v).p w f y):∃ b,v = .pointer (some ⟨b,0,none⟩):=by
 obtain ⟨ws,_,h⟩:=h
 exact (Znj h).2
theorem Zro {v:Value} {n:Nat} {x:List Int} : Zs1 (ZgG n x v) v (Zwm n x):=by
 intro w f y y' h hle hf hb
 obtain ⟨ws,h1,h2⟩:=h
 refine ⟨ws,h1,?_⟩
 obtain ⟨wv,hI,f1,f2,e1,e2,e3,⟨b,vs,k1,k2,k3,k4⟩,f3,f4,e4,e5,e6,⟨xs,k5,k6,k7⟩,k8⟩:=h2
 refine ⟨b,0,vs.toList,k1,hf b ((e1 b).2 (.inl ((k3 b).2 rfl))),hb b ((e1 b).2 (.inl ((k3 b).2 rfl))),Zt.mk fun j u hj=>?_,?_⟩
 ·simp only [Yab]
  simp [World.cell?,k2]
  simpa using hj
 ·generalize vs.toList=us at k4
  match us,k4 with
  | [u1,u2],k4=>
   refine ⟨k4.1,⟨k4.2.1.1,?_⟩,tv⟩
   have e:u2=wv:=k4.2.1.2.1
   subst e
   obtain ⟨ad,cap,e8,h8,h9,h10⟩:=ZG k5
   refine ⟨ad,cap,e8,h8,h9,?_⟩
   rcases h10 with h10 | ⟨b',rfl,h11,h12⟩
   ·exact .inl (YM h10)
   ·have hb':f b':=(e1 b').2 (.inr ((e4 b').2 (.inl ((k7 b').2 h11))))
    exact .inr ⟨b',0,xs,rfl,hf b' hb',hb b' hb',h12,PVs.mono (Ev.less w hle) k6⟩
theorem Zq2 (n:Nat) (x:List Int) (i:Int):FnP prog 240 [Zwm n x,.int .i64 i] (.bool (decide (i ∈ x))):=fun w y vs hy hv=>by
 match vs,hv with
 | u :: us,hv=>
  obtain ⟨ws,h1,h2⟩:=hv.1
  rw [← h1.in i]
  exact Zst n ws h1.ok i w y (u :: us) hy ⟨h2,hv.2⟩
theorem Zly (b n:Nat) (x:List Int) (i:Int) (on:Bool):FnG prog 261 1 [.is (.pointer (some ⟨b,0,none⟩)),.int .i64 i,.bool on] [ZgG n x (.pointer (some ⟨b,0,none⟩))] .any (fun _=>[ZgG n (putL x n i on) (.pointer (some ⟨b,0,none⟩))]):=fun w F vs hw hle hv hp=>by
 obtain ⟨ws,h1,h2⟩:=hp 0 _ rfl
 refine (ZvO b n ws i on w F vs hw hle hv (fun i k hi=>by
  match i,hi with
  | 0,hi=>simp at hi;subst hi;exact h2)).mono ?_
 rintro e w' ⟨u,F',rfl,a1,a2,a3,a4,a5⟩
 refine ⟨u,F',rfl,a1,a2,a3,tv,fun j k hj=>?_⟩
 match j,hj with
 | 0,hj=>
  simp at hj;subst hj
  exact ⟨_,h1.set i on,a5 0 _ rfl⟩
theorem ZqX (m:Int):FnG prog 216 1 [.int .i64 m] [HP.star []] PV.ptr (fun v=>[ZgG (rowN m) [] v]):=fun w F vs hw hle hv hp=>by
 refine (Zvc m w F vs hw hle hv hp).mono ?_
 rintro e w' ⟨u,F',rfl,a1,a2,a3,a4,a5⟩
 refine ⟨u,F',rfl,a1,a2,a3,a4,fun i k hi=>?_⟩
 match i,hi with
 | 0,hi=>simp at hi;subst hi;exact ⟨_,Zed.zero m,a5 0 _ rfl⟩
def Zgl (x:Int):List PV:=[.int .i32 x]
def ZiT (p:Int×List Int):List PV:=[.int .i64 p.1,.sl Zq p.2]
def ZuT (cl:PV) (n:Nat) (s:Zbj) (v wv lv sv iv ov:Value):List RS:=[.pt (.val v) 310 [.pv cl,.pv (.is wv),.pv (.is lv),.pv (.is sv),.pv (.is iv),.pv (.int .i32 s.ck),.pv (.is ov)],.ob (.val wv) (Zz 21 1 Zgl s.wh),.ob (.val lv) (Zz 21 1 Zgl s.lo),RS.hp (stH sv n s.wait),RS.hp (ZgG n s.inn iv),.ob (.val ov) (Zz 3 1 Zq s.out)]
def Zch (cl:PV) (n:Nat) (s:Zbj) (v:Value):HP:=.ex fun wv:Value=>.ex fun lv:Value=>.ex fun sv:Value=>.ex fun iv:Value=>.ex fun ov:Value=>.star (ZuT cl n s v wv lv sv iv ov)
theorem Zse {x:Int} (h : -2147483648≤x∧x≤2147483647):IntKind.wrap .i32 x=x:=ZdW ⟨by simp [IntKind.min,IntKind.signed,IntKind.bits];omega,by simp [IntKind.max,IntKind.signed,IntKind.bits];omega⟩
theorem Zsq (b : Nat) (n : Nat) (adj : Int → List Int) (f : FuncId) (fn : Func) (cps : List PV) (hf : prog.funcs[f]? = some fn) (hb : fn.body.isSome = true) (hnn : (fn.name == "runtime.NumGoroutine") = false) (hw : ∀ u, 0 ≤ u ∧ u < (n : Int) → FnP prog f ([.int .i64 u] ++ cps) (.sl Zq (adj u))) (sd : Zbj) (x : Int) (hx1 : 0 ≤ x) (hx2 : x < n) (hn : n ≤ 4096) (hlw : sd.wh.length = n) (hll : sd.lo.length = n) (hck : 0 ≤ sd.ck ∧ sd.ck ≤ n) (hwt : sd.wait.length < n) : FnG prog 238 1 [.is (.pointer (some ⟨b, 0, none⟩)), .int .i64 x] [Zch (.clos f cps) n sd (.pointer (some ⟨b, 0, none⟩))] (.agg (ZiT (x, adj x))) (fun _ => [Zch (.clos f cps) n (Zbi n sd x) (.pointer (some ⟨b, 0, none⟩))]) := by
 refine FnG.mk func238 rfl ntmps238 rfl kr fun B F0 a w F Z hG G=>Ya ?_
 obtain ⟨wv,G⟩:=G.open_ex 1 rfl
 obtain ⟨lv,G⟩:=G.open_ex 1 rfl
 obtain ⟨sv,G⟩:=G.open_ex 1 rfl
 obtain ⟨iv,G⟩:=G.open_ex 1 rfl
 obtain ⟨ov,G⟩:=G.open_ex 1 rfl
 obtain ⟨F,G⟩:=G.peel 1 2 rfl rfl
 obtain ⟨F,G⟩:=G.peel 1 3 rfl rfl
 obtain ⟨F,G⟩:=G.peel 1 4 rfl rfl
 obtain ⟨F,G⟩:=G.peel 1 5 rfl rfl
 obtain ⟨F,G⟩:=G.peel 1 6 rfl rfl
 obtain ⟨F,G⟩:=G.peel 1 7 rfl rfl
 replace G:=G.turn 5 rfl (r':=.ob (.val sv) (fun v=>stH v n sd.wait)) (fun _ _ _ _ h=>h)
 obtain ⟨_,_,_,ho⟩:=G.obGet 5 rfl
 obtain ⟨sb,rfl⟩:=Zer ho
 clear ho
 replace G:=G.turn 6 rfl (r':=.ob (.val iv) (ZgG n sd.inn)) (fun _ _ _ _ h=>h)
 obtain ⟨_,_,_,ho⟩:=G.obGet 6 rfl
 obtain ⟨ib,rfl⟩:=ZcP ho
 clear ho
 replace G:=G.turn 5 rfl (r':=RS.hp (stH (.pointer (some ⟨sb,0,none⟩)) n sd.wait)) (fun _ _ _ _ h=>h)
 replace G:=G.turn 6 rfl (r':=RS.hp (ZgG n sd.inn (.pointer (some ⟨ib,0,none⟩)))) (fun _ _ _ _ h=>h)
 obtain ⟨F,G⟩:=G.nM KQ Q1
 refine rS G (qf (oH [.int .i64 0,.slice none 0 0] 101) trivial qz qZ) Z KU Q5 fun τ G=>?_
 try dsimp only [RS.sub,SF.sub,CF.sub,csub,Anc.sub,List.map,zCF,Zq,Zgl,ZiT] at G
 generalize τ 4=v4 at G
 refine Za (Ya (Zc G (qR rr (qf (o_nilCheck 2 .is XV) r1 r1 (qf (oF 5 2 .adr) r1 r1 (qa 2 r1 r1 (qp r1 (qf (o_nilCheck 2 .is XV) r1 r1 (qf (oF 5 2 .adr) r1 r1 (qf (ZZ 2 .adr .t one_int kr kr) r2 r1 qZ)))))))) Z KU Q5 rfl rfl fun a w F G=>?_))
 rw [Zse ow] at G
 refine Za (Ya (Zv G (qR rr (qf (o_nilCheck 2 .is XV) r1 r1 (qf (oF 1 2 .adr) r1 r1 (qa 2 r1 r1 (qR rr (qR rr (qf (o_nilCheck 2 .is XV) r1 r1 (qf (oF 2 2 .adr) r1 r1 (qa 2 r1 r1 (qR rr (qR rr (qf (o_nilCheck 2 .is XV) r1 r1 (qf (oF 5 2 .adr) r1 r1 (qa 2 r1 r1 (qR rr (qf (o_nilCheck 2 .is XV) r1 r1 (qf (oF 5 2 .adr) r1 r1 (qa 2 r1 r1 (qf (o_indexAddr_row (sz:=1) 3 (.mk Yb8 kr) .is .t ow ow XV) r2 r1 (qf (ZT (R:=Zgl) (sz:=1) (v:=(sd.ck+1)) 3 .t Wh ow .t rfl one_int kr) r2 r1 (qf (o_indexAddr_row (sz:=1) 4 (.mk Yb8 kr) .is .t ow ow XV) r2 r1 (qf (ZT (R:=Zgl) (sz:=1) (v:=(sd.ck+1)) 4 .t Wh ow .t rfl one_int kr) r2 r1 qZ)))))))))))))))))))))) Z KU Q5 rfl rfl fun a w F G=>?_))
 have G:=Xn
 try simp only [Yg] at G
 refine Za (Ya (rZ G (qR rr (qf (o_nilCheck 2 .is XV) r1 r1 (qf (oF 3 2 .adr) r1 r1 (qa 2 r1 r1 (qR rr (qf (o_callG1 5 (Zov sb n sd.wait x ⟨ow,ow⟩ ow) func260 rfl kr (Args.two .t .t)) r2 r1 qZ)))))) Z KU Q5 fun G=>Ya ?_))
 refine rZ G (qR rr (qf (o_nilCheck 2 .is XV) r1 r1 (qf (oF 4 2 .adr) r1 r1 (qa 2 r1 r1 (qR rr (qf (o_callG1 6 (Zly ib n sd.inn x true) func261 rfl kr (Args.three .t .t .cb)) r2 r1 qZ)))))) Z KU Q5 fun G=>Ya ?_
 refine rZ G (qR rr (qR rr (qf (o_nilCheck 2 .is XV) r1 r1 (qf (oF 0 2 .adr) r1 r1 (qa 2 r1 r1 (qR rr (qf (Zab .t (hw x ⟨hx1,hx2⟩) hf hb hnn (Args.one .t)) r2 qz (qf (oB [(0,.tmp 44),(1,.tmp 50)] [.int .i64 0,.slice none 0 0] [(0,1),(1,1)] (.one rfl .t one_int kr (.one rfl .t one_sl kr .nil))) r2 qz (qs 2 101 r2 r1 qZ))))))))) Z [4] Q5 fun G=>Yj ?_
 have G:=G.fresh 1 rfl
 obtain ⟨F,G⟩:=G.push 1 7 rfl rfl rfl kr
 obtain ⟨F,G⟩:=G.push 1 6 rfl rfl rfl kr
 obtain ⟨F,G⟩:=G.push 1 5 rfl rfl rfl kr
 obtain ⟨F,G⟩:=G.push 1 4 rfl rfl rfl kr
 obtain ⟨F,G⟩:=G.push 1 3 rfl rfl rfl kr
 obtain ⟨F,G⟩:=G.push 1 2 rfl rfl rfl kr
 have G:=G.turn 1 rfl (r':=RS.hp (Zch (.clos f cps) n (Zbi n sd x) (.pointer (some ⟨b,0,none⟩)))) (fun _ _ _ _ h=>⟨_,_,_,_,_,h⟩)
 refine ZL hG G rfl (.cl 101 true 2 rfl rfl .nil) (.one (.aggU rfl rfl)) rfl
theorem Zvh (l:List Int) (hl:l≠[]):FnP prog 263 [.sl Zq l] (.int .i64 (ZjN l)):=by
 refine FnP.mk func263 rfl ntmps263 rfl fun B a w F Z hfr G=>?_
 have hxl:=Sat.lenSl G (i:=0) rfl
 have hl0:0<l.length:=Ya0.2 hl
 refine Ya (rZ G (qI qZ) Z Q0 [0] fun G=>(Ya (Ya ?_)))
 refine rZ G (qR rr (qu YbY r1 (qf (Zbb .t qi) r1 qz qZ))) Z [7,2,0] [0] fun G=>?_
 refine Zb G rfl (fun hc0=>?_) (fun hc0=>?_)
 ·have:=Yd hc0;omega
 refine Yf (Za (Ya (Zc G (qR rr (qf (o_indexAddr_sl (sz:=1) (.mk YbY kr) Wh .t qi ow ow) r1 qz (qf (oR false 1 .t) r1 qz (qO rr qZ)))) Z KR [0] rfl rfl fun a w F G=>?_)))
 try simp only [Yg] at G
 try rw [show (0:Int).toNat=0 from rfl] at G
 refine Za (Ya (Ya (rZ G (qI qZ) Z QV [0] fun G=>Yi ?_)))
 replace G:=G.ent (i:=3) (s':=.pv (.int .i64 (ZjN (l.take 1)))) rfl (.int (ZrK hl))
 replace G:=G.ent (i:=4) (s':=.pv (.int .i64 ((1:Nat):Int))) rfl (.int rfl)
 refine Zk (σ:=Nat) [0,2] [0] (fun s=>[(3,.pv (.int .i64 (ZjN (l.take s)))),(4,.pv (.int .i64 (s:Int)))]) (fun s=>[]) (fun s=>1≤s∧s≤l.length) (fun s=>l.length - s) (1) G ⟨rfl,rfl,rfl,rfl,tv⟩ ⟨rfl,tv⟩ ⟨YF _,hl0⟩ ?_
 clear G;intro i a w F hC G
 have hC:=X4
 obtain ⟨F,G⟩:=G.nM QV [0]
 have G:=X3
 obtain ⟨hi1,hi2⟩:=hC
 refine Ya (Ya (rZ G (qR rr (qR rr (qu YbY r1 (qL r2)))) Z [15,4,3,2,0] [0] fun G=>?_))
 refine Zb G rfl (fun hc1=>?_) (fun hc1=>?_)
 ·have hil:i<l.length:=by have:=Yd hc1;omega
  refine Yf (Za (Ya (Yi (Zc G (qR rr (qR rr (qR rr (qy 1 YbY r2 (qf (oR false 1 .t) r1 qz (qf (o_min .t .t) r2 qz (qO rr qZ))))))) Z QV [0] rfl rfl fun a w F G=>?_))))
  try simp only [Yg] at G
  refine Ze (Za (rZ G (qR rr (qp r1 (qO rr qZ))) Z QV [0] fun G=>?_))
  replace G:=G.ent (i:=3) (s':=.pv (.int .i64 (ZjN (l.take (i+1))))) rfl (.int (ZpJ hi1 hil))
  replace G:=G.eI 4 i
  obtain ⟨F,G⟩:=G.nM [2,0,4,3] [0]
  exact ⟨(i+1),F,⟨ow,ow⟩,G,ow⟩
 have hil:i=l.length:=by have:=Yk hc1;omega
 refine Yz (Zg (Zg (Zm (Za (Ya (rZ G (qR rr (qO rr qZ)) Z [2] [0] fun G=>Yj ?_))))))
 refine Zo hfr G rfl rfl rfl (.int (by rw [hil,YE]))
theorem ZtJ (b:Nat) (cps:List PV) (f:FuncId) (n:Nat) (sd:Zbj) (x:Int) (hx:x ∈ sd.wait) (hrng:∀ u ∈ sd.wait,0≤u∧u<(n:Int)) (hn:n≤4096) (hlw:sd.wh.length=n) (hll:sd.lo.length=n) (hlo:sd.out.length=n) (hwl:sd.wait.length≤n):FnG prog 239 1 [.is (.pointer (some ⟨b,0,none⟩)),.int .i64 x] [Zch (.clos f cps) n sd (.pointer (some ⟨b,0,none⟩))] (.tup []) (fun _=>[Zch (.clos f cps) n (leaveD n sd x) (.pointer (some ⟨b,0,none⟩))]):=by
 refine FnG.mk func239 rfl ntmps239 rfl kr fun B F0 a w F Z hG G=>?_
 obtain ⟨hx1,hx2⟩:=hrng x hx
 refine Ya (Ya ?_)
 obtain ⟨wv,G⟩:=G.open_ex 1 rfl
 obtain ⟨lv,G⟩:=G.open_ex 1 rfl
 obtain ⟨sv,G⟩:=G.open_ex 1 rfl
 obtain ⟨iv,G⟩:=G.open_ex 1 rfl
 obtain ⟨ov,G⟩:=G.open_ex 1 rfl
 obtain ⟨F,G⟩:=G.peel 1 2 rfl rfl
 obtain ⟨F,G⟩:=G.peel 1 3 rfl rfl
 obtain ⟨F,G⟩:=G.peel 1 4 rfl rfl
 obtain ⟨F,G⟩:=G.peel 1 5 rfl rfl
 obtain ⟨F,G⟩:=G.peel 1 6 rfl rfl
 obtain ⟨F,G⟩:=G.peel 1 7 rfl rfl
 replace G:=G.turn 5 rfl (r':=.ob (.val sv) (fun v=>stH v n sd.wait)) (fun _ _ _ _ h=>h)
 obtain ⟨_,_,_,ho⟩:=G.obGet 5 rfl
 obtain ⟨sb,rfl⟩:=Zer ho
 clear ho
 replace G:=G.turn 6 rfl (r':=.ob (.val iv) (ZgG n sd.inn)) (fun _ _ _ _ h=>h)
 obtain ⟨_,_,_,ho⟩:=G.obGet 6 rfl
 obtain ⟨ib,rfl⟩:=ZcP ho
 clear ho
 replace G:=G.turn 5 rfl (r':=RS.hp (stH (.pointer (some ⟨sb,0,none⟩)) n sd.wait)) (fun _ _ _ _ h=>h)
 replace G:=G.turn 6 rfl (r':=RS.hp (ZgG n sd.inn (.pointer (some ⟨ib,0,none⟩)))) (fun _ _ _ _ h=>h)
 obtain ⟨F,G⟩:=G.nM KQ Q1
 refine Zv G (qR rr (qf (o_nilCheck 2 .is XV) r1 r1 (qf (oF 2 2 .adr) r1 r1 (qa 2 r1 r1 (qR rr (qf (o_indexAddr_row (sz:=1) 4 (.mk Yb8 kr) .is .t ow ow XV) r2 r1 (qf (Zx (ag:=false) (sz':=1) (sz:=1) 4 .t Wh ow kr kr kr) r1 r1 (qR rr (qf (o_nilCheck 2 .is XV) r1 r1 (qf (oF 1 2 .adr) r1 r1 (qa 2 r1 r1 (qR rr (qf (o_indexAddr_row (sz:=1) 3 (.mk Yb8 kr) .is .t ow ow XV) r2 r1 (qf (Zx (ag:=false) (sz':=1) (sz:=1) 3 .t Wh ow kr kr kr) r1 r1 (qf (o_neq .t .t) r2 qz qZ))))))))))))))) Z [24,1,0] Q1 rfl rfl fun a w F G=>?_
 have G:=XG
 try simp only [Yg] at G
 refine Za (Zb G rfl (fun hc0=>?_) (fun hc0=>?_))
 ·have hg:leaveD n sd x=sd:=by unfold leaveD;rw [Yb];rw [Zcd hx1,Zcd hx1];simpa using hc0
  refine Yj (Zh ?_)
  have G:=G.fresh 1 rfl
  obtain ⟨F,G⟩:=G.push 1 7 rfl rfl rfl kr
  obtain ⟨F,G⟩:=G.push 1 6 rfl rfl rfl kr
  obtain ⟨F,G⟩:=G.push 1 5 rfl rfl rfl kr
  obtain ⟨F,G⟩:=G.push 1 4 rfl rfl rfl kr
  obtain ⟨F,G⟩:=G.push 1 3 rfl rfl rfl kr
  obtain ⟨F,G⟩:=G.push 1 2 rfl rfl rfl kr
  have G:=G.turn 1 rfl (r':=RS.hp (Zch (.clos f cps) n sd (.pointer (some ⟨b,0,none⟩)))) (fun _ _ _ _ h=>⟨_,_,_,_,_,h⟩)
  rw [hg]
  refine ZL hG G rfl .nil .none rfl
 have hg:leaveD n sd x=ZnX n sd x (ZjN (partL sd.wait x)):=by unfold leaveD;rw [Ye];rw [Zcd hx1,Zcd hx1];simpa using hc0
 refine Yf (Za (Ya (rZ G (qC qZ) Z KU Q1 fun G=>(Ya (Yi ?_)))))
 replace G:=G.fresh 50 rfl
 replace G:=G.turn 50 rfl (Za6 (T:=3) (sz:=1) (R:=Zq))
 replace G:=G.turn 5 rfl (r':=RS.hp (stH (.pointer (some ⟨sb,0,none⟩)) n (sd.wait.take (sd.wait.length - 0)))) (by rw [YbR,YE];exact fun _ _ _ _ h=>h)
 refine Zk (σ:=Nat×Value×List Int) [0,1] [0,2,3,4,7] (fun s=>[(4,.pv (.is s.2.1))]) (fun s=>[(5,RS.hp (stH (.pointer (some ⟨sb,0,none⟩)) n (sd.wait.take (sd.wait.length - s.1)))),(6,RS.hp (ZgG n (innL n s.2.2 sd.inn) (.pointer (some ⟨ib,0,none⟩)))),(50,.ob (.val s.2.1) (Zz 3 1 Zq s.2.2))]) (fun s=>s.1<sd.wait.length∧s.2.2=sd.wait.reverse.take s.1∧x ∉ s.2.2) (fun s=>sd.wait.length - s.1) ((0),(.slice none 0 0),([])) G ⟨rfl,rfl,rfl,tv⟩ ⟨rfl,rfl,rfl,rfl,rfl,rfl,rfl,rfl,tv⟩ ⟨List.length_pos_of_mem hx,rfl,by simp⟩ ?_
 clear G;intro s a w F hC G
 obtain ⟨k,v4,out⟩:=s
 have hC:=X4
 obtain ⟨F,G⟩:=G.nM KU QC
 have G:=X3
 obtain ⟨hk,hq,hxo⟩:=hC
 have hol:out.length≤k:=by rw [hq,Yp];omega
 rw [(ZlP hk).2] at G
 have hyr:=hrng _ (nth_mem (show sd.wait.length - (k+1)<sd.wait.length by omega))
 refine Yi (Ya (rZ G (qR rr (qf (o_nilCheck 2 .is XV) r1 r1 (qf (oF 3 2 .adr) r1 r1 (qa 2 r1 r1 (qf (o_callG1 5 (Zs9 sb n (sd.wait.take (sd.wait.length - (k+1))) (Nn sd.wait (sd.wait.length - (k+1))) Wm) func262 rfl kr (Args.one .t)) r1 r1 (qR rr (qf (Zs .t rfl) r1 qz (qf (Zs .t rfl) r1 qz (qO rr (qO rr qZ)))))))))) Z QG QC fun G=>(Ya (Ya ?_))))
 refine rZ G (qR rr (qf (o_not .t) r1 qz qZ)) Z [34,5,4,1,0] QC fun G=>?_
 refine Zb G rfl (fun hc1=>?_) (fun hc1=>?_)
 ·simp at hc1
 refine Yf (Za (Ya (Zc G (qR rr (qf (o_nilCheck 2 .is XV) r1 r1 (qf (oF 4 2 .adr) r1 r1 (qa 2 r1 r1 (qR rr (qf (o_callG1 6 (Zly ib n (innL n out sd.inn) (Nn sd.wait (sd.wait.length - (k+1))) false) func261 rfl kr (Args.three .t .t .cb)) r2 r1 qZ)))))) Z Qh QC rfl rfl fun a w F G=>?_)))
 rw [Zne] at G
 refine Za (Ya (rS G (qR rr (qR rr (qf (Zj (sz:=1) (zs:=[.int .i64 0]) (r:=[(0,.tmp 42)]) (l:=[_]) YbY kr kr kr kr rfl rfl (.one rfl .t one_int kr .nil) rfl) r1 qz (qf (o_append (sz:=1) (bs:=8) 50 (.mk' YbY kr kr) Wh .is (.arr (l':=[(Nn sd.wait (sd.wait.length - (k+1)))]) .t) Wy XW) ⟨rfl,rfl,tv⟩ ⟨rfl,tv⟩ (qO rr qZ))))) Z Qh QC fun τ G=>?_))
 have G:=Xj
 generalize τ 44=v44 at G
 refine Za (Ya (rZ G (qR rr (qR rr (qf (o_eql .t .t) r2 qz qZ))) Z [47,4,1,0] QC fun G=>?_))
 refine Zb G rfl (fun hc2=>?_) (fun hc2=>?_)
 ·have hyx:(Nn sd.wait (sd.wait.length - (k+1)))=x:=WA
  obtain ⟨hp1,hp2⟩:=Zti hk (by rw [← hq];exact hxo) hyx
  rw [hyx] at G
  subst hq
  rw [hp1,hp2] at G
  have hpl:(partL sd.wait x).length≤4096:=by rw [← hp1,Yc,Yp,List.length_reverse,YZ];omega
  refine Yz (ZtV XW ?_)
  refine Zg (Zm (Za (Ya ?_)))
  obtain ⟨F,G⟩:=G.give 50 4 rfl rfl
  obtain ⟨F,G⟩:=G.nM [47,4,1,0] Q1
  refine rZ G (qR rr (qf (oP (Zvh (partL sd.wait x) (Zhk _ _)) func263 (Args.one .t)) r1 qz (qO rr qZ))) Z [7,4,0] Q1 fun G=>Ya ?_
  refine rZ G (qR rr (qu YbY r1 (qJ qZ))) Z Jy Q1 fun G=>Yi ?_
  refine Zk (σ:=(Nat)) [0,7,50,51] [0,2,3,4,5,6] (fun s=>[(52,.pv (.int .i64 (s:Int)))]) (fun s=>[(7,.ob (.val ov) (Zz 3 1 Zq (outL ((partL sd.wait x).take s) (ZjN (partL sd.wait x)) sd.out)))]) (fun s=>s≤(partL sd.wait x).length∧(True)) (fun s=>(partL sd.wait x).length - s) (0) G ⟨rfl,rfl,rfl,rfl,rfl,tv⟩ ⟨rfl,rfl,rfl,rfl,rfl,rfl,rfl,tv⟩ ⟨YA _,tv⟩ ?_
  clear G;intro i a w F hC G
  have hC:=X4
  obtain ⟨F,G⟩:=G.nM Jy Q1
  have G:=X3
  obtain ⟨hi,hq⟩:=hC
  refine Ya (rZ G (qL r2) Z [53,52,51,50,7,0] Q1 fun G=>Ya ?_)
  refine Zb G rfl (fun hc3=>?_) (fun hc3=>?_)
  ·have hil:i<(partL sd.wait x).length:=Kb
   have hyr2:=hrng _ (Zr8 hx (nth_mem hil))
   have hol2:(outL ((partL sd.wait x).take i) (ZjN (partL sd.wait x)) sd.out).length=n:=by rw [Zh7];exact hlo
   refine Yf (Za (Ya (Yi (Ya (Zc G (qy 1 YbY r2 (qf (oR false 1 .t) r1 qz (qO rr qZ))) Z [52,51,50,9,7,0] Q1 rfl rfl fun a w F G=>?_)))))
   try simp only [Yg] at G
   refine Za (Zc G (qR rr (qf (o_nilCheck 2 .is XV) r1 r1 (qf (oF 6 2 .adr) r1 r1 (qa 2 r1 r1 (qR rr (qR rr (qf (o_indexAddr_row (sz:=1) 7 (.mk YbY kr) .is .t ow ow XV) r2 r1 (qf (ZT (R:=Zq) (sz:=1) (v:=(ZjN (partL sd.wait x))) 7 .t Wh ow .t rfl one_int kr) r2 r1 qZ)))))))) Z Jy Q1 rfl rfl fun a w F G=>?_)
   try simp only [Yg] at G
   refine Ze (Za (rZ G (qp r1 (qR rr qZ)) Z Jy Q1 fun G=>?_))
   rw [Zo8 hil] at G
   replace G:=G.eI 52 i
   obtain ⟨F,G⟩:=G.nM [51,50,7,0,52] [6,5,4,3,2,0,7]
   exact ⟨(i+1),F,⟨ow,tv⟩,G,ow⟩
  have hil:i=(partL sd.wait x).length:=Kb
  refine Yz (Zg (Zg (Zm ?_)))
  rw [hil,YE] at G
  have G:=G.fresh 1 rfl
  obtain ⟨F,G⟩:=G.push 1 7 rfl rfl rfl kr
  obtain ⟨F,G⟩:=G.push 1 6 rfl rfl rfl kr
  obtain ⟨F,G⟩:=G.push 1 5 rfl rfl rfl kr
  obtain ⟨F,G⟩:=G.push 1 4 rfl rfl rfl kr
  obtain ⟨F,G⟩:=G.push 1 3 rfl rfl rfl kr
  obtain ⟨F,G⟩:=G.push 1 2 rfl rfl rfl kr
  have G:=G.turn 1 rfl (r':=RS.hp (Zch (.clos f cps) n (ZnX n sd x (ZjN (partL sd.wait x))) (.pointer (some ⟨b,0,none⟩)))) (fun _ _ _ _ h=>⟨_,_,_,_,_,h⟩)
  rw [hg]
  refine ZL hG G rfl .nil .none rfl
 have hyx:¬ (Nn sd.wait (sd.wait.length - (k+1)))=x:=WA
 refine Yf (Ze (Za ?_))
 have hno:x ∉ out ++ [(Nn sd.wait (sd.wait.length - (k+1)))]:=by rw [YC,Yn];exact fun h9=>h9.elim hxo fun h8=>hyx h8.symm
 have hq2:out ++ [(Nn sd.wait (sd.wait.length - (k+1)))] = sd.wait.reverse.take (k+1):=by rw [hq];exact (ZlP hk).1
 obtain ⟨F,G⟩:=G.nM [1,0,4] [7,4,3,2,0,50,6,5]
 exact ⟨((k+1),_,_),F,⟨ZnP hx (by rw [← hq2];exact hno),hq2,hno⟩,G,ow⟩
theorem TI.adjLe {n:Nat} {adj:Int→List Int} {q:Zbj} {way:Zmk} (h:TI n adj q way) {r:Int×List Int} (hr:r ∈ way):∀ y ∈ r.2,y ∈ adj r.1:=h.tj.sub r (Yap.2 hr)
theorem Zvr (b : Nat) (n : Nat) (adj : Int → List Int) (f : FuncId) (fn : Func) (cps : List PV) (hf : prog.funcs[f]? = some fn) (hb : fn.body.isSome = true) (hnn : (fn.name == "runtime.NumGoroutine") = false) (hw : ∀ u, 0 ≤ u ∧ u < (n : Int) → FnP prog f ([.int .i64 u] ++ cps) (.sl Zq (adj u))) (hadj : ∀ u y, y ∈ adj u → 0 ≤ y ∧ y < (n : Int)) (hal : ∀ u, (adj u).length ≤ 4096) (sd : Zbj) (x : Int) (hx1 : 0 ≤ x) (hx2 : x < n) (hn : n ≤ 4096) (hI : TI n adj sd []) (h0 : fI sd.wh x = 0) : FnG prog 217 1 [.is (.pointer (some ⟨b, 0, none⟩)), .int .i64 x] [Zch (.clos f cps) n sd (.pointer (some ⟨b, 0, none⟩))] (.tup []) (fun _ => [.ex fun t : Zbj => .and (TI n adj t [] ∧ fI t.wh x ≠ 0 ∧ ∀ y, fI sd.wh y ≠ 0 → fI t.wh y ≠ 0) (Zch (.clos f cps) n t (.pointer (some ⟨b, 0, none⟩)))]) := by
 refine FnG.mk func217 rfl ntmps217 rfl kr fun B F0 a w F Z hG G=>Ya ?_
 refine rS G (qR rr (qR rr (qf (o_callG1 1 (Zsq b n adj f fn cps hf hb hnn hw sd x hx1 hx2 hn hI.lw hI.ll hI.ckLe (hI.waitLt ⟨hx1,hx2⟩ h0)) func238 rfl kr (Args.two .t .t)) r2 r1 (qf (Zb2 (R:=ZiT) (l:=[(x,adj x)]) (sz:=2) (zs:=[.int .i64 0,.slice none 0 0]) (r:=[(0,.tmp 11)]) 101 Yca kr kr kr kr rfl rfl (.agg rfl (.conv .t .agg) kr kr .nil) rfl rfl Wh) r1 qz (qO rr qZ))))) Z G6 KS fun τ G=>?_
 have G:=Xj
 generalize τ 12=v12 at G
 refine Za (Yi (Zk (σ:=Zbj×Zmk×Value) [0] [0] (fun s=>[(4,.pv (.is s.2.2))]) (fun s=>[(1,RS.hp (Zch (.clos f cps) n s.1 (.pointer (some ⟨b,0,none⟩)))),(101,.ob (.val s.2.2) (Zz 339 2 ZiT s.2.1))]) (fun s=>FrI n adj sd.wh x s.1 s.2.1) (fun s=>muF n adj s.1 s.2.1) ((Zbi n sd x),([(x,adj x)]),(v12)) G ⟨rfl,rfl,tv⟩ ⟨rfl,rfl,rfl,tv⟩ (FrI.start ⟨hx1,hx2⟩ hI h0) ?_))
 clear G;intro s a w F hC G
 obtain ⟨q,way,wv2⟩:=s
 have hC:=X4
 obtain ⟨F,G⟩:=G.nM G6 KS
 have G:=X3
 have hFr:FrI n adj sd.wh x q way:=hC
 refine Ya (Ya (rZ G (qR rr (qf (ZN 101 Yca .is) r1 r1 (qf (Zad .t qi) r1 qz qZ))) Z [15,4,0] KS fun G=>?_))
 refine Zb G rfl (fun hc0=>?_) (fun hc0=>?_)
 ·skip
  obtain ⟨wy,⟨vd,nx⟩,rfl⟩:=ZpY (l:=way) (by intro e;subst e;simp at hc0)
  have hI2:=hFr.1
  have hvn:=hI2.nodes (vd,nx) XM
  have hwl:=hI2.wayLen
  rw [Yc,YZ] at hwl
  have hw1:IntKind.wrap .i64 (((wy ++ [(vd,nx)]).length:Int) - 1)=((wy.length:Nat):Int):=Kp
  refine Yf (Za (Yi (Ya (Zc G (qR rr (qR rr (qf (ZN 101 Yca .is) r1 r1 (qf (o_sub .t qi) r1 qz (qf (o_indexAddr_row (sz:=2) 101 (.mk Yca kr) .is .t Wv WS XV) r2 r1 (qO rr qZ)))))) Z [5,4,0] KS rfl rfl fun a w F G=>?_))))
  try simp only [Yg] at G
  rw [hw1,Yg] at G
  refine Za (Ya (Ya (Zc G (qR rr (qf (o_nilCheck_row0 (sz:=2) 101 .t Wh XM) r1 r1 (qf (o_fieldAddr_row (off:=1) (sz:=2) 101 .t XM kr XV) r1 r1 (qf (Zay (ag:=false) (sz':=1) (sz:=2) 101 .t Wh XM kr kr kr) r1 r1 (qu YbY r1 (qf (o_eql .t qi) r1 qz qZ)))))) Z [26,5,4,0] KS rfl rfl fun a w F G=>?_)))
  rw [nth_last] at G
  have G:=X3
  refine Za (Zb G rfl (fun hc1=>?_) (fun hc1=>?_))
  ·skip
   have hnx:nx = []:=Wg
   subst hnx
   refine Ya (Zai 5 G kr (cG rfl (oM .t) r1 trivial (cG rfl (oM .t) r1 trivial (cG rfl (o_nilCheck_row0 (sz:=2) 101 .t Wh XM) r1 r1 (cG rfl (o_fieldAddr_row (off:=0) (sz:=2) 101 .t XM kr XV) r1 r1 (cG rfl (Zay (ag:=false) (sz':=1) (sz:=2) 101 .t Wh XM kr kr kr) r1 r1 ChainN.nil))))) kr WG fun a w F G=>?_)
   obtain ⟨F,G⟩:=G.nM [31,27,5,4,0] KS
   have G:=XG
   rw [nth_last] at G
   have G:=X3
   refine Zat G kr (cG rfl (o_callG1 1 (ZtJ b cps f n q vd hvn.1 hI2.rng hn hI2.lw hI2.ll hI2.lout hI2.waitLe) func239 rfl kr (Args.two .t .t)) r2 r1 ChainN.nil) kr WG fun a w F G=>?_
   obtain ⟨F,G⟩:=G.nM [5,4,0] KS
   try dsimp only [Zq,Zgl,ZiT] at G
   refine Za (Ya (Zc G (qR rr (qf (o_nilCheck_row0 (sz:=2) 101 .t Wh XM) r1 r1 (qf (o_fieldAddr_row (off:=0) (sz:=2) 101 .t XM kr XV) r1 r1 (qf (Zay (ag:=false) (sz':=1) (sz:=2) 101 .t Wh XM kr kr kr) r1 r1 (qO rr qZ))))) Z [6,5,4,0] KS rfl rfl fun a w F G=>?_))
   rw [nth_last] at G
   have G:=X3
   refine Za (Ya (rS G (qR rr (qR rr (qf (ZN 101 Yca .is) r1 r1 (qf (o_sub .t qi) r1 qz (qf (ZcH (sz:=2) 101 (.mk Yca kr) Wh .is .t Wv WS) r2 r1 (qO rr qZ)))))) Z [6,5,4,0] KS fun τ G=>?_))
   try dsimp only [RS.sub,SF.sub,CF.sub,csub,Anc.sub,List.map,Zq,Zgl,ZiT] at G
   generalize τ 41=v41 at G
   rw [hw1,Yg,List.take_left] at G
   refine Za (Ya (Ya (rZ G (qR rr (qf (ZN 101 Yca .is) r1 r1 (qf (Zad .t qi) r1 qz qZ))) Z [44,6,5,4,0] KS fun G=>?_)))
   refine Zb G rfl (fun hc2=>?_) (fun hc2=>?_)
   ·skip
    obtain ⟨wy2,⟨u,nu⟩,rfl⟩:=ZpY (l:=wy) (by intro e;subst e;simp at hc2)
    have hun:=hI2.nodes (u,nu) XM
    rw [Yc,YZ] at hwl
    have hw2:IntKind.wrap .i64 (((wy2 ++ [(u,nu)]).length:Int) - 1)=((wy2.length:Nat):Int):=Kp
    have hlo2:(leaveD n q vd).lo=q.lo:=(ZfY n q vd).2
    have hl2:(leaveD n q vd).lo.length=n:=by rw [hlo2];exact hI2.ll
    refine Ya (Zc G (qR rr (qR rr (qf (ZN 101 Yca .is) r1 r1 (qf (o_sub .t qi) r1 qz (qf (o_indexAddr_row (sz:=2) 101 (.mk Yca kr) .is .t (by rw [hw2];omega) (by rw [hw2,Yc,YZ];omega) XV) r2 r1 (qf (o_fieldAddr_row (off:=0) (sz:=2) 101 .t (by rw [hw2];simp) kr XV) r1 r1 (qf (Zay (ag:=false) (sz':=1) (sz:=2) 101 .t Wh (by rw [hw2];simp) kr kr kr) r1 r1 (qO rr qZ)))))))) Z [7,6,5,4,0] KS rfl rfl fun a w F G=>?_)
    try simp only [Yg] at G
    rw [hw2,Yg,nth_last] at G
    have G:=X3
    refine Za ?_
    obtain ⟨wv,G⟩:=G.open_ex 1 rfl
    obtain ⟨lv,G⟩:=G.open_ex 1 rfl
    obtain ⟨sv,G⟩:=G.open_ex 1 rfl
    obtain ⟨iv,G⟩:=G.open_ex 1 rfl
    obtain ⟨ov,G⟩:=G.open_ex 1 rfl
    obtain ⟨F,G⟩:=G.peel 1 2 rfl rfl
    obtain ⟨F,G⟩:=G.peel 1 3 rfl rfl
    obtain ⟨F,G⟩:=G.peel 1 4 rfl rfl
    obtain ⟨F,G⟩:=G.peel 1 5 rfl rfl
    obtain ⟨F,G⟩:=G.peel 1 6 rfl rfl
    obtain ⟨F,G⟩:=G.peel 1 7 rfl rfl
    replace G:=G.turn 5 rfl (r':=.ob (.val sv) (fun v=>stH v n (leaveD n q vd).wait)) (fun _ _ _ _ h=>h)
    obtain ⟨_,_,_,ho⟩:=G.obGet 5 rfl
    obtain ⟨sb,rfl⟩:=Zer ho
    clear ho
    replace G:=G.turn 6 rfl (r':=.ob (.val iv) (ZgG n (leaveD n q vd).inn)) (fun _ _ _ _ h=>h)
    obtain ⟨_,_,_,ho⟩:=G.obGet 6 rfl
    obtain ⟨ib,rfl⟩:=ZcP ho
    clear ho
    replace G:=G.turn 5 rfl (r':=RS.hp (stH (.pointer (some ⟨sb,0,none⟩)) n (leaveD n q vd).wait)) (fun _ _ _ _ h=>h)
    replace G:=G.turn 6 rfl (r':=RS.hp (ZgG n (leaveD n q vd).inn (.pointer (some ⟨ib,0,none⟩)))) (fun _ _ _ _ h=>h)
    obtain ⟨F,G⟩:=G.nM [7,6,5,4,0] Q5
    refine Zv G (qR rr (qf (o_nilCheck 2 .is XV) r1 r1 (qf (oF 2 2 .adr) r1 r1 (qa 2 r1 r1 (qR rr (qR rr (qf (o_nilCheck 2 .is XV) r1 r1 (qf (oF 2 2 .adr) r1 r1 (qa 2 r1 r1 (qR rr (qf (o_indexAddr_row (sz:=1) 4 (.mk Yb8 kr) .is .t ow ow XV) r2 r1 (qf (Zx (ag:=false) (sz':=1) (sz:=1) 4 .t Wh ow kr kr kr) r1 r1 (qR rr (qf (o_nilCheck 2 .is XV) r1 r1 (qf (oF 2 2 .adr) r1 r1 (qa 2 r1 r1 (qR rr (qf (o_indexAddr_row (sz:=1) 4 (.mk Yb8 kr) .is .t ow ow XV) r2 r1 (qf (Zx (ag:=false) (sz':=1) (sz:=1) 4 .t Wh ow kr kr kr) r1 r1 (qf (o_min .t .t) r2 qz (qf (o_indexAddr_row (sz:=1) 4 (.mk Yb8 kr) .is .t ow ow XV) r2 r1 (qf (ZT (R:=Zgl) (sz:=1) (v:=_) 4 .t Wh ow .t rfl one_int kr) r2 r1 qZ)))))))))))))))))))))) Z [5,4,0] Q5 rfl rfl fun a w F G=>?_
    have G:=Xn
    try simp only [Yg] at G
    rw [show (if Nn (leaveD n q vd).lo vd.toNat<Nn (leaveD n q vd).lo u.toNat then Nn (leaveD n q vd).lo vd.toNat else Nn (leaveD n q vd).lo u.toNat)=min (fI q.lo u) (fI q.lo vd) by rw [hlo2,ZsL,← Zcd hun.2.1,← Zcd hvn.2.1]] at G
    refine Za (Yz (Zg (Zm (Za ?_))))
    have G:=G.fresh 1 rfl
    obtain ⟨F,G⟩:=G.push 1 7 rfl rfl rfl kr
    obtain ⟨F,G⟩:=G.push 1 6 rfl rfl rfl kr
    obtain ⟨F,G⟩:=G.push 1 5 rfl rfl rfl kr
    obtain ⟨F,G⟩:=G.push 1 4 rfl rfl rfl kr
    obtain ⟨F,G⟩:=G.push 1 3 rfl rfl rfl kr
    obtain ⟨F,G⟩:=G.push 1 2 rfl rfl rfl kr
    have G:=G.turn 1 rfl (r':=RS.hp (Zch (.clos f cps) n ({ leaveD n q vd with lo:=(leaveD n q vd).lo.set u.toNat (min (fI q.lo u) (fI q.lo vd)) }) (.pointer (some ⟨b,0,none⟩)))) (fun _ _ _ _ h=>⟨_,_,_,_,_,h⟩)
    obtain ⟨hE1,hE2⟩:=hFr.left
    obtain ⟨F,G⟩:=G.nM [0,4] JU
    exact ⟨(({ leaveD n q vd with lo:=(leaveD n q vd).lo.set u.toNat (min (fI q.lo u) (fI q.lo vd)) }),(wy2 ++ [(u,nu)]),_),F,hE1,G,hE2⟩
   have hwe:wy = []:=by cases wy with | nil=>rfl | cons r l=>simp at hc2
   subst hwe
   refine Yf (Za (Yz (Zg (Zm (Za ?_)))))
   obtain ⟨hE1,hE2⟩:=FrI.root hFr
   obtain ⟨F,G⟩:=G.nM [0,4] JU
   exact ⟨((leaveD n q vd),([]),_),F,hE1,G,hE2⟩
  obtain ⟨y,nx,rfl⟩:∃ y l,nx=y :: l:=List.exists_cons_of_ne_nil (by intro e;subst e;simp at hc1)
  have hy:=hadj vd y (hI2.tj.sub (vd,y :: nx) XM y XM)
  have hnl:=hI2.adjLe (r:=(vd,y :: nx)) XM
  refine Yf (Za (Ya (Zc G (qR rr (qf (o_nilCheck_row0 (sz:=2) 101 .t Wh XM) r1 r1 (qf (o_fieldAddr_row (off:=1) (sz:=2) 101 .t XM kr XV) r1 r1 (qf (Zay (ag:=false) (sz':=1) (sz:=2) 101 .t Wh XM kr kr kr) r1 r1 (qf (o_indexAddr_sl (sz:=1) (.mk YbY kr) Wh .t qi ow (by rw [nth_last];simp)) r1 qz (qf (oR false 1 .t) r1 qz (qO rr qZ))))))) Z [8,5,4,0] KS rfl rfl fun a w F G=>?_)))
  try simp only [Yg] at G
  try rw [show (0:Int).toNat=0 from rfl] at G
  rw [nth_last] at G
  have G:=X3
  rw [Zrh] at G
  refine Za (Ya (Zai 6 G kr (cG rfl (oM .t) r1 trivial (cG rfl (oM .t) r1 trivial (cG rfl (o_nilCheck_row0 (sz:=2) 101 .t Wh XM) r1 r1 (cG rfl (o_fieldAddr_row (off:=1) (sz:=2) 101 .t XM kr XV) r1 r1 (cG rfl (Zay (ag:=false) (sz':=1) (sz:=2) 101 .t Wh XM kr kr kr) r1 r1 (cG rfl (o_slice_lo (sz:=1) (.mk YbY kr) Wh .t (.ci kr) ow (by rw [nth_last];simp;omega)) r1 trivial ChainN.nil)))))) kr WG fun a w F G=>?_))
  obtain ⟨F,G⟩:=G.nM [84,79,8,5,4,0] KS
  have G:=XG
  replace G:=G.ent (i:=84) (s':=.pv (.sl Zq nx)) rfl (.sl (by rw [nth_last];rfl))
  refine Zat G kr (cG rfl (o_nilCheck_row0 (sz:=2) 101 .t Wh XM) r1 r1 (cG rfl (o_fieldAddr_row (off:=1) (sz:=2) 101 .t XM kr XV) r1 r1 (cG rfl (Zik (R:=ZiT) (sz:=2) (off:=1) (v':=(vd,nx)) 101 .t Wh XM XW .t one_sl (by rw [nth_last];rfl) kr) r2 r1 ChainN.nil))) kr WG fun a w F G=>?_
  obtain ⟨F,G⟩:=G.nM [8,5,4,0] KS
  try dsimp only [List.map,Zd,xL,xM,Nat.reduceAdd,xD,xE,xT,xU,xC,xN,zCF,Zq,Zgl,ZiT] at G
  rw [ZrO] at G
  refine Za (Yi (Ya ?_))
  obtain ⟨wv,G⟩:=G.open_ex 1 rfl
  obtain ⟨lv,G⟩:=G.open_ex 1 rfl
  obtain ⟨sv,G⟩:=G.open_ex 1 rfl
  obtain ⟨iv,G⟩:=G.open_ex 1 rfl
  obtain ⟨ov,G⟩:=G.open_ex 1 rfl
  obtain ⟨F,G⟩:=G.peel 1 2 rfl rfl
  obtain ⟨F,G⟩:=G.peel 1 3 rfl rfl
  obtain ⟨F,G⟩:=G.peel 1 4 rfl rfl
  obtain ⟨F,G⟩:=G.peel 1 5 rfl rfl
  obtain ⟨F,G⟩:=G.peel 1 6 rfl rfl
  obtain ⟨F,G⟩:=G.peel 1 7 rfl rfl
  replace G:=G.turn 5 rfl (r':=.ob (.val sv) (fun v=>stH v n q.wait)) (fun _ _ _ _ h=>h)
  obtain ⟨_,_,_,ho⟩:=G.obGet 5 rfl
  obtain ⟨sb,rfl⟩:=Zer ho
  clear ho
  replace G:=G.turn 6 rfl (r':=.ob (.val iv) (ZgG n q.inn)) (fun _ _ _ _ h=>h)
  obtain ⟨_,_,_,ho⟩:=G.obGet 6 rfl
  obtain ⟨ib,rfl⟩:=ZcP ho
  clear ho
  replace G:=G.turn 5 rfl (r':=RS.hp (stH (.pointer (some ⟨sb,0,none⟩)) n q.wait)) (fun _ _ _ _ h=>h)
  replace G:=G.turn 6 rfl (r':=RS.hp (ZgG n q.inn (.pointer (some ⟨ib,0,none⟩)))) (fun _ _ _ _ h=>h)
  obtain ⟨F,G⟩:=G.nM [8,5,4,0] Q5
  refine Zc G (qR rr (qf (o_nilCheck 2 .is XV) r1 r1 (qf (oF 1 2 .adr) r1 r1 (qa 2 r1 r1 (qR rr (qf (o_indexAddr_row (sz:=1) 3 (.mk Yb8 kr) .is .t ow WU XV) r2 r1 (qf (Zx (ag:=false) (sz':=1) (sz:=1) 3 .t Wh WU kr kr kr) r1 r1 (qf (o_eql .t qi) r1 qz (qO rr qZ))))))))) Z [87,8,5,4,0] Q5 rfl rfl fun a w F G=>?_
  try simp only [Yg] at G
  refine Za (Zb G rfl (fun hc3=>?_) (fun hc3=>?_))
  ·skip
   have h00:fI q.wh y=0:=by rw [Zcd hy.1];simpa using hc3
   have G:=G.fresh 1 rfl
   obtain ⟨F,G⟩:=G.push 1 7 rfl rfl rfl kr
   obtain ⟨F,G⟩:=G.push 1 6 rfl rfl rfl kr
   obtain ⟨F,G⟩:=G.push 1 5 rfl rfl rfl kr
   obtain ⟨F,G⟩:=G.push 1 4 rfl rfl rfl kr
   obtain ⟨F,G⟩:=G.push 1 3 rfl rfl rfl kr
   obtain ⟨F,G⟩:=G.push 1 2 rfl rfl rfl kr
   have G:=G.turn 1 rfl (r':=RS.hp (Zch (.clos f cps) n q (.pointer (some ⟨b,0,none⟩)))) (fun _ _ _ _ h=>⟨_,_,_,_,_,h⟩)
   obtain ⟨F,G⟩:=G.nM [87,8,5,4,0] KS
   refine rS G (qR rr (qR rr (qR rr (qf (o_callG1 1 (Zsq b n adj f fn cps hf hb hnn hw q y hy.1 hy.2 hn hI2.lw hI2.ll hI2.ckLe (hI2.waitLt hy h00)) func238 rfl kr (Args.two .t .t)) r2 r1 (qf (Zj (sz:=2) (zs:=[.int .i64 0,.slice none 0 0]) (r:=[(0,.tmp 99)]) (l:=[_,_]) Yca kr kr kr kr rfl rfl (.agg rfl (.conv .t .agg) kr kr .nil) rfl) r1 qz (qf (o_append (sz:=2) (bs:=32) 101 (.mk' Yca kr kr) Wh .is (.arr (l':=[(y,adj y)]) .t) Wy XW) ⟨rfl,rfl,tv⟩ ⟨rfl,tv⟩ (qO rr qZ))))))) Z G6 KS fun τ G=>?_
   have G:=Xj
   generalize τ 101=v101 at G
   refine Ze (Ze (Za ?_))
   obtain ⟨hE1,hE2⟩:=hFr.meet hadj h00
   obtain ⟨F,G⟩:=G.nM [0,4] JU
   exact ⟨((Zbi n q y),(wy ++ [(vd,nx)] ++ [(y,adj y)]),_),F,hE1,G,hE2⟩
  have h00:fI q.wh y≠0:=by rw [Zcd hy.1];simpa using hc3
  refine Ya (rZ G (qR rr (qf (o_nilCheck 2 .is XV) r1 r1 (qf (oF 4 2 .adr) r1 r1 (qa 2 r1 r1 (qR rr (qf (OpC.lend 6 [106] Zro (oP (Zq2 n q.inn y) func240 (Args.two .t .t)) ⟨rfl,tv,tv⟩ (.pv (fun _ _ _ _ h=>h)) trivial XV) r2 r1 (qO rr qZ))))))) Z [102,8,5,4,0] Q5 fun G=>?_)
  refine Zb G rfl (fun hc4=>?_) (fun hc4=>?_)
  ·skip
   have hyq:y ∈ q.inn:=KL
   refine Zv G (qR rr (qf (o_nilCheck 2 .is XV) r1 r1 (qf (oF 2 2 .adr) r1 r1 (qa 2 r1 r1 (qR rr (qf (o_nilCheck_row0 (sz:=2) 101 .t Wh XM) r1 r1 (qf (o_fieldAddr_row (off:=0) (sz:=2) 101 .t XM kr XV) r1 r1 (qf (Zay (ag:=false) (sz':=1) (sz:=2) 101 .t Wh XM kr kr kr) r1 r1 (qR rr (qf (o_nilCheck 2 .is XV) r1 r1 (qf (oF 2 2 .adr) r1 r1 (qa 2 r1 r1 (qR rr (qf (o_nilCheck_row0 (sz:=2) 101 .t Wh XM) r1 r1 (qf (o_fieldAddr_row (off:=0) (sz:=2) 101 .t XM kr XV) r1 r1 (qf (Zay (ag:=false) (sz':=1) (sz:=2) 101 .t Wh XM kr kr kr) r1 r1 (qf (o_indexAddr_row (sz:=1) 4 (.mk Yb8 kr) .is .t (by rw [nth_last];exact hvn.2.1) (by rw [nth_last,hI2.ll];exact hvn.2.2) XV) r2 r1 (qf (Zx (ag:=false) (sz':=1) (sz:=1) 4 .t Wh (by rw [nth_last,hI2.ll];have:=hvn.2;omega) kr kr kr) r1 r1 (qR rr (qf (o_nilCheck 2 .is XV) r1 r1 (qf (oF 1 2 .adr) r1 r1 (qa 2 r1 r1 (qR rr (qf (o_indexAddr_row (sz:=1) 3 (.mk Yb8 kr) .is .t ow WU XV) r2 r1 (qf (Zx (ag:=false) (sz':=1) (sz:=1) 3 .t Wh WU kr kr kr) r1 r1 (qf (o_min .t .t) r2 qz (qf (o_indexAddr_row (sz:=1) 4 (.mk Yb8 kr) .is .t (by rw [nth_last];exact hvn.2.1) (by rw [nth_last,hI2.ll];exact hvn.2.2) XV) r2 r1 (qf (ZT (R:=Zgl) (sz:=1) (v:=_) 4 .t Wh (by rw [nth_last,hI2.ll];have:=hvn.2;omega) .t rfl one_int kr) r2 r1 qZ)))))))))))))))))))))))))))) Z G6 Q5 rfl rfl fun a w F G=>?_
   have G:=Xn
   try simp only [Yg] at G
   rw [nth_last] at G
   have G:=X3
   rw [show (if Nn q.wh y.toNat<Nn q.lo vd.toNat then Nn q.wh y.toNat else Nn q.lo vd.toNat)=min (fI q.lo vd) (fI q.wh y) by rw [ZsL,← Zcd hy.1,← Zcd hvn.2.1]] at G
   refine Ze (Ze (Za ?_))
   have G:=G.fresh 1 rfl
   obtain ⟨F,G⟩:=G.push 1 7 rfl rfl rfl kr
   obtain ⟨F,G⟩:=G.push 1 6 rfl rfl rfl kr
   obtain ⟨F,G⟩:=G.push 1 5 rfl rfl rfl kr
   obtain ⟨F,G⟩:=G.push 1 4 rfl rfl rfl kr
   obtain ⟨F,G⟩:=G.push 1 3 rfl rfl rfl kr
   obtain ⟨F,G⟩:=G.push 1 2 rfl rfl rfl kr
   have G:=G.turn 1 rfl (r':=RS.hp (Zch (.clos f cps) n ({ q with lo:=q.lo.set vd.toNat (min (fI q.lo vd) (fI q.wh y)) }) (.pointer (some ⟨b,0,none⟩)))) (fun _ _ _ _ h=>⟨_,_,_,_,_,h⟩)
   obtain ⟨hE1,hE2⟩:=hFr.wait hyq
   obtain ⟨F,G⟩:=G.nM [0,4] JU
   exact ⟨(({ q with lo:=q.lo.set vd.toNat (min (fI q.lo vd) (fI q.wh y)) }),(wy ++ [(vd,nx)]),_),F,hE1,G,hE2⟩
  have hyq:y ∉ q.inn:=KL
  refine Yf (Ze (Ze (Za ?_)))
  have G:=G.fresh 1 rfl
  obtain ⟨F,G⟩:=G.push 1 7 rfl rfl rfl kr
  obtain ⟨F,G⟩:=G.push 1 6 rfl rfl rfl kr
  obtain ⟨F,G⟩:=G.push 1 5 rfl rfl rfl kr
  obtain ⟨F,G⟩:=G.push 1 4 rfl rfl rfl kr
  obtain ⟨F,G⟩:=G.push 1 3 rfl rfl rfl kr
  obtain ⟨F,G⟩:=G.push 1 2 rfl rfl rfl kr
  have G:=G.turn 1 rfl (r':=RS.hp (Zch (.clos f cps) n q (.pointer (some ⟨b,0,none⟩)))) (fun _ _ _ _ h=>⟨_,_,_,_,_,h⟩)
  obtain ⟨hE1,hE2⟩:=hFr.past h00 hyq
  obtain ⟨F,G⟩:=G.nM [0,4] JU
  exact ⟨((q),(wy ++ [(vd,nx)]),_),F,hE1,G,hE2⟩
 have hwe:way = []:=by cases way with | nil=>rfl | cons r l=>simp at hc0
 subst hwe
 refine Yz (Zg (Zg (Zm ?_)))
 have G:=G.turn 1 rfl (r':=RS.hp (.ex fun t:Zbj=>.and (TI n adj t []∧fI t.wh x≠0 ∧ ∀ y,fI sd.wh y≠0→fI t.wh y≠0) (Zch (.clos f cps) n t (.pointer (some ⟨b,0,none⟩))))) (fun _ _ _ _ h=>⟨q,hFr,h⟩)
 refine ZL hG G rfl .nil .none rfl
def EQ_ (q:List Zny) (a b:Int):Prop:=(⟨a,b⟩:Zny) ∈ q
def ZaH (N:List Int) (x:Int):List Int:=if x ∈ N then N else N ++ [x]
def ZcV (N:List Int) (e:Zi):List Int:=ZaH (ZaH N e.src) e.dst
def ZB (l:List Zi):List Int:=l.foldl ZcV []
theorem Zry (N:List Int) (x:Int):x ∈ ZaH N x:=by
 unfold ZaH;split
 ·assumption
 ·simp
theorem Zjx {N:List Int} {x y:Int} : y ∈ ZaH N x ↔ y ∈ N∨y=x:=by
 unfold ZaH;split
 ·rename_i h
  exact ⟨.inl,fun h2=>h2.elim id fun e=>e ▸ h⟩
 ·simp
theorem nodeP_nodup {N:List Int} {x:Int} (h:N.Nodup):(ZaH N x).Nodup:=by
 unfold ZaH;split
 ·exact h
 ·rename_i hx
  exact List.nodup_append.2 ⟨h,by simp,fun a ha b hb e=>hx (by rw [Yn.1 hb] at e;exact e ▸ ha)⟩
theorem ZfI (N:List Int) (x:Int):N.length≤(ZaH N x).length∧(ZaH N x).length≤N.length+1:=by
 unfold ZaH;split
 ·omega
 ·simp
theorem ZeX {v:Int} {l m:List Int} (h:v ∈ l):Z2 v (l++m)=Z2 v l:=by
 induction l with
 | nil=>cases h
 | cons x l ih=>
  rw [Yao]
  by_cases hx:x=v
  ·rw [Z2,Ye hx,Z2,Ye hx]
  ·have hm:v ∈ l:=(Ym.1 h).resolve_left fun e=>hx e.symm
   rw [Z2,Yb hx,Z2,Yb hx,ih hm]
theorem Zlh {v:Int} {l:List Int} (h:v ∉ l):Z2 v (l ++ [v])=l.length:=by
 induction l with
 | nil=>simp [Z2]
 | cons x l ih=>
  have hx:x≠v:=fun e=>h (e ▸ Yay)
  have:=ih fun h2=>h (Yy _ h2)
  rw [Yao,Z2,Yb hx,this,Yb ow]
  simp
theorem ZnZ {N:List Int} {x y:Int} (h:y ∈ N):Z2 y (ZaH N x)=Z2 y N:=by
 unfold ZaH;split
 ·rfl
 ·exact ZeX h
theorem ZjI {N:List Int} {x:Int} (h:x ∈ N):0≤Z2 x N∧Z2 x N<N.length:=by
 obtain ⟨i,h1,h2,_⟩:=ZaA h
 omega
theorem Zh0 {N:List Int} {x y:Int} (hx:x ∈ N) (hy:y ∈ N) (h:Z2 x N=Z2 y N):x=y:=by
 obtain ⟨i,h1,h2,h3,_⟩:=ZaA hx
 obtain ⟨j,k1,k2,k3,_⟩:=ZaA hy
 have:i=j:=ow
 subst this
 rw [← h3,k3]
theorem ZpR {N:List Int} {e:Zi} {y:Int} : y ∈ ZcV N e ↔ y ∈ N∨y=e.src∨y=e.dst:=by
 unfold ZcV
 rw [Zjx,Zjx,or_assoc]
theorem Zb3:∀ {l:List Zi} {y:Int},y ∈ ZB l ↔ ∃ e ∈ l,y=e.src∨y=e.dst:=by
 have key:∀ (l:List Zi) (N:List Int) (y:Int),y ∈ l.foldl ZcV N ↔ y ∈ N ∨ ∃ e ∈ l,y=e.src∨y=e.dst:=by
  intro l
  induction l with
  | nil=>intro N y;simp
  | cons e l ih=>
   intro N y
   rw [Yav,ih,ZpR]
   simp [or_assoc]
 intro l y
 unfold ZB
 rw [key];simp
theorem Zjp (l:List Zi):(ZB l).Nodup:=by
 have key:∀ (l:List Zi) (N:List Int),N.Nodup→(l.foldl ZcV N).Nodup:=by
  intro l
  induction l with
  | nil=>intro N h;exact h
  | cons e l ih=>intro N h;exact ih _ (nodeP_nodup (nodeP_nodup h))
 exact key l [] .nil
theorem Zmd (l:List Zi):(ZB l).length≤2*l.length:=by
 have key:∀ (l:List Zi) (N:List Int),(l.foldl ZcV N).length≤N.length+2*l.length:=by
  intro l
  induction l with
  | nil=>intro N;simp
  | cons e l ih=>
   intro N
   have h1:=ih (ZcV N e)
   have h2:=(ZfI N e.src).2
   have h3:=(ZfI (ZaH N e.src) e.dst).2
   unfold ZcV at h1
   rw [Yav,Yh]
   unfold ZcV
   omega
 have:=key l []
 show (l.foldl ZcV []).length≤_
 simpa using this
def ZvJ (N:List Int) (e:Zi):Zny:=⟨Z2 e.src N,Z2 e.dst N⟩
def LE_ (l:List Zi) (a b:Int):Prop:=∃ e ∈ l,e.src=a∧e.dst=b
theorem Zoe {l:List Zi} {a b:Int} (ha:a ∈ ZB l) (hb:b ∈ ZB l):Rch (EQ_ (l.map (ZvJ (ZB l)))) (Z2 a (ZB l)) (Z2 b (ZB l)) ↔ Rch (LE_ l) a b:=by
 have hm:∀ {e:Zi},e ∈ l→e.src ∈ ZB l∧e.dst ∈ ZB l:=fun {e} he=>⟨Zb3.2 ⟨e,he,.inl rfl⟩,Zb3.2 ⟨e,he,.inr rfl⟩⟩
 constructor
 ·have key:∀ {y:Int},Rch (EQ_ (l.map (ZvJ (ZB l)))) (Z2 a (ZB l)) y → ∃ b,b ∈ ZB l∧y=Z2 b (ZB l)∧Rch (LE_ l) a b:=fun {y} h=>by
   induction h with
   | one k=>
    obtain ⟨e,he,e2⟩:=YB.1 k
    injection e2 with e3 e4
    refine ⟨e.dst,(hm he).2,e4.symm,.one ⟨e,he,?_,rfl⟩⟩
    exact Zh0 (hm he).1 ha e3
   | step _ k ih=>
    obtain ⟨c,hc,e1,h1⟩:=ih
    obtain ⟨e,he,e2⟩:=YB.1 k
    injection e2 with e3 e4
    refine ⟨e.dst,(hm he).2,e4.symm,.step h1 ⟨e,he,?_,rfl⟩⟩
    exact Zh0 (hm he).1 hc (e3.trans e1)
  intro h
  obtain ⟨c,hc,e,h1⟩:=key h
  rw [Zh0 hb hc e];exact h1
 ·intro h
  clear hb
  induction h with
  | one k=>
   obtain ⟨e,he,rfl,rfl⟩:=k
   exact .one (YB.2 ⟨e,he,rfl⟩)
  | step _ k ih=>
   obtain ⟨e,he,rfl,rfl⟩:=k
   exact .step ih (YB.2 ⟨e,he,rfl⟩)
structure Zga (es:List (ZbP Int)) (N:List Int):Prop where
 len:es.length=N.length
 get:∀ x,ZeP x es=if x ∈ N then some (Z2 x N) else none
def ZuF (N:List Int) (v:Value):HP:=.ex fun s:List (ZbP Int)×Nat=>.and (Zga s.1 N) (Zoa .i64 (fun _=>True) (fun n:Int=>Value.int .i64 n) s.1 s.2 v)
theorem Zga.nil:Zga [] []:=⟨rfl,fun x=>by simp [ZeP]⟩
theorem Zga.put {es:List (ZbP Int)} {ck:Nat} {N:List Int} {x:Int} (h:Zga es N) (hx:x ∉ N):Zga (mPut x (N.length:Int) (es,ck)).1 (N ++ [x]):=by
 have hg:ZeP x es=none:=by rw [h.get,Yb hx]
 have hi:(mIdx x es).isSome=false:=by rw [ZhL,hg];rfl
 refine ⟨?_,fun y=>?_⟩
 ·unfold mPut
  rw [hi]
  simp [h.len]
 ·rw [Zra]
  by_cases e:y=x
  ·subst e
   rw [Ye rfl,Ye XM,Zlh hx]
  ·rw [Yb e]
   show ZeP y es=_
   rw [h.get]
   by_cases hy:y ∈ N
   ·rw [Ye hy,Ye Wj,ZeX hy]
   ·rw [Yb hy,Yb (by simp [hy,e])]
theorem Zga.old {es:List (ZbP Int)} {N:List Int} {x:Int} (h:Zga es N) (hx:(ZeP x es).isSome=true):x ∈ N∧ZdU x es=Z2 x N:=by
 rw [h.get] at hx
 split at hx
 ·rename_i e
  exact ⟨e,by rw [Zlo,h.get,Ye e];rfl⟩
 ·cases hx
theorem Zga.new {es:List (ZbP Int)} {N:List Int} {x:Int} (h:Zga es N) (hx:(ZeP x es).isSome=false):x ∉ N:=fun e=>by
 rw [h.get,Ye e] at hx;cases hx
theorem Zda (P:Prop):∃ b:Bool,b=true ↔ P:=(Classical.em P).elim (fun h=>⟨true,by simp [h]⟩) fun h=>⟨false,by simp [h]⟩
def ZP (mask:Int) (e:Zi):Bool:=(decide (1≤e.kind) && decide (e.kind≤3)) && ofB mask e.kind
def ZkJ (must kind:Int):Bool:=decide (bits .and .i64 must 14=0) || ofB must kind
def ZjM (N:List Int) (e:Zi):ZV:=⟨Z2 e.src N,Z2 e.dst N,e.kind,0⟩
def Zdw (l:List Zi) (mask must:Int):Prop:=∃ e ∈ l.filter (ZP mask),ZkJ must e.kind=true∧(e.dst=e.src∨Rch (LE_ (l.filter (ZP mask))) e.dst e.src)
theorem Zqi {N M:List Int} {l:List Zi} (h:∀ e ∈ l,e.src ∈ N∧e.dst ∈ N):l.map (ZjM (N++M))=l.map (ZjM N):=by
 refine List.map_congr_left fun e he=>?_
 unfold ZjM
 rw [ZeX (h e he).1,ZeX (h e he).2]
theorem ZoP (N:List Int) (e:Zi):∃ M,ZcV N e=N++M:=by
 have one:∀ (N:List Int) (x:Int),∃ M,ZaH N x=N++M:=fun N x=>by
  unfold ZaH;split
  ·exact ⟨[],by simp⟩
  ·exact ⟨[x],rfl⟩
 obtain ⟨M1,h1⟩:=one N e.src
 obtain ⟨M2,h2⟩:=one (ZaH N e.src) e.dst
 exact ⟨M1++M2,by unfold ZcV;rw [h2,h1,Y1]⟩
theorem Zhu {l:List Zi} {e:Zi} (he:e ∈ l):e.src ∈ ZB l∧e.dst ∈ ZB l:=⟨Zb3.2 ⟨e,he,.inl rfl⟩,Zb3.2 ⟨e,he,.inr rfl⟩⟩
theorem Zow (l:List Zi) (e:Zi):(l ++ [e]).map (ZjM (ZB (l ++ [e])))=l.map (ZjM (ZB l)) ++ [⟨Z2 e.src (ZaH (ZB l) e.src),Z2 e.dst (ZcV (ZB l) e),e.kind,0⟩]:=by
 have e1:ZB (l ++ [e])=ZcV (ZB l) e:=by unfold ZB;rw [Ya2];rfl
 obtain ⟨M,hM⟩:=ZoP (ZB l) e
 rw [e1,Y3,List.map_singleton]
 congr 1
 ·rw [hM];exact Zqi fun x hx=>Zhu hx
 ·unfold ZjM
  have:Z2 e.src (ZcV (ZB l) e)=Z2 e.src (ZaH (ZB l) e.src):=by
   unfold ZcV
   exact ZnZ (Zry _ _)
  rw [this]
section
variable {l:List Zi} {n:Nat} {E:List ZV} {O I:List (List Zaj)} {L:List Int}
theorem Zb4 {mask:Int} {e:Zi} (he:e ∈ l.filter (ZP mask)) (hn:n=(ZB (l.filter (ZP mask))).length):ZaE n (ZjM (ZB (l.filter (ZP mask))) e)=true:=by
 obtain ⟨h1,h2⟩:=Zhu he
 obtain ⟨a1,a2⟩:=ZjI h1
 obtain ⟨b1,b2⟩:=ZjI h2
 have hk:=(YK.1 he).2
 unfold ZP at hk
 simp only [Yw,Yl] at hk
 exact Z0.2 ⟨⟨a1,by show Z2 _ _<_;omega⟩,⟨b1,by show Z2 _ _<_;omega⟩,hk.1,Yar _,by show (0:Int)≤_;decide⟩
theorem of14 {k:Int} (h:1≤k∧k≤3):ofB 14 k=true:=by
 have:k=1∨k=2∨k=3:=ow
 rcases this with rfl | rfl | rfl <;> decide
theorem ZjJ {mask:Int} (h:Zfj n E O I) (hn:n=(ZB (l.filter (ZP mask))).length) (hE:∀ x,x ∈ E ↔ x ∈ (l.filter (ZP mask)).map (ZjM (ZB (l.filter (ZP mask))))) (a b:Int) :
  EJ (Zgp O 14) a b ↔ EQ_ ((l.filter (ZP mask)).map (ZvJ (ZB (l.filter (ZP mask))))) a b:=by
 show b ∈ Zgp O 14 a ↔ _
 rw [(h.next 14 a).2]
 unfold EQ_
 rw [YB]
 constructor
 ·rintro ⟨x,hx,h1,_,h2⟩
  obtain ⟨e,he,rfl⟩:=YB.1 ((hE x).1 hx)
  exact ⟨e,he,by rw [← h1,← h2];rfl⟩
 ·rintro ⟨e,he,h1⟩
  injection h1 with h2 h3
  refine ⟨ZjM _ e,(hE _).2 (YB.2 ⟨e,he,rfl⟩),h2,?_,h3⟩
  exact of14 (Z0.1 (Zb4 he hn)).2.2.1
theorem Zr4 {mask must:Int} (h:Zfj n E O I) (hn:n=(ZB (l.filter (ZP mask))).length) (hE:∀ x,x ∈ E ↔ x ∈ (l.filter (ZP mask)).map (ZjM (ZB (l.filter (ZP mask))))) (hL:ZjV (Zgp O 14) n L) :
  (∃ x ∈ (l.filter (ZP mask)).map (ZjM (ZB (l.filter (ZP mask)))),Nn L x.src.toNat=Nn L x.dst.toNat∧ZkJ must x.kind=true) ↔ Zdw l mask must:=by
 have hr:∀ {a b:Int},Rch (EJ (Zgp O 14)) a b ↔ Rch (EQ_ ((l.filter (ZP mask)).map (ZvJ (ZB (l.filter (ZP mask)))))) a b:=fun {a b}=>⟨Rch.mono fun x y=>(ZjJ h hn hE x y).1,Rch.mono fun x y=>(ZjJ h hn hE x y).2⟩
 have one:∀ e ∈ l.filter (ZP mask),(Nn L (ZjM (ZB (l.filter (ZP mask))) e).src.toNat=Nn L (ZjM (ZB (l.filter (ZP mask))) e).dst.toNat ↔ (e.dst=e.src∨Rch (LE_ (l.filter (ZP mask))) e.dst e.src)):=fun e he=>by
  obtain ⟨s1,s2⟩:=(Z0.1 (Zb4 he hn)).1
  obtain ⟨d1,d2⟩:=(Z0.1 (Zb4 he hn)).2.1
  obtain ⟨m1,m2⟩:=Zhu he
  have k1:=hL.2 (ZjM (ZB (l.filter (ZP mask))) e).src.toNat ow
  have k2:=hL.2 (ZjM (ZB (l.filter (ZP mask))) e).dst.toNat ow
  rw [YaP s1] at k1
  rw [YaP d1] at k2
  rw [k1.same k2]
  show (Z2 e.dst _=Z2 e.src _∨(Rch _ (Z2 e.src _) (Z2 e.dst _)∧Rch _ (Z2 e.dst _) (Z2 e.src _))) ↔ _
  rw [hr,hr,Zoe m1 m2,Zoe m2 m1]
  constructor
  ·rintro (h9 | h9)
   ·exact .inl (Zh0 m2 m1 h9)
   ·exact .inr h9.2
  ·rintro (h9 | h9)
   ·exact .inl (by rw [h9])
   ·exact .inr ⟨.one ⟨e,he,rfl,rfl⟩,h9⟩
 constructor
 ·rintro ⟨x,hx,h1,h2⟩
  obtain ⟨e,he,rfl⟩:=YB.1 hx
  exact ⟨e,he,h2,(one e he).1 h1⟩
 ·rintro ⟨e,he,h1,h2⟩
  exact ⟨_,YB.2 ⟨e,he,rfl⟩,(one e he).2 h2,h1⟩
end
theorem ZsK (mv:Value) (N:List Int) (id:Int) (hN:N.length≤1000000):FnG prog 172 1 [.is mv,.int .i64 id] [ZuF N mv] (.int .i64 (Z2 id (ZaH N id))) (fun _=>[ZuF (ZaH N id) mv]):=by
 refine FnG.mk func172 rfl ntmps172 rfl kr fun B F0 a w F Z hG G=>Ya ?_
 refine rZ G (qI qZ) Z KU KQ fun G=>Ya ?_
 obtain ⟨⟨es,ck⟩,G⟩:=G.open_ex 1 rfl
 obtain ⟨hk,G⟩:=G.open_and 1 rfl
 replace G:=G.turn 1 rfl (r':=.ob (.val mv) (Zoa .i64 (fun _=>True) (fun n:Int=>Value.int .i64 n) es ck)) (fun _ _ _ _ h=>h)
 dsimp only at hk
 obtain ⟨F,G⟩:=G.nM KU KQ
 refine rZ G (qR rr (qR rr (qf (ZmE 1 underlying258 (Znr Yb1) kr .is (Zw.int .t rfl)) r2 r1 (qR rr (qf (Zs .t rfl) r1 qz (qf (Zs .t rfl) r1 qz (qO rr (qO rr qZ)))))))) Z QG KQ fun G=>(Ya (Ya ?_))
 refine rZ G (qR rr (qf (o_not .t) r1 qz qZ)) Z [14,5,4,1,0] KQ fun G=>?_
 refine Zb G rfl (fun hc0=>?_) (fun hc0=>?_)
 ·have hid:id ∉ N:=hk.new WV
  have hg:ZaH N id=N ++ [id]:=Yb hid
  have hgi:(N.length:Int)=Z2 id (N ++ [id]):=(Zlh hid).symm
  refine Ya (Zc G (qR rr (qf (Zf1 1 underlying258 .is (by rw [hk.len];omega)) r1 r1 (qO rr qZ))) Z Qh KQ rfl rfl fun a w F G=>?_)
  rw [hk.len] at G
  refine Za (rZ G (qR rr (qR rr (qR rr (qf (Zkk 1 underlying258 (Znr Yb1) .is (Zw.int .t rfl) .t) r3 r1 qZ)))) Z [5,4] KQ fun G=>Ya ?_)
  refine rZ G (qR rr (qO rr qZ)) Z [4] KQ fun G=>Yj ?_
  have G:=G.turn 1 rfl (r':=RS.hp (ZuF (N ++ [id]) mv)) (fun _ _ _ _ h=>⟨mPut id (N.length:Int) (es,ck),hk.put hid,h⟩)
  rw [hg]
  refine ZL hG G rfl (.tmp rfl .nil) (.one (.int hgi)) rfl
 obtain ⟨hid,hgv⟩:=hk.old WV
 have hg:ZaH N id=N:=Ye hid
 have hgi:ZdU id es=Z2 id N:=hgv
 refine Yf (Za (Ya (rZ G (qR rr (qO rr qZ)) Z [4] KQ fun G=>Yj ?_)))
 have G:=G.turn 1 rfl (r':=RS.hp (ZuF N mv)) (fun _ _ _ _ h=>⟨(es,ck),hk,h⟩)
 rw [hg]
 refine ZL hG G rfl (.tmp rfl .nil) (.one (.int hgi)) rfl
theorem ZtM {l:List PV} : ∀ v w yy,(PV.ref l).p v w yy→v.oneCell' = true:=fun v _ _ ⟨_,_,_,e,_⟩=>by rw [e];rfl
theorem ZsO:inR .i32 0:=by show IntKind.min .i32≤0∧0≤IntKind.max .i32;decide
theorem ZoM {n:Nat} (h:n≤65536):rowN (n:Int)=n:=by unfold rowN;repeat' split;all_goals omega
theorem Zfj.adjR {n:Nat} {E:List ZV} {O I:List (List Zaj)} (h:Zfj n E O I) (mask:Int):(∀ u y,y ∈ Zgp O mask u→0≤y∧y<(n:Int)) ∧ ∀ u,(Zgp O mask u).length≤n:=by
 have h1:∀ u y,y ∈ Zgp O mask u→0≤y∧y<(n:Int):=fun u y hy=>by
  obtain ⟨x,x1,x2,x3,x4⟩:=((h.next mask u).2 y).1 hy
  have:=(Z0.1 (h.ok x x1)).2.1
  omega
 exact ⟨h1,fun u=>ZfU ((h.next mask u).1.imp fun h=>by omega) (h1 u)⟩
theorem ZoD (u:Int) (O I:List (List Zaj)) (m:Nat) (mask:Int) (hO:∀ l ∈ O,l.length≤1000000):FnP prog 213 [.int .i64 u,.ref [Zk7 O I m],.ref [.int .i64 mask]] (.sl Zq (Zgp O mask u)):=by
 refine FnP.mk func213 rfl ntmps213 rfl fun B a w F Z hfr G=>Ya ?_
 refine rZ G (qC qZ) Z [4,2,1,0] [0] fun G=>Ya ?_
 refine rZ G (qf (oR false 1 .t) r1 qz (qR rr (qf (oR false 1 .t) r1 qz (qf (oP (Zqc O I m u mask hO) func214 (Args.three .t .t .t)) r3 qz (qO rr qZ))))) Z [4] [0] fun G=>Yj ?_
 refine Zo hfr G rfl rfl rfl .refl
theorem ZqI (n:Nat) (E:List ZV) (O I:List (List Zaj)) (m:Nat) (mask:Int) (h:Zfj n E O I) (hn:n≤4096) (hE:E.length≤1000000) (L:List Int) (hL:ZjV (Zgp O mask) n L):FnP prog 176 [Zk7 O I m,.int .i64 mask] (.sl Zq L):=by
 refine FnP.mk func176 rfl ntmps176 rfl fun B a w F Z hfr G=>?_
 have hO:∀ l ∈ O,l.length≤1000000:=fun l hl=>(h.on.r hE l hl).1
 obtain ⟨hadj,hal0⟩:=h.adjR mask
 have hal:∀ u,(Zgp O mask u).length≤4096:=fun u=>Yaa (hal0 u) hn
 refine Ya (rS G (qf (Zlr 101 .t ZtM) r1 qz (qf (Zlr 102 .t one_int) r1 qz (qC qZ))) Z QJ KP fun τ G=>?_)
 try dsimp only [RS.sub,SF.sub,CF.sub,csub,Anc.sub,List.map,zCF,Zq,Zgl] at G
 generalize τ 2=v2,τ 3=v3 at G
 obtain ⟨F,G⟩:=G.giveRef 101 2 rfl rfl rfl
 obtain ⟨F,G⟩:=G.nM QJ QP
 have G:=XD
 obtain ⟨F,G⟩:=G.giveRef 102 3 rfl rfl rfl
 obtain ⟨F,G⟩:=G.nM QJ [0]
 have G:=XD
 refine Za (Ya (Zc G (qf (oR false 1 .t) r1 qz (qf (oP (ZiM O I m) func212 (Args.one .t)) r1 qz (qO rr qZ))) Z QQ [0] rfl rfl fun a w F G=>?_))
 rw [h.ol] at G
 refine Za (Ya (rZ G (qf (ZbV (Args.two .t .t)) r2 qz (qO rr qZ)) Z [6,5,4] [0] fun G=>Ya ?_))
 replace G:=G.fresh 103 rfl
 replace G:=G.fresh 104 rfl
 refine rT G (qR rr (qR rr (qf (ZaY (R:=Zgl) (v:=0) (c:=(n:Int)) (sz:=1) (bs:=4) (zs:=[.int .i32 0]) 105 Yb8 kr kr kr (fun _ _=>⟨⟨rfl,rfl,ZsO⟩,tv⟩) .t .t (Ybp _) ow ow) r2 qz (qR rr (qf (ZaY (R:=Zgl) (v:=0) (c:=(n:Int)) (sz:=1) (bs:=4) (zs:=[.int .i32 0]) 106 Yb8 kr kr kr (fun _ _=>⟨⟨rfl,rfl,ZsO⟩,tv⟩) .t .t (Ybp _) ow ow) r2 qz (qR rr (qf (ZbS 103 (ZsX n) func215 rfl kr (Args.one .t) PV.ptr_one) r1 r1 (qR rr (qf (ZbS 104 (ZqX n) func216 rfl kr (Args.one .t) PV.ptr_one) r1 r1 (qR rr (qf (ZaY (R:=Zq) (v:=0) (c:=(n:Int)) (sz:=1) (bs:=8) (zs:=[.int .i64 0]) 107 YbY kr kr kr (fun _ _=>⟨⟨rfl,rfl,Zc5⟩,tv⟩) .t .t (Ybp _) ow ow) r2 qz (qf (oB [(0,.tmp 12),(1,.tmp 14),(2,.tmp 16),(3,.tmp 18),(4,.tmp 20),(6,.tmp 22)] [.nilFunc,.slice none 0 0,.slice none 0 0,.pointer none,.pointer none,.int .i32 0,.slice none 0 0] [(0,1),(1,1),(2,1),(3,1),(4,1),(5,1),(6,1)] (.one rfl .t Zp8 kr (.same rfl kr (.same rfl kr (.same rfl kr (.same rfl kr (.same rfl kr .nil))))))) r6 qz (qf (oX 108 .t) r1 qz (qO rr qZ)))))))))))))) Z [7,5,4] [108,107,106,105,104,103,0] fun τ G=>?_
 try dsimp only [RS.sub,SF.sub,CF.sub,csub,Anc.sub,List.map,Zd,xL,xM,Nat.reduceAdd,xD,xE,xT,xU,xC,xN,zCF,Zq,Zgl] at G
 generalize τ 24=v24,τ 18=v18 at G
 generalize τ 20=v20,τ 14=v14 at G
 generalize τ 16=v16,τ 22=v22 at G
 rw [Yg] at G
 obtain ⟨tb,rfl⟩:=G.shape 108 rfl
 replace G:=G.turn 103 rfl (r':=RS.hp (stH v18 n [])) (by rw [ZnC ow];exact fun _ _ _ _ h=>h)
 replace G:=G.turn 104 rfl (r':=RS.hp (ZgG n [] v20)) (by rw [ZoM ow];exact fun _ _ _ _ h=>h)
 have G:=G.fresh 1 rfl
 obtain ⟨F,G⟩:=G.push 1 107 rfl rfl rfl kr
 obtain ⟨F,G⟩:=G.push 1 104 rfl rfl rfl kr
 obtain ⟨F,G⟩:=G.push 1 103 rfl rfl rfl kr
 obtain ⟨F,G⟩:=G.push 1 106 rfl rfl rfl kr
 obtain ⟨F,G⟩:=G.push 1 105 rfl rfl rfl kr
 obtain ⟨F,G⟩:=G.push 1 108 rfl rfl rfl kr
 have G:=G.turn 1 rfl (r':=RS.hp (Zch (.clos 213 [.ref [Zk7 O I m],.ref [.int .i64 mask]]) n ⟨List.replicate n 0,List.replicate n 0,[],[],0,List.replicate n 0⟩ (.pointer (some ⟨tb,0,none⟩)))) (fun _ _ _ _ h=>⟨_,_,_,_,_,h⟩)
 obtain ⟨F,G⟩:=G.nM [7,5,4] KQ
 refine Za (Ya (Ya (rZ G (qR rr (qJ qZ)) Z Jz KQ fun G=>Yi ?_)))
 refine Zk (σ:=Nat×Zbj) [4,7,25] [0] (fun s=>[(26,.pv (.int .i64 (s.1:Int)))]) (fun s=>[(1,RS.hp (Zch (.clos 213 [.ref [Zk7 O I m],.ref [.int .i64 mask]]) n s.2 (.pointer (some ⟨tb,0,none⟩))))]) (fun s=>s.1≤n∧TI n (Zgp O mask) s.2 [] ∧ ∀ u:Nat,u<s.1→Nn s.2.wh u≠0) (fun s=>n - s.1) ((0),_) G ⟨rfl,rfl,rfl,rfl,tv⟩ ⟨rfl,rfl,tv⟩ ⟨YA _,TI.zero n _,fun u hu=>absurd hu (Yah u)⟩ ?_
 clear G;intro s a w F hC G
 obtain ⟨i,q⟩:=s
 have hC:=X4
 obtain ⟨F,G⟩:=G.nM Jz KQ
 have G:=X3
 obtain ⟨hi,hI,hvs⟩:=hC
 have hck:=hI.lw
 refine Ya (rZ G (qL r2) Z [27,26,25,7,4] KQ fun G=>Ya ?_)
 refine Zb G rfl (fun hc0=>?_) (fun hc0=>?_)
 ·have hil:i<n:=WV
  refine Yf (Za (Ya (Yi (Ya (rZ G (qR rr (qO rr qZ)) Z [26,25,8,7,4] KQ fun G=>Ya ?_)))))
  obtain ⟨wv,G⟩:=G.open_ex 1 rfl
  obtain ⟨lv,G⟩:=G.open_ex 1 rfl
  obtain ⟨sv,G⟩:=G.open_ex 1 rfl
  obtain ⟨iv,G⟩:=G.open_ex 1 rfl
  obtain ⟨ov,G⟩:=G.open_ex 1 rfl
  obtain ⟨F,G⟩:=G.peel 1 2 rfl rfl
  obtain ⟨F,G⟩:=G.peel 1 3 rfl rfl
  obtain ⟨F,G⟩:=G.peel 1 4 rfl rfl
  obtain ⟨F,G⟩:=G.peel 1 5 rfl rfl
  obtain ⟨F,G⟩:=G.peel 1 6 rfl rfl
  obtain ⟨F,G⟩:=G.peel 1 7 rfl rfl
  replace G:=G.turn 5 rfl (r':=.ob (.val sv) (fun v=>stH v n q.wait)) (fun _ _ _ _ h=>h)
  obtain ⟨_,_,_,ho⟩:=G.obGet 5 rfl
  obtain ⟨sb,rfl⟩:=Zer ho
  clear ho
  replace G:=G.turn 6 rfl (r':=.ob (.val iv) (ZgG n q.inn)) (fun _ _ _ _ h=>h)
  obtain ⟨_,_,_,ho⟩:=G.obGet 6 rfl
  obtain ⟨ib,rfl⟩:=ZcP ho
  clear ho
  replace G:=G.turn 5 rfl (r':=RS.hp (stH (.pointer (some ⟨sb,0,none⟩)) n q.wait)) (fun _ _ _ _ h=>h)
  replace G:=G.turn 6 rfl (r':=RS.hp (ZgG n q.inn (.pointer (some ⟨ib,0,none⟩)))) (fun _ _ _ _ h=>h)
  obtain ⟨F,G⟩:=G.nM [26,25,8,7,4] Q1
  refine Zc G (qR rr (qf (o_nilCheck 2 .is XV) r1 r1 (qf (oF 1 2 .adr) r1 r1 (qa 2 r1 r1 (qR rr (qf (o_indexAddr_row (sz:=1) 3 (.mk Yb8 kr) .is .t ow ow XV) r2 r1 (qf (Zx (ag:=false) (sz':=1) (sz:=1) 3 .t Wh ow kr kr kr) r1 r1 (qf (o_eql .t qi) r1 qz qZ)))))))) Z JQ Q1 rfl rfl fun a w F G=>?_
  try simp only [Yg] at G
  refine Za (Zb G rfl (fun hc1=>?_) (fun hc1=>?_))
  ·have h00:fI q.wh i=0:=by rw [Zcd ow];simpa using hc1
   have G:=G.fresh 1 rfl
   obtain ⟨F,G⟩:=G.push 1 7 rfl rfl rfl kr
   obtain ⟨F,G⟩:=G.push 1 6 rfl rfl rfl kr
   obtain ⟨F,G⟩:=G.push 1 5 rfl rfl rfl kr
   obtain ⟨F,G⟩:=G.push 1 4 rfl rfl rfl kr
   obtain ⟨F,G⟩:=G.push 1 3 rfl rfl rfl kr
   obtain ⟨F,G⟩:=G.push 1 2 rfl rfl rfl kr
   have G:=G.turn 1 rfl (r':=RS.hp (Zch (.clos 213 [.ref [Zk7 O I m],.ref [.int .i64 mask]]) n q (.pointer (some ⟨tb,0,none⟩)))) (fun _ _ _ _ h=>⟨_,_,_,_,_,h⟩)
   obtain ⟨F,G⟩:=G.nM JQ KQ
   refine Zc G (qR rr (qR rr (qf (o_callG1 1 (Zvr tb n (Zgp O mask) 213 f213 [.ref [Zk7 O I m],.ref [.int .i64 mask]] func213 rfl kr (fun u _=>ZoD u O I m mask hO) hadj hal q i ow ow hn hI h00) func217 rfl kr (Args.two .t .t)) r2 r1 qZ))) Z Jz KQ rfl rfl fun a w F G=>?_
   obtain ⟨q2,G⟩:=G.open_ex 1 rfl
   obtain ⟨⟨hI2,hv2,hk3⟩,G⟩:=G.open_and 1 rfl
   have hv2:Nn q2.wh i≠0:=by rw [Zcd ow] at hv2;exact hv2
   have hk2:∀ u:Nat,u<i→Nn q.wh u≠0→Nn q2.wh u≠0:=fun u hu h9=>by have:=hk3 u (by rw [Zcd ow];exact h9);rw [Zcd ow] at this;exact this
   refine Ze (Za (rZ G (qp r1 (qR rr qZ)) Z Jz KQ fun G=>?_))
   replace G:=G.eI 26 i
   obtain ⟨F,G⟩:=G.nM [25,7,4,26] [0,1]
   exact ⟨((i+1),(q2)),F,⟨ow,hI2,fun u hu=>by rcases YY (Yag hu) with h9 | h9;exact hk2 u h9 (hvs u h9);rw [h9];exact hv2⟩,G,ow⟩
  have G:=G.fresh 1 rfl
  obtain ⟨F,G⟩:=G.push 1 7 rfl rfl rfl kr
  obtain ⟨F,G⟩:=G.push 1 6 rfl rfl rfl kr
  obtain ⟨F,G⟩:=G.push 1 5 rfl rfl rfl kr
  obtain ⟨F,G⟩:=G.push 1 4 rfl rfl rfl kr
  obtain ⟨F,G⟩:=G.push 1 3 rfl rfl rfl kr
  obtain ⟨F,G⟩:=G.push 1 2 rfl rfl rfl kr
  have G:=G.turn 1 rfl (r':=RS.hp (Zch (.clos 213 [.ref [Zk7 O I m],.ref [.int .i64 mask]]) n q (.pointer (some ⟨tb,0,none⟩)))) (fun _ _ _ _ h=>⟨_,_,_,_,_,h⟩)
  obtain ⟨F,G⟩:=G.nM JQ KQ
  obtain ⟨q2,hq2⟩:∃ q2,q2=q:=⟨q,rfl⟩
  rw [← hq2] at G
  have hI2:=hI
  rw [← hq2] at hI2
  have hv2:Nn q2.wh i≠0:=by rw [hq2];simpa using hc1
  have hk2:∀ u:Nat,u<i→Nn q.wh u≠0→Nn q2.wh u≠0:=fun u _ h9=>by rw [hq2];exact h9
  refine Yf (Ze (Za (rZ G (qp r1 (qR rr qZ)) Z Jz KQ fun G=>?_)))
  replace G:=G.eI 26 i
  obtain ⟨F,G⟩:=G.nM [25,7,4,26] [0,1]
  exact ⟨((i+1),(q2)),F,⟨ow,hI2,fun u hu=>by rcases YY (Yag hu) with h9 | h9;exact hk2 u h9 (hvs u h9);rw [h9];exact hv2⟩,G,ow⟩
 have hil:i=n:=by have h9:¬ i<n:=WV;omega
 have hlab:q.out=L:=(hI.labs (by rw [← hil];exact hvs)).one hL
 refine Yz (Zg (Zg (Zm (Za (Ya ?_)))))
 obtain ⟨wv,G⟩:=G.open_ex 1 rfl
 obtain ⟨lv,G⟩:=G.open_ex 1 rfl
 obtain ⟨sv,G⟩:=G.open_ex 1 rfl
 obtain ⟨iv,G⟩:=G.open_ex 1 rfl
 obtain ⟨ov,G⟩:=G.open_ex 1 rfl
 obtain ⟨F,G⟩:=G.peel 1 2 rfl rfl
 obtain ⟨F,G⟩:=G.peel 1 3 rfl rfl
 obtain ⟨F,G⟩:=G.peel 1 4 rfl rfl
 obtain ⟨F,G⟩:=G.peel 1 5 rfl rfl
 obtain ⟨F,G⟩:=G.peel 1 6 rfl rfl
 obtain ⟨F,G⟩:=G.peel 1 7 rfl rfl
 replace G:=G.turn 5 rfl (r':=.ob (.val sv) (fun v=>stH v n q.wait)) (fun _ _ _ _ h=>h)
 obtain ⟨_,_,_,ho⟩:=G.obGet 5 rfl
 obtain ⟨sb,rfl⟩:=Zer ho
 clear ho
 replace G:=G.turn 6 rfl (r':=.ob (.val iv) (ZgG n q.inn)) (fun _ _ _ _ h=>h)
 obtain ⟨_,_,_,ho⟩:=G.obGet 6 rfl
 obtain ⟨ib,rfl⟩:=ZcP ho
 clear ho
 replace G:=G.turn 5 rfl (r':=RS.hp (stH (.pointer (some ⟨sb,0,none⟩)) n q.wait)) (fun _ _ _ _ h=>h)
 replace G:=G.turn 6 rfl (r':=RS.hp (ZgG n q.inn (.pointer (some ⟨ib,0,none⟩)))) (fun _ _ _ _ h=>h)
 obtain ⟨F,G⟩:=G.nM [27,26,25,7,4] Q1
 refine rZ G (qR rr (qf (o_nilCheck 2 .is XV) r1 r1 (qf (oF 6 2 .adr) r1 r1 (qa 2 r1 r1 (qO rr qZ))))) Z [4] Q1 fun G=>Yj ?_
 obtain ⟨F,G⟩:=G.give 7 4 rfl rfl
 refine Zo hfr G rfl rfl rfl (.sl hlab)
def roomN (n:Int):Nat:=(if n<0 then 0 else if n > 4096 then 4096 else n).toNat
theorem Ze0 (n:Int):roomN n≤4096:=by unfold roomN;split; (· omega);split <;> omega
theorem Zsg (n:Int):(if 4096<(if n<0 then 0 else n) then 4096 else if n<0 then 0 else n)=((roomN n:Nat):Int):=by unfold roomN;split <;> split <;> (try split) <;> omega
theorem ZiG {w:World} {y:Ys} {r:RS} (hd:r.deps = []) (hr:r.holds tau0 w (fun _=>False) y):∀ n:Nat,stars w y (List.replicate n r) (fun _=>False)
 | 0=>fun _ h=>h
 | n+1=>⟨fun _=>False,fun _=>False,fun b=>by simp,fun _ h=>h.elim,hd,hr,ZiG hd hr n⟩
theorem Zrv (n:Nat) (s:Value):ZeJ (List.replicate n s) (List.replicate n [])=List.replicate n (s,[]):=by
 apply YaM (by simp [ZeJ])
 intro j h1 h2
 have hj:j<n:=W5
 simp [ZeJ,nth_eq (l:=List.replicate n s) (i:=j) XJ,nth_eq (l:=List.replicate n ([]:List Zaj)) (i:=j) XJ]
theorem Zle {n:Nat} {v:Value} (τ:Tau) (w:World) (f y:Ys) (h:(RS.ob (.val v) (Zz 299 1 rV (List.replicate n (.slice none 0 0)))).holds τ w f y):(RS.hp (Zi2 (List.replicate n []) v)).holds τ w f y:=by
 refine ⟨List.replicate n (.slice none 0 0),by simp,f,fun _=>False,fun b=>by simp,fun _ _ h=>h,rfl,h,fun _=>False,fun _=>False,fun b=>by simp,fun _ h=>h.elim,rfl,?_,fun _ h=>h⟩
 show stars w y ((ZeJ (List.replicate n (.slice none 0 0)) (List.replicate n [])).map fun x=>RS.hp (Zm6 x)) fun _=>False
 rw [Zrv,List.map_replicate]
 exact ZiG (r:=RS.hp (Zm6 (.slice none 0 0,[]))) rfl (show (Zz 296 3 ZaG ([]:List Zaj) (.slice none 0 0)).p w (fun _=>False) y from ZkY) n
theorem Zl0 (w:World) (y:Ys):PVs (rV (.slice none 0 0)) [.slice none 0 0] w y:=⟨⟨rfl,rfl,by first | rfl | trivial⟩,tv⟩
theorem Zuf (room:Int):FnG prog 174 1 [.int .i64 room] [.star []] (PV.ptr) (fun v=>[Zp3 (List.replicate (roomN room) []) (List.replicate (roomN room) []) 0 v]):=by
 refine FnG.mk func174 rfl ntmps174 rfl kr fun B F0 a w F Z hG G=>?_
 have hr:=Zsg room
 refine Ya (rZ G (qC qZ) Z Q0 KQ fun G=>Ya ?_)
 refine Zc G (qR rr (qf (Zup .t qi) r1 qz (qf (o_min .t qi) r1 qz (qO rr qZ)))) Z Q0 KQ rfl rfl fun a w F G=>?_
 rw [hr] at G
 refine Za (Ya (rT G (qR rr (qf (ZaY (R:=rV) (v:=(.slice none 0 0)) (c:=((roomN room:Nat):Int)) (sz:=1) (bs:=24) (zs:=[.slice none 0 0]) 101 Ycg kr kr kr Zl0 .t .t (Ybp _) WW WW) r2 qz (qR rr (qf (ZaY (R:=rV) (v:=(.slice none 0 0)) (c:=((roomN room:Nat):Int)) (sz:=1) (bs:=24) (zs:=[.slice none 0 0]) 102 Ycg kr kr kr Zl0 .t .t (Ybp _) WW WW) r2 qz (qf (oB [(0,.tmp 7),(1,.tmp 9)] [.slice none 0 0,.slice none 0 0,.int .i64 0] [(0,1),(1,1),(2,1)] (.same rfl kr (.same rfl kr .nil))) r2 qz (qf (oX 103 .t) r1 qz (qO rr qZ))))))) Z [2] KY fun τ G=>?_))
 try dsimp only [RS.sub,SF.sub,CF.sub,csub,Anc.sub,List.map,Zd,xL,xM,Nat.reduceAdd,xD,xE,xT,xU,xC,xN,zCF,ZaG,Zbd,Zq,Zb5] at G
 generalize τ 11=v11,τ 7=v7,τ 9=v9 at G
 rw [Yg] at G
 refine Za (Yj ?_)
 obtain ⟨b,rfl⟩:=G.shape 103 rfl
 replace G:=G.turn 101 rfl (Zle)
 replace G:=G.turn 102 rfl (Zle)
 obtain ⟨F,G⟩:=G.push 1 102 rfl rfl rfl kr
 obtain ⟨F,G⟩:=G.push 1 101 rfl rfl rfl kr
 obtain ⟨F,G⟩:=G.push 1 103 rfl rfl rfl kr
 have G:=G.turn 1 rfl (r':=RS.hp (Zp3 (List.replicate (roomN room) []) (List.replicate (roomN room) []) 0 (Value.pointer (some { block:=b,off:=0 })))) (fun _ _ _ _ h=>⟨_,_,h⟩)
 refine Zaw (h':=fun v=>Zp3 (List.replicate (roomN room) []) (List.replicate (roomN room) []) 0 v) hG G rfl (.tmp rfl .nil) (.one .ptr) rfl
theorem Sat.giveL {B:ZaV} {E:En} {a:Act} {w:World} {F:Fp} {v:Value} {ho:HP} {p:PV} (h:Sat B E a w F) (n i:Nat) (hn:Go.Gm.look E.r n=some (RS.hp ho)) (hi:Go.Gm.look E.s i=some (.pv (.is v))) (hl:Zs1 ho v p) :
  ∃ F',Sat B ⟨(i,.pv p) :: E.s,(n,RS.hp (HP.star [])) :: E.r⟩ a w F':=by
 have hle:∀ b,U (fun m=>if m=n then fun _=>False else F m) b→U F b:=fun b ⟨m,hm⟩=>⟨m,by
  by_cases e:m=n
  ·simp only [e,Yx] at hm
  ·simp only [e,Yt] at hm;exact hm⟩
 have hev:=Ev.less w hle
 refine ⟨fun m=>if m=n then fun _=>False else F m,⟨fun m k b hm hk=>?_,fun m b hm=>?_⟩,h.ev.trans hev,h.n,h.df,fun j s hj=>?_,fun m r hm=>?_,fun m b hm=>?_⟩
 ·by_cases e1:m=n
  ·simp only [e1,Yx] at hm
  ·by_cases e2:k=n
   ·simp only [e2,Yx] at hk
   ·simp only [e1,e2,Yt] at hm hk;exact h.wf.dis m k b hm hk
 ·by_cases e1:m=n
  ·simp only [e1,Yx] at hm
  ·simp only [e1,Yt] at hm;exact h.wf.bd m b hm
 ·rw [Zf] at hj
  split at hj
  ·rename_i e
   simp only [YX] at hj;subst hj;subst e
   have hv:Act.tau a i=v:=(h.s i _ hi).1
   show p.p (Act.tau a i) w _
   rw [hv]
   refine hl w (F n) (U F) _ (h.r n _ hn) hle (fun b hb hm=>?_) (fun b hb=>h.wf.bd n b hb)
   obtain ⟨m,hm⟩:=hm
   by_cases e2:m=n
   ·simp only [e2,Yx] at hm
   ·simp only [e2,Yt] at hm
    exact e2 (h.wf.dis m n b hm hb)
  ·exact SF.mono hev (fun _ _=>rfl) (h.s j s hj)
 ·rw [Zf] at hm
  split at hm
  ·rename_i e
   simp only [YX] at hm;subst hm;subst e
   intro b hb
   simp only [Yx] at hb
  ·rename_i e
   have e2:¬ m=n:=fun h=>e h.symm
   simp only [e2,Yt]
   exact RS.mono hev (fun _ _=>rfl) (fun _ _=>rfl) (h.r m r hm)
 ·by_cases e1:m=n
  ·simp only [e1,Yx] at hm
  ·simp only [e1,Yt] at hm
   obtain ⟨r,hr⟩:=h.em m b hm
   exact ⟨r,by rw [Zf,Yb (fun h=>e1 h.symm)];exact hr⟩
def ZdY (l:List Zi) (mask:Int):List Zi:=l.filter (ZP mask)
def Zbt (l:List Zi) (mask:Int):List ZV:=(ZdY l mask).map (ZjM (ZB (ZdY l mask)))
theorem ZlN (l:List Zi) (mask:Int) (i:Nat):(ZdY (l.take i) mask).length≤i:=Yaa (Yac _ _) (by rw [Yp];omega)
theorem Zi3 (l:List Zi) (mask:Int) (i:Nat):(Zbt (l.take i) mask).length≤i:=by unfold Zbt;rw [YJ];exact ZlN l mask i
theorem ZkV {l:List Zi} {mask:Int} {i:Nat} (hi:i<l.length) (h:ZP mask (Nn l i)=true):ZdY (l.take (i+1)) mask=ZdY (l.take i) mask ++ [Nn l i]:=by
 unfold ZdY
 rw [Zy hi,Yai];simp [h]
theorem ZnW {l:List Zi} {mask:Int} {i:Nat} (hi:i<l.length) (h:ZP mask (Nn l i)=false):ZdY (l.take (i+1)) mask=ZdY (l.take i) mask:=by
 unfold ZdY
 rw [Zy hi,Yai];simp [h]
theorem Zin {l:List Zi} {mask:Int} {i:Nat} (hi:i<l.length) (h:ZP mask (Nn l i)=true):ZaH (ZaH (ZB (ZdY (l.take i) mask)) (Nn l i).src) (Nn l i).dst=ZB (ZdY (l.take (i+1)) mask):=by
 rw [ZkV hi h]
 unfold ZB
 rw [Ya2];rfl
theorem Zoc {l:List Zi} {mask:Int} {i:Nat} (hi:i<l.length) (h:ZP mask (Nn l i)=true):Zbt (l.take i) mask ++ [⟨Z2 (Nn l i).src (ZaH (ZB (ZdY (l.take i) mask)) (Nn l i).src),Z2 (Nn l i).dst (ZaH (ZaH (ZB (ZdY (l.take i) mask)) (Nn l i).src) (Nn l i).dst),(Nn l i).kind,0⟩] = Zbt (l.take (i+1)) mask:=by
 unfold Zbt
 rw [ZkV hi h,Zow];rfl
theorem Zqe {O I:List (List Zaj)} {n:Nat} {v:Value} {w:World} {f y:Ys} (h:(Zp3 O I n v).p w f y):∃ b,v = .pointer (some ⟨b,0,none⟩):=by
 obtain ⟨_,_,g⟩:=h
 exact HP.star_pt g
theorem Zo3 {n:Nat} (h:n≤4096):roomN (n:Int)=n:=by unfold roomN;repeat' split;all_goals omega
theorem Zmt {l:List Zi} {mask:Int} (x:ZV):x ∈ (Zbt l mask).foldl (Zl9 (ZB (ZdY l mask)).length) [] ↔ x ∈ Zbt l mask:=by
 rw [Zlp]
 constructor
 ·rintro (h | h)
  ·cases h
  ·exact h.1
 ·intro h
  refine .inr ⟨h,?_⟩
  obtain ⟨e,he,rfl⟩:=YB.1 h
  exact Zb4 he rfl
theorem Zk1 {l:List Zi} {mask:Int} {x:ZV} (h:x ∈ Zbt l mask):(0≤x.src∧x.src<((ZB (ZdY l mask)).length:Int))∧0≤x.dst∧x.dst<((ZB (ZdY l mask)).length:Int):=by
 obtain ⟨e,he,rfl⟩:=YB.1 h
 have:=Z0.1 (Zb4 he rfl)
 exact ⟨this.1,this.2.1⟩
theorem Zuw (l : List ZV) (p : ZV → Bool) (f : FuncId) (fn : Func) (cps : List PV) (hf : prog.funcs[f]? = some fn) (hb : fn.body.isSome = true) (hnn : (fn.name == "runtime.NumGoroutine") = false) (hw : ∀ x ∈ l, FnP prog f (.agg (Zb5 x) :: cps) (.bool (p x))) : FnP prog 218 [.sl Zb5 l, .clos f cps] (.int .i64 (Zap p l)) := by
 refine FnP.mk func218 rfl ntmps218 rfl fun B a w F Z hfr G=>?_
 have hll:=Sat.lenSl G (i:=0) rfl
 refine Ya (rZ G (qI qZ) Z KU [0] fun G=>(Ya (Ya ?_)))
 refine rZ G (qR rr (qu Ycj r1 (qJ qZ))) Z Qm [0] fun G=>Yi ?_
 refine Zk (σ:=(Nat)) [0,1,4,7] [0] (fun s=>[(8,.pv (.int .i64 (s:Int)))]) (fun s=>[]) (fun s=>s≤l.length∧(∀ k,k<s→p (Nn l k)=false)) (fun s=>l.length - s) (0) G ⟨rfl,rfl,rfl,rfl,rfl,tv⟩ ⟨rfl,tv⟩ ⟨YA _,fun k hk=>absurd hk (Yah k)⟩ ?_
 clear G;intro i a w F hC G
 have hC:=X4
 obtain ⟨F,G⟩:=G.nM Qm [0]
 have G:=X3
 obtain ⟨hi,hq⟩:=hC
 refine Ya (rZ G (qL r2) Z Gb [0] fun G=>Ya ?_)
 refine Zb G rfl (fun hc0=>?_) (fun hc0=>?_)
 ·skip
  have hil:i<l.length:=Wl
  refine Yf (Za (Ya (Yi (Ya (rZ G (qR rr (qO rr qZ)) Z Gc [0] fun G=>Ya ?_)))))
  refine Zc G (qR rr (qR rr (qR rr (qy 4 Ycj r2 (qf (oR true 4 .t) r1 qz (qf (Zab (avs:=[.agg (Zb5 (Nn l i))]) .t (hw (Nn l i) (nth_mem ow)) hf hb hnn (Args.one (.pagg .t))) r2 qz qZ)))))) Z JP [0] rfl rfl fun a w F G=>?_
  try simp only [Yg] at G
  refine Za (Zb G rfl (fun hc1=>?_) (fun hc1=>?_))
  ·skip
   have hg:(i:Int)=Zap p l:=(Zd2 hil hc1 hq).symm
   refine Ya (rZ G (qR rr (qO rr qZ)) Z Qm [0] fun G=>(Yj (Zn (Zh (Zh (Zn (Zh ?_)))))))
   refine Zo hfr G rfl rfl rfl (.int hg)
  have hne:p (Nn l i)=false:=hc1
  refine Yf (Ze (Za (rZ G (qp r1 (qR rr qZ)) Z Qm [0] fun G=>?_)))
  replace G:=G.eI 8 i
  obtain ⟨F,G⟩:=G.nM [7,4,1,0,8] [0]
  exact ⟨(i+1),F,⟨ow,(fun k hk=>by rcases YY (Yag hk) with h | h;exact hq k h;rw [h];exact hne)⟩,G,ow⟩
 have hil:i=l.length:=Wl
 have hg : -1=Zap p l:=(Zcv fun k hk=>hq k Wl).symm
 refine Yz (Zg (Zg (Zm (Za (Ya (rZ G (qI qZ) Z [4] [0] fun G=>Yj ?_))))))
 refine Zo hfr G rfl rfl rfl (.int hg)
theorem Ztl (l : List ZV) (p : ZV → Bool) (f : FuncId) (fn : Func) (cps : List PV) (hf : prog.funcs[f]? = some fn) (hb : fn.body.isSome = true) (hnn : (fn.name == "runtime.NumGoroutine") = false) (hw : ∀ x ∈ l, FnP prog f (.agg (Zb5 x) :: cps) (.bool (p x))) : FnP prog 177 [.sl Zb5 l, .clos f cps] (.bool (l.any p)) := by
 refine FnP.mk func177 rfl ntmps177 rfl fun B a w F Z hfr G=>Ya ?_
 refine rZ G qB Z KU [0] fun G=>Ya ?_
 refine rZ G (qR rr (qR rr (qf (oP (Zuw l p f fn cps hf hb hnn hw) func218 (Args.two .t .t)) r2 qz (qf (ZbD .t qi) r1 qz (qO rr qZ))))) Z [4] [0] fun G=>Yj ?_
 refine Zo hfr G rfl rfl rfl (.bool (by rw [ZfC]))
theorem Zsk (x:ZV) (L:List Int) (must:Int) (h1:0≤x.src∧x.src<(L.length:Int)) (h2:0≤x.dst∧x.dst<(L.length:Int)):FnP prog 178 [.agg (Zb5 x),.ref [.sl Zq L],.ref [.int .i64 must]] (.bool (decide (Nn L x.src.toNat=Nn L x.dst.toNat) && ZkJ must x.kind)):=by
 refine FnP.mk func178 rfl ntmps178 rfl fun B a w F Z hfr G=>Ya ?_
 refine rS G (qx 101 r1 qB) Z Ge KN fun τ G=>?_
 have G:=X9
 generalize τ 3=v3 at G
 refine Za (Ya (Zv G (qf (oR false 1 .t) r1 qz (qg 0 101 r1 r1 (qa 101 r1 r1 (qf (o_indexAddr_sl (sz:=1) (.mk YbY kr) Wh .t .t (by exact h1.1) (by exact h1.2)) r2 qz (qf (oR false 1 .t) r1 qz (qf (oR false 1 .t) r1 qz (qg 1 101 r1 r1 (qa 101 r1 r1 (qf (o_indexAddr_sl (sz:=1) (.mk YbY kr) Wh .t .t (by exact h2.1) (by exact h2.2)) r2 qz (qf (oR false 1 .t) r1 qz (qf (o_eql .t .t) r2 qz (qR rr (qk rfl (fun h=>oR false 1 .t) r2 qz (qk rfl (fun h=>o_and (.w h) qi) r2 qz (qk rfl (fun h=>o_eql (.w h) qi) r2 qz (qk rfl (fun h=>oM (.w h)) r2 qz (Zu.cons (ZaF.cond2 rfl rfl (fun h=>ZgX (ag:=false) (sz:=1) .t kr kr kr)) r2 qz (Zu.cons (ZaF.cond2 rfl rfl (fun h=>ZS (off:=2) 101 .is kr XV)) r2 r1 (Zu.cons (ZaF.cond2 rfl rfl (fun h=>Zbz (ag:=false) (sz:=1) 101 (.w h .adr) kr kr kr XV)) r2 r1 (Zu.cons (ZaF.cond2 rfl rfl (fun h=>o_conv Ycd kr (.w h))) r2 qz (Zu.cons (ZaF.cond2 rfl rfl (fun h=>Zf2 (.w h) (.w h)  (by rw [Zaa];omega))) r3 qz (Zu.cons (ZaF.cond2 rfl rfl (fun h=>o_and (.w h) qi)) r2 qz (Zu.cons (ZaF.cond2 rfl rfl (fun h=>o_eql (.w h) qi)) r2 qz (qk rfl (fun h=>Zaq (.w h) (.wc h)) r3 qz (qf (ZC .t .t) r2 qz (qO rr qZ)))))))))))))))))))))))))) Z [4] [0] rfl rfl fun a w F G=>?_))
 try dsimp only [List.map,xD,xE,xT,xU,ldSF,ZaG,Zbd,Zq,Zb5] at G
 try simp only [Yg] at G
 refine Za (Yj (Zo hfr G rfl rfl rfl (.bool rfl)))
theorem ZuB (l:List Zi) (mask must:Int) (hl:l.length≤100000) (hN:(ZB (ZdY l mask)).length≤4096) (rb:Bool) (hr:rb=true ↔ Zdw l mask must):FnP prog 121 [.sl ZE l,.int .i64 mask,.int .i64 must] (.bool rb):=by
 refine FnP.mk func121 rfl ntmps121 rfl fun B a w F Z hfr G=>Ya ?_
 refine rS G (qf (Zlr 101 .t one_int) r1 qz qB) Z [6,5,1,0] KN fun τ G=>?_
 try dsimp only [RS.sub,SF.sub,CF.sub,csub,Anc.sub,List.map,zCF,ZE,Zb5,Zq] at G
 generalize τ 5=v5 at G
 refine Za (Ya (rS G (qf (ZoL (vk:=.i64) (ok:=(fun _=>True)) (kv:=(fun n:Int=>Value.int .i64 n)) 102) trivial qz (qO rr qZ)) Z [7,6,5,1,0] KP fun τ G=>?_))
 have G:=Xt
 generalize τ 15=v15 at G
 replace G:=G.turn 102 rfl (r':=RS.hp (ZuF [] v15)) (fun _ _ _ _ h=>⟨([],0),Zga.nil,h⟩)
 obtain ⟨F,G⟩:=G.nM [7,6,5,1,0] KP
 refine Za (Ya (rZ G (qC qZ) Z [8,7,6,5,1,0] KP fun G=>(Ya (Ya ?_))))
 refine rZ G (qR rr (qu Yb0 r1 (qJ qZ))) Z QF KP fun G=>Yi ?_
 replace G:=G.fresh 50 rfl
 replace G:=G.turn 50 rfl (Za6 (T:=237) (sz:=4) (R:=Zb5))
 refine Zk (σ:=(Nat)×(Value)×(List ZV)) [1,5,6,7,16,17] [0,101] (fun s=>[(18,.pv (.int .i64 (s.1:Int))),(8,.pv (.is s.2.1))]) (fun s=>[(102,RS.hp (ZuF (ZB (ZdY (l.take s.1) mask)) v15)),(50,.ob (.val s.2.1) (Zz 237 4 Zb5 s.2.2))]) (fun s=>s.1≤l.length∧(s.2.2=Zbt (l.take s.1) mask)) (fun s=>l.length - s.1) ((0),(.slice none 0 0),([])) G ⟨rfl,rfl,rfl,rfl,rfl,rfl,rfl,rfl,tv⟩ ⟨rfl,rfl,rfl,rfl,tv⟩ ⟨YA _,rfl⟩ ?_
 clear G;intro s a w F hC G
 obtain ⟨i,v,out⟩:=s
 have hC:=X4
 obtain ⟨F,G⟩:=G.nM QF KV
 have G:=X3
 obtain ⟨hi,hq⟩:=hC
 have hol:=Zi3 l mask i
 rw [← hq] at hol
 have hnl:=Zmd (ZdY (l.take i) mask)
 have hfl:=ZlN l mask i
 have hnl2:=(ZfI (ZB (ZdY (l.take i) mask)) (Nn l i).src).2
 refine Ya (rZ G (qL r2) Z JT KV fun G=>Ya ?_)
 refine Zb G rfl (fun hc0=>?_) (fun hc0=>?_)
 ·have hil:i<l.length:=Wl
  refine Yf (Za (Ya (Yi (Ya (rS G (qy 4 Yb0 r2 (qf (oR true 4 .t) r1 qz (qf (oH [.int .i64 0,.int .i64 0,.int .i64 0,.int .i64 0] 103) trivial qz (qS 4 103 r2 r1 qZ)))) Z [18,17,16,10,8,7,6,5,1] Qc fun τ G=>?_)))))
  have G:=Xh
  generalize τ 10=v10 at G
  try simp only [Yg] at G
  refine Za (Ya (rZ G (qg 2 103 r1 r1 (qa 103 r1 r1 (qf (ZbD .t qi) r1 qz (qR rr (qv 2 103 rfl r2 r1 (qw 103 rfl r2 r1 (qk rfl (fun h=>o_leq (.w h) qi) r2 qz (qf (ZC .t .t) r2 qz (qR rr (qm rfl rfl rfl rfl (qv 2 103 rfl r2 r1 (qw 103 rfl r2 r1 (qk rfl (fun h=>o_conv Ycd kr (.w h)) r2 qz (qk rfl (fun h=>Zf2 (.w h) (.w h)  (by rw [Zaa];omega)) r3 qz (qk rfl (fun h=>o_and (.w h) qi) r2 qz (qk rfl (fun h=>o_eql (.w h) qi) r2 qz (qf (ZC .t .t) r2 qz qZ))))))))))))))))) Z [38,18,17,16,10,8,7,6,5,1] Qc fun G=>?_))
  refine Zb G rfl (fun hc1=>?_) (fun hc1=>?_)
  ·have hBq:ZP mask (Nn l i)=true:=by unfold ZP ofB;simpa using hc1
   refine rT G (qR rr (qR rr (qg 0 103 r1 r1 (qa 103 r1 r1 (qf (o_callG1 102 (ZsK v15 (ZB (ZdY (l.take i) mask)) (Nn l i).src ow) func172 rfl kr (Args.two .t .t)) r2 r1 (qR rr (qg 1 103 r1 r1 (qa 103 r1 r1 (qf (o_callG1 102 (ZsK v15 (ZaH (ZB (ZdY (l.take i) mask)) (Nn l i).src) (Nn l i).dst ow) func172 rfl kr (Args.two .t .t)) r2 r1 (qg 2 103 r1 r1 (qa 103 r1 r1 (qf (oB [(0,.tmp 43),(1,.tmp 47),(2,.tmp 49)] [.int .i64 0,.int .i64 0,.int .i64 0,.int .i64 0] [(0,1),(1,1),(2,1),(3,1)] (.one rfl .t one_int kr (.one rfl .t one_int kr (.one rfl .t one_int kr .nil)))) r3 qz (qf (Zj (sz:=4) (zs:=[.int .i64 0,.int .i64 0,.int .i64 0,.int .i64 0]) (r:=[(0,.tmp 50)]) (l:=[_,_,_,_]) Ycj kr kr kr kr rfl rfl (.agg rfl .t kr kr .nil) rfl) r1 qz (qf (o_append (sz:=4) (bs:=32) 50 (.mk' Ycj kr kr) Wh .is (.arr (l':=[(⟨Z2 (Nn l i).src (ZaH (ZB (ZdY (l.take i) mask)) (Nn l i).src),Z2 (Nn l i).dst (ZaH (ZaH (ZB (ZdY (l.take i) mask)) (Nn l i).src) (Nn l i).dst),(Nn l i).kind,0⟩:ZV)]) .t) Wy XW) ⟨rfl,rfl,tv⟩ ⟨rfl,tv⟩ (qO rr qZ))))))))))))))) Z QF Qc fun τ G=>?_
   have G:=Xh
   generalize τ 52=v52 at G
   refine Ze (Za (rZ G (qp r1 (qR rr qZ)) Z QF Qc fun G=>?_))
   rw [Zin hil hBq] at G
   replace G:=G.eI 18 i
   obtain ⟨F,G⟩:=G.nM [17,16,7,6,5,1,8,18] J6
   exact ⟨((i+1),_,_),F,⟨ow,(by rw [hq];have h9:=Zoc hil hBq;rw [Zin hil hBq] at h9;exact h9)⟩,G,ow⟩
  have hBq:ZP mask (Nn l i)=false:=by unfold ZP ofB;simpa using hc1
  refine Yf (Ze (Za (rZ G (qp r1 (qR rr qZ)) Z QF Qc fun G=>?_)))
  rw [← ZnW hil hBq] at G
  replace G:=G.eI 18 i
  obtain ⟨F,G⟩:=G.nM [17,16,7,6,5,1,8,18] J6
  exact ⟨((i+1),_,_),F,⟨ow,(by rw [hq];unfold Zbt;rw [ZnW hil hBq])⟩,G,ow⟩
 have hil:i=l.length:=Wl
 rw [hil,YE] at hq G
 subst hq
 have hal2:(Zbt l mask).length≤l.length:=by have:=Zi3 l mask l.length;rwa [YE] at this
 obtain ⟨n,hne⟩:∃ n,(ZB (ZdY l mask)).length=n:=⟨_,rfl⟩
 have hn:n≤4096:=ow
 refine Yz (Zg (Zg (Zm (Za (Ya (Ya ?_))))))
 obtain ⟨⟨es,ck⟩,G⟩:=G.open_ex 102 rfl
 obtain ⟨hk,G⟩:=G.open_and 102 rfl
 replace G:=G.turn 102 rfl (r':=.ob (.val v15) (Zoa .i64 (fun _=>True) (fun n:Int=>Value.int .i64 n) es ck)) (fun _ _ _ _ h=>h)
 dsimp only at hk
 obtain ⟨F,G⟩:=G.nM JT KV
 refine Zc G (qR rr (qf (Zf1 102 underlying258 .is (by rw [hk.len];omega)) r1 r1 (qf (Zad .t qi) r1 qz qZ))) Z [56,8,7,6,5] KV rfl rfl fun a w F G=>?_
 rw [hk.len,hne] at G
 refine Za (Zb G rfl (fun hc2=>?_) (fun hc2=>?_))
 ·simp at hc2;omega
 refine Yf (Za (Ya (Zai 2 G kr (cG rfl (oM .t) r1 trivial (cG rfl (Zf1 102 underlying258 .is (by rw [hk.len];omega)) r1 r1 ChainN.nil)) kr WG fun a w F G=>?_)))
 obtain ⟨F,G⟩:=G.nM [61,8,6,5] KV
 try dsimp only [ZE,Zb5,Zq] at G
 rw [hk.len,hne] at G
 replace G:=G.fresh 104 rfl
 refine Zat G kr (cG rfl (ZbS 104 (Zuf (n:Int)) func174 rfl kr (Args.one .t) PV.ptr_one) r1 r1 (cG rfl (oN .t) r1 trivial ChainN.nil)) kr WG fun a w F G=>?_
 replace G:=G.sub
 obtain ⟨F,G⟩:=G.nM [11,8,6,5] Qr
 try dsimp only [RS.sub,SF.sub,CF.sub,csub,Anc.sub,List.map,ZE,Zb5,Zq] at G
 generalize Act.tau a 62=v62 at G
 obtain ⟨_,_,_,ho⟩:=G.obGet 104 rfl
 obtain ⟨gb,rfl⟩:=Zqe ho
 clear ho
 replace G:=G.turn 104 rfl (r':=RS.hp (Zp3 (List.replicate (roomN (n:Int)) []) (List.replicate (roomN (n:Int)) []) 0 (.pointer (some ⟨gb,0,none⟩)))) (fun _ _ _ _ h=>h)
 obtain ⟨F,G⟩:=G.nM [11,8,6,5] Qr
 rw [Zo3 hn] at G
 refine Za (Ya (Ya ?_))
 obtain ⟨F,G⟩:=G.give 50 8 rfl rfl
 obtain ⟨F,G⟩:=G.nM [11,8,6,5] Jp
 refine rZ G (qR rr (qu Ycj r1 (qJ qZ))) Z QY Jp fun G=>Yi ?_
 refine Zk (σ:=(Nat)×(List (List Zaj))×(List (List Zaj))×(Nat)) [5,6,8,11,63,64] [0,101,102] (fun s=>[(65,.pv (.int .i64 (s.1:Int)))]) (fun s=>[(104,RS.hp (Zp3 s.2.1 s.2.2.1 s.2.2.2 (.pointer (some ⟨gb,0,none⟩))))]) (fun s=>s.1≤(Zbt l mask).length∧(Zfj n (((Zbt l mask).take s.1).foldl (Zl9 n) []) s.2.1 s.2.2.1∧s.2.2.2≤s.1)) (fun s=>(Zbt l mask).length - s.1) ((0),_,_,(0)) G ⟨rfl,rfl,rfl,rfl,rfl,rfl,rfl,tv⟩ ⟨rfl,rfl,rfl,rfl,tv⟩ ⟨YA _,⟨Zfj.new n,YF 0⟩⟩ ?_
 clear G;intro s a w F hC G
 obtain ⟨i,O,I,m⟩:=s
 have hC:=X4
 obtain ⟨F,G⟩:=G.nM QY Jp
 have G:=X3
 obtain ⟨hi,hq⟩:=hC
 obtain ⟨hD,hm⟩:=hq
 have hEl:=ZhH (n:=n) ((Zbt l mask).take i) []
 rw [Yp,Yq] at hEl
 refine Ya (rZ G (qL r2) Z [66,65,64,63,11,8,6,5] Jp fun G=>Ya ?_)
 refine Zb G rfl (fun hc3=>?_) (fun hc3=>?_)
 ·have hil:i<(Zbt l mask).length:=Kb
  refine Yf (Za (Ya (Yi (Ya (rS G (qy 4 Ycj r2 (qf (oR true 4 .t) r1 qz (qf (oH [.int .i64 0,.int .i64 0,.int .i64 0,.int .i64 0] 105) trivial qz (qS 4 105 r2 r1 qZ)))) Z [65,64,63,13,11,8,6,5] Jv fun τ G=>?_)))))
  have G:=Xh
  generalize τ 13=v13 at G
  try simp only [Yg] at G
  refine Za (Zc G (qR rr (qe 4 105 r1 r1 (qf (o_callG1 104 (Zum gb O I m (Nn (Zbt l mask) i) (hD.on.r ow) (hD.inn.r ow) (by rw [hD.ol,hD.il]) (by rw [hD.ol];exact hn) ow) func175 rfl kr (Args.two .t (.pagg .t))) r2 r1 qZ))) Z QY Jv rfl rfl fun a w F G=>Ze (Za ?_))
  refine rZ G (qp r1 (qR rr qZ)) Z QY Jv fun G=>?_
  replace G:=G.eI 65 i
  obtain ⟨F,G⟩:=G.nM [64,63,11,8,6,5,65] [102,101,0,104]
  exact ⟨((i+1),_,_,_),F,⟨ow,⟨by rw [Zy hil,Ya2];exact (hD.step hn _ m).1,Yaa (hD.step hn _ m).2 ow⟩⟩,G,ow⟩
 have hil:i=(Zbt l mask).length:=Kb
 rw [hil,YE] at hD
 obtain ⟨L,hL⟩:=Ztm (adj:=Zgp O 14) n fun u y hy=>((hD.adjR 14).1 u y hy).1
 have hElen:((Zbt l mask).foldl (Zl9 n) []).length≤1000000:=by have:=ZhH (n:=n) (Zbt l mask) [];rw [Yq] at this;omega
 have hfin:(Zbt l mask).any (fun x=>decide (Nn L x.src.toNat=Nn L x.dst.toNat) && ZkJ must x.kind)=rb:=by
   rw [Yau,hr,Ybd,← Zr4 (n:=n) hD hne.symm (fun x=>by rw [← hne];exact Zmt x) hL]
   simp only [Yw,Yl]
   rfl
 refine Yz (Zg (Zg (Zm (Za (Ya ?_)))))
 obtain ⟨F,G⟩:=Sat.giveL (p:=Zk7 O I m) G 104 11 rfl rfl ZhR
 obtain ⟨F,G⟩:=G.nM [66,65,64,63,11,8,6,5] KP
 refine rS G (qR rr (qf (oP (ZqI n ((Zbt l mask).foldl (Zl9 n) []) O I m 14 hD hn hElen L hL) func176 (Args.two .t qi)) r1 qz (qf (oH [.slice none 0 0] 106) trivial qz (qf (ZZ 106 .same .t one_sl kr kr) r2 r1 qZ)))) Z [14,8,6,5] [106,102,101,0] fun τ G=>?_
 have G:=Xt
 generalize τ 14=v14 at G
 obtain ⟨F,G⟩:=G.giveRef 106 14 rfl rfl rfl
 obtain ⟨F,G⟩:=G.nM [14,8,6,5] KP
 have G:=XD
 obtain ⟨F,G⟩:=G.giveRef 101 5 rfl rfl rfl
 obtain ⟨F,G⟩:=G.nM [14,8,6,5] QP
 have G:=XD
 refine Za (Ya (rZ G (qR rr (qf (ZbV (Args.two .t .t)) r2 qz (qf (oP (Ztl (Zbt l mask) (fun x=>decide (Nn L x.src.toNat=Nn L x.dst.toNat) && ZkJ must x.kind) 178 f178 [.ref [.sl Zq L],.ref [.int .i64 must]] func178 rfl kr (fun x hx=>Zsk x L must (by rw [hL.1,← hne];exact (Zk1 hx).1) (by rw [hL.1,← hne];exact (Zk1 hx).2))) func177 (Args.two .t .t)) r2 qz (qO rr qZ)))) Z [6] QP fun G=>Yj ?_))
 refine Zo hfr G rfl rfl rfl (.bool hfin)
end Go.Proofs.YtolmpgbpdapaiaaGreat
namespace Go.Proofs.YtolmpgbpdapaiaaGreat
open Go Go.Gm Tryz
set_option linter.unusedVariables false
set_option linter.unusedSimpArgs false
set_option maxHeartbeats 4000000
set_option maxRecDepth 8000
open Go.RowKit Go.Maps Go.Sort Go.Shelf Go.ChangeMaps Go.MapKept
section
variable {F:Fence} {n:Nat} {P:Program} {ops:Array Oper} {rest:List Oper} {o:Oper} {a:Act} {w:World} {Q:Exit→Act→World→Prop}
theorem ZdS (hg:o.guard=none) (m:Operand) (t:TypeId) (hop:o.op=Op.range t m) (k e:TypeId) (ht:P.underlying t=some (.map k e)) (b:Nat) (es:Array MapEntry) (clock:Nat) (hm:a.eval m = .map (some b)) (hb:w.heap[b]? = some (.map es clock))
  (hK:wpListIn F n P ops Q rest (a.put o.dst (.pointer (some ⟨w.heap.size,0,none⟩))) (w.alloc (.mapIter (some b) clock #[] clock))):wpListIn F n P ops Q (o :: rest) a w:=by
 refine wpListIn_plain hg fun K' hK'=>?_
 unfold Oper.wpIn
 refine ⟨by simp [Oper.about,hop],?_⟩
 rw [Oper.semAt_plain F _ _ (by rw [hop];intro c hc';cases hc')]
 simp [execOp,hop,hm,run_range_map w t k e b es clock ht hb,Result.andThen]
 exact hK' _ _ hK
end
theorem Zon {w w1:World} {r b:Nat} {clock c0:Nat} {seen:Array Nat} {es:Array MapEntry} {x:Nat} (hal:w1=w∨w1=w.drew) (hr:w.heap[r]? = some (.mapIter (some b) clock seen c0)) (hb:w.heap[b]? = some (.map es clock)) (hne:r≠b) :
  (setBlock w1 r (.mapIter (some b) clock (seen.push x) clock)).heap[r]? = some (.mapIter (some b) clock (seen.push x) clock)∧(setBlock w1 r (.mapIter (some b) clock (seen.push x) clock)).heap[b]? = some (.map es clock)∧w.grownBy (setBlock w1 r (.mapIter (some b) clock (seen.push x) clock)) (some r):=by
 have hr1:w1.heap[r]? = some (.mapIter (some b) clock seen c0):=by rcases hal with rfl | rfl <;> exact hr
 have hb1:w1.heap[b]? = some (.map es clock):=by rcases hal with rfl | rfl <;> exact hb
 have hset:=heap_set (o':=.mapIter (some b) clock (seen.push x) clock) hr1
 refine ⟨hset.1,(hset.2 b (fun e1=>hne e1.symm)).trans hb1,?_⟩
 rcases hal with rfl | rfl <;> exact ⟨rfl,rfl,rfl,by simp [setBlock],fun i _ hi=>hset.2 i (fun e1=>hi (by rw [e1]))⟩
def ZrJ (es:Array MapEntry) (seen:Array Nat):Prop:=(leftOf es seen).size=0
structure ZrZ (P:Program) (w w2:World) (r b clock:Nat) (seen:Array Nat) (es:Array MapEntry) (e:MapEntry):Prop where
 left:e ∈ (leftOf es seen).toList
 it:w2.heap[r]? = some (.mapIter (some b) clock (seen.push e.born) clock)
 mp:w2.heap[b]? = some (.map es clock)
 grown:w.grownBy w2 (some r)
 entry:(Instr.entry (.pointer (some ⟨r,0,none⟩))).run P w2 = .ok (.tuple #[e.key,e.val]) w2
section
variable {F:Fence} {n:Nat} {P:Program} {ops:Array Oper} {rest:List Oper} {o:Oper} {a:Act} {w:World} {Q:Exit→Act→World→Prop}
theorem ZdZ (hg:o.guard=none) (it:Operand) (hop:o.op=Op.next it false) (r b clock c0:Nat) (seen:Array Nat) (es:Array MapEntry) (hit:a.eval it = .pointer (some ⟨r,0,none⟩))
  (hr:w.heap[r]? = some (.mapIter (some b) clock seen c0)) (hb:w.heap[b]? = some (.map es clock)) (hold:∀ x ∈ es.toList,x.born<clock) (hsc:clock≤c0) (hne:r≠b) (hnd:(es.toList.map (·.born)).Nodup)
  (hDone:ZrJ es seen→wpListIn F n P ops Q rest (a.put o.dst (.tuple #[.bool false])) w)
  (hMore:∀ (e:MapEntry) (w2:World),ZrZ P w w2 r b clock seen es e→wpListIn F n P ops Q rest (a.put o.dst (.tuple #[.bool true,e.key,e.val])) w2) :
  wpListIn F n P ops Q (o :: rest) a w:=by
 refine wpListIn_plain hg fun K' hK'=>?_
 unfold Oper.wpIn
 refine ⟨by simp [Oper.about,hop],?_⟩
 rw [Oper.semAt_plain F _ _ (by rw [hop];intro c hc';cases hc')]
 rcases run_next_at (P:=P) w o.type r b clock c0 seen es clock hr hb hold hsc with ⟨h0,hrun⟩ | ⟨e,he,w1,hal,hrun⟩
 ·simp [execOp,hop,hit,hrun,Result.andThen]
  exact hK' _ _ (hDone h0)
 ·simp [execOp,hop,hit,hrun,Result.andThen]
  obtain ⟨h1,h2,h3⟩:=Zon (x:=e.born) hal hr hb hne
  exact hK' _ _ (hMore e _ ⟨he,h1,h2,h3,run_entry_at _ r b clock seen es clock e h1 h2 (mem_left he).1 hnd⟩)
end
theorem ZjG:∀ {es:List MapEntry} {seen:Array Nat} {e:MapEntry},(es.map (·.born)).Nodup→e ∈ es→seen.contains e.born=false→(es.filter fun x=>(seen.push e.born).contains x.born).Perm (e :: es.filter fun x=>seen.contains x.born)
 | [],_,_,_,h,_=>by cases h
 | x :: es,seen,e,hn,hm,hs=>by
  rw [YG,YaT] at hn
  rcases Ym.1 hm with rfl | hm
  ·have hrest:(es.filter fun x=>(seen.push e.born).contains x.born)=es.filter fun x=>seen.contains x.born:=List.filter_congr fun y hy=>by
    rw [contains_push]
    have:(y.born == e.born)=false:=by
     simp
     intro h9
     exact hn.1 (h9 ▸ YB.2 ⟨y,hy,rfl⟩)
    rw [this,Bool.or_false]
   rw [YT (by rw [contains_push];simp),hrest,Y9 (by rw [hs];simp)]
  ·have ih:=ZjG hn.2 hm hs
   have hx:(x.born == e.born)=false:=by
    simp
    intro h9
    exact hn.1 (h9 ▸ YB.2 ⟨e,hm,rfl⟩)
   have hc:(seen.push e.born).contains x.born=seen.contains x.born:=by rw [contains_push,hx,Bool.or_false]
   cases hsx:seen.contains x.born with
   | true=>
    rw [YT (by rw [hc,hsx]),YT (by rw [hsx])]
    exact (ih.cons x).trans (List.Perm.swap e x _)
   | false=>
    rw [Y9 (by rw [hc,hsx];simp),Y9 (by rw [hsx];simp)]
    exact ih
theorem Zrb {es:Array MapEntry} {seen:Array Nat} (h:(leftOf es seen).size=0):(es.toList.filter fun x=>seen.contains x.born)=es.toList:=List.filter_eq_self.2 fun x hx=>all_seen es seen h x hx
theorem ZoG {es:List MapEntry} : (es.filter fun x=>(#[]:Array Nat).contains x.born) = []:=by
 rw [Ybk];simp
theorem Zop {es:Array MapEntry} : (leftOf es #[]).size=es.size:=by simp [leftOf]
end Go.Proofs.YtolmpgbpdapaiaaGreat
namespace Go.Proofs.YtolmpgbpdapaiaaGreat
open Go Go.Gm Tryz
set_option linter.unusedVariables false
set_option linter.unusedSimpArgs false
set_option maxHeartbeats 4000000
set_option maxRecDepth 8000
open Go.RowKit Go.Maps Go.Sort Go.Shelf Go.ChangeMaps Go.MapKept
def Zp6 (x:Zi):List Value:=[Value.int .i64 x.src,.int .i64 x.dst,.int .i64 x.kind,.int .i64 x.key]
def Zk3 (x:Zi):Value:=(.agg #[.int .i64 x.src,.int .i64 x.dst,.int .i64 x.kind,.int .i64 x.key])
def Zwq (v:Value):Zi:=match v with
 | .agg z=>match z.toList with
  | [.int _ b,.int _ c,.int _ d,.int _ e]=>⟨b,c,d,e⟩
  | _=>noE
 | _=>noE
theorem Zqb (x:Zi):Zwq (Zk3 x)=x:=rfl
theorem Zrl (x:Zi):∀ u ∈ [Value.int .i64 x.src,.int .i64 x.dst,.int .i64 x.kind,.int .i64 x.key],u.oneCell' = true:=by
 intro u hu
 simp at hu
 rcases hu with rfl | rfl | rfl | rfl <;> rfl
theorem ZnF {w:World} {y:Ys} : ∀ {l:List Zi},(∀ e ∈ l,∀ x ∈ Zag e,inR .i64 x)→PVs (l.flatMap ZE) (l.flatMap Zp6) w y
 | [],_=>trivial
 | e :: l,h=>by
  have h1:=h e XM
  unfold Zag at h1
  exact ⟨⟨rfl,rfl,h1 _ XM⟩,⟨rfl,rfl,h1 _ XM⟩,⟨rfl,rfl,h1 _ XM⟩,⟨rfl,rfl,h1 _ XM⟩,ZnF fun z hz=>h z W8⟩
set_option maxRecDepth 100000 in
set_option maxHeartbeats 1000000 in
theorem ZtN (F:Fence) (n:Nat) (h10:F.fn 183) (hro:F.round=none) (hn:1≤n) (l Bm off b clock:Nat) (es:Array MapEntry) (hnd:(es.toList.map (·.born)).Nodup) (hold:∀ x ∈ es.toList,x.born<clock) (hkv:∀ e ∈ es.toList,∃ k:Zi,e.key=Zk3 k) (J:List Zi→World→Prop)
  (hY:∀ pre x W,J pre W→pre.length<es.size→YieldAt F (n - 1) prog l #[Zk3 x] W fun e W'=>e = .returned (.bool true)∧J (pre ++ [x]) W' ∧ KeepsWalks W W')
  (W:World) (hJ:AbidesFrom W.heap.size J) (hm:W.cell? ⟨Bm,off,none⟩ = some (.map (some b))) (hb:W.heap[b]? = some (.map es clock)) (h0:J [] W) :
  CallsIn F n prog 183 #[.func (.yield l) #[] #[],.pointer (some ⟨Bm,off,none⟩)] W fun e W'=>(∃ v,e = .returned v) ∧ ∃ ss:List Zi,(ss.map Zk3).Perm (es.toList.map (·.key))∧J ss W':=by
 have hbl:b<W.heap.size:=(YV.1 hb).1
 refine callsIn_of_wp func183 rfl h10 ?_ hro
 simp only [ntmps183,YaF,Yh,Yq,Nat.reduceAdd,Nat.reduceSub,Array.replicate_succ,Array.replicate_zero,List.push_toArray,List.append_toArray,Yax,Yao]
 gi_wp2_with (first
  | (gi_at_range;refine ZdS rfl _ 154 rfl 116 3 kr b es clock rfl hb ?_)
  | gi_in)
 go_frame
 have hg0:W.grownBy (W.alloc (.mapIter (some b) clock #[] clock)) none:=World.grownBy_alloc W _ none
 have hr0:(W.alloc (.mapIter (some b) clock #[] clock)).heap[W.heap.size]? = some (.mapIter (some b) clock #[] clock):=World.alloc_heap_new W _
 have hb0:(W.alloc (.mapIter (some b) clock #[] clock)).heap[b]? = some (.map es clock):=(Below.heap_alloc _ _ b hbl).trans hb
 generalize W.alloc (.mapIter (some b) clock #[] clock)=w0 at hg0 hr0 hb0 ⊢
 gi_loopw [3] (fun _ wr=>∃ (seen:Array Nat) (c0:Nat) (ss:List Zi),wr.heap[W.heap.size]? = some (.mapIter (some b) clock seen c0)∧clock≤c0∧wr.heap[b]? = some (.map es clock)∧(ss.map Zk3).Perm ((es.toList.filter fun x=>seen.contains x.born).map (·.key))∧ss.length+(leftOf es seen).size≤es.size∧J ss wr)
  (fun _ wr=>(leftOf es (wr.iterSeen W.heap.size)).size)
 case atStart=>
  exact ⟨#[],clock,[],hr0,YF _,hb0,by rw [ZoG];exact .nil,by rw [Zop];simp,hJ [] W w0 none h0 hg0 (fun r e=>by cases e)⟩
 case round=>
  obtain ⟨seen,c0,ss,hr,hsc,hbr,hp,hcs,hJs⟩:=hrel
  gi_wp2_with (first
   | (gi_at_next;refine ZdZ rfl _ rfl W.heap.size b clock c0 seen es rfl hr hbr hold hsc ow hnd ?_ ?_)
   | gi_in)
  ·intro hl0
   gi_wp2
   go_end0
   exact ⟨⟨_,rfl⟩,ss,by rw [Zrb hl0] at hp;exact hp,hJs⟩
  ·intro e w2 hN
   obtain ⟨hem,hes⟩:=mem_left hN.left
   obtain ⟨x,hx⟩:=hkv e hem
   have hr2:=hN.it
   have hb2:=hN.mp
   have hen:=hN.entry
   have hlt:=left_shrinks es seen e hN.left
   have hJ2:J ss w2:=hJ ss wr w2 (some W.heap.size) hJs hN.grown (fun r e9=>by cases e9;exact ⟨YF _,_,hr,rfl⟩)
   rw [hx,show Zk3 x=(.agg #[.int .i64 x.src,.int .i64 x.dst,.int .i64 x.kind,.int .i64 x.key]) from rfl] at hen
   have hJ3:J ss (w2.alloc (.cells #[.int .i64 x.src,.int .i64 x.dst,.int .i64 x.kind,.int .i64 x.key] 116)):=hJ ss w2 _ none hJ2 (World.grownBy_alloc w2 _ none) (fun r e9=>by cases e9)
   have hr2b:(w2.alloc (.cells #[.int .i64 x.src,.int .i64 x.dst,.int .i64 x.kind,.int .i64 x.key] 116)).heap[W.heap.size]? = _:=(Below.heap_alloc _ _ _ (YV.1 hr2).1).trans hr2
   have hb2b:(w2.alloc (.cells #[.int .i64 x.src,.int .i64 x.dst,.int .i64 x.kind,.int .i64 x.key] 116)).heap[b]? = _:=(Below.heap_alloc _ _ _ (YV.1 hb2).1).trans hb2
   obtain ⟨fn,tmps,assign,body,hy,hR⟩:=hY ss x _ hJ3 ow
   rw [show Zk3 x=(.agg #[.int .i64 x.src,.int .i64 x.dst,.int .i64 x.kind,.int .i64 x.key]) from rfl] at hy
   rw [hx,show Zk3 x=(.agg #[.int .i64 x.src,.int .i64 x.dst,.int .i64 x.kind,.int .i64 x.key]) from rfl]
   clear hN
   gi_wp2
   refine hR.mono ?_
   rintro e9 W3 ⟨rfl,hJ4,hk3⟩
   gi_wp2
   have hr3:=hk3.same _ _ hr2b rfl
   have hb3:=hk3.same _ _ hb2b rfl
   go_roundw
   case rel=>
    exact ⟨seen.push e.born,clock,ss ++ [x],hr3,YF _,hb3,by
     rw [Y3,List.map_singleton]
     have h9:=((ZjG hnd hem hes).map (·.key)).symm
     rw [YG,hx] at h9
     exact ((List.perm_append_singleton _ _).trans (hp.cons _)).trans h9,by rw [Yc,YZ];omega,hJ4⟩
   case measure=>
    simp only [World.iterSeen,hr3,hr]
    exact hlt
end Go.Proofs.YtolmpgbpdapaiaaGreat
namespace Go.Proofs.YtolmpgbpdapaiaaGreat
open Go Go.Gm Tryz
set_option linter.unusedVariables false
set_option linter.unusedSimpArgs false
set_option maxHeartbeats 4000000
set_option maxRecDepth 8000
open Go.RowKit Go.Maps Go.Sort Go.Shelf Go.ChangeMaps Go.MapKept
theorem Zpy (w:World) (l:List Value) (t:TypeId):∀ j u,l[j]? = some u→(w.alloc (.cells l.toArray t)).cell? ((⟨w.heap.size,0,none⟩:Addr).add j)=some u:=by
 intro j u hj
 rw [show (⟨w.heap.size,0,none⟩:Addr).add j = ⟨w.heap.size,j,none⟩ from by cases j <;> simp [Addr.add]]
 rw [ZI (vs:=l.toArray) (T:=t) (fr:=(0,0)) (World.alloc_heap_new w _)]
 simpa using hj
def Zet : Code := (Code.region 2 #[{ dst := some 5, op := Op.alloc 116, type := 0, pos := "iter.go:51", after := #[], guard := none }, { dst := none, op := Op.store 116 (Operand.tmp 5) (Operand.tmp 7), type := 0, pos := "iter.go:51", after := #[{ on := 0, ground := Ground.data }, { on := 0, ground := Ground.phase }], guard := none }] false)
def ZhT : Code := (Code.block 1 (Code.region 3 #[{ dst := some 8, op := Op.load 60 (Operand.tmp 2), type := 60, pos := "iter.go:52", after := #[], guard := none }, { dst := some 9, op := Op.load 116 (Operand.tmp 5), type := 116, pos := "iter.go:52", after := #[], guard := none }, { dst := some 10, op := Op.buildSlice 60 1 #[(0, Operand.tmp 9)], type := 60, pos := "iter.go:52", after := #[{ on := 1, ground := Ground.data }], guard := none }, { dst := some 11, op := Op.call { callee := Callee.builtin Builtin.append, args := #[Operand.tmp 8, Operand.tmp 10], argTypes := #[60, 60] }, type := 60, pos := "iter.go:52", after := #[{ on := 0, ground := Ground.data }, { on := 2, ground := Ground.data }], guard := none }, { dst := none, op := Op.store 60 (Operand.tmp 2) (Operand.tmp 11), type := 0, pos := "iter.go:52", after := #[{ on := 3, ground := Ground.data }, { on := 3, ground := Ground.chain }, { on := 0, ground := Ground.phase }, { on := 1, ground := Ground.phase }, { on := 2, ground := Ground.phase }, { on := 3, ground := Ground.phase }], guard := none }] false))
def kcApRec (fn:FuncId) (sv:Value) (Bs D:Nat) (st:LoopState) (pend:Option Code):Loop:=
 { state:=st,pending:=pend,fn,tmps:=#[.slice none 0 0,sv,.pointer (some ⟨Bs,0,none⟩),undef,.slice none 0 0,undef,sv,undef,undef,undef,undef,undef,undef],params:=#[7],assign:=Zet,body:=ZhT,defers:=D }
structure ZgZ (w0:World) (fn:FuncId) (sv:Value) (Bs l D:Nat) (ss:List Zi) (W:World):Prop where
 box:∃ v,W.heap[Bs]? = some (.cells #[v] 60 (0,0))∧W.ownsRow w0.heap.size 116 4 v ss.length (ss.flatMap Zp6)∧(v = .slice none 0 0 ↔ ss = [])
 L:W.heap[l]? = some (.loop (kcApRec fn sv Bs D .ready none))
 K:W.heap[D]? = some (.deferred (some []))
 below:Below w0.heap.size w0 W
theorem ZfG (w0:World) (fn:FuncId) (sv:Value) (Bs l D B:Nat) (Z:w0.heap.size≤B):AbidesFrom B (ZgZ w0 fn sv Bs l D):=fun s W W' row h hg hrow=>by
 have hrow':∀ r,row=some r → ∃ o:Obj,W.heap[r]? = some o∧o.isWalk=true:=fun r e=>(hrow r e).2
 obtain ⟨v,hv,hr,hn⟩:=h.box
 exact ⟨⟨v,(grownBy_keeps hg hrow' hv rfl).trans hv,ownsRow_abides_a hr hg hrow',hn⟩,(grownBy_keeps hg hrow' h.L rfl).trans h.L,(grownBy_keeps hg hrow' h.K rfl).trans h.K,
  h.below.grown hg h.below.size (fun k e=>Yaa Z (hrow k e).1)⟩
set_option maxRecDepth 100000 in
set_option maxHeartbeats 2000000 in
theorem ZoO (F:Fence) (m:Nat) (w0:World) (fn:FuncId) (hfn:F.fn fn) (sv:Value) (Bs l D:Nat) (hBl:Bs≠l) (hDl:D≠l) (hDB:D≠Bs) (h0B:w0.heap.size≤Bs) (h0l:w0.heap.size≤l)
   (N:Nat) (hN:N≤maxLen) (hNb:N*32≤140737488355328) (ss:List Zi) (x:Zi) (W:World) (h:ZgZ w0 fn sv Bs l D ss W) (hlen:ss.length<N) :
   YieldAt F m prog l #[(.agg #[.int .i64 x.src,.int .i64 x.dst,.int .i64 x.kind,.int .i64 x.key])] W fun e W'=>e = .returned (.bool true)∧ZgZ w0 fn sv Bs l D (ss ++ [x]) W' ∧ KeepsWalks W W':=by
 have hne:60≠116:=XW
 obtain ⟨i0,hi,hz0,hz1,hz2⟩:=info_parts (show (prog.info? 116).map (fun i=>(i.zero,i.size,i.bytes))=some (some (.agg #[.int .i64 0,.int .i64 0,.int .i64 0,.int .i64 0]),4,32) from by kernel_rfl)
 obtain ⟨v,hv,hrow,_⟩:=h.box
 refine ⟨fn,#[.slice none 0 0,sv,.pointer (some ⟨Bs,0,none⟩),undef,.slice none 0 0,undef,sv,(.agg #[.int .i64 x.src,.int .i64 x.dst,.int .i64 x.kind,.int .i64 x.key]),undef,undef,undef,undef,undef],Zet,ZhT,by simpa [kcApRec] using run_yield (P:=prog) (args:=#[(.agg #[.int .i64 x.src,.int .i64 x.dst,.int .i64 x.kind,.int .i64 x.key])]) h.L rfl,roundIn_of_wpIn hfn ?_⟩
 have hb9:ZgZ w0 fn sv Bs l D ss (W.alloc (.cells #[.int .i64 x.src,.int .i64 x.dst,.int .i64 x.kind,.int .i64 x.key] 116)):=ZfG w0 fn sv Bs l D w0.heap.size (YF _) ss W _ none h (World.grownBy_alloc W _ none) (fun r e=>by cases e)
 obtain ⟨v,hv,hrow,_⟩:=hb9.box
 have hl:l<(W.alloc (.cells #[.int .i64 x.src,.int .i64 x.dst,.int .i64 x.kind,.int .i64 x.key] 116)).heap.size:=(YV.1 hb9.L).1
 have hbr:=run_beginRound (P:=prog) hb9.L rfl
 obtain ⟨W2,hW2⟩:∃ W2,(W.alloc (.cells #[.int .i64 x.src,.int .i64 x.dst,.int .i64 x.kind,.int .i64 x.key] 116)).putObj l (.loop { kcApRec fn sv Bs D .ready none with state:=.busy })=W2:=⟨_,rfl⟩
 rw [hW2] at hbr
 have hg2:(W.alloc (.cells #[.int .i64 x.src,.int .i64 x.dst,.int .i64 x.kind,.int .i64 x.key] 116)).grownBy W2 (some l):=by rw [← hW2];exact grownBy_putObj_a _ _ _
 have hk2:KeepsWalks (W.alloc (.cells #[.int .i64 x.src,.int .i64 x.dst,.int .i64 x.kind,.int .i64 x.key] 116)) W2:=by rw [← hW2];exact KeepsWalks.putObj _ hb9.L rfl
 have hv2:W2.heap[Bs]? = some (.cells #[v] 60 (0,0)):=by rw [← hW2];exact (World.putObj_heap_other hBl).trans hv
 have hK2:W2.heap[D]? = some (.deferred (some [])):=by rw [← hW2];exact (World.putObj_heap_other hDl).trans hb9.K
 have hL2:W2.heap[l]? = some (.loop { kcApRec fn sv Bs D .ready none with state:=.busy }):=by rw [← hW2];exact World.putObj_heap_same hl
 have hrow2:W2.ownsRow w0.heap.size 116 4 v ss.length (ss.flatMap Zp6):=hrow.kept hg2 (ownsRow_ne_a hrow hb9.L (fun cur e=>by first | cases e | exact hne (YbA e).2.1))
 have hb2:Below w0.heap.size w0 W2:=hb9.below.grown hg2 hb9.below.size (fun k e=>by cases e;exact h0l)
 obtain ⟨hc2,hf2⟩:=cell_of_box_a hv2
 have hBlt:Bs<W2.heap.size:=(YV.1 hv2).1
 have hl2:l<W2.heap.size:=(YV.1 hL2).1
 have hDlt:D<W2.heap.size:=(YV.1 hK2).1
 have ne_of:∀ {j:Nat} {o:Obj},W2.heap[j]? = some o→(∀ cur,o ≠ .cells cur 116 (0,0))→some j≠v.ownBlock:=fun hj hno=>by
   rcases ownsRow_ne_a hrow2 hj hno with e | e
   · rw [e];simp
   · exact fun e'=>e e'.symm
 have hx2:W2.heap[W.heap.size]? = some (.cells #[.int .i64 x.src,.int .i64 x.dst,.int .i64 x.kind,.int .i64 x.key] 116 (0,0)):=by rw [← hW2];exact (World.putObj_heap_other (by have:=(YV.1 h.L).1;omega)).trans (World.alloc_heap_new W _)
 have cb0:W2.cell? ⟨W.heap.size,0,none⟩ = some _:=(ZI hx2 _).trans rfl
 have cb1:W2.cell? ⟨W.heap.size,1,none⟩ = some _:=(ZI hx2 _).trans rfl
 have cb2:W2.cell? ⟨W.heap.size,2,none⟩ = some _:=(ZI hx2 _).trans rfl
 have cb3:W2.cell? ⟨W.heap.size,3,none⟩ = some _:=(ZI hx2 _).trans rfl
 clear hW2
 unfold Zet
 gi_wp2_with gi_round_op_a
 unfold ZhT
 gi_wp2_with (first
   | (gi_at_builtin;refine wpListIn_append_own _ rfl _ _ 60 rfl w0.heap.size 116 i0 (.agg #[.int .i64 0,.int .i64 0,.int .i64 0,.int .i64 0]) 4 32 Yb0 hi hz0 hz1 hz2 rfl XW _ _ _ rfl (hrow2.alloc _) ⟨W2.heap.size,0,none⟩ 1 1 ([.int .i64 x.src,.int .i64 x.dst,.int .i64 x.kind,.int .i64 x.key]) rfl rfl (Zpy _ _ _) (Zrl x) ow ow (by have:=hb2.size;simp;omega) ?_;intro v' w3 hown' hg3 hnil3
      have hv3:w3.heap[Bs]? = some (.cells #[v] 60 (0,0)):=(hg3.block Bs XT (ne_of hv2 (fun cur e=>by first | cases e | exact hne (YbA e).2.1))).trans ((Below.heap_alloc _ _ Bs hBlt).trans hv2)
      obtain ⟨hc3,hf3⟩:=cell_of_box_a hv3
      obtain ⟨g',cap',cur',rfl,hbase',hgb',hr1,hr2,hr3,hr4⟩:∃ g' cap' cur',v' = .slice (some ⟨g',0,none⟩) (ss.length+1) cap' ∧ w0.heap.size≤g' ∧ w3.heap[g']? = some (.cells cur' 116 (0,0))∧ss.length+1≤cap' ∧ cap' ≤ maxLen∧cur'.size=cap' * 4∧cur'.toList.take ((ss.length+1)*4)=ss.flatMap Zp6 ++ [.int .i64 x.src,.int .i64 x.dst,.int .i64 x.kind,.int .i64 x.key]:=by
        rcases hown'.2 with ⟨_,h0⟩ | h'
        · exact absurd h0 ow
        · exact h'
      go_frame)
   | gi_round_op_a)
 have hg3':(W2.alloc (.cells ([.int .i64 x.src,.int .i64 x.dst,.int .i64 x.kind,.int .i64 x.key]).toArray 116)).grownBy w3 v.ownBlock:=hg3
 have hL3:w3.heap[l]? = some (.loop { kcApRec fn sv Bs D .ready none with state:=.busy }):=(hg3'.block l XT (ne_of hL2 (fun cur e=>by first | cases e | exact hne (YbA e).2.1))).trans ((Below.heap_alloc _ _ l hl2).trans hL2)
 have hK3:w3.heap[D]? = some (.deferred (some [])):=(hg3'.block D XT (ne_of hK2 (fun cur e=>by first | cases e | exact hne (YbA e).2.1))).trans ((Below.heap_alloc _ _ D hDlt).trans hK2)
 obtain ⟨w4,hw4⟩:∃ w4,w3.setCell ⟨Bs,0,none⟩ (.slice (some ⟨g',0,none⟩) (ss.length+1) cap')=w4:=⟨_,rfl⟩
 rw [hw4]
 have hg4:w3.grownBy w4 (some Bs):=by rw [← hw4];exact grownBy_setCell0_a _ _ _
 have hv4:w4.heap[Bs]? = some (.cells #[.slice (some ⟨g',0,none⟩) (ss.length+1) cap'] 60 (0,0)):=by rw [← hw4];exact heap_setCell_box_a _ hv3
 have hL4:w4.heap[l]? = some (.loop { kcApRec fn sv Bs D .ready none with state:=.busy }):=(hg4.block l (YV.1 hL3).1 (fun e=>hBl (by cases e;rfl))).trans hL3
 have hK4:w4.heap[D]? = some (.deferred (some [])):=(hg4.block D (YV.1 hK3).1 (fun e=>hDB (by cases e;rfl))).trans hK3
 have hrow4:=hown'.kept hg4 (ownsRow_ne_a hown' hv3 (fun cur e=>by first | cases e | exact hne (YbA e).2.1))
 have hl4:l<w4.heap.size:=(YV.1 hL4).1
 have hb3:Below w0.heap.size w0 w3:=(hb2.alloc hb2.size _).grown hg3' (by have:=hb2.size;simp;omega) (fun k e=>(hrow2.lt k e).1)
 have hb4:Below w0.heap.size w0 w4:=hb3.grown hg4 hb3.size (fun k e=>by cases e;exact h0B)
 have hk4:KeepsWalks (W.alloc (.cells #[.int .i64 x.src,.int .i64 x.dst,.int .i64 x.kind,.int .i64 x.key] 116)) w4:=((hk2.trans (KeepsWalks.alloc _ _)).trans (KeepsWalks.of_grownBy hg3' (ownsRow_not_walk_a (hrow2.alloc _)))).trans (by rw [← hw4];exact KeepsWalks.setCell _ _ _)
 clear hw4
 refine ⟨_,_,run_endRound none hL4,rfl,⟨⟨_,(World.putObj_heap_other hBl).trans hv4,?_,by simp⟩,World.putObj_heap_same hl4,(World.putObj_heap_other hDl).trans hK4,hb4.grown (grownBy_putObj_a _ _ _) hb4.size (fun k e=>by cases e;exact h0l)⟩,((KeepsWalks.alloc _ _).trans hk4).trans (KeepsWalks.putObj _ hL4 rfl)⟩
 have:=hrow4.kept (grownBy_putObj_a w4 l (.loop { { kcApRec fn sv Bs D .ready none with state:=.busy } with state:=if (none:Option Code).isNone then .ready else .done,pending:=none })) (ownsRow_ne_a hrow4 hL4 (fun cur e=>by first | cases e | exact hne (YbA e).2.1))
 rw [Y2,show [x].flatMap Zp6 = [.int .i64 x.src,.int .i64 x.dst,.int .i64 x.kind,.int .i64 x.key] from rfl,Yc]
 simpa using this
set_option maxRecDepth 100000 in
set_option maxHeartbeats 2000000 in
theorem Zgz (F:Fence) (n:Nat) (h11:F.fn 182) (hro:F.round=none) (hn:2≤n) (g:Nat) (lb:Array Value) (hFg:F.fn g) (eg:∀ args w,(callFunc g args).run prog w = .ok (.enter g args) w)
  (S:List Zi→Prop) (N:Nat) (hN:N≤maxLen) (hNb:N*32≤140737488355328) (w:World) (hseq:SeqGives F (n - 1) prog g lb Zk3 S N w) :
  CallsIn F n prog 182 #[.slice none 0 0,.func (.func g) #[] lb] w fun e w'=>∃ (v:Value) (ss:List Zi),e = .returned v∧S ss∧w'.ownsRow w.heap.size 116 4 v ss.length (ss.flatMap Zp6)∧(v = .slice none 0 0 ↔ ss = [])∧Below w.heap.size w w':=by
 have h1:1≤n:=ow
 have hne:60≠116:=XW
 refine callsIn_of_wp_marks func182 rfl h11 ?_ hro
 simp only [ntmps182,YaF,Yh,Yq,Nat.reduceAdd,Nat.reduceSub,Array.replicate_succ,Array.replicate_zero,List.push_toArray,List.append_toArray,Yax,Yao]
 gi_wp2
 refine wpIn_rangeFunc ?_
 intro fn hfn
 rw [hro]
 obtain ⟨W0,hW0⟩:∃ W0,w.alloc (.cells #[.slice none 0 0] 60)=W0:=⟨_,rfl⟩
 have hs0:W0.heap.size=w.heap.size+1:=by rw [← hW0];simp
 have hv0:W0.heap[w.heap.size]? = some (.cells #[.slice none 0 0] 60 (0,0)):=by rw [← hW0];exact World.alloc_heap_new w _
 have hb0:Below w.heap.size w W0:=by rw [← hW0];exact (Below.refl _ w).alloc (YF _) _
 rw [hW0]
 obtain ⟨W1,hW1⟩:∃ W1,(W0.alloc (.deferred (some []))).alloc (.loop (kcApRec fn (.func (.func g) #[] lb) w.heap.size W0.heap.size .ready none))=W1:=⟨_,rfl⟩
 have hold:∀ k,k<W0.heap.size→W1.heap[k]? = W0.heap[k]?:=fun k hk=>by
  rw [← hW1];exact (Below.heap_alloc _ _ k XT).trans (Below.heap_alloc _ _ k hk)
 have hb1:Below w.heap.size w W1:=by rw [← hW1];exact (hb0.alloc hb0.size _).alloc (by have:=hb0.size;simp;omega) _
 have hs1:W1.heap.size=W0.heap.size+2:=by rw [← hW1];simp
 have hM:ZgZ w fn (.func (.func g) #[] lb) w.heap.size (W0.heap.size+1) W0.heap.size [] W1:=
  ⟨⟨_,(hold w.heap.size ow).trans hv0,⟨rfl,.inl ⟨rfl,rfl⟩⟩,by simp⟩,
   by rw [← hW1];have:=World.alloc_heap_new (W0.alloc (.deferred (some []))) (.loop (kcApRec fn (.func (.func g) #[] lb) w.heap.size W0.heap.size .ready none));rwa [World.size_alloc] at this,
   by rw [← hW1];exact (Below.heap_alloc _ _ _ XM).trans (World.alloc_heap_new W0 _),hb1⟩
 refine ⟨W0.heap.size+1,[{ target:=.collected W0.heap.size,args:=#[] }],W1,{ target:=.fn (.func g) lb,args:=#[.func (.yield (W0.heap.size+1)) #[] #[]] },W1,g,
  #[.func (.yield (W0.heap.size+1)) #[] #[]] ++ lb,W1,?_,?_,?_,?_,fun _=>h1,?_⟩
 ·rw [← hW1];exact run_enterLoop_outer _ _ _ _ _
 ·simp [resolve,go_sem]
 ·intro f' hf';simp [Target.leads] at hf';subst hf';exact hFg
 ·simp [invoke,go_sem,eg]
 ·refine (hseq (W0.heap.size+1) (ZgZ w fn (.func (.func g) #[] lb) w.heap.size (W0.heap.size+1) W0.heap.size) W1 hb1 (ZfG _ _ _ _ _ _ _ hb1.size)
    (fun pre x W hJ hl=>ZoO F (n - 1 - 1) w fn hfn _ w.heap.size (W0.heap.size+1) W0.heap.size ow ow ow (YF _) ow N hN hNb pre x W hJ hl) hM).mono ?_
  rintro e W2 ⟨⟨v0,rfl⟩,ss,G,h2⟩
  obtain ⟨v,hv,hrow,hnil⟩:=h2.box
  have hend:=run_endLoop (P:=prog) h2.L (by simp [kcApRec])
  obtain ⟨W3,hW3⟩:∃ W3,W2.putObj (W0.heap.size+1) (.loop { kcApRec fn (.func (.func g) #[] lb) w.heap.size W0.heap.size .ready none with state:=.exhausted })=W3:=⟨_,rfl⟩
  rw [hW3] at hend
  have hg3:W2.grownBy W3 (some (W0.heap.size+1)):=by rw [← hW3];exact grownBy_putObj_a _ _ _
  have hv3:W3.heap[w.heap.size]? = some (.cells #[v] 60 (0,0)):=by rw [← hW3];exact (World.putObj_heap_other ow).trans hv
  have hK3:W3.heap[W0.heap.size]? = some (.deferred (some [])):=by rw [← hW3];exact (World.putObj_heap_other ow).trans h2.K
  have hrow3:=hrow.kept hg3 (ownsRow_ne_a hrow h2.L (fun cur e=>by first | cases e | exact hne (YbA e).2.1))
  have hb3:Below w.heap.size w W3:=h2.below.grown hg3 h2.below.size (fun k e=>by cases e;omega)
  obtain ⟨hc3,hf3⟩:=cell_of_box_a hv3
  clear hW3
  refine ⟨none,W3,hend,?_⟩
  gi_wp2
  rw [← hs0]
  refine ⟨by simp,.inl ⟨_,_,rfl,run_takeDeferred hK3,?_⟩⟩
  exact ⟨_,results_tmp rfl _ _ _,v,ss,rfl,G,hrow3.kept (grownBy_putObj_a _ _ _) (ownsRow_ne_a hrow3 hK3 (fun cur e=>by first | cases e | exact hne (YbA e).2.1)),hnil,hb3.grown (grownBy_putObj_a _ _ _) hb3.size (fun k e=>by cases e;omega)⟩
set_option maxHeartbeats 1000000 in
theorem Zi5 (F:Fence) (n:Nat) (h8:F.fn 125) (h11:F.fn 182) (hro:F.round=none) (hn:3≤n) (g:Nat) (lb:Array Value) (hFg:F.fn g) (eg:∀ args w,(callFunc g args).run prog w = .ok (.enter g args) w)
  (S:List Zi→Prop) (N:Nat) (hN:N≤maxLen) (hNb:N*32≤140737488355328) (w:World) (hseq:SeqGives F (n - 1 - 1) prog g lb Zk3 S N w) :
  CallsIn F n prog 125 #[.func (.func g) #[] lb] w fun e w'=>∃ (v:Value) (ss:List Zi),e = .returned v∧S ss∧w'.ownsRow w.heap.size 116 4 v ss.length (ss.flatMap Zp6)∧(v = .slice none 0 0 ↔ ss = [])∧Below w.heap.size w w':=by
 have h1:1≤n:=ow
 have e11:∀ args w,(callFunc 182 args).run prog w = .ok (.enter 182 args) w:=enters_of func182 kr rfl
 refine callsIn_of_wp func125 rfl h8 ?_ hro
 simp only [ntmps125,YaF,Yh,Yq,Nat.reduceAdd,Nat.reduceSub,Array.replicate_succ,Array.replicate_zero,List.push_toArray,List.append_toArray,Yax,Yao]
 gi_wp2_with (gi_at_fn 182;refine (Zgz F (n - 1) h11 hro ow g lb hFg eg S N hN hNb _ hseq).mono ?_;rintro e w' ⟨v,ss,rfl,G,hrow,hnil,hb⟩)
 go_ret
 exact ⟨v,ss,rfl,G,hrow,hnil,hb⟩
end Go.Proofs.YtolmpgbpdapaiaaGreat
namespace Go.Proofs.YtolmpgbpdapaiaaGreat
open Go Go.Gm Tryz
set_option linter.unusedVariables false
set_option linter.unusedSimpArgs false
set_option maxHeartbeats 4000000
set_option maxRecDepth 8000
open Go.RowKit Go.Maps Go.Sort Go.Shelf Go.ChangeMaps Go.MapKept
theorem ZrB {α:Type} {enc:α→Value} {dec:Value→α} (h:∀ x,dec (enc x)=x) {l m:List α} (hp:(l.map enc).Perm (m.map enc)):l.Perm m:=by
 have h1:=hp.map dec
 rw [Yba,Yba] at h1
 have e:dec ∘ enc=id:=by funext x;exact h x
 rwa [e,List.map_id,List.map_id] at h1
theorem Zkx {ν:Type} (ek:ν→PV) (mv:Value) (es:List (GE Zi ν)) (ck:Nat) (hN:es.length≤1000000000):FnG prog 125 2 [.clos 183 [.ref [.is mv]]] [mapG ek (fun k=>∀ x ∈ Zag k,inR .i64 x) (kvS Zag) es ck mv,.star []] PV.one (fun v=>[mapG ek (fun k=>∀ x ∈ Zag k,inR .i64 x) (kvS Zag) es ck mv,.ex fun l:List Zi=>.and (l.Perm (es.map (·.key))) (Zz 116 4 ZE l v)]):=fun w F vs hw hle hvs hpr=>by
 match vs,hvs with
 | [fv],hvs=>
  obtain ⟨caps,hfv,hcaps⟩:=hvs.1
  match caps,hcaps with
  | [cu],hcaps=>
   obtain ⟨Bm,off,us,hcu,hny,hBm,hc,hus⟩:=hcaps.1
   match us,hus with
   | [mu],hus=>
    have hmu:mu=mv:=hus.1.2.1
    subst hmu
    subst hcu
    subst hfv
    obtain ⟨b,rs,hmv,hb,hg,⟨hwf,hkeys⟩,hf⟩:=hpr 0 _ rfl
    have hst:∀ c,¬ F 2 c:=hpr 1 _ rfl
    subst hmv
    have hbl:b<w.heap.size:=(YV.1 hb).1
    have hm:w.cell? ⟨Bm,off,none⟩ = some (.map (some b)):=hc.1
    have hkm:rs.map (·.key)=es.map (·.key):=hg.keys
    have hbm:rs.map (·.born)=es.map (·.born):=hg.borns
    have hnd:(((rs.map (rEnc (kvS Zag))).toArray).toList.map (·.born)).Nodup:=by
     have e1:((rs.map (rEnc (kvS Zag))).toArray).toList.map (·.born)=rs.map (·.born):=by rw [Yba];rfl
     rw [e1,hbm];exact hwf.1
    have hold:∀ x ∈ ((rs.map (rEnc (kvS Zag))).toArray).toList,x.born<ck:=fun x hx=>by
     obtain ⟨r,hr,rfl⟩:=YB.1 hx
     have h1:r.born ∈ es.map (·.born):=hbm ▸ YB.2 ⟨r,hr,rfl⟩
     obtain ⟨e,he,e1⟩:=YB.1 h1
     show r.born<ck
     rw [← e1];exact hwf.2 e he
    have hkv:∀ x ∈ ((rs.map (rEnc (kvS Zag))).toArray).toList,∃ k:Zi,x.key=Zk3 k:=fun x hx=>by
     obtain ⟨r,_,rfl⟩:=YB.1 hx
     exact ⟨r.key,rfl⟩
    have hlen:((rs.map (rEnc (kvS Zag))).toArray).size=es.length:=by
     have h1:=Y8 List.length hkm
     simp at h1 ⊢;exact h1
    have hseq:SeqGives Fence.wide 10 prog 183 #[.pointer (some ⟨Bm,off,none⟩)] Zk3 (fun ss=>(ss.map Zk3).Perm (((rs.map (rEnc (kvS Zag))).toArray).toList.map (·.key))) ((rs.map (rEnc (kvS Zag))).toArray).size w:=fun l J W hW hJ hY h0=>
     ZtN Fence.wide 10 trivial rfl ow l Bm off b ck _ hnd hold hkv J hY W hJ ((hW.cell (p:=⟨Bm,off,none⟩) hBm).trans hm) ((hW.block b hbl).trans hb) h0
    have eg:∀ args w,(callFunc 183 args).run prog w = .ok (.enter 183 args) w:=enters_of func183 kr rfl
    have hcalls:=callsIn_wide.1 (Zi5 Fence.wide 12 trivial trivial rfl ow 183 #[.pointer (some ⟨Bm,off,none⟩)] trivial eg _ _ (by rw [hlen];unfold maxLen;omega) (by rw [hlen];omega) w hseq)
    refine hcalls.mono ?_
    rintro e w' ⟨v,ss,rfl,G,hrow,hnil,hbel⟩
    have hss:ss.Perm (es.map (·.key)):=by
     have e1:((rs.map (rEnc (kvS Zag))).toArray).toList.map (·.key)=(es.map (·.key)).map Zk3:=by
      rw [← hkm,Yba,Yba];rfl
     rw [e1] at G
     exact ZrB Zqb G
    have hown:∀ c,v.ownBlock=some c→w.heap.size≤c∧c<w'.heap.size:=fun c hc9=>by
     rcases hrow.2 with ⟨rfl,_⟩ | ⟨g,cap,cur,rfl,hbase,hgb,_⟩
     ·simp [Value.ownBlock] at hc9
     ·simp [Value.ownBlock] at hc9
      subst hc9
      exact ⟨hbase,(YV.1 hgb).1⟩
    have hrow0:w'.ownsRow 0 116 4 v ss.length (ss.flatMap Zp6):=⟨hrow.1,by
     rcases hrow.2 with h | ⟨g,cap,cur,h1,_,h3⟩
     ·exact .inl h
     ·exact .inr ⟨g,cap,cur,h1,YA _,h3⟩⟩
    have hst2:Stp (List.range' 1 2) w F w' (fun n c=>F n c∨(n=2∧v.ownBlock=some c)):=⟨hbel.os,hbel.tape,hbel.output,hbel.size,fun c hc9 _=>hbel.block c hc9,fun n hn=>by
      funext c
      have:n≠2:=fun e=>hn (by subst e;simp)
      simp [this],fun n hn c hc9=>by
      rcases hc9 with h | ⟨_,h⟩
      ·exact .inl ⟨n,hn,h⟩
      ·exact .inr (hown c h).1⟩
    refine ⟨v,_,rfl,⟨fun n m c h1 h2=>?_,fun n c h1=>?_⟩,hst2,fun n c h1=>?_,?_,fun i h hi=>?_⟩
    ·rcases h1 with h1 | ⟨h1,h1'⟩ <;> rcases h2 with h2 | ⟨h2,h2'⟩
     ·exact hw.dis n m c h1 h2
     ·have:=hw.bd n c h1;have:=(hown c h2').1;omega
     ·have:=hw.bd m c h2;have:=(hown c h1').1;omega
     ·omega
    ·rcases h1 with h1 | ⟨_,h1⟩
     ·have:=hw.bd n c h1;have:=hbel.size;omega
     ·exact (hown c h1).2
    ·rcases h1 with h1 | ⟨h1,_⟩
     ·exact hle n c h1
     ·omega
    ·show v.oneCell' = true
     rcases hrow.2 with ⟨rfl,_⟩ | ⟨g,cap,cur,rfl,_⟩ <;> rfl
    ·match i,hi with
     | 0,hi=>
      simp only [Yby,YX] at hi
      subst hi
      exact ⟨b,rs,rfl,(hbel.block b hbl).trans hb,hg.mono hst2.ev,⟨hwf,hkeys⟩,fun c=>by rw [← hf c];simp⟩
     | 1,hi=>
      simp only [List.getElem?_cons_succ,Yby,YX] at hi
      subst hi
      refine ⟨ss,hss,ss.flatMap Zp6,hrow0,ZnF fun x hx=>?_,fun c=>?_⟩
      ·obtain ⟨e,he,e1⟩:=YB.1 (hss.mem_iff.1 hx)
       rw [← e1];exact hkeys e he
      ·have:=hst c
       simp [this]
end Go.Proofs.YtolmpgbpdapaiaaGreat
