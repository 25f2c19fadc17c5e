/- Walks: objects that are lent. No condition. -/
import Derived.Test.YtolmpgbpdapaiaaGreatLibY
import Derived.Test.YtolmpgbpdapaiaaGreatLibP
namespace Go.Gm
set_option linter.unusedVariables false
set_option linter.unusedSimpArgs false
def Zs1 (h:HP) (v:Value) (pv:PV):Prop:=∀ w f y y',h.p w f y→(∀ b,y' b→y b)→(∀ b,f b→¬ y' b)→(∀ b,f b→b<w.heap.size)→pv.p v w y'
def lendSF (v:Value):SF→SF
 | .pv _=>.pv (.is v)
 | .when c s=>.when c (lendSF v s)
 | s=>s
def lendPs (is:List Nat) (v:Value):List (Nat×SF)→List (Nat×SF)
 | []=>[]
 | x :: l=>(match is.contains x.1 with | true=>(x.1,lendSF v x.2) | false=>x) :: lendPs is v l
def lentSF (pv:PV):SF→Prop
 | .pv p=>p=pv
 | .when _ (.pv p)=>p=pv
 | _=>False
def LentOk (is:List Nat) (pv:PV):List (Nat×SF)→Prop
 | []=>True
 | x :: l=>(match is.contains x.1 with | true=>lentSF pv x.2 | false=>True)∧LentOk is pv l
theorem Zg8 {is:List Nat} {v:Value} {pv:PV} {τ:Tau} {w:World} {y y':Ys} (hp:pv.p v w y') (hle:∀ b,y' b→y b):∀ {ps:List (Nat×SF)},LentOk is pv ps→Hps (lendPs is v ps) τ w y→Hps ps τ w y'
 | [],_,_=>fun x hx=>by cases hx
 | x :: l,hk,h=>by
  intro z hz
  rcases Ym.1 hz with rfl | hz
  ·have h1:=h _ (by unfold lendPs;exact Yay ..)
   have h2:=hk.1
   cases e:is.contains z.1 with
   | false=>
    simp only [e] at h1
    exact SF.mono (Ev.less w hle) (fun _ _=>rfl) h1
   | true=>
    simp only [e] at h1 h2
    obtain ⟨i,s⟩:=z
    cases s with
    | pv p=>
     have e1:p=pv:=h2
     subst e1
     have e2:τ i=v:=h1.1
     show p.p (τ i) w y'
     rw [e2];exact hp
    | when c s=>
     cases s with
     | pv p=>
      have e1:p=pv:=h2
      subst e1
      refine ⟨fun hc=>?_,h1.2⟩
      have e2:τ i=v:=(h1.1 hc).1
      show p.p (τ i) w y'
      rw [e2];exact hp
     | _=>exact h2.elim
    | _=>exact h2.elim
  ·exact Zg8 hp hle hk.2 (fun x hx=>h x (by unfold lendPs;exact Yy _ hx)) z hz
def ZvF (s:SF):Prop:=∀ τ w y y' v,s.holds τ w y v→s.holds τ w y' v
def ZpW (h:HP):List (Nat×RS)→Prop
 | []=>True
 | x :: l=>(∀ τ w f0 y w' f y1 y',h.p w f0 y→Ev w y w' y' → x.2.holds τ w' f y1→x.2.holds τ w' f y')∧ZpW h l
theorem ZpW.get {h:HP} : ∀ {l:List (Nat×RS)},ZpW h l → ∀ x ∈ l,∀ τ w f0 y w' f y1 y',h.p w f0 y→Ev w y w' y' → x.2.holds τ w' f y1→x.2.holds τ w' f y'
 | [],_,x,hx=>by cases hx
 | z :: l,h,x,hx=>by
  rcases Ym.1 hx with rfl | hx
  ·exact h.1
  ·exact h.2.get x hx
theorem ZvF.pv {p:PV} (h:∀ v w y y',p.p v w y→p.p v w y'):ZvF (.pv p):=fun _ w y y' v=>h v w y y'
def Zt6 (l:Nat) (c:CD):Bool:=c.pr.all (fun x=>!Nat.beq x.1 l) && c.qr.all (fun x=>!Nat.beq x.1 l)
theorem OpC.lend {P:Program} {o:Oper} {ps:List (Nat×SF)} {pr qr:List (Nat×RS)} {q:SF} (l:Nat) (is:List Nat) {v:Value} {h:HP} {pv:PV} (hl:Zs1 h v pv) (hc:OpC P o ⟨ps,pr,q,qr⟩) (hk:LentOk is pv ps) (hq:ZvF q) (hqr:ZpW h qr) (hni:Zt6 l ⟨ps,pr,q,qr⟩ = true) :
  OpC P o ⟨lendPs is v ps,(l,RS.hp h) :: pr,q,qr⟩:=fun a w F K Q hw hp hr ht=>by
 have hle:=Zeo F l
 have hev:=Ev.less w hle
 simp only [Zt6,Yw,Yad,Yae] at hni
 have hn1:∀ x ∈ pr,x.1≠l:=fun x hx e=>by have:=hni.1 x hx;rw [e] at this;simp at this
 have hn2:∀ x ∈ qr,x.1≠l:=fun x hx e=>by have:=hni.2 x hx;rw [e] at this;simp at this
 have hW:l ∉ CD.W ⟨ps,pr,q,qr⟩:=by
  intro hm
  obtain ⟨x,hx,e⟩:=YB.1 hm
  exact hn2 x hx e
 have hh:h.p w (F l) (U F):=hr (l,RS.hp h) (Yay ..)
 have hsame:∀ m,m≠l→drop F l m=F m:=fun m hm=>by unfold drop;rw [Yb hm]
 have hdl:∀ b,¬ drop F l l b:=fun b hb=>by unfold drop at hb;simp only [Yx] at hb
 have hpv:pv.p v w (U (drop F l)):=hl w (F l) (U F) _ hh hle (fun b hb ⟨m,hm⟩=>by
  by_cases e:m=l
  ·subst e;exact hdl b hm
  ·rw [hsame m e] at hm;exact e (hw.dis m l b hm hb)) (fun b hb=>hw.bd l b hb)
 refine hc a w (drop F l) K Q ⟨fun n m b hn hm=>?_,fun n b hn=>?_⟩ (Zg8 hpv hle hk hp) (fun x hx=>?_) ?_
 ·by_cases e1:n=l
  ·subst e1;exact absurd hn (hdl b)
  ·by_cases e2:m=l
   ·subst e2;exact absurd hm (hdl b)
   ·rw [hsame n e1] at hn;rw [hsame m e2] at hm;exact hw.dis n m b hn hm
 ·obtain ⟨m,hm⟩:=hle b ⟨n,hn⟩
  exact hw.bd m b hm
 ·have:=hr x (Yy _ hx)
  rw [hsame x.1 (hn1 x hx)]
  exact RS.mono hev (fun _ _=>rfl) (fun _ _=>rfl) this
 ·intro u w' F' hwf' hst hqh hqrh
  have hF'l:∀ b,¬ F' l b:=fun b hb=>by rw [hst.fkeep l hW] at hb;exact hdl b hb
  have hout:∀ n,n≠l → ∀ b,F' n b→¬ F l b:=by
   intro n hn b hb hbl
   by_cases e:n ∈ CD.W ⟨ps,pr,q,qr⟩
   ·rcases hst.fnew n e b hb with ⟨m,hm,hmb⟩ | hge
    ·have hml:m≠l:=fun e=>by subst e;exact hW hm
     rw [hsame m hml] at hmb
     exact hml (hw.dis m l b hmb hbl)
    ·exact absurd (hw.bd l b hbl) ow
   ·rw [hst.fkeep n e,hsame n hn] at hb
    exact hn (hw.dis n l b hb hbl)
  have hsame':∀ m,m≠l→(fun m=>if m=l then F l else F' m) m=F' m:=fun m hm=>by simp only [hm,Yt]
  have hst3:Stp (CD.W ⟨lendPs is v ps,(l,RS.hp h) :: pr,q,qr⟩) w F w' (fun m=>if m=l then F l else F' m):=by
   refine ⟨hst.os,hst.tape,hst.output,hst.size,fun b hb hn=>?_,fun n hn=>?_,fun n hn b hb=>?_⟩
   ·refine hst.keep b hb (fun n hn'=>?_)
    by_cases e:n=l
    ·subst e;exact hdl b
    ·rw [hsame n e];exact hn n hn'
   ·by_cases e:n=l
    ·subst e;simp only [Yx]
    ·simp only [e,Yt]
     have:=hst.fkeep n hn
     rw [this,hsame n e]
   ·have hnl:n≠l:=fun e=>by subst e;exact hW hn
    simp only [hnl,Yt] at hb
    rcases hst.fnew n hn b hb with ⟨m,hm,hmb⟩ | hge
    ·have hml:m≠l:=fun e=>by subst e;exact hW hm
     exact .inl ⟨m,hm,by rw [hsame m hml] at hmb;exact hmb⟩
    ·exact .inr hge
  refine ht u w' (fun m=>if m=l then F l else F' m) ⟨fun n m b hn hm=>?_,fun n b hn=>?_⟩ hst3 (hq _ _ _ _ _ hqh) (fun x hx=>?_)
  ·by_cases e1:n=l <;> by_cases e2:m=l <;> simp only [e1,e2,Yx,Yt] at hn hm
   ·rw [e1,e2]
   ·exact absurd hn (hout m e2 b hm)
   ·exact absurd hm (hout n e1 b hn)
   ·exact hwf'.dis n m b hn hm
  ·by_cases e1:n=l <;> simp only [e1,Yx,Yt] at hn
   ·exact Yam (hw.bd l b hn) hst.size
   ·exact hwf'.bd n b hn
  ·have:=hqrh x hx
   have e:(fun m=>if m=l then F l else F' m) x.1=F' x.1:=Yb (hn2 x hx)
   rw [e]
   exact hqr.get x hx _ _ _ _ _ _ _ _ hh hst3.ev this
section
variable {P:Program} {d:Option Nat} {ty:TypeId} {pos:String} {af:Array Edge} {g:Option (Nat×Bool)}
theorem ZvC {f:FuncId} {args:Array Operand} {tys:Array TypeId} {d':Nat} {ps:List (Nat×SF)} {avs:List PV} {h1 h2:HP} {k1 k2:Value→HP} {q:PV} {fn:Func} (n1 n2:Nat)
    (hc : FnG P f 2 avs [h1, h2] q (fun v => [k1 v, k2 v])) (hf : P.funcs[f]? = some fn) (hb : fn.body.isSome = true) (hn : (fn.name == "runtime.NumGoroutine") = false) (hne : Nat.beq n1 n2 = false)
    (ha:∀ (a:Act) w y,Hps ps (Act.tau a) w y → ∃ vs:List Value,args.map a.eval=vs.toArray∧PVt avs vs w y) :
    OpC P ⟨some d',.call { callee:=.value (.func f),args:=args,argTypes:=tys },ty,pos,af,g⟩ ⟨ps,[(n1,RS.hp h1),(n2,RS.hp h2)],.pv q,[(n1,.ob (.slot d') k1),(n2,.ob (.slot d') k2)]⟩:=
  ZdX (is:=[n1,n2]) hc hf hb hn ha rfl Wc (fun τ w F hr i x hi=>by
      match i,hi with
      | 0,hi=>simp at hi;subst hi;exact ⟨n1,rfl,hr (n1,RS.hp h1) XM⟩
      | 1,hi=>simp at hi;subst hi;exact ⟨n2,rfl,hr (n2,RS.hp h2) XM⟩)
    (fun _ _ _ _ h=>h) (fun x hx=>by
      simp only [Ym,List.not_mem_nil,or_false] at hx
      rcases hx with rfl | rfl
      · exact ⟨0,rfl,fun v τ w f y ⟨k,hk,hp⟩=>by simp at hk;subst hk;simpa [RS.holds,Anc.v,upd] using hp⟩
      · exact ⟨1,rfl,fun v τ w f y ⟨k,hk,hp⟩=>by simp at hk;subst hk;simpa [RS.holds,Anc.v,upd] using hp⟩) rfl (fun _=>rfl)
end
def sel {α:Type} (l:List (Nat×α)):List Nat→List (Nat×α)
 | []=>[]
 | k :: ks=>match look l k with
  | some x=>(k,x) :: sel l ks
  | none=>sel l ks
theorem Zk {P:Program} {Q:Exit→Act→World→Prop} {B:ZaV} {c:Code} {σ:Type} (ks rs:List Nat) (cs:σ→List (Nat×SF)) (cr:σ→List (Nat×RS)) (C:σ→Prop) (μ:σ→Nat) {E:En} {a:Act} {w:World} {F:Fp} (s0:σ)
  (G:Sat B E a w F) (hl:Z5 E.s (cs s0++sel E.s ks)) (hr:Z5 E.r (cr s0++sel E.r rs)) (c0:C s0)
  (round:∀ s a w F,C s→Sat B ⟨cs s++sel E.s ks,cr s++sel E.r rs⟩ a w F→c.wp P (Exit.then (fun a' w'=>∃ s' F',C s' ∧ Sat B ⟨cs s' ++ sel E.s ks,cr s' ++ sel E.r rs⟩ a' w' F' ∧ μ s' < μ s) Q) a w):(Code.loop c).wp P Q a w:=by
 obtain ⟨F',h0⟩:=G.norm _ _ hl hr
 exact ZY (fun s=>⟨cs s++sel E.s ks,cr s++sel E.r rs⟩) C μ s0 h0 c0 round
section
variable {P:Program} {d:Option Nat} {ty:TypeId} {pos:String} {af:Array Edge} {g:Option (Nat×Bool)}
end
section
variable {B:ZaV} {E:En} {a:Act} {w:World} {F:Fp}
theorem Sat.rename {r:RS} (h:Sat B E a w F) (n m:Nat) (hn:look E.r n=some r) (hm:look E.r m=none):∃ F',Sat B ⟨E.s,(m,r) :: (n,RS.hp (HP.star [])) :: E.r⟩ a w F':=by
 have hne:n≠m:=fun e=>by subst e;rw [hn] at hm;cases hm
 have hF:∀ b,¬ F m b:=fun b hb=>by obtain ⟨r,hr⟩:=h.em m b hb;rw [hm] at hr;cases hr
 refine ⟨fun k=>if k=m then F n else if k=n then fun _=>False else F k,h.repart _ (fun b=>⟨?_,?_⟩) (fun i j b hi hj=>?_) (fun k r' hk=>?_) (fun k b hb=>?_)⟩
 ·rintro ⟨k,hk⟩
  by_cases e1:k=m
  ·simp only [e1,Yx] at hk;exact ⟨n,hk⟩
  ·by_cases e2:k=n
   ·simp only [e1,e2,Yt,Yx] at hk
    split at hk
    ·exact ⟨n,hk⟩
    ·exact hk.elim
   ·simp only [e1,e2,Yt] at hk;exact ⟨k,hk⟩
 ·rintro ⟨k,hk⟩
  by_cases e2:k=n
  ·subst e2;exact ⟨m,by simp only [Yx];exact hk⟩
  ·by_cases e1:k=m
   ·subst e1;exact absurd hk (hF b)
   ·exact ⟨k,by simp only [e1,e2,Yt];exact hk⟩
 ·by_cases i1:i=m <;> by_cases j1:j=m
  ·rw [i1,j1]
  ·by_cases j2:j=n
   ·simp only [j2,hne,Yt,Yx] at hj
   ·simp only [i1,j1,j2,Yt,Yx] at hi hj
    exact absurd (h.wf.dis _ _ b hi hj).symm j2
  ·by_cases i2:i=n
   ·simp only [i2,hne,Yt,Yx] at hi
   ·simp only [i1,j1,i2,Yt,Yx] at hi hj
    exact absurd (h.wf.dis _ _ b hi hj) i2
  ·by_cases i2:i=n
   ·simp only [i2,hne,Yt,Yx] at hi
   ·by_cases j2:j=n
    ·simp only [j2,hne,Yt,Yx] at hj
    ·simp only [i1,j1,i2,j2,Yt] at hi hj
     exact h.wf.dis _ _ b hi hj
 ·rw [Zf] at hk
  split at hk
  ·rename_i e
   simp only [YX] at hk;subst hk;subst e
   simp only [Yx]
   exact h.r n _ hn
  ·rename_i e
   rw [Zf] at hk
   split at hk
   ·rename_i e2
    simp only [YX] at hk;subst hk;subst e2
    simp only [hne,Yt,Yx]
    exact fun b hb=>hb
   ·rename_i e2
    have:(if k=m then F n else if k=n then fun _=>False else F k)=F k:=by rw [Yb (fun h=>e h.symm),Yb (fun h=>e2 h.symm)]
    rw [this]
    exact h.r k r' hk
 ·rw [Zf,Zf]
  by_cases e1:m=k
  ·exact ⟨r,by rw [Ye e1]⟩
  ·by_cases e2:n=k
   ·exact ⟨_,by rw [Yb e1,Ye e2]⟩
   ·rw [Yb e1,Yb e2]
    have e3:(if k=m then F n else if k=n then fun _=>False else F k)=F k:=by rw [Yb (fun h=>e1 h.symm),Yb (fun h=>e2 h.symm)]
    rw [e3] at hb
    exact h.em k b hb
end
section
variable {P:Program} {ty:TypeId} {pos:String} {af:Array Edge} {g:Option (Nat×Bool)}
end
section
variable {P:Program} {ty:TypeId} {pos:String} {af:Array Edge} {g:Option (Nat×Bool)}
theorem Zo4 {f:FuncId} {args:Array Operand} {tys:Array TypeId} {d':Nat} {ps:List (Nat×SF)} {avs:List PV} {h1 h2 k1:HP} {k2:Value→HP} {q:PV} {fn:Func} (n1 n2:Nat)
    (hc : FnG P f 2 avs [h1, h2] q (fun v => [k1, k2 v])) (hf : P.funcs[f]? = some fn) (hb : fn.body.isSome = true) (hn : (fn.name == "runtime.NumGoroutine") = false) (hne : Nat.beq n1 n2 = false)
    (ha:∀ (a:Act) w y,Hps ps (Act.tau a) w y → ∃ vs:List Value,args.map a.eval=vs.toArray∧PVt avs vs w y) (hone:∀ v w y,q.p v w y→v.oneCell' = true) :
    OpC P ⟨some d',.call { callee:=.value (.func f),args:=args,argTypes:=tys },ty,pos,af,g⟩ ⟨ps,[(n1,RS.hp h1),(n2,RS.hp h2)],.same d',[(n1,RS.hp k1),(n2,.ob (.slot d') k2)]⟩:=
  ZdX (is:=[n1,n2]) hc hf hb hn ha rfl Wc (fun τ w F hr i x hi=>by
      match i,hi with
      | 0,hi=>simp at hi;subst hi;exact ⟨n1,rfl,hr (n1,RS.hp h1) XM⟩
      | 1,hi=>simp at hi;subst hi;exact ⟨n2,rfl,hr (n2,RS.hp h2) XM⟩)
    (fun _ _ _ _ h=>⟨by simp [upd],hone _ _ _ h⟩) (fun x hx=>by
      simp only [Ym,List.not_mem_nil,or_false] at hx
      rcases hx with rfl | rfl
      · exact ⟨0,rfl,fun v τ w f y ⟨k,hk,hp⟩=>by simp at hk;subst hk;exact hp⟩
      · exact ⟨1,rfl,fun v τ w f y ⟨k,hk,hp⟩=>by simp at hk;subst hk;simpa [RS.holds,Anc.v,upd] using hp⟩) rfl (fun _=>rfl)
end
end Go.Gm
namespace Go.Gm
set_option linter.unusedVariables false
set_option linter.unusedSimpArgs false
def ZvB (j:Nat) (x:Operand) (ps:List (Nat×SF)) (p:Value→PV):Prop:=∀ (a:Act) w y,Hps ps (Act.tau a) w y→(p (Act.tau a j)).p (a.eval x) w y
theorem ZvB.same {j:Nat} : ZvB j (.tmp j) [(j,.same j)] (fun v=>.is v):=fun a w y h=>by
 have:=h (j,.same j) XM
 exact ⟨rfl,this.2⟩
theorem ZvB.fn {j i:Nat} {p:Value→PV} : ZvB j (.tmp i) [(i,.fn j p)] p:=fun a w y h=>h (i,.fn j p) (by simp)
section
variable {P:Program} {d:Option Nat} {ty:TypeId} {pos:String} {af:Array Edge} {g:Option (Nat×Bool)}
def hdA:Value→Value
 | .agg cs=>cs.toList.headD undef
 | _=>undef
theorem Zn1 {f:FuncId} {args:Array Operand} {tys:Array TypeId} {d':Nat} {ps:List (Nat×SF)} {avs:List PV} {h1 h2 k1 k2:HP} {q:PV} {fn:Func} (n1 n2:Nat)
    (hc : FnG P f 2 avs [h1, h2] q (fun _ => [k1, k2])) (hf : P.funcs[f]? = some fn) (hb : fn.body.isSome = true) (hn : (fn.name == "runtime.NumGoroutine") = false) (hne : Nat.beq n1 n2 = false)
    (ha:∀ (a:Act) w y,Hps ps (Act.tau a) w y → ∃ vs:List Value,args.map a.eval=vs.toArray∧PVt avs vs w y) :
    OpC P ⟨some d',.call { callee:=.value (.func f),args:=args,argTypes:=tys },ty,pos,af,g⟩ ⟨ps,[(n1,RS.hp h1),(n2,RS.hp h2)],.pv q,[(n1,RS.hp k1),(n2,RS.hp k2)]⟩:=
  ZdX (is:=[n1,n2]) hc hf hb hn ha rfl Wc (fun τ w F hr i x hi=>by
      match i,hi with
      | 0,hi=>simp at hi;subst hi;exact ⟨n1,rfl,hr (n1,RS.hp h1) XM⟩
      | 1,hi=>simp at hi;subst hi;exact ⟨n2,rfl,hr (n2,RS.hp h2) XM⟩)
    (fun _ _ _ _ h=>h) (fun x hx=>by
      simp only [Ym,List.not_mem_nil,or_false] at hx
      rcases hx with rfl | rfl
      · exact ⟨0,rfl,fun v τ w f y ⟨k,hk,hp⟩=>by simp at hk;subst hk;exact hp⟩
      · exact ⟨1,rfl,fun v τ w f y ⟨k,hk,hp⟩=>by simp at hk;subst hk;exact hp⟩) rfl (fun _=>rfl)
inductive CFn (j:Nat):List CF→(Value→List PV)→Prop
 | nil:CFn j [] (fun _=>[])
 | same {cs:List CF} {l:Value→List PV} (h:CFn j cs l):CFn j (.same j :: cs) (fun v=>.is v :: l v)
 | fn {cs:List CF} {l:Value→List PV} {p:Value→PV} (h:CFn j cs l):CFn j (.fn j p :: cs) (fun v=>p v :: l v)
 | pv {cs:List CF} {l:Value→List PV} {p:PV} (h:CFn j cs l):CFn j (.pv p :: cs) (fun v=>p :: l v)
end
end Go.Gm
namespace Go.Gm
set_option linter.unusedVariables false
set_option linter.unusedSimpArgs false
theorem Zd0 {w:World} {y:Ys} {rs rs':List RS} (hp:rs.Perm rs'):∀ {f:Ys},stars w y rs f→stars w y rs' f:=by
 induction hp with
 | nil=>intro f h;exact h
 | cons r _ ih=>
  rintro f ⟨f1,f2,h1,h2,h3,h4,h5⟩
  exact ⟨f1,f2,h1,h2,h3,h4,ih h5⟩
 | swap r1 r2 l=>
  rintro f ⟨f1,f2,h1,h2,h3,h4,f3,f4,k1,k2,k3,k4,k5⟩
  refine ⟨f3,fun b=>f1 b∨f4 b,fun b=>?_,fun b hb hc=>?_,k3,k4,f1,f4,fun b=>Iff.rfl,fun b hb hc=>?_,h3,h4,k5⟩
  ·rw [h1,k1]
   constructor
   ·rintro (h | h | h)
    ·exact .inr (.inl h)
    ·exact .inl h
    ·exact .inr (.inr h)
   ·rintro (h | h | h)
    ·exact .inr (.inl h)
    ·exact .inl h
    ·exact .inr (.inr h)
  ·rcases hc with hc | hc
   ·exact h2 b hc ((k1 b).2 (.inl hb))
   ·exact k2 b hb hc
  ·exact h2 b hb ((k1 b).2 (.inr hc))
 | trans _ _ ih1 ih2=>intro f h;exact ih2 (ih1 h)
theorem Zd9 {α:Type} : ∀ {L:List α} {j:Nat} {x:α},L[j]? = some x→L.Perm (x :: L.eraseIdx j)
 | [],j,x,h=>by simp at h
 | y :: L,0,x,h=>by simp at h;subst h;exact List.Perm.refl _
 | y :: L,j+1,x,h=>by
  have:=Zd9 (L:=L) (j:=j) (x:=x) XL
  exact (this.cons y).trans (List.Perm.swap x y _)
section
variable {B:ZaV} {E:En} {a:Act} {w:World} {F:Fp} {α:Type} {g:α→HP}
abbrev Zsu (g:α→HP) (L:List α):RS:=RS.hp (HP.star (L.map fun x=>RS.hp (g x)))
theorem Sat.takeAt (g:α→HP) {L:List α} {x:α} (h:Sat B E a w F) (n i j:Nat) (hl:look E.r n=some (Zsu g L)) (hi:look E.r i=none) (hj:L[j]? = some x) :
  ∃ F',Sat B ⟨E.s,(i,RS.hp (g x)) :: (n,Zsu g (L.eraseIdx j)) :: E.r⟩ a w F':=by
 have h1:=h.turn n hl (r':=RS.hp (HP.star (RS.hp (g x) :: (L.eraseIdx j).map fun x=>RS.hp (g x)))) (fun _ _ _ _ k=>Zd0 ((Zd9 hj).map fun x=>RS.hp (g x)) k)
 have hni:n≠i:=fun e=>by subst e;rw [hl] at hi;cases hi
 obtain ⟨F',h2⟩:=h1.peel n i Wd (by rw [Zf,Yb hni];exact hi)
 refine ⟨F',h2.congr (fun _=>rfl) (fun k=>?_)⟩
 simp only [Zf]
 split
 ·rfl
 ·split
  ·rfl
  ·rfl
theorem Sat.putAt (g:α→HP) {L:List α} {x:α} (h:Sat B E a w F) (n i j:Nat) (hj:j<L.length) (hl:look E.r n=some (Zsu g (L.eraseIdx j))) (hi:look E.r i=some (RS.hp (g x))) (hne:Nat.beq n i=false) :
  ∃ F',Sat B ⟨E.s,(n,Zsu g (L.set j x)) :: (i,RS.hp (HP.star [])) :: E.r⟩ a w F':=by
 obtain ⟨F',h1⟩:=h.push n i hl hi hne rfl
 have hp:(RS.hp (g x) :: (L.eraseIdx j).map fun x=>RS.hp (g x)).Perm ((L.set j x).map fun x=>RS.hp (g x)):=by
  have:=(Zd9 (L:=L.set j x) (j:=j) (x:=x) (by simp [hj])).symm.map fun x=>RS.hp (g x)
  rwa [List.eraseIdx_set_eq] at this
 have h2:=h1.turn n (r:=RS.hp (HP.star (RS.hp (g x) :: (L.eraseIdx j).map fun x=>RS.hp (g x)))) Wd (r':=Zsu g (L.set j x)) (fun _ _ _ _ k=>Zd0 hp k)
 refine ⟨F',h2.congr (fun _=>rfl) (fun k=>?_)⟩
 simp only [Zf]
 split
 ·rfl
 ·split
  ·rfl
  ·rfl
end
end Go.Gm
namespace Go.Gm
set_option linter.unusedVariables false
set_option linter.unusedSimpArgs false
theorem PVt.append {w y} : ∀ {ps qs:List PV} {us vs:List Value},PVt ps us w y→PVt qs vs w y→PVt (ps++qs) (us++vs) w y
 | [],_,[],_,_,k=>k
 | p :: ps,_,v :: us,_,hh,k=>⟨hh.1,PVt.append hh.2 k⟩
 | [],_,_ :: _,_,hh,_=>hh.elim
 | _ :: _,_,[],_,hh,_=>hh.elim
def PV.clos (f:FuncId) (cps:List PV):PV:=⟨fun u w y=>∃ caps:List Value,u = .func (.func f) #[] caps.toArray∧PVt cps caps w y,fun h ⟨caps,e,k⟩=>⟨caps,e,PVt.mono h k⟩⟩
theorem Zp8 {f:FuncId} {cps:List PV} : ∀ v w yy,(PV.clos f cps).p v w yy→v.oneCell' = true:=fun v _ _ ⟨_,e,_⟩=>by rw [e];rfl
section
variable {P:Program} {d:Option Nat} {ty:TypeId} {pos:String} {af:Array Edge} {g:Option (Nat×Bool)}
theorem ZbV {f:FuncId} {caps:Array Operand} {ps:List (Nat×SF)} {cps:List PV}
  (ha:∀ (a:Act) w y,Hps ps (Act.tau a) w y → ∃ vs:List Value,caps.map a.eval=vs.toArray∧PVt cps vs w y) :
  OpC P ⟨d,.makeFunc (.func f) #[] caps,ty,pos,af,g⟩ ⟨ps,[],.pv (.clos f cps),[]⟩:=
 OpC.pure fun a w yy hp=>by
  obtain ⟨vs,e,h⟩:=ha a w yy hp
  exact ⟨.func (.func f) #[] vs.toArray,by simp [execOp,Instr.makeFunc,e],fun _ _=>⟨vs,rfl,h⟩⟩
theorem Zlr {d':Nat} {x:Operand} {ps:List (Nat×SF)} {t:TypeId} {p:PV} (n:Nat) (hx:Opd x ps (.pv p)) (h1:∀ v w yy,p.p v w yy→v.oneCell' = true) :
  OpC P ⟨some d',.box t x,ty,pos,af,g⟩ ⟨ps,[],.same d',[(n,.pt (.slot d') t [.pv p])]⟩:=
 ZtZ n rfl (fun a w y hp=>by
  have h:=hx a w y hp
  have h1':=h1 _ _ _ h
  refine ⟨[a.eval x],⟨⟨h1',h⟩,tv⟩,?_⟩
  cases e:a.eval x <;> rw [e] at h1' <;> first | (simp [execOp,Instr.box,e,newVar,newRow,Value.cells];done) | simp [Value.oneCell'] at h1') rfl
end
end Go.Gm
namespace Go.Gm
set_option linter.unusedVariables false
set_option linter.unusedSimpArgs false
def PV.one:PV:=⟨fun u _ _=>u.oneCell' = true,fun _ h=>h⟩
theorem pvOne1:∀ v w yy,PV.one.p v w yy→v.oneCell' = true:=fun _ _ _ h=>h
theorem Ent.one {v:Value} : Ent (.pv (.is v)) (.pv PV.one):=fun _ _ _ _ h=>h.2
theorem Zhv {α:Type} {T sz:Nat} {R:α→List PV} {l:List α} {v:Value} : Zs1 (Zz T sz R l v) v (PV.sl R l):=fun w f y y' h hle hf hlt=>by
 obtain ⟨xs,r1,r2,r3⟩:=h
 obtain ⟨ad,cap,e8,h8,h9,h10⟩:=ZG r1
 refine ⟨ad,cap,e8,h8,h9,?_⟩
 rcases h10 with h10 | ⟨b',rfl,h11,h12⟩
 ·exact .inl (YM h10)
 ·have hb:f b':=(r3 b').2 (by rw [e8];rfl)
  exact .inr ⟨b',0,xs,rfl,hf b' hb,hlt b' hb,h12,PVs.mono (Ev.less w hle) r2⟩
theorem OpC.head {P:Program} {o:Oper} {ps:List (Nat×SF)} {q:SF} {n:Nat} {r r':RS} {pr qr:List (Nat×RS)} (h:OpC P o ⟨ps,(n,r) :: pr,q,qr⟩) (hr:∀ τ w fb y,r'.holds τ w fb y→r.holds τ w fb y):OpC P o ⟨ps,(n,r') :: pr,q,qr⟩:=fun a w F K Q hw hs hp ht=>
 h a w F K Q hw hs (fun x hx=>by
  rcases Ym.1 hx with rfl | hx
  ·exact hr _ _ _ _ (hp (n,r') XM)
  ·exact hp x XO) ht
theorem OpC.lendRow {P:Program} {o:Oper} {ps:List (Nat×SF)} {pr qr:List (Nat×RS)} {q:SF} {α:Type} {T sz:Nat} {R:α→List PV} {l:List α} (n:Nat) (is:List Nat) {v:Value} (hc:OpC P o ⟨ps,pr,q,qr⟩) (hk:LentOk is (PV.sl R l) ps) (hq:ZvF q) (hqr:ZpW (Zz T sz R l v) qr) (hni:Zt6 n ⟨ps,pr,q,qr⟩ = true) :
  OpC P o ⟨lendPs is v ps,(n,.ob (.val v) (Zz T sz R l)) :: pr,q,qr⟩:=
 (OpC.lend n is Zhv hc hk hq hqr hni).head fun _ _ _ _ h=>h
section
variable {P:Program} {d:Option Nat} {ty:TypeId} {pos:String} {af:Array Edge} {g:Option (Nat×Bool)}
theorem Zab {f:FuncId} {x:Operand} {args:Array Operand} {tys:Array TypeId} {qs ps:List (Nat×SF)} {avs cps:List PV} {q:PV} {fn:Func} (hx:Opd x qs (.pv (.clos f cps)))
    (hc : FnP P f (avs ++ cps) q) (hf : P.funcs[f]? = some fn) (hb : fn.body.isSome = true) (hn : (fn.name == "runtime.NumGoroutine") = false)
    (ha:∀ (a:Act) w y,Hps ps (Act.tau a) w y → ∃ vs:List Value,args.map a.eval=vs.toArray∧PVt avs vs w y) :
    OpC P ⟨d,.call { callee:=.value x,args:=args,argTypes:=tys },ty,pos,af,g⟩ ⟨qs++ps,[],.pv q,[]⟩:=fun a w F K Q hw hp hr ht=>by
  obtain ⟨vs,e,hvs⟩:=ha a w (U F) hp.right
  obtain ⟨caps,e2,hcs⟩:=hx a w (U F) hp.left
  have hbn:fn.body≠none:=Kd
  have hn' : fn.name ≠ "runtime.NumGoroutine" := by intro h; rw [h] at hn; simp at hn
  have hrun:(execOp a.eval ⟨d,.call { callee:=.value x,args:=args,argTypes:=tys },ty,pos,af,g⟩).run P w = .ok (.enter f (vs++caps).toArray) w:=by
    simp [execOp,resolve,e,e2,Deferred.ofValue,invoke,callFunc,hf,hn',hbn]
  simp only [Oper.wp,hrun,Oper.upon]
  refine (hc w (U F) (vs++caps) (fun b ⟨n,hn⟩=>hw.bd n b hn) (hvs.append hcs)).mono ?_
  rintro e' w' ⟨v,rfl,hq,hbel⟩
  have hst:Stp [] w F w' F:=⟨hbel.os,hbel.tape,hbel.output,hbel.size,fun b hb _=>hbel.block b hb,fun _ _=>rfl,fun _ h=>by cases h⟩
  exact ht v w' F ⟨hw.dis,fun n b hn=>Yam (hw.bd n b hn) hbel.size⟩ hst hq (fun x hx=>by cases hx)
end
theorem o_indexAddr_sub {P:Program} {d:Option Nat} {ty:TypeId} {pos:String} {af:Array Edge} {g:Option (Nat×Bool)} {α:Type} {R:α→List PV} {l:List α} {t e T:TypeId} {sz j:Nat} {x y:Operand} {ps qs:List (Nat×SF)} {k:IntKind} {i:Int} {v:Value} (n:Nat) (he:Zby P t e sz) (hx:Opd x ps (.pv (.is (Znl sz j v)))) (hy:Opd y qs (.pv (.int k i))) (h0:0≤i) (h1:j+i.toNat<l.length) (hd:ZaO d (.adr (.val v) ((j+i.toNat)*sz))=true) :
  OpC P ⟨d,.indexAddr t x y,ty,pos,af,g⟩ ⟨ps++qs,[(n,.ob (.val v) (Zz T sz R l))],.adr (.val v) ((j+i.toNat)*sz),[]⟩:=
 OpC.read fun act w F hp hr=>by
  obtain ⟨xs,h2,h3,h4⟩:=hr (n,.ob (.val v) (Zz T sz R l)) XM
  obtain ⟨ad,cap,e1,h5,h6,h7⟩:=ZG h2
  simp only [Anc.v] at e1
  have e2:=(hy act w _ hp.right).1
  rcases h7 with h7 | ⟨b,rfl,_,_⟩
  ·omega
  ·have e3:act.eval x = .slice (some ⟨b,0+j*sz,none⟩) (l.length - j) (cap - j):=by rw [(hx act w _ hp.left).1,e1];rfl
   have ev:(Anc.val v).v (Act.tau act) = .slice (some ⟨b,0,none⟩) l.length cap:=e1
   refine ⟨.pointer (some ⟨b,0+j*sz+i.toNat*sz,none⟩),by simp [execOp,e3,e2,ZfB he h0 (show i<((l.length - j:Nat):Int) by omega)],fun τ' ht=>Z9 (w:=w) (y:=U F) hd ht ?_⟩
   simp [SF.holds,ev,shift,Ybq]
end Go.Gm
namespace Go.Gm
set_option linter.unusedVariables false
set_option linter.unusedSimpArgs false
set_option linter.unusedSectionVars false
section
variable {P:Program} {o:Oper}
theorem ZuJ {τ:Tau} {d:Option Nat} {v:Value} {j:Nat} (hd:(d == some j)=false):upd τ d v j=τ j:=by
 unfold upd
 cases d with
 | none=>simp
 | some k=>simp at hd;simp [hd]
theorem Zls {i j m:Nat} {ps:List (Nat×SF)} {pr:List (Nat×RS)} {q:SF} {a:Anc} {g:Value→Value→HP} (hd:(o.dst == some j)=false) (h:∀ z,OpC P o ⟨ps ++ [(i,.pv (.is z))],pr,q,[(m,.ob a (g z))]⟩) :
  OpC P o ⟨ps ++ [(i,.same j)],pr,q,[(m,.obf j a g)]⟩:=fun act w F K Q hw hp hr ht=>by
 refine h (Act.tau act j) act w F K Q hw (fun x hx=>?_) hr (fun v w' F' g1 g2 g3 g4=>ht v w' F' g1 g2 g3 fun x hx=>?_)
 ·rcases YC.1 hx with hx | hx
  ·exact hp x XO
  ·simp only [Yn] at hx;subst hx
   exact hp (i,.same j) XM
 ·simp only [Yn] at hx;subst hx
  have h9:=g4 (m,.ob a (g (Act.tau act j))) XM
  show (g (upd (Act.tau act) o.dst v j) (a.v _)).p w' _ _
  rw [ZuJ hd];exact h9
end
end Go.Gm
