/- Walks: objects that are lent. No condition. -/
import Derived.Test.YthfoojdlcjfmcaaGreatDoorLibY
import Derived.Test.YthfoojdlcjfmcaaGreatDoorLibP
namespace Go.Gm
set_option linter.unusedVariables false
set_option linter.unusedSimpArgs false
def Zoj (h:HP) (v:Value) (pv:PV):Prop:=∀ w f y y',h.p w f y→(∀ b,y' b→y b)→(∀ b,f b→¬ y' b)→(∀ b,f b→b<w.heap.size)→pv.p v w y'
def lendSF (v:Value):SF→SF
 | .pv _=>.pv (.is v)
 | .when c s=>.when c (lendSF v s)
 | s=>s
def lendPs (is:List Nat) (v:Value):List (Nat×SF)→List (Nat×SF)
 | []=>[]
 | x :: l=>(match is.contains x.1 with | true=>(x.1,lendSF v x.2) | false=>x) :: lendPs is v l
def lentSF (pv:PV):SF→Prop
 | .pv p=>p=pv
 | .when _ (.pv p)=>p=pv
 | _=>False
def LentOk (is:List Nat) (pv:PV):List (Nat×SF)→Prop
 | []=>True
 | x :: l=>(match is.contains x.1 with | true=>lentSF pv x.2 | false=>True)∧LentOk is pv l
theorem ZfA {is:List Nat} {v:Value} {pv:PV} {τ:Tau} {w:World} {y y':Ys} (hp:pv.p v w y') (hle:∀ b,y' b→y b):∀ {ps:List (Nat×SF)},LentOk is pv ps→Hps (lendPs is v ps) τ w y→Hps ps τ w y'
 | [],_,_=>fun x hx=>by cases hx
 | x :: l,hk,h=>by
  intro z hz
  rcases Yo.1 hz with rfl | hz
  ·have h1:=h _ (by unfold lendPs;exact List.mem_cons_self ..)
   have h2:=hk.1
   cases e:is.contains z.1 with
   | false=>
    simp only [e] at h1
    exact SF.mono (Ev.less w hle) (fun _ _=>rfl) h1
   | true=>
    simp only [e] at h1 h2
    obtain ⟨i,s⟩:=z
    cases s with
    | pv p=>
     have e1:p=pv:=h2
     subst e1
     have e2:τ i=v:=h1.1
     show p.p (τ i) w y'
     rw [e2];exact hp
    | when c s=>
     cases s with
     | pv p=>
      have e1:p=pv:=h2
      subst e1
      refine ⟨fun hc=>?_,h1.2⟩
      have e2:τ i=v:=(h1.1 hc).1
      show p.p (τ i) w y'
      rw [e2];exact hp
     | _=>exact h2.elim
    | _=>exact h2.elim
  ·exact ZfA hp hle hk.2 (fun x hx=>h x (by unfold lendPs;exact YU _ hx)) z hz
def Zpx (s:SF):Prop:=∀ τ w y y' v,s.holds τ w y v→s.holds τ w y' v
def ZpR (h:HP):Prop:=∀ w f y y',h.p w f y→h.p w f y'
def Zk3 (h:HP):List (Nat×RS)→Prop
 | []=>True
 | x :: l=>(∀ τ w f0 y w' f y1 y',h.p w f0 y→Ev w y w' y' → x.2.holds τ w' f y1→x.2.holds τ w' f y')∧Zk3 h l
theorem Zk3.get {h:HP} : ∀ {l:List (Nat×RS)},Zk3 h l → ∀ x ∈ l,∀ τ w f0 y w' f y1 y',h.p w f0 y→Ev w y w' y' → x.2.holds τ w' f y1→x.2.holds τ w' f y'
 | [],_,x,hx=>by cases hx
 | z :: l,h,x,hx=>by
  rcases Yo.1 hx with rfl | hx
  ·exact h.1
  ·exact h.2.get x hx
theorem Zpx.pv {p:PV} (h:∀ v w y y',p.p v w y→p.p v w y'):Zpx (.pv p):=fun _ w y y' v=>h v w y y'
def ZnX (l:Nat) (c:CD):Bool:=c.pr.all (fun x=>!Nat.beq x.1 l) && c.qr.all (fun x=>!Nat.beq x.1 l)
theorem OpC.lend {P:Program} {o:Oper} {ps:List (Nat×SF)} {pr qr:List (Nat×RS)} {q:SF} (l:Nat) (is:List Nat) {v:Value} {h:HP} {pv:PV} (hl:Zoj h v pv) (hc:OpC P o ⟨ps,pr,q,qr⟩) (hk:LentOk is pv ps) (hq:Zpx q) (hqr:Zk3 h qr) (hni:ZnX l ⟨ps,pr,q,qr⟩ = true) :
  OpC P o ⟨lendPs is v ps,(l,RS.hp h) :: pr,q,qr⟩:=fun a w F K Q hw hp hr ht=>by
 have hle:=Zec F l
 have hev:=Ev.less w hle
 simp only [ZnX,Yw,YaR,Yam] at hni
 have hn1:∀ x ∈ pr,x.1≠l:=fun x hx e=>by have:=hni.1 x hx;rw [e] at this;simp at this
 have hn2:∀ x ∈ qr,x.1≠l:=fun x hx e=>by have:=hni.2 x hx;rw [e] at this;simp at this
 have hW:l ∉ CD.W ⟨ps,pr,q,qr⟩:=by
  intro hm
  obtain ⟨x,hx,e⟩:=YD.1 hm
  exact hn2 x hx e
 have hh:h.p w (F l) (U F):=hr (l,RS.hp h) (List.mem_cons_self ..)
 have hsame:∀ m,m≠l→drop F l m=F m:=fun m hm=>by unfold drop;rw [Yb hm]
 have hdl:∀ b,¬ drop F l l b:=fun b hb=>by unfold drop at hb;simp only [Yn] at hb
 have hpv:pv.p v w (U (drop F l)):=hl w (F l) (U F) _ hh hle (fun b hb ⟨m,hm⟩=>by
  by_cases e:m=l
  ·subst e;exact hdl b hm
  ·rw [hsame m e] at hm;exact e (hw.dis m l b hm hb)) (fun b hb=>hw.bd l b hb)
 refine hc a w (drop F l) K Q ⟨fun n m b hn hm=>?_,fun n b hn=>?_⟩ (ZfA hpv hle hk hp) (fun x hx=>?_) ?_
 ·by_cases e1:n=l
  ·subst e1;exact absurd hn (hdl b)
  ·by_cases e2:m=l
   ·subst e2;exact absurd hm (hdl b)
   ·rw [hsame n e1] at hn;rw [hsame m e2] at hm;exact hw.dis n m b hn hm
 ·obtain ⟨m,hm⟩:=hle b ⟨n,hn⟩
  exact hw.bd m b hm
 ·have:=hr x (YU _ hx)
  rw [hsame x.1 (hn1 x hx)]
  exact RS.mono hev (fun _ _=>rfl) (fun _ _=>rfl) this
 ·intro u w' F' hwf' hst hqh hqrh
  have hF'l:∀ b,¬ F' l b:=fun b hb=>by rw [hst.fkeep l hW] at hb;exact hdl b hb
  have hout:∀ n,n≠l → ∀ b,F' n b→¬ F l b:=by
   intro n hn b hb hbl
   by_cases e:n ∈ CD.W ⟨ps,pr,q,qr⟩
   ·rcases hst.fnew n e b hb with ⟨m,hm,hmb⟩ | hge
    ·have hml:m≠l:=fun e=>by subst e;exact hW hm
     rw [hsame m hml] at hmb
     exact hml (hw.dis m l b hmb hbl)
    ·exact absurd (hw.bd l b hbl) ow
   ·rw [hst.fkeep n e,hsame n hn] at hb
    exact hn (hw.dis n l b hb hbl)
  have hsame':∀ m,m≠l→(fun m=>if m=l then F l else F' m) m=F' m:=fun m hm=>by simp only [hm,Yk]
  have hst3:Stp (CD.W ⟨lendPs is v ps,(l,RS.hp h) :: pr,q,qr⟩) w F w' (fun m=>if m=l then F l else F' m):=by
   refine ⟨hst.os,hst.tape,hst.output,hst.size,fun b hb hn=>?_,fun n hn=>?_,fun n hn b hb=>?_⟩
   ·refine hst.keep b hb (fun n hn'=>?_)
    by_cases e:n=l
    ·subst e;exact hdl b
    ·rw [hsame n e];exact hn n hn'
   ·by_cases e:n=l
    ·subst e;simp only [Yn]
    ·simp only [e,Yk]
     have:=hst.fkeep n hn
     rw [this,hsame n e]
   ·have hnl:n≠l:=fun e=>by subst e;exact hW hn
    simp only [hnl,Yk] at hb
    rcases hst.fnew n hn b hb with ⟨m,hm,hmb⟩ | hge
    ·have hml:m≠l:=fun e=>by subst e;exact hW hm
     exact .inl ⟨m,hm,by rw [hsame m hml] at hmb;exact hmb⟩
    ·exact .inr hge
  refine ht u w' (fun m=>if m=l then F l else F' m) ⟨fun n m b hn hm=>?_,fun n b hn=>?_⟩ hst3 (hq _ _ _ _ _ hqh) (fun x hx=>?_)
  ·by_cases e1:n=l <;> by_cases e2:m=l <;> simp only [e1,e2,Yn,Yk] at hn hm
   ·rw [e1,e2]
   ·exact absurd hn (hout m e2 b hm)
   ·exact absurd hm (hout n e1 b hn)
   ·exact hwf'.dis n m b hn hm
  ·by_cases e1:n=l <;> simp only [e1,Yn,Yk] at hn
   ·exact Y0 (hw.bd l b hn) hst.size
   ·exact hwf'.bd n b hn
  ·have:=hqrh x hx
   have e:(fun m=>if m=l then F l else F' m) x.1=F' x.1:=Yb (hn2 x hx)
   rw [e]
   exact hqr.get x hx _ _ _ _ _ _ _ _ hh hst3.ev this
section
variable {P:Program} {d:Option Nat} {ty:TypeId} {pos:String} {af:Array Edge} {g:Option (Nat×Bool)}
theorem ZpB {f:FuncId} {args:Array Operand} {tys:Array TypeId} {d':Nat} {ps:List (Nat×SF)} {avs:List PV} {h1 h2:HP} {k1 k2:Value→HP} {q:PV} {fn:Func} (n1 n2:Nat)
    (hc : FnG P f 2 avs [h1, h2] q (fun v => [k1 v, k2 v])) (hf : P.funcs[f]? = some fn) (hb : fn.body.isSome = true) (hn : (fn.name == "runtime.NumGoroutine") = false) (hne : Nat.beq n1 n2 = false)
    (ha:∀ (a:Act) w y,Hps ps (Act.tau a) w y → ∃ vs:List Value,args.map a.eval=vs.toArray∧PVt avs vs w y) :
    OpC P ⟨some d',.call { callee:=.value (.func f),args:=args,argTypes:=tys },ty,pos,af,g⟩ ⟨ps,[(n1,RS.hp h1),(n2,RS.hp h2)],.pv q,[(n1,.ob (.slot d') k1),(n2,.ob (.slot d') k2)]⟩:=
  Zcr (is:=[n1,n2]) hc hf hb hn ha rfl (by have:n1≠n2:=(fun e=>by subst e;simp at hne);simp [this]) (fun τ w F hr i x hi=>by
      match i,hi with
      | 0,hi=>simp at hi;subst hi;exact ⟨n1,rfl,hr (n1,RS.hp h1) (by simp)⟩
      | 1,hi=>simp at hi;subst hi;exact ⟨n2,rfl,hr (n2,RS.hp h2) (by simp)⟩)
    (fun _ _ _ _ h=>h) (fun x hx=>by
      simp only [Yo,Ya8,Ybx] at hx
      rcases hx with rfl | rfl
      · exact ⟨0,rfl,fun v τ w f y ⟨k,hk,hp⟩=>by simp at hk;subst hk;simpa [RS.holds,Anc.v,upd] using hp⟩
      · exact ⟨1,rfl,fun v τ w f y ⟨k,hk,hp⟩=>by simp at hk;subst hk;simpa [RS.holds,Anc.v,upd] using hp⟩) rfl (fun _=>rfl)
end
theorem Sat.dupG {B:Zax} {E:En} {a:Act} {w:World} {F:Fp} {p:PV} {u:Value} (h:Sat B E a w F) (n m:Nat) (hn:look E.r n=some (RS.hp (gH p u))) (hm:look E.r m=none):Sat B ⟨E.s,(m,RS.hp (gH p u)) :: E.r⟩ a w F:=by
 have hF:∀ b,¬ F m b:=fun b hb=>by obtain ⟨r,hr⟩:=h.em m b hb;rw [hm] at hr;cases hr
 have hg:(gH p u).p w (F n) (U F):=h.r n _ hn
 refine h.repart F (fun _=>Iff.rfl) h.wf.dis (fun k r hk=>?_) (fun k b hb=>?_)
 ·rw [Zd] at hk
  split at hk
  ·rename_i e
   simp only [YT] at hk;subst hk;subst e
   exact ⟨hF,hg.2⟩
  ·exact h.r k r hk
 ·rw [Zd]
  split
  ·exact ⟨_,rfl⟩
  ·exact h.em k b hb
def sel {α:Type} (l:List (Nat×α)):List Nat→List (Nat×α)
 | []=>[]
 | k :: ks=>match look l k with
  | some x=>(k,x) :: sel l ks
  | none=>sel l ks
theorem Zo {P:Program} {Q:Exit→Act→World→Prop} {B:Zax} {c:Code} {σ:Type} (ks rs:List Nat) (cs:σ→List (Nat×SF)) (cr:σ→List (Nat×RS)) (C:σ→Prop) (μ:σ→Nat) {E:En} {a:Act} {w:World} {F:Fp} (s0:σ)
  (G:Sat B E a w F) (hl:ZY E.s (cs s0++sel E.s ks)) (hr:ZY E.r (cr s0++sel E.r rs)) (c0:C s0)
  (round:∀ s a w F,C s→Sat B ⟨cs s++sel E.s ks,cr s++sel E.r rs⟩ a w F→c.wp P (Exit.then (fun a' w'=>∃ s' F',C s' ∧ Sat B ⟨cs s' ++ sel E.s ks,cr s' ++ sel E.r rs⟩ a' w' F' ∧ μ s' < μ s) Q) a w):(Code.loop c).wp P Q a w:=by
 obtain ⟨F',h0⟩:=G.norm _ _ hl hr
 exact ZcR (fun s=>⟨cs s++sel E.s ks,cr s++sel E.r rs⟩) C μ s0 h0 c0 round
section
variable {P:Program} {d:Option Nat} {ty:TypeId} {pos:String} {af:Array Edge} {g:Option (Nat×Bool)}
theorem PVt.get {w:World} {yy:Ys} : ∀ {l:List PV} {vs:List Value} {i:Nat} {p:PV},PVt l vs w yy→l[i]? = some p → ∃ v,vs[i]? = some v∧p.p v w yy
 | [],_,_,_,_,h=>by simp at h
 | q :: l,v :: vs,0,p,h,hi=>by simp at hi;subst hi;exact ⟨v,rfl,h.1⟩
 | q :: l,v :: vs,i+1,p,h,hi=>by
  obtain ⟨u,h1,h2⟩:=PVt.get h.2 (i:=i) (by simpa using hi)
  exact ⟨u,by simpa using h1,h2⟩
 | q :: l,[],_,_,h,_=>h.elim
end
section
variable {B:Zax} {E:En} {a:Act} {w:World} {F:Fp}
theorem Sat.rename {r:RS} (h:Sat B E a w F) (n m:Nat) (hn:look E.r n=some r) (hm:look E.r m=none):∃ F',Sat B ⟨E.s,(m,r) :: (n,RS.hp (HP.star [])) :: E.r⟩ a w F':=by
 have hne:n≠m:=fun e=>by subst e;rw [hn] at hm;cases hm
 have hF:∀ b,¬ F m b:=fun b hb=>by obtain ⟨r,hr⟩:=h.em m b hb;rw [hm] at hr;cases hr
 refine ⟨fun k=>if k=m then F n else if k=n then fun _=>False else F k,h.repart _ (fun b=>⟨?_,?_⟩) (fun i j b hi hj=>?_) (fun k r' hk=>?_) (fun k b hb=>?_)⟩
 ·rintro ⟨k,hk⟩
  by_cases e1:k=m
  ·simp only [e1,Yn] at hk;exact ⟨n,hk⟩
  ·by_cases e2:k=n
   ·simp only [e1,e2,Yk,Yn] at hk
    split at hk
    ·exact ⟨n,hk⟩
    ·exact hk.elim
   ·simp only [e1,e2,Yk] at hk;exact ⟨k,hk⟩
 ·rintro ⟨k,hk⟩
  by_cases e2:k=n
  ·subst e2;exact ⟨m,by simp only [Yn];exact hk⟩
  ·by_cases e1:k=m
   ·subst e1;exact absurd hk (hF b)
   ·exact ⟨k,by simp only [e1,e2,Yk];exact hk⟩
 ·by_cases i1:i=m <;> by_cases j1:j=m
  ·rw [i1,j1]
  ·by_cases j2:j=n
   ·simp only [j2,hne,Yk,Yn] at hj
   ·simp only [i1,j1,j2,Yk,Yn] at hi hj
    exact absurd (h.wf.dis _ _ b hi hj).symm j2
  ·by_cases i2:i=n
   ·simp only [i2,hne,Yk,Yn] at hi
   ·simp only [i1,j1,i2,Yk,Yn] at hi hj
    exact absurd (h.wf.dis _ _ b hi hj) i2
  ·by_cases i2:i=n
   ·simp only [i2,hne,Yk,Yn] at hi
   ·by_cases j2:j=n
    ·simp only [j2,hne,Yk,Yn] at hj
    ·simp only [i1,j1,i2,j2,Yk] at hi hj
     exact h.wf.dis _ _ b hi hj
 ·rw [Zd] at hk
  split at hk
  ·rename_i e
   simp only [YT] at hk;subst hk;subst e
   simp only [Yn]
   exact h.r n _ hn
  ·rename_i e
   rw [Zd] at hk
   split at hk
   ·rename_i e2
    simp only [YT] at hk;subst hk;subst e2
    simp only [hne,Yk,Yn]
    exact fun b hb=>hb
   ·rename_i e2
    have:(if k=m then F n else if k=n then fun _=>False else F k)=F k:=by rw [Yb (fun h=>e h.symm),Yb (fun h=>e2 h.symm)]
    rw [this]
    exact h.r k r' hk
 ·rw [Zd,Zd]
  by_cases e1:m=k
  ·exact ⟨r,by rw [Ye e1]⟩
  ·by_cases e2:n=k
   ·exact ⟨_,by rw [Yb e1,Ye e2]⟩
   ·rw [Yb e1,Yb e2]
    have e3:(if k=m then F n else if k=n then fun _=>False else F k)=F k:=by rw [Yb (fun h=>e1 h.symm),Yb (fun h=>e2 h.symm)]
    rw [e3] at hb
    exact h.em k b hb
end
theorem Zo2 {h:RS} {p:PV} {u:Value} {w:World} {f y:Ys} (hd:h.deps = []):(HP.star [h,RS.hp (gH p u)]).p w f y ↔ h.holds tau0 w f y∧p.p u w y:=by
 constructor
 ·rintro ⟨f1,f2,e1,_,_,h1,f3,f4,e2,_,_,⟨hn,hp⟩,h4⟩
  have e:f1=f:=by
   funext b
   refine propext ⟨fun hb=>(e1 b).2 (.inl hb),fun hb=>?_⟩
   rcases (e1 b).1 hb with hb | hb
   ·exact hb
   ·rcases (e2 b).1 hb with hb | hb
    ·exact absurd hb (hn b)
    ·exact absurd hb (h4 b)
  subst e
  exact ⟨h1,hp⟩
 ·rintro ⟨h1,hp⟩
  exact ⟨f,fun _=>False,fun b=>by simp,fun b _ h=>h,hd,h1,fun _=>False,fun _=>False,fun b=>by simp,fun b h=>h.elim,rfl,⟨fun b h=>h,hp⟩,fun b h=>h⟩
section
variable {P:Program} {ty:TypeId} {pos:String} {af:Array Edge} {g:Option (Nat×Bool)}
theorem ZaT {f:FuncId} {args:Array Operand} {tys:Array TypeId} {d':Nat} {ps:List (Nat×SF)} {avs:List PV} {h:HP} {h':Value→HP} {q:PV} {fn:Func} (n:Nat)
    (hc : FnG P f 1 avs [h] q (fun v => [h' v])) (hf : P.funcs[f]? = some fn) (hb : fn.body.isSome = true) (hn : (fn.name == "runtime.NumGoroutine") = false)
    (ha:∀ (a:Act) w y,Hps ps (Act.tau a) w y → ∃ vs:List Value,args.map a.eval=vs.toArray∧PVt avs vs w y) (h1:∀ v w y,q.p v w y→v.oneCell' = true) :
    OpC P ⟨some d',.call { callee:=.value (.func f),args:=args,argTypes:=tys },ty,pos,af,g⟩ ⟨ps,[(n,RS.hp h)],.same d',[(n,RS.ob (.slot d') h')]⟩:=
  Zcr (is:=[n]) hc hf hb hn ha rfl (by simp) (fun τ w F hr i x hi=>by
      match i,hi with
      | 0,hi=>simp at hi;subst hi;exact ⟨n,rfl,hr (n,RS.hp h) (by simp)⟩)
    (fun _ _ _ _ h=>⟨by simp [upd],h1 _ _ _ h⟩) (fun x hx=>by
      simp only [Yl] at hx
      subst hx
      exact ⟨0,rfl,fun v τ w f y ⟨k,hk,hp⟩=>by
        simp at hk;subst hk
        simpa [RS.holds,Anc.v,upd] using hp⟩) rfl (fun _=>rfl)
end
section
variable {P:Program} {ty:TypeId} {pos:String} {af:Array Edge} {g:Option (Nat×Bool)}
end
end Go.Gm
namespace Go.Gm
set_option linter.unusedVariables false
set_option linter.unusedSimpArgs false
def PV.nm (v:Value):PV:=⟨fun u _ _=>u=v,fun _ h=>h⟩
def ZnF (j:Nat) (x:Operand) (ps:List (Nat×SF)) (p:Value→PV):Prop:=∀ (a:Act) w y,Hps ps (Act.tau a) w y→(p (Act.tau a j)).p (a.eval x) w y
theorem ZnF.same {j:Nat} : ZnF j (.tmp j) [(j,.same j)] (fun v=>.is v):=fun a w y h=>by
 have:=h (j,.same j) (by simp)
 exact ⟨rfl,this.2⟩
theorem ZnF.of {j:Nat} {x:Operand} {ps:List (Nat×SF)} {p:PV} (h:Opd x ps (.pv p)):ZnF j x ps (fun _=>p):=fun a w y hp=>h a w y hp
def Zjn (j:Nat) (args:Array Operand) (ps:List (Nat×SF)) (avs:Value→List PV):Prop:=∀ (a:Act) w y,Hps ps (Act.tau a) w y → ∃ vs:List Value,args.map a.eval=vs.toArray∧PVt (avs (Act.tau a j)) vs w y
theorem Zjn.one {j:Nat} {x:Operand} {ps:List (Nat×SF)} {p:Value→PV} (h:ZnF j x ps p):Zjn j #[x] ps (fun v=>[p v]):=fun a w y hp=>⟨[a.eval x],by simp,h a w y hp,tv⟩
theorem Zjn.two {j:Nat} {x1 x2:Operand} {ps1 ps2:List (Nat×SF)} {p1 p2:Value→PV} (h1:ZnF j x1 ps1 p1) (h2:ZnF j x2 ps2 p2):Zjn j #[x1,x2] (ps1++ps2) (fun v=>[p1 v,p2 v]):=
 fun a w y hp=>⟨[a.eval x1,a.eval x2],by simp,h1 a w y hp.left,h2 a w y hp.right,tv⟩
section
variable {P:Program} {d:Option Nat} {ty:TypeId} {pos:String} {af:Array Edge} {g:Option (Nat×Bool)}
def PV.self (q:Value→PV):PV:=⟨fun v w y=>(q v).p v w y,fun {v _ _ _ _} h k=>(q v).mono h k⟩
theorem Zlr {f:FuncId} {args:Array Operand} {tys:Array TypeId} {d':Nat} {ps:List (Nat×SF)} {avs:List PV} {h1 h2 k1 k2:HP} {q:PV} {fn:Func} (n1 n2:Nat)
    (hc : FnG P f 2 avs [h1, h2] q (fun _ => [k1, k2])) (hf : P.funcs[f]? = some fn) (hb : fn.body.isSome = true) (hn : (fn.name == "runtime.NumGoroutine") = false) (hne : Nat.beq n1 n2 = false)
    (ha:∀ (a:Act) w y,Hps ps (Act.tau a) w y → ∃ vs:List Value,args.map a.eval=vs.toArray∧PVt avs vs w y) :
    OpC P ⟨some d',.call { callee:=.value (.func f),args:=args,argTypes:=tys },ty,pos,af,g⟩ ⟨ps,[(n1,RS.hp h1),(n2,RS.hp h2)],.pv q,[(n1,RS.hp k1),(n2,RS.hp k2)]⟩:=
  Zcr (is:=[n1,n2]) hc hf hb hn ha rfl (by have:n1≠n2:=(fun e=>by subst e;simp at hne);simp [this]) (fun τ w F hr i x hi=>by
      match i,hi with
      | 0,hi=>simp at hi;subst hi;exact ⟨n1,rfl,hr (n1,RS.hp h1) (by simp)⟩
      | 1,hi=>simp at hi;subst hi;exact ⟨n2,rfl,hr (n2,RS.hp h2) (by simp)⟩)
    (fun _ _ _ _ h=>h) (fun x hx=>by
      simp only [Yo,Ya8,Ybx] at hx
      rcases hx with rfl | rfl
      · exact ⟨0,rfl,fun v τ w f y ⟨k,hk,hp⟩=>by simp at hk;subst hk;exact hp⟩
      · exact ⟨1,rfl,fun v τ w f y ⟨k,hk,hp⟩=>by simp at hk;subst hk;exact hp⟩) rfl (fun _=>rfl)
inductive CFn (j:Nat):List CF→(Value→List PV)→Prop
 | nil:CFn j [] (fun _=>[])
 | same {cs:List CF} {l:Value→List PV} (h:CFn j cs l):CFn j (.same j :: cs) (fun v=>.is v :: l v)
 | fn {cs:List CF} {l:Value→List PV} {p:Value→PV} (h:CFn j cs l):CFn j (.fn j p :: cs) (fun v=>p v :: l v)
 | pv {cs:List CF} {l:Value→List PV} {p:PV} (h:CFn j cs l):CFn j (.pv p :: cs) (fun v=>p :: l v)
theorem CFn.holds {j:Nat} {τ:Tau} {w:World} {y:Ys} {cs:List CF} {l:Value→List PV} (h:CFn j cs l):∀ {vs:List Value},PVs (l (τ j)) vs w y→CFs τ w y cs vs:=by
 induction h with
 | nil=>intro vs h;cases vs with
  | nil=>trivial
  | cons=>exact h.elim
 | same h ih=>intro vs h;cases vs with
  | nil=>exact h.elim
  | cons v vs=>exact ⟨⟨h.1.1,h.1.2.1,h.1.1⟩,ih h.2⟩
 | fn h ih=>intro vs h;cases vs with
  | nil=>exact h.elim
  | cons v vs=>exact ⟨h.1,ih h.2⟩
 | pv h ih=>intro vs h;cases vs with
  | nil=>exact h.elim
  | cons v vs=>exact ⟨h.1,ih h.2⟩
theorem Ent.fnAgg {j:Nat} {cs:List CF} {l:Value→List PV} (h:CFn j cs l):Ent (.fn j (fun v=>.agg (l v))) (.agg cs):=fun τ w y v ⟨vs,e,k⟩=>⟨vs,e,h.holds k⟩
end
end Go.Gm
namespace Go.Gm
set_option linter.unusedVariables false
set_option linter.unusedSimpArgs false
theorem Zdo {w:World} {y:Ys} {rs rs':List RS} (hp:rs.Perm rs'):∀ {f:Ys},stars w y rs f→stars w y rs' f:=by
 induction hp with
 | nil=>intro f h;exact h
 | cons r _ ih=>
  rintro f ⟨f1,f2,h1,h2,h3,h4,h5⟩
  exact ⟨f1,f2,h1,h2,h3,h4,ih h5⟩
 | swap r1 r2 l=>
  rintro f ⟨f1,f2,h1,h2,h3,h4,f3,f4,k1,k2,k3,k4,k5⟩
  refine ⟨f3,fun b=>f1 b∨f4 b,fun b=>?_,fun b hb hc=>?_,k3,k4,f1,f4,fun b=>Iff.rfl,fun b hb hc=>?_,h3,h4,k5⟩
  ·rw [h1,k1]
   constructor
   ·rintro (h | h | h)
    ·exact .inr (.inl h)
    ·exact .inl h
    ·exact .inr (.inr h)
   ·rintro (h | h | h)
    ·exact .inr (.inl h)
    ·exact .inl h
    ·exact .inr (.inr h)
  ·rcases hc with hc | hc
   ·exact h2 b hc ((k1 b).2 (.inl hb))
   ·exact k2 b hb hc
  ·exact h2 b hb ((k1 b).2 (.inr hc))
 | trans _ _ ih1 ih2=>intro f h;exact ih2 (ih1 h)
theorem Zfe {α:Type} : ∀ {L:List α} {j:Nat} {x:α},L[j]? = some x→L.Perm (x :: L.eraseIdx j)
 | [],j,x,h=>by simp at h
 | y :: L,0,x,h=>by simp at h;subst h;exact List.Perm.refl _
 | y :: L,j+1,x,h=>by
  have:=Zfe (L:=L) (j:=j) (x:=x) (by simpa using h)
  exact (this.cons y).trans (List.Perm.swap x y _)
section
variable {B:Zax} {E:En} {a:Act} {w:World} {F:Fp} {α:Type} {g:α→HP}
abbrev ZeZ (g:α→HP) (L:List α):RS:=RS.hp (HP.star (L.map fun x=>RS.hp (g x)))
theorem Sat.takeAt (g:α→HP) {L:List α} {x:α} (h:Sat B E a w F) (n i j:Nat) (hl:look E.r n=some (ZeZ g L)) (hi:look E.r i=none) (hj:L[j]? = some x) :
  ∃ F',Sat B ⟨E.s,(i,RS.hp (g x)) :: (n,ZeZ g (L.eraseIdx j)) :: E.r⟩ a w F':=by
 have h1:=h.turn n hl (r':=RS.hp (HP.star (RS.hp (g x) :: (L.eraseIdx j).map fun x=>RS.hp (g x)))) (fun _ _ _ _ k=>Zdo ((Zfe hj).map fun x=>RS.hp (g x)) k)
 have hni:n≠i:=fun e=>by subst e;rw [hl] at hi;cases hi
 obtain ⟨F',h2⟩:=h1.peel n i (by rw [Zd,Ye rfl]) (by rw [Zd,Yb hni];exact hi)
 refine ⟨F',h2.congr (fun _=>rfl) (fun k=>?_)⟩
 simp only [Zd]
 split
 ·rfl
 ·split
  ·rfl
  ·rfl
end
end Go.Gm
namespace Go.Gm
set_option linter.unusedVariables false
set_option linter.unusedSimpArgs false
theorem PVt.append {w y} : ∀ {ps qs:List PV} {us vs:List Value},PVt ps us w y→PVt qs vs w y→PVt (ps++qs) (us++vs) w y
 | [],_,[],_,_,k=>k
 | p :: ps,_,v :: us,_,hh,k=>⟨hh.1,PVt.append hh.2 k⟩
 | [],_,_ :: _,_,hh,_=>hh.elim
 | _ :: _,_,[],_,hh,_=>hh.elim
def PV.clos (f:FuncId) (cps:List PV):PV:=⟨fun u w y=>∃ caps:List Value,u = .func (.func f) #[] caps.toArray∧PVt cps caps w y,fun h ⟨caps,e,k⟩=>⟨caps,e,PVt.mono h k⟩⟩
section
variable {P:Program} {d:Option Nat} {ty:TypeId} {pos:String} {af:Array Edge} {g:Option (Nat×Bool)}
theorem ZaV {f:FuncId} {caps:Array Operand} {ps:List (Nat×SF)} {cps:List PV}
  (ha:∀ (a:Act) w y,Hps ps (Act.tau a) w y → ∃ vs:List Value,caps.map a.eval=vs.toArray∧PVt cps vs w y) :
  OpC P ⟨d,.makeFunc (.func f) #[] caps,ty,pos,af,g⟩ ⟨ps,[],.pv (.clos f cps),[]⟩:=
 OpC.pure fun a w yy hp=>by
  obtain ⟨vs,e,h⟩:=ha a w yy hp
  exact ⟨.func (.func f) #[] vs.toArray,by simp [execOp,Instr.makeFunc,e],fun _ _=>⟨vs,rfl,h⟩⟩
theorem Zh6 {d':Nat} {x:Operand} {ps:List (Nat×SF)} {t:TypeId} {p:PV} (n:Nat) (hx:Opd x ps (.pv p)) (h1:∀ v w yy,p.p v w yy→v.oneCell' = true) :
  OpC P ⟨some d',.box t x,ty,pos,af,g⟩ ⟨ps,[],.same d',[(n,.pt (.slot d') t [.pv p])]⟩:=
 Zom n rfl (fun a w y hp=>by
  have h:=hx a w y hp
  have h1':=h1 _ _ _ h
  refine ⟨[a.eval x],⟨⟨h1',h⟩,tv⟩,?_⟩
  cases e:a.eval x <;> rw [e] at h1' <;> first | (simp [execOp,Instr.box,e,newVar,newRow,Value.cells];done) | simp [Value.oneCell'] at h1') rfl
end
end Go.Gm
namespace Go.Gm
set_option linter.unusedVariables false
set_option linter.unusedSimpArgs false
def PV.one:PV:=⟨fun u _ _=>u.oneCell' = true,fun _ h=>h⟩
theorem Zbh:∀ v w yy,PV.one.p v w yy→v.oneCell' = true:=fun _ _ _ h=>h
theorem Ent.one {v:Value} : Ent (.pv (.is v)) (.pv PV.one):=fun _ _ _ _ h=>h.2
theorem Zf1 {α:Type} {T sz:Nat} {R:α→List PV} {l:List α} {v:Value} : Zoj (Zs T sz R l v) v (PV.sl R l):=fun w f y y' h hle hf hlt=>by
 obtain ⟨xs,r1,r2,r3⟩:=h
 obtain ⟨ad,cap,e8,h8,h9,h10⟩:=ZB r1
 refine ⟨ad,cap,e8,h8,h9,?_⟩
 rcases h10 with h10 | ⟨b',rfl,h11,h12⟩
 ·exact .inl (YE h10)
 ·have hb:f b':=(r3 b').2 (by rw [e8];rfl)
  exact .inr ⟨b',0,xs,rfl,hf b' hb,hlt b' hb,h12,PVs.mono (Ev.less w hle) r2⟩
theorem OpC.head {P:Program} {o:Oper} {ps:List (Nat×SF)} {q:SF} {n:Nat} {r r':RS} {pr qr:List (Nat×RS)} (h:OpC P o ⟨ps,(n,r) :: pr,q,qr⟩) (hr:∀ τ w fb y,r'.holds τ w fb y→r.holds τ w fb y):OpC P o ⟨ps,(n,r') :: pr,q,qr⟩:=fun a w F K Q hw hs hp ht=>
 h a w F K Q hw hs (fun x hx=>by
  rcases Yo.1 hx with rfl | hx
  ·exact hr _ _ _ _ (hp (n,r') (by simp))
  ·exact hp x (by simp [hx])) ht
theorem OpC.lendRow {P:Program} {o:Oper} {ps:List (Nat×SF)} {pr qr:List (Nat×RS)} {q:SF} {α:Type} {T sz:Nat} {R:α→List PV} {l:List α} (n:Nat) (is:List Nat) {v:Value} (hc:OpC P o ⟨ps,pr,q,qr⟩) (hk:LentOk is (PV.sl R l) ps) (hq:Zpx q) (hqr:Zk3 (Zs T sz R l v) qr) (hni:ZnX n ⟨ps,pr,q,qr⟩ = true) :
  OpC P o ⟨lendPs is v ps,(n,.ob (.val v) (Zs T sz R l)) :: pr,q,qr⟩:=
 (OpC.lend n is Zf1 hc hk hq hqr hni).head fun _ _ _ _ h=>h
section
variable {P:Program} {d:Option Nat} {ty:TypeId} {pos:String} {af:Array Edge} {g:Option (Nat×Bool)}
def Zna (i j:Nat):Value→Value
 | .slice (some a) _ c=>.slice (some ⟨a.block,if c - i=0 then a.off else a.off+i,none⟩) (j - i) (c - i)
 | v=>v
theorem ZiJ {α:Type} {R:α→List PV} {l:List α} {t e:TypeId} {x y z:Operand} {ps qs rs:List (Nat×SF)} {k k':IntKind} {i j:Int} {v:Value} (n:Nat) (he:Zas P t e 1) (hx:Zal x ps (.val v)) (hy:Opd y qs (.pv (.int k i))) (hz:Opd z rs (.pv (.int k' j))) (h0:0≤i) (h1:i≤j) (h2:j≤l.length) (h3:0<l.length) :
  OpC P ⟨d,.slice t x (some y) (some z) none,ty,pos,af,g⟩ ⟨ps++(qs++rs),[(n,.ob (.val v) (Zs e 1 R l))],.pv (.is (Zna i.toNat j.toNat v)),[]⟩:=
 OpC.read fun act w F hp hr=>by
  obtain ⟨xs,h4,h5,h6⟩:=hr (n,.ob (.val v) (Zs e 1 R l)) (by simp)
  obtain ⟨ad,cap,e1,h7,h8,h9⟩:=ZB h4
  simp only [Anc.v] at e1
  have e2:=(hy act w _ hp.right.left).1
  have e4:=(hz act w _ hp.right.right).1
  have e3:act.eval x = .slice ad l.length cap:=by rw [hx act w _ hp.left];exact e1
  rcases h9 with h9 | ⟨b,rfl,_,_⟩
  ·omega
  ·subst e1
   have hh:(Instr.sliceBounds true l.length cap (some (.int k i)) (some (.int k' j)) none).run P w = .ok (i.toNat,j.toNat,cap) w:=by
    have h01:0≤j:=by omega
    have h02:j.toNat≤cap:=by omega
    have h03:j≤(cap:Int):=by omega
    have h04:i.toNat≤j.toNat:=by omega
    have h05:i≤(j.toNat:Int):=by omega
    simp [Instr.sliceBounds,Instr.sliceBound,asIntOf,h0,h01,h02,h03,h04,h05]
    try (intro h;exfalso;omega)
   by_cases hci:cap - i.toNat=0
   ·refine ⟨.slice (some ⟨b,0,none⟩) (j.toNat - i.toNat) (cap - i.toNat),?_,fun τ _=>⟨by simp [Zna,hci],rfl⟩⟩
    simp only [execOp,e3,e2,e4,Yae,Y8,Instr.sliceAt,Yy,Yh he.1,Yp,Instr.slice,hh,run_sizeOf he.2,YC,Ye hci,Addr.add]
    simp [hci]
    try (intro h;omega)
   ·refine ⟨.slice (some ⟨b,0+i.toNat,none⟩) (j.toNat - i.toNat) (cap - i.toNat),?_,fun τ _=>⟨by simp [Zna,hci],rfl⟩⟩
    have hne2:¬ cap=i.toNat:=by omega
    have had:(if i.toNat*1=0 then (⟨b,0,none⟩:Addr) else ⟨b,0+i.toNat*1,none⟩) = ⟨b,0+i.toNat,none⟩:=by
     split
     ·rename_i h;rw [Ya3] at h;rw [h]
     ·rw [Ya3]
    simp only [execOp,e3,e2,e4,Yae,Y8,Instr.sliceAt,Yy,Yh he.1,Yp,Instr.slice,hh,run_sizeOf he.2,YC,Yb hci,Addr.add]
    simp [hne2]
    try (intro h;omega)
theorem o_copy_lh {α:Type} {R:α→List PV} {l s:List α} {t t2 e T:TypeId} {x y:Operand} {ps qs:List (Nat×SF)} {i j:Nat} {v:Value} {d':Nat} (n:Nat) (hu:P.underlying t=some (.slice e)) (hs:(P.info? e).map (·.size)=some 1) (hR:∀ x,(R x).length=1) (hx:Opd x ps (.pv (.is (Zna i j v)))) (hy:Opd y qs (.pv (.sl R s))) (h1:i≤j) (h2:j≤l.length) (h3:0<l.length) (hlen:s.length=j - i) :
  OpC P ⟨some d',.call { callee:=.builtin .copy,args:=#[x,y],argTypes:=#[t,t2] },ty,pos,af,g⟩ ⟨ps++qs,[(n,.ob (.val v) (Zs T 1 R l))],.pv .any,[(n,.ob (.val v) (Zs T 1 R (l.take i++s++l.drop j)))]⟩:=fun act w F K Q hw hp hr ht=>by
 obtain ⟨xs,r1,r2,r3⟩:=hr (n,.ob (.val v) (Zs T 1 R l)) (by simp)
 simp only [Anc.v] at r1 r3
 have hxl:=r1.1
 rcases r1.2 with ⟨_,hn0⟩ | ⟨b,cap,cur,ev,_,hg,hnc,hcm,hcs,htake⟩
 ·omega
 ·obtain ⟨o,ho,ex⟩:∃ o:Nat,(o=i∨(o=0∧j - i=0))∧act.eval x = .slice (some ⟨b,o,none⟩) (j - i) (cap - i):=by
   refine ⟨if cap - i=0 then 0 else 0+i,?_,by rw [(hx act w (U F) hp.left).1,ev];rfl⟩
   split
   ·exact .inr ⟨rfl,by omega⟩
   ·exact .inl ow
  obtain ⟨sa,sc,es,hsc,hscm,hsv⟩:=hy act w (U F) hp.right
  have ht0:∀ u,upd (Act.tau act) (some d') u=upd (Act.tau act) (some d') u:=fun _=>rfl
  have hfm:=Zih hR
  have hcur:cur.toList.length=cur.size:=by simp
  have hf:∀ z,F n z ↔ z=b:=fun z=>by rw [r3 z,ev];simp [Value.ownBlock,Y3]
  obtain ⟨cs,hrun,hcl,hcp⟩:∃ cs:List Value,(execOp act.eval ⟨some d',.call { callee:=.builtin .copy,args:=#[x,y],argTypes:=#[t,t2] },ty,pos,af,g⟩).run P w = .ok (.value (goInt cs.length)) (w.setRow b (cur.toList.take i++cs++cur.toList.drop (i+cs.length)).toArray)∧cs.length=j - i∧PVs (s.flatMap R) cs w (U F):=by
   rcases hsv with hsn | ⟨sb,soff,svs,rfl,hny,hsb,hcells,hpv⟩
   ·subst hsn
    have hji:j - i=0:=by simpa using hlen.symm
    refine ⟨[],?_,by simp [hji],tv⟩
    have hw0:w.setRow b (cur.toList.take i ++ [] ++ cur.toList.drop (i+([]:List Value).length)).toArray=w:=by
     simp only [Y2,YS,YaO,Yaw,Array.toArray_toList]
     exact setRow_self w b cur T (0,0) hg
    rw [hw0]
    cases sa with
    | none=>simp [execOp,resolve,invoke,builtin,ex,es,hji,Builtin.copy_,Yh hu,Builtin.lenOf,Builtin.firstCells,run_sizeOf hs,goInt,storeCells]
    | some sa=>
     have hl0:=Yas (P:=P) w sa [] (by simp)
     simp only [YS] at hl0
     simp [execOp,resolve,invoke,builtin,ex,es,hji,Builtin.copy_,Yh hu,Builtin.lenOf,Builtin.firstCells,run_sizeOf hs,goInt,storeCells,hl0]
   ·have hsl:svs.length=s.length:=by rw [← hpv.len,hfm];omega
    have hc:=run_copy_row (P:=P) w t t2 ty e b o (j - i) (cap - i) ⟨sb,soff,none⟩ s.length sc cur T svs hu hs hg (by rw [hsl,hlen];exact (Ybl _).symm) (fun k u hk=>by rw [add_lit];exact Zq.get hcells k u hk) (by rw [hsl,hlen];rw [hcs];rcases ho with ho | ho <;> omega) hpv.one
    have hoi:(cur.toList.take i++svs++cur.toList.drop (i+svs.length)).toArray=(cur.toList.take o++svs++cur.toList.drop (o+svs.length)).toArray:=by
     rcases ho with rfl | ⟨_,ho⟩
     ·rfl
     ·have:svs = []:=YE ow
      subst this;simp
    refine ⟨svs,?_,by rw [hsl,hlen],hpv⟩
    rw [hoi]
    simp only [execOp,resolve,invoke,builtin,ex,es]
    simp [hc,resolve,invoke,builtin,ex,es]
  obtain ⟨g1,g2⟩:=Zam hw hg hf (cur.toList.take i++cs++cur.toList.drop (i+cs.length)).toArray
  simp only [Oper.wp,hrun,Oper.upon]
  refine ht _ _ F g1 g2 trivial ?_
  intro z' hz'
  simp only [Yl] at hz'
  subst hz'
  have hll:(l.take i++s++l.drop j).length=l.length:=by simp;omega
  have htk:(cur.toList.take i++cs++cur.toList.drop (i+cs.length)).take l.length=xs.take i++cs++xs.drop j:=by
   have e1:cur.toList.take i=xs.take i:=by rw [← htake,Yah,Ya3,Yaf ow]
   have e2:xs.drop j=(cur.toList.drop j).take (l.length - j):=by rw [← htake,Ya3,Ybr]
   have e3:i+cs.length=j:=by omega
   have e4:(xs.take i).length=i:=by rw [Yf,hxl];omega
   rw [e1,e3,YaT,YJ (by rw [Yd,e4];omega),Yd,e4,e3,e2]
  refine ⟨xs.take i++cs++xs.drop j,⟨?_,.inr ⟨b,cap,_,by rw [hll];exact ev,Yr _,YaW w b cur _ T (0,0) hg,by rw [hll];exact hnc,hcm,?_,?_⟩⟩,?_,r3⟩
  ·rw [hll,Yd,Yd,Yf,Yt,hxl,hcl];omega
  ·simp only [YaE,Yd,Yf,Yt]
   omega
  ·rw [hll,Ya3];exact htk
  ·rw [Yai,Yai]
   have hev:=g2.ev
   have hp1:=PVs.mono hev r2
   have hps:PVs ((l.take i).flatMap R) (xs.take i) (w.setRow b (cur.toList.take i++cs++cur.toList.drop (i+cs.length)).toArray) (U F):=by
    have:=hp1.take i
    rwa [← Ya3 i,← ZbX hR,Ya3] at this
   have hpd:PVs ((l.drop j).flatMap R) (xs.drop j) (w.setRow b (cur.toList.take i++cs++cur.toList.drop (i+cs.length)).toArray) (U F):=by
    have:=hp1.drop j
    rwa [← Ya3 j,← ZeN hR,Ya3] at this
   exact (hps.append (PVs.mono hev hcp)).append hpd
theorem ZL {f:FuncId} {x:Operand} {args:Array Operand} {tys:Array TypeId} {qs ps:List (Nat×SF)} {avs cps:List PV} {q:PV} {fn:Func} (hx:Opd x qs (.pv (.clos f cps)))
    (hc : FnP P f (avs ++ cps) q) (hf : P.funcs[f]? = some fn) (hb : fn.body.isSome = true) (hn : (fn.name == "runtime.NumGoroutine") = false)
    (ha:∀ (a:Act) w y,Hps ps (Act.tau a) w y → ∃ vs:List Value,args.map a.eval=vs.toArray∧PVt avs vs w y) :
    OpC P ⟨d,.call { callee:=.value x,args:=args,argTypes:=tys },ty,pos,af,g⟩ ⟨qs++ps,[],.pv q,[]⟩:=fun a w F K Q hw hp hr ht=>by
  obtain ⟨vs,e,hvs⟩:=ha a w (U F) hp.right
  obtain ⟨caps,e2,hcs⟩:=hx a w (U F) hp.left
  have hbn:fn.body≠none:=by intro h;rw [h] at hb;cases hb
  have hn' : fn.name ≠ "runtime.NumGoroutine" := by intro h; rw [h] at hn; simp at hn
  have hrun:(execOp a.eval ⟨d,.call { callee:=.value x,args:=args,argTypes:=tys },ty,pos,af,g⟩).run P w = .ok (.enter f (vs++caps).toArray) w:=by
    simp [execOp,resolve,e,e2,Deferred.ofValue,invoke,callFunc,hf,hn',hbn]
  simp only [Oper.wp,hrun,Oper.upon]
  refine (hc w (U F) (vs++caps) (fun b ⟨n,hn⟩=>hw.bd n b hn) (hvs.append hcs)).mono ?_
  rintro e' w' ⟨v,rfl,hq,hbel⟩
  have hst:Stp [] w F w' F:=⟨hbel.os,hbel.tape,hbel.output,hbel.size,fun b hb _=>hbel.block b hb,fun _ _=>rfl,fun _ h=>by cases h⟩
  exact ht v w' F ⟨hw.dis,fun n b hn=>Y0 (hw.bd n b hn) hbel.size⟩ hst hq (fun x hx=>by cases hx)
end
theorem ZmB {P:Program} {ty:TypeId} {pos:String} {af:Array Edge} {g:Option (Nat×Bool)} {α:Type} {R:α→List PV} {T sz:Nat} {l:List α} {f:FuncId} {args:Array Operand} {tys:Array TypeId} {d':Nat} {ps:List (Nat×SF)} {avs:Value→List PV} {h':Value→HP} {q:PV} {fn:Func} (j n2:Nat)
    (hc : ∀ v, FnG P f 1 (avs v) [Zs T sz R l v] q (fun u => [h' u])) (hf : P.funcs[f]? = some fn) (hb : fn.body.isSome = true) (hn : (fn.name == "runtime.NumGoroutine") = false)
    (ha:Zjn j args ps avs) (h1:∀ v w y,q.p v w y→v.oneCell' = true) :
    OpC P ⟨some d',.call { callee:=.value (.func f),args:=args,argTypes:=tys },ty,pos,af,g⟩ ⟨ps,[(n2,.ob (.slot j) (Zs T sz R l))],.same d',[(n2,.ob (.slot d') h')]⟩:=fun a w F K Q hw hp hr ht=>by
  have hx:=ZaX (P:=P) (ty:=ty) (pos:=pos) (af:=af) (g:=g) (tys:=tys) (d':=d') (ps:=(j,.pv (PV.nm (Act.tau a j))) :: ps) n2 (hc (Act.tau a j)) hf hb hn
    (args:=args) (fun a' w y hp'=>by
      have e:Act.tau a' j=Act.tau a j:=hp' (j,.pv (PV.nm (Act.tau a j))) (by simp)
      obtain ⟨vs,h1,h2⟩:=ha a' w y (fun x hx=>hp' x (by simp [hx]))
      exact ⟨vs,h1,by rw [← e];exact h2⟩) h1
  refine hx a w F K Q hw (fun x hx=>?_) (fun x hx=>?_) ht
  · rcases Yo.1 hx with rfl | hx
    · rfl
    · exact hp x hx
  · simp only [Yo,Ya8,Ybx] at hx
    subst hx
    exact hr (n2,.ob (.slot j) (Zs T sz R l)) (by simp)
theorem o_indexAddr_sub {P:Program} {d:Option Nat} {ty:TypeId} {pos:String} {af:Array Edge} {g:Option (Nat×Bool)} {α:Type} {R:α→List PV} {l:List α} {t e T:TypeId} {sz j:Nat} {x y:Operand} {ps qs:List (Nat×SF)} {k:IntKind} {i:Int} {v:Value} (n:Nat) (he:Zas P t e sz) (hx:Opd x ps (.pv (.is (Zlw sz j v)))) (hy:Opd y qs (.pv (.int k i))) (h0:0≤i) (h1:j+i.toNat<l.length) (hd:ZaA d (.adr (.val v) ((j+i.toNat)*sz))=true) :
  OpC P ⟨d,.indexAddr t x y,ty,pos,af,g⟩ ⟨ps++qs,[(n,.ob (.val v) (Zs T sz R l))],.adr (.val v) ((j+i.toNat)*sz),[]⟩:=
 OpC.read fun act w F hp hr=>by
  obtain ⟨xs,h2,h3,h4⟩:=hr (n,.ob (.val v) (Zs T sz R l)) (by simp)
  obtain ⟨ad,cap,e1,h5,h6,h7⟩:=ZB h2
  simp only [Anc.v] at e1
  have e2:=(hy act w _ hp.right).1
  rcases h7 with h7 | ⟨b,rfl,_,_⟩
  ·omega
  ·have e3:act.eval x = .slice (some ⟨b,0+j*sz,none⟩) (l.length - j) (cap - j):=by rw [(hx act w _ hp.left).1,e1];rfl
   have ev:(Anc.val v).v (Act.tau act) = .slice (some ⟨b,0,none⟩) l.length cap:=e1
   refine ⟨.pointer (some ⟨b,0+j*sz+i.toNat*sz,none⟩),by simp [execOp,e3,e2,Zey he h0 (show i<((l.length - j:Nat):Int) by omega)],fun τ' ht=>Zaa (w:=w) (y:=U F) hd ht ?_⟩
   simp [SF.holds,ev,shift,YaX]
end Go.Gm
namespace Go.Gm
set_option linter.unusedVariables false
set_option linter.unusedSimpArgs false
set_option linter.unusedSectionVars false
section
variable {P:Program} {o:Oper}
theorem ZkW {τ:Tau} {d:Option Nat} {v:Value} {j:Nat} (hd:(d == some j)=false):upd τ d v j=τ j:=by
 unfold upd
 cases d with
 | none=>simp
 | some k=>simp at hd;simp [hd]
theorem Zge {i j:Nat} {ps:List (Nat×SF)} {pr qr:List (Nat×RS)} {p:Value→PV} (hd:(o.dst == some j)=false) (h:∀ z,OpC P o ⟨(i,.pv (.is z)) :: ps,pr,.pv (p z),qr⟩) :
  OpC P o ⟨(i,.same j) :: ps,pr,.fn j p,qr⟩:=fun a w F K Q hw hp hr ht=>by
 have h1:=hp (i,.same j) (by simp)
 refine h (Act.tau a j) a w F K Q hw (fun x hx=>?_) hr (fun v w' F' g1 g2 g3 g4=>ht v w' F' g1 g2 ?_ g4)
 ·rcases Yo.1 hx with rfl | hx
  ·exact h1
  ·exact hp x (by simp [hx])
 ·show (p (upd (Act.tau a) o.dst v j)).p v w' (U F')
  rw [ZkW hd];exact g3
theorem ZiB {i j m:Nat} {ps:List (Nat×SF)} {pr:List (Nat×RS)} {p:Value→PV} {q:SF} {a:Anc} {g:Value→Value→HP} (hd:(o.dst == some j)=false) (h:∀ z,OpC P o ⟨ps ++ [(i,.pv (p z))],pr,q,[(m,.ob a (g z))]⟩) :
  OpC P o ⟨ps ++ [(i,.fn j p)],pr,q,[(m,.obf j a g)]⟩:=fun act w F K Q hw hp hr ht=>by
 refine h (Act.tau act j) act w F K Q hw (fun x hx=>?_) hr (fun v w' F' g1 g2 g3 g4=>ht v w' F' g1 g2 g3 fun x hx=>?_)
 ·rcases YM.1 hx with hx | hx
  ·exact hp x (by simp [hx])
  ·simp only [Yl] at hx;subst hx
   exact hp (i,.fn j p) (by simp)
 ·simp only [Yl] at hx;subst hx
  have h9:=g4 (m,.ob a (g (Act.tau act j))) (by simp)
  show (g (upd (Act.tau act) o.dst v j) (a.v _)).p w' _ _
  rw [ZkW hd];exact h9
end
end Go.Gm
