/- Texts put together. No condition beyond those that each theorem says. -/
import Derived.Test.YtlkpllemoepamaaGreatJ19
import Derived.Test.YtlkpllemoepamaaGreatJ1
import Derived.Test.YtlkpllemoepamaaGreatJ14
namespace Go.Proofs.YtlkpllemoepamaaGreat
open Go Go.Gm Tryz
set_option linter.unusedVariables false
set_option linter.unusedSimpArgs false
set_option maxHeartbeats 4000000
set_option maxRecDepth 8000
section
variable {P:Program} {d:Option Nat} {t t' ty:TypeId} {pos:String} {af:Array Edge} {g:Option (Nat×Bool)} {x:Operand} {ps:List (Nat×SF)}
theorem ZgX {e:TypeId} (hu:P.underlying t=some (.slice e)) (hx:Opd x ps (.pv (.is (.slice none 0 0)))) :
  OpC P ⟨d,.binOp .eql t x (.const (.slice none 0 0)) t',ty,pos,af,g⟩ ⟨ps,[],.pv (.bool true),[]⟩:=
 OpC.pure fun a w yy hp=>by
  have e1:=(hx a w yy hp).1
  have hr:=Go.Lib.run_eql_slice_nil (P:=P) w t e none 0 0 0 0 hu
  refine ⟨.bool true,?_,fun _ _=>rfl⟩
  simp only [execOp,e1,Zcv,YA,show (eqGuard .eql t x (.const (.slice none 0 0)) (.slice none 0 0) (.slice none 0 0)).run P w = .ok () w from rfl,Yn,hr,YF]
  rfl
theorem Zoi {e:TypeId} (hu:P.underlying t=some (.slice e)) (hx:Opd x ps (.pv (.is (.slice none 0 0)))) :
  OpC P ⟨d,.call { callee:=.builtin .len,args:=#[x],argTypes:=#[t] },ty,pos,af,g⟩ ⟨ps,[],.pv (.int .i64 0),[]⟩:=
 OpC.pure fun a w yy hp=>by
  have e1:=(hx a w yy hp).1
  refine ⟨.int .i64 0,?_,fun _ _=>⟨rfl,by simp [inR,IntKind.min,IntKind.max,IntKind.signed,IntKind.bits]⟩⟩
  simp [execOp,resolve,invoke,builtin,e1,Ybz w t ty none 0 0 (Zf6 hu),goInt]
theorem Zij {α:Type} {R:α→List PV} {l:List α} {e:TypeId} (hu:P.underlying t=some (.slice e)) (hx:Opd x ps (.pv (.sl R l))) (hne:¬ l = []) :
  OpC P ⟨d,.binOp .eql t x (.const (.slice none 0 0)) t',ty,pos,af,g⟩ ⟨ps,[],.pv (.bool false),[]⟩:=
 OpC.pure fun a w yy hp=>by
  obtain ⟨ad,cap,e1,_,_,h3⟩:=hx a w yy hp
  have hr:=Go.Lib.run_eql_slice_nil (P:=P) w t e ad l.length cap 0 0 hu
  have hn:ad.isNone=false:=by
   rcases h3 with h3 | ⟨b,off,vs,rfl,_⟩
   ·exact absurd h3 hne
   ·rfl
  refine ⟨.bool false,?_,fun _ _=>rfl⟩
  simp only [execOp,e1,Zcv,YA,show (eqGuard .eql t x (.const (.slice none 0 0)) (.slice ad l.length cap) (.slice none 0 0)).run P w = .ok () w from rfl,Yn,hr,YF,hn]
end
theorem Zr0 (l:List Zg) (hl:l.length≤1000000):FnG prog 124 1 [.sl Zp l] [.star []] (PV.one) (fun v=>[ZA 42 4 Zp l v]):=by
 refine FnG.mk func124 rfl ntmps124 rfl kr fun B F0 a w F V hG G=>?_
 obtain ⟨F,G⟩:=G.nM [0] [0]
 refine Ya (rZ G (qC qZ) V [2,0] [0] fun G=>(Ya (Ya ?_)))
 refine Zf G (qR rr (qf (Zby underlying31 .t) r1 qz qZ)) V [4,2,0] [0] rfl rfl fun a w F G=>?_
 obtain ⟨β4,hβ4,G⟩:=G.pickBool 4 rfl
 obtain ⟨F,G⟩:=G.nM [4,2,0] [0]
 refine Za (Zc G rfl (fun hc0=>?_) (fun hc0=>?_))
 ·have hg:l = []:=hβ4 hc0
  refine Ya (rZ G (qC qZ) V [2,0] [0] fun G=>(Yh (Zk ?_)))
  have G:=G.fresh 1 rfl
  have G:=G.turn 1 rfl (ZaA (T:=42) (sz:=4) (R:=Zp))
  have G:=G.turn 1 rfl (r':=RS.hp (ZA 42 4 Zp l (.slice none 0 0))) (fun _ _ _ _ h=>by rw [hg];exact h)
  refine Z8 (h':=fun v=>ZA 42 4 Zp l v) hG G rfl (.tmp rfl .nil) (.one .one) rfl
 have hg:l = [] ++ l:=rfl
 refine Ye (Za (Ya (Zb G (qf (ZaW (R:=Zp) (sz:=4) 101 underlying31 kr) trivial qz (qR rr (qf (ZW (sz:=4) (bs:=32) 101 (.mk' underlying31 kr kr) (by intro x;rfl) .same (.sl .t) (by simp only [Yd,Yy];omega) (by decide)) ⟨rfl,rfl,tv⟩ ⟨rfl,tv⟩ (qO rr qZ)))) V [2] [101,0] (fun _=>rfl) (fun _=>rfl) fun τ a w F G=>?_)))
 try dsimp only [RS.sub,SF.sub,CF.sub,csub,Anc.sub,List.map,Ze,xL,xM,Nat.reduceAdd,xD,xE,xT,xU,xC,xN,zCF,Zp] at G
 generalize τ 7=v7 at G
 refine Za (Yh ?_)
 obtain ⟨F,G⟩:=G.rename 101 1 rfl rfl
 have G:=G.turn 1 rfl (r':=RS.hp (ZA 42 4 Zp l v7)) (fun _ _ _ _ h=>by rw [hg];exact h)
 refine Z8 (h':=fun v=>ZA 42 4 Zp l v) hG G rfl (.tmp rfl .nil) (.one .one) rfl
theorem Zs6 (l : List Zg) (p : Zg → Bool) (f : FuncId) (fn : Func) (cps : List PV) (hf : prog.funcs[f]? = some fn) (hb : fn.body.isSome = true) (hnn : (fn.name == "runtime.NumGoroutine") = false) (hw : ∀ x, FnP prog f (.agg (Zp x) :: cps) (.bool (p x))) : FnP prog 166 [.sl Zp l, .clos f cps] (.int .i64 (Z3 p l)) := by
 refine FnP.mk func166 rfl ntmps166 rfl fun B a w F V hfr G=>?_
 have hll:=Sat.lenSl G (i:=0) rfl
 refine Ya (rZ G (qI qZ) V [4,1,0] [0] fun G=>(Ya (Ya ?_)))
 refine rZ G (qR rr (qu underlying31 r1 (qJ qZ))) V [8,7,4,1,0] [0] fun G=>Yg ?_
 refine Zl (σ:=(Nat)) [0,1,4,7] [0] (fun s=>[(8,.pv (.int .i64 (s:Int)))]) (fun s=>[]) (fun s=>s≤l.length∧(∀ k,k<s→p (Nn l k)=false)) (fun s=>l.length - s) (0) G ⟨rfl,rfl,rfl,rfl,rfl,tv⟩ ⟨rfl,tv⟩ ⟨Yv _,fun k hk=>absurd hk (YX k)⟩ ?_
 clear G;intro i a w F hC G
 try dsimp only at hC
 obtain ⟨F,G⟩:=G.nM [8,7,4,1,0] [0]
 try dsimp only at G
 obtain ⟨hi,hq⟩:=hC
 refine Ya (rZ G (qL r2) V [9,8,7,4,1,0] [0] fun G=>Ya ?_)
 refine Zc G rfl (fun hc0=>?_) (fun hc0=>?_)
 ·skip
  have hil:i<l.length:=by simp at hc0;omega
  refine Ye (Za (Ya (Yg (Ya (rZ G (qR rr (qO rr qZ)) V [8,7,5,4,1,0] [0] fun G=>Ya ?_)))))
  refine Zf G (qR rr (qR rr (qR rr (qy 4 underlying31 r2 (qf (oR true 4 .t) r1 qz (qf (ZN (avs:=[.agg (Zp (Nn l i))]) .t (hw (Nn l i)) hf hb hnn (Args.one (.pagg .t))) r2 qz qZ)))))) V [16,8,7,5,4,1,0] [0] rfl rfl fun a w F G=>?_
  try simp only [Yb] at G
  refine Za (Zc G rfl (fun hc1=>?_) (fun hc1=>?_))
  ·skip
   have hg:(i:Int)=Z3 p l:=(Zc7 hil hc1 hq).symm
   refine Ya (rZ G (qR rr (qO rr qZ)) V [8,7,4,1,0] [0] fun G=>(Yh (Zu (Zk (Zk (Zu (Zk ?_)))))))
   refine Zo hfr G rfl rfl rfl (.int hg)
  have hne:p (Nn l i)=false:=hc1
  refine Ye (Zj (Za (rZ G (qp r1 (qR rr qZ)) V [8,7,4,1,0] [0] fun G=>?_)))
  replace G:=G.ent (i:=8) (s':=.pv (.int .i64 ((i+1:Nat):Int))) rfl (.int (Zd ow))
  obtain ⟨F,G⟩:=G.nM [7,4,1,0,8] [0]
  exact ⟨(i+1),F,⟨by omega,(fun k hk=>by rcases YS (YY hk) with h | h;exact hq k h;rw [h];exact hne)⟩,G,by omega⟩
 have hil:i=l.length:=by simp at hc0;omega
 have hg : -1=Z3 p l:=(ZbT fun k hk=>hq k (by simp at hc0;omega)).symm
 refine Yw (Zi (Zi (Zn (Za (Ya (rZ G (qI qZ) V [4] [0] fun G=>Yh ?_))))))
 refine Zo hfr G rfl rfl rfl (.int hg)
theorem Ztv (v : Value) (l : List Zg) (hll : l.length ≤ 1000000) (p : Zg → Bool) (f : FuncId) (fn : Func) (cps : List PV) (hf : prog.funcs[f]? = some fn) (hb : fn.body.isSome = true) (hnn : (fn.name == "runtime.NumGoroutine") = false) (hw : ∀ x, FnP prog f (.agg (Zp x) :: cps) (.bool (p x))) : FnG prog 123 1 [.is v, .clos f cps] [ZA 42 4 Zp l v] (PV.one) (fun v => [ZA 42 4 Zp (l.filter fun x => !p x) v]) := by
 refine FnG.mk func123 rfl ntmps123 rfl kr fun B F0 a w F V hG G=>?_
 replace G:=G.turn 1 rfl (r':=.ob (.val v) (ZA 42 4 Zp l)) (fun _ _ _ _ h=>h)
 refine Ya (rZ G (qC qZ) V [4,1,0] [1,0] fun G=>Ya ?_)
 refine rZ G (qR rr (qR rr (qf (OpC.lendRow 1 [8] (oP (Zs6 l p f fn cps hf hb hnn hw) func166 (Args.two .t .t)) ⟨rfl,tv,tv⟩ (.pv (fun _ _ _ _ h=>h)) trivial (by rfl)) r2 r1 (qO rr qZ)))) V [5,4,1,0] [1,0] fun G=>(Ya (Ya ?_))
 refine rZ G (qR rr (qf (o_eql .t qi) r1 qz qZ)) V [12,5,4,1,0] [1,0] fun G=>?_
 refine Zc G rfl (fun hc0=>?_) (fun hc0=>?_)
 ·skip
  have hno:=(ZbH p l).resolve_right (by rintro ⟨i,h1,_⟩;simp at hc0;omega)
  have hg:(l.filter fun x=>!p x)=l:=ZgV hno.2
  refine Ya (rZ G (qR rr (qO rr qZ)) V [5,4,1,0] [1,0] fun G=>(Yh (Zk ?_)))
  have G:=G.turn 1 rfl (r':=RS.hp (ZA 42 4 Zp (l.filter fun x=>!p x) v)) (fun _ _ _ _ h=>by rw [hg];exact h)
  refine Z8 (h':=fun v=>ZA 42 4 Zp (l.filter fun x=>!p x) v) hG G rfl (.tmp rfl .nil) (.one .one) rfl
 obtain ⟨i0,hi0,hi1,hip,hib⟩:=(ZbH p l).resolve_left (by rintro ⟨h1,_⟩;simp [h1] at hc0)
 have hst0:=ZlX hi1 hip hib
 refine Ye (Za (Ya (Ya (rZ G (qR rr (qp r1 (qO rr qZ))) V [6,5,4,1,0] [1,0] fun G=>Yg ?_))))
 have hC0:i0<i0+1∧i0+1≤l.length∧l.length=l.length∧l.take i0=(l.take (i0+1)).filter (fun x=>!p x) ∧ ∀ k,i0+1≤k→k<l.length→Nn l k=Nn l k:=⟨by omega,by omega,rfl,hst0,fun k _ _=>rfl⟩
 replace G:=G.ent (i:=5) (s':=.pv (.int .i64 (i0:Int))) rfl (.int hi0)
 replace G:=G.ent (i:=6) (s':=.pv (.int .i64 ((i0+1:Nat):Int))) rfl (.int (by rw [hi0,Zy ow];omega))
 refine Zl (σ:=Nat×Nat×List Zg) [0,1,4] [0] (fun s=>[(5,.pv (.int .i64 (s.1:Int))),(6,.pv (.int .i64 (s.2.1:Int)))]) (fun s=>[(1,.ob (.val v) (ZA 42 4 Zp s.2.2))]) (fun s=>s.1<s.2.1∧s.2.1≤l.length∧s.2.2.length=l.length∧s.2.2.take s.1=(l.take s.2.1).filter (fun x=>!p x) ∧ ∀ k,s.2.1≤k→k<l.length→Nn s.2.2 k=Nn l k) (fun s=>l.length - s.2.1) ((i0),(i0+1),(l)) G ⟨rfl,rfl,rfl,rfl,rfl,tv⟩ ⟨rfl,rfl,tv⟩ hC0 ?_
 clear G;intro s a w F hC G
 obtain ⟨i,j,l1⟩:=s
 try dsimp only at hC
 obtain ⟨F,G⟩:=G.nM [6,5,4,1,0] [1,0]
 try dsimp only at G
 obtain ⟨hij,hj,hll1,htk,hrest⟩:=hC
 refine Ya (Ya (rZ G (qR rr (qR rr (qf (Z1 1 underlying31 .is) r1 r1 (qL r2)))) V [19,6,5,4,1,0] [1,0] fun G=>?_))
 refine Zc G rfl (fun hc1=>?_) (fun hc1=>?_)
 ·skip
  have hjl:j<l.length:=by simp at hc1;omega
  have hnj:Nn l1 j=(Nn l j):=hrest j (YO _) hjl
  have hfs:=ZfY (p:=fun x=>!p x) hjl
  refine Ye (Za (Ya (Yg (Ya (Zb G (qR rr (qR rr (qf (o_indexAddr_row (sz:=4) 1 (.mk underlying31 kr) .is .t ow ow (by rfl)) r2 r1 (qf (Zv (ag:=true) (sz':=4) (sz:=4) 1 .t (by intro x;rfl) ow kr kr kr) r1 r1 (qf (oH [.int .i64 0,.int .i64 0,.int .i64 0,.int .i64 0] 101) trivial qz (qS 4 101 r2 r1 qZ)))))) V [7,6,5,4,1,0] [101,1,0] (fun _=>rfl) (fun _=>rfl) fun τ a w F G=>?_)))))
  try dsimp only [RS.sub,SF.sub,CF.sub,csub,Anc.sub,List.map,Ze,xL,xM,Nat.reduceAdd,xD,xE,xT,xU,xC,xN,zCF,ldSF,Zp] at G
  generalize τ 7=v7 at G
  try simp only [Yb] at G
  rw [hnj] at G
  refine Za (Ya (rZ G (qR rr (qe 4 101 r1 r1 (qf (ZN (avs:=[.agg (Zp (Nn l j))]) .t (hw (Nn l j)) hf hb hnn (Args.one (.pagg .t))) r2 qz (qf (o_not .t) r1 qz qZ)))) V [29,7,6,5,4,1,0] [101,1,0] fun G=>?_))
  refine Zc G rfl (fun hc2=>?_) (fun hc2=>?_)
  ·skip
   have hp:p (Nn l j)=false:=by simpa using hc2
   obtain ⟨i2,hi2e⟩:∃ i2,i2=i+1:=⟨_,rfl⟩
   have hi2:IntKind.wrap .i64 ((i:Int)+1)=(i2:Int):=by rw [hi2e];exact Zd ow
   obtain ⟨l2,hl2⟩:∃ l2,l2=l1.set i (Nn l j):=⟨_,rfl⟩
   have hC2:i2<j+1∧j+1≤l.length∧l2.length=l.length∧l2.take i2=(l.take (j+1)).filter (fun x=>!p x) ∧ ∀ k,j+1≤k→k<l.length→Nn l2 k=Nn l k:=⟨by omega,by omega,by rw [hl2,YT];exact hll1,by rw [hl2,hi2e,hfs,hp,← htk,Zr (by rw [YT];omega),List.take_set_of_le (YO _),nth_eq (by rw [YT];omega),YbK];rfl,fun k hk hk2=>by rw [hl2,nth_eq (by rw [YT];omega),List.getElem_set_ne ow,← nth_eq ow];exact hrest k ow hk2⟩
   refine Ya (Zf G (qR rr (qR rr (qe 4 101 r1 r1 (qf (o_indexAddr_row (sz:=4) 1 (.mk underlying31 kr) .is .t ow ow (by rfl)) r2 r1 (qf (ZeY (sz:=4) 1 .t (by intro x;rfl) ow (.conv .t (Ent.aggU (l:=Zp (Nn l j)) rfl rfl)) kr) r2 r1 qZ))))) V [6,5,4,1,0] [1,0] rfl rfl fun a w F G=>?_)
   try simp only [Yb] at G
   rw [← hl2] at G
   refine Za (Zf G (qR rr (qp r1 (qO rr qZ))) V [6,5,4,1,0] [1,0] rfl rfl fun a w F G=>Zj (Za ?_))
   refine rZ G (qR rr (qp r1 (qO rr qZ))) V [6,5,4,1,0] [1,0] fun G=>?_
   have hmu:l.length - (j+1)<l.length - j:=by omega
   replace G:=G.ent (i:=5) (s':=.pv (.int .i64 (i2:Int))) rfl (.int hi2)
   replace G:=G.ent (i:=6) (s':=.pv (.int .i64 ((j+1:Nat):Int))) rfl (.int (Zd ow))
   obtain ⟨F,G⟩:=G.nM [4,1,0,6,5] [0,1]
   exact ⟨((i2),(j+1),(l2)),F,hC2,G,hmu⟩
  have hp:p (Nn l j)=true:=by simpa using hc2
  obtain ⟨i2,hi2e⟩:∃ i2,i2=i:=⟨_,rfl⟩
  have hi2:(i:Int)=(i2:Int):=by rw [hi2e]
  obtain ⟨l2,hl2⟩:∃ l2,l2=l1:=⟨_,rfl⟩
  rw [← hl2] at G
  have hC2:i2<j+1∧j+1≤l.length∧l2.length=l.length∧l2.take i2=(l.take (j+1)).filter (fun x=>!p x) ∧ ∀ k,j+1≤k→k<l.length→Nn l2 k=Nn l k:=⟨by omega,by omega,by rw [hl2];exact hll1,by rw [hl2,hi2e,hfs,hp,htk];simp,fun k hk hk2=>by rw [hl2];exact hrest k ow hk2⟩
  refine Ye (Zj (Za (rZ G (qR rr (qp r1 (qO rr qZ))) V [6,5,4,1,0] [1,0] fun G=>?_)))
  have hmu:l.length - (j+1)<l.length - j:=by omega
  replace G:=G.ent (i:=5) (s':=.pv (.int .i64 (i2:Int))) rfl (.int hi2)
  replace G:=G.ent (i:=6) (s':=.pv (.int .i64 ((j+1:Nat):Int))) rfl (.int (Zd ow))
  obtain ⟨F,G⟩:=G.nM [4,1,0,6,5] [0,1]
  exact ⟨((i2),(j+1),(l2)),F,hC2,G,hmu⟩
 have hjl:j=l.length:=by simp at hc1;omega
 have hil2:i<l.length:=by omega
 have hg:(l.filter fun x=>!p x)=(l1.take i++List.replicate (l1.length - i) (⟨0,0,0,0⟩:Zg)).take i:=by rw [Y0 (by rw [Yj];omega),YaM,Yb3,htk,hjl,YD]
 refine Yw (Zi (Zi (Zn (Za (Ya (rZ G (qR rr (qR rr (qf (ZaV (sz:=4) 1 (.mk underlying31 kr) .is .t ow ow) r2 r1 (qf (Zdp (R:=Zp) (z:=(⟨0,0,0,0⟩:Zg)) (zs:=[.int .i64 0,.int .i64 0,.int .i64 0,.int .i64 0]) 1 underlying31 kr rfl rfl (fun _ _=>⟨⟨rfl,rfl,Zdj⟩,⟨rfl,rfl,Zdj⟩,⟨rfl,rfl,Zdj⟩,⟨rfl,rfl,Zdj⟩,tv⟩) (by intro x;rfl) .t (by simp;omega)) r1 r1 qZ)))) V [5,4,0] [1,0] fun G=>Ya ?_))))))
 refine Zb G (qR rr (qR rr (qf (ZcV (sz:=4) 1 (.mk underlying31 kr) (by intro x;rfl) .is .t ow (by simp;omega)) r2 r1 (qO rr qZ)))) V [4] [1,0] (fun _=>rfl) (fun _=>rfl) fun τ a w F G=>?_
 try dsimp only [RS.sub,SF.sub,CF.sub,csub,Anc.sub,List.map,Zp] at G
 generalize τ 41=v41 at G
 refine Za (Yh ?_)
 have G:=G.turn 1 rfl (r':=RS.hp (ZA 42 4 Zp (l.filter fun x=>!p x) v41)) (fun _ _ _ _ h=>by rw [hg];exact h)
 refine Z8 (h':=fun v=>ZA 42 4 Zp (l.filter fun x=>!p x) v) hG G rfl (.tmp rfl .nil) (.one .one) rfl
theorem Znf {A:Zw→Prop} {m:Zw→Bool} {κ:Zw→Int} {i:Int} {dv ev:List Int} {out:Int→List Zw} (ho:∀ u x,x ∈ out u ↔ A x∧x.src=u) (hs:∀ u,(out u).Pairwise fun a b=>κ a<κ b) (hL:Zcs A m i dv ev) {need:Bool} {way:List Zw} (hb:ZdA A m κ need i way)
  {b:Int} (hbv:ZX (ZG m dv ev need) (out i)=b) :
  (¬ (0<b∧(way = []∨b<way.length))→ZdA A m κ need (i+1) way) ∧
  (0<b∧(way = []∨b<way.length)→Zb4 A m κ i b.toNat need [] i b.toNat need∧Zba out (ZG m dv ev) m i b.toNat i need≠[]∧ZdA A m κ need (i+1) (Zba out (ZG m dv ev) m i b.toNat i need)∧(Zba out (ZG m dv ev) m i b.toNat i need).length=b.toNat):=by
 have hsh:=Zih (ZG m dv ev need) (out i)
 rw [hbv] at hsh
 obtain ⟨s1,s2⟩:=hL.short (ho i) hsh
 have h0:=hsh.1
 constructor
 ·intro hn
  refine hb.keep (fun hw w hc=>?_) fun hw w hc=>?_
  ·exact s1 (by rcases Int.lt_or_eq_of_le h0 with k | k;exact absurd ⟨k,.inl hw⟩ hn;exact k.symm) w hc.1 hc.2.1 hc.2.2
  ·by_cases k:0<b
   ·have:=(s2 k).2 w hc.1 hc.2.1 hc.2.2
    have:¬ b<way.length:=fun h=>hn ⟨k,.inr h⟩
    omega
   ·exact absurd hc.2.2 (s1 ow w hc.1 hc.2.1)
 ·rintro ⟨k,hw⟩
  have hnear:=s2 k
  have hk:0<b.toNat:=by omega
  obtain ⟨w1,w2,w3⟩:=Zrv ho hs hL hk hnear
  refine ⟨Zb4.start hk hnear,w1.1,hb.turn w1 (fun w hc=>?_) (fun w hc hl=>w3 w hc ow) fun hne=>?_,w2⟩
  ·rw [w2];exact hnear.2 w hc.1 hc.2.1 hc.2.2
  ·rw [w2]
   rcases hw with hw | hw
   ·exact absurd hw hne
   ·omega
theorem ZpX {m:Zw→Bool} {dv ev:List Int} {need:Bool} {x:Zw} {N:Int} (hx:0≤x.dst∧x.dst<dv.length∧x.dst<ev.length) (h1:∀ z ∈ dv,-1≤z∧z≤N) (h2:∀ z ∈ ev,-1≤z∧z≤N) : -1≤ZG m dv ev need x∧ZG m dv ev need x≤N:=by
 unfold ZG
 split
 ·rw [ZaJ hx.1];exact h2 _ (nth_mem ow)
 ·rw [ZaJ hx.1];exact h1 _ (nth_mem ow)
theorem Zrm {n:Nat} {d:List Int} (hd:d.length=2*n) {z:Int} (h:z ∈ ZaO n d):z ∈ d:=by
 obtain ⟨u,h1,rfl⟩:=Yu.1 h
 exact nth_mem (by have:=Ya4.1 h1;omega)
theorem Zr5 {A:Zw→Prop} {i:Int} {a b:Int} : ∀ {w:List Zw},Zd4 A i a w b → ∀ x ∈ w,A x
 | y :: w,h,x,hx=>by
  rcases Yi.1 hx with rfl | hx
  ·exact h.1
  ·exact Zr5 h.2.2.2 x hx
theorem Zl2 {l:List Zg} : (Z6 l).length≤l.length:=by
 have h:=Zf4 (l.map Zg.key)
 rwa [YM] at h
def Zsw (lf:List Zg) (mk:Int) (E:List Zw):Prop:=E.length≤1000000∧(∀ x,(x ∈ E∧ofB mk x.kind=true) ↔ ∃ e,e ∈ lf∧ZbX (rkI (ZO lf)) (rkI (Z6 lf)) e=x)∧(∀ (ms:Int) (need:Bool) (j:Int) (w:List Zw),CwA (fun x=>x ∈ E∧ofB mk x.kind=true) (fun y=>ofB ms y.kind) need j w→0≤j)∧ZcH (· ∈ lf) (rkI (ZO lf)) (rkI (Z6 lf)) (Zib (ZO lf) (Z6 lf))
theorem Zoh {l lf:List Zg} {mk:Int} (hlf:l.filter (kindOk mk)=lf) (hll:lf.length≤100000) (hn:(ZO lf).length≤4096) (hk:(Z6 lf).length≤100000) :
  ∃ E,Zsw lf mk E∧ZbF (ZO lf).length E (ZT (ZO lf).length (lf.map (ZcL (ZO lf) (Z6 lf)))).1 (ZT (ZO lf).length (lf.map (ZcL (ZO lf) (Z6 lf)))).2.1:=by
 have hr:=Zmd (l:=lf) hn ow
 have i1:Zdg (ZO lf):=(ZR _).1
 have hright:∀ e ∈ lf,ZaD (ZO lf).length (ZcL (ZO lf) (Z6 lf) e)=true∧ofB mk e.kind=true:=fun e he=>by
  have a1:=(ZaL i1 (Zao.2 ⟨e,he,.inl rfl⟩)).1
  have a2:=(ZaL i1 (Zao.2 ⟨e,he,.inr rfl⟩)).1
  have a3:=hr.keyr e.key ⟨e,he,rfl⟩
  have hm:e ∈ l.filter (kindOk mk):=by rw [hlf];exact he
  have h4:=(Y4.1 hm).2
  unfold kindOk at h4
  simp only [Yx,Yq] at h4
  refine ⟨ZM.2 ⟨⟨?_,?_⟩,⟨?_,?_⟩,h4.1,?_,?_⟩,h4.2⟩
  ·exact Yat _
  ·exact Yb5.2 a1
  ·exact Yat _
  ·exact Yb5.2 a2
  ·exact a3.1
  ·show rkI (Z6 lf) e.key≤1048575;omega
 have hmem:∀ x,x ∈ (lf.map (ZcL (ZO lf) (Z6 lf))).foldl (ZiG (ZO lf).length) [] ↔ ∃ e,e ∈ lf∧ZbX (rkI (ZO lf)) (rkI (Z6 lf)) e=x:=fun x=>by
  rw [ZhY]
  constructor
  ·rintro (h | ⟨h,_⟩)
   ·cases h
   ·obtain ⟨e,he,h2⟩:=Yu.1 h
    exact ⟨e,he,h2⟩
  ·rintro ⟨e,he,rfl⟩
   exact .inr ⟨Yu.2 ⟨e,he,rfl⟩,(hright e he).1⟩
 have hA:∀ x,(x ∈ (lf.map (ZcL (ZO lf) (Z6 lf))).foldl (ZiG (ZO lf).length) []∧ofB mk x.kind=true) ↔ ∃ e,e ∈ lf∧ZbX (rkI (ZO lf)) (rkI (Z6 lf)) e=x:=fun x=>by
  rw [hmem]
  constructor
  ·exact fun h=>h.1
  ·rintro ⟨e,he,rfl⟩
   exact ⟨⟨e,he,rfl⟩,(hright e he).2⟩
 refine ⟨_,⟨?_,hA,fun ms need j w hc=>?_,hr⟩,(Ziu hn _).1⟩
 ·have h9:=ZdS (n:=(ZO lf).length) (lf.map (ZcL (ZO lf) (Z6 lf))) []
  rw [YM,Yy] at h9
  omega
 ·obtain ⟨c1,c2,_⟩:=hc
  cases w with
  | nil=>exact absurd rfl c1
  | cons x w=>
   obtain ⟨h1,h2,_⟩:=c2
   obtain ⟨e,_,rfl⟩:=(hA x).1 h1
   rw [← h2]
   exact Yat _
theorem Zos {E:List Zw} {O I:List (List Z5)} {mk ms mn mm:Int} (h:ZbF O.length E O I) (hbn:∀ k,1≤k→k≤3→ofB mn k=(ofB mk k && !ofB ms k)) (hbm:∀ k,1≤k→k≤3→ofB mm k=(ofB mk k && ofB ms k)) {i:Nat} (hi:i<O.length) (hn:O.length≤4096) :
  ∃ D D2,Zdb O.length (fun x=>adjO I mk x) (i:Int) (i:Int) D∧Zdb (2*O.length) (Zdw (fun x=>adjO I mn x) (fun x=>adjO I mm x)) (2*(i:Int)) (2*(i:Int)) D2∧Zcs (fun x=>x ∈ E∧ofB mk x.kind=true) (fun y=>ofB ms y.kind) (i:Int) D (ZaO O.length D2) ∧
   D.length=O.length∧(ZaO O.length D2).length=O.length∧(∀ z ∈ D,-1≤z∧z≤90000) ∧ ∀ z ∈ ZaO O.length D2,-1≤z∧z≤90000:=by
 obtain ⟨D,hD⟩:=Zn4 O.length (fun x=>adjO I mk x) (i:Int) (i:Int)
 obtain ⟨D2,hD2⟩:=Zn4 (2*O.length) (Zdw (fun x=>adjO I mn x) (fun x=>adjO I mm x)) (2*(i:Int)) (2*(i:Int))
 have hk:∀ y ∈ E,1≤y.kind∧y.kind≤3:=fun y hy=>(ZM.1 (h.ok y hy)).2.2.1
 refine ⟨D,D2,hD,hD2,ZmG (fun x hx=>(ZM.1 (h.ok x hx.1)).2.1) (prev:=fun x=>adjO I mk x) (fun x u=>?_) (p:=fun x=>adjO I mn x) (q:=fun x=>adjO I mm x) (fun x u=>?_) (fun x u=>?_) hD hD2,hD.1,ZaG,fun z hz=>?_,fun z hz=>?_⟩
 ·rw [(h.prev mk x).2 u]
  constructor
  ·rintro ⟨y,y1,y2,y3,y4⟩;exact ⟨y,⟨y1,y3⟩,y2,y4⟩
  ·rintro ⟨y,⟨y1,y3⟩,y2,y4⟩;exact ⟨y,y1,y2,y3,y4⟩
 ·rw [(h.prev mn x).2 u]
  constructor
  ·rintro ⟨y,y1,y2,y3,y4⟩
   obtain ⟨k1,k2⟩:=hk y y1
   rw [hbn _ k1 k2,Yx,Yaq] at y3
   exact ⟨y,⟨y1,y3.1⟩,y3.2,y2,y4⟩
  ·rintro ⟨y,⟨y1,y3⟩,y5,y2,y4⟩
   obtain ⟨k1,k2⟩:=hk y y1
   exact ⟨y,y1,y2,by rw [hbn _ k1 k2,y3,y5];rfl,y4⟩
 ·rw [(h.prev mm x).2 u]
  constructor
  ·rintro ⟨y,y1,y2,y3,y4⟩
   obtain ⟨k1,k2⟩:=hk y y1
   rw [hbm _ k1 k2,Yx] at y3
   exact ⟨y,⟨y1,y3.1⟩,y3.2,y2,y4⟩
  ·rintro ⟨y,⟨y1,y3⟩,y5,y2,y4⟩
   obtain ⟨k1,k2⟩:=hk y y1
   exact ⟨y,y1,y2,by rw [hbm _ k1 k2,y3,y5];rfl,y4⟩
 ·have:=hD.le (h.prevR mk).1 ⟨by omega,by omega⟩ z hz
  omega
 ·have:=hD2.le (ZmY (h.prevR mn).1 (h.prevR mm).1) ⟨by omega,by omega⟩ z (Zrm hD2.1 hz)
  omega
theorem Zip {lf:List Zg} {mk ms:Int} {E:List Zw} {need:Bool} {i:Nat} {way:List Zw} {R:List Zg} (hE:Zsw lf mk E) (hb:ZdA (fun x=>x ∈ E∧ofB mk x.kind=true) (fun y=>ofB ms y.kind) ZmU need (i:Int) way) (hi:i=(ZO lf).length)
  (hR:(R = [] ∧ ∀ j w,¬ CwE (· ∈ lf) (fun e=>ofB ms e.kind) need j w)∨ZcQ (· ∈ lf) (fun e=>ofB ms e.kind) need R) :
  (way = []→[] = R)∧(way≠[]→(∀ x ∈ way,(0≤x.src∧x.src<((ZO lf).length:Int))∧(0≤x.dst∧x.dst<((ZO lf).length:Int))∧0≤x.label∧x.label<((Z6 lf).length:Int))∧way.map (Zib (ZO lf) (Z6 lf))=R∧R≠[]):=by
 obtain ⟨_,hA,_,hr⟩:=hE
 have i1:Zdg (ZO lf):=(ZR _).1
 have i2:Zdg (Z6 lf):=(ZR _).1
 rw [show (fun x=>x ∈ E∧ofB mk x.kind=true)=fun x=>∃ e,e ∈ lf∧ZbX (rkI (ZO lf)) (rkI (Z6 lf)) e=x from funext fun x=>propext (hA x)] at hb
 obtain ⟨f1,f2⟩:=hr.first (n:=(i:Int)) (fun a ha=>by rw [hi];exact Yb5.2 (ZaL i1 (Zao.2 ha)).1) hb
 constructor
 ·intro hw
  rcases hR with ⟨h1,_⟩ | ⟨j,h1,_⟩
  ·exact h1.symm
  ·exact absurd h1 (f1 hw j R)
 ·intro hw
  have hF:=f2 hw
  refine ⟨fun x hx=>?_,?_⟩
  ·obtain ⟨j,_,hc,_⟩:=hb.2 hw
   obtain ⟨e,he,rfl⟩:=Zr5 hc.2.1 x hx
   have a1:=(ZaL i1 (Zao.2 ⟨e,he,.inl rfl⟩)).1
   have a2:=(ZaL i1 (Zao.2 ⟨e,he,.inr rfl⟩)).1
   have a3:=(ZaL i2 (Zce.2 ⟨e,he,rfl⟩)).1
   exact ⟨⟨Yat _,Yb5.2 a1⟩,⟨Yat _,Yb5.2 a2⟩,Yat _,Yb5.2 a3⟩
  ·have hF2:ZcQ (· ∈ lf) (fun e=>ofB ms e.kind) need (way.map (Zib (ZO lf) (Z6 lf))):=hF
   rcases hR with ⟨_,h2⟩ | h2
   ·obtain ⟨j,h3,_⟩:=hF2
    exact absurd h3 (h2 j _)
   ·refine ⟨hF2.one h2,?_⟩
    obtain ⟨j,h3,_⟩:=h2
    exact h3.1
theorem ZlK (l lf:List Zg) (mask must mk ms mn mm:Int) (hmk:bits .and .i64 mask 14=mk) (hms:bits .and .i64 must 14=ms) (hmn:bits .andNot .i64 mk ms=mn) (hmm:bits .and .i64 mk ms=mm) (hne:mn≠mm) (hbn:∀ k,1≤k→k≤3→ofB mn k=(ofB mk k && !ofB ms k)) (hbm:∀ k,1≤k→k≤3→ofB mm k=(ofB mk k && ofB ms k)) (hl:l.length≤100000) (hlf:l.filter (kindOk mk)=lf) (hn0:(ZO lf).length≤4096) (R:List Zg) (hR:(R = [] ∧ ∀ j w,¬ CwE (· ∈ lf) (fun e=>ofB ms e.kind) (!decide (ms=0)) j w)∨ZcQ (· ∈ lf) (fun e=>ofB ms e.kind) (!decide (ms=0)) R):FnP prog 76 [.sl Zp l,.int .i64 mask,.int .i64 must] (.tup [.sl Zp R,.int .i64 (if R = [] then 3 else 0)]):=by
 refine FnP.mk func76 rfl ntmps76 rfl fun B a w F V hfr G=>?_
 have hll:lf.length≤100000:=by rw [← hlf];exact Y5 (Yai _ _) hl
 have hn:=hn0
 have hkl:(Z6 lf).length≤100000:=Y5 Zl2 hll
 refine Ya (Zb G (qf (Zeu 101 .t one_int) r1 qz (qC (qI qZ))) V [7,6,4,2,0] [101,0] (fun _=>rfl) (fun _=>rfl) fun τ a w F G=>?_)
 try dsimp only [RS.sub,SF.sub,CF.sub,csub,Anc.sub,List.map,zCF,rInt,Zp,Zak] at G
 generalize τ 4=v4 at G
 refine Za (Ya (Zf G (qf (oL false 1 101 .is) r1 r1 (qf (o_and .t qi) r1 qz (qR rr (qf (o_and .t qi) r1 qz (qf (ZaZ 101 .is .t one_int kr kr) r2 r1 (qO rr qZ)))))) V [7,6,4,2,0] [101,0] rfl rfl fun a w F G=>?_))
 rw [hmk,hms] at G
 obtain ⟨F,G⟩:=G.giveRef 101 4 rfl rfl rfl
 obtain ⟨F,G⟩:=G.nM [7,6,4,2,0] [0]
 try dsimp only [Go.Gm.unCF] at G
 refine Za (Ya ?_)
 replace G:=G.fresh 102 rfl
 refine Zb G (qR rr (qf (Zav 102 (Zr0 l ow) func124 rfl kr (Args.one .t) pvOne1) r1 r1 (qf (ZaH (Args.one .t)) r1 qz (qf (Zqo 23 102 (fun v=>Ztv _ l ow (fun e=>!kindOk mk e) 125 f125 [.ref [.int .i64 mk]] func125 rfl kr (fun e=>Zp0 e mk)) func123 rfl kr (Zru.two .same (.of .t)) pvOne1) r2 r1 (qO rr qZ))))) V [7,6,4,2,0] [102,0] (fun _=>rfl) (fun _=>rfl) fun τ a w F G=>?_
 try dsimp only [RS.sub,SF.sub,CF.sub,csub,Anc.sub,List.map,rInt,Zp,Zak] at G
 generalize τ 25=v25 at G
 simp only [Bool.not_not] at G
 rw [hlf] at G
 refine Za (Ya ?_)
 obtain ⟨F,G⟩:=G.give 102 0 rfl rfl
 obtain ⟨F,G⟩:=G.nM [7,6,4,2,0] [0]
 refine Zb G (qR rr (qf (oP (Zt0 lf hll) func126 (Args.one .t)) r1 qz (qf (oH [.slice none 0 0,.slice none 0 0] 103) trivial qz (qf (oA 2 103 .same (.conv .t .agg)) r2 r1 qZ)))) V [8,7,6,4,2,0] [103,0] (fun _=>rfl) (fun _=>rfl) fun τ a w F G=>?_
 try dsimp only [RS.sub,SF.sub,CF.sub,csub,Anc.sub,List.map,Ze,xL,xM,Nat.reduceAdd,xD,xE,xT,xU,xC,xN,zCF,rInt,Zp,Zak] at G
 generalize τ 8=v8 at G
 refine Za (Ya (Zf G (qR rr (qe 2 103 r1 r1 (qf (oP (ZtO lf (ZO lf) (Z6 lf) hll hn0 ow ow (ZR _).1 (ZR _).1) func127 (Args.two .t (.pagg .t))) r2 qz (qR rr (qf (Zh .t rfl) r1 qz (qf (Zh .t rfl) r1 qz (qO rr (qO rr qZ)))))))) V [10,9,8,7,6,4,2] [103,0] rfl rfl fun a w F G=>?_))
 obtain ⟨q,hq0⟩:∃ q,q=ZT (ZO lf).length (lf.map (ZcL (ZO lf) (Z6 lf))):=⟨_,rfl⟩
 rw [← hq0] at G
 obtain ⟨E,hE0,hD0⟩:=Zoh hlf hll hn hkl
 rw [← hq0] at hD0
 have hoq:=hD0.ol
 have hD:ZbF q.1.length E q.1 q.2.1:=by rw [hoq];exact hD0
 have hEl:=hE0.1
 have hO:∀ l ∈ q.1,l.length≤1000000:=fun l hl=>(hD.on.r hEl l hl).1
 have hn:q.1.length≤4096:=by omega
 have hnil:=hE0.2.2.1 ms (!decide (ms=0))
 refine Za (Ya (Ya (rZ G (qR rr (qf (o_neq .t qi) r1 qz qZ)) V [35,10,9,8,7,6,4,2] [103,0] fun G=>?_)))
 refine Zc G rfl (fun hc0=>?_) (fun hc0=>?_)
 ·simp at hc0
 refine Ye (Za (Ya (rZ G (qC qZ) V [11,9,8,7,6,4,2] [103,0] fun G=>(Ya (Ya ?_)))))
 refine rZ G (qg 0 103 r1 r1 (qa 103 r1 r1 (qu underlying45 r1 (qJ qZ)))) V [40,39,11,9,8,7,6,4,2] [103,0] fun G=>Yg ?_
 refine Zl (σ:=(Nat)×(List Zw)) [2,4,6,7,8,9,39] [0,103] (fun s=>[(40,.pv (.int .i64 (s.1:Int))),(11,.pv (if s.2 = [] then PV.is (.slice none 0 0) else PV.sl Zak s.2))]) (fun s=>[]) (fun s=>s.1≤(ZO lf).length∧(ZdA (fun x=>x ∈ E∧ofB mk x.kind=true) (fun y:Zw=>ofB ms y.kind) ZmU (!decide (ms=0)) (s.1:Int) s.2∧s.2.length≤90001)) (fun s=>(ZO lf).length - s.1) ((0),([])) G ⟨rfl,rfl,rfl,rfl,rfl,rfl,rfl,rfl,rfl,tv⟩ ⟨rfl,rfl,tv⟩ ⟨Yv _,⟨ZdA.nil _ _ _ _ hnil,Yv _⟩⟩ ?_
 clear G;intro s a w F hC G
 obtain ⟨i,way⟩:=s
 try dsimp only at hC
 obtain ⟨F,G⟩:=G.nM [40,39,11,9,8,7,6,4,2] [103,0]
 try dsimp only at G
 obtain ⟨hi,hq⟩:=hC
 obtain ⟨hq,hwy⟩:=hq
 refine Ya (rZ G (qL r2) V [41,40,39,11,9,8,7,6,4,2] [103,0] fun G=>Ya ?_)
 refine Zc G rfl (fun hc1=>?_) (fun hc1=>?_)
 ·have hil:i<(ZO lf).length:=by simp at hc1;omega
  obtain ⟨D,D2,hDD,hDD2,hL,hlD,hlE,hb1,hb2_⟩:=Zos hD hbn hbm (i:=i) ow hn
  have hst:=Znf (need:=(!decide (ms=0))) (hD.outM mk) (hD.outP mk) hL hq (b:=(ZX (ZG (fun y:Zw=>ofB ms y.kind) D (ZaO q.1.length D2) (!decide (ms=0))) (Zaa q.1 mk (i:Int)))) rfl
  have hlv:∀ x ∈ Zaa q.1 mk (i:Int),-1≤(ZG (fun y:Zw=>ofB ms y.kind) D (ZaO q.1.length D2) (!decide (ms=0))) x∧(ZG (fun y:Zw=>ofB ms y.kind) D (ZaO q.1.length D2) (!decide (ms=0))) x≤90000:=fun x hx=>ZpX (by have h9:=(hD.outR mk _ x hx).1;rw [hlD,hlE];omega) hb1 hb2_
  have hsb:=Zi2 (f:=(ZG (fun y:Zw=>ofB ms y.kind) D (ZaO q.1.length D2) (!decide (ms=0)))) (l:=Zaa q.1 mk (i:Int)) (N:=90001) ow fun x hx=>(by have:=hlv x hx;omega)
  refine Ye (Za (Ya (Yg (Ya (rZ G (qR rr (qO rr qZ)) V [40,39,12,11,9,8,7,6,4,2] [103,0] fun G=>Ya ?_)))))
  refine Zb G (qR rr (qf (oR false 1 .t) r1 qz (qR rr (qR rr (qf (oP (ZvL E q.1 q.2.1 q.2.2 mk ms (i:Int) mn mm hmn hmm hne hD ow hn hEl (Yat _) ow D D2 hDD hDD2) func128 (Args.four .t .t .t .t)) r4 qz (qf (oH [.pointer none,.int .i64 0,.int .i64 0,.slice none 0 0,.slice none 0 0] 104) trivial qz (qf (oA 5 104 .same (.conv .t .agg)) r2 r1 qZ))))))) V [40,39,13,12,11,9,8,7,6,4,2] [104,103,0] (fun _=>rfl) (fun _=>rfl) fun τ a w F G=>?_
  try dsimp only [RS.sub,SF.sub,CF.sub,csub,Anc.sub,List.map,Ze,xL,xM,Nat.reduceAdd,xD,xE,xT,xU,xC,xN,zCF,ldSF,rInt,Zp,Zak] at G
  generalize τ 13=v13 at G
  refine Za (Ya (rZ G (qe 5 104 r1 r1 (qR rr (qR rr (qf (o_neq .t qi) r1 qz (qf (oP (ZtC q.1 q.2.1 q.2.2 mk ms D (ZaO q.1.length D2) (i:Int) (!decide (ms=0)) hO (fun u x hx=>by have h9:=(hD.outR mk u x hx).1;rw [hlD,hlE];omega) (fun u=>Y5 (hD.outL mk u) hEl) hlv) func129 (Args.three (.pagg .t) .t .t)) r3 qz (qO rr qZ)))))) V [40,39,14,13,12,11,9,8,7,6,4,2] [104,103,0] fun G=>Ya ?_))
  by_cases hfk:way = []
  ·rw [Yf hfk] at G
   refine Zf G (qR rr (qf (ZaU .t qi) r1 qz (qR rr (qm rfl rfl rfl rfl (qk rfl (fun h=>ZgX underlying161 (.w h)) r2 qz (qk rfl (fun h=>oM (.w h)) r2 qz (Zz.cons (ZaB.cond2 rfl rfl (fun h=>Za4 .t (by rfl))) r2 qz (Zz.cons (ZaB.cond2 rfl rfl (fun h=>Za4 .t (by rfl))) r2 qz (Zz.cons (ZaB.cond2 rfl rfl (fun h=>Zoi underlying161 (.w h))) r2 qz (Zz.cons (ZaB.cond2 rfl rfl (fun h=>Zay (.w h) (.w h))) r3 qz (qk rfl (fun h=>Zam (.w h) (.wc h)) r3 qz (qf (ZD .t .t) r2 qz qZ)))))))))))) V [64,40,39,14,13,12,11,9,8,7,6,4,2] [104,103,0] rfl rfl fun a w F G=>?_
   try dsimp only [rInt,Zp,Zak] at G
   refine Za (Zc G rfl (fun hc2=>?_) (fun hc2=>?_))
   ·have hyes:0<(ZX (ZG (fun y:Zw=>ofB ms y.kind) D (ZaO q.1.length D2) (!decide (ms=0))) (Zaa q.1 mk (i:Int)))∧(way = []∨(ZX (ZG (fun y:Zw=>ofB ms y.kind) D (ZaO q.1.length D2) (!decide (ms=0))) (Zaa q.1 mk (i:Int)))<way.length):=by have h9:=hc2;rw [Yx,Yq] at h9;exact ⟨h9.1,.inl hfk⟩
    obtain ⟨hW0,hwne,hb2,hwl2⟩:=hst.2 hyes
    have hkn:(ZX (ZG (fun y:Zw=>ofB ms y.kind) D (ZaO q.1.length D2) (!decide (ms=0))) (Zaa q.1 mk (i:Int)))=(((ZX (ZG (fun y:Zw=>ofB ms y.kind) D (ZaO q.1.length D2) (!decide (ms=0))) (Zaa q.1 mk (i:Int))).toNat:Nat):Int):=by omega
    have hwy2:(Zba (Zaa q.1 mk) (ZG (fun y:Zw=>ofB ms y.kind) D (ZaO q.1.length D2)) (fun y:Zw=>ofB ms y.kind) (i:Int) (ZX (ZG (fun y:Zw=>ofB ms y.kind) D (ZaO q.1.length D2) (!decide (ms=0))) (Zaa q.1 mk (i:Int))).toNat (i:Int) (!decide (ms=0))).length≤90001:=by omega
    refine Zf G (qe 5 104 r1 r1 (qR rr (qR rr (qR rr (qf (o_neq .t qi) r1 qz (qf (oP (Zsk E q.1 q.2.1 q.2.2 mk ms D (ZaO q.1.length D2) (i:Int) (ZX (ZG (fun y:Zw=>ofB ms y.kind) D (ZaO q.1.length D2) (!decide (ms=0))) (Zaa q.1 mk (i:Int))).toNat (!decide (ms=0)) ow hD hL hW0 hO (fun u x hx=>by have h9:=(hD.outR mk u x hx).1;rw [hlD,hlE];omega) (fun u=>Y5 (hD.outL mk u) hEl)) func130 (Args.four (.pagg .t) .t (.conv .t (Ent.int hkn)) .t)) r4 qz (qO rr qZ))))))) V [40,39,11,9,8,7,6,4,2] [104,103,0] rfl rfl fun a w F G=>Zj (Za ?_)
    refine rZ G (qp r1 (qR rr qZ)) V [40,39,11,9,8,7,6,4,2] [104,103,0] fun G=>?_
    replace G:=G.ent (i:=40) (s':=.pv (.int .i64 ((i+1:Nat):Int))) rfl (.int (Zd ow))
    replace G:=G.ent (i:=11) (s':=.pv (if (Zba (Zaa q.1 mk) (ZG (fun y:Zw=>ofB ms y.kind) D (ZaO q.1.length D2)) (fun y:Zw=>ofB ms y.kind) (i:Int) (ZX (ZG (fun y:Zw=>ofB ms y.kind) D (ZaO q.1.length D2) (!decide (ms=0))) (Zaa q.1 mk (i:Int))).toNat (i:Int) (!decide (ms=0))) = [] then PV.is (.slice none 0 0) else PV.sl Zak (Zba (Zaa q.1 mk) (ZG (fun y:Zw=>ofB ms y.kind) D (ZaO q.1.length D2)) (fun y:Zw=>ofB ms y.kind) (i:Int) (ZX (ZG (fun y:Zw=>ofB ms y.kind) D (ZaO q.1.length D2) (!decide (ms=0))) (Zaa q.1 mk (i:Int))).toNat (i:Int) (!decide (ms=0))))) rfl ((by rw [Yc hwne];exact Ent.refl))
    obtain ⟨F,G⟩:=G.nM [39,9,8,7,6,4,2,11,40] [103,0]
    exact ⟨((i+1),((Zba (Zaa q.1 mk) (ZG (fun y:Zw=>ofB ms y.kind) D (ZaO q.1.length D2)) (fun y:Zw=>ofB ms y.kind) (i:Int) (ZX (ZG (fun y:Zw=>ofB ms y.kind) D (ZaO q.1.length D2) (!decide (ms=0))) (Zaa q.1 mk (i:Int))).toNat (i:Int) (!decide (ms=0))))),F,⟨by omega,⟨by have h9:((i+1:Nat):Int)=(i:Int)+1:=ow;rw [h9];exact hb2,hwy2⟩⟩,G,by omega⟩
   have hno:¬ (0<(ZX (ZG (fun y:Zw=>ofB ms y.kind) D (ZaO q.1.length D2) (!decide (ms=0))) (Zaa q.1 mk (i:Int)))∧(way = []∨(ZX (ZG (fun y:Zw=>ofB ms y.kind) D (ZaO q.1.length D2) (!decide (ms=0))) (Zaa q.1 mk (i:Int)))<way.length)):=by have h9:=hc2;rintro ⟨h8,_⟩;rw [Yab h8] at h9;simp at h9
   have hb2:=hst.1 hno
   have hwy2:=hwy
   refine Ye (Zj (Za (rZ G (qp r1 (qR rr qZ)) V [40,39,11,9,8,7,6,4,2] [104,103,0] fun G=>?_)))
   replace G:=G.ent (i:=40) (s':=.pv (.int .i64 ((i+1:Nat):Int))) rfl (.int (Zd ow))
   replace G:=G.ent (i:=11) (s':=.pv (if way = [] then PV.is (.slice none 0 0) else PV.sl Zak way)) rfl ((by rw [Yf hfk];exact Ent.refl))
   obtain ⟨F,G⟩:=G.nM [39,9,8,7,6,4,2,11,40] [103,0]
   exact ⟨((i+1),(way)),F,⟨by omega,⟨by have h9:((i+1:Nat):Int)=(i:Int)+1:=ow;rw [h9];exact hb2,hwy2⟩⟩,G,by omega⟩
  rw [Yc hfk] at G
  refine Zf G (qR rr (qf (ZaU .t qi) r1 qz (qR rr (qm rfl rfl rfl rfl (qk rfl (fun h=>Zij underlying161 (.w h) hfk) r2 qz (qk rfl (fun h=>oM (.w h)) r2 qz (Zz.cons (ZaB.cond2 rfl rfl (fun h=>Za4 .t (by rfl))) r2 qz (Zz.cons (ZaB.cond2 rfl rfl (fun h=>Za4 .t (by rfl))) r2 qz (Zz.cons (ZaB.cond2 rfl rfl (fun h=>ZcB underlying161 (.w h))) r2 qz (Zz.cons (ZaB.cond2 rfl rfl (fun h=>Zay (.w h) (.w h))) r3 qz (qk rfl (fun h=>Zam (.w h) (.wc h)) r3 qz (qf (ZD .t .t) r2 qz qZ)))))))))))) V [64,40,39,14,13,12,11,9,8,7,6,4,2] [104,103,0] rfl rfl fun a w F G=>?_
  try dsimp only [rInt,Zp,Zak] at G
  refine Za (Zc G rfl (fun hc3=>?_) (fun hc3=>?_))
  ·have hyes:0<(ZX (ZG (fun y:Zw=>ofB ms y.kind) D (ZaO q.1.length D2) (!decide (ms=0))) (Zaa q.1 mk (i:Int)))∧(way = []∨(ZX (ZG (fun y:Zw=>ofB ms y.kind) D (ZaO q.1.length D2) (!decide (ms=0))) (Zaa q.1 mk (i:Int)))<way.length):=by have h9:=hc3;rw [YbO,Yx,Yq,Yq] at h9;exact ⟨h9.1,.inr h9.2⟩
   obtain ⟨hW0,hwne,hb2,hwl2⟩:=hst.2 hyes
   have hkn:(ZX (ZG (fun y:Zw=>ofB ms y.kind) D (ZaO q.1.length D2) (!decide (ms=0))) (Zaa q.1 mk (i:Int)))=(((ZX (ZG (fun y:Zw=>ofB ms y.kind) D (ZaO q.1.length D2) (!decide (ms=0))) (Zaa q.1 mk (i:Int))).toNat:Nat):Int):=by omega
   have hwy2:(Zba (Zaa q.1 mk) (ZG (fun y:Zw=>ofB ms y.kind) D (ZaO q.1.length D2)) (fun y:Zw=>ofB ms y.kind) (i:Int) (ZX (ZG (fun y:Zw=>ofB ms y.kind) D (ZaO q.1.length D2) (!decide (ms=0))) (Zaa q.1 mk (i:Int))).toNat (i:Int) (!decide (ms=0))).length≤90001:=by omega
   refine Zf G (qe 5 104 r1 r1 (qR rr (qR rr (qR rr (qf (o_neq .t qi) r1 qz (qf (oP (Zsk E q.1 q.2.1 q.2.2 mk ms D (ZaO q.1.length D2) (i:Int) (ZX (ZG (fun y:Zw=>ofB ms y.kind) D (ZaO q.1.length D2) (!decide (ms=0))) (Zaa q.1 mk (i:Int))).toNat (!decide (ms=0)) ow hD hL hW0 hO (fun u x hx=>by have h9:=(hD.outR mk u x hx).1;rw [hlD,hlE];omega) (fun u=>Y5 (hD.outL mk u) hEl)) func130 (Args.four (.pagg .t) .t (.conv .t (Ent.int hkn)) .t)) r4 qz (qO rr qZ))))))) V [40,39,11,9,8,7,6,4,2] [104,103,0] rfl rfl fun a w F G=>Zj (Za ?_)
   refine rZ G (qp r1 (qR rr qZ)) V [40,39,11,9,8,7,6,4,2] [104,103,0] fun G=>?_
   replace G:=G.ent (i:=40) (s':=.pv (.int .i64 ((i+1:Nat):Int))) rfl (.int (Zd ow))
   replace G:=G.ent (i:=11) (s':=.pv (if (Zba (Zaa q.1 mk) (ZG (fun y:Zw=>ofB ms y.kind) D (ZaO q.1.length D2)) (fun y:Zw=>ofB ms y.kind) (i:Int) (ZX (ZG (fun y:Zw=>ofB ms y.kind) D (ZaO q.1.length D2) (!decide (ms=0))) (Zaa q.1 mk (i:Int))).toNat (i:Int) (!decide (ms=0))) = [] then PV.is (.slice none 0 0) else PV.sl Zak (Zba (Zaa q.1 mk) (ZG (fun y:Zw=>ofB ms y.kind) D (ZaO q.1.length D2)) (fun y:Zw=>ofB ms y.kind) (i:Int) (ZX (ZG (fun y:Zw=>ofB ms y.kind) D (ZaO q.1.length D2) (!decide (ms=0))) (Zaa q.1 mk (i:Int))).toNat (i:Int) (!decide (ms=0))))) rfl ((by rw [Yc hwne];exact Ent.refl))
   obtain ⟨F,G⟩:=G.nM [39,9,8,7,6,4,2,11,40] [103,0]
   exact ⟨((i+1),((Zba (Zaa q.1 mk) (ZG (fun y:Zw=>ofB ms y.kind) D (ZaO q.1.length D2)) (fun y:Zw=>ofB ms y.kind) (i:Int) (ZX (ZG (fun y:Zw=>ofB ms y.kind) D (ZaO q.1.length D2) (!decide (ms=0))) (Zaa q.1 mk (i:Int))).toNat (i:Int) (!decide (ms=0))))),F,⟨by omega,⟨by have h9:((i+1:Nat):Int)=(i:Int)+1:=ow;rw [h9];exact hb2,hwy2⟩⟩,G,by omega⟩
  have hno:¬ (0<(ZX (ZG (fun y:Zw=>ofB ms y.kind) D (ZaO q.1.length D2) (!decide (ms=0))) (Zaa q.1 mk (i:Int)))∧(way = []∨(ZX (ZG (fun y:Zw=>ofB ms y.kind) D (ZaO q.1.length D2) (!decide (ms=0))) (Zaa q.1 mk (i:Int)))<way.length)):=by have h9:=hc3;rintro ⟨h8,h7⟩;rw [Yab h8,Ybp,YbO,Yz] at h9;exact h7.elim hfk h9
  have hb2:=hst.1 hno
  have hwy2:=hwy
  refine Ye (Zj (Za (rZ G (qp r1 (qR rr qZ)) V [40,39,11,9,8,7,6,4,2] [104,103,0] fun G=>?_)))
  replace G:=G.ent (i:=40) (s':=.pv (.int .i64 ((i+1:Nat):Int))) rfl (.int (Zd ow))
  replace G:=G.ent (i:=11) (s':=.pv (if way = [] then PV.is (.slice none 0 0) else PV.sl Zak way)) rfl ((by rw [Yc hfk];exact Ent.refl))
  obtain ⟨F,G⟩:=G.nM [39,9,8,7,6,4,2,11,40] [103,0]
  exact ⟨((i+1),(way)),F,⟨by omega,⟨by have h9:((i+1:Nat):Int)=(i:Int)+1:=ow;rw [h9];exact hb2,hwy2⟩⟩,G,by omega⟩
 have hil:i=(ZO lf).length:=by simp at hc1;omega
 refine Yw (Zi (Zi (Zn (Za (Ya (Ya ?_))))))
 by_cases hfk:way = []
 ·rw [Yf hfk] at G
  refine rZ G (qR rr (qf (ZgX underlying161 .t) r1 qz qZ)) V [73,11,8,7,6] [103,0] fun G=>?_
  refine Zc G rfl (fun hc4=>?_) (fun hc4=>?_)
  ·have hgR:[] = R:=(Zip hE0 hq hil hR).1 hfk
   have hgE:(3:Int)=if R = [] then 3 else 0:=by rw [← hgR,Yf rfl]
   refine Ya (rZ G (qC (qI qZ)) V [11,8,7,6] [103,0] fun G=>(Yh (Zk ?_)))
   refine Z2 hfr G rfl (.tmp rfl (.tmp rfl .nil)) (.two (.trans .nilSl (.sl hgR)) (.int hgE))
  simp at hc4
 rw [Yc hfk] at G
 refine rZ G (qR rr (qf (Zij underlying161 .t hfk) r1 qz qZ)) V [73,11,8,7,6] [103,0] fun G=>?_
 refine Zc G rfl (fun hc5=>?_) (fun hc5=>?_)
 ·simp at hc5
 obtain ⟨hwr,hres⟩:=(Zip hE0 hq hil hR).2 hfk
 refine Ye (Za (Ya (rZ G (qC qZ) V [15,11,8,7,6] [103,0] fun G=>(Ya (Ya ?_)))))
 refine rZ G (qR rr (qu underlying161 r1 (qJ qZ))) V [76,75,74,15,8,7,6] [103,0] fun G=>Yg ?_
 replace G:=G.fresh 51 rfl
 replace G:=G.turn 51 rfl (ZaA (T:=42) (sz:=4) (R:=Zp))
 refine Zl (σ:=(Nat)×(Value)×(List Zg)) [6,7,8,74,75] [0,103] (fun s=>[(76,.pv (.int .i64 (s.1:Int))),(15,.pv (.is s.2.1))]) (fun s=>[(51,.ob (.val s.2.1) (ZA 42 4 Zp s.2.2))]) (fun s=>s.1≤way.length∧(s.2.2=(way.take s.1).map (Zib (ZO lf) (Z6 lf)))) (fun s=>way.length - s.1) ((0),(.slice none 0 0),([])) G ⟨rfl,rfl,rfl,rfl,rfl,rfl,rfl,tv⟩ ⟨rfl,rfl,rfl,tv⟩ ⟨Yv _,rfl⟩ ?_
 clear G;intro s a w F hC G
 obtain ⟨i,v,out⟩:=s
 try dsimp only at hC
 obtain ⟨F,G⟩:=G.nM [76,75,74,15,8,7,6] [103,51,0]
 try dsimp only at G
 obtain ⟨hi,hq⟩:=hC
 have hol:out.length=i:=by rw [hq,YM,Yj];omega
 refine Ya (rZ G (qL r2) V [77,76,75,74,15,8,7,6] [103,51,0] fun G=>Ya ?_)
 refine Zc G rfl (fun hc6=>?_) (fun hc6=>?_)
 ·have hil:i<way.length:=by simp at hc6;omega
  refine Ye (Za (Ya (Yg (Ya (Zb G (qy 4 underlying161 r2 (qf (oR true 4 .t) r1 qz (qf (oH [.int .i64 0,.int .i64 0,.int .i64 0,.int .i64 0] 105) trivial qz (qS 4 105 r2 r1 qZ)))) V [76,75,74,17,15,8,7,6] [105,103,51,0] (fun _=>rfl) (fun _=>rfl) fun τ a w F G=>?_)))))
  try dsimp only [RS.sub,SF.sub,CF.sub,csub,Anc.sub,List.map,Ze,xL,xM,Nat.reduceAdd,xD,xE,xT,xU,xC,xN,zCF,ldSF,rInt,Zp,Zak] at G
  generalize τ 17=v17 at G
  try simp only [Yb] at G
  refine Za (Zb G (qR rr (qe 2 103 r1 r1 (qe 4 105 r1 r1 (qf (oP (ZsZ (ZO lf) (Z6 lf) (Nn way i) (hwr _ (nth_mem hil)).1 (hwr _ (nth_mem hil)).2.1 (hwr _ (nth_mem hil)).2.2) func131 (Args.two (.pagg .t) (.pagg .t))) r2 qz (qf (o_buildSliceE (sz:=4) (zs:=[.int .i64 0,.int .i64 0,.int .i64 0,.int .i64 0]) (r:=[(0,.tmp 83)]) (l:=[_,_,_,_]) underlying31 kr kr kr kr rfl rfl (.agg rfl (.conv .t .agg) kr kr .nil) rfl) r1 qz (qf (ZW (sz:=4) (bs:=32) 51 (.mk' underlying31 kr kr) (by intro x;rfl) .is (.arr (l':=[Zib (ZO lf) (Z6 lf) (Nn way i)]) .t) (by simp only [Yd,Yl,Yy,Yj,YH];omega) (by decide)) ⟨rfl,rfl,tv⟩ ⟨rfl,tv⟩ (qO rr qZ))))))) V [76,75,74,15,8,7,6] [105,103,51,0] (fun _=>rfl) (fun _=>rfl) fun τ a w F G=>?_)
  try dsimp only [RS.sub,SF.sub,CF.sub,csub,Anc.sub,List.map,Ze,xL,xM,Nat.reduceAdd,xD,xE,xT,xU,xC,xN,zCF,ldSF,rInt,Zp,Zak] at G
  generalize τ 85=v85 at G
  refine Zj (Za (rZ G (qp r1 (qR rr qZ)) V [76,75,74,15,8,7,6] [105,103,51,0] fun G=>?_))
  replace G:=G.ent (i:=76) (s':=.pv (.int .i64 ((i+1:Nat):Int))) rfl (.int (Zd ow))
  obtain ⟨F,G⟩:=G.nM [75,74,8,7,6,15,76] [103,0,51]
  exact ⟨((i+1),_,_),F,⟨by omega,(by rw [Zr hil,YQ,← hq];rfl)⟩,G,by omega⟩
 have hil:i=way.length:=by simp at hc6;omega
 have hgR:out=R:=by rw [hq,hil,YD];exact hres.1
 have hgE:(0:Int)=if R = [] then 3 else 0:=by rw [Yc hres.2]
 refine Yw (Zi (Zi (Zn (Za (Ya (rZ G (qR rr (qO rr (qI qZ))) V [7,6] [103,51,0] fun G=>Yh ?_))))))
 obtain ⟨F,G⟩:=G.give 51 6 rfl rfl
 refine Z2 hfr G rfl (.tmp rfl (.tmp rfl .nil)) (.two (.sl hgR) (.int hgE))
structure Zp4 where
 phen:Int
 walk:List Zg
 read:Zo3
 deriving DecidableEq,Inhabited
def Zka (w:Zp4):List PV:=[.int .i64 w.phen,.sl Zp w.walk,.int .i64 w.read.tx,.int .i64 w.read.place,.int .i64 w.read.vof.tx,.int .i64 w.read.vof.key,.int .i64 w.read.vof.nth]
def ZrJ:Zo3:=⟨0,0,⟨0,0,0⟩⟩
def ZfD:Zp4:=⟨0,[],ZrJ⟩
def Zus (p:Int) (R:List Zg):Zp4:=if R = [] then ZfD else ⟨p,R,ZrJ⟩
def Ztr (p:Int) (l:List Zo3):Zp4:=if l = [] then ZfD else ⟨p,[],Nn l 0⟩
def ZdY (l:List Zg) (p:Int) (R:List Zg):Prop:=if (ZU p).1=0 then R = [] else
 (R = [] ∧ ∀ j w,¬ CwE (· ∈ l.filter (kindOk (ZU p).1)) (fun e=>ofB (ZU p).2 e.kind) (!decide ((ZU p).2=0)) j w)∨ZcQ (· ∈ l.filter (kindOk (ZU p).1)) (fun e=>ofB (ZU p).2 e.kind) (!decide ((ZU p).2=0)) R
theorem Zon {p:Int} (h:(ZU p).1≠0):bits .and .i64 (ZU p).1 14=(ZU p).1∧bits .and .i64 (ZU p).2 14=(ZU p).2∧bits .andNot .i64 (ZU p).1 (ZU p).2≠bits .and .i64 (ZU p).1 (ZU p).2 ∧
  (∀ k,1≤k→k≤3→ofB (bits .andNot .i64 (ZU p).1 (ZU p).2) k=(ofB (ZU p).1 k && !ofB (ZU p).2 k)) ∧ ∀ k,1≤k→k≤3→ofB (bits .and .i64 (ZU p).1 (ZU p).2) k=(ofB (ZU p).1 k && ofB (ZU p).2 k):=by
 have key:∀ a b:Int,(a=2∧b=0)∨(a=6∧b=0)∨(a=14∧b=8)→bits .and .i64 a 14=a∧bits .and .i64 b 14=b∧bits .andNot .i64 a b≠bits .and .i64 a b∧(∀ k,1≤k→k≤3→ofB (bits .andNot .i64 a b) k=(ofB a k && !ofB b k)) ∧ ∀ k,1≤k→k≤3→ofB (bits .and .i64 a b) k=(ofB a k && ofB b k):=by
  rintro a b (⟨rfl,rfl⟩ | ⟨rfl,rfl⟩ | ⟨rfl,rfl⟩) <;> refine ⟨by decide +kernel,by decide +kernel,by decide +kernel,fun k h1 h2=>?_,fun k h1 h2=>?_⟩ <;> (rcases (show k=1∨k=2∨k=3 by omega) with rfl | rfl | rfl <;> decide +kernel)
 refine key _ _ ?_
 unfold ZU at h ⊢
 by_cases h1:p=1
 ·subst h1;exact .inl ⟨rfl,rfl⟩
 ·by_cases h4:p=4
  ·subst h4;exact .inr (.inl ⟨rfl,rfl⟩)
  ·by_cases h5:p=5
   ·subst h5;exact .inr (.inr ⟨rfl,rfl⟩)
   ·rw [Yc h1,Yc h4,Yc h5] at h;exact absurd rfl h
theorem Zta (l:List Zg) (p:Int) (hl:l.length≤100000) (hN:(ZU p).1≠0→(ZO (l.filter (kindOk (ZU p).1))).length≤4096) (R:List Zg) (hR:ZdY l p R):FnP prog 36 [.sl Zp l,.int .i64 p] (.tup [.agg (Zka (Zus p R)),.bool (decide (R≠[]))]):=by
 refine FnP.mk func36 rfl ntmps36 rfl fun B a w F V hfr G=>Ya ?_
 refine Zb G (qf (oH [.int .i64 0,.slice none 0 0,.int .i64 0,.int .i64 0,.int .i64 0,.int .i64 0,.int .i64 0] 101) trivial qz qB) V [5,4,1,0] [101,0] (fun _=>rfl) (fun _=>rfl) fun τ a w F G=>?_
 try dsimp only [RS.sub,SF.sub,CF.sub,csub,Anc.sub,List.map,zCF,Zp] at G
 generalize τ 4=v4 at G
 refine Za (Ya (rZ G (qR rr (qf (oP (Zkd p) func68 (Args.one .t)) r1 qz (qR rr (qf (Zh .t rfl) r1 qz (qf (Zh .t rfl) r1 qz (qO rr (qO rr qZ))))))) V [7,6,5,4,1,0] [101,0] fun G=>(Ya (Ya ?_))))
 refine rZ G (qR rr (qf (o_eql .t qi) r1 qz qZ)) V [16,7,6,5,4,1,0] [101,0] fun G=>?_
 refine Zc G rfl (fun hc0=>?_) (fun hc0=>?_)
 ·have hm0:(ZU p).1=0:=Yt hc0
  have hR2:R = []:=by unfold ZdY at hR;rw [Yf hm0] at hR;exact hR
  have hw:Zus p R=ZfD:=Yf hR2
  have hok:false=decide (R≠[]):=by rw [hR2];rfl
  refine Ya (rZ G (qf (oB [] [.int .i64 0,.slice none 0 0,.int .i64 0,.int .i64 0,.int .i64 0,.int .i64 0,.int .i64 0] [(0,1),(1,1),(2,5)] .nil) trivial qz (qs 7 101 r2 r1 qB)) V [7,6,5,4,1,0] [101,0] fun G=>(Yh (Zk ?_)))
  refine Z2 hfr G rfl (.cl 101 true 7 rfl rfl (.tmp rfl .nil)) (.two (.aggLe rfl (by rw [hw];exact ⟨.refl,.nilSl,.refl,.refl,.refl,.refl,.refl,tv⟩)) (.bool hok))
 have hm0:(ZU p).1≠0:=YG hc0
 obtain ⟨hk1,hk2,hk3,hk4,hk5⟩:=Zon hm0
 have hn0:=hN hm0
 have hR2:=hR
 unfold ZdY at hR2
 rw [Yc hm0] at hR2
 refine Ye (Za (Ya (rZ G (qR rr (qR rr (qR rr (qf (oP (ZlK l _ (ZU p).1 (ZU p).2 (ZU p).1 (ZU p).2 _ _ hk1 hk2 rfl rfl hk3 hk4 hk5 hl rfl hn0 R hR2) func76 (Args.three .t .t .t)) r3 qz (qR rr (qf (Zh .t rfl) r1 qz (qf (Zh .t rfl) r1 qz (qO rr (qO rr qZ))))))))) V [9,8,5,4,1] [101,0] fun G=>(Ya (Ya ?_)))))
 refine rZ G (qR rr (qf (o_neq .t qi) r1 qz qZ)) V [26,8,5,4,1] [101,0] fun G=>?_
 refine Zc G rfl (fun hc1=>?_) (fun hc1=>?_)
 ·have hr0:R = []:=Ybt fun k=>(by have h9:=hc1;rw [Yc k] at h9;simp at h9)
  have hw:Zus p R=ZfD:=Yf hr0
  have hok:false=decide (R≠[]):=by rw [hr0];rfl
  refine Ya (rZ G (qf (oB [] [.int .i64 0,.slice none 0 0,.int .i64 0,.int .i64 0,.int .i64 0,.int .i64 0,.int .i64 0] [(0,1),(1,1),(2,5)] .nil) trivial qz (qs 7 101 r2 r1 qB)) V [8,5,4,1] [101,0] fun G=>(Yh (Zk ?_)))
  refine Z2 hfr G rfl (.cl 101 true 7 rfl rfl (.tmp rfl .nil)) (.two (.aggLe rfl (by rw [hw];exact ⟨.refl,.nilSl,.refl,.refl,.refl,.refl,.refl,tv⟩)) (.bool hok))
 have hr0:R≠[]:=fun k=>(by have h9:=hc1;rw [Yf k] at h9;simp at h9)
 have hw:Zus p R = ⟨p,R,ZrJ⟩:=Yc hr0
 have hok:true=decide (R≠[]):=(Yab hr0).symm
 refine Ye (Za (Ya (rZ G (qR rr (qR rr (qf (oB [(0,.tmp 28),(1,.tmp 29)] [.int .i64 0,.slice none 0 0,.int .i64 0,.int .i64 0,.int .i64 0,.int .i64 0,.int .i64 0] [(0,1),(1,1),(2,5)] (.one rfl .t one_int kr (.one rfl .t one_sl kr .nil))) r2 qz (qs 7 101 r2 r1 qB)))) V [5,4] [101,0] fun G=>Yh ?_)))
 refine Z2 hfr G rfl (.cl 101 true 7 rfl rfl (.tmp rfl .nil)) (.two (.aggU rfl (by rw [hw] <;> rfl)) (.bool hok))
theorem Zm4 (g:Zt) (p:Int) (hsm:Zbc g):FnP prog 35 [.agg (Zs g),.int .i64 p] (.tup [.agg (Zka (Ztr p (ZaQ g p fun _=>true))),.bool (decide ((ZaQ g p fun _=>true)≠[]))]):=by
 refine FnP.mk func35 rfl ntmps35 rfl fun B a w F V hfr G=>Ya ?_
 refine Zb G (qx 101 r1 (qf (oH [.int .i64 0,.slice none 0 0,.int .i64 0,.int .i64 0,.int .i64 0,.int .i64 0,.int .i64 0] 102) trivial qz qB)) V [5,4,2,1] [102,101,0] (fun _=>rfl) (fun _=>rfl) fun τ a w F G=>?_
 try dsimp only [RS.sub,SF.sub,CF.sub,csub,Anc.sub,List.map,zCF,Zs,rTx,ZP,ZS,rInt,rOp,Zh0] at G
 generalize τ 2=v2 at G
 generalize τ 4=v4 at G
 refine Za (Ya (rZ G (qe 2 101 r1 r1 (qR rr (qf (oP (Zvt g p hsm) func67 (Args.two (.pagg .t) .t)) r2 qz (qO rr qZ)))) V [6,5,4,1] [102,101,0] fun G=>(Ya (Ya ?_))))
 refine rZ G (qR rr (qu underlying105 r1 (qf (o_eql .t qi) r1 qz qZ))) V [12,6,5,4,1] [102,101,0] fun G=>?_
 refine Zc G rfl (fun hc0=>?_) (fun hc0=>?_)
 ·have hr0:(ZaQ g p fun _=>true) = []:=YN (by have h9:=Yt hc0;omega)
  have hw:Ztr p (ZaQ g p fun _=>true)=ZfD:=Yf hr0
  have hok:false=decide ((ZaQ g p fun _=>true)≠[]):=by rw [hr0];rfl
  refine Ya (rZ G (qf (oB [] [.int .i64 0,.slice none 0 0,.int .i64 0,.int .i64 0,.int .i64 0,.int .i64 0,.int .i64 0] [(0,1),(1,1),(2,5)] .nil) trivial qz (qs 7 102 r2 r1 qB)) V [6,5,4,1] [102,101,0] fun G=>(Yh (Zk ?_)))
  refine Z2 hfr G rfl (.cl 102 true 7 rfl rfl (.tmp rfl .nil)) (.two (.aggLe rfl (by rw [hw];exact ⟨.refl,.nilSl,.refl,.refl,.refl,.refl,.refl,tv⟩)) (.bool hok))
 have hne:(ZaQ g p fun _=>true)≠[]:=fun k=>(by have h9:=YG hc0;rw [k] at h9;simp at h9)
 have hw:Ztr p (ZaQ g p fun _=>true) = ⟨p,[],Nn (ZaQ g p fun _=>true) 0⟩:=Yc hne
 have hok:true=decide ((ZaQ g p fun _=>true)≠[]):=(Yab hne).symm
 refine Ye (Za (Ya (Zf G (qR rr (qR rr (qf (o_indexAddr_sl (sz:=5) (.mk underlying105 kr) (by intro x;rfl) .t qi (by decide) (by have:=Yax.2 hne;omega)) r1 qz (qf (oR true 5 .t) r1 qz (qf (oB [(0,.tmp 14),(2,.tmp 17)] [.int .i64 0,.slice none 0 0,.int .i64 0,.int .i64 0,.int .i64 0,.int .i64 0,.int .i64 0] [(0,1),(1,1),(2,5)] (.one rfl .t one_int kr (.agg rfl .t kr kr .nil))) r2 qz (qs 7 102 r2 r1 qB)))))) V [5,4] [102,101,0] rfl rfl fun a w F G=>?_)))
 try simp only [Yb] at G
 refine Za (Yh (Z2 hfr G rfl (.cl 102 true 7 rfl rfl (.tmp rfl .nil)) (.two (.aggLe rfl (by rw [hw];exact ⟨.refl,.nilSl,.refl,.refl,.refl,.refl,.refl,tv⟩)) (.bool hok))))
end Go.Proofs.YtlkpllemoepamaaGreat
