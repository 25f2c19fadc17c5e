/- Laws and walks. No condition beyond what each says. -/
import Derived.Test.YtlkpllemoepamaaGreatJ5
import Derived.Test.YtlkpllemoepamaaGreatLibI
namespace Go.Proofs.YtlkpllemoepamaaGreat
open Go Go.Gm Tryz
set_option linter.unusedVariables false
set_option linter.unusedSimpArgs false
set_option maxHeartbeats 4000000
set_option maxRecDepth 8000
def ZV (g:Zo):List Zf:=(ZgF (wwC PT1 g) (rdC PT1 g)).map HvD.edge
def maskP (p:Int):Int×Int:=if p=1 then (2,0) else if p=4 then (6,0) else if p=5 then (14,8) else (0,0)
theorem ZbV {g:Zo} (hg:ZO g) {e:Zf} : e ∈ ZV g ↔ EdS g e:=by
 rw [← Zte hg]
 unfold ZV ZgF
 rw [Ya6]
 rw [show (HvD.edge ∘ fun e=>(⟨e,cntA (wwC PT1 g) (rdC PT1 g) e⟩:HvD))=id from rfl,List.map_id]
 exact (ZbB ZbT _).2 _
theorem Zp8 {g:Zo} (hg:¬ ZO g):ZV g = []:=by
 unfold ZV ZgF Zg4 wwC rdC
 rw [Yb hg,Yb hg];rfl
theorem Zhj {g:Zo} (hg:ZO g) {e:Zf} (he:EdS g e):(∃ t ∈ g.txs,t.id=e.src∧t.done=true) ∧ ∃ t ∈ g.txs,t.id=e.dst∧t.done=true:=by
 obtain ⟨_,h2,h3,_,_,h6⟩:=Zbf.1 hg
 have ord:∀ {k z:Int},z ∈ getO g.orders k → ∃ t ∈ g.txs,t.id=z∧t.done=true:=fun {k z} hz=>by
  obtain ⟨t,h4,h5,h7,_⟩:=Zce.1 ((h6 k).mem_iff.1 hz)
  exact ⟨t,h4,h5,h7⟩
 rcases he with ⟨_,h⟩ | ⟨t,ht,hd,o,_,_,h1,h7,h8⟩
 ·exact ⟨ord h.mem.1,ord h.mem.2⟩
 ·rcases h8 with ⟨h9,rfl⟩ | ⟨y,h9,_,rfl⟩
  ·refine ⟨?_,t,ht,rfl,hd⟩
   rcases h7 with h7 | ⟨u,u1,u2,_⟩
   ·exact absurd h7 h9
   ·exact ⟨u,(findT_mem u1).1,(findT_mem u1).2,u2⟩
  ·exact ⟨⟨t,ht,rfl,hd⟩,ord h9.mem⟩
theorem Zsr (l:List HvD) (hl:l.length≤1000000):FnP prog 37 [.sl rHv l] (.sl Zp (l.map HvD.edge)):=by
 refine FnP.mk func37 rfl ntmps37 rfl fun B a w F Z hfr G=>Ya ?_
 refine rZ G (qC qZ) Z [2,0] [0] fun G=>Ya ?_
 refine rZ G (qC qZ) Z [3,2,0] [0] fun G=>(Ya (Ya ?_))
 refine rZ G (qR rr (qu underlying73 r1 (qJ qZ))) Z [8,7,6,3,2] [0] fun G=>Yg ?_
 replace G:=G.fresh 50 rfl
 replace G:=G.turn 50 rfl (Zas (T:=42) (sz:=4) (R:=Zp))
 refine Zm (σ:=(Nat)×(Value)×(List Zf)) [2,6,7] [0] (fun s=>[(8,.pv (.int .i64 (s.1:Int))),(3,.pv (.is s.2.1))]) (fun s=>[(50,.ob (.val s.2.1) (ZC 42 4 Zp s.2.2))]) (fun s=>s.1≤l.length∧(s.2.2=(l.take s.1).map HvD.edge)) (fun s=>l.length - s.1) ((0),(.slice none 0 0),([])) G ⟨rfl,rfl,rfl,rfl,rfl,tv⟩ ⟨rfl,rfl,tv⟩ ⟨Yx _,rfl⟩ ?_
 clear G;intro s a w F hC G
 obtain ⟨i,v,out⟩:=s
 try dsimp only at hC
 obtain ⟨F,G⟩:=G.nM [8,7,6,3,2] [50,0]
 try dsimp only at G
 obtain ⟨hi,hq⟩:=hC
 have hol:out.length≤i:=by rw [hq,YC,Yj];omega
 refine Ya (rZ G (qL r2) Z [9,8,7,6,3,2] [50,0] fun G=>Ya ?_)
 refine Zc G rfl (fun hc0=>?_) (fun hc0=>?_)
 ·have hil:i<l.length:=by simp at hc0;omega
  refine Yf (Za (Ya (Yg (Ya (Zb G (qy 5 underlying73 r2 (qf (oR true 5 .t) r1 qz (qf (oH [.int .i64 0,.int .i64 0,.int .i64 0,.int .i64 0,.int .i64 0] 101) trivial qz (qS 5 101 r2 r1 qZ)))) Z [8,7,6,5,3,2] [101,50,0] (fun _=>rfl) (fun _=>rfl) fun τ a w F G=>?_)))))
  try dsimp only [RS.sub,SF.sub,CF.sub,csub,Anc.sub,List.map,Ze,xL,xM,Nat.reduceAdd,xD,xE,xT,xU,xC,xN,zCF,ldSF,Zp,rHv] at G
  generalize τ 5=v5 at G
  try simp only [Yd] at G
  refine Za (Zb G (qR rr (qg 0 101 r1 r1 (qf (oL true 4 101 .adr) r1 r1 (qf (o_buildSliceE (sz:=4) (zs:=[.int .i64 0,.int .i64 0,.int .i64 0,.int .i64 0]) (r:=[(0,.tmp 14)]) (l:=[_,_,_,_]) Yb1 kr kr kr kr rfl rfl (.agg rfl .t kr kr .nil) rfl) r1 qz (qf (o_append (sz:=4) (bs:=32) 50 (.mk' Yb1 kr kr) (by intro x;rfl) .is (.arr (l':=[(Nn l i).edge]) .t) (by simp only [Yc,Yk,Yv];omega) (by decide)) ⟨rfl,rfl,tv⟩ ⟨rfl,tv⟩ (qO rr qZ)))))) Z [8,7,6,3,2] [50,0] (fun _=>rfl) (fun _=>rfl) fun τ a w F G=>?_)
  try dsimp only [RS.sub,SF.sub,CF.sub,csub,Anc.sub,List.map,Ze,xL,xM,Nat.reduceAdd,xD,xE,xT,xU,xC,xN,zCF,ldSF,Zp,rHv] at G
  generalize τ 16=v16 at G
  refine Zj (Za (rZ G (qp r1 (qR rr qZ)) Z [8,7,6,3,2] [50,0] fun G=>?_))
  replace G:=G.ent (i:=8) (s':=.pv (.int .i64 ((i+1:Nat):Int))) rfl (.int (Zd ow))
  obtain ⟨F,G⟩:=G.nM [7,6,2,3,8] [0,50]
  exact ⟨((i+1),_,_),F,⟨by omega,(by rw [Zs hil,YJ,← hq];rfl)⟩,G,by omega⟩
 have hil:i=l.length:=by simp at hc0;omega
 refine Yz (Zh (Zh (Zr (Za (Ya (rZ G (qR rr (qO rr qZ)) Z [2] [50,0] fun G=>Yh ?_))))))
 obtain ⟨F,G⟩:=G.give 50 2 rfl rfl
 refine Zv hfr G rfl rfl rfl (.sl (by rw [hq,hil,YD]))
theorem Zoy (p:Int):FnP prog 68 [.int .i64 p] (.tup [.int .i64 (maskP p).1,.int .i64 (maskP p).2]):=by
 refine FnP.mk func68 rfl ntmps68 rfl fun B a w F Z hfr G=>Ya ?_
 refine rZ G (qI (qI qZ)) Z [3,2,0] [0] fun G=>(Ya (Ya ?_))
 refine rZ G (qR rr qZ) Z [4,3,2] [0] fun G=>(Yg (Ya ?_))
 refine rZ G (qf (o_eql .t qi) r1 qz (qO rr qZ)) Z [5,4,3,2] [0] fun G=>?_
 refine Zc G rfl (fun hc0=>?_) (fun hc0=>?_)
 ·have hp:p=1:=by simpa using hc0
  subst hp
  have hg1:(2:Int)=(maskP 1).1:=rfl
  have hg2:(0:Int)=(maskP 1).2:=rfl
  refine Ya (rZ G (qI (qI qZ)) Z [3,2] [0] fun G=>(Yh (Zx (Zl ?_))))
  refine Zae hfr G rfl (.tmp rfl (.tmp rfl .nil)) (.two (.int hg1) (.int hg2))
 have hp1:¬ p=1:=by simpa using hc0
 refine Ya (rZ G (qf (o_eql .t qi) r1 qz (qO rr qZ)) Z [7,4,3,2] [0] fun G=>?_)
 refine Zc G rfl (fun hc1=>?_) (fun hc1=>?_)
 ·have hp:p=4:=by simpa using hc1
  subst hp
  have hg1:(6:Int)=(maskP 4).1:=rfl
  have hg2:(0:Int)=(maskP 4).2:=rfl
  refine Ya (rZ G (qI (qI qZ)) Z [3,2] [0] fun G=>(Yh (Zx (Zl ?_))))
  refine Zae hfr G rfl (.tmp rfl (.tmp rfl .nil)) (.two (.int hg1) (.int hg2))
 have hp2:¬ p=4:=by simpa using hc1
 refine Ya (rZ G (qf (o_eql .t qi) r1 qz (qO rr qZ)) Z [9,3,2] [0] fun G=>?_)
 refine Zc G rfl (fun hc2=>?_) (fun hc2=>?_)
 ·have hp:p=5:=by simpa using hc2
  subst hp
  have hg1:(14:Int)=(maskP 5).1:=rfl
  have hg2:(8:Int)=(maskP 5).2:=rfl
  refine Ya (rZ G (qI (qI qZ)) Z [3,2] [0] fun G=>(Yh (Zx (Zl ?_))))
  refine Zae hfr G rfl (.tmp rfl (.tmp rfl .nil)) (.two (.int hg1) (.int hg2))
 have hp3:¬ p=5:=by simpa using hc2
 have hg1:(0:Int)=(maskP p).1:=by unfold maskP;rw [Yb hp1,Yb hp2,Yb hp3]
 have hg2:(0:Int)=(maskP p).2:=by unfold maskP;rw [Yb hp1,Yb hp2,Yb hp3]
 refine Yf (Zj (Za (Ya (rZ G (qI (qI qZ)) Z [3,2] [0] fun G=>Yh ?_))))
 refine Zae hfr G rfl (.tmp rfl (.tmp rfl .nil)) (.two (.int hg1) (.int hg2))
theorem Zkj {t:TxD} {o:OpD} (ho:o ∈ t.ops) (hd:ZaY t.id o=true):ofO o ∈ Zek t:=by
 have key:∀ (l:List OpD) (out:List Zbh),(ofO o ∈ out∨o ∈ l)→ofO o ∈ l.foldl (ZY t.id) out:=by
  intro l
  induction l with
  | nil=>intro out h;rcases h with h | h;exact h;cases h
  | cons x l ih=>
   intro out h
   rw [Yal]
   refine ih _ ?_
   rcases h with h | h
   ·left
    unfold ZY
    split
    ·exact Yac _ h
    ·exact h
   ·rcases Yl.1 h with rfl | h
    ·left
     unfold ZY
     by_cases hin:ofO o ∈ out
     ·rw [Yb (by simp [hin])];exact hin
     ·rw [Ye ⟨hd,hin⟩];simp
    ·exact .inr h
 exact key t.ops [] (.inr ho)
theorem ZiO (l:List TxD) (id i:Int):ZJ (l.filter fun t=>!decide (t.id=id)) i=if i=id then none else ZJ l i:=by
 unfold ZJ
 induction l with
 | nil=>simp
 | cons t l ih=>
  rw [YbJ]
  by_cases e:t.id=id
  ·rw [Yb (by simp [e]),ih,YbQ]
   by_cases h:i=id
   ·rw [Ye h,Ye h]
   ·rw [Yb h,Yb h,YF ow]
  ·rw [Ye (by simp [e]),YbQ,YbQ,ih]
   by_cases h:i=id
   ·rw [Ye h,Ye h,YF ow]
   ·rw [Yb h,Yb h]
theorem Zns {g:Zo} {p:Int} : ZX g p PT1≠[] ↔ ZO g ∧ ∃ t ∈ g.txs,∃ o ∈ t.ops,Zjh g p t o=true:=by
 unfold ZX
 by_cases hg:ZO g
 ·rw [Ye hg]
  unfold badsG
  rw [Ne,List.flatMap_eq_nil_iff]
  constructor
  ·intro h
   refine ⟨hg,Ya3 fun hn=>h fun t ht=>?_⟩
   unfold ZaK
   rw [List.map_eq_nil_iff,YaW]
   intro x hx hb
   have hm:x.1 ∈ t.ops:=by
    obtain ⟨i,hi,e⟩:=YH hx
    simp at e
    rw [← e];exact YaH _
   exact hn ⟨t,ht,x.1,hm,by simpa using hb⟩
  ·rintro ⟨_,t,ht,o,ho,hb⟩ h
   have:=h t ht
   unfold ZaK at this
   rw [List.map_eq_nil_iff,YaW] at this
   obtain ⟨i,hi,e⟩:=YH ho
   exact this (o,i) (by rw [← e];exact List.mk_mem_zipIdx_iff_getElem?.2 (Yao hi)) (by simpa using hb)
 ·rw [Yb hg]
  exact ⟨fun h=>absurd rfl h,fun h=>absurd h.1 hg⟩
theorem Zib.bads {g x:Zo} {id:Int} (h:Zib g x id) {p:Int} (hb:ZX x p PT1≠[]):ZX g p PT1≠[]:=by
 obtain ⟨_,t,ht,o,ho,hb⟩:=Zns.1 hb
 obtain ⟨t1,t2⟩:=h.mem.1 ht
 refine Zns.2 ⟨h.rg,t,t1,o,ho,?_⟩
 have hr:o.read=true:=by
  unfold Zjh ZaY at hb
  cases hor:o.read
  ·rw [hor] at hb;simp at hb
  ·rfl
 unfold Zjh uOf at hb ⊢
 rw [h.tab,Yb (h.free t t1 t2 o ho hr)] at hb
 exact hb
structure Zf1 (x y:Zo) (id:Int):Prop where
 rx:ZO x
 ry:ZO y
 ord:∀ k,getO y.orders k=getO x.orders k
 flt:x.txs=y.txs.filter fun t=>!decide (t.id=id)
 idle:∀ t ∈ y.txs,t.id=id→t.done=false∨t.ops = []
 free:∀ t ∈ x.txs,∀ o ∈ t.ops,o.read=true→o.tx≠id
section
variable {x y:Zo} {id:Int}
theorem Zf1.mem (h:Zf1 x y id) {t:TxD} : t ∈ x.txs ↔ t ∈ y.txs∧t.id≠id:=by rw [h.flt,YN];simp
theorem Zf1.find (h:Zf1 x y id) {i:Int} (hi:i≠id):ZJ y.txs i=ZJ x.txs i:=by rw [h.flt,ZiO,Yb hi]
theorem Zf1.rds (h:Zf1 x y id) {t:TxD} (ht:t ∈ x.txs) {o:OpD} (ho:o ∈ t.ops) (hr:o.read=true) {e:Zf} : RdS y t o e ↔ RdS x t o e:=by
 unfold RdS OkV
 rw [h.find (h.free t ht o ho hr),h.ord]
theorem Zf1.edge (h:Zf1 x y id) {e:Zf} : EdS y e ↔ EdS x e:=by
 unfold EdS
 rw [h.ord]
 constructor
 ·rintro (k | ⟨t,ht,hd,o,ho,hr,k⟩)
  ·exact .inl k
  ·by_cases e:t.id=id
   ·rcases h.idle t ht e with h1 | h1
    ·rw [hd] at h1;cases h1
    ·rw [h1] at ho;cases ho
   ·have hx:=h.mem.2 ⟨ht,e⟩
    exact .inr ⟨t,hx,hd,o,ho,hr,(h.rds hx ho hr).1 k⟩
 ·rintro (k | ⟨t,ht,hd,o,ho,hr,k⟩)
  ·exact .inl k
  ·exact .inr ⟨t,(h.mem.1 ht).1,hd,o,ho,hr,(h.rds ht ho hr).2 k⟩
theorem Zfj {α β:Type} {f f':α→List β} {p:α→Bool} : ∀ {l:List α},(∀ t ∈ l,p t=false→f t = [])→(∀ t ∈ l,p t=true→f t=f' t)→l.flatMap f=(l.filter p).flatMap f'
 | [],_,_=>rfl
 | t :: l,h,k=>by
  have ih:=Zfj (l:=l) (fun u hu=>h u (by simp [hu])) fun u hu=>k u (by simp [hu])
  rw [YV,YbJ,ih]
  cases hp:p t
  ·rw [h t (by simp) hp,Yb (by simp)];rfl
  ·rw [Ye rfl,YV,k t (by simp) hp]
theorem Zf1.bads (h:Zf1 x y id) (p:Int):ZX y p PT1=ZX x p PT1:=by
 unfold ZX
 rw [Ye h.ry,Ye h.rx]
 unfold badsG
 rw [h.flt]
 refine Zfj (fun t ht hp=>?_) fun t ht hp=>?_
 ·have e:t.id=id:=by simpa using hp
  unfold ZaK
  rw [List.map_eq_nil_iff,YaW]
  intro z hz hb
  have hm:z.1 ∈ t.ops:=by
   obtain ⟨i,hi,e⟩:=YH hz
   simp at e
   rw [← e];exact YaH _
  rcases h.idle t ht e with h1 | h1
  ·unfold Zjh Zgw at hb
   rw [h1] at hb;simp at hb
  ·rw [h1] at hm;cases hm
 ·have e:t.id≠id:=by simpa using hp
  have hx:=h.mem.2 ⟨ht,e⟩
  unfold ZaK
  congr 1
  refine YbF fun z hz=>?_
  have hm:z.1 ∈ t.ops:=by
   obtain ⟨i,hi,e⟩:=YH hz
   simp at e
   rw [← e];exact YaH _
  congr 1
  unfold Zjh
  cases hn:ZaY t.id z.1
  ·rfl
  ·have hr:z.1.read=true:=by
    unfold ZaY at hn
    cases hor:z.1.read
    ·rw [hor] at hn;simp at hn
    ·rfl
   unfold uOf
   rw [h.find (h.free t hx z.1 hm hr)]
end
theorem Zs5 {p:Int→Bool} {n:Nat} {g:Zo} (h:Fit n g):(wwC p g).length≤n*(24*n):=by
 unfold wwC
 split
 ·have key:∀ l:List OrdD,(∀ o ∈ l,o.txs.length≤n)→(wwA p l).length≤n*l.length:=by
   intro l
   induction l with
   | nil=>intro _;simp [wwA]
   | cons o l ih=>
    intro h
    have h1:=ih fun x hx=>h x (by simp [hx])
    have h2:=h o (by simp)
    unfold wwA at h1 ⊢
    rw [YV,Yc,Yk,Nat.mul_succ]
    split
    ·have h3:(wwO o (o.txs.length - 1)).length=o.txs.length - 1:=by unfold wwO;rw [YC,List.length_range]
     omega
    ·simp only [Yv];omega
  exact Y6 (key _ h.2.2) (Ybh _ h.2.1)
 ·simp
theorem ZdJ {n:Nat} {g:Zo} (h:Fit n g) (hn:n≤26):ZbR g∧(wwC PT1 g).length+(rdC PT1 g).length≤100000:=by
 have hs:=h.small ow
 refine ⟨hs,?_⟩
 have h1:=Zs5 (p:=PT1) h
 have h2:=Zto (p:=PT1) hs
 have h3:=h.1.1
 have h4:n*(24*n)≤26*(24*26):=Nat.mul_le_mul hn (Ybh _ hn)
 omega
theorem ZiT {g:Zo} (h:ZaC g):Fit 24 g:=by
 obtain ⟨h1,h2,h3,h4⟩:=h
 refine ⟨⟨by omega,fun t ht=>?_⟩,by omega,fun o ho=>?_⟩
 ·obtain ⟨j,hj,e⟩:=YH ht
  have:=h3 j hj
  rw [nth_eq hj,e] at this;omega
 ·obtain ⟨j,hj,e⟩:=YH ho
  have:=h4 j hj
  rw [nth_eq hj,e] at this;omega
def ZdQ:Zo:=⟨[⟨1,true,[⟨true,1,0,0⟩,⟨false,2,0,0⟩]⟩,⟨2,true,[⟨true,2,0,0⟩,⟨false,1,0,0⟩]⟩],[⟨1,[2]⟩,⟨2,[1]⟩]⟩
theorem ZlC:ZV ZdQ = [⟨1,2,3,1⟩,⟨2,1,3,2⟩]:=by decide +kernel
theorem ZcS:ZbR ZdQ∧(wwC PT1 ZdQ).length+(rdC PT1 ZdQ).length≤100000:=⟨⟨⟨by decide,by decide⟩,by decide,by decide⟩,by decide +kernel⟩
theorem Zs8  : FnP prog 32 [] (.agg (Zu ZdQ)):=by
 refine FnP.mk func32 rfl ntmps32 rfl fun B a w F Z hfr G=>Ya ?_
 refine Zb G (qf (oH [.slice none 0 0,.slice none 0 0] 101) trivial qz qZ) Z [0] [101,0] (fun _=>rfl) (fun _=>rfl) fun τ a w F G=>?_
 try dsimp only [RS.sub,SF.sub,CF.sub,csub,Anc.sub,List.map,zCF,Zu,rTx,ZP,ZN,Zn,rOp] at G
 generalize τ 0=v0 at G
 refine Za (Ya (rZ G (qf (oB [(0,_),(1,_)] [.bool false,.int .i64 0,.int .i64 0,.int .i64 0] [(0,1),(1,1),(2,1),(3,1)] (.one rfl .cb ZdH kr (.one rfl qi one_int kr .nil))) trivial qz (qf (oB [(1,_)] [.bool false,.int .i64 0,.int .i64 0,.int .i64 0] [(0,1),(1,1),(2,1),(3,1)] (.one rfl qi one_int kr .nil)) trivial qz (qf (o_buildSliceE (sz:=4) (zs:=[.bool false,.int .i64 0,.int .i64 0,.int .i64 0]) (r:=[(0,.tmp 1),(1,.tmp 2)]) (l:=[_,_,_,_,_,_,_,_]) Yb2 kr kr kr kr rfl rfl (.agg rfl .t kr kr (.agg rfl .t kr kr .nil)) rfl) r2 qz (qf (oB [(0,_),(1,_),(2,.tmp 3)] [.int .i64 0,.bool false,.slice none 0 0] [(0,1),(1,1),(2,1)] (.one rfl qi one_int kr (.one rfl .cb ZdH kr (.one rfl .t Zec kr .nil)))) r1 qz (qf (oB [(0,_),(1,_)] [.bool false,.int .i64 0,.int .i64 0,.int .i64 0] [(0,1),(1,1),(2,1),(3,1)] (.one rfl .cb ZdH kr (.one rfl qi one_int kr .nil))) trivial qz (qf (oB [(1,_)] [.bool false,.int .i64 0,.int .i64 0,.int .i64 0] [(0,1),(1,1),(2,1),(3,1)] (.one rfl qi one_int kr .nil)) trivial qz (qf (o_buildSliceE (sz:=4) (zs:=[.bool false,.int .i64 0,.int .i64 0,.int .i64 0]) (r:=[(0,.tmp 5),(1,.tmp 6)]) (l:=[_,_,_,_,_,_,_,_]) Yb2 kr kr kr kr rfl rfl (.agg rfl .t kr kr (.agg rfl .t kr kr .nil)) rfl) r2 qz (qf (oB [(0,_),(1,_),(2,.tmp 7)] [.int .i64 0,.bool false,.slice none 0 0] [(0,1),(1,1),(2,1)] (.one rfl qi one_int kr (.one rfl .cb ZdH kr (.one rfl .t Zec kr .nil)))) r1 qz (qf (o_buildSliceE (sz:=3) (zs:=[.int .i64 0,.bool false,.slice none 0 0]) (r:=[(0,.tmp 4),(1,.tmp 8)]) (l:=[_,_,_,_,_,_]) Yb3 kr kr kr kr rfl rfl (.agg rfl .t kr kr (.agg rfl .t kr kr .nil)) rfl) r2 qz (qf (o_buildSliceE (sz:=1) (zs:=[.int .i64 0]) (r:=[(0,_)]) (l:=[_]) Yb0 kr kr kr kr rfl rfl (.one rfl qi one_int kr .nil) rfl) trivial qz (qf (oB [(0,_),(1,.tmp 10)] [.int .i64 0,.slice none 0 0] [(0,1),(1,1)] (.one rfl qi one_int kr (.one rfl .t Zec kr .nil))) r1 qz (qf (o_buildSliceE (sz:=1) (zs:=[.int .i64 0]) (r:=[(0,_)]) (l:=[_]) Yb0 kr kr kr kr rfl rfl (.one rfl qi one_int kr .nil) rfl) trivial qz (qf (oB [(0,_),(1,.tmp 12)] [.int .i64 0,.slice none 0 0] [(0,1),(1,1)] (.one rfl qi one_int kr (.one rfl .t Zec kr .nil))) r1 qz (qf (o_buildSliceE (sz:=2) (zs:=[.int .i64 0,.slice none 0 0]) (r:=[(0,.tmp 11),(1,.tmp 13)]) (l:=[_,_,_,_]) Yb5 kr kr kr kr rfl rfl (.agg rfl .t kr kr (.agg rfl .t kr kr .nil)) rfl) r2 qz (qf (oB [(0,.tmp 9),(1,.tmp 14)] [.slice none 0 0,.slice none 0 0] [(0,1),(1,1)] (.one rfl .t Zec kr (.one rfl .t Zec kr .nil))) r2 qz (qs 2 101 r2 r1 qZ)))))))))))))))) Z [0] [101,0] fun G=>Yh ?_))
 refine Zae hfr G rfl (.cl 101 true 2 rfl rfl .nil) (.one (.aggLe rfl ⟨.arrSl (R:=rTx) (l':=[⟨1,true,[⟨true,1,0,0⟩,⟨false,2,0,0⟩]⟩,⟨2,true,[⟨true,2,0,0⟩,⟨false,1,0,0⟩]⟩]) rfl ⟨.refl,.refl,.arrSl (R:=rOp) (l':=[⟨true,1,0,0⟩,⟨false,2,0,0⟩]) rfl Zet.refl,.refl,.refl,.arrSl (R:=rOp) (l':=[⟨true,2,0,0⟩,⟨false,1,0,0⟩]) rfl Zet.refl,tv⟩,.arrSl (R:=ZP) (l':=[⟨1,[2]⟩,⟨2,[1]⟩]) rfl ⟨.refl,.arrSl (R:=Zn) (l':=[2]) rfl Zet.refl,.refl,.arrSl (R:=Zn) (l':=[1]) rfl Zet.refl,tv⟩,tv⟩))
section
variable {P:Program} {t t2 e ty:TypeId} {pos:String} {af:Array Edge} {g:Option (Nat×Bool)} {x y:Operand} {ps qs:List (Nat×SF)} {α:Type} {R:α→List PV} {l s:List α} {sz k d':Nat} {v:Value}
theorem Zfr (n:Nat) (hu:P.underlying t=some (.slice e)) (hs:(P.info? e).map (·.size)=some sz) (hR:∀ x,(R x).length=sz) (hx:Opd x ps (.pv (.is (ZiG sz k v)))) (hs0:s≠[]) (hk:k+s.length≤l.length)
  (hy:∀ (act:Act) (w:World) (F:Fp),Hps qs (Act.tau act) w (U F)→(RS.ob (.val v) (ZC e sz R l)).holds (Act.tau act) w (F n) (U F) → ∃ a sLen sCap svs,act.eval y = .slice (some a) sLen sCap∧min sLen (l.length - k)=s.length∧(∀ j u,svs[j]? = some u→w.cell? (a.add j)=some u)∧PVs (s.flatMap R) svs w (U F)) :
  OpC P ⟨some d',.call { callee:=.builtin .copy,args:=#[x,y],argTypes:=#[t,t2] },ty,pos,af,g⟩ ⟨ps++qs,[(n,.ob (.val v) (ZC e sz R l))],.pv (.int .i64 s.length),[(n,.ob (.val v) (ZC e sz R (l.take k++s++l.drop (k+s.length))))]⟩:=fun act w F K Q hw hp hr ht=>by
 obtain ⟨xs,r1,r2,r3⟩:=id (hr (n,.ob (.val v) (ZC e sz R l)) (by simp))
 have hy':=hy act w F hp.right (hr (n,.ob (.val v) (ZC e sz R l)) (by simp))
 simp only [Anc.v] at r1 r3
 have hxl:=r1.1
 have hsl0:0<s.length:=Yaf.2 hs0
 rcases r1.2 with ⟨_,hn0⟩ | ⟨b,cap,cur,ev,_,hg,hnc,hcm,hcs,htake⟩
 ·omega
 ·have ex:act.eval x = .slice (some ⟨b,0+k*sz,none⟩) (l.length - k) (cap - k):=by rw [(hx act w (U F) hp.left).1,ev];rfl
  obtain ⟨sa,sl,sc,svs,es,hmin,hcells,hpv⟩:=hy'
  have hcl:svs.length=s.length*sz:=by rw [← hpv.len,ZjT hR]
  have hcur:cur.toList.length=cur.size:=by simp
  have hfit:k*sz+s.length*sz≤l.length*sz:=by rw [← Ybd];exact YP _ hk
  have hfit2:l.length*sz≤cur.size:=by rw [hcs];exact YP _ hnc
  have hf:∀ z,F n z ↔ z=b:=fun z=>by rw [r3 z,ev];simp [Value.ownBlock,Yan]
  have hc:=Zdd (P:=P) (w:=w) (dT:=t) (sT:=t2) (ty:=ty) (g:=b) (o:=0+k*sz) (dLen:=l.length - k) (dCap:=cap - k) (n:=s.length) (a:=sa) (sLen:=sl) (sCap:=sc) hu hs hg hmin hcl hcells (by rw [hcl];omega) hpv.one
  rw [Y7] at hc ex
  have hrun:(execOp act.eval ⟨some d',.call { callee:=.builtin .copy,args:=#[x,y],argTypes:=#[t,t2] },ty,pos,af,g⟩).run P w = .ok (.value (goInt s.length)) (w.setRow b (cur.toList.take (k*sz)++svs++cur.toList.drop (k*sz+svs.length)).toArray):=by
   simp only [execOp,resolve,invoke,builtin,ex,es]
   simp [hc,resolve,invoke,builtin,ex,es]
  obtain ⟨g1,g2⟩:=Zbs hw hg hf (cur.toList.take (k*sz)++svs++cur.toList.drop (k*sz+svs.length)).toArray
  simp only [Oper.wp,hrun,Oper.upon]
  refine ht _ _ F g1 g2 ⟨rfl,by unfold maxLen at hcm;show IntKind.min .i64≤_∧_≤IntKind.max .i64;simp [IntKind.min,IntKind.max,IntKind.signed,IntKind.bits];omega⟩ ?_
  intro z' hz'
  simp only [Yi] at hz'
  subst hz'
  have hll:(l.take k++s++l.drop (k+s.length)).length=l.length:=by simp;omega
  have htk:=ZeB (cur:=cur.toList) (us:=svs) (k:=k*sz) (sz:=s.length*sz) (N:=l.length*sz) hfit hcl (by rw [hcur];exact hfit2)
  rw [htake] at htk
  have hown:=Zji (n:=l.length) (sz:=sz) (us:=cur.toList.take (k*sz)++svs++cur.toList.drop (k*sz+svs.length)) hg (by simp only [Yc,Yj,YL,hcur,hcl];omega) hnc hcm
  rw [htk] at hown
  refine ⟨xs.take (k*sz)++svs++xs.drop (k*sz+s.length*sz),by rw [hll];simp only [Anc.v];rw [ev];exact hown,?_,r3⟩
  rw [YQ,YQ,ZcL hR,ZgY hR,Ybd]
  have hp1:=PVs.mono g2.ev r2
  exact ((hp1.take _).append (PVs.mono g2.ev hpv)).append (hp1.drop _)
theorem Zjw (n:Nat) (hu:P.underlying t=some (.slice e)) (hs:(P.info? e).map (·.size)=some sz) (hR:∀ x,(R x).length=sz) (hx:Opd x ps (.pv (.is v))) (hy:Opd y qs (.pv (.sl R s))) (hs0:s≠[]) (hk:s.length≤l.length) :
  OpC P ⟨some d',.call { callee:=.builtin .copy,args:=#[x,y],argTypes:=#[t,t2] },ty,pos,af,g⟩ ⟨ps++qs,[(n,.ob (.val v) (ZC e sz R l))],.pv (.int .i64 s.length),[(n,.ob (.val v) (ZC e sz R (s++l.drop s.length)))]⟩:=fun act w F K Q hw hp hr ht=>by
 have hv:ZiG sz 0 v=v:=by
  obtain ⟨xs,r1,_,_⟩:=hr (n,.ob (.val v) (ZC e sz R l)) (by simp)
  have hsl0:0<s.length:=Yaf.2 hs0
  rcases r1.2 with ⟨_,hn0⟩ | ⟨b,cap,cur,ev,_⟩
  ·omega
  ·simp only [Anc.v] at ev
   rw [ev];simp [ZiG]
 have h:=Zfr (P:=P) (t:=t) (t2:=t2) (ty:=ty) (pos:=pos) (af:=af) (g:=g) (x:=x) (y:=y) (ps:=ps) (qs:=qs) (R:=R) (s:=s) (l:=l) (v:=v) (k:=0) (d':=d') n hu hs hR (by rw [hv];exact hx) hs0 ow (fun act w F hp _=>by
  obtain ⟨sa,sc,es,hsc,hscm,hsv⟩:=hy act w (U F) hp
  obtain ⟨sb,soff,svs,rfl,hny,hsb,hcells,hpv⟩:=hsv.resolve_left hs0
  exact ⟨_,_,_,svs,es,by omega,Zn9 hcells,hpv⟩)
 rw [List.take_zero,Yai,Y7] at h
 exact h act w F K Q hw hp hr ht
theorem ZjL {kx ky:Nat} (n:Nat) (hu:P.underlying t=some (.slice e)) (hs:(P.info? e).map (·.size)=some sz) (hR:∀ x,(R x).length=sz) (hx:Opd x ps (.pv (.is (ZiG sz kx v)))) (hy:Opd y qs (.pv (.is (ZoY ky v)))) (hkx:kx=k) (hky:ky=k) (h0:0<k) (hk:k<l.length) :
  OpC P ⟨some d',.call { callee:=.builtin .copy,args:=#[x,y],argTypes:=#[t,t2] },ty,pos,af,g⟩ ⟨ps++qs,[(n,.ob (.val v) (ZC e sz R l))],.pv (.int .i64 (l.take (min k (l.length - k))).length),[(n,.ob (.val v) (ZC e sz R (l.take k++l.take (min k (l.length - k))++l.drop (k+(l.take (min k (l.length - k))).length))))]⟩:=by
 subst hkx;subst hky
 have hlen:(l.take (min ky (l.length - ky))).length=min ky (l.length - ky):=by rw [Yj];omega
 refine Zfr n hu hs hR hx (fun e=>by rw [← List.length_eq_zero_iff,hlen] at e;omega) (by rw [hlen];omega) fun act w F hp hr=>?_
 obtain ⟨xs,r1,r2,r3⟩:=hr
 simp only [Anc.v] at r1 r3
 have hxl:=r1.1
 have hsh:=ZM r1
 obtain ⟨ad,cap,ev,_,_,hq⟩:=hsh
 obtain ⟨b,rfl,_,hcells⟩:=hq.resolve_left ow
 have hle:min ky (l.length - ky)*sz≤l.length*sz:=YP _ ow
 refine ⟨⟨b,0,none⟩,ky,cap,xs.take (min ky (l.length - ky)*sz),by rw [(hy act w (U F) hp).1,ev];rfl,by rw [hlen],fun j u hj=>?_,?_⟩
 ·rw [Ya7] at hj
  split at hj
  ·exact Zn9 hcells j u hj
  ·cases hj
 ·rw [ZcL hR];exact r2.take _
end
def ZbC (n k:Nat):List Int:=List.replicate k (-1)++List.replicate (n - k) 0
theorem ZiP {n k:Nat} (h:k≤n):(ZbC n k).length=n:=by unfold ZbC;rw [Yc,YY,YY];omega
theorem Zi8 {n:Nat} (h:1≤n):[(-1:Int)] ++ (List.replicate n (0:Int)).drop [(-1:Int)].length=ZbC n 1:=by unfold ZbC;rw [List.drop_replicate];rfl
theorem Zgz {n k:Nat} (h:k<n):(ZbC n k).take k++(ZbC n k).take (min k ((ZbC n k).length - k))++(ZbC n k).drop (k+((ZbC n k).take (min k ((ZbC n k).length - k))).length)=ZbC n (k+min k (n - k))∧((ZbC n k).take (min k ((ZbC n k).length - k))).length=min k (n - k):=by
 have hl:=ZiP (Nat.le_of_lt h)
 have hlen:((ZbC n k).take (min k (n - k))).length=min k (n - k):=by rw [Yj,hl];omega
 rw [hl,hlen]
 refine ⟨?_,rfl⟩
 have t1:∀ j,j≤k→(ZbC n k).take j=List.replicate j (-1):=fun j hj=>by
  unfold ZbC
  rw [Y4 (by rw [YY];exact hj),List.take_replicate,YaO hj]
 have d1:∀ j,(ZbC n k).drop (k+j)=List.replicate (n - k - j) 0:=fun j=>by
  unfold ZbC
  rw [List.drop_append,YaX (by rw [YY];omega),YY,List.drop_replicate,Yai]
  congr 1;omega
 rw [t1 k (YO _),t1 _ ow,d1]
 unfold ZbC
 rw [List.replicate_append_replicate]
 congr 2;omega
theorem ZmC {n k:Nat} (h:n≤k) (h2:k≤n):ZbC n k=List.replicate n (-1):=by
 have:k=n:=by omega
 subst this
 unfold ZbC;simp
theorem ZsW (x y:Int):FnP prog 247 [.int .u64 x,.int .u64 y] (.tup [.int .u64 (x*y / 18446744073709551616),.int .u64 (x*y % 18446744073709551616)]):=by
 refine FnP.mk func247 rfl ntmps247 rfl fun B a w F Z hfr G=>Ya ?_
 refine rZ G (qI (qI qZ)) Z [5,4,1,0] [0] fun G=>Ya ?_
 refine wp_cond (by rfl) ?_
 refine Yf (Za (Ya (rZ G (qR rr (qR rr (qf (oP (Zrd x y) func255 (Args.two .t .t)) r2 qz (qR rr (qf (Zi .t rfl) r1 qz (qf (Zi .t rfl) r1 qz (qO rr (qO rr qZ)))))))) Z [9,8,5,4] [0] fun G=>Ya ?_)))
 refine rZ G (qR rr (qR rr (qO rr (qO rr qZ)))) Z [5,4] [0] fun G=>Yh ?_
 refine Zae hfr G rfl (.tmp rfl (.tmp rfl .nil)) (.two .refl .refl)
theorem Zqi (n:Nat) (hn1:1≤n) (hn2:n≤1000000):FnG prog 227 1 [.sl Zn [-1],.int .i64 (n:Int)] [.star []] (PV.one) (fun v=>[ZC 3 1 Zn (List.replicate n (-1)) v]):=by
 refine FnG.mk func227 rfl ntmps227 rfl kr fun B F0 a w F Z hG G=>?_
 have hu1:IntKind.wrap .u64 ((([(-1)]:List Int).length:Nat):Int)=1:=ZaR (by decide)
 have hu2:IntKind.wrap .u64 (n:Int)=n:=ZaR ow
 have hw:IntKind.wrap .i64 (n:Int)=n:=Zz ow
 have hm:(1:Int)*(n:Int) / 18446744073709551616=0∧(1:Int)*(n:Int) % 18446744073709551616=(n:Int):=by omega
 obtain ⟨F,G⟩:=G.nM [1,0] [0]
 refine Ya (rZ G (qC qZ) Z [4,1,0] [0] fun G=>(Ya (Ya ?_)))
 refine rZ G (qR rr (qf (Zar .t qi) r1 qz qZ)) Z [10,4,1,0] [0] fun G=>?_
 refine Zc G rfl (fun hc0=>?_) (fun hc0=>?_)
 ·have:=Yw hc0;omega
 refine Yf (Za (Ya (Zg G (qR rr (qu Yb0 r1 (qf (Zat Yb8 kr .t) r1 qz (qR rr (qf (Zat Yb8 kr .t) r1 qz (qf (oP (ZsW _ _) func247 (Args.two .t .t)) r2 qz (qR rr (qf (Zi .t rfl) r1 qz (qf (Zi .t rfl) r1 qz (qO rr (qO rr qZ))))))))))) Z [6,5,4,0] [0] rfl rfl fun a w F G=>?_)))
 rw [hu1,hu2,hm.1,hm.2] at G
 refine Za (Ya (Ya (rZ G (qR rr (qf (Za3 .t qi) r1 qz (qR rr (qm rfl rfl rfl rfl (qk rfl (fun h=>Za3 (.w h) qi) r2 qz (qf (Zaa .t .t) r2 qz qZ)))))) Z [26,6,4,0] [0] fun G=>?_)))
 refine Zc G rfl (fun hc1=>?_) (fun hc1=>?_)
 ·simp at hc1;omega
 refine Yf (Za (Ya (Zb G (qR rr (qf (Zat Yb9 kr .t) r1 qz (qf (Zcl (R:=Zn) (v:=0) (c:=(IntKind.wrap .i64 (n:Int))) (sz:=1) (bs:=8) (zs:=[.int .i64 0]) 101 Yb0 kr kr kr (fun _ _=>⟨⟨rfl,rfl,Zdj⟩,tv⟩) .t .t (by rw [hw];omega) (by rw [hw];omega) (by rw [hw];omega)) r2 qz (qO rr qZ)))) Z [7,4,0] [101,0] (fun _=>rfl) (fun _=>rfl) fun τ a w F G=>?_)))
 try dsimp only [RS.sub,SF.sub,CF.sub,csub,Anc.sub,List.map,Ze,xL,xM,Nat.reduceAdd,xD,xE,xT,xU,xC,xN,zCF,Zal,Zan,Zn,ZaI] at G
 generalize τ 30=v30 at G
 rw [hw,Yd] at G
 refine Za (Ya (Zg G (qR rr (qR rr (qf (Zjw 101 Yb0 kr (by intro x;rfl) .t .t (by simp) (by rw [YY];exact hn1)) r2 r1 (qO rr qZ)))) Z [8,7,4] [101,0] rfl rfl fun a w F G=>?_))
 rw [Zi8 hn1] at G
 refine Za (Ya (Yg ?_))
 replace G:=G.ent (i:=8) (s':=.pv (.int .i64 ((1:Nat):Int))) rfl (.int rfl)
 refine Zm (σ:=Nat) [4,7] [0] (fun s=>[(8,.pv (.int .i64 (s:Int)))]) (fun s=>[(101,.ob (.val v30) (ZC 3 1 Zn (ZbC n s)))]) (fun s=>1≤s∧s≤n) (fun s=>n - s) (1) G ⟨rfl,rfl,rfl,tv⟩ ⟨rfl,rfl,tv⟩ ⟨YO 1,hn1⟩ ?_
 clear G;intro k a w F hC G
 try dsimp only at hC
 obtain ⟨F,G⟩:=G.nM [8,7,4] [101,0]
 try dsimp only at G
 obtain ⟨hk1,hk2⟩:=hC
 have hfl:=ZiP hk2
 refine Ya (Ya (rZ G (qR rr (qR rr (qf (Zav 101 Yb0 .is) r1 r1 (qL r2)))) Z [37,8,7,4] [101,0] fun G=>?_))
 refine Zc G rfl (fun hc2=>?_) (fun hc2=>?_)
 ·have hkn:k<n:=by have h9:=Yw hc2;rw [hfl] at h9;omega
  refine Yf (Za (Yg (ZB G (qR rr (qR rr (qR rr (qf (ZaX (sz:=1) 101 (.mk Yb0 kr) .is .t ow (by rw [hfl];omega)) r2 r1 (qR rr (qR rr (qf (Zgv (sz:=1) 101 (.mk Yb0 kr) .is .t ow (by rw [hfl];omega)) r2 r1 (qf (ZjL 101 Yb0 kr (by intro x;rfl) .t .t rfl rfl ow (by rw [hfl];exact hkn)) r2 r1 (qf (o_add .t .t) r2 qz (qO rr qZ)))))))))) Z [8,7,4] [101,0] rfl rfl fun a w F G=>?_)))
  try dsimp only [Zal,Zan,Zn,ZaI] at G
  simp only [Yd] at G
  rw [(Zgz hkn).1] at G
  refine Zj (Za ?_)
  replace G:=G.ent (i:=8) (s':=.pv (.int .i64 ((k+min k (n - k):Nat):Int))) rfl (.int (by rw [(Zgz hkn).2,Zz ow];omega))
  obtain ⟨F,G⟩:=G.nM [7,4,8] [0,101]
  exact ⟨(k+min k (n - k)),F,⟨by omega,by omega⟩,G,by omega⟩
 have hkn:n≤k:=by have h9:=YG hc2;rw [hfl] at h9;omega
 rw [ZmC hkn hk2] at G
 have hg:(List.replicate n (-1):List Int)=List.replicate n (-1):=rfl
 refine Yz (Zh (Zh (Zr (Za (Ya (rZ G (qR rr (qO rr qZ)) Z [4] [101,0] fun G=>Yh ?_))))))
 obtain ⟨F,G⟩:=G.rename 101 1 rfl rfl
 have G:=G.turn 1 rfl (r':=RS.hp (ZC 3 1 Zn (List.replicate n (-1)) v30)) (fun _ _ _ _ h=>by rw [hg];exact h)
 refine Zab (h':=fun v=>ZC 3 1 Zn (List.replicate n (-1)) v) hG G rfl (.tmp rfl .nil) (.one .one) rfl
theorem Zop (O I:List (List Z8)) (m:Nat) (mask least:Int) (hn1:1≤O.length) (hn2:O.length≤1000000):FnG prog 204 1 [.agg [ZhD O I m,.int .i64 mask,.int .i64 least]] [.star []] (PV.one) (fun v=>[ZC 3 1 Zn (List.replicate O.length (-1)) v]):=by
 refine FnG.mk func204 rfl ntmps204 rfl kr fun B F0 a w F Z hG G=>?_
 have hg:(List.replicate O.length (-1):List Int)=List.replicate O.length (-1):=rfl
 obtain ⟨F,G⟩:=G.nM [0] [0]
 refine Ya (Zb G (qx 101 r1 (qC qZ)) Z [2,1] [101,0] (fun _=>rfl) (fun _=>rfl) fun τ a w F G=>?_)
 try dsimp only [RS.sub,SF.sub,CF.sub,csub,Anc.sub,List.map,zCF,Zal,Zan,Zn,ZaI] at G
 generalize τ 1=v1 at G
 refine Za (Ya ?_)
 replace G:=G.fresh 102 rfl
 refine Zb G (qf (o_buildSliceE (sz:=1) (zs:=[.int .i64 0]) (r:=[(0,_)]) (l:=[_]) Yb0 kr kr kr kr rfl rfl (.one rfl qi one_int kr .nil) rfl) trivial qz (qg 0 101 r1 r1 (qa 101 r1 r1 (qf (oP (Zcz O I m) func158 (Args.one .t)) r1 qz (qf (ZaM 102 (Zqi O.length hn1 hn2) func227 rfl kr (Args.two (.conv .t (Ent.arrSl (R:=Zn) (l:=[-1]) rfl)) .t) pvOne1) r2 r1 (qO rr qZ)))))) Z [2] [102,101,0] (fun _=>rfl) (fun _=>rfl) fun τ a w F G=>?_
 try dsimp only [RS.sub,SF.sub,CF.sub,csub,Anc.sub,List.map,Ze,xL,xM,Nat.reduceAdd,xD,xE,xT,xU,xC,xN,zCF,ldSF,Zal,Zan,Zn,ZaI] at G
 generalize τ 7=v7 at G
 refine Za (Yh ?_)
 obtain ⟨F,G⟩:=G.rename 102 1 rfl rfl
 have G:=G.turn 1 rfl (r':=RS.hp (ZC 3 1 Zn (List.replicate O.length (-1)) v7)) (fun _ _ _ _ h=>by rw [hg];exact h)
 refine Zab (h':=fun v=>ZC 3 1 Zn (List.replicate O.length (-1)) v) hG G rfl (.tmp rfl .nil) (.one .one) rfl
theorem ZmU (O I:List (List Z8)) (m:Nat) (mask least u:Int):FnP prog 205 [.agg [ZhD O I m,.int .i64 mask,.int .i64 least],.int .i64 u] (.bool (decide (least≤u∧0≤u∧u<O.length))):=by
 refine FnP.mk func205 rfl ntmps205 rfl fun B a w F Z hfr G=>Ya ?_
 refine Zb G (qx 101 r1 qB) Z [4,2,1] [101,0] (fun _=>rfl) (fun _=>rfl) fun τ a w F G=>?_
 try dsimp only [RS.sub,SF.sub,CF.sub,csub,Anc.sub,List.map,zCF,Zal,Zan,Zn,ZaI] at G
 generalize τ 2=v2 at G
 refine Za (Ya (rZ G (qR rr (qg 2 101 r1 r1 (qa 101 r1 r1 (qf (Zp9 .t qi) r1 qz (qf (ZbE .t .t) r2 qz (qR rr (qm rfl rfl rfl rfl (qv 0 101 rfl r2 r1 (qw 101 rfl r2 r1 (qk rfl (fun h=>oP (Zcz O I m) func158 (Args.one (.w h))) r2 qz (qk rfl (fun h=>Zar (.w h) (.w h)) r3 qz (qf (ZH .t .t) r2 qz (qO rr qZ))))))))))))) Z [4] [0] fun G=>Yh ?_))
 refine Zv hfr G rfl rfl rfl (.bool (by rw [Ya4];simp;split <;> omega))
section
variable {P:Program} {t t2 e ty:TypeId} {pos:String} {af:Array Edge} {g:Option (Nat×Bool)} {x y:Operand} {ps qs:List (Nat×SF)} {α:Type} {R:α→List PV} {l s:List α} {sz:Nat} {v:Value}
theorem Zlc {d':Nat} (n:Nat) (hu:P.underlying t=some (.slice e)) (hs:(P.info? e).map (·.size)=some sz) (hR:∀ x,(R x).length=sz) (hx:Opd x ps (.pv (.is v))) (hy:Opd y qs (.pv (.sl R s))) (hk:s.length≤l.length) :
  OpC P ⟨some d',.call { callee:=.builtin .copy,args:=#[x,y],argTypes:=#[t,t2] },ty,pos,af,g⟩ ⟨ps++qs,[(n,.ob (.val v) (ZC e sz R l))],.pv .any,[(n,.ob (.val v) (ZC e sz R (s++l.drop s.length)))]⟩:=fun act w F K Q hw hp hr ht=>by
 obtain ⟨xs,r1,r2,r3⟩:=id (hr (n,.ob (.val v) (ZC e sz R l)) (by simp))
 obtain ⟨ad,cap,ev,_,_,_⟩:=ZM r1
 simp only [Anc.v] at ev
 by_cases hs0:s = []
 ·subst hs0
  obtain ⟨sa,sc,es,_,_,_⟩:=hy act w (U F) hp.right
  have ex:act.eval x = .slice ad l.length cap:=by rw [(hx act w (U F) hp.left).1,ev]
  have hrun:(execOp act.eval ⟨some d',.call { callee:=.builtin .copy,args:=#[x,y],argTypes:=#[t,t2] },ty,pos,af,g⟩).run P w = .ok (.value (goInt 0)) w:=by
   cases ad <;> cases sa <;> simp [execOp,resolve,invoke,builtin,ex,es,Builtin.copy_,Yo hu,Builtin.lenOf,Builtin.firstCells,Go.Gm.run_sizeOf hs,goInt,storeCells,loadCells,loadCellsFrom]
  simp only [Oper.wp,hrun,Oper.upon]
  refine ht _ _ F hw ⟨rfl,rfl,rfl,YO _,fun _ _ _=>rfl,fun _ _=>rfl,fun n hn b hb=>.inl ⟨n,hn,hb⟩⟩ trivial ?_
  intro z' hz'
  simp only [Yi] at hz'
  subst hz'
  exact hr (n,.ob (.val v) (ZC e sz R l)) (by simp)
 ·have hsl0:0<s.length:=Yaf.2 hs0
  have hv:ZiG sz 0 v=v:=by
   rcases r1.2 with ⟨_,hn0⟩ | ⟨b,cap,cur,ev,_⟩
   ·omega
   ·simp only [Anc.v] at ev
    rw [ev];simp [ZiG]
  have h:=o_copy_sub (P:=P) (t2:=t2) (ty:=ty) (pos:=pos) (af:=af) (g:=g) (s:=s) (l:=l) (v:=v) (k:=0) (d':=d') n hu hs hR (by rw [hv];exact hx) hy hs0 ow
  rw [List.take_zero,Yai,Y7] at h
  exact h act w F K Q hw hp hr ht
end
theorem ZlD (x m:Nat) (hx:x<18446744073709551616) (hm:m<18446744073709551616):bits .and .u64 (x:Int) (m:Int)=((x &&& m:Nat):Int):=by
 have h1:(BitVec.ofInt 64 (x:Int)).toNat=x:=by rw [Ya9];omega
 have h2:(BitVec.ofInt 64 (m:Int)).toNat=m:=by rw [Ya9];omega
 show IntKind.wrap .u64 (((BitVec.ofInt 64 (x:Int) &&& BitVec.ofInt 64 (m:Int)).toNat:Nat):Int)=_
 rw [YbI,h1,h2]
 exact ZaR (by have:=Nat.and_lt_two_pow (n:=64) x (y:=m) ow;omega)
theorem Zr5 {n:Nat} (h:n≤65536):IntKind.wrap .i64 ((n:Int)*2 ^ min (1:Int).toNat (IntKind.bits .i64))=((2*n:Nat):Int):=by
 have:min (1:Int).toNat (IntKind.bits .i64)=1:=by decide
 rw [this,Zz ow];omega
def growN (n:Nat):Nat:=if n=0 then 1 else 2*n
theorem ZgQ {n:Nat} (h:n≤65536):(if (1:Int)<IntKind.wrap .i64 ((n:Int)*2 ^ min (1:Int).toNat (IntKind.bits .i64)) then IntKind.wrap .i64 ((n:Int)*2 ^ min (1:Int).toNat (IntKind.bits .i64)) else 1)=((growN n:Nat):Int):=by
 rw [Zr5 h]
 unfold growN
 split <;> split <;> omega
theorem ZpR {n:Nat} (h:n≤65536) (hp:n=0 ∨ ∃ k,k≤17∧n=2 ^ k):∃ k,k≤17∧growN n=2 ^ k:=by
 unfold growN
 rcases hp with rfl | ⟨k,hk,rfl⟩
 ·exact ⟨0,by decide,rfl⟩
 ·have h0:2 ^ k≠0:=by simp
  rw [Yb h0]
  refine ⟨k+1,?_,by rw [Nat.pow_succ];omega⟩
  refine Y5 (Nat.lt_of_not_le fun h2=>?_)
  have:2 ^ 17≤2 ^ k:=Nat.pow_le_pow_right (by decide) ow
  omega
structure ZfZ (room:Int) (c:List Int) (f:Nat) (l:List Int):Prop where
 r0:0≤room
 r1:room≤65536
 fits:(l.length:Int)≤room
 le:l.length≤c.length
 pow:(c.length=0∧f=0)∨(f<c.length ∧ ∃ k,k≤17∧c.length=2 ^ k)
 cells:∀ j,j<l.length→Nn c ((f+j) % c.length)=Nn l j
theorem ZrI {n f j k:Nat} (h1:j<k) (h2:k<n):(f+j) % n≠(f+k) % n:=by
 intro e
 have h:=Nat.sub_mod_eq_zero_of_mod_eq e.symm
 rw [show f+k - (f+j)=k - j by omega,Nat.mod_eq_of_lt ow] at h
 omega
theorem ZfZ.new {n:Int} (h:0≤n∧n≤65536):ZfZ n [] 0 []:=⟨h.1,h.2,h.1,YO _,.inl ⟨rfl,rfl⟩,fun j hj=>absurd hj (Y3 j)⟩
theorem Zpp {l:List Int} {x:Int} {j:Nat} : Nn (l ++ [x]) j=if j<l.length then Nn l j else if j=l.length then x else default:=by
 by_cases h:j<l.length
 ·rw [Ye h,nth_eq (by simp;omega),nth_eq h,List.getElem_append_left h]
 ·rw [Yb h]
  by_cases e:j=l.length
  ·subst e;rw [Ye rfl,nth_eq (by simp)];simp
  ·rw [Yb e];unfold Nn;simp [Yaw,show l.length+1≤j by omega]
theorem ZfZ.put {room:Int} {c:List Int} {f:Nat} {l:List Int} {x:Int} (h:ZfZ room c f l) (hl:(l.length:Int)<room) (hc:l.length<c.length):ZfZ room (c.set ((f+l.length) % c.length) x) f (l ++ [x]):=by
 obtain ⟨h0,h1,h2,h3,h4,h5⟩:=h
 have hm:∀ j,(f+j) % c.length<c.length:=fun j=>YbC _ ow
 refine ⟨h0,h1,by simp;omega,by simp;omega,?_,fun j hj=>?_⟩
 ·rcases h4 with h4 | ⟨h4,k,h6,h7⟩
  ·omega
  ·exact .inr ⟨by simpa using h4,k,h6,by simpa using h7⟩
 ·rw [Yc,Yav] at hj
  rw [YU,Zck (hm _),Zpp]
  by_cases e:j=l.length
  ·subst e;rw [Ye rfl,Yb (Nat.lt_irrefl _),Ye rfl]
  ·rw [Yb fun k=>ZrI (show j<l.length by omega) hc k,Ye ow]
   exact h5 j ow
theorem ZfZ.tail {room:Int} {c:List Int} {f:Nat} {x:Int} {l:List Int} (h:ZfZ room c f (x :: l)):ZfZ room c ((f+1) % c.length) l:=by
 obtain ⟨h0,h1,h2,h3,h4,h5⟩:=h
 rw [Yk] at h2 h3 h5
 have hc:0<c.length:=by omega
 have e:∀ j,j<l.length→Nn (x :: l) (j+1)=Nn l j:=fun j hj=>by rw [nth_eq (by simpa using hj),nth_eq hj];rfl
 refine ⟨h0,h1,by omega,by omega,?_,fun j hj=>?_⟩
 ·rcases h4 with h4 | ⟨h4,k⟩
  ·omega
  ·exact .inr ⟨YbC _ hc,k⟩
 ·rw [Nat.mod_add_mod,← e j hj,← h5 (j+1) ow]
  congr 2;omega
theorem ZfZ.first {room:Int} {c:List Int} {f:Nat} {x:Int} {l:List Int} (h:ZfZ room c f (x :: l)):Nn c ((f+0) % c.length)=x:=by
 rw [h.cells 0 (by simp),nth_eq (by simp)];rfl
theorem ZfZ.grow {room:Int} {l d:List Int} (h0:0≤room) (h1:room≤65536) (h2:(l.length:Int)≤room) (h3:l.length≤d.length) (ht:d.take l.length=l) (hp:∃ k,k≤17∧d.length=2 ^ k):ZfZ room d 0 l:=by
 have hd:0<d.length:=by obtain ⟨k,_,e⟩:=hp;rw [e];exact Nat.pos_of_ne_zero (by simp)
 refine ⟨h0,h1,h2,h3,.inr ⟨hd,hp⟩,fun j hj=>?_⟩
 rw [Y7,Nat.mod_eq_of_lt ow]
 have e:(d.take l.length)[j]? = l[j]?:=by rw [ht]
 rw [Ybo hj,Yao hj] at e
 obtain ⟨h2,e2⟩:=YK.1 e
 rw [nth_eq h2,nth_eq hj,e2]
theorem ZfZ.ring {room:Int} {c:List Int} {f:Nat} {l:List Int} (h:ZfZ room c f l) (hc:0<c.length):(∃ k,k≤17∧c.length=2 ^ k)∧f<c.length:=by
 rcases h.pow with ⟨h1,_⟩ | ⟨h1,h2⟩
 ·omega
 ·exact ⟨h2,h1⟩
theorem ZfZ.pow0 {room:Int} {c:List Int} {f:Nat} {l:List Int} (h:ZfZ room c f l):c.length=0 ∨ ∃ k,k≤17∧c.length=2 ^ k:=by
 rcases h.pow with ⟨h1,_⟩ | ⟨_,h2⟩
 ·exact .inl h1
 ·exact .inr h2
def Zuf (v rv:Value) (room:Int) (n f:Nat) (c:List Int):List RS:=[.pt (.val v) 303 [.pv (.int .i64 room),.pv (.is rv),.pv (.int .u64 (f:Int)),.pv (.int .i64 (n:Int))],.ob (.val rv) (ZC 3 1 Zn c)]
def rqH (v:Value) (room:Int) (l:List Int):HP:=.ex fun rv:Value=>.ex fun c:List Int=>.ex fun f:Nat=>.and (ZfZ room c f l) (.star (Zuf v rv room l.length f c))
theorem ZnV {v:Value} {room:Int} {l:List Int} {w:World} {f y:Ys} (h:(rqH v room l).p w f y):∃ b,v = .pointer (some ⟨b,0,none⟩):=by
 obtain ⟨rv,c,f,_,g⟩:=h
 exact HP.star_pt g
theorem ZsF {f i n:Nat} {z:Int} (hz:z=i) (hp:∃ k,k≤17∧n=2 ^ k) (hf:f<n) (hi:i≤n):bits .and .u64 (IntKind.wrap .u64 ((f:Int)+IntKind.wrap .u64 z)) (IntKind.wrap .u64 (IntKind.wrap .i64 ((n:Int) - 1)))=(((f+i) % n:Nat):Int):=by
 subst hz
 obtain ⟨k,hk,rfl⟩:=hp
 have h17:2 ^ k≤2 ^ 17:=Nat.pow_le_pow_right (by decide) hk
 have h0:0<2 ^ k:=Nat.pos_of_ne_zero (by simp)
 have e1:IntKind.wrap .u64 ((f:Int)+IntKind.wrap .u64 (i:Int))=((f+i:Nat):Int):=by rw [ZaR (x:=(i:Int)) ow,ZaR ow];omega
 have e2:IntKind.wrap .u64 (IntKind.wrap .i64 (((2 ^ k:Nat):Int) - 1))=((2 ^ k - 1:Nat):Int):=by rw [Zz ow,ZaR ow];omega
 rw [e1,e2,ZlD _ _ ow ow,Nat.and_two_pow_sub_one_eq_mod]
theorem Zcx (c:List Int) (room:Int) (n f i:Nat) (z:Int) (hz:z=i) (hp:∃ k,k≤17∧c.length=2 ^ k) (hf:f<c.length) (hi:i≤c.length):FnP prog 230 [.ref [.int .i64 room,.sl Zn c,.int .u64 (f:Int),.int .i64 (n:Int)],.int .i64 z] (.int .u64 (((f+i) % c.length:Nat):Int)):=by
 refine FnP.mk func230 rfl ntmps230 rfl fun B a w F Z hfr G=>Ya ?_
 refine rZ G (qI qZ) Z [4,1,0] [0] fun G=>Ya ?_
 refine ZB G (qR rr (qf (ZT .t) r1 qz (qf (oG 2 .t) r1 qz (qf (oR false 1 .t) r1 qz (qR rr (qf (Zat Yb8 kr .t) r1 qz (qf (o_add .t .t) r2 qz (qR rr (qf (ZT .t) r1 qz (qf (oG 1 .t) r1 qz (qf (oR false 1 .t) r1 qz (qu Yb0 r1 (qf (o_sub .t qi) r1 qz (qf (Zat Yb8 kr .t) r1 qz (qf (Zdk .t .t) r2 qz (qO rr qZ)))))))))))))))) Z [4] [0] rfl rfl fun a w F G=>?_
 try dsimp only [List.map,xD,xE,xT,xU,ldSF,Zn] at G
 refine Za (Yh (Zv hfr G rfl rfl rfl (.int (ZsF hz hp hf hi))))
theorem Zi7 (room n:Int) (p q:PV):FnP prog 248 [.ref [.int .i64 room,p,q,.int .i64 n]] (.int .i64 n):=by
 refine FnP.mk func248 rfl ntmps248 rfl fun B a w F Z hfr G=>Ya ?_
 refine rZ G (qI qZ) Z [2,0] [0] fun G=>(Ya (Ya ?_))
 refine rZ G (qR rr (qf (ZfK underlying283 .t) r1 qz qZ)) Z [4,2,0] [0] fun G=>?_
 refine Zc G rfl (fun hc0=>?_) (fun hc0=>?_)
 ·simp at hc0
 refine Yf (Za (Ya (rZ G (qR rr (qf (ZT .t) r1 qz (qf (oG 3 .t) r1 qz (qf (oR false 1 .t) r1 qz (qO rr qZ))))) Z [2] [0] fun G=>Yh ?_)))
 refine Zv hfr G rfl rfl rfl .refl
theorem ZoW (room n:Int) (p q:PV) (hr:0≤room∧room≤65536) (hn:0≤n∧n≤65536):FnP prog 228 [.ref [.int .i64 room,p,q,.int .i64 n]] (.int .i64 (room - n)):=by
 refine FnP.mk func228 rfl ntmps228 rfl fun B a w F Z hfr G=>Ya ?_
 refine rZ G (qI qZ) Z [2,0] [0] fun G=>(Ya (Ya ?_))
 refine rZ G (qR rr (qf (ZfK underlying283 .t) r1 qz qZ)) Z [4,2,0] [0] fun G=>?_
 refine Zc G rfl (fun hc0=>?_) (fun hc0=>?_)
 ·simp at hc0
 refine Yf (Za (Ya (ZB G (qR rr (qf (ZT .t) r1 qz (qf (oG 0 .t) r1 qz (qf (oR false 1 .t) r1 qz (qR rr (qf (ZT .t) r1 qz (qf (oG 3 .t) r1 qz (qf (oR false 1 .t) r1 qz (qf (o_sub .t .t) r2 qz (qO rr qZ)))))))))) Z [2] [0] rfl rfl fun a w F G=>?_)))
 try dsimp only [List.map,xD,xE,xT,xU,ldSF,Zn] at G
 refine Za (Yh (Zv hfr G rfl rfl rfl (.int (Zz ow))))
theorem ZqF (b:Nat) (room:Int) (l:List Int):FnG prog 229 1 [.is (.pointer (some ⟨b,0,none⟩))] [rqH (.pointer (some ⟨b,0,none⟩)) room l] (.sl Zn l) (fun _=>[rqH (.pointer (some ⟨b,0,none⟩)) room l]):=by
 refine FnG.mk func229 rfl ntmps229 rfl kr fun B F0 a w F Z hG G=>?_
 obtain ⟨rv,G⟩:=G.open_ex 1 rfl
 obtain ⟨c,G⟩:=G.open_ex 1 rfl
 obtain ⟨f,G⟩:=G.open_ex 1 rfl
 obtain ⟨hI,G⟩:=G.open_and 1 rfl
 obtain ⟨F,G⟩:=G.peel 1 2 rfl rfl
 obtain ⟨F,G⟩:=G.peel 1 3 rfl rfl
 have hle:=hI.le
 have hfit:=hI.fits
 have hr0:=hI.r0
 have hr1:=hI.r1
 obtain ⟨F,G⟩:=G.nM [0] [3,2,0]
 refine Ya (rZ G (qC qZ) Z [2,0] [3,2,0] fun G=>Ya ?_)
 refine rZ G (qC qZ) Z [3,2,0] [3,2,0] fun G=>(Ya (Ya ?_))
 refine rZ G (qR rr (qf (ZjR (cells:=[.pv _,.pv _,.pv _,.pv _]) 2 (Zi7 room l.length _ _) (fun _ _ _ _ _ h=>h) rfl func248 rfl kr (Zaq.one .is)) r1 r1 (qJ qZ))) Z [7,6,3,2,0] [3,2,0] fun G=>Yg ?_
 replace G:=G.fresh 50 rfl
 replace G:=G.turn 50 rfl (Zas (T:=3) (sz:=1) (R:=Zn))
 refine Zm (σ:=(Nat)×(Value)×(List Int)) [0,2,6] [0,2,3] (fun s=>[(7,.pv (.int .i64 (s.1:Int))),(3,.pv (.is s.2.1))]) (fun s=>[(50,.ob (.val s.2.1) (ZC 3 1 Zn s.2.2))]) (fun s=>s.1≤l.length∧(s.2.2=l.take s.1)) (fun s=>l.length - s.1) ((0),(.slice none 0 0),([])) G ⟨rfl,rfl,rfl,rfl,rfl,tv⟩ ⟨rfl,rfl,rfl,rfl,tv⟩ ⟨Yx _,rfl⟩ ?_
 clear G;intro s a w F hC G
 obtain ⟨i,v,out⟩:=s
 try dsimp only at hC
 obtain ⟨F,G⟩:=G.nM [7,6,3,2,0] [50,3,2,0]
 try dsimp only at G
 obtain ⟨hi,hq⟩:=hC
 have hol:out.length≤i:=by rw [hq,Yj];omega
 refine Ya (rZ G (qL r2) Z [8,7,6,3,2,0] [50,3,2,0] fun G=>Ya ?_)
 refine Zc G rfl (fun hc0=>?_) (fun hc0=>?_)
 ·have hil:i<l.length:=by simp at hc0;omega
  have hil2:i<l.length:=by simp at hc0;omega
  have hmi:(f+i) % c.length<c.length:=YbC _ ow
  have hnl:Nn c ((f+i) % c.length)=Nn l i:=hI.cells i hil2
  refine Yf (Za (Ya (Yg (Ya (rZ G (qR rr (qO rr qZ)) Z [7,6,4,3,2,0] [50,3,2,0] fun G=>?_)))))
  refine Zba G (qR rr (qR rr (qf (Zt 2 .is (by rfl)) r1 r1 (qf (oF 1 2 .adr) r1 r1 (qa 2 r1 r1 (qR rr (qR rr (qf (ZdL (cells:=[.pv _,.pv (.is rv),.pv _,.pv _]) 2 3 1 (Zcx c room l.length f i (i:Int) rfl (hI.ring ow).1 (hI.ring ow).2 ow) (fun _ _ _ _ _ h=>h) rfl func230 rfl kr rfl rfl (Zaq.two .is .t)) r2 r2 (qf (o_indexAddr_row (sz:=1) 3 (.mk Yb0 kr) .is .t ow ow (by rfl)) r2 r1 (qf (ZD (ag:=false) (sz':=1) (sz:=1) 3 .t (by intro x;rfl) ow kr kr kr) r1 r1 (qf (o_buildSliceE (sz:=1) (zs:=[.int .i64 0]) (r:=[(0,.tmp 19)]) (l:=[_]) Yb0 kr kr kr kr rfl rfl (.one rfl .t one_int kr .nil) rfl) r1 qz (qf (o_append (sz:=1) (bs:=8) 50 (.mk' Yb0 kr kr) (by intro x;rfl) .is (.arr (l':=[_]) .t) (by simp only [Yk,Yv];omega) (by decide)) ⟨rfl,rfl,tv⟩ ⟨rfl,tv⟩ (qO rr qZ))))))))))))) Z [7,6,3,2,0] [50,3,2,0] (fun _=>rfl) (fun _=>rfl) fun τ a w F G=>?_
  try dsimp only [RS.sub,SF.sub,CF.sub,csub,Anc.sub,List.map,Ze,xL,xM,Nat.reduceAdd,xD,xE,xT,xU,xC,xN,zCF,ldSF,Zn] at G
  generalize τ 21=v21 at G
  try simp only [Yd] at G
  refine Zj (Za (rZ G (qp r1 (qR rr qZ)) Z [7,6,3,2,0] [50,3,2,0] fun G=>?_))
  replace G:=G.ent (i:=7) (s':=.pv (.int .i64 ((i+1:Nat):Int))) rfl (.int (Zd ow))
  obtain ⟨F,G⟩:=G.nM [6,2,0,3,7] [3,2,0,50]
  exact ⟨((i+1),_,_),F,⟨by omega,(by rw [hq,hnl,Zs hil])⟩,G,by omega⟩
 have hil:i=l.length:=by simp at hc0;omega
 refine Yz (Zh (Zh (Zr (Za (Ya (rZ G (qR rr (qO rr qZ)) Z [2] [50,3,2,0] fun G=>Yh ?_))))))
 obtain ⟨F,G⟩:=G.give 50 2 rfl rfl
 have G:=G.fresh 1 rfl
 obtain ⟨F,G⟩:=G.push 1 3 rfl rfl rfl kr
 obtain ⟨F,G⟩:=G.push 1 2 rfl rfl rfl kr
 have G:=G.turn 1 rfl (r':=RS.hp (rqH (.pointer (some ⟨b,0,none⟩)) room l)) (fun _ _ _ _ h=>⟨_,_,_,hI,h⟩)
 refine Zbb hG G rfl (.tmp rfl .nil) (.one (.sl (by rw [hq,hil,YD]))) rfl
theorem ZnK (n:Int):FnG prog 206 1 [.int .i64 n] [.star []] (PV.ptr) (fun v=>[rqH v (ZcN n) []]):=by
 refine FnG.mk func206 rfl ntmps206 rfl kr fun B F0 a w F Z hG G=>Ya ?_
 refine rZ G (qC qZ) Z [2,0] [1,0] fun G=>Ya ?_
 refine Zb G (qR rr (qf (oP (Zo3 n) func199 (Args.one .t)) r1 qz (qf (oB [(0,.tmp 4)] [.int .i64 0,.slice none 0 0,.int .u64 0,.int .i64 0] [(0,1),(1,1),(2,1),(3,1)] (.one rfl .t one_int kr .nil)) r1 qz (qf (oX 101 .t) r1 qz (qO rr qZ))))) Z [2] [101,1,0] (fun _=>rfl) (fun _=>rfl) fun τ a w F G=>?_
 try dsimp only [RS.sub,SF.sub,CF.sub,csub,Anc.sub,List.map,Ze,xL,xM,Nat.reduceAdd,xD,xE,xT,xU,xC,xN,zCF,Zn] at G
 generalize τ 6=v6 at G
 refine Za (Yh ?_)
 obtain ⟨b,rfl⟩:=G.shape 101 rfl
 have G:=G.fresh 3 rfl
 have G:=G.turn 3 rfl (Zas (T:=3) (sz:=1) (R:=Zn))
 obtain ⟨F,G⟩:=G.push 1 3 rfl rfl rfl kr
 obtain ⟨F,G⟩:=G.push 1 101 rfl rfl rfl kr
 have G:=G.turn 1 rfl (r':=RS.hp (rqH (.pointer (some ⟨b,0,none⟩)) (ZcN n) [])) (fun _ _ _ _ h=>⟨_,[],0,ZfZ.new (ZnO n),h⟩)
 refine Zab (h':=fun v=>rqH v (ZcN n) []) hG G rfl (.tmp rfl .nil) (.one .ptr) rfl
theorem Znu (c:List Int) (room:Int) (f:Nat) (x:Int) (l:List Int) (hI:ZfZ room c f (x :: l)):FnP prog 231 [.ref [.int .i64 room,.sl Zn c,.int .u64 (f:Int),.int .i64 (((x :: l).length:Nat):Int)]] (.tup [.int .i64 x,.bool true]):=by
 refine FnP.mk func231 rfl ntmps231 rfl fun B a w F Z hfr G=>?_
 have hle:=hI.le
 rw [Yk] at hle
 have hmi:(f+0) % c.length<c.length:=YbC _ ow
 refine Ya (rZ G (qI qB) Z [3,2,0] [0] fun G=>(Ya (Ya ?_)))
 refine rZ G (qR rr (qf (oP (Zi7 room _ _ _) func248 (Args.one .t)) r1 qz (qf (o_eql .t qi) r1 qz qZ))) Z [6,3,2,0] [0] fun G=>?_
 refine Zc G rfl (fun hc0=>?_) (fun hc0=>?_)
 ·simp at hc0;try omega
 refine Yf (Za (Ya (ZB G (qR rr (qf (ZT .t) r1 qz (qf (oG 1 .t) r1 qz (qf (oR false 1 .t) r1 qz (qR rr (qf (oP (Zcx c room (x :: l).length f 0 0 rfl (hI.ring ow).1 (hI.ring ow).2 ow) func230 (Args.two .t qi)) r1 qz (qy 1 Yb0 r2 (qf (oR false 1 .t) r1 qz (qO rr qB))))))))) Z [3,2] [0] rfl rfl fun a w F G=>?_)))
 try dsimp only [List.map,xD,xE,xT,xU,ldSF,Zn] at G
 try simp only [Yd] at G
 try simp only [Yd] at G
 rw [hI.first] at G
 refine Za (Yh (Zae hfr G rfl (.tmp rfl (.tmp rfl .nil)) (.two .refl .refl)))
theorem Zlm (room:Int) (p q:PV):FnP prog 231 [.ref [.int .i64 room,p,q,.int .i64 0]] (.tup [.int .i64 0,.bool false]):=by
 refine FnP.mk func231 rfl ntmps231 rfl fun B a w F Z hfr G=>Ya ?_
 refine rZ G (qI qB) Z [3,2,0] [0] fun G=>(Ya (Ya ?_))
 refine rZ G (qR rr (qf (oP (Zi7 room _ _ _) func248 (Args.one .t)) r1 qz (qf (o_eql .t qi) r1 qz qZ))) Z [6,3,2,0] [0] fun G=>?_
 refine Zc G rfl (fun hc0=>?_) (fun hc0=>?_)
 ·refine Ya (rZ G (qI qB) Z [3,2,0] [0] fun G=>(Yh (Zl ?_)))
  refine Zae hfr G rfl (.tmp rfl (.tmp rfl .nil)) (.two .refl .refl)
 simp at hc0
theorem Zph (b:Nat) (room:Int) (x:Int) (l:List Int):FnG prog 208 1 [.is (.pointer (some ⟨b,0,none⟩))] [rqH (.pointer (some ⟨b,0,none⟩)) room (x :: l)] (.tup [.int .i64 x,.bool true]) (fun _=>[rqH (.pointer (some ⟨b,0,none⟩)) room l]):=by
 refine FnG.mk func208 rfl ntmps208 rfl kr fun B F0 a w F Z hG G=>?_
 obtain ⟨rv,G⟩:=G.open_ex 1 rfl
 obtain ⟨c,G⟩:=G.open_ex 1 rfl
 obtain ⟨f,G⟩:=G.open_ex 1 rfl
 obtain ⟨hI,G⟩:=G.open_and 1 rfl
 obtain ⟨F,G⟩:=G.peel 1 2 rfl rfl
 obtain ⟨F,G⟩:=G.peel 1 3 rfl rfl
 have hle:=hI.le
 have hfit:=hI.fits
 have hr0:=hI.r0
 have hr1:=hI.r1
 obtain ⟨F,G⟩:=G.nM [0] [3,2,0]
 rw [Yk] at hle hfit
 have hw1:IntKind.wrap .i64 ((((x :: l).length:Nat):Int) - 1)=((l.length:Nat):Int):=by rw [Yk,Zz ow];omega
 refine Ya (rZ G (qI qB) Z [3,2,0] [3,2,0] fun G=>Ya ?_)
 refine rZ G (qR rr (qf (ZdL (cells:=[.pv _,.pv (.is rv),.pv _,.pv _]) 2 3 1 (Znu c room f x l hI) ZkA rfl func231 rfl kr rfl rfl (Zaq.one .is)) r1 r2 (qR rr (qf (Zi .t rfl) r1 qz (qf (Zi .t rfl) r1 qz (qO rr (qO rr qZ))))))) Z [5,4,3,2,0] [3,2,0] fun G=>(Ya (Ya ?_))
 refine rZ G (qR rr qZ) Z [11,5,4,3,2,0] [3,2,0] fun G=>?_
 refine Zc G rfl (fun hc0=>?_) (fun hc0=>?_)
 ·refine Ya (rZ G (qR rr (qR rr (qf (ZdL (cells:=[.pv _,.pv (.is rv),.pv _,.pv _]) 2 3 1 (Zcx c room (x :: l).length f 1 1 rfl (hI.ring ow).1 (hI.ring ow).2 ow) (fun _ _ _ _ _ h=>h) rfl func230 rfl kr rfl rfl (Zaq.two .is qi)) r1 r2 (qf (Zt 2 .is (by rfl)) r1 r1 (qf (oF 2 2 .adr) r1 r1 (qf (ZaQ 2 .adr .t one_int kr kr) r2 r1 qZ)))))) Z [5,4,3,2,0] [3,2,0] fun G=>?_)
  refine Zg G (qR rr (qf (Zt 2 .is (by rfl)) r1 r1 (qf (oF 3 2 .adr) r1 r1 (qa 2 r1 r1 (qf (o_sub .t qi) r1 qz (qf (Zt 2 .is (by rfl)) r1 r1 (qf (oF 3 2 .adr) r1 r1 (qf (ZaQ 2 .adr .t one_int kr kr) r2 r1 qZ)))))))) Z [5,4,3,2] [3,2,0] rfl rfl fun a w F G=>?_
  rw [hw1] at G
  refine Za (Ya (rZ G (qR rr (qR rr (qO rr (qO rr qZ)))) Z [3,2] [3,2,0] fun G=>Yh ?_))
  have G:=G.fresh 1 rfl
  obtain ⟨F,G⟩:=G.push 1 3 rfl rfl rfl kr
  obtain ⟨F,G⟩:=G.push 1 2 rfl rfl rfl kr
  have G:=G.turn 1 rfl (r':=RS.hp (rqH (.pointer (some ⟨b,0,none⟩)) room l)) (fun _ _ _ _ h=>⟨_,_,_,hI.tail,h⟩)
  refine Zbb hG G rfl (.tmp rfl (.tmp rfl .nil)) (.two .refl .refl) rfl
 simp at hc0
theorem ZpT (b:Nat) (room:Int):FnG prog 208 1 [.is (.pointer (some ⟨b,0,none⟩))] [rqH (.pointer (some ⟨b,0,none⟩)) room []] (.tup [.int .i64 0,.bool false]) (fun _=>[rqH (.pointer (some ⟨b,0,none⟩)) room []]):=by
 refine FnG.mk func208 rfl ntmps208 rfl kr fun B F0 a w F Z hG G=>?_
 obtain ⟨rv,G⟩:=G.open_ex 1 rfl
 obtain ⟨c,G⟩:=G.open_ex 1 rfl
 obtain ⟨f,G⟩:=G.open_ex 1 rfl
 obtain ⟨hI,G⟩:=G.open_and 1 rfl
 obtain ⟨F,G⟩:=G.peel 1 2 rfl rfl
 obtain ⟨F,G⟩:=G.peel 1 3 rfl rfl
 have hle:=hI.le
 have hfit:=hI.fits
 have hr0:=hI.r0
 have hr1:=hI.r1
 obtain ⟨F,G⟩:=G.nM [0] [3,2,0]
 refine Ya (rZ G (qI qB) Z [3,2,0] [3,2,0] fun G=>Ya ?_)
 refine rZ G (qR rr (qf (ZjR (cells:=[.pv _,.pv _,.pv _,.pv _]) 2 (Zlm room _ _) ZkA rfl func231 rfl kr (Zaq.one .is)) r1 r1 (qR rr (qf (Zi .t rfl) r1 qz (qf (Zi .t rfl) r1 qz (qO rr (qO rr qZ))))))) Z [5,4,3,2,0] [3,2,0] fun G=>(Ya (Ya ?_))
 refine rZ G (qR rr qZ) Z [11,5,4,3,2,0] [3,2,0] fun G=>?_
 refine Zc G rfl (fun hc0=>?_) (fun hc0=>?_)
 ·simp at hc0
 refine Yf (Za (Ya (rZ G (qR rr (qR rr (qO rr (qO rr qZ)))) Z [3,2] [3,2,0] fun G=>Yh ?_)))
 have G:=G.fresh 1 rfl
 obtain ⟨F,G⟩:=G.push 1 3 rfl rfl rfl kr
 obtain ⟨F,G⟩:=G.push 1 2 rfl rfl rfl kr
 have G:=G.turn 1 rfl (r':=RS.hp (rqH (.pointer (some ⟨b,0,none⟩)) room [])) (fun _ _ _ _ h=>⟨_,_,_,hI,h⟩)
 refine Zbb hG G rfl (.tmp rfl (.tmp rfl .nil)) (.two .refl .refl) rfl
theorem ZgT (b:Nat) (room:Int) (l:List Int):FnG prog 208 1 [.is (.pointer (some ⟨b,0,none⟩))] [rqH (.pointer (some ⟨b,0,none⟩)) room l] (.tup [.int .i64 (l.headD 0),.bool (decide (l≠[]))]) (fun _=>[rqH (.pointer (some ⟨b,0,none⟩)) room l.tail]):=by
 cases l with
 | nil=>exact ZpT b room
 | cons x l=>exact Zph b room x l
theorem Zcd (b:Nat) (room:Int) (l:List Int) (x:Int) (hrm:(l.length:Int)<room):FnG prog 207 1 [.is (.pointer (some ⟨b,0,none⟩)),.int .i64 x] [rqH (.pointer (some ⟨b,0,none⟩)) room l] (.int .i64 0) (fun _=>[rqH (.pointer (some ⟨b,0,none⟩)) room (l ++ [x])]):=by
 refine FnG.mk func207 rfl ntmps207 rfl kr fun B F0 a w F Z hG G=>?_
 obtain ⟨rv,G⟩:=G.open_ex 1 rfl
 obtain ⟨c,G⟩:=G.open_ex 1 rfl
 obtain ⟨f,G⟩:=G.open_ex 1 rfl
 obtain ⟨hI,G⟩:=G.open_and 1 rfl
 obtain ⟨F,G⟩:=G.peel 1 2 rfl rfl
 obtain ⟨F,G⟩:=G.peel 1 3 rfl rfl
 have hle:=hI.le
 have hfit:=hI.fits
 have hr0:=hI.r0
 have hr1:=hI.r1
 obtain ⟨F,G⟩:=G.nM [1,0] [3,2,0]
 refine Ya (rZ G (qI qZ) Z [4,1,0] [3,2,0] fun G=>(Ya (Ya ?_)))
 refine rZ G (qR rr (qf (ZjR (cells:=[.pv _,.pv _,.pv _,.pv _]) 2 (ZoW room l.length _ _ ⟨hr0,hr1⟩ ow) (fun _ _ _ _ _ h=>h) rfl func228 rfl kr (Zaq.one .is)) r1 r1 (qf (o_eql .t qi) r1 qz qZ))) Z [8,4,1,0] [3,2,0] fun G=>?_
 refine Zc G rfl (fun hc0=>?_) (fun hc0=>?_)
 ·simp at hc0;omega
 refine Yf (Za (Ya (Ya (ZB G (qR rr (qf (Zt 2 .is (by rfl)) r1 r1 (qf (oF 3 2 .adr) r1 r1 (qa 2 r1 r1 (qR rr (qf (Zt 2 .is (by rfl)) r1 r1 (qf (oF 1 2 .adr) r1 r1 (qa 2 r1 r1 (qf (Zav 3 Yb0 .is) r1 r1 (qf (o_eql .t .t) r2 qz qZ)))))))))) Z [18,4,1,0] [3,2,0] rfl rfl fun a w F G=>?_))))
 try dsimp only [List.map,xD,xE,xT,xU,ldSF,Zn] at G
 refine Za (Zc G rfl (fun hc1=>?_) (fun hc1=>?_))
 ·have hcl:l.length=c.length:=by simp at hc1;omega
  have hp2:=ZpR (n:=c.length) ow hI.pow0
  rw [← hcl] at hp2
  clear hcl
  have hgl:l.length<growN l.length:=by unfold growN;split <;> omega
  refine Ya ?_
  have G:=G.fresh 1 rfl
  obtain ⟨F,G⟩:=G.push 1 3 rfl rfl rfl kr
  obtain ⟨F,G⟩:=G.push 1 2 rfl rfl rfl kr
  have G:=G.turn 1 rfl (r':=RS.hp (rqH (.pointer (some ⟨b,0,none⟩)) room l)) (fun _ _ _ _ h=>⟨_,_,_,hI,h⟩)
  obtain ⟨F,G⟩:=G.nM [18,4,1,0] [1,0]
  refine Zg G (qR rr (qf (Z0 1 (ZqF b room l) func229 rfl kr (Args.one .t)) r1 r1 (qO rr qZ))) Z [5,4,1,0] [1,0] rfl rfl fun a w F G=>?_
  obtain ⟨rv,G⟩:=G.open_ex 1 rfl
  obtain ⟨c,G⟩:=G.open_ex 1 rfl
  obtain ⟨f,G⟩:=G.open_ex 1 rfl
  obtain ⟨hI,G⟩:=G.open_and 1 rfl
  obtain ⟨F,G⟩:=G.peel 1 2 rfl rfl
  obtain ⟨F,G⟩:=G.peel 1 3 rfl rfl
  obtain ⟨F,G⟩:=G.nM [5,4,1,0] [3,2,0]
  refine Za (Ya (Zb G (qR rr (qR rr (qR rr (qf (Zt 2 .is (by rfl)) r1 r1 (qf (oF 3 2 .adr) r1 r1 (qa 2 r1 r1 (qf (ZgZ .t qi (by decide)) r1 qz (qf (Zp9 qi .t) r1 qz (qf (Zcl (R:=Zn) (v:=0) (c:=_) (sz:=1) (bs:=8) (zs:=[.int .i64 0]) 101 Yb0 kr kr kr (fun _ _=>⟨⟨rfl,rfl,Zdj⟩,tv⟩) .t .t (by rw [ZgQ ow];omega) (by rw [ZgQ ow];unfold growN;split <;> omega) (by rw [ZgQ ow];unfold growN;split <;> omega)) r2 qz (qf (Zt 2 .is (by rfl)) r1 r1 (qf (oF 1 2 .adr) r1 r1 (qf (ZaL 2 .adr kr kr) r2 r1 (qf (Zt 2 .is (by rfl)) r1 r1 (qf (oF 2 2 .adr) r1 r1 (qf (ZaQ 2 .adr qi one_int kr kr) r1 r1 qZ))))))))))))))) Z [5,4,1,0] [101,3,2,0] (fun _=>rfl) (fun _=>rfl) fun τ a w F G=>?_))
  try dsimp only [RS.sub,SF.sub,CF.sub,csub,Anc.sub,List.map,Ze,xL,xM,Nat.reduceAdd,xD,xE,xT,xU,xC,xN,zCF,ldSF,Zn] at G
  generalize τ 29=v29 at G
  rw [ZgQ ow,Yd] at G
  refine Za (Zg G (qR rr (qf (Zt 2 .is (by rfl)) r1 r1 (qf (oF 1 2 .adr) r1 r1 (qa 2 r1 r1 (qR rr (qf (Zlc 101 Yb0 kr (by intro x;rfl) .t .t (by rw [YY];unfold growN;split <;> omega)) r2 r1 qZ)))))) Z [4,1,0] [101,3,2,0] rfl rfl fun a w F G=>?_)
  obtain ⟨c2,hce⟩:∃ c2,c2=l++(List.replicate (growN l.length) (0:Int)).drop l.length:=⟨_,rfl⟩
  rw [← hce] at G
  have hcl2:c2.length=growN l.length:=by rw [hce,Yc,YL,YY];omega
  have hc2:l.length<c2.length:=by rw [hcl2];exact hgl
  have ht2:c2.take l.length=l:=by rw [hce,List.take_left]
  rw [← hcl2] at hp2
  have hR:ZfZ room c2 0 l:=ZfZ.grow hr0 hr1 hfit (Nat.le_of_lt hc2) ht2 hp2
  have hP:=hR.put (x:=x) hrm hc2
  have hmi:(0+l.length) % c2.length<c2.length:=YbC _ ow
  refine Za (Ya (ZB G (qR rr (qf (Zt 2 .is (by rfl)) r1 r1 (qf (oF 1 2 .adr) r1 r1 (qa 2 r1 r1 (qR rr (qR rr (qf (Zt 2 .is (by rfl)) r1 r1 (qf (oF 3 2 .adr) r1 r1 (qa 2 r1 r1 (qf (ZdL (cells:=[.pv _,.pv (.is v29),.pv _,.pv _]) 2 101 1 (Zcx c2 room l.length 0 l.length (l.length:Int) rfl hp2 ow ow) (fun _ _ _ _ _ h=>h) rfl func230 rfl kr rfl rfl (Zaq.two .is .t)) r2 r2 (qR rr (qf (o_indexAddr_row (sz:=1) 101 (.mk Yb0 kr) .is .t ow ow (by rfl)) r2 r1 (qf (ZW (R:=Zn) (sz:=1) (v:=x) 101 .t (by intro x;rfl) ow .t rfl one_int kr) r2 r1 qZ))))))))))))) Z [4,0] [101,3,2,0] rfl rfl fun a w F G=>?_))
  try dsimp only [List.map,Ze,xL,xM,Nat.reduceAdd,xD,xE,xT,xU,xC,xN,zCF,ldSF,Zn] at G
  try simp only [Yd] at G
  try rw [Yd] at G
  refine Za (Ya (rZ G (qR rr (qf (Zt 2 .is (by rfl)) r1 r1 (qf (oF 3 2 .adr) r1 r1 (qa 2 r1 r1 (qp r1 (qf (Zt 2 .is (by rfl)) r1 r1 (qf (oF 3 2 .adr) r1 r1 (qf (ZaQ 2 .adr .t one_int kr kr) r2 r1 qZ)))))))) Z [4] [101,3,2,0] fun G=>Ya ?_))
  refine rZ G (qI qZ) Z [4] [101,3,2,0] fun G=>Yh ?_
  rw [Zd ow] at G
  have G:=G.fresh 1 rfl
  obtain ⟨F,G⟩:=G.push 1 101 rfl rfl rfl kr
  obtain ⟨F,G⟩:=G.push 1 2 rfl rfl rfl kr
  have G:=G.turn 1 rfl (r':=RS.hp (rqH (.pointer (some ⟨b,0,none⟩)) room (l ++ [x]))) (fun _ _ _ _ h=>⟨_,_,0,hP,(by rw [Yc];exact h)⟩)
  refine Zbb hG G rfl (.tmp rfl .nil) (.one .refl) rfl
 have hc2:l.length<c.length:=by simp at hc1;omega
 obtain ⟨c2,hce⟩:∃ c2,c2=c:=⟨_,rfl⟩
 rw [← hce] at G hc2
 have hR:ZfZ room c2 f l:=by rw [hce];exact hI
 obtain ⟨hp2,hf2⟩:=hR.ring ow
 have hP:=hR.put (x:=x) hrm hc2
 have hmi:(f+l.length) % c2.length<c2.length:=YbC _ ow
 refine Yf (Za (Ya (ZB G (qR rr (qf (Zt 2 .is (by rfl)) r1 r1 (qf (oF 1 2 .adr) r1 r1 (qa 2 r1 r1 (qR rr (qR rr (qf (Zt 2 .is (by rfl)) r1 r1 (qf (oF 3 2 .adr) r1 r1 (qa 2 r1 r1 (qf (ZdL (cells:=[.pv _,.pv (.is rv),.pv _,.pv _]) 2 3 1 (Zcx c2 room l.length f l.length (l.length:Int) rfl hp2 ow ow) (fun _ _ _ _ _ h=>h) rfl func230 rfl kr rfl rfl (Zaq.two .is .t)) r2 r2 (qR rr (qf (o_indexAddr_row (sz:=1) 3 (.mk Yb0 kr) .is .t ow ow (by rfl)) r2 r1 (qf (ZW (R:=Zn) (sz:=1) (v:=x) 3 .t (by intro x;rfl) ow .t rfl one_int kr) r2 r1 qZ))))))))))))) Z [4,0] [3,2,0] rfl rfl fun a w F G=>?_)))
 try dsimp only [List.map,Ze,xL,xM,Nat.reduceAdd,xD,xE,xT,xU,xC,xN,zCF,ldSF,Zn] at G
 try simp only [Yd] at G
 try rw [Yd] at G
 refine Za (Ya (rZ G (qR rr (qf (Zt 2 .is (by rfl)) r1 r1 (qf (oF 3 2 .adr) r1 r1 (qa 2 r1 r1 (qp r1 (qf (Zt 2 .is (by rfl)) r1 r1 (qf (oF 3 2 .adr) r1 r1 (qf (ZaQ 2 .adr .t one_int kr kr) r2 r1 qZ)))))))) Z [4] [3,2,0] fun G=>Ya ?_))
 refine rZ G (qI qZ) Z [4] [3,2,0] fun G=>Yh ?_
 rw [Zd ow] at G
 have G:=G.fresh 1 rfl
 obtain ⟨F,G⟩:=G.push 1 3 rfl rfl rfl kr
 obtain ⟨F,G⟩:=G.push 1 2 rfl rfl rfl kr
 have G:=G.turn 1 rfl (r':=RS.hp (rqH (.pointer (some ⟨b,0,none⟩)) room (l ++ [x]))) (fun _ _ _ _ h=>⟨_,_,f,hP,(by rw [Yc];exact h)⟩)
 refine Zbb hG G rfl (.tmp rfl .nil) (.one .refl) rfl
theorem Zcs.prev {n:Nat} {E:List Zw} {O I:List (List Z8)} (h:Zcs n E O I) (mask u:Int):Zdm (adjO I mask u) ∧ ∀ v,v ∈ adjO I mask u ↔ ∃ x ∈ E,x.dst=u∧ofB mask x.kind=true∧x.src=v:=by
 by_cases hu:0≤u∧u<I.length
 ·unfold adjO
  rw [Ye hu]
  refine ⟨(ZL _).1,fun v=>?_⟩
  rw [(ZL _).2,Yu]
  constructor
  ·rintro ⟨e,h1,h2⟩
   obtain ⟨h3,h4⟩:=YN.1 h1
   obtain ⟨x,x1,x2,rfl⟩:=(h.im u.toNat (by have:=h.il;omega) e).1 h3
   exact ⟨x,x1,by omega,h4,h2⟩
  ·rintro ⟨x,x1,x2,x3,x4⟩
   exact ⟨endI x,YN.2 ⟨(h.im u.toNat (by have:=h.il;omega) _).2 ⟨x,x1,by omega,rfl⟩,x3⟩,x4⟩
 ·unfold adjO
  rw [Yb hu]
  refine ⟨List.Pairwise.nil,fun v=>⟨fun k=>(by cases k),?_⟩⟩
  rintro ⟨x,x1,x2,_⟩
  have:=(ZZ.1 (h.ok x x1)).2.1
  have:=h.il
  exact absurd ⟨by omega,by omega⟩ hu
theorem Zcs.prevR {n:Nat} {E:List Zw} {O I:List (List Z8)} (h:Zcs n E O I) (mask:Int):(∀ x,∀ u ∈ adjO I mask x,0≤u∧u<(n:Int)) ∧ ∀ x,(adjO I mask x).length≤n:=by
 have h1:∀ x,∀ u ∈ adjO I mask x,0≤u∧u<(n:Int):=fun x u hu=>by
  obtain ⟨y,y1,_,_,y4⟩:=((h.prev mask x).2 u).1 hu
  have:=(ZZ.1 (h.ok y y1)).1
  omega
 exact ⟨h1,fun x=>ZjF ((h.prev mask x).1.imp fun h=>by omega) (h1 x)⟩
inductive ZeC (prev:Int→List Int) (least t:Int):Nat→Int→Prop
 | zero:ZeC prev least t 0 t
 | step {k:Nat} {u x:Int} (h:u ∈ prev x) (hl:least≤u) (r:ZeC prev least t k x):ZeC prev least t (k+1) u
def Zc3 (n:Nat) (prev:Int→List Int) (least t:Int) (d:List Int):Prop:=d.length=n ∧ ∀ u:Nat,u<n→(Nn d u = -1 ∧ ∀ k,¬ ZeC prev least t k u) ∨ ∃ k:Nat,Nn d u=k∧ZeC prev least t k u ∧ ∀ j,ZeC prev least t j u→k≤j
structure ZoA (n:Nat) (prev:Int→List Int) (least t:Int) (d q:List Int):Prop where
 len:d.length=n
 start:0≤t∧t<n∧fI d t=0
 neg:∀ u:Int,0≤u→u<n → -1≤fI d u
 qd:∀ x ∈ q,0≤x∧x<n∧0≤fI d x
 nd:q.Nodup
 sound:∀ u:Int,0≤u→u<n→0≤fI d u→ZeC prev least t (fI d u).toNat u
 sort:q.Pairwise fun a b=>fI d a≤fI d b
 near:∀ x,q.head? = some x→(∀ y ∈ q,fI d y≤fI d x+1) ∧ ∀ u:Int,0≤u→u<n→u ∉ q→fI d u≤fI d x
 clos:∀ x:Int,0≤x→x<n→0≤fI d x→x ∉ q → ∀ u ∈ prev x,least≤u→0≤fI d u∧fI d u≤fI d x+1
structure Zme (n:Nat) (prev:Int→List Int) (least t:Int) (d q:List Int) (x:Int) (done:List Int):Prop where
 len:d.length=n
 start:0≤t∧t<n∧fI d t=0
 neg:∀ u:Int,0≤u→u<n → -1≤fI d u
 qd:∀ x ∈ q,0≤x∧x<n∧0≤fI d x
 nd:q.Nodup
 sound:∀ u:Int,0≤u→u<n→0≤fI d u→ZeC prev least t (fI d u).toNat u
 sort:q.Pairwise fun a b=>fI d a≤fI d b
 here:0≤x∧x<n∧0≤fI d x∧x ∉ q
 near:(∀ y ∈ q,fI d x≤fI d y∧fI d y≤fI d x+1) ∧ ∀ u:Int,0≤u→u<n→u ∉ q→fI d u≤fI d x
 clos:∀ z:Int,0≤z→z<n→z≠x→0≤fI d z→z ∉ q → ∀ u ∈ prev z,least≤u→0≤fI d u∧fI d u≤fI d z+1
 seen:∀ u ∈ done,least≤u→0≤fI d u∧fI d u≤fI d x+1
section
variable {n:Nat} {prev:Int→List Int} {least t:Int} {d q:List Int} {x:Int} {seen:List Int}
theorem ZoA.first (ht:0≤t∧t<n):ZoA n prev least t ((List.replicate n (-1)).set t.toNat 0) [t]:=by
 have e:fI ((List.replicate n (-1)).set t.toNat 0)=Zi2 (fI (List.replicate n (-1))) t 0:=Zdw (by simpa using ht)
 have e2:∀ u:Int,0≤u→u<n→fI (List.replicate n (-1)) u = -1:=fun u h1 h2=>by
  rw [Zcr h1,nth_eq (by simp;omega)];simp
 have e3:∀ u:Int,0≤u→u<n→u≠t→fI ((List.replicate n (-1)).set t.toNat 0) u = -1:=fun u h1 h2 h3=>by rw [e,ZaS h3];exact e2 u h1 h2
 have e4:fI ((List.replicate n (-1)).set t.toNat 0) t=0:=by rw [e,Z9]
 refine ⟨by simp,⟨ht.1,ht.2,e4⟩,fun u h1 h2=>?_,fun z hz=>?_,by simp,fun u h1 h2 h3=>?_,by simp,fun z hz=>?_,fun z h1 h2 h3 h4=>?_⟩
 ·by_cases h:u=t
  ·rw [h,e4];omega
  ·rw [e3 u h1 h2 h];omega
 ·rw [Yi.1 hz];exact ⟨ht.1,ht.2,by rw [e4];omega⟩
 ·by_cases h:u=t
  ·rw [h,e4];exact .zero
  ·rw [e3 u h1 h2 h] at h3;omega
 ·have hz:t=z:=by simpa using hz
  subst hz
  refine ⟨fun y hy=>by rw [Yi.1 hy];omega,fun u h1 h2 h3=>?_⟩
  rw [e3 u h1 h2 (by simpa using h3),e4];omega
 ·have h5:z≠t:=by simpa using h4
  rw [e3 z h1 h2 h5] at h3;omega
theorem ZoA.pop (h:ZoA n prev least t d (x :: q)):Zme n prev least t d q x []:=by
 have hx:=h.qd x (by simp)
 obtain ⟨n1,n2⟩:=h.near x rfl
 have hnd:=YaP.1 h.nd
 have hs:=Yr.1 h.sort
 refine ⟨h.len,h.start,h.neg,fun z hz=>h.qd z (by simp [hz]),hnd.2,h.sound,hs.2,⟨hx.1,hx.2.1,hx.2.2,hnd.1⟩,⟨fun y hy=>⟨hs.1 y hy,n1 y (by simp [hy])⟩,fun u h1 h2 h3=>?_⟩,fun z h1 h2 h3 h4 h5=>h.clos z h1 h2 h4 (by simp [h3,h5]),by simp⟩
 by_cases e:u=x
 ·rw [e];exact Yam _
 ·exact n2 u h1 h2 (by simp [e,h3])
theorem Zme.skip {u:Int} (h:Zme n prev least t d q x seen) (hu:0≤u∧u<n) (hs:least≤u→0≤fI d u):Zme n prev least t d q x (seen ++ [u]):=by
 refine ⟨h.len,h.start,h.neg,h.qd,h.nd,h.sound,h.sort,h.here,h.near,h.clos,fun z hz hl=>?_⟩
 rcases Yy.1 hz with hz | hz
 ·exact h.seen z hz hl
 ·rw [Yi.1 hz] at hl ⊢
  refine ⟨hs hl,?_⟩
  by_cases hq:u ∈ q
  ·exact (h.near.1 u hq).2
  ·have:=h.near.2 u hu.1 hu.2 hq;omega
theorem Zme.put {u:Int} (h:Zme n prev least t d q x seen) (hu:0≤u∧u<n) (hp:u ∈ prev x) (hl:least≤u) (h0:fI d u<0):Zme n prev least t (d.set u.toNat (fI d x+1)) (q ++ [u]) x (seen ++ [u]):=by
 have hx:=h.here
 have e:fI (d.set u.toNat (fI d x+1))=Zi2 (fI d) u (fI d x+1):=Zdw (by rw [h.len];exact hu)
 have eu:fI (d.set u.toNat (fI d x+1)) u=fI d x+1:=by rw [e,Z9]
 have ne:∀ {z:Int},z≠u→fI (d.set u.toNat (fI d x+1)) z=fI d z:=fun hz=>by rw [e,ZaS hz]
 have hxu:x≠u:=fun k=>by rw [k] at hx;omega
 have huq:u ∉ q:=fun k=>by have:=(h.qd u k).2.2;omega
 have hqu:∀ z ∈ q,z≠u:=fun z hz k=>huq (k ▸ hz)
 have htu:t≠u:=fun k=>by have:=h.start.2.2;rw [k] at this;omega
 have hd0:∀ z:Int,z≠u→fI (d.set u.toNat (fI d x+1)) z=fI d z:=fun z hz=>ne hz
 refine ⟨by simp [h.len],⟨h.start.1,h.start.2.1,by rw [ne htu];exact h.start.2.2⟩,fun z h1 h2=>?_,fun z hz=>?_,?_,fun z h1 h2 h3=>?_,?_,⟨hx.1,hx.2.1,by rw [ne hxu];exact hx.2.2.1,?_⟩,⟨fun y hy=>?_,fun z h1 h2 h3=>?_⟩,fun z h1 h2 h3 h4 h5 y hy hly=>?_,fun z hz hlz=>?_⟩
 ·by_cases k:z=u
  ·rw [k,eu];omega
  ·rw [ne k];exact h.neg z h1 h2
 ·rcases Yy.1 hz with hz | hz
  ·rw [ne (hqu z hz)];exact h.qd z hz
  ·rw [Yi.1 hz,eu];exact ⟨hu.1,hu.2,by omega⟩
 ·exact List.nodup_append.2 ⟨h.nd,by simp,fun a ha b hb k=>huq (by rw [Yi.1 hb] at k;exact k ▸ ha)⟩
 ·by_cases k:z=u
  ·rw [k,eu]
   rw [show (fI d x+1).toNat=(fI d x).toNat+1 by omega]
   exact .step hp hl (h.sound x hx.1 hx.2.1 hx.2.2.1)
  ·rw [ne k] at h3 ⊢;exact h.sound z h1 h2 h3
 ·refine YaT.2 ⟨List.Pairwise.imp_of_mem (fun {a b} ha hb k=>?_) h.sort,by simp,fun a ha b hb=>?_⟩
  ·rw [ne (hqu a ha),ne (hqu b hb)];exact k
  ·rw [Yi.1 hb,eu,ne (hqu a ha)];exact (h.near.1 a ha).2
 ·simp [hx.2.2.2,hxu]
 ·rcases Yy.1 hy with hy | hy
  ·rw [ne (hqu y hy),ne hxu];exact h.near.1 y hy
  ·rw [Yi.1 hy,eu,ne hxu];omega
 ·have h3':z ∉ q∧z≠u:=by simpa using h3
  rw [ne h3'.2,ne hxu];exact h.near.2 z h1 h2 h3'.1
 ·have h5':z ∉ q∧z≠u:=by simpa using h5
  rw [ne h5'.2] at h4 ⊢
  have h6:=h.clos z h1 h2 h3 h4 h5'.1 y hy hly
  by_cases k:y=u
  ·rw [k] at h6;omega
  ·rw [ne k];exact h6
 ·rw [ne hxu]
  by_cases k:z=u
  ·rw [k,eu];omega
  ·rw [ne k]
   rcases Yy.1 hz with hz | hz
   ·exact h.seen z hz hlz
   ·exact absurd (Yi.1 hz) k
theorem Zme.done (h:Zme n prev least t d q x (prev x)):ZoA n prev least t d q:=by
 refine ⟨h.len,h.start,h.neg,h.qd,h.nd,h.sound,h.sort,fun z hz=>?_,fun z h1 h2 h3 h4=>?_⟩
 ·have hm:z ∈ q:=List.mem_of_head? hz
  refine ⟨fun y hy=>?_,fun u h1 h2 h3=>?_⟩
  ·have a:=(h.near.1 z hm).1
   have b:=(h.near.1 y hy).2
   omega
  ·have a:=(h.near.1 z hm).1
   have b:=h.near.2 u h1 h2 h3
   omega
 ·by_cases e:z=x
  ·rw [e];exact h.seen
  ·exact h.clos z h1 h2 e h3 h4
theorem ZoA.dist (hp:∀ x,∀ u ∈ prev x,0≤u∧u<n) (h:ZoA n prev least t d []):Zc3 n prev least t d:=by
 have key:∀ (j:Nat) (u:Int),ZeC prev least t j u→0≤u∧u<n∧0≤fI d u∧fI d u≤j:=fun j u hw=>by
  induction hw with
  | zero=>exact ⟨h.start.1,h.start.2.1,by rw [h.start.2.2];omega,by rw [h.start.2.2];omega⟩
  | step h1 hl _ ih=>
   obtain ⟨i1,i2,i3,i4⟩:=ih
   obtain ⟨k1,k2⟩:=h.clos _ i1 i2 i3 (by simp) _ h1 hl
   have:=hp _ _ h1
   exact ⟨this.1,this.2,k1,by omega⟩
 refine ⟨h.len,fun u hu=>?_⟩
 have e:Nn d u=fI d (u:Int):=by rw [Zcr ow];rfl
 rw [e]
 have hneg:=h.neg u ow ow
 by_cases h0:0≤fI d (u:Int)
 ·exact .inr ⟨(fI d (u:Int)).toNat,by omega,h.sound u ow ow h0,fun j hj=>by have:=(key j u hj).2.2.2;omega⟩
 ·exact .inl ⟨by omega,fun k hk=>h0 (key k u hk).2.2.1⟩
theorem Zc3.one {d e:List Int} (h:Zc3 n prev least t d) (k:Zc3 n prev least t e):d=e:=by
 refine ZaJ (by rw [h.1,k.1]) fun j hj=>?_
 rw [h.1] at hj
 rcases h.2 j hj with ⟨a1,a2⟩ | ⟨i,a1,a2,a3⟩ <;> rcases k.2 j hj with ⟨b1,b2⟩ | ⟨i',b1,b2,b3⟩
 ·rw [a1,b1]
 ·exact absurd b2 (a2 _)
 ·exact absurd a2 (b2 _)
 ·have:=a3 _ b2;have:=b3 _ a2;omega
theorem Zme.room (h:Zme n prev least t d q x seen):q.length+1≤n:=ZjF (l:=x :: q) (YaP.2 ⟨h.here.2.2.2,h.nd⟩) fun y hy=>by
 rcases Yl.1 hy with rfl | hy
 ·exact ⟨h.here.1,h.here.2.1⟩
 ·exact ⟨(h.qd y hy).1,(h.qd y hy).2.1⟩
end
def negC (d:List Int):Nat:=d.countP fun z=>decide (z<0)
theorem Zku {d:List Int} {i:Nat} {c:Int} (hi:i<d.length) (h0:Nn d i<0) (hc:0≤c):negC (d.set i c)+1=negC d:=by
 rw [nth_eq hi] at h0
 unfold negC
 rw [List.countP_set hi,Yaa h0,YF (show ¬ c<0 by omega)]
 have:0<d.countP fun z=>decide (z<0):=List.countP_pos_iff.2 ⟨d[i],YaH hi,Yaa h0⟩
 simp
 omega
theorem Zod (n:Nat) (prev:Int→List Int) (least t:Int):∃ d,Zc3 n prev least t d:=by
 refine Zof (P:=fun u m=>(m = -1 ∧ ∀ k,¬ ZeC prev least t k u) ∨ ∃ k:Nat,m=k∧ZeC prev least t k u ∧ ∀ j,ZeC prev least t j u→k≤j) n fun u _=>?_
 by_cases h:∃ k,ZeC prev least t k (u:Int)
 ·obtain ⟨k,hk⟩:=h
  obtain ⟨m,⟨h1,h2⟩,h3⟩:=ZqY (P:=fun m=>0≤m∧ZeC prev least t m.toNat u) (fun x hx=>hx.1) (u:=k) ⟨by omega,by simpa using hk⟩
  exact ⟨m,.inr ⟨m.toNat,by omega,h2,fun j hj=>by have:=h3 j ⟨by omega,by simpa using hj⟩;omega⟩⟩
 ·exact ⟨-1,.inl ⟨rfl,fun k hk=>h ⟨k,hk⟩⟩⟩
def ZdD (n:Nat) (prev:Int→List Int) (least t:Int) (d q:List Int):Prop:=ZoA n prev least t d q ∧ ∀ z:Int,fI d z+(negC d:Int)≤n
def Zcu (n:Nat) (prev:Int→List Int) (least t:Int) (d q:List Int) (x:Int) (seen:List Int):Prop:=Zme n prev least t d q x seen ∧ ∀ z:Int,fI d z+(negC d:Int)≤n
section
variable {n:Nat} {prev:Int→List Int} {least t:Int} {d q:List Int} {x:Int} {seen:List Int}
theorem ZdD.first (ht:0≤t∧t<n):ZdD n prev least t ((List.replicate n (-1)).set t.toNat 0) [t]:=by
 have hlt:t.toNat<n:=by omega
 have h1:=Zku (d:=List.replicate n (-1)) (i:=t.toNat) (c:=0) (by simpa using hlt) (by rw [nth_eq (by simpa using hlt)];simp) (Yam 0)
 have h2:negC (List.replicate n (-1))=n:=by unfold negC;rw [List.countP_replicate];simp
 refine ⟨ZoA.first ht,fun z=>?_⟩
 have hz:fI ((List.replicate n (-1)).set t.toNat 0) z≤0:=by
  rw [Zdw (by simpa using ht)]
  unfold Zi2
  split
  ·exact Yam 0
  ·unfold fI
   split
   ·by_cases h:z.toNat<n
    ·rw [nth_eq (by simpa using h)];simp
    ·unfold Nn;simp [Yaw,show n≤z.toNat by omega]
   ·exact Yam 0
 omega
theorem ZdD.pop (h:ZdD n prev least t d (x :: q)):Zcu n prev least t d q x []:=⟨h.1.pop,h.2⟩
theorem Zcu.skip {u:Int} (h:Zcu n prev least t d q x seen) (hu:0≤u∧u<n) (hs:least≤u→0≤fI d u):Zcu n prev least t d q x (seen ++ [u]):=⟨h.1.skip hu hs,h.2⟩
theorem Zcu.put {u:Int} (h:Zcu n prev least t d q x seen) (hu:0≤u∧u<n) (hp:u ∈ prev x) (hl:least≤u) (h0:fI d u<0):Zcu n prev least t (d.set u.toNat (fI d x+1)) (q ++ [u]) x (seen ++ [u])∧negC (d.set u.toNat (fI d x+1))+1=negC d:=by
 have hn:=Zku (d:=d) (i:=u.toNat) (c:=fI d x+1) (by rw [h.1.len];omega) (by rw [← Zcr hu.1];exact h0) (by have:=h.1.here.2.2.1;omega)
 refine ⟨⟨h.1.put hu hp hl h0,fun z=>?_⟩,hn⟩
 rw [Zdw (by rw [h.1.len];exact hu)]
 unfold Zi2
 have h1:=h.2 x
 have h2:=h.2 z
 split <;> omega
theorem Zcu.done (h:Zcu n prev least t d q x (prev x)):ZdD n prev least t d q:=⟨h.1.done,h.2⟩
theorem Zcu.val (h:Zcu n prev least t d q x seen):0≤fI d x∧fI d x≤n:=by
 have:=h.2 x
 exact ⟨h.1.here.2.2.1,by omega⟩
end
theorem Zht (O I:List (List Z8)) (m:Nat) (u mask:Int) (hI:∀ l ∈ I,l.length≤1000000) (hOI:I.length=O.length):FnP prog 209 [ZhD O I m,.int .i64 u,.int .i64 mask] (.sl Zn (adjO I mask u)):=by
 refine FnP.mk func209 rfl ntmps209 rfl fun B a w F Z hfr G=>Ya ?_
 refine rZ G (qC qZ) Z [6,2,1,0] [0] fun G=>(Ya (Ya ?_))
 refine rZ G (qR rr (qR rr (qf (oP (ZeH O I m u) func194 (Args.two .t .t)) r2 qz (qf (o_not .t) r1 qz qZ)))) Z [10,6,2,1,0] [0] fun G=>?_
 refine Zc G rfl (fun hc0=>?_) (fun hc0=>?_)
 ·have hg:[] = adjO I mask u:=by unfold adjO;rw [Yb (by have h9:=hc0;simp at h9;omega)]
  refine Ya (rZ G (qC qZ) Z [6,2,1,0] [0] fun G=>(Yh (Zl ?_)))
  refine Zv hfr G rfl rfl rfl (.trans .nilSl (.sl hg))
 have hth:0≤u∧u<I.length:=by have h9:=hc0;simp at h9;omega
 have hg:(Zbu (((Nn I u.toNat).filter fun e=>ofB mask e.kind).map Z8.node))=adjO I mask u:=by unfold adjO;rw [Ye hth]
 refine Yf (Za (Ya (Zg G (qR rr (qf (ZT .t) r1 qz (qf (oG 1 .t) r1 qz (qf (oR false 1 .t) r1 qz (qR rr (qf (o_indexAddr_sl (sz:=1) (.mk Yca kr) (by intro x;rfl) .t .t (by exact hth.1) (by exact hth.2)) r2 qz (qf (oR false 1 .t) r1 qz (qR rr (qf (oP (dgNodesOf_c (Nn I u.toNat) mask (hI _ (nth_mem ow))) func198 (Args.two .t .t)) r2 qz (qO rr qZ)))))))))) Z [6] [0] rfl rfl fun a w F G=>?_)))
 try simp only [Yd] at G
 refine Za (Yh (Zv hfr G rfl rfl rfl (.sl hg)))
theorem Zua (E:List Zw) (O I:List (List Z8)) (m:Nat) (mask node least:Int) (h:Zcs O.length E O I) (hn1:1≤O.length) (hn:O.length≤4096) (hE:E.length≤1000000) (hs0:least≤node) (hs1:0≤node) (hs2:node<O.length) (D:List Int) (hD:Zc3 O.length (fun x=>adjO I mask x) least node D):FnP prog 169 [ZhD O I m,.int .i64 mask,.int .i64 node,.int .i64 least] (.sl Zn D):=by
 refine FnP.mk func169 rfl ntmps169 rfl fun B a w F Z hfr G=>?_
 obtain ⟨hpr,hpl⟩:=h.prevR mask
 refine Ya (rZ G (qC qZ) Z [8,3,2,1,0] [0] fun G=>Ya ?_)
 refine Zb G (qR rr (qR rr (qR rr (qf (oB [(0,.tmp 16),(1,.tmp 17),(2,.tmp 18)] [.pointer none,.int .i64 0,.int .i64 0] [(0,1),(1,1),(2,1)] (.one rfl .t ZjG kr (.one rfl .t one_int kr (.one rfl .t one_int kr .nil)))) r3 qz (qf (oH [.pointer none,.int .i64 0,.int .i64 0] 101) trivial qz (qS 3 101 r2 r1 qZ)))))) Z [9,8,3,2,1,0] [101,0] (fun _=>rfl) (fun _=>rfl) fun τ a w F G=>?_
 try dsimp only [RS.sub,SF.sub,CF.sub,csub,Anc.sub,List.map,Ze,xL,xM,Nat.reduceAdd,xD,xE,xT,xU,xC,xN,zCF,Zn] at G
 generalize τ 9=v9 at G
 refine Za (Ya ?_)
 replace G:=G.fresh 102 rfl
 refine Zb G (qe 3 101 r1 r1 (qf (ZaM 102 (Zop O I m mask least ow ow) func204 rfl kr (Args.one (.pagg .t)) pvOne1) r1 r1 (qO rr qZ))) Z [10,9,8,3,2,1,0] [102,101,0] (fun _=>rfl) (fun _=>rfl) fun τ a w F G=>?_
 try dsimp only [RS.sub,SF.sub,CF.sub,csub,Anc.sub,List.map,xD,xE,xT,xU,ldSF,Zn] at G
 generalize τ 21=v21 at G
 refine Za (Ya (Ya (rZ G (qe 3 101 r1 r1 (qR rr (qf (oP (ZmU O I m mask least node) func205 (Args.two (.pagg .t) .t)) r2 qz (qf (o_not .t) r1 qz qZ)))) Z [25,10,8,3,2,1,0] [102,101,0] fun G=>?_)))
 refine Zc G rfl (fun hc0=>?_) (fun hc0=>?_)
 ·simp at hc0;omega
 refine Yf (Za (Ya ?_))
 replace G:=G.fresh 103 rfl
 refine Zb G (qR rr (qf (oP (Zcz O I m) func158 (Args.one .t)) r1 qz (qf (ZaM 103 (ZnK _) func206 rfl kr (Args.one .t) PV.ptr_one) r1 r1 (qO rr qZ)))) Z [11,10,8,3,2,1,0] [103,102,101,0] (fun _=>rfl) (fun _=>rfl) fun τ a w F G=>?_
 try dsimp only [RS.sub,SF.sub,CF.sub,csub,Anc.sub,List.map,Zn] at G
 generalize τ 29=v29 at G
 obtain ⟨_,_,_,ho⟩:=G.obGet 103 rfl
 obtain ⟨qb,rfl⟩:=ZnV ho
 clear ho
 replace G:=G.turn 103 rfl (r':=RS.hp (rqH (.pointer (some ⟨qb,0,none⟩)) (ZcN (O.length:Int)) [])) (fun _ _ _ _ h=>h)
 obtain ⟨F,G⟩:=G.nM [11,10,8,3,2,1,0] [103,102,101,0]
 rw [ZhR ow] at G
 refine Za (Ya (Zg G (qR rr (qR rr (qf (o_indexAddr_row (sz:=1) 102 (.mk Yb0 kr) .is .t ow (by rw [YY];omega) (by rfl)) r2 r1 (qf (ZW (R:=Zn) (sz:=1) (v:=0) 102 .t (by intro x;rfl) (by rw [YY];omega) qi rfl one_int kr) r1 r1 qZ)))) Z [11,10,8,3,2,1,0] [103,102,101,0] rfl rfl fun a w F G=>?_))
 try simp only [Yd] at G
 refine Za (Ya (rZ G (qR rr (qR rr (qf (Z0 103 (Zcd qb (O.length:Int) [] node (by simp;omega)) func207 rfl kr (Args.two .t .t)) r2 r1 qZ))) Z [11,10,8,3,1,0] [103,102,101,0] fun G=>(Ya (Ya ?_))))
 refine rZ G (qR rr (qf (Z0 103 (ZgT qb (O.length:Int) [node]) func208 rfl kr (Args.one .t)) r1 r1 (qR rr (qf (Zi .t rfl) r1 qz (qf (Zi .t rfl) r1 qz (qO rr (qO rr qZ))))))) Z [13,12,11,10,8,3,1,0] [103,102,101,0] fun G=>Yg ?_
 refine Zm (σ:=List Int×List Int) [0,1,3,8,10,11] [0,101] (fun s=>[(12,.pv (.int .i64 (s.2.headD 0))),(13,.pv (.bool (decide (s.2≠[]))))]) (fun s=>[(102,.ob (.val v21) (ZC 3 1 Zn s.1)),(103,RS.hp (rqH (.pointer (some ⟨qb,0,none⟩)) (O.length:Int) s.2.tail))]) (fun s=>ZdD O.length (fun x=>adjO I mask x) least node s.1 s.2) (fun s=>2*negC s.1+s.2.length) (_,([node])) G ⟨rfl,rfl,rfl,rfl,rfl,rfl,rfl,rfl,tv⟩ ⟨rfl,rfl,rfl,rfl,tv⟩ (ZdD.first ⟨hs1,by omega⟩) ?_
 clear G;intro s a w F hC G
 obtain ⟨d,q⟩:=s
 try dsimp only at hC
 obtain ⟨F,G⟩:=G.nM [13,12,11,10,8,3,1,0] [103,102,101,0]
 try dsimp only at G
 have hBI:ZdD O.length (fun x=>adjO I mask x) least node d q:=hC
 refine Ya (Ya (rZ G (qR rr qZ) Z [41,13,12,11,10,8,3,1,0] [103,102,101,0] fun G=>?_))
 refine Zc G rfl (fun hc1=>?_) (fun hc1=>?_)
 ·obtain ⟨x,q,rfl⟩:∃ x l,q=x :: l:=List.exists_cons_of_ne_nil (by simpa using hc1)
  try dsimp only [List.headD_cons,List.tail_cons] at G
  have hM0:=hBI.pop
  have hpx:=hpl x
  refine Yf (Za (Ya (Yg (Ya (rZ G (qR rr (qR rr (qR rr (qf (oP (Zht O I m x mask (fun l hl=>(h.inn.r hE l hl).1) (by rw [h.ol,h.il])) func209 (Args.three .t .t .t)) r3 qz (qu Yb0 r1 (qJ qZ)))))) Z [52,51,50,13,12,11,10,8,3,1,0] [103,102,101,0] fun G=>Yg ?_)))))
  refine Zm (σ:=(Nat)×(List Int)×(List Int)) [0,1,3,8,10,11,12,13,50,51] [0,101] (fun s=>[(52,.pv (.int .i64 (s.1:Int)))]) (fun s=>[(102,.ob (.val v21) (ZC 3 1 Zn s.2.1)),(103,RS.hp (rqH (.pointer (some ⟨qb,0,none⟩)) (O.length:Int) s.2.2))]) (fun s=>s.1≤(adjO I mask x).length∧(Zcu O.length (fun x=>adjO I mask x) least node s.2.1 s.2.2 x ((adjO I mask x).take s.1)∧2*negC s.2.1+s.2.2.length≤2*negC d+q.length)) (fun s=>(adjO I mask x).length - s.1) ((0),(d),(q)) G ⟨rfl,rfl,rfl,rfl,rfl,rfl,rfl,rfl,rfl,rfl,rfl,tv⟩ ⟨rfl,rfl,rfl,rfl,tv⟩ ⟨Yx _,⟨hM0,YO _⟩⟩ ?_
  clear G;intro s a w F hC G
  obtain ⟨i,d2,q2⟩:=s
  try dsimp only at hC
  obtain ⟨F,G⟩:=G.nM [52,51,50,13,12,11,10,8,3,1,0] [103,102,101,0]
  try dsimp only at G
  obtain ⟨hi,hq⟩:=hC
  obtain ⟨hM,hmu⟩:=hq
  have hdl:=hM.1.len
  have hxr:=hM.1.here
  have hxv:=hM.val
  have hqr:=hM.1.room
  refine Ya (rZ G (qL r2) Z [53,52,51,50,13,12,11,10,8,3,1,0] [103,102,101,0] fun G=>Ya ?_)
  refine Zc G rfl (fun hc2=>?_) (fun hc2=>?_)
  ·have hil:i<(adjO I mask x).length:=by simp at hc2;omega
   have hur:=hpr x _ (nth_mem hil)
   refine Yf (Za (Ya (Yg (Ya (Zg G (qy 1 Yb0 r2 (qf (oR false 1 .t) r1 qz (qO rr qZ))) Z [52,51,50,15,13,12,11,10,8,3,1,0] [103,102,101,0] rfl rfl fun a w F G=>?_)))))
   try simp only [Yd] at G
   refine Za (Ya (Zg G (qR rr (qR rr (qf (ZbE .t .t) r2 qz (qR rr (qm rfl rfl rfl rfl (qm rfl rfl rfl rfl (qk rfl (fun h=>o_indexAddr_row (sz:=1) 102 (.mk Yb0 kr) (.w h .is) (.w h) ow ow (by rfl)) r3 r1 (qk rfl (fun h=>ZD (ag:=false) (sz':=1) (sz:=1) 102 (.w h) (by intro x;rfl) ow kr kr kr) r2 r1 (qk rfl (fun h=>Zar (.w h) qi) r2 qz (qf (ZH .t .t) r2 qz qZ)))))))))) Z [65,52,51,50,15,13,12,11,10,8,3,1,0] [103,102,101,0] rfl rfl fun a w F G=>?_))
   try simp only [Yd] at G
   refine Za (Zc G rfl (fun hc3=>?_) (fun hc3=>?_))
   ·have hput:least≤(Nn (adjO I mask x) i)∧fI d2 (Nn (adjO I mask x) i)<0:=by rw [Zcr hur.1];simpa using hc3
    obtain ⟨hP1,hP2⟩:=hM.put hur (nth_mem hil) hput.1 hput.2
    have hval:IntKind.wrap .i64 (Nn d2 x.toNat+1)=fI d2 x+1:=by rw [Zcr hxr.1];rw [Zcr hxr.1] at hxv;exact Zz ow
    refine Ya (Zg G (qR rr (qR rr (qR rr (qR rr (qf (o_indexAddr_row (sz:=1) 102 (.mk Yb0 kr) .is .t ow ow (by rfl)) r2 r1 (qf (ZD (ag:=false) (sz':=1) (sz:=1) 102 .t (by intro x;rfl) ow kr kr kr) r1 r1 (qp r1 (qf (o_indexAddr_row (sz:=1) 102 (.mk Yb0 kr) .is .t ow ow (by rfl)) r2 r1 (qf (ZW (R:=Zn) (sz:=1) (v:=_) 102 .t (by intro x;rfl) ow .t rfl one_int kr) r2 r1 qZ))))))))) Z [52,51,50,15,13,12,11,10,8,3,1,0] [103,102,101,0] rfl rfl fun a w F G=>?_)
    try simp only [Yd] at G
    rw [hval] at G
    refine Za (Zg G (qR rr (qR rr (qf (Z0 103 (Zcd qb (O.length:Int) q2 (Nn (adjO I mask x) i) ow) func207 rfl kr (Args.two .t .t)) r2 r1 qZ))) Z [52,51,50,13,12,11,10,8,3,1,0] [103,102,101,0] rfl rfl fun a w F G=>Zj (Za ?_))
    refine rZ G (qp r1 (qR rr qZ)) Z [52,51,50,13,12,11,10,8,3,1,0] [103,102,101,0] fun G=>?_
    have hmu3:2*negC (d2.set (Nn (adjO I mask x) i).toNat (fI d2 x+1))+(q2 ++ [(Nn (adjO I mask x) i)]).length≤2*negC d+q.length:=by rw [Yc,Yav];omega
    replace G:=G.ent (i:=52) (s':=.pv (.int .i64 ((i+1:Nat):Int))) rfl (.int (Zd ow))
    obtain ⟨F,G⟩:=G.nM [51,50,13,12,11,10,8,3,1,0,52] [101,0,103,102]
    exact ⟨((i+1),_,(q2 ++ [(Nn (adjO I mask x) i)])),F,⟨by omega,⟨by rw [Zs hil];exact hP1,hmu3⟩⟩,G,by omega⟩
   have hsk:least≤(Nn (adjO I mask x) i)→0≤fI d2 (Nn (adjO I mask x) i):=fun h9=>by rw [Zcr hur.1];have h8:=hc3;simp at h8;exact h8 h9
   refine Yf (Zj (Za (rZ G (qp r1 (qR rr qZ)) Z [52,51,50,13,12,11,10,8,3,1,0] [103,102,101,0] fun G=>?_)))
   replace G:=G.ent (i:=52) (s':=.pv (.int .i64 ((i+1:Nat):Int))) rfl (.int (Zd ow))
   obtain ⟨F,G⟩:=G.nM [51,50,13,12,11,10,8,3,1,0,52] [101,0,103,102]
   exact ⟨((i+1),_,_),F,⟨by omega,⟨by rw [Zs hil];exact hM.skip hur hsk,hmu⟩⟩,G,by omega⟩
  have hil:i=(adjO I mask x).length:=by simp at hc2;omega
  have hBI2:ZdD O.length (fun x=>adjO I mask x) least node d2 q2:=by rw [hil,YD] at hM;exact hM.done
  have hmu2:2*negC d2+q2.length<2*negC d+(x :: q).length:=by rw [Yk];omega
  refine Yz (Zh (Zh (Zr (Zj (Za (rZ G (qR rr (qf (Z0 103 (ZgT qb (O.length:Int) q2) func208 rfl kr (Args.one .t)) r1 r1 (qR rr (qf (Zi .t rfl) r1 qz (qf (Zi .t rfl) r1 qz (qO rr (qO rr qZ))))))) Z [13,12,11,10,8,3,1,0] [103,102,101,0] fun G=>?_))))))
  obtain ⟨F,G⟩:=G.nM [11,10,8,3,1,0,13,12] [101,0,103,102]
  exact ⟨((d2),(q2)),F,hBI2,G,hmu2⟩
 have hqe:q = []:=by simpa using hc1
 subst hqe
 have hfin:d=D:=(ZoA.dist hpr hBI.1).one hD
 refine Yz (Zh (Zh (Zr (Za (Ya (rZ G (qR rr (qO rr qZ)) Z [8] [103,102,101,0] fun G=>Yh ?_))))))
 obtain ⟨F,G⟩:=G.give 102 8 rfl rfl
 refine Zv hfr G rfl rfl rfl (.sl hfin)
end Go.Proofs.YtlkpllemoepamaaGreat
