/- Laws and walks. No condition beyond what each says. -/
import Derived.Test.YtfecljadegkmdaaGreatJ3
import Derived.Test.YtfecljadegkmdaaGreatLibRg
namespace Go.Proofs.YtfecljadegkmdaaGreat
open Go Go.Gm Tryz
set_option linter.unusedVariables false
set_option linter.unusedSimpArgs false
set_option maxHeartbeats 4000000
set_option maxRecDepth 8000
def ZbS (l:List OrdD):Nat:=(l.map fun o=>o.txs.length).sum
def sizeH (h:Zx):Nat:=h.txs.length+h.orders.length+ZbS h.orders
theorem sizeO_next {l:List OrdD} {i:Nat} (h:i<l.length):ZbS (l.take (i+1))=ZbS (l.take i)+(Nn l i).txs.length:=by
 unfold ZbS
 rw [ZQ h,YZ,YaT];simp
theorem Zi3 {l:List OrdD} {n:Nat} (h:∀ o ∈ l,o.txs.length≤n):ZbS l≤n*l.length:=by
 unfold ZbS
 induction l with
 | nil=>simp
 | cons o l ih=>
  have h1:=h o Yap
  have h2:=ih fun x hx=>h x (YM _ hx)
  rw [YL,YaJ,Yl,Nat.mul_add];omega
theorem ZoL (h:Zx) (hs:Zbb h):FnP prog 61 [.agg (Zl h)] (.int .i64 ((sizeH h:Nat):Int)):=by
 refine FnP.mk func61 Z ntmps61 Z fun B a w F V hfr O=>?_
 have hl1:=hs.1.1
 have hl2:=hs.2.1
 refine Ya (Zb O (qx 101 r1 (qI qZ)) V [2,1] [101,0] (fun _=>rfl) (fun _=>rfl) fun τ a w F O=>?_)
 try dsimp only [RS.sub,SF.sub,CF.sub,csub,Anc.sub,List.map,zCF,Zl,rTx,Zv,ZY,Zs,rOp] at O
 generalize τ 1=v1 at O
 refine Za (Ya (rZ O (qg 0 101 r1 r1 (qa 101 r1 r1 (qu YbP r1 (qg 1 101 r1 r1 (qa 101 r1 r1 (qu YbQ r1 (qf (o_add .t .t) r2 qz (qO rr qZ)))))))) V [3,2,1] [101,0] fun O=>(Ya (Ya ?_))))
 refine rZ O (qg 1 101 r1 r1 (qa 101 r1 r1 (qu YbQ r1 (qJ qZ)))) V [16,15,14,3,2] [101,0] fun O=>Ye ?_
 replace O:=O.ent (i:=3) (s':=.pv (.int .i64 ((h.txs.length+h.orders.length+ZbS (h.orders.take 0):Nat):Int))) Z (.int (by rw [Zj ow];simp [ZbS]))
 refine Zk (σ:=(Nat)) [2,14,15] [0,101] (fun s=>[(16,.pv (.int .i64 (s:Int))),(3,.pv (.int .i64 ((h.txs.length+h.orders.length+ZbS (h.orders.take s):Nat):Int)))]) (fun s=>[]) (fun s=>s≤h.orders.length∧(ZbS (h.orders.take s)≤1000*s)) (fun s=>h.orders.length - s) (0) O ⟨rfl,rfl,rfl,rfl,rfl,tv⟩ ⟨rfl,rfl,tv⟩ ⟨Yt _,(by simp [ZbS])⟩ ?_
 clear O;intro i a w F hC O
 try dsimp only at hC
 obtain ⟨F,O⟩:=O.nM [16,15,14,3,2] [101,0]
 try dsimp only at O
 obtain ⟨hi,hq⟩:=hC
 refine Ya (rZ O (qL r2) V [17,16,15,14,3,2] [101,0] fun O=>Ya ?_)
 refine Zc O Z (fun hc0=>?_) (fun hc0=>?_)
 ·have hil:i<h.orders.length:=by simp at hc0;omega
  have hx9:=hs.2.2 _ (ZU hil)
  have hq2:ZbS (h.orders.take (i+1))≤1000*(i+1):=by rw [sizeO_next hil];omega
  refine Yd (Za (Ya (Ye (Ya (Zb O (qy 2 YbQ r2 (qf (oR true 2 .t) r1 qz (qf (oH [.int .i64 0,.slice none 0 0] 102) trivial qz (qS 2 102 r2 r1 qZ)))) V [16,15,14,5,3,2] [102,101,0] (fun _=>rfl) (fun _=>rfl) fun τ a w F O=>?_)))))
  try dsimp only [RS.sub,SF.sub,CF.sub,csub,Anc.sub,List.map,Zd,xL,xM,Nat.reduceAdd,xD,xE,xT,xU,xC,xN,zCF,ldSF,Zl,rTx,Zv,ZY,Zs,rOp] at O
  generalize τ 5=v5 at O
  try simp only [Yg] at O
  refine Za (Zh O (qR rr (qg 1 102 r1 r1 (qa 102 r1 r1 (qu YbO r1 (qf (o_add .t .t) r2 qz (qO rr qZ)))))) V [16,15,14,3,2] [102,101,0] Z Z fun a w F O=>Zi (Za ?_))
  refine rZ O (qp r1 (qR rr qZ)) V [16,15,14,3,2] [102,101,0] fun O=>?_
  replace O:=O.ent (i:=16) (s':=.pv (.int .i64 ((i+1:Nat):Int))) Z (.int (Ze ow))
  replace O:=O.ent (i:=3) (s':=.pv (.int .i64 ((h.txs.length+h.orders.length+ZbS (h.orders.take (i+1)):Nat):Int))) Z (.int (by rw [Zj ow,sizeO_next hil];omega))
  obtain ⟨F,O⟩:=O.nM [15,14,2,3,16] [101,0]
  exact ⟨(i+1),F,⟨by omega,hq2⟩,O,by omega⟩
 have hil:i=h.orders.length:=by simp at hc0;omega
 refine Ym (Zg (Zg (Zo (Za (Ya (rZ O (qR rr (qO rr qZ)) V [2] [101,0] fun O=>Yh ?_))))))
 refine ZB hfr O Z Z Z (.int (by unfold sizeH;rw [hil,YE]))
theorem scopied_c (t:TxD) (hl:t.ops.length≤1000000):FnP prog 54 [.agg (rTx t)] (.agg (rTx t)):=by
 refine FnP.mk func54 Z ntmps54 Z fun B a w F V hfr O=>Ya ?_
 refine Zb O (qx 101 r1 (qf (oH [.int .i64 0,.bool false,.slice none 0 0] 102) trivial qz qZ)) V [2,1] [102,101,0] (fun _=>rfl) (fun _=>rfl) fun τ a w F O=>?_
 try dsimp only [RS.sub,SF.sub,CF.sub,csub,Anc.sub,List.map,zCF,Zl,rTx,Zv,ZY,Zs,rOp] at O
 generalize τ 1=v1,τ 2=v2 at O
 refine Za (Ya ?_)
 replace O:=O.fresh 103 rfl
 refine Zb O (qg 2 101 r1 r1 (qa 101 r1 r1 (qf (Zc3 103 (Zmh t.ops hl) func86 Z kr (Args.one .t) Zf1) r1 r1 (qg 2 101 r1 r1 (qf (ZbD 101 .adr kr kr) r2 r1 qZ))))) V [2,1] [103,102,101,0] (fun _=>rfl) (fun _=>rfl) fun τ a w F O=>?_
 try dsimp only [RS.sub,SF.sub,CF.sub,csub,Anc.sub,List.map,Zd,xL,xM,Nat.reduceAdd,xD,xE,xT,xU,xC,xN,zCF,ldSF,Zl,rTx,Zv,ZY,Zs,rOp] at O
 generalize τ 5=v5 at O
 obtain ⟨F,O⟩:=O.giveCell 103 101 2 Z Z Z Z rfl
 try dsimp only [List.set] at O
 obtain ⟨F,O⟩:=O.nM [2,1] [102,101,0]
 refine Za (Ya (rZ O (qe 3 101 r1 r1 (qs 3 102 r2 r1 qZ)) V [2] [102,101,0] fun O=>Yh ?_))
 refine Z3 hfr O Z (.cl 102 true 3 Z Z .nil) (.one (.aggU Z Z))
theorem ZqR (o:Option Nat):FnP prog 46 [.is (arV o)] (.agg [.is (arV o),.int .i64 0,.is (arV o),.int .i64 0,.int .i64 0]):=by
 refine FnP.mk func46 Z ntmps46 Z fun B a w F V hfr O=>Ya ?_
 refine Zb O (qf (oH [.pointer none,.int .i64 0,.pointer none,.int .i64 0,.int .i64 0] 101) trivial qz qZ) V [2,0] [101,0] (fun _=>rfl) (fun _=>rfl) fun τ a w F O=>?_
 try dsimp only [RS.sub,SF.sub,CF.sub,csub,Anc.sub,List.map,zCF,Zl,rTx,Zv,ZY,Zs,rOp] at O
 generalize τ 2=v2 at O
 refine Za (Ya (rZ O (qR rr (qf (oP (ZkF o) func104 (Args.one .t)) r1 qz (qR rr (qf (oP (ZkF o) func104 (Args.one .t)) r1 qz (qf (oB [(0,.tmp 4),(1,.tmp 6)] [.pointer none,.int .i64 0,.pointer none,.int .i64 0,.int .i64 0] [(0,2),(2,2),(4,1)] (.agg Z (.conv .t .agg) kr kr (.agg Z (.conv .t .agg) kr kr .nil))) r2 qz (qs 5 101 r2 r1 qZ)))))) V [2] [101,0] fun O=>Yh ?_))
 refine Z3 hfr O Z (.cl 101 true 5 Z Z .nil) (.one (.aggU Z Z))
theorem Zke {k v:Int} {p:ZF} : ∀ (l:List ZF) (d:Bool),p ∈ ZaN k v l d→p ∈ l∨p = ⟨k,v⟩
 | [],d,h=>by cases d <;> simp [ZaN] at h;exact .inr h
 | x :: l,d,h=>by
  rw [ZaN,YB,YB] at h
  rcases h with (h | h) | h
  ·split at h <;> simp at h;exact .inr h
  ·split at h <;> simp at h;exact .inl (by simp [h])
  ·rcases Zke l _ h with h | h
   ·exact .inl (by simp [h])
   ·exact .inr h
theorem Zit {k v:Int} : ∀ {l:List ZF},(∀ p ∈ l,k<p.key)→ZaN k v l true=l
 | [],_=>rfl
 | p :: l,h=>by
  have:=h p (by simp)
  rw [ZaN,YbB,Zit fun x hx=>h x (by simp [hx]),Yb (by simp),Yb ow]
  rfl
theorem putP_inc {k v:Int} : ∀ {l:List ZF},Inc l→Inc (putP l k v)
 | [],_=>by simp [putP,ZaN,Inc]
 | x :: l,h=>by
  have h':=Yx.1 h
  unfold putP
  by_cases h1:x.key<k
  ·have e:ZaN k v (x :: l) false=x :: putP l k v:=Zbt (l:=[x]) (m:=l) (by simpa using h1)
   rw [e]
   refine Yx.2 ⟨fun p hp=>?_,putP_inc h'.2⟩
   rcases Zke l false hp with hp | rfl
   ·exact h'.1 p hp
   ·exact h1
  ·by_cases h2:x.key=k
   ·rw [ZaN,Yf ⟨rfl,by omega⟩,Yf h2,show (false || decide (k≤x.key))=true by simp;omega,Zit fun p hp=>by have:=h'.1 p hp;omega]
    exact Yx.2 ⟨fun p hp=>by have:=h'.1 p hp;show k<p.key;omega,h'.2⟩
   ·rw [ZkE (fun p hp=>by
     rcases Yo.1 hp with rfl | hp
     ·omega
     ·have:=h'.1 p hp;omega)]
    refine Yx.2 ⟨fun p hp=>?_,h⟩
    show k<p.key
    rcases Yo.1 hp with rfl | hp
    ·omega
    ·have:=h'.1 p hp;omega
theorem Zgf {k:Int} {l:List ZF} (h:Inc l):Inc (delP l k):=List.Pairwise.filter _ h
structure ZcN (q:List Cell) (t:Zae) (root:Int):Prop where
 rep:Rep id q t root
 bal:Bal t
 inc:Inc (tList t)
theorem ZcN.app {q e:List Cell} {t:Zae} {root:Int} (h:ZcN q t root):ZcN (q++e) t root:=⟨h.rep.app e,h.bal,h.inc⟩
theorem ZcN.nil (q:List Cell):ZcN q .nil 0:=⟨rfl,tv,List.Pairwise.nil⟩
theorem ZcN.put {room:Int} {q:List Cell} {t:Zae} {root:Int} (h:ZcN q t root) (k v:Int) (hs:ZD t<1000000) :
  (∃ (e:List Cell) (r:Int),Zrt room q ⟨k,v⟩ t root=(q++e,0,r)∧ZcN (q++e) (putT ⟨k,v⟩ t) r∧(e.length:Int)≤3*(Zm t+1))∨(Zrt room q ⟨k,v⟩ t root=(q,2,0)∧room<q.length+3*(Zm t+1)):=by
 rcases Zd0 (ZhF (room:=room) (p:=⟨k,v⟩) rfl h.rep hs) with ⟨e,e1,e2,e3,e4,e5⟩ | ⟨e1,e2⟩
 ·refine .inl ⟨e,(Zrt room q ⟨k,v⟩ t root).2.2,?_,⟨e3,(Zjm _ h.bal).1,?_⟩,e5⟩
  ·exact Prod.ext e1 (Prod.ext e2 rfl)
  ·rw [Zff _ h.inc];exact putP_inc h.inc
 ·exact .inr ⟨e1,e2⟩
theorem ZcN.del {room:Int} {q:List Cell} {t:Zae} {root:Int} (h:ZcN q t root) (k:Int) (hs:ZD t≤1000000) :
  (¬ (Zcf k t).2=true∧ZoA room q k t root=(q,3,0))∨(Zcf k t).2=true∧((∃ (e:List Cell) (r:Int),ZoA room q k t root=(q++e,0,r)∧ZcN (q++e) (delT k t) r∧(e.length:Int)≤3*(Zm t+1))∨(ZoA room q k t root=(q,2,0)∧room<q.length+3*(Zm t+1))):=by
 by_cases hl:(Zcf k t).2=true
 ·refine .inr ⟨hl,?_⟩
  have hd:ZoA room q k t root=Zc4 q.length (ZbE id room q 0 k t root):=Yf hl
  rw [hd]
  rcases Zd0 (ZhD (room:=room) h.rep (Zfh.1 hl) hs (fun _ _=>rfl)) with ⟨e,e1,e2,e3,e4,e5⟩ | ⟨e1,e2⟩
  ·refine .inl ⟨e,_,?_,⟨e3,(ZiE _ h.bal).1,?_⟩,e5⟩
   ·exact Prod.ext e1 (Prod.ext e2 rfl)
   ·rw [ZeF _ h.inc];exact Zgf h.inc
  ·exact .inr ⟨e1,e2⟩
 ·exact .inl ⟨hl,Yb hl⟩
theorem ZcN.high {q:List Cell} {t:Zae} {root:Int} (h:ZcN q t root) (hs:ZD t≤1000000):0≤Zm t∧Zm t≤40:=⟨Zac t,ZnD h.bal hs⟩
structure RtA where
 txs:List ZF
 orders:List ZF
 size:Int
 deriving Inhabited
def Za4 (all:List TxD) (seqs:List (List Int)) (r:RtA):Zx:=⟨r.txs.map fun p=>Nn all p.val.toNat,r.orders.map fun p=>⟨p.key,Nn seqs p.val.toNat⟩⟩
structure Zlh (all:List TxD) (seqs:List (List Int)) (r:RtA):Prop where
 ti:Inc r.txs
 oi:Inc r.orders
 tv:∀ p ∈ r.txs,(0≤p.val∧p.val<all.length)∧(Nn all p.val.toNat).id=p.key
 ov:∀ p ∈ r.orders,0≤p.val∧p.val<seqs.length
theorem ZbU {α:Type} [Inhabited α] {l e:List α} {k:Nat} (h:k<l.length):Nn (l++e) k=Nn l k:=by
 rw [Zy (by simp;omega),Zy h,List.getElem_append_left h]
theorem ZdY {all e:List TxD} {seqs f:List (List Int)} {r:RtA} (h:Zlh all seqs r):Za4 (all++e) (seqs++f) r=Za4 all seqs r:=by
 unfold Za4
 congr 1
 ·refine YaB fun p hp=>?_
  have:=(h.tv p hp).1
  rw [ZbU ow]
 ·refine YaB fun p hp=>?_
  have:=h.ov p hp
  rw [ZbU ow]
theorem Zlh.grow {all e:List TxD} {seqs f:List (List Int)} {r:RtA} (h:Zlh all seqs r):Zlh (all++e) (seqs++f) r:=
 ⟨h.ti,h.oi,fun p hp=>by
  have h1:=h.tv p hp
  refine ⟨⟨h1.1.1,by rw [Yc];omega⟩,?_⟩
  rw [ZbU ow];exact h1.2,fun p hp=>by
  have h1:=h.ov p hp
  exact ⟨h1.1,by rw [Yc];omega⟩⟩
def Zjr (q:List Cell) (root:Int) (l:List ZF):Prop:=∃ t,ZcN q t root∧tList t=l
theorem Zjr.app {q e:List Cell} {root:Int} {l:List ZF} (h:Zjr q root l):Zjr (q++e) root l:=let ⟨t,h1,h2⟩:=h; ⟨t,h1.app,h2⟩
def Zbe (q:List Cell) (root:Int) (l:List Int):Prop:=∃ t,Rep kz q t root∧ZbN t=l
theorem Zbe.app {q e:List Cell} {root:Int} {l:List Int} (h:Zbe q root l):Zbe (q++e) root l:=let ⟨s,h1,h2⟩:=h; ⟨s,h1.app e,h2⟩
theorem ZmL (t:Zae):ZD t=(ZbN t).length:=by unfold ZbN;rw [YP];exact ZS t
theorem Zjr.move {room:Int} {q2:List Cell} {t:Zae} (h:Inc (tList t)) (hs:(tList t).length≤1000000) (hr:q2.length+(tList t).length≤room) :
  ∃ (e:List Cell) (r:Int),Znc room q2 t=(q2++e,0,r)∧Zjr (q2++e) r (tList t)∧e.length=(tList t).length:=by
 rcases Zd0 (Zfo (kf:=id) (room:=room) ((tList t).length+1) q2 (tList t) ow ow (fun _ _=>rfl)) with ⟨e,e1,e2,e3,e4,e5⟩ | ⟨e1,e2⟩
 ·exact ⟨e,_,Prod.ext e1 (Prod.ext e2 rfl),⟨_,⟨e3,(Zg7 _ _ ow).2,by rw [Zcv _ _ ow];exact h⟩,Zcv _ _ ow⟩,by omega⟩
 ·omega
theorem Zbe.of {room:Int} {q:List Cell} {l:List Int} (hs:l.length≤1000000) (hr:q.length+l.length≤room) :
  ∃ (e:List Cell) (r:Int),ZrJ room q l=(q++e,0,r)∧Zbe (q++e) r l∧e.length=l.length:=by
 have e:ZrJ room q l=Zc4 q.length (allQ room (l.length+1) q 0 l):=rfl
 rw [e,Zpd]
 rcases Zd0 (Zfo (kf:=kz) (room:=room) (l.length+1) q (l.map kp) (by simp) (by simpa using hs) (fun p hp=>by obtain ⟨x,_,rfl⟩:=YC.1 hp;rfl)) with ⟨e,e1,e2,e3,e4,e5⟩ | ⟨e1,e2⟩
 ·rw [YP] at e4 e5
  exact ⟨e,_,Prod.ext e1 (Prod.ext e2 rfl),⟨_,e3,ZqJ l⟩,by omega⟩
 ·rw [YP] at e2;omega
structure RtC where
 av:Value
 tr:Int
 or:Int
 size:Int
def rRt (c:RtC):List PV:=[.is c.av,.int .i64 c.tr,.is c.av,.int .i64 c.or,.int .i64 c.size]
structure Zb7 (q:List Cell) (av:Value) (c:RtC) (r:RtA):Prop where
 a:c.av=av
 t:Zjr q c.tr r.txs
 o:Zjr q c.or r.orders
 s:c.size=r.size
theorem Zb7.app {q e:List Cell} {av:Value} {c:RtC} {r:RtA} (h:Zb7 q av c r):Zb7 (q++e) av c r:=⟨h.a,h.t.app,h.o.app,h.s⟩
structure SqC where
 av:Value
 root:Int
instance:Inhabited SqC:=⟨⟨.nilIface,0⟩⟩
instance:Inhabited RtC:=⟨⟨.pointer none,0,0,0⟩⟩
def rSq (c:SqC):List PV:=[.is c.av,.int .i64 c.root]
structure StA where
 now:RtA
 snaps:List (Int×RtA)
 next:Int
 all:List TxD
 seqs:List (List Int)
def Zcw (rs:List RtA) (n:Nat) (i:Nat):Prop:=(∃ r ∈ rs,∃ p ∈ r.orders,p.val=(i:Int))∨i+1=n
def rootsA (A:StA):List RtA:=A.now :: A.snaps.map (·.2)
structure StC where
 b:Nat
 q:List Cell
 c:RtC
 cs:List (GE Int RtC)
 ck:Nat
 mv:Value
 alv:Value
 sqv:Value
 sr:List SqC
abbrev ZnT:List (GE Int RtC)→Nat→Value→HP:=mapG (fun c:RtC=>PV.agg (rRt c)) (fun n:Int=>inR .i64 n) (fun n:Int=>Value.int .i64 n)
structure Zan (A:StA) (ex:List RtA) (s:StC):Prop where
 now:Zb7 s.q (arV (some s.b)) s.c A.now
 keys:s.cs.map (·.key)=A.snaps.map (·.1)
 snaps:∀ x ∈ A.snaps,∃ c,gGet x.1 s.cs=some c∧Zb7 s.q (arV (some s.b)) c x.2
 len:s.sr.length=A.seqs.length
 seqs:∀ i,i<A.seqs.length→Zcw (rootsA A++ex) A.seqs.length i→(Nn s.sr i).av=arV (some s.b)∧Zbe s.q (Nn s.sr i).root (Nn A.seqs i)
def Za2 (A:StA):Int:=A.now.size+(A.snaps.map fun x=>x.2.size).sum
structure ZaJ (A:StA):Prop where
 okn:Zlh A.all A.seqs A.now
 oks:∀ x ∈ A.snaps,Zlh A.all A.seqs x.2∧0≤x.1∧x.1<A.next
 ids:(A.snaps.map (·.1)).Pairwise (· < ·)
 szn:A.now.size=sizeH (Za4 A.all A.seqs A.now)
 szs:∀ x ∈ A.snaps,x.2.size=sizeH (Za4 A.all A.seqs x.2)
 held:Za2 A≤10000
 next:0≤A.next
structure Zb1 (A:StA):Prop where
 next:A.next≤100000
 snaps:A.snaps.length≤100000
 all:A.all.length≤100000
 seqs:A.seqs.length≤100000
 len:∀ l ∈ A.seqs,l.length≤1000
 ops:∀ t ∈ A.all,t.ops.length≤1000
def Znx (v:Value) (A:StA) (s:StC):List RS:=[.pt (.val v) 97 [.pv (.is (arV (some s.b))),.pv (.is (arV (some s.b))),.pv (.int .i64 s.c.tr),.pv (.is (arV (some s.b))),.pv (.int .i64 s.c.or),.pv (.int .i64 s.c.size),.pv (.is s.mv),.pv (.int .i64 A.next),.pv (.is s.alv),.pv (.is s.sqv)],RS.hp (arH (some s.b) 65536 s.q),.ob (.val s.mv) (ZnT s.cs s.ck),.ob (.val s.alv) (ZO 36 3 rTx A.all),.ob (.val s.sqv) (ZO 114 2 rSq s.sr)]
def ZX (v:Value) (A:StA):HP:=.ex fun s:StC=>.and (Zan A [] s) (.star (Znx v A s))
theorem Zil {v:Value} {A:StA} {w:World} {f y:Ys} (h:(ZX v A).p w f y):∃ b,v = .pointer (some ⟨b,0,none⟩):=by
 obtain ⟨_,_,h⟩:=h
 exact HP.star_pt h
def Zf5:StA:=⟨⟨[],[],0⟩,[],0,[],[]⟩
theorem Zb7.zero (q:List Cell) (av:Value):Zb7 q av ⟨av,0,0,0⟩ ⟨[],[],0⟩:=⟨rfl,⟨.nil,.nil q,rfl⟩,⟨.nil,.nil q,rfl⟩,rfl⟩
theorem Zan.zero (b:Nat) (mv alv sqv:Value):Zan Zf5 [] ⟨b,[],⟨arV (some b),0,0,0⟩,[],0,mv,alv,sqv,[]⟩:=
 ⟨Zb7.zero _ _,rfl,fun x hx=>(by cases hx),rfl,fun i hi=>absurd hi (YJ i)⟩
theorem ZaJ.zero:ZaJ Zf5:=
 ⟨⟨List.Pairwise.nil,List.Pairwise.nil,fun p hp=>(by cases hp),fun p hp=>(by cases hp)⟩,fun x hx=>(by cases hx),List.Pairwise.nil,rfl,fun x hx=>(by cases hx),by decide,Yar 0⟩
theorem Zdg {l:List (Int×RtA)} (h:∀ x ∈ l,0≤x.2.size):0≤(l.map fun x=>x.2.size).sum:=by
 induction l with
 | nil=>simp
 | cons x l ih=>
  have h1:=h x Yap
  have h2:=ih fun z hz=>h z (YM _ hz)
  rw [YL,YaJ];omega
theorem Zpx {l:List (Int×RtA)} (h:∀ x ∈ l,0≤x.2.size) {x:Int×RtA} (hx:x ∈ l):x.2.size≤(l.map fun x=>x.2.size).sum:=by
 induction l with
 | nil=>cases hx
 | cons y l ih=>
  have h1:=h y Yap
  have h3:=Zdg fun z hz=>h z (YM _ hz)
  rw [YL,YaJ]
  rcases Yo.1 hx with rfl | h4
  ·omega
  ·have h2:=ih (fun z hz=>h z (YM _ hz)) h4
   omega
theorem ZaJ.nn {A:StA} (h:ZaJ A):∀ x ∈ A.snaps,0≤x.2.size:=fun x hx=>by rw [h.szs x hx];omega
theorem ZaJ.now_le {A:StA} (h:ZaJ A):sizeH (Za4 A.all A.seqs A.now)≤10000:=by
 have h1:=h.held
 have h2:=Zdg h.nn
 have h3:=h.szn
 unfold Za2 at h1
 omega
theorem ZaJ.snap_le {A:StA} (h:ZaJ A) {x:Int×RtA} (hx:x ∈ A.snaps):sizeH (Za4 A.all A.seqs x.2)≤10000:=by
 have h1:=h.held
 have h2:=Zpx h.nn hx
 have h3:=h.szs x hx
 have h4:=h.szn
 unfold Za2 at h1
 omega
theorem Zco (all:List TxD) (seqs:List (List Int)) (r:RtA):r.txs.length+r.orders.length≤sizeH (Za4 all seqs r):=by
 unfold sizeH Za4;simp only [YP];omega
theorem ZaJ.nodup {A:StA} (h:ZaJ A):(A.snaps.map (·.1)).Nodup:=by
 rw [List.nodup_iff_pairwise_ne]
 exact List.Pairwise.imp (fun h=>by omega) h.ids
theorem Zan.nd {A:StA} {ex:List RtA} {s:StC} (h:Zan A ex s) (hk:ZaJ A):GNd s.cs:=by
 unfold GNd;rw [h.keys];exact hk.nodup
theorem Zl5 {cs:List (GE Int RtC)} (h:GNd cs) {e:GE Int RtC} (he:e ∈ cs):gGet e.key cs=some e.val:=ZpH (k:=e.key) (v:=e.val) h e he
theorem Zan.val {A:StA} {ex:List RtA} {s:StC} (h:Zan A ex s) (hk:ZaJ A) {e:GE Int RtC} (he:e ∈ s.cs):∃ x ∈ A.snaps,x.1=e.key∧Zb7 s.q (arV (some s.b)) e.val x.2:=by
 have h1:e.key ∈ A.snaps.map (·.1):=h.keys ▸ YC.2 ⟨e,he,rfl⟩
 obtain ⟨x,hx,ex⟩:=YC.1 h1
 obtain ⟨c,hc,hr⟩:=h.snaps x hx
 rw [ex,Zl5 (h.nd hk) he] at hc
 cases hc
 exact ⟨x,hx,ex,hr⟩
theorem Zan.cslen {A:StA} {ex:List RtA} {s:StC} (h:Zan A ex s):s.cs.length=A.snaps.length:=by
 have:=Yai List.length h.keys
 simpa using this
def Zao (seen:List Nat) (cs:List (GE Int RtC)):Int:=(cs.map fun e=>if e.born ∈ seen then e.val.size else 0).sum
theorem ZgW (cs:List (GE Int RtC)):Zao [] cs=0:=by
 unfold Zao
 induction cs with
 | nil=>rfl
 | cons e cs ih=>rw [YL,YaJ,ih];simp
theorem Zep {seen:List Nat} {e:GE Int RtC} (hs:e.born ∉ seen):∀ {cs:List (GE Int RtC)},(cs.map (·.born)).Nodup→e ∈ cs→Zao (seen ++ [e.born]) cs=Zao seen cs+e.val.size
 | [],_,he=>by cases he
 | x :: cs,hn,he=>by
  rw [YL,Ya2] at hn
  have hc:∀ seen cs,Zao seen (x :: cs)=(if x.born ∈ seen then x.val.size else 0)+Zao seen cs:=fun _ _=>by unfold Zao;rw [YL,YaJ]
  rw [hc,hc]
  rcases Yo.1 he with rfl | he
  ·have h1:Zao (seen ++ [e.born]) cs=Zao seen cs:=by
    unfold Zao
    congr 1
    refine YaB fun y hy=>?_
    have h2:y.born≠e.born:=fun h=>hn.1 (YC.2 ⟨y,hy,h⟩)
    simp [h2]
   rw [h1,Yf (by simp),Yb hs];omega
  ·have h2:x.born≠e.born:=fun h=>hn.1 (YC.2 ⟨e,he,h.symm⟩)
   rw [Zep hs hn.2 he]
   have h3:(x.born ∈ seen ++ [e.born])=(x.born ∈ seen):=by simp [h2]
   simp only [h3];omega
theorem Zlu {seen:List Nat} {cs:List (GE Int RtC)} (h:∀ e ∈ cs,e.born ∈ seen):Zao seen cs=(cs.map fun e=>e.val.size).sum:=by
 unfold Zao
 congr 1
 exact YaB fun e he=>Yf (h e he)
theorem Zim {seen:List Nat} : ∀ {cs:List (GE Int RtC)},(∀ e ∈ cs,0≤e.val.size)→0≤Zao seen cs∧Zao seen cs≤(cs.map fun e=>e.val.size).sum
 | [],_=>by simp [Zao]
 | x :: cs,h=>by
  have h1:=Zim (seen:=seen) (cs:=cs) fun e he=>h e (YM _ he)
  have h2:=h x Yap
  have hc:Zao seen (x :: cs)=(if x.born ∈ seen then x.val.size else 0)+Zao seen cs:=by unfold Zao;rw [YL,YaJ]
  rw [hc,YL,YaJ]
  split <;> omega
theorem Zan.sizes {A:StA} {ex:List RtA} {s:StC} (h:Zan A ex s) (hk:ZaJ A):(s.cs.map fun e=>e.val.size).sum=(A.snaps.map fun x=>x.2.size).sum:=by
 have e1:(s.cs.map fun e=>e.val.size)=(s.cs.map (·.key)).map fun k=>((gGet k s.cs).getD default).size:=by
  rw [YaV]
  refine YaB fun e he=>?_
  show _=((gGet e.key s.cs).getD default).size
  rw [Zl5 (h.nd hk) he];rfl
 have e2:(A.snaps.map fun x=>x.2.size)=(A.snaps.map (·.1)).map fun k=>((gGet k s.cs).getD default).size:=by
  rw [YaV]
  refine YaB fun x hx=>?_
  obtain ⟨c,hc,hr⟩:=h.snaps x hx
  show _=((gGet x.1 s.cs).getD default).size
  rw [hc];exact hr.s.symm
 rw [e1,e2,h.keys]
theorem Zan.held {A:StA} {ex:List RtA} {s:StC} (h:Zan A ex s) (hk:ZaJ A) (seen:List Nat):0≤A.now.size+Zao seen s.cs∧A.now.size+Zao seen s.cs≤10000:=by
 have h1:=Zim (seen:=seen) (cs:=s.cs) fun e he=>by
  obtain ⟨x,hx,_,hr⟩:=h.val hk he
  rw [hr.s];exact hk.nn x hx
 have h2:=h.sizes hk
 have h3:=hk.held
 have h4:=hk.szn
 unfold Za2 at h3
 omega
theorem Zan.held_all {A:StA} {ex:List RtA} {s:StC} (h:Zan A ex s) (hk:ZaJ A) {seen:List Nat} (ha:∀ e ∈ s.cs,e.born ∈ seen):A.now.size+Zao seen s.cs=Za2 A:=by
 rw [Zlu ha,h.sizes hk];rfl
end Go.Proofs.YtfecljadegkmdaaGreat
namespace Go.Proofs.YtfecljadegkmdaaGreat
open Go Go.Gm Tryz
set_option linter.unusedVariables false
set_option linter.unusedSimpArgs false
set_option maxHeartbeats 4000000
set_option maxRecDepth 8000
open Go.RowKit Go.Maps Go.Sort Go.Shelf Go.ChangeMaps Go.MapKept
set_option maxRecDepth 100000 in
set_option maxHeartbeats 1000000 in
theorem Zsz (F:Fence) (n:Nat) (h10:F.fn 188) (hro:F.round=none) (hn:1≤n) (l Bm off b clock:Nat) (es:Array MapEntry) (hnd:(es.toList.map (·.born)).Nodup) (hold:∀ x ∈ es.toList,x.born<clock) (hkv:∀ e ∈ es.toList,∃ k:Int,e.key=Zog k) (J:List Int→World→Prop)
  (hY:∀ pre x W,J pre W→pre.length<es.size→YieldAt F (n - 1) prog l #[Zog x] W fun e W'=>e = .returned (.bool true)∧J (pre ++ [x]) W' ∧ KeepsWalks W W')
  (W:World) (hJ:AbidesFrom W.heap.size J) (hm:W.cell? ⟨Bm,off,none⟩ = some (.map (some b))) (hb:W.heap[b]? = some (.map es clock)) (h0:J [] W) :
  CallsIn F n prog 188 #[.func (.yield l) #[] #[],.pointer (some ⟨Bm,off,none⟩)] W fun e W'=>(∃ v,e = .returned v) ∧ ∃ ss:List Int,(ss.map Zog).Perm (es.toList.map (·.key))∧J ss W':=by
 have hbl:b<W.heap.size:=(Y4.1 hb).1
 refine callsIn_of_wp func188 Z h10 ?_ hro
 simp only [ntmps188,YaD,Yl,Yq,Nat.reduceAdd,Nat.reduceSub,Array.replicate_succ,Array.replicate_zero,List.push_toArray,List.append_toArray,Yal,Y0]
 gi_wp2_with (first
  | (gi_at_range;refine Zfq rfl _ 94 rfl 3 92 kr b es clock rfl hb ?_)
  | gi_in)
 go_frame
 have hg0:W.grownBy (W.alloc (.mapIter (some b) clock #[] clock)) none:=World.grownBy_alloc W _ none
 have hr0:(W.alloc (.mapIter (some b) clock #[] clock)).heap[W.heap.size]? = some (.mapIter (some b) clock #[] clock):=World.alloc_heap_new W _
 have hb0:(W.alloc (.mapIter (some b) clock #[] clock)).heap[b]? = some (.map es clock):=(Below.heap_alloc _ _ b hbl).trans hb
 generalize W.alloc (.mapIter (some b) clock #[] clock)=w0 at hg0 hr0 hb0 ⊢
 gi_loopw [3] (fun _ wr=>∃ (seen:Array Nat) (c0:Nat) (ss:List Int),wr.heap[W.heap.size]? = some (.mapIter (some b) clock seen c0)∧clock≤c0∧wr.heap[b]? = some (.map es clock)∧(ss.map Zog).Perm ((es.toList.filter fun x=>seen.contains x.born).map (·.key))∧ss.length+(leftOf es seen).size≤es.size∧J ss wr)
  (fun _ wr=>(leftOf es (wr.iterSeen W.heap.size)).size)
 case atStart=>
  exact ⟨#[],clock,[],hr0,YA _,hb0,by rw [ZoG];exact .nil,by rw [ZoN];simp,hJ [] W w0 none h0 hg0 (fun r e=>by cases e)⟩
 case round=>
  obtain ⟨seen,c0,ss,hr,hsc,hbr,hp,hcs,hJs⟩:=hrel
  gi_wp2_with (first
   | (gi_at_next;refine Zfy rfl _ rfl W.heap.size b clock c0 seen es rfl hr hbr hold hsc ow hnd ?_ ?_)
   | gi_in)
  ·intro hl0
   gi_wp2
   go_end0
   exact ⟨⟨_,rfl⟩,ss,by rw [Zqw hl0] at hp;exact hp,hJs⟩
  ·intro e w2 hN
   obtain ⟨hem,hes⟩:=mem_left hN.left
   obtain ⟨x,hx⟩:=hkv e hem
   have hr2:=hN.it
   have hb2:=hN.mp
   have hen:=hN.entry
   have hlt:=left_shrinks es seen e hN.left
   have hJ2:J ss w2:=hJ ss wr w2 (some W.heap.size) hJs hN.grown (fun r e9=>by cases e9;exact ⟨YA _,_,hr,rfl⟩)
   rw [hx] at hen
   obtain ⟨fn,tmps,assign,body,hy,hR⟩:=hY ss x w2 hJ2 ow
   rw [hx]
   clear hN
   gi_wp2
   refine hR.mono ?_
   rintro e9 W3 ⟨rfl,hJ3,hk3⟩
   gi_wp2
   have hr3:=hk3.same _ _ hr2 rfl
   have hb3:=hk3.same _ _ hb2 rfl
   go_roundw
   case rel=>
    exact ⟨seen.push e.born,clock,ss ++ [x],hr3,YA _,hb3,by
     rw [YZ,List.map_singleton]
     have h9:=((Zkv hnd hem hes).map (·.key)).symm
     rw [YL,hx] at h9
     exact ((List.perm_append_singleton _ _).trans (hp.cons _)).trans h9,by rw [Yc,Yaq];omega,hJ3⟩
   case measure=>
    simp only [World.iterSeen,hr3,hr]
    exact hlt
end Go.Proofs.YtfecljadegkmdaaGreat
namespace Go.Proofs.YtfecljadegkmdaaGreat
open Go Go.Gm Tryz
set_option linter.unusedVariables false
set_option linter.unusedSimpArgs false
set_option maxHeartbeats 4000000
set_option maxRecDepth 8000
open Go.RowKit Go.Maps Go.Sort Go.Shelf Go.ChangeMaps Go.MapKept
theorem Zoj {α:Type} {enc:α→Value} {dec:Value→α} (h:∀ x,dec (enc x)=x) {l m:List α} (hp:(l.map enc).Perm (m.map enc)):l.Perm m:=by
 have h1:=hp.map dec
 rw [YaV,YaV] at h1
 have e:dec ∘ enc=id:=by funext x;exact h x
 rwa [e,List.map_id,List.map_id] at h1
theorem Zls {ν:Type} (ek:ν→PV) (mv:Value) (es:List (GE Int ν)) (ck:Nat) (hN:es.length≤1000000000):FnG prog 166 2 [.clos 188 [.ref [.is mv]]] [mapG ek (fun n:Int=>inR .i64 n) (fun n:Int=>Value.int .i64 n) es ck mv,.star []] PV.one (fun v=>[mapG ek (fun n:Int=>inR .i64 n) (fun n:Int=>Value.int .i64 n) es ck mv,.ex fun l:List Int=>.and (l.Perm (es.map (·.key))) (ZO 3 1 Zs l v)]):=fun w F vs hw hle hvs hpr=>by
 match vs,hvs with
 | [fv],hvs=>
  obtain ⟨caps,hfv,hcaps⟩:=hvs.1
  match caps,hcaps with
  | [cu],hcaps=>
   obtain ⟨Bm,off,us,hcu,hny,hBm,hc,hus⟩:=hcaps.1
   match us,hus with
   | [mu],hus=>
    have hmu:mu=mv:=hus.1.2.1
    subst hmu
    subst hcu
    subst hfv
    obtain ⟨b,rs,hmv,hb,hg,⟨hwf,hkeys⟩,hf⟩:=hpr 0 _ rfl
    have hst:∀ c,¬ F 2 c:=hpr 1 _ rfl
    subst hmv
    have hbl:b<w.heap.size:=(Y4.1 hb).1
    have hm:w.cell? ⟨Bm,off,none⟩ = some (.map (some b)):=hc.1
    have hkm:rs.map (·.key)=es.map (·.key):=hg.keys
    have hbm:rs.map (·.born)=es.map (·.born):=hg.borns
    have hnd:(((rs.map (rEnc (fun n:Int=>Value.int .i64 n))).toArray).toList.map (·.born)).Nodup:=by
     have e1:((rs.map (rEnc (fun n:Int=>Value.int .i64 n))).toArray).toList.map (·.born)=rs.map (·.born):=by rw [YaV];rfl
     rw [e1,hbm];exact hwf.1
    have hold:∀ x ∈ ((rs.map (rEnc (fun n:Int=>Value.int .i64 n))).toArray).toList,x.born<ck:=fun x hx=>by
     obtain ⟨r,hr,rfl⟩:=YC.1 hx
     have h1:r.born ∈ es.map (·.born):=hbm ▸ YC.2 ⟨r,hr,rfl⟩
     obtain ⟨e,he,e1⟩:=YC.1 h1
     show r.born<ck
     rw [← e1];exact hwf.2 e he
    have hkv:∀ x ∈ ((rs.map (rEnc (fun n:Int=>Value.int .i64 n))).toArray).toList,∃ k:Int,x.key=Zog k:=fun x hx=>by
     obtain ⟨r,_,rfl⟩:=YC.1 hx
     exact ⟨r.key,rfl⟩
    have hlen:((rs.map (rEnc (fun n:Int=>Value.int .i64 n))).toArray).size=es.length:=by
     have h1:=Yai List.length hkm
     simp at h1 ⊢;exact h1
    have hseq:SeqGives Fence.wide 10 prog 188 #[.pointer (some ⟨Bm,off,none⟩)] Zog (fun ss=>(ss.map Zog).Perm (((rs.map (rEnc (fun n:Int=>Value.int .i64 n))).toArray).toList.map (·.key))) ((rs.map (rEnc (fun n:Int=>Value.int .i64 n))).toArray).size w:=fun l J W hW hJ hY h0=>
     Zsz Fence.wide 10 trivial rfl ow l Bm off b ck _ hnd hold hkv J hY W hJ ((hW.cell (p:=⟨Bm,off,none⟩) hBm).trans hm) ((hW.block b hbl).trans hb) h0
    have eg:∀ args w,(callFunc 188 args).run prog w = .ok (.enter 188 args) w:=enters_of func188 kr rfl
    have hcalls:=callsIn_wide.1 (ZjX Fence.wide 12 trivial trivial Z ow 188 #[.pointer (some ⟨Bm,off,none⟩)] trivial eg _ _ (by rw [hlen];unfold maxLen;omega) (by rw [hlen];omega) w hseq)
    refine hcalls.mono ?_
    rintro e w' ⟨v,ss,rfl,O,hrow,hnil,hbel⟩
    have hss:ss.Perm (es.map (·.key)):=by
     have e1:((rs.map (rEnc (fun n:Int=>Value.int .i64 n))).toArray).toList.map (·.key)=(es.map (·.key)).map Zog:=by
      rw [← hkm,YaV,YaV];rfl
     rw [e1] at O
     exact Zoj Zqd O
    have hown:∀ c,v.ownBlock=some c→w.heap.size≤c∧c<w'.heap.size:=fun c hc9=>by
     rcases hrow.2 with ⟨rfl,_⟩ | ⟨g,cap,cur,rfl,hbase,hgb,_⟩
     ·simp [Value.ownBlock] at hc9
     ·simp [Value.ownBlock] at hc9
      subst hc9
      exact ⟨hbase,(Y4.1 hgb).1⟩
    have hrow0:w'.ownsRow 0 3 1 v ss.length (ss.flatMap Zq2):=⟨hrow.1,by
     rcases hrow.2 with h | ⟨g,cap,cur,h1,_,h3⟩
     ·exact .inl h
     ·exact .inr ⟨g,cap,cur,h1,Yt _,h3⟩⟩
    have hst2:Stp (List.range' 1 2) w F w' (fun n c=>F n c∨(n=2∧v.ownBlock=some c)):=⟨hbel.os,hbel.tape,hbel.output,hbel.size,fun c hc9 _=>hbel.block c hc9,fun n hn=>by
      funext c
      have:n≠2:=fun e=>hn (by subst e;simp)
      simp [this],fun n hn c hc9=>by
      rcases hc9 with h | ⟨_,h⟩
      ·exact .inl ⟨n,hn,h⟩
      ·exact .inr (hown c h).1⟩
    refine ⟨v,_,rfl,⟨fun n m c h1 h2=>?_,fun n c h1=>?_⟩,hst2,fun n c h1=>?_,?_,fun i h hi=>?_⟩
    ·rcases h1 with h1 | ⟨h1,h1'⟩ <;> rcases h2 with h2 | ⟨h2,h2'⟩
     ·exact hw.dis n m c h1 h2
     ·have:=hw.bd n c h1;have:=(hown c h2').1;omega
     ·have:=hw.bd m c h2;have:=(hown c h1').1;omega
     ·omega
    ·rcases h1 with h1 | ⟨_,h1⟩
     ·have:=hw.bd n c h1;have:=hbel.size;omega
     ·exact (hown c h1).2
    ·rcases h1 with h1 | ⟨h1,_⟩
     ·exact hle n c h1
     ·omega
    ·show v.oneCell' = true
     rcases hrow.2 with ⟨rfl,_⟩ | ⟨g,cap,cur,rfl,_⟩ <;> rfl
    ·match i,hi with
     | 0,hi=>
      simp only [Ybk,Yab] at hi
      subst hi
      exact ⟨b,rs,rfl,(hbel.block b hbl).trans hb,hg.mono hst2.ev,⟨hwf,hkeys⟩,fun c=>by rw [← hf c];simp⟩
     | 1,hi=>
      simp only [List.getElem?_cons_succ,Ybk,Yab] at hi
      subst hi
      refine ⟨ss,hss,ss.flatMap Zq2,hrow0,Zn5 fun x hx=>?_,fun c=>?_⟩
      ·obtain ⟨e,he,e1⟩:=YC.1 (hss.mem_iff.1 hx)
       rw [← e1];exact hkeys e he
      ·have:=hst c
       simp [this]
end Go.Proofs.YtfecljadegkmdaaGreat
namespace Go.Proofs.YtfecljadegkmdaaGreat
open Go Go.Gm Tryz
set_option linter.unusedVariables false
set_option linter.unusedSimpArgs false
set_option maxHeartbeats 4000000
set_option maxRecDepth 8000
def ZbH (h:Zx):Prop:=h.txs.length≤12∧h.orders.length≤24∧(∀ j,j<h.txs.length→(Nn h.txs j).ops.length≤24) ∧ ∀ j,j<h.orders.length→(Nn h.orders j).txs.length≤24
instance (h:Zx):Decidable (ZbH h):=by unfold ZbH;exact inferInstance
def Zfj (d:ZK):Prop:=ZbH ⟨d.was,d.old⟩∧ZbH ⟨d.now,d.new⟩
instance (d:ZK):Decidable (Zfj d):=by unfold Zfj;exact inferInstance
theorem Zo1 (d:ZK):(decide (ZbH ⟨d.was,d.old⟩) && decide (ZbH ⟨d.now,d.new⟩))=decide (Zfj d):=by
 rw [Y6,Yv,Yj,Yj,Yj]
 exact Iff.rfl
theorem ZiO (u:Zx):FnP prog 22 [.agg (Zl u)] (.bool (decide (ZbH u))):=by
 refine FnP.mk func22 Z ntmps22 Z fun B a w F V hfr O=>?_
 obtain ⟨hxl,hyl⟩:=Sat.lenHist O (i:=0) rfl
 refine Ya (Zb O (qx 101 r1 qB) V [2,1] [101,0] (fun _=>rfl) (fun _=>rfl) fun τ a w F O=>?_)
 try dsimp only [RS.sub,SF.sub,CF.sub,csub,Anc.sub,List.map,zCF] at O
 generalize τ 1=v1 at O
 refine Za (Ya (Ya (rZ O (qg 0 101 r1 r1 (qa 101 r1 r1 (qu YbP r1 (qf (Zal .t qi) r1 qz (qR rr (qv 1 101 Z r2 r1 (qw 101 Z r2 r1 (qk Z (fun h=>ZbA YbQ (.w h)) r2 qz (qk Z (fun h=>Zal (.w h) qi) r2 qz (qf (ZaM .t .t) r2 qz qZ)))))))))) V [16,2,1] [101,0] fun O=>?_)))
 refine Zc O Z (fun hc0=>?_) (fun hc0=>?_)
 ·have hg:false=decide (ZbH u):=by
    rw [Y8,Yi]
    rintro ⟨g1,g2,g3,g4⟩
    simp at hc0;omega
  refine Ya (rZ O qB V [2,1] [101,0] fun O=>(Yh (Zf ?_)))
  refine ZB hfr O Z Z Z (.bool hg)
 have hb:u.txs.length≤12∧u.orders.length≤24:=by simp at hc0;omega
 refine Yd (Za (Ya (Ya (rZ O (qg 0 101 r1 r1 (qa 101 r1 r1 (qu YbP r1 (qJ qZ)))) V [20,19,18,2,1] [101,0] fun O=>Ye ?_))))
 obtain ⟨F,O⟩:=O.nM [20,19,18,1] [101,0]
 refine Zbw (σ:=Nat) (fun s=>(⟨[(1,.pv (.is v1)),(18,.pv (.sl rTx u.txs)),(19,.pv (.int .i64 u.txs.length)),(20,.pv (.int .i64 s))],[(0,frame B),(101,.pt (.val v1) 30 [.pv (.sl rTx u.txs),.pv (.sl Zv u.orders)])]⟩:En)) (fun s=>s≤u.txs.length ∧ ∀ j,j<s→(Nn u.txs j).ops.length≤24) (fun s=>u.txs.length - s) 0 O ⟨Yt _,fun j hj=>absurd hj (YJ j)⟩ ?_
 clear O;intro i a w F hC O
 try dsimp only at hC
 try dsimp only at O
 obtain ⟨hi,hq⟩:=hC
 refine Ya (rZ O (qL r2) V [21,20,19,18,1] [101,0] fun O=>Ya ?_)
 refine Zc O Z (fun hc1=>?_) (fun hc1=>?_)
 ·have hil:i<u.txs.length:=by simp at hc1;omega
  refine Yd (Za (Ya (Ye (Ya (Zb O (qy 3 YbP r2 (qf (oR true 3 .t) r1 qz (qf (oH [.int .i64 0,.bool false,.slice none 0 0] 102) trivial qz (qS 3 102 r2 r1 qZ)))) V [20,19,18,4,1] [102,101,0] (fun _=>rfl) (fun _=>rfl) fun τ a w F O=>?_)))))
  try dsimp only [RS.sub,SF.sub,CF.sub,csub,Anc.sub,List.map,Zd,xL,xM,Nat.reduceAdd,xD,xE,xT,xU,xC,xN,zCF,ldSF] at O
  generalize τ 4=v4 at O
  refine Za (Ya (rZ O (qg 2 102 r1 r1 (qa 102 r1 r1 (qu YbR r1 (qf (Zal .t qi) r1 qz qZ)))) V [27,20,19,18,1] [101,0] fun O=>?_))
  refine Zc O Z (fun hc2=>?_) (fun hc2=>?_)
  ·have hg:false=decide (ZbH u):=by
     rw [Y8,Yi]
     rintro ⟨g1,g2,g3,g4⟩
     have:=g3 i hil;rw [Yg] at hc2;simp at hc2;omega
   refine Ya (rZ O qB V [20,19,18,2,1] [101,0] fun O=>(Yh (Zr (Zf (Zf (Zr (Zf ?_)))))))
   refine ZB hfr O Z Z Z (.bool hg)
  have hqi:(Nn u.txs i).ops.length≤24:=by rw [Yg] at hc2;simp at hc2;omega
  refine Yd (Zi (Za (rZ O (qp r1 (qR rr qZ)) V [20,19,18,1] [101,0] fun O=>?_)))
  replace O:=O.ent (i:=20) (s':=.pv (.int .i64 ((i+1:Nat):Int))) Z (.int (Ze ow))
  obtain ⟨F,O⟩:=O.nM [20,19,18,1] [101,0]
  exact ⟨i+1,F,⟨by omega,fun j hj=>by rcases Yy (YD hj) with h | h;exact hq j h;rw [h];exact hqi⟩,O,by omega⟩
 have hT:∀ j,j<u.txs.length→(Nn u.txs j).ops.length≤24:=fun j hj=>hq j (by simp at hc1;omega)
 clear hq hi
 refine Ym (Zg (Zg (Zo (Za (Ya (Ya (rZ O (qg 1 101 r1 r1 (qa 101 r1 r1 (qu YbQ r1 (qJ qZ)))) V [32,31,30] [0] fun O=>Ye ?_)))))))
 obtain ⟨F,O⟩:=O.nM [32,31,30] [0]
 refine Zbw (σ:=Nat) (fun s=>(⟨[(30,.pv (.sl Zv u.orders)),(31,.pv (.int .i64 u.orders.length)),(32,.pv (.int .i64 s))],[(0,frame B)]⟩:En)) (fun s=>s≤u.orders.length ∧ ∀ j,j<s→(Nn u.orders j).txs.length≤24) (fun s=>u.orders.length - s) 0 O ⟨Yt _,fun j hj=>absurd hj (YJ j)⟩ ?_
 clear O;intro i a w F hC O
 try dsimp only at hC
 try dsimp only at O
 obtain ⟨hi,hq⟩:=hC
 refine Ya (rZ O (qL r2) V [33,32,31,30] [0] fun O=>Ya ?_)
 refine Zc O Z (fun hc3=>?_) (fun hc3=>?_)
 ·have hil:i<u.orders.length:=by simp at hc3;omega
  refine Yd (Za (Ya (Ye (Ya (Zb O (qy 2 YbQ r2 (qf (oR true 2 .t) r1 qz (qf (oH [.int .i64 0,.slice none 0 0] 103) trivial qz (qS 2 103 r2 r1 qZ)))) V [32,31,30,6] [103,0] (fun _=>rfl) (fun _=>rfl) fun τ a w F O=>?_)))))
  try dsimp only [RS.sub,SF.sub,CF.sub,csub,Anc.sub,List.map,Zd,xL,xM,Nat.reduceAdd,xD,xE,xT,xU,xC,xN,zCF,ldSF] at O
  generalize τ 6=v6 at O
  refine Za (Ya (rZ O (qg 1 103 r1 r1 (qa 103 r1 r1 (qu YbO r1 (qf (Zal .t qi) r1 qz qZ)))) V [39,32,31,30] [0] fun O=>?_))
  refine Zc O Z (fun hc4=>?_) (fun hc4=>?_)
  ·have hg:false=decide (ZbH u):=by
     rw [Y8,Yi]
     rintro ⟨g1,g2,g3,g4⟩
     have:=g4 i hil;rw [Yg] at hc4;simp at hc4;omega
   refine Ya (rZ O qB V [32,31,30,2] [0] fun O=>(Yh (Zr (Zf (Zf (Zr (Zf ?_)))))))
   refine ZB hfr O Z Z Z (.bool hg)
  have hqi:(Nn u.orders i).txs.length≤24:=by rw [Yg] at hc4;simp at hc4;omega
  refine Yd (Zi (Za (rZ O (qp r1 (qR rr qZ)) V [32,31,30] [0] fun O=>?_)))
  replace O:=O.ent (i:=32) (s':=.pv (.int .i64 ((i+1:Nat):Int))) Z (.int (Ze ow))
  obtain ⟨F,O⟩:=O.nM [32,31,30] [0]
  exact ⟨i+1,F,⟨by omega,fun j hj=>by rcases Yy (YD hj) with h | h;exact hq j h;rw [h];exact hqi⟩,O,by omega⟩
 have hO:∀ j,j<u.orders.length→(Nn u.orders j).txs.length≤24:=fun j hj=>hq j (by simp at hc3;omega)
 have hg:true=decide (ZbH u):=by rw [Y8,Yj];exact ⟨hb.1,hb.2,hT,hO⟩
 refine Ym (Zg (Zg (Zo (Za (Ya (rZ O qB V [2] [0] fun O=>Yh ?_))))))
 refine ZB hfr O Z Z Z (.bool hg)
theorem Zqi (d:ZK):FnP prog 48 [.agg (Zaa d)] (.bool (decide (Zfj d))):=by
 refine FnP.mk func48 Z ntmps48 Z fun B a w F V hfr O=>Ya ?_
 refine Zb O (qx 101 r1 qB) V [2,1] [101,0] (fun _=>rfl) (fun _=>rfl) fun τ a w F O=>?_
 try dsimp only [RS.sub,SF.sub,CF.sub,csub,Anc.sub,List.map,zCF] at O
 generalize τ 1=v1 at O
 refine Za (Ya (rZ O (qg 0 101 r1 r1 (qa 101 r1 r1 (qg 2 101 r1 r1 (qa 101 r1 r1 (qf (oB [(0,.tmp 4),(1,.tmp 6)] [.slice none 0 0,.slice none 0 0] [(0,1),(1,1)] (.one Z .t Zas kr (.one Z .t Zas kr .nil))) r2 qz (qf (oP (ZiO ⟨d.was,d.old⟩) func22 (Args.one (.pagg .t))) r1 qz (qR rr (qv 1 101 Z r2 r1 (qw 101 Z r2 r1 (qv 3 101 Z r2 r1 (qw 101 Z r2 r1 (qk Z (fun h=>Zc9 (r:=[(0,.tmp 11),(1,.tmp 13)]) (zs:=[.slice none 0 0,.slice none 0 0]) (pl:=[(0,1),(1,1)]) kr kr (.one Z (.w h) Zas kr (.one Z (.w h) Zas kr .nil)) (by rfl)) r3 qz (qk Z (fun h=>oP (ZiO ⟨d.now,d.new⟩) func22 (Args.one (.pagg (.w h)))) r2 qz (qf (ZJ .t .t) r2 qz (qO rr qZ))))))))))))))) V [2] [0] fun O=>Yh ?_))
 refine ZB hfr O Z Z Z (.bool (Zo1 d))
instance (h:Zx):Decidable (ZbH h):=by unfold ZbH;exact inferInstance
def Zjf (os:List OrdD) (k:Int):List OrdD:=if isK OrdD.key k os=true then os else os.take (lowK OrdD.key k os) ++ [⟨k,[]⟩] ++ os.drop (lowK OrdD.key k os)
def ZkO (k:Int):List OrdD→List OrdD
 | []=>[⟨k,[]⟩]
 | o :: os=>if o.key<k then o :: ZkO k os else if o.key=k then o :: os else ⟨k,[]⟩ :: o :: os
theorem ZT {α:Type} [Inhabited α] {κ:α→Int} {l:List α} : ZeA κ l ↔ l.Pairwise fun a b=>κ a<κ b:=by
 rw [Y2]
 constructor
 ·intro h i j hi hj hij
  have:=h i j hij hj
  rwa [Zy hi,Zy hj] at this
 ·intro h a b hab hb
  rw [Zy ow,Zy hb]
  exact h a b ow hb hab
theorem Zi7 (k:Int):∀ {os:List OrdD},ZeA OrdD.key os→Zjf os k=ZkO k os
 | [],_=>rfl
 | o :: os,h=>by
  rw [ZT,Yx] at h
  have ih:=Zi7 k (os:=os) (ZT.2 h.2)
  have e1:lowK OrdD.key k (o :: os)=if o.key<k then lowK OrdD.key k os+1 else 0:=by
   unfold lowK
   split
   ·rename_i h1
    rw [List.takeWhile_cons_of_pos (by simpa using h1),Yl]
   ·rename_i h1
    rw [List.takeWhile_cons_of_neg (by simpa using h1)];rfl
  have e2:isK OrdD.key k (o :: os)=(decide (o.key=k) || isK OrdD.key k os):=by unfold isK;rw [List.any_cons]
  by_cases h1:o.key<k
  ·rw [Yf h1] at e1
   have e3:isK OrdD.key k (o :: os)=isK OrdD.key k os:=by rw [e2,Yu ow,Ybw]
   unfold Zjf at ih ⊢
   unfold ZkO
   rw [Yf h1,e3,e1]
   split
   ·rename_i h2;rw [Yf h2] at ih;exact Yai (o :: ·) ih
   ·rename_i h2;rw [Yb h2] at ih;rw [← ih];simp
  ·rw [Yb h1] at e1
   unfold Zjf ZkO
   rw [Yb h1,e1]
   by_cases h3:o.key=k
   ·rw [Yf h3,Yf (by rw [e2,YI h3,YbB])]
   ·rw [Yb h3,Yb]
    ·simp
    ·rw [e2,Yu h3,Ybw]
     unfold isK
     rw [Ya9]
     rintro ⟨x,hx,hk⟩
     have:=h.1 x hx
     simp at hk
     omega
theorem ZmS {k:Int} {o:OrdD} : ∀ {os:List OrdD},o ∈ ZkO k os→o ∈ os∨o = ⟨k,[]⟩
 | [],h=>by simp [ZkO] at h;exact .inr h
 | x :: os,h=>by
  unfold ZkO at h
  split at h
  ·rcases Yo.1 h with h | h
   ·exact .inl (by simp [h])
   ·rcases ZmS h with h | h
    ·exact .inl (by simp [h])
    ·exact .inr h
  ·split at h
   ·exact .inl h
   ·rcases Yo.1 h with h | h
    ·exact .inr h
    ·exact .inl h
theorem ZkN {k:Int} : ∀ {os:List OrdD},(os.Pairwise fun a b=>a.key<b.key)→(ZkO k os).Pairwise fun a b=>a.key<b.key
 | [],_=>by simp [ZkO]
 | x :: os,h=>by
  rw [Yx] at h
  unfold ZkO
  split
  ·rename_i h1
   rw [Yx]
   refine ⟨fun o ho=>?_,ZkN h.2⟩
   rcases ZmS ho with h3 | h3
   ·exact h.1 o h3
   ·rw [h3];exact h1
  ·split
   ·rw [Yx];exact h
   ·rw [Yx,Yx]
    refine ⟨fun o ho=>?_,h⟩
    rcases Yo.1 ho with h3 | h3
    ·rw [h3];show k<x.key;omega
    ·have:=h.1 o h3;show k<o.key;omega
theorem insK_rise {os:List OrdD} (k:Int) (h:ZeA OrdD.key os):ZeA OrdD.key (Zjf os k):=by
 rw [Zi7 k h,ZT]
 exact ZkN (ZT.1 h)
theorem ZlX (os:List OrdD) (k:Int):(Zjf os k).length≤os.length+1:=by
 unfold Zjf
 split
 ·omega
 ·rw [Yc,Yc,Yk,YK];simp;omega
theorem Zmp {os:List OrdD} {k:Int} {o:OrdD} (h:o ∈ Zjf os k):o ∈ os∨o = ⟨k,[]⟩:=by
 unfold Zjf at h
 split at h
 ·exact .inl h
 ·rw [YB,YB] at h
  rcases h with (h | h) | h
  ·exact .inl (Yat h)
  ·exact .inr (by simpa using h)
  ·exact .inl (YaU h)
def Zeq (t:TxD) (os:List OrdD) (ks:List Int):List OrdD:=if t.done=true then ks.foldl Zjf os else os
theorem ZnK {t:TxD} {os:List OrdD} (h:ZeA OrdD.key os) (hs:ZbG os) (ks:List Int):ZeA OrdD.key (Zeq t os ks)∧(Zeq t os ks).length≤os.length+ks.length ∧ ∀ o ∈ Zeq t os ks,o.txs.length≤1000:=by
 unfold Zeq
 split
 ·have key:∀ (ks:List Int) (os:List OrdD),ZeA OrdD.key os→(∀ o ∈ os,o.txs.length≤1000)→ZeA OrdD.key (ks.foldl Zjf os)∧(ks.foldl Zjf os).length≤os.length+ks.length ∧ ∀ o ∈ ks.foldl Zjf os,o.txs.length≤1000:=by
   intro ks
   induction ks with
   | nil=>intro os h1 h2;exact ⟨h1,by simp,h2⟩
   | cons k ks ih=>
    intro os h1 h2
    obtain ⟨g1,g2,g3⟩:=ih (Zjf os k) (insK_rise k h1) (fun o ho=>by
     rcases Zmp ho with h | h
     ·exact h2 o h
     ·rw [h];simp)
    have:=ZlX os k
    exact ⟨g1,by rw [Yaw,Yl];omega,g3⟩
  exact key ks os h hs.2
 ·exact ⟨h,by omega,hs.2⟩
def Zrx (t:TxD) (o:OrdD):OrdD:=⟨o.key,if t.done=true∧0<wcnt t.ops o.key then Zhr o.txs t.id else Zbx o.txs t.id⟩
def settleO (t:TxD) (os:List OrdD):List OrdD:=((Zeq t os (Zah t)).map (Zrx t)).filter fun o=>!decide (o.txs = [])
abbrev Zul (T TR:TypeId) (p va:Value) (os:List OrdD):HP:=HP.ex fun vb:Value=>HP.star [.pt (.val p) T [.pv (.is va),.pv (.is vb)],.ob (.val vb) (ZO TR 2 Zv os)]
def Zbi:Zx:=⟨[],[]⟩
theorem ZaF {g:Zx} (h:ZG g):ZeA TxD.id g.txs∧ZeA OrdD.key g.orders:=by
 constructor
 ·have hi:Zjt (g.txs.map TxD.id):=Zjj fun i hi h0=>by
   have hi':i<g.txs.length:=by simpa using hi
   rw [Zdz ow,Zdz hi']
   exact (h.2.1 i hi').1 h0
  rw [ZT]
  exact YaP.1 hi
 ·have h2:=(Zdb g).2 h.2.2
  have hi:Zjt (g.orders.map OrdD.key):=Zjj fun i hi h0=>by
   have hi':i<g.orders.length:=by simpa using hi
   rw [Zdz ow,Zdz hi']
   exact (h2.2 i hi').1 h0
  rw [ZT]
  exact YaP.1 hi
def Zm7 (t:TxD) (v:ZcF):Bool:=decide (v.tx=t.id) && decide ((wcnt t.ops v.key:Int)<v.nth)
def ZkA (t x:TxD):Bool:=decide (x.id≠t.id) && (ZaB x).any (Zm7 t)
def Zg6 (g:Zx) (t:TxD):Bool:=g.txs.any (ZkA t)
theorem ZmH {α:Type} [Inhabited α] {p:α→Bool} {l:List α} (h:∀ q,q<l.length→p (Nn l q)=false):l.any p=false:=by
 rw [Ya5]
 intro x hx
 obtain ⟨k,hk,e⟩:=YH hx
 have:=h k hk
 rw [Zy hk,e] at this
 simp [this]
theorem ZmT {α:Type} [Inhabited α] {p:α→Bool} {l:List α} {i:Nat} (hi:i<l.length) (h:p (Nn l i)=true):l.any p=true:=by
 rw [Ya9]
 exact ⟨_,ZU hi,h⟩
def Zjs (g:Zx) (t:TxD) (there:Int) (wanted:Bool):Int×Int:=if ¬ ZG g then (0,5) else if Zaf t≠0 then (0,Zaf t) else if isK TxD.id t.id g.txs≠wanted then (0,there) else if Za3 g t=false then (0,6) else (lowK TxD.id t.id g.txs,0)
def Zbz (g:Zx) (t:TxD):Zx×Int:=if (Zjs g t 4 false).2≠0 then (Zbi,(Zjs g t 4 false).2) else if g.txs.length=4096 then (Zbi,2) else (⟨g.txs.take (lowK TxD.id t.id g.txs) ++ [t] ++ g.txs.drop (lowK TxD.id t.id g.txs),settleO t g.orders⟩,0)
def Zey (id:Int):TxD:=⟨id,false,[]⟩
def Zbl (g:Zx) (id:Int):Zx×Int:=if ¬ ZG g then (Zbi,5) else if isK TxD.id id g.txs=false then (Zbi,3) else if Zg6 g (Zey id)=true then (Zbi,7) else (⟨g.txs.take (lowK TxD.id id g.txs)++g.txs.drop (lowK TxD.id id g.txs+1),settleO (Zey id) g.orders⟩,0)
def ZcA (g:Zx) (t:TxD):Zx×Int:=if (Zjs g t 3 true).2≠0 then (Zbi,(Zjs g t 3 true).2) else if Zg6 g t=true then (Zbi,7) else (⟨g.txs.set (lowK TxD.id t.id g.txs) t,settleO t g.orders⟩,0)
theorem ZrC {g:Zx} {t:TxD} {there:Int} {wanted:Bool} (ht:there≠0) (h:(Zjs g t there wanted).2=0):ZG g∧Zaf t=0∧isK TxD.id t.id g.txs=wanted∧Za3 g t=true∧(Zjs g t there wanted).1=lowK TxD.id t.id g.txs:=by
 unfold Zjs at h ⊢
 split at h
 ·simp at h
 ·rename_i h1
  split at h
  ·rename_i h2;exact absurd h h2
  ·rename_i h2
   split at h
   ·exact absurd h ht
   ·rename_i h3
    split at h
    ·simp at h
    ·rename_i h4
     rw [Yb h1,Yb h2,Yb h3,Yb h4]
     exact ⟨YQ.1 h1,YQ.1 h2,YQ.1 h3,by simpa using h4,rfl⟩
theorem Zjn {α:Type} [Inhabited α] {κ:α→Int} {k:Int} {l:List α} (hs:ZeA κ l) (h:isK κ k l=true):lowK κ k l<l.length∧κ (Nn l (lowK κ k l))=k:=by
 obtain ⟨x,hx,hk⟩:=Ya9.1 h
 obtain ⟨q,hq,e⟩:=YH hx
 have hk':κ (Nn l q)=k:=by rw [Zy hq,e];simpa using hk
 have hl:=Zph (κ:=κ) (k:=k) (l:=l) (i:=q) (Nat.le_of_lt hq) (fun p hp=>by have:=hs p q hp hq;omega) (fun p hp hp2=>by have:=Zr3 hs hp hp2;omega)
 rw [hl]
 exact ⟨hq,hk'⟩
theorem ZoI (l:List Int) (tx place:Int):(Zcp l tx place).1.length≤l.length:=by
 unfold Zcp
 split
 ·simp
 ·split
  ·simp
  ·rename_i h1 h2
   have hr:=Zih tx l
   have h3:(l.eraseIdx (Zez tx l).toNat).length=l.length - 1:=by rw [List.length_eraseIdx,Yf ow]
   show (ZpU _ _ _).length≤_
   unfold ZpU
   split
   ·rw [Yc,Yl,Yk,YK];omega
   ·omega
theorem Zrn (l:List Int) (tx place:Int) (hl:l.length≤1000000):FnP prog 138 [.sl Zs l,.int .i64 tx,.int .i64 place] (.tup [.sl Zs (Zcp l tx place).1,.int .i64 (Zcp l tx place).2]):=by
 refine FnP.mk func138 Z ntmps138 Z fun B a w F V hfr O=>?_
 have hll:=Sat.lenSl O (i:=0) rfl
 have hxr:=Zih tx l
 have hxw:IntKind.wrap .i64 (Zez tx l+1)=Zez tx l+1:=Zj ow
 refine Ya (rZ O (qC (qI qZ)) V [7,6,2,1,0] [0] fun O=>Ya ?_)
 refine rZ O (qR rr (qR rr (qf (oP (ZpQ l tx) func205 (Args.two .t .t)) r2 qz (qO rr qZ)))) V [8,7,6,2,1,0] [0] fun O=>(Ya (Ya ?_))
 refine rZ O (qR rr (qf (ZaR .t qi) r1 qz qZ)) V [15,8,7,6,2,1,0] [0] fun O=>?_
 refine Zc O Z (fun hc0=>?_) (fun hc0=>?_)
 ·have hix:Zez tx l<0:=by simpa using hc0
  have hm:Zcp l tx place=([],3):=Yf hix
  refine Ya (rZ O (qC (qI qZ)) V [8,7,6,2,1,0] [0] fun O=>(Yh (Zf ?_)))
  refine Z3 hfr O Z (.tmp Z (.tmp Z .nil)) (.two (.trans .nilSl (.sl (by first | (rw [hm];done) | exact hm1))) (.int (by first | (rw [hm];done) | exact hm2)))
 have hix:0≤Zez tx l:=by simp at hc0;omega
 refine Yd (Za (Ya (Ya (rZ O (qR rr (qR rr (qf (oP (ZpJ l place) func206 (Args.two .t .t)) r2 qz (qf (Z1 .t) r1 qz qZ)))) V [19,8,7,6,2,1,0] [0] fun O=>?_))))
 refine Zc O Z (fun hc1=>?_) (fun hc1=>?_)
 ·have hpl:¬ (0≤place∧place<l.length):=by simp at hc1;omega
  have hm:Zcp l tx place=([],1):=(Yb ow).trans (Yf hpl)
  refine Ya (rZ O (qC (qI qZ)) V [8,7,6,2,1,0] [0] fun O=>(Yh (Zf ?_)))
  refine Z3 hfr O Z (.tmp Z (.tmp Z .nil)) (.two (.trans .nilSl (.sl (by first | (rw [hm];done) | exact hm1))) (.int (by first | (rw [hm];done) | exact hm2)))
 have hpl:0≤place∧place<l.length:=by simp at hc1;omega
 have hm:Zcp l tx place=(ZpU (l.eraseIdx (Zez tx l).toNat) place tx,0):=(Yb ow).trans (Yb (by simp;omega))
 refine Yd (Za (Ya (rZ O (qR rr (qR rr (qf (oP (ZsK l (Zez tx l) hl ow) func208 (Args.two .t .t)) r2 qz (qR rr (qR rr (qf (oP (Zr4 (l.eraseIdx (Zez tx l).toNat) place tx (by rw [List.length_eraseIdx];split <;> omega)) func207 (Args.three .t .t .t)) r3 qz (qR rr (qf (o_extract .t Z) r1 qz (qf (o_extract .t Z) r1 qz (qO rr (qO rr qZ))))))))))) V [9,7,6] [0] fun O=>Ya ?_)))
 refine rZ O (qR rr (qO rr (qI qZ))) V [7,6] [0] fun O=>Yh ?_
 refine Z3 hfr O Z (.tmp Z (.tmp Z .nil)) (.two (.sl (by first | (rw [hm];done) | exact hm1)) (.int (by first | (rw [hm];done) | exact hm2)))
def ZbJ (g:Zx) (key:Int) (rule:List Int→List Int×Int):Zx×Int:=if ¬ ZG g then (Zbi,5) else if isK OrdD.key key g.orders=false then (Zbi,3) else if (rule (Nn g.orders (lowK OrdD.key key g.orders)).txs).2≠0 then (Zbi,(rule (Nn g.orders (lowK OrdD.key key g.orders)).txs).2) else (⟨g.txs,g.orders.set (lowK OrdD.key key g.orders) ⟨(Nn g.orders (lowK OrdD.key key g.orders)).key,(rule (Nn g.orders (lowK OrdD.key key g.orders)).txs).1⟩⟩,0)
def Zi4 (o:OrdD) (l:List Int):List Int×Int:=if l.Perm o.txs then (o.txs,0) else ([],8)
def ZcB (g:Zx) (o:OrdD):Zx×Int:=ZbJ g o.key (Zi4 o)
def ZjM (g:Zx) (key id place:Int):Zx×Int:=ZbJ g key fun l=>Zcp l id place
section
set_option linter.unusedSectionVars false
variable {α:Type} {κ:α→Int} {t x:α} {l out r:List α} {d:Bool}
def putGR (κ:α→Int) (t:α):List α→Bool→List α
 | [],d=>if d=true then [] else [t]
 | x :: l,d=>(if d=false∧κ t≤κ x then [t] else [])++(if κ x=κ t then [] else [x])++putGR κ t l (d || decide (κ t≤κ x))
theorem ZcC (hA:d=false∧κ t≤κ x) (V:¬ κ x=κ t) (h:out++putGR κ t (x :: l) d=r):out ++ [t] ++ [x] ++ putGR κ t l true=r:=by
 rw [← h,putGR,Yf hA,Yb V];simp [hA.2]
theorem ZcG (hA:d=false∧κ t≤κ x) (V:κ x=κ t) (h:out++putGR κ t (x :: l) d=r):out ++ [t] ++ putGR κ t l true=r:=by
 rw [← h,putGR,Yf hA,Yf V];simp [hA.2]
theorem ZpT (hA:¬ (d=false∧κ t≤κ x)):(d || decide (κ t≤κ x))=d:=by
 cases d
 ·simp at hA ⊢;omega
 ·rfl
theorem ZcE (hA:¬ (d=false∧κ t≤κ x)) (V:¬ κ x=κ t) (h:out++putGR κ t (x :: l) d=r):out ++ [x] ++ putGR κ t l d=r:=by
 rw [← h,putGR,Yb hA,Yb V,ZpT hA];simp
theorem Zcz (hA:¬ (d=false∧κ t≤κ x)) (V:κ x=κ t) (h:out++putGR κ t (x :: l) d=r):out++putGR κ t l d=r:=by
 rw [← h,putGR,Yb hA,Yf V,ZpT hA];simp
theorem ZbP:∀ l:List α,putGR κ t l true=l.filter fun x=>!decide (κ x=κ t)
 | []=>rfl
 | x :: l=>by
  rw [putGR,Yb (by simp),Yal,YbB,ZbP l]
  split
  ·rename_i h;rw [Yaa (by simpa using h)];rfl
  ·rename_i h;rw [Y9 (by simpa using h)];rfl
theorem Zht (l:List α) (d:Bool):(putGR κ t l d).length≤l.length+1:=by
 have h2:∀ l:List α,(putGR κ t l true).length≤l.length:=fun l=>by rw [ZbP];exact YR _ _
 induction l generalizing d with
 | nil=>cases d <;> simp [putGR]
 | cons x l ih=>
  have h1:=ih (d || decide (κ t≤κ x))
  rw [putGR,Yc,Yc]
  have h3:=h2 l
  by_cases hA:d=false∧κ t≤κ x
  ·rw [show (d || decide (κ t≤κ x))=true by simp [hA.2],Yf hA]
   split <;> simp <;> omega
  ·rw [Yb hA]
   split <;> simp <;> omega
theorem Zet {k:Int} (h:∀ x ∈ l,k<κ x):(l.filter fun x=>!decide (κ x=k))=l:=by
 rw [List.filter_eq_self]
 intro x hx
 have:=h x hx
 simp;omega
theorem ZgI {k:Int} : lowK κ k (x :: l)=if κ x<k then lowK κ k l+1 else 0:=by
 unfold lowK
 split
 ·rename_i h1;rw [List.takeWhile_cons_of_pos (by simpa using h1),Yl]
 ·rename_i h1;rw [List.takeWhile_cons_of_neg (by simpa using h1)];rfl
theorem ZbT {k:Int} : isK κ k (x :: l)=(decide (κ x=k) || isK κ k l):=by unfold isK;rw [List.any_cons]
theorem ZmG {k:Int} (h:∀ x ∈ l,k<κ x):isK κ k l=false:=by
 unfold isK
 rw [Ya5]
 intro x hx
 have:=h x hx
 simp;omega
theorem Zhi (hs:l.Pairwise fun a b=>κ a<κ b) (hk:isK κ (κ t) l=false):putGR κ t l false=l.take (lowK κ (κ t) l) ++ [t] ++ l.drop (lowK κ (κ t) l):=by
 induction l with
 | nil=>rfl
 | cons x l ih=>
  rw [Yx] at hs
  rw [ZbT,YaG,Yi] at hk
  rw [putGR,Yb hk.1,ZgI]
  by_cases h:κ x<κ t
  ·rw [Yb ow,Yf h,show (false || decide (κ t≤κ x))=false by simp;omega,ih hs.2 hk.2];simp
  ·rw [Yf ⟨rfl,by omega⟩,Yb h,show (false || decide (κ t≤κ x))=true by simp;omega,ZbP,Zet fun y hy=>by have:=hs.1 y hy;omega];simp
theorem Zhp (hs:l.Pairwise fun a b=>κ a<κ b) (hk:isK κ (κ t) l=true):putGR κ t l false=l.set (lowK κ (κ t) l) t:=by
 induction l with
 | nil=>simp [isK] at hk
 | cons x l ih=>
  rw [Yx] at hs
  rw [putGR,ZgI]
  by_cases h:κ x<κ t
  ·rw [ZbT,Yu ow,Ybw] at hk
   rw [Yb ow,Yb ow,Yf h,show (false || decide (κ t≤κ x))=false by simp;omega,ih hs.2 hk];rfl
  ·rw [Yf ⟨rfl,by omega⟩,Yb h,show (false || decide (κ t≤κ x))=true by simp;omega,ZbP,Zet fun y hy=>by have:=hs.1 y hy;omega]
   have hx:κ x=κ t:=by
    refine Yae fun h9=>?_
    rw [ZbT,Yu h9,Ybw,ZmG fun y hy=>by have:=hs.1 y hy;omega] at hk
    cases hk
   rw [Yf hx];rfl
theorem ZhU {k:Int} (hs:l.Pairwise fun a b=>κ a<κ b) (hk:isK κ k l=true):(l.filter fun x=>!decide (κ x=k))=l.take (lowK κ k l)++l.drop (lowK κ k l+1):=by
 induction l with
 | nil=>simp [isK] at hk
 | cons x l ih=>
  rw [Yx] at hs
  rw [ZgI]
  by_cases h:κ x<k
  ·rw [ZbT,Yu ow,Ybw] at hk
   rw [Y9 (by simp;omega),Yf h,ih hs.2 hk];rfl
  ·have hx:κ x=k:=by
    refine Yae fun h9=>?_
    rw [ZbT,Yu h9,Ybw,ZmG fun y hy=>by have:=hs.1 y hy;omega] at hk
    cases hk
   rw [Yaa (by simpa using hx),Yb h,Zet fun y hy=>by have:=hs.1 y hy;omega];simp
theorem ZeM {y:α} (h:y ∈ putGR κ t l d):(y=t∧d=false)∨(y ∈ l∧κ y≠κ t):=by
 induction l generalizing d with
 | nil=>cases d <;> simp [putGR] at h;exact .inl ⟨h,rfl⟩
 | cons x l ih=>
  rw [putGR,YB,YB] at h
  rcases h with (h | h) | h
  ·split at h
   ·rename_i h1;exact .inl ⟨by simpa using h,h1.1⟩
   ·cases h
  ·split at h
   ·cases h
   ·rename_i h1
    have e:y=x:=by simpa using h
    subst e
    exact .inr ⟨by simp,h1⟩
  ·rcases ih h with ⟨h1,h2⟩ | ⟨h1,h2⟩
   ·rw [YaG] at h2;exact .inl ⟨h1,h2.1⟩
   ·exact .inr ⟨by simp [h1],h2⟩
theorem Zd8 (hs:l.Pairwise fun a b=>κ a<κ b):(putGR κ t l d).Pairwise fun a b=>κ a<κ b:=by
 induction l generalizing d with
 | nil=>cases d <;> simp [putGR]
 | cons x l ih=>
  rw [Yx] at hs
  have hf:=hs.2.filter fun x=>!decide (κ x=κ t)
  rw [putGR]
  by_cases hA:d=false∧κ t≤κ x
  ·rw [Yf hA,show (d || decide (κ t≤κ x))=true by simp [hA.2],ZbP]
   have h1:∀ y ∈ l.filter (fun x=>!decide (κ x=κ t)),κ x<κ y:=fun y hy=>hs.1 y (YT.1 hy).1
   split
   ·rw [YF,YaQ,Yx]
    exact ⟨fun y hy=>by have:=h1 y hy;omega,hf⟩
   ·rename_i h2
    rw [Yp,YaQ,YaQ,Yx,Yx]
    refine ⟨fun y hy=>?_,h1,hf⟩
    rcases Yo.1 hy with rfl | hy
    ·omega
    ·have:=h1 y hy;omega
  ·rw [Yb hA,Yal]
   have ih2:=ih (d:=d || decide (κ t≤κ x)) hs.2
   split
   ·simpa using ih2
   ·rename_i h2
    rw [YaQ,Yx]
    refine ⟨fun y hy=>?_,ih2⟩
    rcases ZeM hy with ⟨rfl,h3⟩ | ⟨h3,_⟩
    ·rw [YaG] at h3
     have:=YaR h3.2
     omega
    ·exact hs.1 y h3
end
def getO (os:List OrdD) (k:Int):List Int:=((os.find? fun o=>decide (o.key=k)).map OrdD.txs).getD []
theorem Zai {o:OrdD} {os:List OrdD} {k:Int} : getO (o :: os) k=if o.key=k then o.txs else getO os k:=by
 unfold getO
 rw [List.find?_cons]
 by_cases h:o.key=k <;> simp [h]
theorem ZdO {os:List OrdD} {k:Int} (h:∀ o ∈ os,o.key≠k):getO os k = []:=by
 unfold getO
 rw [YaS.2 fun o ho=>by simpa using h o ho];rfl
theorem Zd4 {os:List OrdD} {o:OrdD} (hs:os.Pairwise fun a b=>a.key<b.key) (h:o ∈ os):getO os o.key=o.txs:=by
 induction os with
 | nil=>cases h
 | cons x os ih=>
  rw [Yx] at hs
  rw [Zai]
  rcases Yo.1 h with rfl | h
  ·rw [Yf rfl]
  ·have:=hs.1 o h
   rw [Yb ow,ih hs.2 h]
theorem Zg2 {os:List OrdD} {k:Int} (h:getO os k≠[]):(⟨k,getO os k⟩:OrdD) ∈ os:=by
 induction os with
 | nil=>exact absurd rfl h
 | cons x os ih=>
  rw [Zai] at h ⊢
  by_cases e:x.key=k
  ·rw [Yf e];subst e;simp
  ·rw [Yb e] at h ⊢;simp [ih h]
def NE (os:List OrdD):Prop:=∀ o ∈ os,o.txs≠[]
theorem Zop:∀ {a b:List OrdD},(a.Pairwise fun x y=>x.key<y.key)→(b.Pairwise fun x y=>x.key<y.key)→(∀ o,o ∈ a ↔ o ∈ b)→a=b
 | [],[],_,_,_=>rfl
 | [],y :: b,_,_,h=>by have:=(h y).2 (by simp);cases this
 | x :: a,[],_,_,h=>by have:=(h x).1 (by simp);cases this
 | x :: a,y :: b,ha,hb,h=>by
  rw [Yx] at ha hb
  have e:x=y:=by
   rcases Yo.1 ((h x).1 (by simp)) with e | h1
   ·exact e
   ·rcases Yo.1 ((h y).2 (by simp)) with e | h2
    ·exact e.symm
    ·have:=ha.1 y h2;have:=hb.1 x h1;omega
  subst e
  rw [Zop (a:=a) (b:=b) ha.2 hb.2 fun o=>?_]
  constructor
  ·intro ho
   rcases Yo.1 ((h o).1 (by simp [ho])) with e | h1
   ·have:=ha.1 o ho;rw [e] at this;omega
   ·exact h1
  ·intro ho
   rcases Yo.1 ((h o).2 (by simp [ho])) with e | h1
   ·have:=hb.1 o ho;rw [e] at this;omega
   ·exact h1
theorem Zsp {a b:List OrdD} (ha:a.Pairwise fun x y=>x.key<y.key) (hb:b.Pairwise fun x y=>x.key<y.key) (na:NE a) (nb:NE b) (h:∀ k,getO a k=getO b k):a=b:=by
 refine Zop ha hb fun o=>⟨fun ho=>?_,fun ho=>?_⟩
 ·have h1:=Zd4 ha ho
  have h2:getO b o.key≠[]:=by rw [← h,h1];exact na o ho
  have h3:=Zg2 h2
  rw [← h,h1] at h3;exact h3
 ·have h1:=Zd4 hb ho
  have h2:getO a o.key≠[]:=by rw [h,h1];exact nb o ho
  have h3:=Zg2 h2
  rw [h,h1] at h3;exact h3
def Zea (t:TxD) (l:List Int) (k:Int):List Int:=if t.done=true∧0<wcnt t.ops k then Zhr l t.id else Zbx l t.id
theorem ZkU {os:List OrdD} (hs:os.Pairwise fun a b=>a.key<b.key) (k:Int):getO (os.filter fun o=>!decide (o.txs = [])) k=getO os k:=by
 induction os with
 | nil=>rfl
 | cons x os ih=>
  rw [Yx] at hs
  rw [Zai]
  by_cases e:x.txs = []
  ·rw [Yaa (by simpa using e),ih hs.2]
   split
   ·rename_i hk
    rw [e,ZdO fun o ho=>by have:=hs.1 o ho;omega]
   ·rfl
  ·rw [Y9 (by simpa using e),Zai,ih hs.2]
theorem Zqk {t:TxD} {os:List OrdD} {k:Int} : getO (os.map (Zrx t)) k=if isK OrdD.key k os=true then Zea t (getO os k) k else []:=by
 induction os with
 | nil=>simp [getO,isK]
 | cons x os ih=>
  rw [YL,Zai,Zai,ZbT,ih]
  by_cases e:x.key=k
  ·subst e
   rw [Yf (show (Zrx t x).key=x.key from rfl),Yf rfl]
   simp [Zrx,Zea]
  ·rw [Yb (show ¬ (Zrx t x).key=k from e),Yb e,Yu e,Ybw]
theorem Zkw {k' k:Int} : ∀ {os:List OrdD},(os.Pairwise fun a b=>a.key<b.key)→getO (ZkO k' os) k=getO os k
 | [],_=>by unfold ZkO;rw [Zai];split <;> rfl
 | x :: os,h=>by
  rw [Yx] at h
  unfold ZkO
  split
  ·rw [Zai,Zai,Zkw h.2]
  ·split
   ·rfl
   ·rw [Zai]
    split
    ·rename_i h1 h2 h3
     have h3:k' = k:=h3
     subst h3
     refine (ZdO fun o ho=>?_).symm
     rcases Yo.1 ho with rfl | ho
     ·exact h2
     ·have:=h.1 o ho;omega
    ·rfl
theorem ZlF {k' k:Int} : ∀ {os:List OrdD},isK OrdD.key k (ZkO k' os)=(isK OrdD.key k os || decide (k' = k))
 | []=>by simp [ZkO,isK]
 | x :: os=>by
  unfold ZkO
  split
  ·rw [ZbT,ZbT,ZlF,Bool.or_assoc]
  ·split
   ·rename_i h2
    rw [ZbT]
    by_cases e:k' = k
    ·simp [h2,e]
    ·simp [e]
   ·rw [ZbT,Bool.or_comm]
theorem ZmY:∀ (ks:List Int) {os:List OrdD} (k:Int),ZeA OrdD.key os→getO (ks.foldl Zjf os) k=getO os k∧isK OrdD.key k (ks.foldl Zjf os)=(isK OrdD.key k os || decide (k ∈ ks))
 | [],os,k,_=>by simp
 | k' :: ks,os,k,h=>by
  obtain ⟨h1,h2⟩:=ZmY ks k (insK_rise k' h)
  rw [Yaw,h1,h2,Zi7 k' h,Zkw (ZT.1 h),ZlF]
  refine ⟨rfl,?_⟩
  rw [Bool.or_assoc]
  congr 1
  rw [Y6]
  simp only [Yao,Yj,Yo]
  exact ⟨fun h=>h.elim (fun h=>.inl h.symm) .inr,fun h=>h.elim (fun h=>.inl h.symm) .inr⟩
theorem ZpY {os:List OrdD} {k:Int} (h:isK OrdD.key k os=false):getO os k = []:=by
 refine ZdO fun o ho e=>?_
 unfold isK at h
 rw [Ya5] at h
 exact h o ho (by simpa using e)
theorem Zie {t:TxD} {os:List OrdD} (h:ZeA OrdD.key os) (k:Int):getO (settleO t os) k=Zea t (getO os k) k:=by
 unfold settleO
 have hins:getO (Zeq t os (Zah t)) k=getO os k∧isK OrdD.key k (Zeq t os (Zah t))=(isK OrdD.key k os || (t.done && decide (k ∈ Zah t)))∧ZeA OrdD.key (Zeq t os (Zah t)):=by
  unfold Zeq
  split
  ·rename_i hd
   obtain ⟨h1,h2⟩:=ZmY (Zah t) k h
   refine ⟨h1,by rw [h2,hd,Ybu],?_⟩
   have key:∀ (ks:List Int) (os:List OrdD),ZeA OrdD.key os→ZeA OrdD.key (ks.foldl Zjf os):=by
    intro ks
    induction ks with
    | nil=>intro os h;exact h
    | cons k ks ih=>intro os h;exact ih _ (insK_rise k h)
   exact key _ _ h
  ·rename_i hd
   exact ⟨rfl,by simp [hd],h⟩
 obtain ⟨h1,h2,h3⟩:=hins
 have hm:((Zeq t os (Zah t)).map (Zrx t)).Pairwise fun a b=>a.key<b.key:=YaP.2 ((ZT.1 h3).imp fun h=>h)
 rw [ZkU hm,Zqk,h1,h2]
 split
 ·rfl
 ·rename_i hk
  simp only [Yao,not_or,Yv,Yj] at hk
  have hk1:isK OrdD.key k os=false:=by simpa using hk.1
  rw [ZpY hk1]
  unfold Zea
  rw [Yb fun h9=>hk.2 ⟨h9.1,Zc2.2 h9.2⟩];rfl
theorem Zgs {t:TxD} {os:List OrdD} (h:ZeA OrdD.key os) (hs:ZbG os):(settleO t os).Pairwise (fun a b=>a.key<b.key)∧NE (settleO t os):=by
 have h3:=(ZnK (t:=t) h hs (Zah t)).1
 have hm:((Zeq t os (Zah t)).map (Zrx t)).Pairwise fun a b=>a.key<b.key:=YaP.2 ((ZT.1 h3).imp fun h=>h)
 refine ⟨hm.filter _,fun o ho=>?_⟩
 have:=(YT.1 ho).2
 simpa using this
def Zax (t:TxD) (os out:List OrdD) (k:Int):List OrdD:=putGR OrdD.key ⟨k,Zea t (getO os k) k⟩ out (decide (Zea t (getO os k) k = []))
def Z7 (t:TxD) (os:List OrdD):List Int:=(Zah t).foldl Zdi (Zbu (os.map OrdD.key))
def ZcS (t:TxD) (os:List OrdD):List OrdD:=(Z7 t os).foldl (Zax t os) os
theorem Zl0 {o:OrdD} {os:List OrdD} {d:Bool} (hs:os.Pairwise fun a b=>a.key<b.key) (k:Int):getO (putGR OrdD.key o os d) k=if k=o.key then (if d=true then [] else o.txs) else getO os k:=by
 have hf:∀ os:List OrdD,getO (os.filter fun x=>!decide (x.key=o.key)) k=if k=o.key then [] else getO os k:=by
  intro os
  induction os with
  | nil=>split <;> rfl
  | cons x os ih=>
   by_cases e:x.key=o.key
   ·rw [Yaa (by simpa using e),ih,Zai]
    split
    ·rfl
    ·rename_i h;rw [Yb ow]
   ·rw [Y9 (by simpa using e),Zai,Zai,ih]
    split
    ·rename_i h;rw [Yb ow]
    ·rfl
 cases d with
 | true=>rw [ZbP,hf];simp
 | false=>
  simp only [Ya3,Yr]
  induction os with
  | nil=>
   show getO [o] k=_
   rw [Zai]
   by_cases e:o.key=k
   ·rw [Yf e,Yf e.symm]
   ·rw [Yb e,Yb fun h=>e h.symm]
  | cons x os ih=>
   rw [Yx] at hs
   rw [putGR]
   by_cases hA:o.key≤x.key
   ·rw [Yf ⟨rfl,hA⟩,show (false || decide (o.key≤x.key))=true by simp [hA],ZbP,Yp,YaQ,Zai]
    by_cases e:o.key=k
    ·rw [Yf e,Yf e.symm]
    ·have e':¬ k=o.key:=fun h=>e h.symm
     rw [Yb e,Yb e',Zai]
     by_cases e2:x.key=o.key
     ·rw [Yf e2,Yal,hf,Yb e',Yb (show ¬ x.key=k by omega)]
     ·rw [Yb e2,YaQ,Zai,hf,Yb e']
   ·rw [Yb fun h=>hA h.2,Yb ow,Yal,YaQ,show (false || decide (o.key≤x.key))=false by simp;omega,Zai,Zai,ih hs.2]
    split
    ·rename_i h;rw [Yb ow]
    ·rfl
theorem Zmu {t:TxD} {os:List OrdD} : ∀ (ks:List Int) {out:List OrdD},(out.Pairwise fun a b=>a.key<b.key)→NE out→ks.Nodup→((ks.foldl (Zax t os) out).Pairwise fun a b=>a.key<b.key)∧NE (ks.foldl (Zax t os) out) ∧ ∀ k,getO (ks.foldl (Zax t os) out) k=if k ∈ ks then Zea t (getO os k) k else getO out k
 | [],out,h1,h2,_=>⟨h1,h2,fun k=>by simp⟩
 | k' :: ks,out,h1,h2,hn=>by
  rw [Ya2] at hn
  have hst:NE (Zax t os out k'):=fun o ho=>by
   rcases ZeM ho with ⟨rfl,h3⟩ | ⟨h3,_⟩
   ·simpa using h3
   ·exact h2 o h3
  obtain ⟨g1,g2,g3⟩:=Zmu ks (out:=Zax t os out k') (Zd8 h1) hst hn.2
  refine ⟨g1,g2,fun k=>?_⟩
  rw [Yaw,g3]
  by_cases hk:k ∈ ks
  ·rw [Yf hk,Yf (by simp [hk])]
  ·rw [Yb hk]
   unfold Zax
   rw [Zl0 h1]
   by_cases e:k=k'
   ·subst e
    rw [Yf rfl,Yf (show k ∈ k :: ks by simp)]
    show (if decide (Zea t (getO os k) k = [])=true then [] else Zea t (getO os k) k)=_
    split
    ·rename_i h;exact (YV h).symm
    ·rfl
   ·rw [Yb e,Yb (by simp [e,hk])]
theorem Zkt:∀ (b:List Int) {a:List Int},Zjt a→Zjt (b.foldl Zdi a) ∧ ∀ x,x ∈ b.foldl Zdi a ↔ x ∈ a∨x ∈ b
 | [],a,h=>⟨h,fun x=>by simp⟩
 | y :: b,a,h=>by
  obtain ⟨h1,h2⟩:=ZiK (n:=y) h
  obtain ⟨g1,g2⟩:=Zkt b h1
  exact ⟨g1,fun x=>by rw [Yaw,g2,h2];simp [or_assoc]⟩
theorem Zfz {t:TxD} {os:List OrdD} (h:ZeA OrdD.key os) (hs:ZbG os) (hn:NE os):ZcS t os=settleO t os:=by
 obtain ⟨s1,s2⟩:=Zgs (t:=t) h hs
 obtain ⟨k1,k2⟩:=Zkt (Zah t) (Zbd (os.map OrdD.key)).1
 obtain ⟨d1,d2,d3⟩:=Zmu (t:=t) (os:=os) (Z7 t os) (ZT.1 h) hn (k1.imp fun h=>Int.ne_of_lt h)
 refine Zsp d1 s1 d2 s2 fun k=>?_
 rw [show getO (ZcS t os) k=_ from d3 k,Zie h]
 split
 ·rfl
 ·rename_i hk
  have hk2:=fun h9=>hk ((k2 k).2 h9)
  have e1:getO os k = []:=ZdO fun o ho e=>hk2 (.inl ((Zbd _).2 k |>.2 (by rw [YC];exact ⟨o,ho,e⟩)))
  rw [e1]
  unfold Zea
  rw [Yb fun h9=>hk2 (.inr (Zc2.2 h9.2))];rfl
theorem Zn9 (l:List TxD) (t:TxD) (hl:l.length≤1000000):FnP prog 133 [.sl rTx l,.agg (rTx t)] (.sl rTx (putGR TxD.id t l false)):=by
 refine FnP.mk func133 Z ntmps133 Z fun B a w F V hfr O=>Ya ?_
 refine Zb O (qx 101 r1 (qC qZ)) V [4,3,0] [101,0] (fun _=>rfl) (fun _=>rfl) fun τ a w F O=>?_
 try dsimp only [RS.sub,SF.sub,CF.sub,csub,Anc.sub,List.map,zCF,Zl,rTx,Zv,ZY,Zs,rOp] at O
 generalize τ 3=v3 at O
 refine Za (Ya (rZ O (qC qZ) V [5,4,3,0] [101,0] fun O=>Ya ?_))
 refine rZ O qB V [6,5,4,3,0] [101,0] fun O=>(Ya (Ya ?_))
 refine rZ O (qR rr (qu YbP r1 (qJ qZ))) V [11,10,9,6,5,4,3] [101,0] fun O=>Ye ?_
 replace O:=O.fresh 50 rfl
 replace O:=O.turn 50 Z (ZaC (T:=36) (sz:=3) (R:=rTx))
 refine Zk (σ:=(Nat)×(Bool)×(Value)×(List TxD)) [3,4,9,10] [0,101] (fun s=>[(11,.pv (.int .i64 (s.1:Int))),(6,.pv (.bool s.2.1)),(5,.pv (.is s.2.2.1))]) (fun s=>[(50,.ob (.val s.2.2.1) (ZO 36 3 rTx s.2.2.2))]) (fun s=>s.1≤l.length∧(s.2.2.2++putGR TxD.id t (l.drop s.1) s.2.1=putGR TxD.id t l false)) (fun s=>l.length - s.1) ((0),(false),(.slice none 0 0),([])) O ⟨rfl,rfl,rfl,rfl,rfl,rfl,rfl,tv⟩ ⟨rfl,rfl,rfl,tv⟩ ⟨Yt _,rfl⟩ ?_
 clear O;intro s a w F hC O
 obtain ⟨i,d,v,out⟩:=s
 try dsimp only at hC
 obtain ⟨F,O⟩:=O.nM [11,10,9,6,5,4,3] [101,50,0]
 try dsimp only at O
 obtain ⟨hi,hq⟩:=hC
 have hol:=Yai List.length hq
 rw [Yc] at hol
 have htl:(putGR TxD.id t l false).length≤l.length+1:=Zht l _
 refine Ya (rZ O (qL r2) V [12,11,10,9,6,5,4,3] [101,50,0] fun O=>Ya ?_)
 refine Zc O Z (fun hc0=>?_) (fun hc0=>?_)
 ·have hil:i<l.length:=by simp at hc0;omega
  refine Yd (Za (Ya (Ye (Ya (Zb O (qy 3 YbP r2 (qf (oR true 3 .t) r1 qz (qf (oH [.int .i64 0,.bool false,.slice none 0 0] 102) trivial qz (qS 3 102 r2 r1 qZ)))) V [11,10,9,8,6,5,4,3] [102,101,50,0] (fun _=>rfl) (fun _=>rfl) fun τ a w F O=>?_)))))
  try dsimp only [RS.sub,SF.sub,CF.sub,csub,Anc.sub,List.map,Zd,xL,xM,Nat.reduceAdd,xD,xE,xT,xU,xC,xN,zCF,ldSF,Zl,rTx,Zv,ZY,Zs,rOp] at O
  generalize τ 8=v8 at O
  try simp only [Yg] at O
  refine Za (Ya (Ya (rZ O (qR rr (qf (Z1 .t) r1 qz (qR rr (qv 0 102 Z r2 r1 (qw 102 Z r2 r1 (qv 0 101 Z r2 r1 (qw 101 Z r2 r1 (qk Z (fun h=>Zcx (.w h) (.w h)) r3 qz (qf (ZJ .t .t) r2 qz qZ))))))))) V [23,11,10,9,8,6,5,4,3] [102,101,50,0] fun O=>?_)))
  refine Zc O Z (fun hc1=>?_) (fun hc1=>?_)
  ·have hA:d=false∧TxD.id t≤TxD.id (Nn l i):=by simpa using hc1
   refine Ya (Zb O (qR rr (qe 3 101 r1 r1 (qf (Zn (sz:=3) (zs:=[.int .i64 0,.bool false,.slice none 0 0]) (r:=[(0,.tmp 25)]) (l:=[_,_,_]) YbP kr kr kr kr Z Z (.agg Z .t kr kr .nil) Z) r1 qz (qf (o_append (sz:=3) (bs:=40) 50 (.mk' YbP kr kr) (by intro x;rfl) .is (.arr (l':=[t]) .t) (by simp only [Yc,Yl,Yq];omega) (by decide)) ⟨rfl,rfl,tv⟩ ⟨rfl,tv⟩ (qO rr qZ))))) V [11,10,9,8,6,5,4,3] [102,101,50,0] (fun _=>rfl) (fun _=>rfl) fun τ a w F O=>?_)
   try dsimp only [RS.sub,SF.sub,CF.sub,csub,Anc.sub,List.map,Zd,xL,xM,Nat.reduceAdd,xD,xE,xT,xU,xC,xN,zCF,ldSF,Zl,rTx,Zv,ZY,Zs,rOp] at O
   generalize τ 27=v27 at O
   refine Za (rZ O qB V [11,10,9,8,6,5,4,3] [102,101,50,0] fun O=>Ya ?_)
   refine rZ O (qg 0 102 r1 r1 (qa 102 r1 r1 (qg 0 101 r1 r1 (qa 101 r1 r1 (qf (o_neq .t .t) r2 qz qZ))))) V [32,11,10,9,8,6,5,4,3] [102,101,50,0] fun O=>?_
   refine Zc O Z (fun hc2=>?_) (fun hc2=>?_)
   ·have hBq:¬ TxD.id (Nn l i)=TxD.id t:=by simpa using hc2
    refine Zb O (qR rr (qe 3 102 r1 r1 (qf (Zn (sz:=3) (zs:=[.int .i64 0,.bool false,.slice none 0 0]) (r:=[(0,.tmp 34)]) (l:=[_,_,_]) YbP kr kr kr kr Z Z (.agg Z .t kr kr .nil) Z) r1 qz (qf (o_append (sz:=3) (bs:=40) 50 (.mk' YbP kr kr) (by intro x;rfl) .is (.arr (l':=[(Nn l i)]) .t) (by simp only [Yc,Yl,Yq];omega) (by decide)) ⟨rfl,rfl,tv⟩ ⟨rfl,tv⟩ (qO rr qZ))))) V [11,10,9,6,5,4,3] [102,101,50,0] (fun _=>rfl) (fun _=>rfl) fun τ a w F O=>?_
    try dsimp only [RS.sub,SF.sub,CF.sub,csub,Anc.sub,List.map,Zd,xL,xM,Nat.reduceAdd,xD,xE,xT,xU,xC,xN,zCF,ldSF,Zl,rTx,Zv,ZY,Zs,rOp] at O
    generalize τ 36=v36 at O
    refine Zi (Za (rZ O (qp r1 (qR rr qZ)) V [11,10,9,6,5,4,3] [102,101,50,0] fun O=>?_))
    replace O:=O.ent (i:=11) (s':=.pv (.int .i64 ((i+1:Nat):Int))) Z (.int (Ze ow))
    obtain ⟨F,O⟩:=O.nM [10,9,4,3,5,6,11] [101,0,50]
    exact ⟨((i+1),_,_,_),F,⟨by omega,(by rw [ZaX hil] at hq;first | exact ZcC hA hBq hq | exact ZcG hA hBq hq | exact ZcE hA hBq hq | exact Zcz hA hBq hq)⟩,O,by omega⟩
   have hBq:TxD.id (Nn l i)=TxD.id t:=by simpa using hc2
   refine Yd (Zi (Za (rZ O (qp r1 (qR rr qZ)) V [11,10,9,6,5,4,3] [102,101,50,0] fun O=>?_)))
   replace O:=O.ent (i:=11) (s':=.pv (.int .i64 ((i+1:Nat):Int))) Z (.int (Ze ow))
   obtain ⟨F,O⟩:=O.nM [10,9,4,3,5,6,11] [101,0,50]
   exact ⟨((i+1),_,_,_),F,⟨by omega,(by rw [ZaX hil] at hq;first | exact ZcC hA hBq hq | exact ZcG hA hBq hq | exact ZcE hA hBq hq | exact Zcz hA hBq hq)⟩,O,by omega⟩
  have hA:¬ (d=false∧TxD.id t≤TxD.id (Nn l i)):=by rintro ⟨h1,h2⟩;subst h1;have h9:=hc1;simp at h9;omega
  refine Yd (Za (Ya (rZ O (qg 0 102 r1 r1 (qa 102 r1 r1 (qg 0 101 r1 r1 (qa 101 r1 r1 (qf (o_neq .t .t) r2 qz qZ))))) V [32,11,10,9,8,6,5,4,3] [102,101,50,0] fun O=>?_)))
  refine Zc O Z (fun hc3=>?_) (fun hc3=>?_)
  ·have hBq:¬ TxD.id (Nn l i)=TxD.id t:=by simpa using hc3
   refine Zb O (qR rr (qe 3 102 r1 r1 (qf (Zn (sz:=3) (zs:=[.int .i64 0,.bool false,.slice none 0 0]) (r:=[(0,.tmp 34)]) (l:=[_,_,_]) YbP kr kr kr kr Z Z (.agg Z .t kr kr .nil) Z) r1 qz (qf (o_append (sz:=3) (bs:=40) 50 (.mk' YbP kr kr) (by intro x;rfl) .is (.arr (l':=[(Nn l i)]) .t) (by simp only [Yc,Yl,Yq];omega) (by decide)) ⟨rfl,rfl,tv⟩ ⟨rfl,tv⟩ (qO rr qZ))))) V [11,10,9,6,5,4,3] [102,101,50,0] (fun _=>rfl) (fun _=>rfl) fun τ a w F O=>?_
   try dsimp only [RS.sub,SF.sub,CF.sub,csub,Anc.sub,List.map,Zd,xL,xM,Nat.reduceAdd,xD,xE,xT,xU,xC,xN,zCF,ldSF,Zl,rTx,Zv,ZY,Zs,rOp] at O
   generalize τ 36=v36 at O
   refine Zi (Za (rZ O (qp r1 (qR rr qZ)) V [11,10,9,6,5,4,3] [102,101,50,0] fun O=>?_))
   replace O:=O.ent (i:=11) (s':=.pv (.int .i64 ((i+1:Nat):Int))) Z (.int (Ze ow))
   obtain ⟨F,O⟩:=O.nM [10,9,4,3,5,6,11] [101,0,50]
   exact ⟨((i+1),_,_,_),F,⟨by omega,(by rw [ZaX hil] at hq;first | exact ZcC hA hBq hq | exact ZcG hA hBq hq | exact ZcE hA hBq hq | exact Zcz hA hBq hq)⟩,O,by omega⟩
  have hBq:TxD.id (Nn l i)=TxD.id t:=by simpa using hc3
  refine Yd (Zi (Za (rZ O (qp r1 (qR rr qZ)) V [11,10,9,6,5,4,3] [102,101,50,0] fun O=>?_)))
  replace O:=O.ent (i:=11) (s':=.pv (.int .i64 ((i+1:Nat):Int))) Z (.int (Ze ow))
  obtain ⟨F,O⟩:=O.nM [10,9,4,3,5,6,11] [101,0,50]
  exact ⟨((i+1),_,_,_),F,⟨by omega,(by rw [ZaX hil] at hq;first | exact ZcC hA hBq hq | exact ZcG hA hBq hq | exact ZcE hA hBq hq | exact Zcz hA hBq hq)⟩,O,by omega⟩
 have hil:i=l.length:=by simp at hc0;omega
 refine Ym (Zg (Zg (Zo (Za (Ya (Ya (rZ O (qR rr (qf (Z1 .t) r1 qz qZ)) V [39,5,4,3] [101,50,0] fun O=>?_)))))))
 refine Zc O Z (fun hc4=>?_) (fun hc4=>?_)
 ·have hfin:out ++ [t] = putGR TxD.id t l false:=by rw [hil,Yba] at hq;cases d with | true=>simp at hc4 | false=>exact hq
  refine Zb O (qR rr (qe 3 101 r1 r1 (qf (Zn (sz:=3) (zs:=[.int .i64 0,.bool false,.slice none 0 0]) (r:=[(0,.tmp 41)]) (l:=[_,_,_]) YbP kr kr kr kr Z Z (.agg Z .t kr kr .nil) Z) r1 qz (qf (o_append (sz:=3) (bs:=40) 50 (.mk' YbP kr kr) (by intro x;rfl) .is (.arr (l':=[t]) .t) (by simp only [Yc,Yl,Yq];omega) (by decide)) ⟨rfl,rfl,tv⟩ ⟨rfl,tv⟩ (qO rr qZ))))) V [5,4] [101,50,0] (fun _=>rfl) (fun _=>rfl) fun τ a w F O=>?_
  try dsimp only [RS.sub,SF.sub,CF.sub,csub,Anc.sub,List.map,Zd,xL,xM,Nat.reduceAdd,xD,xE,xT,xU,xC,xN,zCF,ldSF,Zl,rTx,Zv,ZY,Zs,rOp] at O
  generalize τ 43=v43 at O
  refine Za (Ya (rZ O (qR rr (qO rr qZ)) V [4] [101,50,0] fun O=>Yh ?_))
  obtain ⟨F,O⟩:=O.give 50 4 Z rfl
  refine ZB hfr O Z Z Z (.sl hfin)
 have hfin:out=putGR TxD.id t l false:=by rw [hil,Yba] at hq;cases d with | false=>simp at hc4 | true=>simpa [putGR] using hq
 refine Yd (Za (Ya (rZ O (qR rr (qO rr qZ)) V [4] [101,50,0] fun O=>Yh ?_)))
 obtain ⟨F,O⟩:=O.give 50 4 Z rfl
 refine ZB hfr O Z Z Z (.sl hfin)
theorem ZdZ (l:List OrdD) (t:OrdD) (hl:l.length≤1000000):FnP prog 137 [.sl Zv l,.agg (Zv t)] (.sl Zv (putGR OrdD.key t l (decide (t.txs = [])))):=by
 refine FnP.mk func137 Z ntmps137 Z fun B a w F V hfr O=>Ya ?_
 refine Zb O (qx 101 r1 (qC qZ)) V [4,3,0] [101,0] (fun _=>rfl) (fun _=>rfl) fun τ a w F O=>?_
 try dsimp only [RS.sub,SF.sub,CF.sub,csub,Anc.sub,List.map,zCF,Zl,rTx,Zv,ZY,Zs,rOp] at O
 generalize τ 3=v3 at O
 refine Za (Ya (rZ O (qC qZ) V [5,4,3,0] [101,0] fun O=>Ya ?_))
 refine rZ O (qg 1 101 r1 r1 (qa 101 r1 r1 (qu YbO r1 (qf (o_eql .t qi) r1 qz (qO rr qZ))))) V [6,5,4,3,0] [101,0] fun O=>(Ya (Ya ?_))
 refine rZ O (qR rr (qu YbQ r1 (qJ qZ))) V [15,14,13,6,5,4,3] [101,0] fun O=>Ye ?_
 replace O:=O.fresh 50 rfl
 replace O:=O.turn 50 Z (ZaC (T:=39) (sz:=2) (R:=Zv))
 replace O:=O.ent (i:=6) (s':=.pv (.bool (decide (t.txs = [])))) Z ((.bool (by rw [Y6];simp)))
 refine Zk (σ:=(Nat)×(Bool)×(Value)×(List OrdD)) [3,4,13,14] [0,101] (fun s=>[(15,.pv (.int .i64 (s.1:Int))),(6,.pv (.bool s.2.1)),(5,.pv (.is s.2.2.1))]) (fun s=>[(50,.ob (.val s.2.2.1) (ZO 39 2 Zv s.2.2.2))]) (fun s=>s.1≤l.length∧(s.2.2.2++putGR OrdD.key t (l.drop s.1) s.2.1=putGR OrdD.key t l (decide (t.txs = [])))) (fun s=>l.length - s.1) ((0),((decide (t.txs = []))),(.slice none 0 0),([])) O ⟨rfl,rfl,rfl,rfl,rfl,rfl,rfl,tv⟩ ⟨rfl,rfl,rfl,tv⟩ ⟨Yt _,rfl⟩ ?_
 clear O;intro s a w F hC O
 obtain ⟨i,d,v,out⟩:=s
 try dsimp only at hC
 obtain ⟨F,O⟩:=O.nM [15,14,13,6,5,4,3] [101,50,0]
 try dsimp only at O
 obtain ⟨hi,hq⟩:=hC
 have hol:=Yai List.length hq
 rw [Yc] at hol
 have htl:(putGR OrdD.key t l (decide (t.txs = []))).length≤l.length+1:=Zht l _
 refine Ya (rZ O (qL r2) V [16,15,14,13,6,5,4,3] [101,50,0] fun O=>Ya ?_)
 refine Zc O Z (fun hc0=>?_) (fun hc0=>?_)
 ·have hil:i<l.length:=by simp at hc0;omega
  refine Yd (Za (Ya (Ye (Ya (Zb O (qy 2 YbQ r2 (qf (oR true 2 .t) r1 qz (qf (oH [.int .i64 0,.slice none 0 0] 102) trivial qz (qS 2 102 r2 r1 qZ)))) V [15,14,13,8,6,5,4,3] [102,101,50,0] (fun _=>rfl) (fun _=>rfl) fun τ a w F O=>?_)))))
  try dsimp only [RS.sub,SF.sub,CF.sub,csub,Anc.sub,List.map,Zd,xL,xM,Nat.reduceAdd,xD,xE,xT,xU,xC,xN,zCF,ldSF,Zl,rTx,Zv,ZY,Zs,rOp] at O
  generalize τ 8=v8 at O
  try simp only [Yg] at O
  refine Za (Ya (Ya (rZ O (qR rr (qf (Z1 .t) r1 qz (qR rr (qv 0 102 Z r2 r1 (qw 102 Z r2 r1 (qv 0 101 Z r2 r1 (qw 101 Z r2 r1 (qk Z (fun h=>Zcx (.w h) (.w h)) r3 qz (qf (ZJ .t .t) r2 qz qZ))))))))) V [27,15,14,13,8,6,5,4,3] [102,101,50,0] fun O=>?_)))
  refine Zc O Z (fun hc1=>?_) (fun hc1=>?_)
  ·have hA:d=false∧OrdD.key t≤OrdD.key (Nn l i):=by simpa using hc1
   refine Ya (Zb O (qR rr (qe 2 101 r1 r1 (qf (Zn (sz:=2) (zs:=[.int .i64 0,.slice none 0 0]) (r:=[(0,.tmp 29)]) (l:=[_,_]) YbQ kr kr kr kr Z Z (.agg Z .t kr kr .nil) Z) r1 qz (qf (o_append (sz:=2) (bs:=32) 50 (.mk' YbQ kr kr) (by intro x;rfl) .is (.arr (l':=[t]) .t) (by simp only [Yc,Yl,Yq];omega) (by decide)) ⟨rfl,rfl,tv⟩ ⟨rfl,tv⟩ (qO rr qZ))))) V [15,14,13,8,6,5,4,3] [102,101,50,0] (fun _=>rfl) (fun _=>rfl) fun τ a w F O=>?_)
   try dsimp only [RS.sub,SF.sub,CF.sub,csub,Anc.sub,List.map,Zd,xL,xM,Nat.reduceAdd,xD,xE,xT,xU,xC,xN,zCF,ldSF,Zl,rTx,Zv,ZY,Zs,rOp] at O
   generalize τ 31=v31 at O
   refine Za (rZ O qB V [15,14,13,8,6,5,4,3] [102,101,50,0] fun O=>Ya ?_)
   refine rZ O (qg 0 102 r1 r1 (qa 102 r1 r1 (qg 0 101 r1 r1 (qa 101 r1 r1 (qf (o_neq .t .t) r2 qz qZ))))) V [36,15,14,13,8,6,5,4,3] [102,101,50,0] fun O=>?_
   refine Zc O Z (fun hc2=>?_) (fun hc2=>?_)
   ·have hBq:¬ OrdD.key (Nn l i)=OrdD.key t:=by simpa using hc2
    refine Zb O (qR rr (qe 2 102 r1 r1 (qf (Zn (sz:=2) (zs:=[.int .i64 0,.slice none 0 0]) (r:=[(0,.tmp 38)]) (l:=[_,_]) YbQ kr kr kr kr Z Z (.agg Z .t kr kr .nil) Z) r1 qz (qf (o_append (sz:=2) (bs:=32) 50 (.mk' YbQ kr kr) (by intro x;rfl) .is (.arr (l':=[(Nn l i)]) .t) (by simp only [Yc,Yl,Yq];omega) (by decide)) ⟨rfl,rfl,tv⟩ ⟨rfl,tv⟩ (qO rr qZ))))) V [15,14,13,6,5,4,3] [102,101,50,0] (fun _=>rfl) (fun _=>rfl) fun τ a w F O=>?_
    try dsimp only [RS.sub,SF.sub,CF.sub,csub,Anc.sub,List.map,Zd,xL,xM,Nat.reduceAdd,xD,xE,xT,xU,xC,xN,zCF,ldSF,Zl,rTx,Zv,ZY,Zs,rOp] at O
    generalize τ 40=v40 at O
    refine Zi (Za (rZ O (qp r1 (qR rr qZ)) V [15,14,13,6,5,4,3] [102,101,50,0] fun O=>?_))
    replace O:=O.ent (i:=15) (s':=.pv (.int .i64 ((i+1:Nat):Int))) Z (.int (Ze ow))
    obtain ⟨F,O⟩:=O.nM [14,13,4,3,5,6,15] [101,0,50]
    exact ⟨((i+1),_,_,_),F,⟨by omega,(by rw [ZaX hil] at hq;first | exact ZcC hA hBq hq | exact ZcG hA hBq hq | exact ZcE hA hBq hq | exact Zcz hA hBq hq)⟩,O,by omega⟩
   have hBq:OrdD.key (Nn l i)=OrdD.key t:=by simpa using hc2
   refine Yd (Zi (Za (rZ O (qp r1 (qR rr qZ)) V [15,14,13,6,5,4,3] [102,101,50,0] fun O=>?_)))
   replace O:=O.ent (i:=15) (s':=.pv (.int .i64 ((i+1:Nat):Int))) Z (.int (Ze ow))
   obtain ⟨F,O⟩:=O.nM [14,13,4,3,5,6,15] [101,0,50]
   exact ⟨((i+1),_,_,_),F,⟨by omega,(by rw [ZaX hil] at hq;first | exact ZcC hA hBq hq | exact ZcG hA hBq hq | exact ZcE hA hBq hq | exact Zcz hA hBq hq)⟩,O,by omega⟩
  have hA:¬ (d=false∧OrdD.key t≤OrdD.key (Nn l i)):=by rintro ⟨h1,h2⟩;subst h1;have h9:=hc1;simp at h9;omega
  refine Yd (Za (Ya (rZ O (qg 0 102 r1 r1 (qa 102 r1 r1 (qg 0 101 r1 r1 (qa 101 r1 r1 (qf (o_neq .t .t) r2 qz qZ))))) V [36,15,14,13,8,6,5,4,3] [102,101,50,0] fun O=>?_)))
  refine Zc O Z (fun hc3=>?_) (fun hc3=>?_)
  ·have hBq:¬ OrdD.key (Nn l i)=OrdD.key t:=by simpa using hc3
   refine Zb O (qR rr (qe 2 102 r1 r1 (qf (Zn (sz:=2) (zs:=[.int .i64 0,.slice none 0 0]) (r:=[(0,.tmp 38)]) (l:=[_,_]) YbQ kr kr kr kr Z Z (.agg Z .t kr kr .nil) Z) r1 qz (qf (o_append (sz:=2) (bs:=32) 50 (.mk' YbQ kr kr) (by intro x;rfl) .is (.arr (l':=[(Nn l i)]) .t) (by simp only [Yc,Yl,Yq];omega) (by decide)) ⟨rfl,rfl,tv⟩ ⟨rfl,tv⟩ (qO rr qZ))))) V [15,14,13,6,5,4,3] [102,101,50,0] (fun _=>rfl) (fun _=>rfl) fun τ a w F O=>?_
   try dsimp only [RS.sub,SF.sub,CF.sub,csub,Anc.sub,List.map,Zd,xL,xM,Nat.reduceAdd,xD,xE,xT,xU,xC,xN,zCF,ldSF,Zl,rTx,Zv,ZY,Zs,rOp] at O
   generalize τ 40=v40 at O
   refine Zi (Za (rZ O (qp r1 (qR rr qZ)) V [15,14,13,6,5,4,3] [102,101,50,0] fun O=>?_))
   replace O:=O.ent (i:=15) (s':=.pv (.int .i64 ((i+1:Nat):Int))) Z (.int (Ze ow))
   obtain ⟨F,O⟩:=O.nM [14,13,4,3,5,6,15] [101,0,50]
   exact ⟨((i+1),_,_,_),F,⟨by omega,(by rw [ZaX hil] at hq;first | exact ZcC hA hBq hq | exact ZcG hA hBq hq | exact ZcE hA hBq hq | exact Zcz hA hBq hq)⟩,O,by omega⟩
  have hBq:OrdD.key (Nn l i)=OrdD.key t:=by simpa using hc3
  refine Yd (Zi (Za (rZ O (qp r1 (qR rr qZ)) V [15,14,13,6,5,4,3] [102,101,50,0] fun O=>?_)))
  replace O:=O.ent (i:=15) (s':=.pv (.int .i64 ((i+1:Nat):Int))) Z (.int (Ze ow))
  obtain ⟨F,O⟩:=O.nM [14,13,4,3,5,6,15] [101,0,50]
  exact ⟨((i+1),_,_,_),F,⟨by omega,(by rw [ZaX hil] at hq;first | exact ZcC hA hBq hq | exact ZcG hA hBq hq | exact ZcE hA hBq hq | exact Zcz hA hBq hq)⟩,O,by omega⟩
 have hil:i=l.length:=by simp at hc0;omega
 refine Ym (Zg (Zg (Zo (Za (Ya (Ya (rZ O (qR rr (qf (Z1 .t) r1 qz qZ)) V [43,5,4,3] [101,50,0] fun O=>?_)))))))
 refine Zc O Z (fun hc4=>?_) (fun hc4=>?_)
 ·have hfin:out ++ [t] = putGR OrdD.key t l (decide (t.txs = [])):=by rw [hil,Yba] at hq;cases d with | true=>simp at hc4 | false=>exact hq
  refine Zb O (qR rr (qe 2 101 r1 r1 (qf (Zn (sz:=2) (zs:=[.int .i64 0,.slice none 0 0]) (r:=[(0,.tmp 45)]) (l:=[_,_]) YbQ kr kr kr kr Z Z (.agg Z .t kr kr .nil) Z) r1 qz (qf (o_append (sz:=2) (bs:=32) 50 (.mk' YbQ kr kr) (by intro x;rfl) .is (.arr (l':=[t]) .t) (by simp only [Yc,Yl,Yq];omega) (by decide)) ⟨rfl,rfl,tv⟩ ⟨rfl,tv⟩ (qO rr qZ))))) V [5,4] [101,50,0] (fun _=>rfl) (fun _=>rfl) fun τ a w F O=>?_
  try dsimp only [RS.sub,SF.sub,CF.sub,csub,Anc.sub,List.map,Zd,xL,xM,Nat.reduceAdd,xD,xE,xT,xU,xC,xN,zCF,ldSF,Zl,rTx,Zv,ZY,Zs,rOp] at O
  generalize τ 47=v47 at O
  refine Za (Ya (rZ O (qR rr (qO rr qZ)) V [4] [101,50,0] fun O=>Yh ?_))
  obtain ⟨F,O⟩:=O.give 50 4 Z rfl
  refine ZB hfr O Z Z Z (.sl hfin)
 have hfin:out=putGR OrdD.key t l (decide (t.txs = [])):=by rw [hil,Yba] at hq;cases d with | false=>simp at hc4 | true=>simpa [putGR] using hq
 refine Yd (Za (Ya (rZ O (qR rr (qO rr qZ)) V [4] [101,50,0] fun O=>Yh ?_)))
 obtain ⟨F,O⟩:=O.give 50 4 Z rfl
 refine ZB hfr O Z Z Z (.sl hfin)
theorem Zsl {os:List OrdD} {k:Int} {i:Nat} (hi:i<os.length) (h:(Nn os i).key=k) (hq:∀ q,q<i→(Nn os q).key≠k):getO os k=(Nn os i).txs:=by
 unfold getO
 rw [List.find?_eq_some_iff_getElem.2 ⟨by simpa using h,i,hi,(Zy hi).symm,fun j hj=>by have:=hq j hj;rw [Zy ow] at this;simpa using this⟩];rfl
theorem Zr2 {os:List OrdD} {k:Int} (hq:∀ q,q<os.length→(Nn os q).key≠k):getO os k = []:=ZdO fun o ho=>by
 obtain ⟨j,hj,e⟩:=YH ho
 have:=hq j hj
 rwa [Zy hj,e] at this
theorem Zi6 {os:List OrdD} (h:ZbG os) (k:Int):(getO os k).length≤1000:=by
 by_cases e:getO os k = []
 ·rw [e];simp
 ·exact h.2 _ (Zg2 e)
theorem Zmr {t:TxD} {os:List OrdD} : ∀ (ks:List Int) (out:List OrdD),(ks.foldl (Zax t os) out).length≤out.length+ks.length
 | [],out=>by simp
 | k :: ks,out=>by
  have h1:=Zmr (t:=t) (os:=os) ks (Zax t os out k)
  have h2:(Zax t os out k).length≤out.length+1:=Zht _ _
  rw [Yaw,Yl];omega
theorem ZfG (g:Zx) (key:Int):FnP prog 20 [.agg (Zl g),.int .i64 key] (.sl Zs (getO g.orders key)):=by
 refine FnP.mk func20 Z ntmps20 Z fun B a w F V hfr O=>?_
 obtain ⟨hxl,hyl⟩:=Sat.lenHist O (i:=0) rfl
 refine Ya (Zb O (qx 101 r1 (qC qZ)) V [4,2,1] [101,0] (fun _=>rfl) (fun _=>rfl) fun τ a w F O=>?_)
 try dsimp only [RS.sub,SF.sub,CF.sub,csub,Anc.sub,List.map,zCF,Zl,rTx,Zv,ZY,Zs,rOp] at O
 generalize τ 2=v2 at O
 refine Za (Ya (Ya (rZ O (qg 1 101 r1 r1 (qa 101 r1 r1 (qu YbQ r1 (qJ qZ)))) V [10,9,8,4,1] [101,0] fun O=>Ye ?_)))
 refine Zk (σ:=(Nat)) [1,4,8,9] [0,101] (fun s=>[(10,.pv (.int .i64 (s:Int)))]) (fun s=>[]) (fun s=>s≤g.orders.length∧(∀ q,q<s→(Nn g.orders q).key≠key)) (fun s=>g.orders.length - s) (0) O ⟨rfl,rfl,rfl,rfl,rfl,tv⟩ ⟨rfl,rfl,tv⟩ ⟨Yt _,fun q hq=>absurd hq (YJ q)⟩ ?_
 clear O;intro i a w F hC O
 try dsimp only at hC
 obtain ⟨F,O⟩:=O.nM [10,9,8,4,1] [101,0]
 try dsimp only at O
 obtain ⟨hi,hq⟩:=hC
 refine Ya (rZ O (qL r2) V [11,10,9,8,4,1] [101,0] fun O=>Ya ?_)
 refine Zc O Z (fun hc0=>?_) (fun hc0=>?_)
 ·have hil:i<g.orders.length:=by simp at hc0;omega
  refine Yd (Za (Ya (Ye (Ya (Zb O (qy 2 YbQ r2 (qf (oR true 2 .t) r1 qz (qf (oH [.int .i64 0,.slice none 0 0] 102) trivial qz (qS 2 102 r2 r1 qZ)))) V [10,9,8,6,4,1] [102,101,0] (fun _=>rfl) (fun _=>rfl) fun τ a w F O=>?_)))))
  try dsimp only [RS.sub,SF.sub,CF.sub,csub,Anc.sub,List.map,Zd,xL,xM,Nat.reduceAdd,xD,xE,xT,xU,xC,xN,zCF,ldSF,Zl,rTx,Zv,ZY,Zs,rOp] at O
  generalize τ 6=v6 at O
  try simp only [Yg] at O
  refine Za (Ya (rZ O (qg 0 102 r1 r1 (qa 102 r1 r1 (qR rr (qf (o_eql .t .t) r2 qz qZ)))) V [17,10,9,8,6,4,1] [102,101,0] fun O=>?_))
  refine Zc O Z (fun hc1=>?_) (fun hc1=>?_)
  ·have hg:(Nn g.orders i).txs=getO g.orders key:=(Zsl hil (by simpa using hc1) hq).symm
   refine Ya (rZ O (qg 1 102 r1 r1 (qa 102 r1 r1 (qO rr qZ))) V [10,9,8,4,1] [102,101,0] fun O=>(Yh (Zr (Zf (Zf (Zr (Zf ?_)))))))
   refine ZB hfr O Z Z Z (by first | exact .sl hg | (rw [← hg];exact .nilSl))
  have hne:(Nn g.orders i).key≠key:=by simpa using hc1
  refine Yd (Zi (Za (rZ O (qp r1 (qR rr qZ)) V [10,9,8,4,1] [102,101,0] fun O=>?_)))
  replace O:=O.ent (i:=10) (s':=.pv (.int .i64 ((i+1:Nat):Int))) Z (.int (Ze ow))
  obtain ⟨F,O⟩:=O.nM [9,8,4,1,10] [101,0]
  exact ⟨(i+1),F,⟨by omega,(fun q h9=>by rcases Yy (YD h9) with h8 | h8;exact hq q h8;rw [h8];exact hne)⟩,O,by omega⟩
 have hil:i=g.orders.length:=by simp at hc0;omega
 have hg:[] = getO g.orders key:=(Zr2 (by rw [← hil];exact hq)).symm
 refine Ym (Zg (Zg (Zo (Za (Ya (rZ O (qC qZ) V [4] [101,0] fun O=>Yh ?_))))))
 refine ZB hfr O Z Z Z (by first | exact .sl hg | (rw [← hg];exact .nilSl))
theorem Zer (os:List OrdD) (t:TxD) (hs:ZbG os) (ht:t.ops.length≤1000):FnP prog 134 [.sl Zv os,.agg (rTx t)] (.sl Zv (ZcS t os)):=by
 refine FnP.mk func134 Z ntmps134 Z fun B a w F V hfr O=>?_
 have hso:=hs.1
 have hkt:=ZdD t
 refine Ya (Zb O (qx 101 r1 (qC qZ)) V [4,3,0] [101,0] (fun _=>rfl) (fun _=>rfl) fun τ a w F O=>?_)
 try dsimp only [RS.sub,SF.sub,CF.sub,csub,Anc.sub,List.map,zCF,Zl,rTx,Zv,ZY,Zs,rOp] at O
 generalize τ 3=v3 at O
 refine Za (Ya (rZ O (qC qZ) V [5,4,3,0] [101,0] fun O=>(Ya (Ya ?_))))
 refine rZ O (qR rr (qu YbQ r1 (qJ qZ))) V [16,15,14,5,4,3,0] [101,0] fun O=>Ye ?_
 replace O:=O.ent (i:=5) (s':=.pv (.sl Zs (((os.map OrdD.key).take 0).foldl Zdi []))) Z (.nilSl)
 refine Zk (σ:=(Nat)) [0,3,4,14,15] [0,101] (fun s=>[(16,.pv (.int .i64 (s:Int))),(5,.pv (.sl Zs (((os.map OrdD.key).take s).foldl Zdi [])))]) (fun s=>[]) (fun s=>s≤os.length∧(True)) (fun s=>os.length - s) (0) O ⟨rfl,rfl,rfl,rfl,rfl,rfl,rfl,tv⟩ ⟨rfl,rfl,tv⟩ ⟨Yt _,tv⟩ ?_
 clear O;intro i a w F hC O
 try dsimp only at hC
 obtain ⟨F,O⟩:=O.nM [16,15,14,5,4,3,0] [101,0]
 try dsimp only at O
 obtain ⟨hi,hq⟩:=hC
 have hkl:=Zfm [] ((os.map OrdD.key).take i)
 rw [Yk] at hkl
 simp only [Yq,Yah] at hkl
 refine Ya (rZ O (qL r2) V [17,16,15,14,5,4,3,0] [101,0] fun O=>Ya ?_)
 refine Zc O Z (fun hc0=>?_) (fun hc0=>?_)
 ·have hil:i<os.length:=by simp at hc0;omega
  refine Yd (Za (Ya (Ye (Ya (Zb O (qy 2 YbQ r2 (qf (oR true 2 .t) r1 qz (qf (oH [.int .i64 0,.slice none 0 0] 102) trivial qz (qS 2 102 r2 r1 qZ)))) V [16,15,14,7,5,4,3,0] [102,101,0] (fun _=>rfl) (fun _=>rfl) fun τ a w F O=>?_)))))
  try dsimp only [RS.sub,SF.sub,CF.sub,csub,Anc.sub,List.map,Zd,xL,xM,Nat.reduceAdd,xD,xE,xT,xU,xC,xN,zCF,ldSF,Zl,rTx,Zv,ZY,Zs,rOp] at O
  generalize τ 7=v7 at O
  try simp only [Yg] at O
  refine Za (Zh O (qR rr (qg 0 102 r1 r1 (qa 102 r1 r1 (qf (oP (Ziy _ (Nn os i).key ow) func200 (Args.two .t .t)) r2 qz (qO rr qZ))))) V [16,15,14,5,4,3,0] [102,101,0] Z Z fun a w F O=>Zi (Za ?_))
  refine rZ O (qp r1 (qR rr qZ)) V [16,15,14,5,4,3,0] [102,101,0] fun O=>?_
  replace O:=O.ent (i:=16) (s':=.pv (.int .i64 ((i+1:Nat):Int))) Z (.int (Ze ow))
  replace O:=O.ent (i:=5) (s':=.pv (.sl Zs (((os.map OrdD.key).take (i+1)).foldl Zdi []))) Z ((.sl (by rw [ZQ (by simpa using hil),YaO,Zdz hil];rfl)))
  obtain ⟨F,O⟩:=O.nM [15,14,4,3,0,5,16] [101,0]
  exact ⟨(i+1),F,⟨by omega,tv⟩,O,by omega⟩
 have hil:i=os.length:=by simp at hc0;omega
 have hk0:(((os.map OrdD.key).take i).foldl Zdi [])=Zbu (os.map OrdD.key):=by rw [hil,YS (by simp)];rfl
 have hk00:=ZeP (os.map OrdD.key)
 rw [YP] at hk00
 refine Ym (Zg (Zg (Zo (Za (Ya (Ya (Zh O (qe 3 101 r1 r1 (qf (oP (Zo3 t false ow) func201 (Args.two (.pagg .t) .cb)) r1 qz (qu YbO r1 (qJ qZ)))) V [28,27,26,5,4,3,0] [101,0] Z Z fun a w F O=>?_)))))))
 rw [show Zbu ((t.ops.filter fun o=>false || !o.read).map OpD.key)=Zah t from rfl] at O
 refine Za (Ye ?_)
 replace O:=O.ent (i:=5) (s':=.pv (.sl Zs (((Zah t).take 0).foldl Zdi (Zbu (os.map OrdD.key))))) Z ((.sl hk0))
 refine Zk (σ:=(Nat)) [0,3,4,26,27] [0,101] (fun s=>[(28,.pv (.int .i64 (s:Int))),(5,.pv (.sl Zs (((Zah t).take s).foldl Zdi (Zbu (os.map OrdD.key)))))]) (fun s=>[]) (fun s=>s≤(Zah t).length∧(True)) (fun s=>(Zah t).length - s) (0) O ⟨rfl,rfl,rfl,rfl,rfl,rfl,rfl,tv⟩ ⟨rfl,rfl,tv⟩ ⟨Yt _,tv⟩ ?_
 clear O;intro i a w F hC O
 try dsimp only at hC
 obtain ⟨F,O⟩:=O.nM [28,27,26,5,4,3,0] [101,0]
 try dsimp only at O
 obtain ⟨hi,hq⟩:=hC
 have hkl:=Zfm (Zbu (os.map OrdD.key)) ((Zah t).take i)
 rw [Yk] at hkl
 refine Ya (rZ O (qL r2) V [29,28,27,26,5,4,3,0] [101,0] fun O=>Ya ?_)
 refine Zc O Z (fun hc1=>?_) (fun hc1=>?_)
 ·have hil:i<(Zah t).length:=by simp at hc1;omega
  refine Yd (Za (Ya (Ye (Ya (Zh O (qy 1 YbO r2 (qf (oR false 1 .t) r1 qz (qO rr qZ))) V [28,27,26,9,5,4,3,0] [101,0] Z Z fun a w F O=>?_)))))
  try simp only [Yg] at O
  refine Za (Zh O (qR rr (qR rr (qf (oP (Ziy _ (Nn (Zah t) i) ow) func200 (Args.two .t .t)) r2 qz (qO rr qZ)))) V [28,27,26,5,4,3,0] [101,0] Z Z fun a w F O=>Zi (Za ?_))
  refine rZ O (qp r1 (qR rr qZ)) V [28,27,26,5,4,3,0] [101,0] fun O=>?_
  replace O:=O.ent (i:=28) (s':=.pv (.int .i64 ((i+1:Nat):Int))) Z (.int (Ze ow))
  replace O:=O.ent (i:=5) (s':=.pv (.sl Zs (((Zah t).take (i+1)).foldl Zdi (Zbu (os.map OrdD.key))))) Z ((.sl (by rw [ZQ hil,YaO];rfl)))
  obtain ⟨F,O⟩:=O.nM [27,26,4,3,0,5,28] [101,0]
  exact ⟨(i+1),F,⟨by omega,tv⟩,O,by omega⟩
 have hil:i=(Zah t).length:=by simp at hc1;omega
 rw [hil,YE] at O
 rw [show (Zah t).foldl Zdi (Zbu (os.map OrdD.key))=Z7 t os from rfl] at O
 have hdk:(Z7 t os).length≤5000:=by have:=Zfm (Zbu (os.map OrdD.key)) (Zah t);unfold Z7;omega
 refine Ym (Zg (Zg (Zo (Za (Ya (rZ O (qR rr (qO rr qZ)) V [10,5,4,3,0] [101,0] fun O=>(Ya (Ya ?_))))))))
 refine rZ O (qR rr (qu YbO r1 (qJ qZ))) V [39,38,37,10,4,3,0] [101,0] fun O=>Ye ?_
 replace O:=O.ent (i:=10) (s':=.pv (.sl Zv (((Z7 t os).take 0).foldl (Zax t os) os))) Z (.refl)
 refine Zk (σ:=(Nat)) [0,3,4,37,38] [0,101] (fun s=>[(39,.pv (.int .i64 (s:Int))),(10,.pv (.sl Zv (((Z7 t os).take s).foldl (Zax t os) os)))]) (fun s=>[]) (fun s=>s≤(Z7 t os).length∧(True)) (fun s=>(Z7 t os).length - s) (0) O ⟨rfl,rfl,rfl,rfl,rfl,rfl,rfl,tv⟩ ⟨rfl,rfl,tv⟩ ⟨Yt _,tv⟩ ?_
 clear O;intro i a w F hC O
 try dsimp only at hC
 obtain ⟨F,O⟩:=O.nM [39,38,37,10,4,3,0] [101,0]
 try dsimp only at O
 obtain ⟨hi,hq⟩:=hC
 have hdl:=Zmr (t:=t) (os:=os) ((Z7 t os).take i) os
 rw [Yk] at hdl
 refine Ya (rZ O (qL r2) V [40,39,38,37,10,4,3,0] [101,0] fun O=>Ya ?_)
 refine Zc O Z (fun hc2=>?_) (fun hc2=>?_)
 ·have hil:i<(Z7 t os).length:=by simp at hc2;omega
  have hio:=hil
  have hgl:=Zi6 hs (Nn (Z7 t os) i)
  refine Yd (Za (Ya (Ye (Ya (Zh O (qy 1 YbO r2 (qf (oR false 1 .t) r1 qz (qO rr qZ))) V [39,38,37,12,10,4,3,0] [101,0] Z Z fun a w F O=>?_)))))
  try simp only [Yg] at O
  refine Za (Ya (rZ O (qR rr (qf (oB [(1,.tmp 43)] [.slice none 0 0,.slice none 0 0] [(0,1),(1,1)] (.one Z .t Zas kr .nil)) r1 qz (qR rr (qf (oP (ZfG ⟨[],os⟩ (Nn (Z7 t os) i)) func20 (Args.two (.conv (.pagg .t) (Ent.paggLe (l:=[.is (.slice none 0 0),.sl Zv os]) (l':=Zl ⟨[],os⟩) ⟨Zay.nilSl,Zay.refl,tv⟩)) .t)) r2 qz (qO rr qZ))))) V [39,38,37,13,12,10,4,3,0] [101,0] fun O=>Ya ?_))
  refine rZ O (qg 1 101 r1 r1 (qa 101 r1 r1 (qR rr (qv 2 101 Z r2 r1 (qw 101 Z r2 r1 (qm Z Z Z Z (qk Z (fun h=>oP (Zdp t.ops (Nn (Z7 t os) i) ow) func197 (Args.two (.w h) (.w h))) r3 qz (qk Z (fun h=>Zal (.w h) qi) r2 qz (qf (ZJ .t .t) r2 qz qZ))))))))) V [55,39,38,37,13,12,10,4,3,0] [101,0] fun O=>?_
  refine Zc O Z (fun hc3=>?_) (fun hc3=>?_)
  ·have hst9:putGR OrdD.key (⟨(Nn (Z7 t os) i),Zhr (getO os (Nn (Z7 t os) i)) t.id⟩:OrdD) (((Z7 t os).take i).foldl (Zax t os) os) (decide (((⟨(Nn (Z7 t os) i),Zhr (getO os (Nn (Z7 t os) i)) t.id⟩:OrdD)).txs = []))=(((Z7 t os).take (i+1)).foldl (Zax t os) os):=by rw [ZQ hio,YaO];show _=Zax t os _ _;unfold Zax Zea;rw [Yf (by have h9:=hc3;unfold wcnt;simpa using h9)]
   refine Zh O (qR rr (qR rr (qR rr (qg 0 101 r1 r1 (qa 101 r1 r1 (qf (oP (Zqy (getO os (Nn (Z7 t os) i)) t.id ow) func202 (Args.two .t .t)) r2 qz (qf (oB [(0,.tmp 57),(1,.tmp 61)] [.int .i64 0,.slice none 0 0] [(0,1),(1,1)] (.one Z .t one_int kr (.one Z .t Zas kr .nil))) r2 qz (qf (oP (ZdZ (((Z7 t os).take i).foldl (Zax t os) os) (⟨(Nn (Z7 t os) i),Zhr (getO os (Nn (Z7 t os) i)) t.id⟩:OrdD) ow) func137 (Args.two .t (.pagg .t))) r2 qz (qO rr qZ))))))))) V [39,38,37,10,4,3,0] [101,0] Z Z fun a w F O=>Zi (Za ?_)
   refine rZ O (qp r1 (qR rr qZ)) V [39,38,37,10,4,3,0] [101,0] fun O=>?_
   replace O:=O.ent (i:=39) (s':=.pv (.int .i64 ((i+1:Nat):Int))) Z (.int (Ze ow))
   replace O:=O.ent (i:=10) (s':=.pv (.sl Zv (((Z7 t os).take (i+1)).foldl (Zax t os) os))) Z ((.sl hst9))
   obtain ⟨F,O⟩:=O.nM [38,37,4,3,0,10,39] [101,0]
   exact ⟨(i+1),F,⟨by omega,tv⟩,O,by omega⟩
  have hst9:putGR OrdD.key (⟨(Nn (Z7 t os) i),Zbx (getO os (Nn (Z7 t os) i)) t.id⟩:OrdD) (((Z7 t os).take i).foldl (Zax t os) os) (decide (((⟨(Nn (Z7 t os) i),Zbx (getO os (Nn (Z7 t os) i)) t.id⟩:OrdD)).txs = []))=(((Z7 t os).take (i+1)).foldl (Zax t os) os):=by rw [ZQ hio,YaO];show _=Zax t os _ _;unfold Zax Zea;rw [Yb (by have h9:=hc3;unfold wcnt;intro e;simp [e.1,e.2] at h9)]
  refine Zh O (qR rr (qR rr (qR rr (qg 0 101 r1 r1 (qa 101 r1 r1 (qf (oP (Zk0 (getO os (Nn (Z7 t os) i)) t.id ow) func203 (Args.two .t .t)) r2 qz (qf (oB [(0,.tmp 65),(1,.tmp 69)] [.int .i64 0,.slice none 0 0] [(0,1),(1,1)] (.one Z .t one_int kr (.one Z .t Zas kr .nil))) r2 qz (qf (oP (ZdZ (((Z7 t os).take i).foldl (Zax t os) os) (⟨(Nn (Z7 t os) i),Zbx (getO os (Nn (Z7 t os) i)) t.id⟩:OrdD) ow) func137 (Args.two .t (.pagg .t))) r2 qz (qO rr qZ))))))))) V [39,38,37,10,4,3,0] [101,0] Z Z fun a w F O=>Zi (Za ?_)
  refine rZ O (qp r1 (qR rr qZ)) V [39,38,37,10,4,3,0] [101,0] fun O=>?_
  replace O:=O.ent (i:=39) (s':=.pv (.int .i64 ((i+1:Nat):Int))) Z (.int (Ze ow))
  replace O:=O.ent (i:=10) (s':=.pv (.sl Zv (((Z7 t os).take (i+1)).foldl (Zax t os) os))) Z ((.sl hst9))
  obtain ⟨F,O⟩:=O.nM [38,37,4,3,0,10,39] [101,0]
  exact ⟨(i+1),F,⟨by omega,tv⟩,O,by omega⟩
 have hil:i=(Z7 t os).length:=by simp at hc2;omega
 refine Ym (Zg (Zg (Zo (Za (Ya (rZ O (qR rr (qO rr qZ)) V [4] [101,0] fun O=>Yh ?_))))))
 refine ZB hfr O Z Z Z (.sl (by rw [hil,YE];rfl))
theorem Zkj (g:Zx) (t:TxD) (hs:ZaW g.txs) (ht:t.ops.length≤1000):FnP prog 135 [.agg (Zl g),.agg (rTx t)] (.bool (Zg6 g t)):=by
 refine FnP.mk func135 Z ntmps135 Z fun B a w F V hfr O=>?_
 have hsl:=hs.1
 have hnl:∀ x:TxD,x.ops.length≤1000→(ZaB x).length≤1000:=fun x hx=>by have:=ZdU x.id x.ops x.ops.length;rw [YE] at this;unfold ZaB;omega
 refine Ya (Zb O (qx 101 r1 (qx 102 r1 qB)) V [4,3,2] [102,101,0] (fun _=>rfl) (fun _=>rfl) fun τ a w F O=>?_)
 try dsimp only [RS.sub,SF.sub,CF.sub,csub,Anc.sub,List.map,zCF,Zl,rTx,Zv,ZY,Zs,rOp] at O
 generalize τ 2=v2,τ 3=v3 at O
 refine Za (Ya (Ya (rZ O (qg 0 101 r1 r1 (qa 101 r1 r1 (qu YbP r1 (qJ qZ)))) V [12,11,10,4,3] [102,101,0] fun O=>Ye ?_)))
 refine Zk (σ:=(Nat)) [3,4,10,11] [0,101,102] (fun s=>[(12,.pv (.int .i64 (s:Int)))]) (fun s=>[]) (fun s=>s≤g.txs.length∧(∀ q,q<s→ZkA t (Nn g.txs q)=false)) (fun s=>g.txs.length - s) (0) O ⟨rfl,rfl,rfl,rfl,rfl,tv⟩ ⟨rfl,rfl,rfl,tv⟩ ⟨Yt _,fun q hq=>absurd hq (YJ q)⟩ ?_
 clear O;intro i a w F hC O
 try dsimp only at hC
 obtain ⟨F,O⟩:=O.nM [12,11,10,4,3] [102,101,0]
 try dsimp only at O
 obtain ⟨hi,hq⟩:=hC
 refine Ya (rZ O (qL r2) V [13,12,11,10,4,3] [102,101,0] fun O=>Ya ?_)
 refine Zc O Z (fun hc0=>?_) (fun hc0=>?_)
 ·have hil:i<g.txs.length:=by simp at hc0;omega
  have hio:=hil
  have hqo:=hq
  have hnl2:=hnl (Nn g.txs i) (by have:=hs.at hio;omega)
  refine Yd (Za (Ya (Ye (Ya (Zb O (qy 3 YbP r2 (qf (oR true 3 .t) r1 qz (qf (oH [.int .i64 0,.bool false,.slice none 0 0] 103) trivial qz (qS 3 103 r2 r1 qZ)))) V [12,11,10,6,4,3] [103,102,101,0] (fun _=>rfl) (fun _=>rfl) fun τ a w F O=>?_)))))
  try dsimp only [RS.sub,SF.sub,CF.sub,csub,Anc.sub,List.map,Zd,xL,xM,Nat.reduceAdd,xD,xE,xT,xU,xC,xN,zCF,ldSF,Zl,rTx,Zv,ZY,Zs,rOp] at O
  generalize τ 6=v6 at O
  try simp only [Yg] at O
  refine Za (Ya (Ya (rZ O (qg 0 103 r1 r1 (qa 103 r1 r1 (qg 0 102 r1 r1 (qa 102 r1 r1 (qf (o_eql .t .t) r2 qz qZ))))) V [20,12,11,10,6,4,3] [103,102,101,0] fun O=>?_)))
  refine Zc O Z (fun hc1=>?_) (fun hc1=>?_)
  ·have hno:ZkA t (Nn g.txs i)=false:=by unfold ZkA;rw [Yu (by simpa using hc1),Bool.false_and]
   refine Ym (Zg (Zo (Za (rZ O (qp r1 (qR rr qZ)) V [12,11,10,4,3] [103,102,101,0] fun O=>?_))))
   replace O:=O.ent (i:=12) (s':=.pv (.int .i64 ((i+1:Nat):Int))) Z (.int (Ze ow))
   obtain ⟨F,O⟩:=O.nM [11,10,4,3,12] [102,101,0]
   exact ⟨(i+1),F,⟨by omega,(fun q h9=>by rcases Yy (YD h9) with h8 | h8;exact hqo q h8;rw [h8];exact hno)⟩,O,by omega⟩
  have hne:(Nn g.txs i).id≠t.id:=by simpa using hc1
  refine Yd (Za (Ya (rZ O (qe 3 103 r1 r1 (qf (oP (Zh1 (Nn g.txs i) (by have:=hs.at hio;omega)) func198 (Args.one (.pagg .t))) r1 qz (qu YbW r1 (qJ qZ)))) V [24,23,22,12,11,10,4,3] [103,102,101,0] fun O=>Ye ?_)))
  refine Zk (σ:=(Nat)) [3,4,10,11,12,22,23] [0,101,102,103] (fun s=>[(24,.pv (.int .i64 (s:Int)))]) (fun s=>[]) (fun s=>s≤(ZaB (Nn g.txs i)).length∧(∀ q,q<s→Zm7 t (Nn (ZaB (Nn g.txs i)) q)=false)) (fun s=>(ZaB (Nn g.txs i)).length - s) (0) O ⟨rfl,rfl,rfl,rfl,rfl,rfl,rfl,rfl,tv⟩ ⟨rfl,rfl,rfl,rfl,tv⟩ ⟨Yt _,fun q hq=>absurd hq (YJ q)⟩ ?_
  clear O;intro j a w F hC O
  try dsimp only at hC
  obtain ⟨F,O⟩:=O.nM [24,23,22,12,11,10,4,3] [103,102,101,0]
  try dsimp only at O
  obtain ⟨hi,hq⟩:=hC
  have hq2:=hq
  refine Ya (rZ O (qL r2) V [25,24,23,22,12,11,10,4,3] [103,102,101,0] fun O=>Ya ?_)
  refine Zc O Z (fun hc2=>?_) (fun hc2=>?_)
  ·have hil:j<(ZaB (Nn g.txs i)).length:=by simp at hc2;omega
   have hjo:=hil
   refine Yd (Za (Ya (Ye (Ya (Zb O (qy 3 YbW r2 (qf (oR true 3 .t) r1 qz (qf (oH [.int .i64 0,.int .i64 0,.int .i64 0] 104) trivial qz (qS 3 104 r2 r1 qZ)))) V [24,23,22,12,11,10,8,4,3] [104,103,102,101,0] (fun _=>rfl) (fun _=>rfl) fun τ a w F O=>?_)))))
   try dsimp only [RS.sub,SF.sub,CF.sub,csub,Anc.sub,List.map,Zd,xL,xM,Nat.reduceAdd,xD,xE,xT,xU,xC,xN,zCF,ldSF,Zl,rTx,Zv,ZY,Zs,rOp] at O
   generalize τ 8=v8 at O
   try simp only [Yg] at O
   refine Za (Ya (Zu O (qg 0 104 r1 r1 (qa 104 r1 r1 (qg 0 102 r1 r1 (qa 102 r1 r1 (qf (o_eql .t .t) r2 qz (qR rr (qv 2 104 Z r2 r1 (qw 104 Z r2 r1 (qv 2 102 Z r2 r1 (qw 102 Z r2 r1 (qv 1 104 Z r2 r1 (qw 104 Z r2 r1 (qk Z (fun h=>oP (Zdp t.ops (Nn (ZaB (Nn g.txs i)) j).key ow) func197 (Args.two (.w h) (.w h))) r3 qz (qk Z (fun h=>Zal (.w h) (.w h)) r3 qz (qf (ZJ .t .t) r2 qz qZ))))))))))))))) V [42,24,23,22,12,11,10,4,3] [104,103,102,101,0] Z Z fun a w F O=>?_))
   try dsimp only [List.map,xD,xE,xT,xU,ldSF,Zl,rTx,Zv,ZY,Zs,rOp] at O
   refine Za (Zc O Z (fun hc3=>?_) (fun hc3=>?_))
   ·have hg:true=Zg6 g t:=(ZmT hio (by
      have h9:=hc3
      simp at h9
      unfold ZkA
      rw [YI hne,Ybu]
      refine ZmT hjo ?_
      unfold Zm7 wcnt
      simp [h9.1]
      first | exact h9.2 | (have:=h9.2;omega))).symm
    refine Ya (rZ O qB V [24,23,22,12,11,10,4,3] [104,103,102,101,0] fun O=>(Yh (Zr (Zf (Zf (Zr (Zr (Zf (Zf (Zr (Zf ?_)))))))))))
    refine ZB hfr O Z Z Z (.bool hg)
   have hnv:Zm7 t (Nn (ZaB (Nn g.txs i)) j)=false:=by
     have h9:=hc3
     unfold Zm7 wcnt
     simp at h9 ⊢
     first | exact h9 | (intro e;have:=h9 e;omega)
   refine Yd (Zi (Za (rZ O (qp r1 (qR rr qZ)) V [24,23,22,12,11,10,4,3] [104,103,102,101,0] fun O=>?_)))
   replace O:=O.ent (i:=24) (s':=.pv (.int .i64 ((j+1:Nat):Int))) Z (.int (Ze ow))
   obtain ⟨F,O⟩:=O.nM [23,22,12,11,10,4,3,24] [103,102,101,0]
   exact ⟨(j+1),F,⟨by omega,(fun q h9=>by rcases Yy (YD h9) with h8 | h8;exact hq2 q h8;rw [h8];exact hnv)⟩,O,by omega⟩
  have hil:j=(ZaB (Nn g.txs i)).length:=by simp at hc2;omega
  have hno:ZkA t (Nn g.txs i)=false:=by unfold ZkA;rw [ZmH (by rw [← hil];exact hq2),Bool.and_false]
  refine Ym (Zg (Zg (Zo (Zi (Za (rZ O (qp r1 (qR rr qZ)) V [12,11,10,4,3] [103,102,101,0] fun O=>?_))))))
  replace O:=O.ent (i:=12) (s':=.pv (.int .i64 ((i+1:Nat):Int))) Z (.int (Ze ow))
  obtain ⟨F,O⟩:=O.nM [11,10,4,3,12] [102,101,0]
  exact ⟨(i+1),F,⟨by omega,(fun q h9=>by rcases Yy (YD h9) with h8 | h8;exact hqo q h8;rw [h8];exact hno)⟩,O,by omega⟩
 have hil:i=g.txs.length:=by simp at hc0;omega
 have hg:false=Zg6 g t:=(ZmH (by rw [← hil];exact hq)).symm
 refine Ym (Zg (Zg (Zo (Za (Ya (rZ O qB V [4] [102,101,0] fun O=>Yh ?_))))))
 refine ZB hfr O Z Z Z (.bool hg)
def getL (k:Int):List ZF→Int×Bool
 | []=>(0,false)
 | p :: l=>if p.key=k then (p.val,true) else getL k l
theorem Zdc {k:Int} {m:List ZF} : ∀ {l:List ZF},(∀ p ∈ l,p.key≠k)→getL k (l++m)=getL k m
 | [],_=>rfl
 | p :: l,h=>by rw [Y0,getL,Yb (h p (by simp)),Zdc fun x hx=>h x (by simp [hx])]
theorem ZoK {k:Int} {l:List ZF} (h:∀ p ∈ l,p.key≠k):getL k l=(0,false):=by
 have:=Zdc (m:=[]) h
 rwa [YF] at this
theorem Zg0 {k:Int} {m:List ZF} (hm:∀ p ∈ m,p.key≠k):∀ l:List ZF,getL k (l++m)=getL k l
 | []=>ZoK hm
 | p :: l=>by rw [Y0,getL,getL,Zg0 hm l]
theorem ZdV (k:Int):∀ {t:Zae},Inc (tList t)→Zcf k t=getL k (tList t)
 | .nil,_=>rfl
 | .node l p r,h=>by
  obtain ⟨h1,h2,h3,h4⟩:=Inc.parts h
  show _=getL k (tList l++p :: tList r)
  unfold Zcf
  split
  ·rename_i hk
   rw [ZdV k h1,Zg0 fun x hx=>by
    rcases Yo.1 hx with rfl | hx
    ·omega
    ·have:=h4 x hx;omega]
  ·rename_i hk
   rw [Zdc fun x hx=>by have:=h3 x hx;omega,getL]
   split
   ·rw [Yb ow,ZdV k h2]
   ·rw [Yf ow]
theorem ZpI (b:Nat) {q:List Cell} {root:Int} {l:List ZF} (k:Int) (h:Zjr q root l):FnG prog 53 1 [.agg [.is (arV (some b)),.int .i64 root],.int .i64 k] [arH (some b) 65536 q] (.tup [.int .i64 (getL k l).1,.bool (getL k l).2]) (fun _=>[arH (some b) 65536 q]):=by
 obtain ⟨t,ht,hl⟩:=h
 have:=ZrK (some b) 65536 q root k t ht.rep
 rwa [ZdV k ht.inc,hl] at this
theorem Zgb (b:Nat) {q:List Cell} {root:Int} {l:List ZF} (h:Zjr q root l) (hs:l.length≤1000000):FnG prog 56 1 [.agg [.is (arV (some b)),.int .i64 root]] [arH (some b) 65536 q] (.sl ZC l) (fun _=>[arH (some b) 65536 q]):=by
 obtain ⟨t,ht,hl⟩:=h
 have:=ZoP (some b) 65536 q root t ht.rep (by rw [ZS,hl];omega)
 rwa [hl] at this
theorem sListR_c (b:Nat) {q:List Cell} {c:SqC} {l:List Int} (h:c.av=arV (some b)∧Zbe q c.root l) (hs:l.length≤1000000):FnG prog 57 1 [.agg [.is c.av,.int .i64 c.root]] [arH (some b) 65536 q] (.sl Zs l) (fun _=>[arH (some b) 65536 q]):=by
 obtain ⟨h1,t,ht,hl⟩:=h
 have hv:=ZmL t
 rw [hl] at hv
 have:=Zo6 (some b) 65536 q c.root t ht ow
 rw [hl] at this
 rw [h1];exact this
theorem lookR_mem {k:Int} : ∀ {l:List ZF},(getL k l).2=true→(⟨k,(getL k l).1⟩:ZF) ∈ l
 | [],h=>by cases h
 | p :: l,h=>by
  rw [getL] at h ⊢
  split at h
  ·rename_i e;rw [Yf e,← e];exact Yap
  ·rename_i e;rw [Yb e];exact YM _ (lookR_mem h)
theorem Zmw {k:Int} : ∀ {l:List ZF},(getL k l).2=false → ∀ p ∈ l,p.key≠k
 | [],h,p,hp=>by cases hp
 | x :: l,h,p,hp=>by
  rw [getL] at h
  split at h
  ·cases h
  ·rename_i e
   rcases Yo.1 hp with rfl | hp
   ·exact e
   ·exact Zmw h p hp
def hiA (A:StA):Zx:=Za4 A.all A.seqs A.now
def txA (A:StA) (id:Int):TxD×Bool:=if (getL id A.now.txs).2=true then (Nn A.all (getL id A.now.txs).1.toNat,true) else (zeroT,false)
def Zh9 (A:StA) (k:Int):List Int:=if (getL k A.now.orders).2=true then Nn A.seqs (getL k A.now.orders).1.toNat else []
theorem Znz {A:StA} {i:Nat} (h:i<A.now.txs.length):(hiA A).txs.take (i+1)=(hiA A).txs.take i ++ [Nn A.all (Nn A.now.txs i).val.toNat]:=by
 have hl:i<(hiA A).txs.length:=by unfold hiA Za4;rw [YP];exact h
 rw [ZQ hl,Zy hl,Zy h]
 exact Yai (fun x=>_ ++ [x]) (Yan _)
theorem Zns {A:StA} {i:Nat} (h:i<A.now.orders.length):(hiA A).orders.take (i+1)=(hiA A).orders.take i ++ [⟨(Nn A.now.orders i).key,Nn A.seqs (Nn A.now.orders i).val.toNat⟩]:=by
 have hl:i<(hiA A).orders.length:=by unfold hiA Za4;rw [YP];exact h
 rw [ZQ hl,Zy hl,Zy h]
 exact Yai (fun x=>_ ++ [x]) (Yan _)
theorem ZoO {A:StA} {i:Nat} (h:i=A.now.txs.length):(hiA A).txs.take i=(hiA A).txs:=by rw [YS];unfold hiA Za4;rw [YP];omega
theorem Zpj {A:StA} {i:Nat} (h:i=A.now.orders.length):(hiA A).orders.take i=(hiA A).orders:=by rw [YS];unfold hiA Za4;rw [YP];omega
theorem ZaJ.lens {A:StA} (h:ZaJ A):A.now.txs.length≤10000∧A.now.orders.length≤10000:=by
 have h1:=h.now_le
 have h2:=Zco A.all A.seqs A.now
 omega
theorem Zan.sq {A:StA} {ex:List RtA} {s:StC} (h:Zan A ex s) (hk:ZaJ A) {p:ZF} (hp:p ∈ A.now.orders):(Nn s.sr p.val.toNat).av=arV (some s.b)∧Zbe s.q (Nn s.sr p.val.toNat).root (Nn A.seqs p.val.toNat):=by
 have h1:=hk.okn.ov p hp
 refine h.seqs _ ow (.inl ⟨A.now,by simp [rootsA],p,hp,by omega⟩)
def unsn (seen:List Nat) (cs:List (GE Int RtC)):Nat:=(cs.filter fun e=>decide (e.born ∉ seen)).length
theorem Zfd {α:Type} {p p':α→Bool} (h:∀ x,p' x=true→p x=true):∀ l:List α,(l.filter p').length≤(l.filter p).length
 | []=>YA _
 | x :: l=>by
  have ih:=Zfd h l
  have hx:=h x
  rw [Yax,Yax]
  cases h1:p' x with
  | true=>rw [hx h1,Yf rfl,Yf rfl,Yl,Yl];omega
  | false=>
   rw [Yb (by simp)]
   split
   ·rw [Yl];omega
   ·exact ih
theorem Ze8 {α:Type} {p p':α→Bool} (h:∀ x,p' x=true→p x=true) {e:α} (h1:p e=true) (h2:p' e=false):∀ {l:List α},e ∈ l→(l.filter p').length<(l.filter p).length
 | [],he=>by cases he
 | x :: l,he=>by
  have hle:=Zfd h l
  rw [Yax,Yax]
  rcases Yo.1 he with rfl | he
  ·rw [h1,h2,Yb (by simp),Yf rfl,Yl];omega
  ·have ih:=Ze8 h h1 h2 he
   have hx:=h x
   cases h3:p' x with
   | true=>rw [hx h3,Yf rfl,Yf rfl,Yl,Yl];omega
   | false=>
    rw [Yb (by simp)]
    split
    ·rw [Yl];omega
    ·exact ih
theorem Zo7 {seen:List Nat} {e:GE Int RtC} (hs:e.born ∉ seen) {cs:List (GE Int RtC)} (he:e ∈ cs):unsn (seen ++ [e.born]) cs<unsn seen cs:=by
 unfold unsn
 refine Ze8 (e:=e) (fun x hx=>?_) ?_ ?_ he
 ·simp only [Yj] at hx ⊢
  exact fun h=>hx (Yas _ h)
 ·simpa using hs
 ·simp
theorem Zru {B:Zb4} {E:En} {a:Act} {w:World} {F:Fp} (h:Sat B E a w F) (n:Nat) {mv:Value} {cs:List (GE Int RtC)} {ck:Nat} (hl:Go.Gm.look E.r n=some (.ob (.val mv) (ZnT cs ck))):GWf cs ck ∧ ∀ e ∈ cs,∀ w y,(PV.int .i64 e.key).p (.int .i64 e.key) w y:=by
 obtain ⟨_,_,_,_,_,_,_,_,⟨h1,h2⟩,_⟩:=h.obGet n hl
 exact ⟨h1,fun e he w y=>⟨rfl,h2 e he⟩⟩
theorem ZsR (b:Nat) (A:StA) (hok:ZaJ A) (hfit:Zb1 A) (id:Int):FnG prog 11 1 [.is (.pointer (some ⟨b,0,none⟩)),.int .i64 id] [ZX (.pointer (some ⟨b,0,none⟩)) A] (.tup [.agg (rTx (txA A id).1),.bool (txA A id).2]) (fun _=>[ZX (.pointer (some ⟨b,0,none⟩)) A]):=by
 refine FnG.mk func11 Z ntmps11 Z kr fun B F0 a w F V hG O=>?_
 obtain ⟨sc,O⟩:=O.open_ex 1 rfl
 obtain ⟨hk,O⟩:=O.open_and 1 rfl
 obtain ⟨F,O⟩:=O.peel 1 2 Z rfl
 obtain ⟨F,O⟩:=O.peel 1 3 Z rfl
 obtain ⟨F,O⟩:=O.peel 1 4 Z rfl
 obtain ⟨F,O⟩:=O.peel 1 5 Z rfl
 obtain ⟨F,O⟩:=O.peel 1 6 Z rfl
 try dsimp only at O
 obtain ⟨F,O⟩:=O.nM [1,0] [6,5,4,3,2,0]
 refine Ya (Zb O (qf (oH [.int .i64 0,.bool false,.slice none 0 0] 101) trivial qz qB) V [5,4,1,0] [101,6,5,4,3,2,0] (fun _=>rfl) (fun _=>rfl) fun τ a w F O=>?_)
 try dsimp only [RS.sub,SF.sub,CF.sub,csub,Anc.sub,List.map,zCF,rRt,rSq,ZC,rTx,Zv,Zl,Zs,rOp] at O
 generalize τ 4=v4 at O
 refine Za (Ya (Ya (rZ O (qR rr (qf (Zab _ YbT Z .t) r1 qz qZ)) V [9,5,4,1,0] [101,6,5,4,3,2,0] fun O=>?_)))
 refine Zc O Z (fun hc0=>?_) (fun hc0=>?_)
 ·simp at hc0
 refine Yd (Za (Ya (rZ O (qR rr (qf (o_nilCheck 2 .is (by rfl)) r1 r1 (qf (oF 1 2 .adr) r1 r1 (qf (oF 0 2 .adr) r1 r1 (qf (oL true 2 2 .adr) r1 r1 (qR rr (qf (o_callG1 3 (ZpI sc.b id hk.now.t) func53 Z kr (Args.two (.pagg .t) .t)) r2 r1 (qR rr (qf (o_extract .t Z) r1 qz (qf (o_extract .t Z) r1 qz (qO rr (qO rr qZ)))))))))))) V [7,6,5,4,0] [101,6,5,4,3,2,0] fun O=>(Ya (Ya ?_)))))
 refine rZ O (qR rr (qf (Z1 .t) r1 qz qZ)) V [22,6,5,4,0] [101,6,5,4,3,2,0] fun O=>?_
 refine Zc O Z (fun hc1=>?_) (fun hc1=>?_)
 ·have hg:txA A id=(zeroT,false):=by unfold txA;rw [Yb];simpa using hc1
  refine Ya (rZ O (qf (oB [] [.int .i64 0,.bool false,.slice none 0 0] [(0,1),(1,1),(2,1)] .nil) trivial qz (qs 3 101 r2 r1 qB)) V [6,5,4,0] [101,6,5,4,3,2,0] fun O=>(Yh (Zf ?_)))
  have O:=O.fresh 1 rfl
  obtain ⟨F,O⟩:=O.push 1 6 Z Z Z kr
  obtain ⟨F,O⟩:=O.push 1 5 Z Z Z kr
  obtain ⟨F,O⟩:=O.push 1 4 Z Z Z kr
  obtain ⟨F,O⟩:=O.push 1 3 Z Z Z kr
  obtain ⟨F,O⟩:=O.push 1 2 Z Z Z kr
  have O:=O.turn 1 Z (r':=RS.hp (ZX (.pointer (some ⟨b,0,none⟩)) A)) (fun _ _ _ _ h=>⟨sc,hk,h⟩)
  obtain ⟨F,O⟩:=O.nM [6,5,4,0] [101,1,0]
  refine ZE hG O Z (.cl 101 true 3 Z Z (.tmp Z .nil)) (.two (by rw [hg];first | exact .aggU Z Z | exact .aggLe Z ⟨.refl,.refl,.nilSl,tv⟩) (.bool (by rw [hg]))) rfl
 have hl:(getL id A.now.txs).2=true:=by simpa using hc1
 have hg:txA A id=(Nn A.all (getL id A.now.txs).1.toNat,true):=by unfold txA;rw [Yf hl]
 have hv:=(hok.okn.tv _ (lookR_mem hl)).1
 dsimp only at hv
 refine Yd (Za (Ya (Zh O (qR rr (qf (o_nilCheck 2 .is (by rfl)) r1 r1 (qf (oF 8 2 .adr) r1 r1 (qa 2 r1 r1 (qR rr (qf (o_indexAddr_row (sz:=3) 5 (.mk YbP kr) .is .t ow ow (by rfl)) r2 r1 (qf (Zt (ag:=true) (sz':=3) (sz:=3) 5 .t (by intro x;rfl) ow kr kr kr) r1 r1 (qf (oP (scopied_c (Nn A.all (getL id A.now.txs).1.toNat) (by have:=hfit.ops _ (ZU (show (getL id A.now.txs).1.toNat<A.all.length by omega));omega)) func54 (Args.one (.pagg .t))) r1 qz (qf (oA 3 101 .is (.conv .t .agg)) r2 r1 qB))))))))) V [5,4] [101,6,5,4,3,2,0] Z Z fun a w F O=>?_)))
 try simp only [Yg] at O
 refine Za (Yh ?_)
 have O:=O.fresh 1 rfl
 obtain ⟨F,O⟩:=O.push 1 6 Z Z Z kr
 obtain ⟨F,O⟩:=O.push 1 5 Z Z Z kr
 obtain ⟨F,O⟩:=O.push 1 4 Z Z Z kr
 obtain ⟨F,O⟩:=O.push 1 3 Z Z Z kr
 obtain ⟨F,O⟩:=O.push 1 2 Z Z Z kr
 have O:=O.turn 1 Z (r':=RS.hp (ZX (.pointer (some ⟨b,0,none⟩)) A)) (fun _ _ _ _ h=>⟨sc,hk,h⟩)
 obtain ⟨F,O⟩:=O.nM [5,4] [101,1,0]
 refine ZE hG O Z (.cl 101 true 3 Z Z (.tmp Z .nil)) (.two (by rw [hg];first | exact .aggU Z Z | exact .aggLe Z ⟨.refl,.refl,.nilSl,tv⟩) (.bool (by rw [hg]))) rfl
theorem Zo0 (b:Nat) (A:StA) (hok:ZaJ A) (hfit:Zb1 A) (key:Int):FnG prog 19 1 [.is (.pointer (some ⟨b,0,none⟩)),.int .i64 key] [ZX (.pointer (some ⟨b,0,none⟩)) A] (.sl Zs (Zh9 A key)) (fun _=>[ZX (.pointer (some ⟨b,0,none⟩)) A]):=by
 refine FnG.mk func19 Z ntmps19 Z kr fun B F0 a w F V hG O=>?_
 obtain ⟨sc,O⟩:=O.open_ex 1 rfl
 obtain ⟨hk,O⟩:=O.open_and 1 rfl
 obtain ⟨F,O⟩:=O.peel 1 2 Z rfl
 obtain ⟨F,O⟩:=O.peel 1 3 Z rfl
 obtain ⟨F,O⟩:=O.peel 1 4 Z rfl
 obtain ⟨F,O⟩:=O.peel 1 5 Z rfl
 obtain ⟨F,O⟩:=O.peel 1 6 Z rfl
 try dsimp only at O
 obtain ⟨F,O⟩:=O.nM [1,0] [6,5,4,3,2,0]
 refine Ya (rZ O (qC qZ) V [4,1,0] [6,5,4,3,2,0] fun O=>(Ya (Ya ?_)))
 refine rZ O (qR rr (qf (Zab _ YbT Z .t) r1 qz qZ)) V [8,4,1,0] [6,5,4,3,2,0] fun O=>?_
 refine Zc O Z (fun hc0=>?_) (fun hc0=>?_)
 ·simp at hc0
 refine Yd (Za (Ya (rZ O (qR rr (qf (o_nilCheck 2 .is (by rfl)) r1 r1 (qf (oF 1 2 .adr) r1 r1 (qf (oF 2 2 .adr) r1 r1 (qf (oL true 2 2 .adr) r1 r1 (qR rr (qf (o_callG1 3 (ZpI sc.b key hk.now.o) func53 Z kr (Args.two (.pagg .t) .t)) r2 r1 (qR rr (qf (o_extract .t Z) r1 qz (qf (o_extract .t Z) r1 qz (qO rr (qO rr qZ)))))))))))) V [6,5,4,0] [6,5,4,3,2,0] fun O=>(Ya (Ya ?_)))))
 refine rZ O (qR rr (qf (Z1 .t) r1 qz qZ)) V [20,5,4,0] [6,5,4,3,2,0] fun O=>?_
 refine Zc O Z (fun hc1=>?_) (fun hc1=>?_)
 ·have hg:Zh9 A key = []:=by unfold Zh9;rw [Yb];simpa using hc1
  refine Ya (rZ O (qC qZ) V [5,4,0] [6,5,4,3,2,0] fun O=>(Yh (Zf ?_)))
  have O:=O.fresh 1 rfl
  obtain ⟨F,O⟩:=O.push 1 6 Z Z Z kr
  obtain ⟨F,O⟩:=O.push 1 5 Z Z Z kr
  obtain ⟨F,O⟩:=O.push 1 4 Z Z Z kr
  obtain ⟨F,O⟩:=O.push 1 3 Z Z Z kr
  obtain ⟨F,O⟩:=O.push 1 2 Z Z Z kr
  have O:=O.turn 1 Z (r':=RS.hp (ZX (.pointer (some ⟨b,0,none⟩)) A)) (fun _ _ _ _ h=>⟨sc,hk,h⟩)
  obtain ⟨F,O⟩:=O.nM [5,4,0] [1,0]
  refine ZE hG O Z (.tmp Z .nil) (.one (by rw [hg];first | exact .sl Z | exact .trans .nilSl (.sl Z))) rfl
 have hl:(getL key A.now.orders).2=true:=by simpa using hc1
 have hg:Zh9 A key=Nn A.seqs (getL key A.now.orders).1.toNat:=by unfold Zh9;rw [Yf hl]
 have hm:=lookR_mem hl
 have hv:=hok.okn.ov _ hm
 have hsl:=hk.len
 dsimp only at hv
 refine Yd (Za (Ya (Zh O (qR rr (qf (o_nilCheck 2 .is (by rfl)) r1 r1 (qf (oF 9 2 .adr) r1 r1 (qa 2 r1 r1 (qR rr (qf (o_indexAddr_row (sz:=2) 6 (.mk YbV kr) .is .t ow ow (by rfl)) r2 r1 (qf (Zt (ag:=true) (sz':=2) (sz:=2) 6 .t (by intro x;rfl) ow kr kr kr) r1 r1 (qf (o_callG1 3 (sListR_c sc.b (l:=Nn A.seqs (getL key A.now.orders).1.toNat) (c:=Nn sc.sr (getL key A.now.orders).1.toNat) (hk.sq hok hm) (by have:=hfit.len _ (ZU (show (getL key A.now.orders).1.toNat<A.seqs.length by omega));omega)) func57 Z kr (Args.one (.pagg .t))) r1 r1 (qO rr qZ))))))))) V [4] [6,5,4,3,2,0] Z Z fun a w F O=>?_)))
 try simp only [Yg] at O
 refine Za (Yh ?_)
 have O:=O.fresh 1 rfl
 obtain ⟨F,O⟩:=O.push 1 6 Z Z Z kr
 obtain ⟨F,O⟩:=O.push 1 5 Z Z Z kr
 obtain ⟨F,O⟩:=O.push 1 4 Z Z Z kr
 obtain ⟨F,O⟩:=O.push 1 3 Z Z Z kr
 obtain ⟨F,O⟩:=O.push 1 2 Z Z Z kr
 have O:=O.turn 1 Z (r':=RS.hp (ZX (.pointer (some ⟨b,0,none⟩)) A)) (fun _ _ _ _ h=>⟨sc,hk,h⟩)
 obtain ⟨F,O⟩:=O.nM [4] [1,0]
 refine ZE hG O Z (.tmp Z .nil) (.one (by rw [hg];first | exact .sl Z | exact .trans .nilSl (.sl Z))) rfl
theorem Zgk (b:Nat) (A:StA) (hok:ZaJ A) (hfit:Zb1 A):FnG prog 14 1 [.is (.pointer (some ⟨b,0,none⟩))] [ZX (.pointer (some ⟨b,0,none⟩)) A] (.agg (Zl (hiA A))) (fun _=>[ZX (.pointer (some ⟨b,0,none⟩)) A]):=by
 refine FnG.mk func14 Z ntmps14 Z kr fun B F0 a w F V hG O=>?_
 obtain ⟨sc,O⟩:=O.open_ex 1 rfl
 obtain ⟨hk,O⟩:=O.open_and 1 rfl
 obtain ⟨F,O⟩:=O.peel 1 2 Z rfl
 obtain ⟨F,O⟩:=O.peel 1 3 Z rfl
 obtain ⟨F,O⟩:=O.peel 1 4 Z rfl
 obtain ⟨F,O⟩:=O.peel 1 5 Z rfl
 obtain ⟨F,O⟩:=O.peel 1 6 Z rfl
 try dsimp only at O
 obtain ⟨F,O⟩:=O.nM [0] [6,5,4,3,2,0]
 have hlen:=hok.lens
 refine Ya (Zb O (qf (oH [.slice none 0 0,.slice none 0 0] 101) trivial qz qZ) V [2,0] [101,6,5,4,3,2,0] (fun _=>rfl) (fun _=>rfl) fun τ a w F O=>?_)
 try dsimp only [RS.sub,SF.sub,CF.sub,csub,Anc.sub,List.map,zCF,rRt,rSq,ZC,rTx,Zv,Zl,Zs,rOp] at O
 generalize τ 2=v2 at O
 refine Za (Ya (Zb O (qf (oH [.slice none 0 0,.slice none 0 0] 102) trivial qz qZ) V [3,2,0] [102,101,6,5,4,3,2,0] (fun _=>rfl) (fun _=>rfl) fun τ a w F O=>?_))
 try dsimp only [RS.sub,SF.sub,CF.sub,csub,Anc.sub,List.map,zCF,rRt,rSq,ZC,rTx,Zv,Zl,Zs,rOp] at O
 generalize τ 3=v3 at O
 refine Za (Ya (Ya (rZ O (qR rr (qf (Zab _ YbT Z .t) r1 qz qZ)) V [9,3,2,0] [102,101,6,5,4,3,2,0] fun O=>?_)))
 refine Zc O Z (fun hc0=>?_) (fun hc0=>?_)
 ·simp at hc0
 refine Yd (Za (Ya (Ya (rZ O (qR rr (qf (o_nilCheck 2 .is (by rfl)) r1 r1 (qf (oF 1 2 .adr) r1 r1 (qf (oF 0 2 .adr) r1 r1 (qf (oL true 2 2 .adr) r1 r1 (qf (o_callG1 3 (Zgb sc.b hk.now.t ow) func56 Z kr (Args.one (.pagg .t))) r1 r1 (qu YbU r1 (qJ qZ)))))))) V [18,17,16,3,2,0] [102,101,6,5,4,3,2,0] fun O=>Ye ?_))))
 replace O:=O.fresh 50 rfl
 replace O:=O.turn 50 Z (ZaC (T:=36) (sz:=3) (R:=rTx))
 refine Zk (σ:=(Nat)×(Value)×(List TxD)) [0,2,3,16,17] [0,2,3,4,5,6,101] (fun s=>[(18,.pv (.int .i64 (s.1:Int)))]) (fun s=>[(102,.pt (.val v3) 30 [.pv (.is s.2.1),.pv (.is (.slice none 0 0))]),(50,.ob (.val s.2.1) (ZO 36 3 rTx s.2.2))]) (fun s=>s.1≤A.now.txs.length∧(s.2.2=(hiA A).txs.take s.1)) (fun s=>A.now.txs.length - s.1) ((0),(.slice none 0 0),([])) O ⟨rfl,rfl,rfl,rfl,rfl,rfl,tv⟩ ⟨rfl,rfl,rfl,rfl,rfl,rfl,rfl,rfl,rfl,tv⟩ ⟨Yt _,rfl⟩ ?_
 clear O;intro s a w F hC O
 obtain ⟨i,u,out⟩:=s
 try dsimp only at hC
 obtain ⟨F,O⟩:=O.nM [18,17,16,3,2,0] [102,101,50,6,5,4,3,2,0]
 try dsimp only at O
 obtain ⟨hi,hq⟩:=hC
 have hol:out.length≤i:=by rw [hq,Yk];omega
 refine Ya (rZ O (qL r2) V [19,18,17,16,3,2,0] [102,101,50,6,5,4,3,2,0] fun O=>Ya ?_)
 refine Zc O Z (fun hc1=>?_) (fun hc1=>?_)
 ·have hil:i<A.now.txs.length:=by simp at hc1;omega
  have hv:=(hok.okn.tv _ (ZU hil)).1
  refine Yd (Za (Ya (Ye (Ya (Zb O (qy 2 YbU r2 (qf (oR true 2 .t) r1 qz (qf (oH [.int .i64 0,.int .i64 0] 103) trivial qz (qS 2 103 r2 r1 qZ)))) V [18,17,16,5,3,2,0] [103,102,101,50,6,5,4,3,2,0] (fun _=>rfl) (fun _=>rfl) fun τ a w F O=>?_)))))
  try dsimp only [RS.sub,SF.sub,CF.sub,csub,Anc.sub,List.map,Zd,xL,xM,Nat.reduceAdd,xD,xE,xT,xU,xC,xN,zCF,ldSF,rRt,rSq,ZC,rTx,Zv,Zl,Zs,rOp] at O
  generalize τ 5=v5 at O
  try simp only [Yg] at O
  refine Za (ZaK O (qg 0 102 r1 r1 (qa 102 r1 r1 (qR rr (qf (o_nilCheck 2 .is (by rfl)) r1 r1 (qf (oF 8 2 .adr) r1 r1 (qa 2 r1 r1 (qg 1 103 r1 r1 (qa 103 r1 r1 (qf (o_indexAddr_row (sz:=3) 5 (.mk YbP kr) .is .t ow ow (by rfl)) r2 r1 (qf (Zt (ag:=true) (sz':=3) (sz:=3) 5 .t (by intro x;rfl) ow kr kr kr) r1 r1 (qf (oP (scopied_c (Nn A.all (Nn A.now.txs i).val.toNat) (by have:=hfit.ops _ (ZU (show (Nn A.now.txs i).val.toNat<A.all.length by omega));omega)) func54 (Args.one (.pagg .t))) r1 qz (qf (Zn (sz:=3) (zs:=[.int .i64 0,.bool false,.slice none 0 0]) (r:=[(0,.tmp 32)]) (l:=[_,_,_]) YbP kr kr kr kr Z Z (.agg Z (.conv .t .agg) kr kr .nil) Z) r1 qz (qf (o_append (sz:=3) (bs:=40) 50 (.mk' YbP kr kr) (by intro x;rfl) .is (.arr (l':=[Nn A.all (Nn A.now.txs i).val.toNat]) .t) (by simp only [Yl,Yq];omega) (by decide)) ⟨rfl,rfl,tv⟩ ⟨rfl,tv⟩ (qg 0 102 r1 r1 (qf (ZbD 102 .adr kr kr) r2 r1 qZ))))))))))))))) V [18,17,16,3,2,0] [103,102,101,50,6,5,4,3,2,0] (fun _=>rfl) (fun _=>rfl) fun τ a w F O=>?_)
  try dsimp only [RS.sub,SF.sub,CF.sub,csub,Anc.sub,List.map,Zd,xL,xM,Nat.reduceAdd,xD,xE,xT,xU,xC,xN,zCF,ldSF,rRt,rSq,ZC,rTx,Zv,Zl,Zs,rOp] at O
  generalize τ 34=v34 at O
  try simp only [Yg] at O
  refine Zi (Za (rZ O (qp r1 (qR rr qZ)) V [18,17,16,3,2,0] [103,102,101,50,6,5,4,3,2,0] fun O=>?_))
  replace O:=O.ent (i:=18) (s':=.pv (.int .i64 ((i+1:Nat):Int))) Z (.int (Ze ow))
  obtain ⟨F,O⟩:=O.nM [17,16,3,2,0,18] [101,6,5,4,3,2,0,50,102]
  exact ⟨((i+1),_,_),F,⟨by omega,(by rw [hq];exact (Znz hil).symm)⟩,O,by omega⟩
 have hil:i=A.now.txs.length:=by simp at hc1;omega
 obtain ⟨F,O⟩:=O.giveCell 50 102 0 Z Z Z Z rfl
 try dsimp only [List.set] at O
 obtain ⟨F,O⟩:=O.nM [19,18,17,16,3,2,0] [102,101,6,5,4,3,2,0]
 rw [hq,ZoO hil] at O
 refine Ym (Zg (Zg (Zo (Za (Ya (Ya (rZ O (qR rr (qf (o_nilCheck 2 .is (by rfl)) r1 r1 (qf (oF 1 2 .adr) r1 r1 (qf (oF 2 2 .adr) r1 r1 (qf (oL true 2 2 .adr) r1 r1 (qf (o_callG1 3 (Zgb sc.b hk.now.o ow) func56 Z kr (Args.one (.pagg .t))) r1 r1 (qu YbU r1 (qJ qZ)))))))) V [44,43,42,3,2,0] [102,101,6,5,4,3,2,0] fun O=>Ye ?_)))))))
 replace O:=O.fresh 51 rfl
 replace O:=O.turn 51 Z (ZaC (T:=39) (sz:=2) (R:=Zv))
 refine Zk (σ:=(Nat)×(Value)×(List OrdD)) [0,2,3,42,43] [0,2,3,4,5,6,101] (fun s=>[(44,.pv (.int .i64 (s.1:Int)))]) (fun s=>[(102,.pt (.val v3) 30 [.pv (.sl rTx (hiA A).txs),.pv (.is s.2.1)]),(51,.ob (.val s.2.1) (ZO 39 2 Zv s.2.2))]) (fun s=>s.1≤A.now.orders.length∧(s.2.2=(hiA A).orders.take s.1)) (fun s=>A.now.orders.length - s.1) ((0),(.slice none 0 0),([])) O ⟨rfl,rfl,rfl,rfl,rfl,rfl,tv⟩ ⟨rfl,rfl,rfl,rfl,rfl,rfl,rfl,rfl,rfl,tv⟩ ⟨Yt _,rfl⟩ ?_
 clear O;intro s a w F hC O
 obtain ⟨i,u,out⟩:=s
 try dsimp only at hC
 obtain ⟨F,O⟩:=O.nM [44,43,42,3,2,0] [102,101,51,6,5,4,3,2,0]
 try dsimp only at O
 obtain ⟨hi,hq⟩:=hC
 have hol:out.length≤i:=by rw [hq,Yk];omega
 refine Ya (rZ O (qL r2) V [45,44,43,42,3,2,0] [102,101,51,6,5,4,3,2,0] fun O=>Ya ?_)
 refine Zc O Z (fun hc2=>?_) (fun hc2=>?_)
 ·have hil:i<A.now.orders.length:=by simp at hc2;omega
  have hv:=hok.okn.ov _ (ZU hil)
  have hsl:=hk.len
  refine Yd (Za (Ya (Ye (Ya (Zb O (qy 2 YbU r2 (qf (oR true 2 .t) r1 qz (qf (oH [.int .i64 0,.int .i64 0] 104) trivial qz (qS 2 104 r2 r1 qZ)))) V [44,43,42,7,3,2,0] [104,102,101,51,6,5,4,3,2,0] (fun _=>rfl) (fun _=>rfl) fun τ a w F O=>?_)))))
  try dsimp only [RS.sub,SF.sub,CF.sub,csub,Anc.sub,List.map,Zd,xL,xM,Nat.reduceAdd,xD,xE,xT,xU,xC,xN,zCF,ldSF,rRt,rSq,ZC,rTx,Zv,Zl,Zs,rOp] at O
  generalize τ 7=v7 at O
  try simp only [Yg] at O
  refine Za (ZaK O (qg 1 102 r1 r1 (qa 102 r1 r1 (qg 0 104 r1 r1 (qa 104 r1 r1 (qR rr (qf (o_nilCheck 2 .is (by rfl)) r1 r1 (qf (oF 9 2 .adr) r1 r1 (qa 2 r1 r1 (qg 1 104 r1 r1 (qa 104 r1 r1 (qf (o_indexAddr_row (sz:=2) 6 (.mk YbV kr) .is .t ow ow (by rfl)) r2 r1 (qf (Zt (ag:=true) (sz':=2) (sz:=2) 6 .t (by intro x;rfl) ow kr kr kr) r1 r1 (qf (o_callG1 3 (sListR_c sc.b (c:=Nn sc.sr (Nn A.now.orders i).val.toNat) (hk.sq hok (ZU hil)) (by have:=hfit.len _ (ZU (show (Nn A.now.orders i).val.toNat<A.seqs.length by omega));omega)) func57 Z kr (Args.one (.pagg .t))) r1 r1 (qf (oB [(0,.tmp 51),(1,.tmp 60)] [.int .i64 0,.slice none 0 0] [(0,1),(1,1)] (.one Z .t one_int kr (.one Z .t Zas kr .nil))) r2 qz (qf (Zn (sz:=2) (zs:=[.int .i64 0,.slice none 0 0]) (r:=[(0,.tmp 61)]) (l:=[_,_]) YbQ kr kr kr kr Z Z (.agg Z .t kr kr .nil) Z) r1 qz (qf (o_append (sz:=2) (bs:=32) 51 (.mk' YbQ kr kr) (by intro x;rfl) .is (.arr (l':=[(⟨(Nn A.now.orders i).key,Nn A.seqs (Nn A.now.orders i).val.toNat⟩:OrdD)]) .t) (by simp only [Yl,Yq];omega) (by decide)) ⟨rfl,rfl,tv⟩ ⟨rfl,tv⟩ (qg 1 102 r1 r1 (qf (ZbD 102 .adr kr kr) r2 r1 qZ)))))))))))))))))) V [44,43,42,3,2,0] [104,102,101,51,6,5,4,3,2,0] (fun _=>rfl) (fun _=>rfl) fun τ a w F O=>?_)
  try dsimp only [RS.sub,SF.sub,CF.sub,csub,Anc.sub,List.map,Zd,xL,xM,Nat.reduceAdd,xD,xE,xT,xU,xC,xN,zCF,ldSF,rRt,rSq,ZC,rTx,Zv,Zl,Zs,rOp] at O
  generalize τ 63=v63 at O
  try simp only [Yg] at O
  refine Zi (Za (rZ O (qp r1 (qR rr qZ)) V [44,43,42,3,2,0] [104,102,101,51,6,5,4,3,2,0] fun O=>?_))
  replace O:=O.ent (i:=44) (s':=.pv (.int .i64 ((i+1:Nat):Int))) Z (.int (Ze ow))
  obtain ⟨F,O⟩:=O.nM [43,42,3,2,0,44] [101,6,5,4,3,2,0,51,102]
  exact ⟨((i+1),_,_),F,⟨by omega,(by rw [hq];exact (Zns hil).symm)⟩,O,by omega⟩
 have hil:i=A.now.orders.length:=by simp at hc2;omega
 obtain ⟨F,O⟩:=O.giveCell 51 102 1 Z Z Z Z rfl
 try dsimp only [List.set] at O
 obtain ⟨F,O⟩:=O.nM [45,44,43,42,3,2,0] [102,101,6,5,4,3,2,0]
 rw [hq,Zpj hil] at O
 refine Ym (Zg (Zg (Zo (Za (Ya (rZ O (qe 2 102 r1 r1 (qs 2 101 r2 r1 qZ)) V [2] [102,101,6,5,4,3,2,0] fun O=>Yh ?_))))))
 have O:=O.fresh 1 rfl
 obtain ⟨F,O⟩:=O.push 1 6 Z Z Z kr
 obtain ⟨F,O⟩:=O.push 1 5 Z Z Z kr
 obtain ⟨F,O⟩:=O.push 1 4 Z Z Z kr
 obtain ⟨F,O⟩:=O.push 1 3 Z Z Z kr
 obtain ⟨F,O⟩:=O.push 1 2 Z Z Z kr
 have O:=O.turn 1 Z (r':=RS.hp (ZX (.pointer (some ⟨b,0,none⟩)) A)) (fun _ _ _ _ h=>⟨sc,hk,h⟩)
 obtain ⟨F,O⟩:=O.nM [2] [102,101,1,0]
 refine ZE hG O Z (.cl 101 true 2 Z Z .nil) (.one (.aggU Z Z)) rfl
theorem Zrr (b:Nat) (A:StA) (hok:ZaJ A) (hfit:Zb1 A):FnG prog 15 1 [.is (.pointer (some ⟨b,0,none⟩))] [ZX (.pointer (some ⟨b,0,none⟩)) A] (.int .i64 (Za2 A)) (fun _=>[ZX (.pointer (some ⟨b,0,none⟩)) A]):=by
 refine FnG.mk func15 Z ntmps15 Z kr fun B F0 a w F V hG O=>?_
 obtain ⟨sc,O⟩:=O.open_ex 1 rfl
 obtain ⟨hk,O⟩:=O.open_and 1 rfl
 obtain ⟨F,O⟩:=O.peel 1 2 Z rfl
 obtain ⟨F,O⟩:=O.peel 1 3 Z rfl
 obtain ⟨F,O⟩:=O.peel 1 4 Z rfl
 obtain ⟨F,O⟩:=O.peel 1 5 Z rfl
 obtain ⟨F,O⟩:=O.peel 1 6 Z rfl
 try dsimp only at O
 obtain ⟨F,O⟩:=O.nM [0] [6,5,4,3,2,0]
 have hnz:=hk.now.s
 obtain ⟨hwf,hKI⟩:=Zru O 4 rfl
 refine Ya (rZ O (qI qZ) V [2,0] [6,5,4,3,2,0] fun O=>(Ya (Ya ?_)))
 refine rZ O (qR rr (qf (Zab _ YbT Z .t) r1 qz qZ)) V [7,2,0] [6,5,4,3,2,0] fun O=>?_
 refine Zc O Z (fun hc0=>?_) (fun hc0=>?_)
 ·simp at hc0
 refine Yd (Za (Ya (rZ O (qR rr (qf (o_nilCheck 2 .is (by rfl)) r1 r1 (qf (oF 1 2 .adr) r1 r1 (qf (oF 4 2 .adr) r1 r1 (qa 2 r1 r1 (qO rr qZ)))))) V [3,2,0] [6,5,4,3,2,0] fun O=>(Ya (Ya ?_)))))
 refine Zb O (qR rr (qf (o_nilCheck 2 .is (by rfl)) r1 r1 (qf (oF 6 2 .adr) r1 r1 (qa 2 r1 r1 (qf (ZlH 4 101 YbZ .is) r1 r1 qZ))))) V [17,3,2] [101,6,5,4,3,2,0] (fun _=>rfl) (fun _=>rfl) fun τ a w F O=>?_
 try dsimp only [RS.sub,SF.sub,CF.sub,csub,Anc.sub,List.map,xD,xE,xT,xU,ldSF,rRt,rSq,ZC,rTx,Zv,Zl,Zs,rOp] at O
 generalize τ 17=v17 at O
 refine Za (Ye ?_)
 replace O:=O.ent (i:=3) (s':=.pv (.int .i64 (A.now.size+Zao [] sc.cs))) Z (.int (by rw [ZgW];first | omega | (rw [hk.now.s];omega)))
 refine Zk (σ:=List Nat) [2,17] [0,2,3,4,5,6] (fun s=>[(3,.pv (.int .i64 (A.now.size+Zao s sc.cs)))]) (fun s=>[(101,.ob (.val v17) (iterM sc.mv sc.ck s))]) (fun s=>True) (fun s=>unsn s sc.cs) ([]) O ⟨rfl,rfl,rfl,tv⟩ ⟨rfl,rfl,rfl,rfl,rfl,rfl,rfl,tv⟩ trivial ?_
 clear O;intro seen a w F hC O
 try dsimp only at hC
 obtain ⟨F,O⟩:=O.nM [17,3,2] [101,6,5,4,3,2,0]
 try dsimp only at O
 refine Ya (Zb O (qf (Zpz 101 4 .is) r1 r2 (qf (Zn1 101 (by decide)) qz r1 qZ)) V [19,17,3,2] [101,6,5,4,3,2,0] (fun _=>rfl) (fun _=>rfl) fun τ a w F O=>?_)
 try dsimp only [RS.sub,SF.sub,CF.sub,csub,Anc.sub,List.map,rRt,rSq,ZC,rTx,Zv,Zl,Zs,rOp] at O
 generalize τ 18=v18 at O
 refine Za (Ya (Zc O Z (fun hc1=>?_) (fun hc1=>?_)))
 ·obtain ⟨e,he,hns,O⟩:=O.nextTrue 101 rfl hc1
  obtain ⟨F,O⟩:=O.nM [19,17,3,2] [101,6,5,4,3,2,0]
  refine Yd (Za (Ye (Ya (Zb O (qf (ZmK (kp:=.int .i64 e.key) 101 4 he (hKI e he) .is) r1 r2 (qf (o_extract .t Z) r1 qz (qf (oH [.pointer none,.int .i64 0,.pointer none,.int .i64 0,.int .i64 0] 102) trivial qz (qf (oA 5 102 .same (.conv .t .agg)) r2 r1 qZ)))) V [17,5,3,2] [102,101,6,5,4,3,2,0] (fun _=>rfl) (fun _=>rfl) fun τ a w F O=>?_))))
  try dsimp only [RS.sub,SF.sub,CF.sub,csub,Anc.sub,List.map,Zd,xL,xM,Nat.reduceAdd,xD,xE,xT,xU,xC,xN,zCF,rRt,rSq,ZC,rTx,Zv,Zl,Zs,rOp] at O
  generalize τ 5=v5 at O
  refine Za (Zh O (qR rr (qg 4 102 r1 r1 (qa 102 r1 r1 (qf (o_add .t .t) r2 qz (qO rr qZ))))) V [17,3,2] [102,101,6,5,4,3,2,0] Z Z fun a w F O=>Zi (Za ?_))
  replace O:=O.ent (i:=3) (s':=.pv (.int .i64 (A.now.size+Zao (seen ++ [e.born]) sc.cs))) Z (.int (by have h1:=hk.held hok seen;have h2:=hk.held hok (seen ++ [e.born]);have h3:=Zep hns hwf.1 he;rw [Zj ow];omega))
  obtain ⟨F,O⟩:=O.nM [17,2,3] [6,5,4,3,2,0,101]
  exact ⟨(seen ++ [e.born]),F,tv,O,Zo7 hns he⟩
 obtain ⟨hall,O⟩:=O.nextFalse 101 rfl hc1
 obtain ⟨F,O⟩:=O.nM [19,17,3,2] [101,6,5,4,3,2,0]
 refine Ym (Zg (Zg (Zo (Za (Ya (rZ O (qR rr (qO rr qZ)) V [2] [101,6,5,4,3,2,0] fun O=>Yh ?_))))))
 have O:=O.fresh 1 rfl
 obtain ⟨F,O⟩:=O.push 1 6 Z Z Z kr
 obtain ⟨F,O⟩:=O.push 1 5 Z Z Z kr
 obtain ⟨F,O⟩:=O.push 1 4 Z Z Z kr
 obtain ⟨F,O⟩:=O.push 1 3 Z Z Z kr
 obtain ⟨F,O⟩:=O.push 1 2 Z Z Z kr
 have O:=O.turn 1 Z (r':=RS.hp (ZX (.pointer (some ⟨b,0,none⟩)) A)) (fun _ _ _ _ h=>⟨sc,hk,h⟩)
 obtain ⟨F,O⟩:=O.nM [2] [101,1,0]
 refine ZE hG O Z (.tmp Z .nil) (.one (.int (hk.held_all hok hall))) rfl
section
variable {P:Program} {ty:TypeId} {pos:String} {af:Array Edge} {g:Option (Nat×Bool)} {ps:List (Nat×SF)}
theorem OpC.res2 {o:Oper} {q:SF} {n m:Nat} {r r' r2 r2' s s' s2 s2':RS} (h:OpC P o ⟨ps,[(n,r),(m,s)],q,[(n,r2),(m,s2)]⟩) (hr:∀ τ w fb y,r'.holds τ w fb y→r.holds τ w fb y) (hq:∀ τ w fb y,r2.holds τ w fb y→r2'.holds τ w fb y) (hr2:∀ τ w fb y,s'.holds τ w fb y→s.holds τ w fb y) (hq2:∀ τ w fb y,s2.holds τ w fb y→s2'.holds τ w fb y):OpC P o ⟨ps,[(n,r'),(m,s')],q,[(n,r2'),(m,s2')]⟩:=fun a w F K Q hw hs hp ht=>
 h a w F K Q hw hs (fun x hx=>by
  simp only [Yo,YaC,Ya4] at hx
  rcases hx with rfl | rfl
  ·exact hr _ _ _ _ (hp (n,r') (by simp))
  ·exact hr2 _ _ _ _ (hp (m,s') (by simp))) (fun v w' F' h1 h2 h3 h4=>ht v w' F' h1 h2 h3 (fun x hx=>by
  simp only [Yo,YaC,Ya4] at hx
  rcases hx with rfl | rfl
  ·exact hq _ _ _ _ (h4 (n,r2) (by simp))
  ·exact hq2 _ _ _ _ (h4 (m,s2) (by simp))))
theorem ZiF {f:FuncId} {args:Array Operand} {tys:Array TypeId} {d':Nat} {avs:List PV} {T:TypeId} {cells cells':List CF} {v u:Value} {k k':Value→HP} {q:PV} {fn:Func} (n m:Nat) (hd:Zec (cdeps cells)=true) (hd':Zec (cdeps cells')=true)
    (hc : FnG P f 2 avs [Zsg T cells v, k u] q (fun _ => [Zsg T cells' v, k' u])) (hf : P.funcs[f]? = some fn) (hb : fn.body.isSome = true) (hn : (fn.name == "runtime.NumGoroutine") = false) (hne : Nat.beq n m = false)
    (ha:∀ (a:Act) w y,Hps ps (Act.tau a) w y → ∃ vs:List Value,args.map a.eval=vs.toArray∧PVt avs vs w y) :
    OpC P ⟨some d',.call { callee:=.value (.func f),args:=args,argTypes:=tys },ty,pos,af,g⟩ ⟨ps,[(n,.pt (.val v) T cells),(m,.ob (.val u) k)],.pv q,[(n,.pt (.val v) T cells'),(m,.ob (.val u) k')]⟩:=
  OpC.res2 (o_callG2c n m hc hf hb hn hne ha) (fun τ w fb y h=>ZrF hd τ w fb y h) (fun τ w fb y h=>ZrN hd' τ w fb y h) (fun _ _ _ _ h=>h) (fun _ _ _ _ h=>h)
def ZhA (r:RS):Prop:=∀ (τ τ':Tau) (w w':World) (f f' y y':Ys),r.holds τ w f y→r.holds τ' w' f' y' → (∀ c,f c ↔ f' c) ∧ ∀ c,f c→w'.heap[c]? = w.heap[c]?
theorem OpC.still {o:Oper} {q:SF} {pr:List (Nat×RS)} (h:OpC P o ⟨ps,pr,q,pr⟩) (hx:∀ x ∈ pr,ZhA x.2):OpC P o ⟨ps,pr,q,[]⟩:=fun a w F K Q hw hs hp ht=>
 h a w F K Q hw hs hp fun v w' F' h1 h2 h3 h4=>by
  have hF:F' = F:=by
   funext n c
   by_cases hn:n ∈ pr.map (·.1)
   ·obtain ⟨x,hm,rfl⟩:=YC.1 hn
    exact propext ((hx x hm _ _ _ _ _ _ _ _ (hp x hm) (h4 x hm)).1 c).symm
   ·exact congrFun (h2.fkeep n hn) c
  subst hF
  refine ht v w' F' h1 ⟨h2.os,h2.tape,h2.output,h2.size,fun b hb _=>?_,fun _ _=>rfl,fun n hn=>by cases hn⟩ h3 (fun x hx=>by cases hx)
  by_cases hm:∃ x ∈ pr,F' x.1 b
  ·obtain ⟨x,hm,hb2⟩:=hm
   exact (hx x hm _ _ _ _ _ _ _ _ (hp x hm) (h4 x hm)).2 b hb2
  ·refine h2.keep b hb fun n hn hb2=>?_
   obtain ⟨x,hx2,rfl⟩:=YC.1 hn
   exact hm ⟨x,hx2,hb2⟩
def ZfT (p:PV):Prop:=∃ u,∀ w y v,p.p v w y→v=u
theorem Zgy:∀ {l:List PV},(∀ p ∈ l,ZfT p) → ∃ us:List Value,∀ w y vs,PVs l vs w y→vs=us
 | [],_=>⟨[],fun w y vs h=>by cases vs with | nil=>rfl | cons v vs=>exact h.elim⟩
 | p :: l,h=>by
  obtain ⟨u,hu⟩:=h p Yap
  obtain ⟨us,hus⟩:=Zgy fun q hq=>h q (YM _ hq)
  refine ⟨u :: us,fun w y vs k=>?_⟩
  cases vs with
  | nil=>exact k.elim
  | cons v vs=>rw [hu w y v k.1.2,hus w y vs k.2]
theorem Zoc {l:List PV} (h:∀ p ∈ l,ZfT p):ZfT (.agg l):=by
 obtain ⟨us,hus⟩:=Zgy h
 exact ⟨.agg us.toArray,fun w y v ⟨vs,e,k⟩=>by rw [e,hus w y vs k]⟩
theorem exact_is (v:Value):ZfT (.is v):=⟨v,fun _ _ _ h=>h.1⟩
theorem exact_int (k:IntKind) (x:Int):ZfT (.int k x):=⟨.int k x,fun _ _ _ h=>h.1⟩
theorem Zre {v:Value} {T:TypeId} {l:List PV} (h:∀ p ∈ l,ZfT p):ZhA (.pt (.val v) T (l.map CF.pv)):=by
 obtain ⟨us,hus⟩:=Zgy h
 have key:∀ {l:List PV} {τ:Tau} {w:World} {y:Ys} {vs:List Value},CFs τ w y (l.map CF.pv) vs→PVs l vs w y:=by
  intro l
  induction l with
  | nil=>intro τ w y vs k;cases vs with | nil=>trivial | cons v vs=>exact k.elim
  | cons p l ih=>intro τ w y vs k;cases vs with | nil=>exact k.elim | cons v vs=>exact ⟨k.1,ih k.2⟩
 intro τ τ' w w' f f' y y' ⟨b,vs,e,hb,hf,hc⟩ ⟨b',vs',e',hb',hf',hc'⟩
 have eb:b=b':=by
  have:=e.symm.trans e'
  simpa using this
 subst eb
 have ev:vs=vs':=by
  have h1:=hus _ _ _ (key hc)
  have h2:=hus _ _ _ (key hc')
  exact Array.toList_inj.1 (h1.trans h2.symm)
 refine ⟨fun c=>(hf c).trans (hf' c).symm,fun c hc9=>?_⟩
 rw [(hf c).1 hc9,hb,hb',ev]
theorem ZgJ {κ ν:Type} [DecidableEq κ] {ek:ν→PV} {ok:κ→Prop} {kv:κ→Value} {es:List (GE κ ν)} {ck:Nat} {u:Value} (h:∀ c,ZfT (ek c)):ZhA (.ob (.val u) (mapG ek ok kv es ck)):=by
 have key:∀ {es:List (GE κ ν)},∃ rs0:List (GE κ Value),∀ {w:World} {y:Ys} {rs:List (GE κ Value)},GR ek es rs w y→rs=rs0:=by
  intro es
  induction es with
  | nil=>exact ⟨[],fun {w y rs} k=>by cases rs with | nil=>rfl | cons r rs=>exact k.elim⟩
  | cons e es ih=>
   obtain ⟨rs0,h0⟩:=ih
   obtain ⟨u0,hu0⟩:=h e.val
   refine ⟨⟨e.key,u0,e.born⟩ :: rs0,fun {w y rs} k=>?_⟩
   cases rs with
   | nil=>exact k.elim
   | cons r rs=>
    obtain ⟨⟨k1,k2,k3⟩,k4⟩:=k
    rw [h0 k4]
    cases r
    simp only at k1 k2 k3
    rw [← k1,← k2,hu0 _ _ _ k3]
 obtain ⟨rs0,h0⟩:=key (es:=es)
 intro τ τ' w w' f f' y y' ⟨b,rs,e,hb,hg,_,hf⟩ ⟨b',rs',e',hb',hg',_,hf'⟩
 have eb:b=b':=by
  have:=e.symm.trans e'
  simpa using this
 subst eb
 refine ⟨fun c=>(hf c).trans (hf' c).symm,fun c hc9=>?_⟩
 rw [(hf c).1 hc9,hb,hb',h0 hg,h0 hg']
theorem Zi0 (c:RtC):ZfT (.agg (rRt c)):=Zoc fun p hp=>by
 simp only [rRt,Yo,YaC,Ya4] at hp
 rcases hp with rfl | rfl | rfl | rfl | rfl <;> first | exact exact_is _ | exact exact_int _ _
theorem Ziv {v:Value} {T:TypeId} {v1 v2 v3 v4 v5 v6:Value} {i1 i2 i3 i4:Int} : ZhA (.pt (.val v) T [.pv (.is v1),.pv (.is v2),.pv (.int .i64 i1),.pv (.is v3),.pv (.int .i64 i2),.pv (.int .i64 i3),.pv (.is v4),.pv (.int .i64 i4),.pv (.is v5),.pv (.is v6)]):=
 Zre (l:=[.is v1,.is v2,.int .i64 i1,.is v3,.int .i64 i2,.int .i64 i3,.is v4,.int .i64 i4,.is v5,.is v6]) fun p hp=>by
  simp only [Yo,YaC,Ya4] at hp
  rcases hp with rfl | rfl | rfl | rfl | rfl | rfl | rfl | rfl | rfl | rfl <;> first | exact exact_is _ | exact exact_int _ _
theorem ZhB {n m:Nat} {r s:RS} (h1:ZhA r) (h2:ZhA s):∀ x ∈ [(n,r),(m,s)],ZhA x.2:=fun x hx=>by
 simp only [Yo,YaC,Ya4] at hx
 rcases hx with rfl | rfl
 ·exact h1
 ·exact h2
theorem Ent.rt {c:RtC} {v:Value} (h:c.av=v):Ent (.pv (.agg [.is v,.int .i64 c.tr,.is v,.int .i64 c.or,.int .i64 c.size])) (.pv (.agg (rRt c))):=by subst h;exact fun _ _ _ _ h=>h
end
theorem Zhy (b:Nat) (A:StA) (hok:ZaJ A) (hfit:Zb1 A) (sc:StC) (hk:Zan A [] sc):FnG prog 15 2 [.is (.pointer (some ⟨b,0,none⟩))] [Zsg 97 [.pv (.is (arV (some sc.b))),.pv (.is (arV (some sc.b))),.pv (.int .i64 sc.c.tr),.pv (.is (arV (some sc.b))),.pv (.int .i64 sc.c.or),.pv (.int .i64 sc.c.size),.pv (.is sc.mv),.pv (.int .i64 A.next),.pv (.is sc.alv),.pv (.is sc.sqv)] (.pointer (some ⟨b,0,none⟩)),ZnT sc.cs sc.ck sc.mv] (.int .i64 (Za2 A)) (fun _=>[Zsg 97 [.pv (.is (arV (some sc.b))),.pv (.is (arV (some sc.b))),.pv (.int .i64 sc.c.tr),.pv (.is (arV (some sc.b))),.pv (.int .i64 sc.c.or),.pv (.int .i64 sc.c.size),.pv (.is sc.mv),.pv (.int .i64 A.next),.pv (.is sc.alv),.pv (.is sc.sqv)] (.pointer (some ⟨b,0,none⟩)),ZnT sc.cs sc.ck sc.mv]):=by
 refine FnG.mk func15 Z ntmps15 Z kr fun B F0 a w F V hG O=>?_
 have hnz:=hk.now.s
 have O:=O.turn 1 Z (r':=.pt (.val (.pointer (some ⟨b,0,none⟩))) 97 [.pv (.is (arV (some sc.b))),.pv (.is (arV (some sc.b))),.pv (.int .i64 sc.c.tr),.pv (.is (arV (some sc.b))),.pv (.int .i64 sc.c.or),.pv (.int .i64 sc.c.size),.pv (.is sc.mv),.pv (.int .i64 A.next),.pv (.is sc.alv),.pv (.is sc.sqv)]) (fun τ w f y h=>ZrN Z τ w f y h)
 have O:=O.turn 2 Z (r':=.ob (.val sc.mv) (ZnT sc.cs sc.ck)) (fun _ _ _ _ h=>h)
 obtain ⟨F,O⟩:=O.nM [0] [2,1,0]
 obtain ⟨hwf,hKI⟩:=Zru O 2 rfl
 refine Ya (rZ O (qI qZ) V [2,0] [2,1,0] fun O=>(Ya (Ya ?_)))
 refine rZ O (qR rr (qf (Zab _ YbT Z .t) r1 qz qZ)) V [7,2,0] [2,1,0] fun O=>?_
 refine Zc O Z (fun hc0=>?_) (fun hc0=>?_)
 ·simp at hc0
 refine Yd (Za (Ya (rZ O (qR rr (qf (o_nilCheck 1 .is (by rfl)) r1 r1 (qf (oF 1 1 .adr) r1 r1 (qf (oF 4 1 .adr) r1 r1 (qa 1 r1 r1 (qO rr qZ)))))) V [3,2,0] [2,1,0] fun O=>(Ya (Ya ?_)))))
 refine Zb O (qR rr (qf (o_nilCheck 1 .is (by rfl)) r1 r1 (qf (oF 6 1 .adr) r1 r1 (qa 1 r1 r1 (qf (ZlH 2 101 YbZ .is) r1 r1 qZ))))) V [17,3,2] [101,2,1,0] (fun _=>rfl) (fun _=>rfl) fun τ a w F O=>?_
 try dsimp only [RS.sub,SF.sub,CF.sub,csub,Anc.sub,List.map,xD,xE,xT,xU,ldSF,rRt,rSq,ZC,rTx,Zv,Zl,Zs,rOp] at O
 generalize τ 17=v17 at O
 refine Za (Ye ?_)
 replace O:=O.ent (i:=3) (s':=.pv (.int .i64 (A.now.size+Zao [] sc.cs))) Z (.int (by rw [ZgW];first | omega | (rw [hk.now.s];omega)))
 refine Zk (σ:=List Nat) [2,17] [0,1,2] (fun s=>[(3,.pv (.int .i64 (A.now.size+Zao s sc.cs)))]) (fun s=>[(101,.ob (.val v17) (iterM sc.mv sc.ck s))]) (fun s=>True) (fun s=>unsn s sc.cs) ([]) O ⟨rfl,rfl,rfl,tv⟩ ⟨rfl,rfl,rfl,rfl,tv⟩ trivial ?_
 clear O;intro seen a w F hC O
 try dsimp only at hC
 obtain ⟨F,O⟩:=O.nM [17,3,2] [101,2,1,0]
 try dsimp only at O
 refine Ya (Zb O (qf (Zpz 101 2 .is) r1 r2 (qf (Zn1 101 (by decide)) qz r1 qZ)) V [19,17,3,2] [101,2,1,0] (fun _=>rfl) (fun _=>rfl) fun τ a w F O=>?_)
 try dsimp only [RS.sub,SF.sub,CF.sub,csub,Anc.sub,List.map,rRt,rSq,ZC,rTx,Zv,Zl,Zs,rOp] at O
 generalize τ 18=v18 at O
 refine Za (Ya (Zc O Z (fun hc1=>?_) (fun hc1=>?_)))
 ·obtain ⟨e,he,hns,O⟩:=O.nextTrue 101 rfl hc1
  obtain ⟨F,O⟩:=O.nM [19,17,3,2] [101,2,1,0]
  refine Yd (Za (Ye (Ya (Zb O (qf (ZmK (kp:=.int .i64 e.key) 101 2 he (hKI e he) .is) r1 r2 (qf (o_extract .t Z) r1 qz (qf (oH [.pointer none,.int .i64 0,.pointer none,.int .i64 0,.int .i64 0] 102) trivial qz (qf (oA 5 102 .same (.conv .t .agg)) r2 r1 qZ)))) V [17,5,3,2] [102,101,2,1,0] (fun _=>rfl) (fun _=>rfl) fun τ a w F O=>?_))))
  try dsimp only [RS.sub,SF.sub,CF.sub,csub,Anc.sub,List.map,Zd,xL,xM,Nat.reduceAdd,xD,xE,xT,xU,xC,xN,zCF,rRt,rSq,ZC,rTx,Zv,Zl,Zs,rOp] at O
  generalize τ 5=v5 at O
  refine Za (Zh O (qR rr (qg 4 102 r1 r1 (qa 102 r1 r1 (qf (o_add .t .t) r2 qz (qO rr qZ))))) V [17,3,2] [102,101,2,1,0] Z Z fun a w F O=>Zi (Za ?_))
  replace O:=O.ent (i:=3) (s':=.pv (.int .i64 (A.now.size+Zao (seen ++ [e.born]) sc.cs))) Z (.int (by have h1:=hk.held hok seen;have h2:=hk.held hok (seen ++ [e.born]);have h3:=Zep hns hwf.1 he;rw [Zj ow];omega))
  obtain ⟨F,O⟩:=O.nM [17,2,3] [2,1,0,101]
  exact ⟨(seen ++ [e.born]),F,tv,O,Zo7 hns he⟩
 obtain ⟨hall,O⟩:=O.nextFalse 101 rfl hc1
 obtain ⟨F,O⟩:=O.nM [19,17,3,2] [101,2,1,0]
 refine Ym (Zg (Zg (Zo (Za (Ya (rZ O (qR rr (qO rr qZ)) V [2] [101,2,1,0] fun O=>Yh ?_))))))
 have O:=O.turn 1 Z (r':=RS.hp (Zsg 97 [.pv (.is (arV (some sc.b))),.pv (.is (arV (some sc.b))),.pv (.int .i64 sc.c.tr),.pv (.is (arV (some sc.b))),.pv (.int .i64 sc.c.or),.pv (.int .i64 sc.c.size),.pv (.is sc.mv),.pv (.int .i64 A.next),.pv (.is sc.alv),.pv (.is sc.sqv)] (.pointer (some ⟨b,0,none⟩)))) (fun τ w f y h=>ZrF Z τ w f y h)
 have O:=O.turn 2 Z (r':=RS.hp (ZnT sc.cs sc.ck sc.mv)) (fun _ _ _ _ h=>h)
 obtain ⟨F,O⟩:=O.nM [2] [2,1,0]
 refine Zk8 hG O Z (.tmp Z .nil) (.one (.int (hk.held_all hok hall))) Z rfl
def ZbF (A:StA):StA×Int×Int:=if Za2 A+A.now.size > 10000 then (A,0,2) else (⟨A.now,A.snaps ++ [(A.next,A.now)],A.next+1,A.all,A.seqs⟩,A.next,0)
def ZdE (A:StA) (n:Int):Option (Int×RtA):=A.snaps.find? fun x=>decide (x.1=n)
def Zdf (A:StA) (n:Int):StA×Int:=match ZdE A n with
 | none=>(A,3)
 | some x=>if Za2 A - A.now.size+x.2.size > 10000 then (A,2) else (⟨x.2,A.snaps,A.next,A.all,A.seqs⟩,0)
def ZfP (A:StA) (n:Int):StA×Int:=match ZdE A n with
 | none=>(A,3)
 | some _=>(⟨A.now,A.snaps.filter fun x=>!decide (x.1=n),A.next,A.all,A.seqs⟩,0)
theorem ZbR {A:StA} {n:Int} {x:Int×RtA} (h:ZdE A n=some x):x ∈ A.snaps∧x.1=n:=⟨Ybd h,by have:=List.find?_some h;simpa using this⟩
theorem Zan.find {A:StA} {ex:List RtA} {s:StC} (h:Zan A ex s) (n:Int):(gGet n s.cs).isSome=(ZdE A n).isSome:=by
 rw [Y6,Zc7,h.keys]
 unfold ZdE
 rw [List.find?_isSome]
 simp
theorem Zan.found {A:StA} {ex:List RtA} {s:StC} (h:Zan A ex s) {n:Int} {x:Int×RtA} (hx:ZdE A n=some x):∃ c,gGet n s.cs=some c∧Zb7 s.q (arV (some s.b)) c x.2:=by
 obtain ⟨h1,h2⟩:=ZbR hx
 obtain ⟨c,hc,hr⟩:=h.snaps x h1
 exact ⟨c,by rw [← h2];exact hc,hr⟩
theorem Zcw.mono {rs rs':List RtA} {n i:Nat} (h:Zcw rs n i) (hs:∀ r ∈ rs,r ∈ rs'):Zcw rs' n i:=h.imp (fun ⟨r,hr,p,hp,e⟩=>⟨r,hs r hr,p,hp,e⟩) fun h=>h
theorem ZaJ.next_new {A:StA} (h:ZaJ A):A.next ∉ A.snaps.map (·.1):=fun hm=>by
 obtain ⟨x,hx,e⟩:=YC.1 hm
 have:=(h.oks x hx).2.2
 omega
theorem Zan.keep {A:StA} {s:StC} (h:Zan A [] s) (hk:ZaJ A) (ck:Nat):Zan ⟨A.now,A.snaps ++ [(A.next,A.now)],A.next+1,A.all,A.seqs⟩ [] ⟨s.b,s.q,s.c,(gPut A.next s.c (s.cs,s.ck)).1,ck,s.mv,s.alv,s.sqv,s.sr⟩:=by
 have hn:A.next ∉ s.cs.map (·.key):=by rw [h.keys];exact hk.next_new
 refine ⟨h.now,?_,fun x hx=>?_,h.len,fun i hi hl=>h.seqs i hi (hl.mono fun r hr=>?_)⟩
 ·show (gPut A.next s.c (s.cs,s.ck)).1.map (·.key)=_
  rw [Zkl,Yb hn,h.keys,YZ];rfl
 ·show ∃ c,gGet x.1 (gPut A.next s.c (s.cs,s.ck)).1=some c∧_
  rw [ZeC]
  rcases YB.1 hx with hx | hx
  ·have h1:x.1≠A.next:=fun e=>by have:=(hk.oks x hx).2.2;omega
   rw [Yb h1];exact h.snaps x hx
  ·rw [Yn.1 hx,Yf rfl]
   exact ⟨s.c,rfl,h.now⟩
 ·simp only [rootsA,YZ,YL,List.map_nil,YF,Yo,YB] at hr ⊢
  rcases hr with hr | hr | hr | hr
  ·exact .inl hr
  ·exact .inr hr
  ·exact .inl hr
  ·cases hr
theorem Zan.back {A:StA} {s:StC} (h:Zan A [] s) {n:Int} {x:Int×RtA} {c:RtC} (hx:ZdE A n=some x) (hr:Zb7 s.q (arV (some s.b)) c x.2):Zan ⟨x.2,A.snaps,A.next,A.all,A.seqs⟩ [] ⟨s.b,s.q,c,s.cs,s.ck,s.mv,s.alv,s.sqv,s.sr⟩:=
 ⟨hr,h.keys,h.snaps,h.len,fun i hi hl=>h.seqs i hi (hl.mono fun r hr=>by
  have h1:x.2 ∈ A.snaps.map (·.2):=YC.2 ⟨x,(ZbR hx).1,rfl⟩
  simp only [rootsA,YF,Yo] at hr ⊢
  rcases hr with rfl | hr
  ·exact .inr h1
  ·exact .inr hr)⟩
theorem Zan.drop {A:StA} {s:StC} (h:Zan A [] s) (hk:ZaJ A) (n:Int):Zan ⟨A.now,A.snaps.filter fun x=>!decide (x.1=n),A.next,A.all,A.seqs⟩ [] ⟨s.b,s.q,s.c,gDel n s.cs,s.ck,s.mv,s.alv,s.sqv,s.sr⟩:=by
 have hd:∀ cs:List (GE Int RtC),GNd cs→(gDel n cs).map (·.key)=(cs.map (·.key)).filter fun k=>!decide (k=n):=by
  intro cs
  induction cs with
  | nil=>intro _;rfl
  | cons e cs ih=>
   intro hn
   have hn2:e.key ∉ cs.map (·.key)∧GNd cs:=by unfold GNd at hn ⊢;rwa [YL,Ya2] at hn
   unfold gDel
   by_cases he:n=e.key
   ·rw [Yf he,YL,Yax,Yb (by simp [he]),List.filter_eq_self.2]
    intro k hk
    have:k≠n:=fun h9=>hn2.1 (by rw [← he,← h9];exact hk)
    simp [this]
   ·rw [Yb he,YL,YL,Yax,Yf (by simp;exact fun h9=>he h9.symm),ih hn2.2]
 refine ⟨h.now,?_,fun x hx=>?_,h.len,fun i hi hl=>h.seqs i hi (hl.mono fun r hr=>?_)⟩
 ·show (gDel n s.cs).map (·.key)=_
  rw [hd _ (h.nd hk),h.keys,List.filter_map];rfl
 ·obtain ⟨h1,h2⟩:=YT.1 hx
  show ∃ c,gGet x.1 (gDel n s.cs)=some c∧_
  rw [ZlR (h.nd hk),Yb (by simpa using h2)]
  exact h.snaps x h1
 ·simp only [rootsA,YF,Yo,YC] at hr ⊢
  rcases hr with hr | ⟨x,hx,hr⟩
  ·exact .inl hr
  ·exact .inr ⟨x,(YT.1 hx).1,hr⟩
theorem ZaJ.keep {A:StA} (h:ZaJ A):ZaJ (ZbF A).1:=by
 unfold ZbF
 split
 ·exact h
 ·rename_i hh
  refine ⟨h.okn,fun x hx=>?_,?_,h.szn,fun x hx=>?_,?_,by have:=h.next;show 0≤A.next+1;omega⟩
  ·rcases YB.1 hx with hx | hx
   ·have:=h.oks x hx
    exact ⟨this.1,this.2.1,by have:=this.2.2;show x.1<A.next+1;omega⟩
   ·rw [Yn.1 hx]
    exact ⟨h.okn,h.next,by show A.next<A.next+1;omega⟩
  ·show ((A.snaps ++ [(A.next,A.now)]).map (·.1)).Pairwise (· < ·)
   rw [YZ,Yac]
   refine ⟨h.ids,YaF _ _,fun a ha z hz=>?_⟩
   obtain ⟨x,hx,rfl⟩:=YC.1 ha
   rw [YL,List.map_nil,Yn] at hz
   rw [hz];exact (h.oks x hx).2.2
  ·rcases YB.1 hx with hx | hx
   ·exact h.szs x hx
   ·rw [Yn.1 hx];exact h.szn
  ·unfold Za2 at hh ⊢
   show A.now.size+((A.snaps ++ [(A.next,A.now)]).map fun x=>x.2.size).sum≤10000
   rw [YZ,YaT]
   simp;omega
theorem ZaJ.back {A:StA} (h:ZaJ A) (n:Int):ZaJ (Zdf A n).1:=by
 unfold Zdf
 split
 ·exact h
 ·rename_i x hx
  split
  ·exact h
  ·rename_i hh
   have h1:=(ZbR hx).1
   exact ⟨(h.oks x h1).1,h.oks,h.ids,h.szs x h1,h.szs,by unfold Za2 at hh ⊢;show x.2.size+(A.snaps.map fun x=>x.2.size).sum≤10000;omega,h.next⟩
theorem Zjk {l:List (Int×RtA)} {p:Int×RtA→Bool} (h:∀ x ∈ l,0≤x.2.size):((l.filter p).map fun x=>x.2.size).sum≤(l.map fun x=>x.2.size).sum:=by
 induction l with
 | nil=>simp
 | cons x l ih=>
  have h1:=h x Yap
  have h2:=ih fun z hz=>h z (YM _ hz)
  rw [Yax,YL,YaJ]
  split
  ·rw [YL,YaJ];omega
  ·omega
theorem ZaJ.drop {A:StA} (h:ZaJ A) (n:Int):ZaJ (ZfP A n).1:=by
 unfold ZfP
 split
 ·exact h
 ·refine ⟨h.okn,fun x hx=>h.oks x (YT.1 hx).1,?_,h.szn,fun x hx=>h.szs x (YT.1 hx).1,?_,h.next⟩
  ·exact h.ids.sublist (List.Sublist.map _ List.filter_sublist)
  ·have h1:=Zjk (p:=fun x=>!decide (x.1=n)) h.nn
   have h2:=h.held
   unfold Za2 at h2 ⊢
   show A.now.size+((A.snaps.filter fun x=>!decide (x.1=n)).map fun x=>x.2.size).sum≤10000
   omega
theorem Zmg (b:Nat) (A:StA) (hok:ZaJ A) (hfit:Zb1 A):FnG prog 21 1 [.is (.pointer (some ⟨b,0,none⟩))] [ZX (.pointer (some ⟨b,0,none⟩)) A] (.tup [.int .i64 (ZbF A).2.1,.int .i64 (ZbF A).2.2]) (fun _=>[ZX (.pointer (some ⟨b,0,none⟩)) (ZbF A).1]):=by
 refine FnG.mk func21 Z ntmps21 Z kr fun B F0 a w F V hG O=>?_
 obtain ⟨sc,O⟩:=O.open_ex 1 rfl
 obtain ⟨hk,O⟩:=O.open_and 1 rfl
 obtain ⟨F,O⟩:=O.peel 1 2 Z rfl
 obtain ⟨F,O⟩:=O.peel 1 3 Z rfl
 obtain ⟨F,O⟩:=O.peel 1 4 Z rfl
 obtain ⟨F,O⟩:=O.peel 1 5 Z rfl
 obtain ⟨F,O⟩:=O.peel 1 6 Z rfl
 try dsimp only at O
 obtain ⟨F,O⟩:=O.nM [0] [6,5,4,3,2,0]
 have hka:=hk.now.a
 have hks:=hk.now.s
 have hhb:=hok.held
 have hnz:=hok.szn
 have hnl:=hok.now_le
 have hnx:=hok.next
 have hnf:=hfit.next
 have hhn:0≤Za2 A:=by have:=Zdg hok.nn;unfold Za2;omega
 refine Ya (rZ O (qI (qI qZ)) V [3,2,0] [6,5,4,3,2,0] fun O=>(Ya (Ye (Ya ?_))))
 refine rZ O (qR rr (qf (Zab _ YbT Z .t) r1 qz (qO rr qZ))) V [5,3,2,0] [6,5,4,3,2,0] fun O=>?_
 refine Zc O Z (fun hc0=>?_) (fun hc0=>?_)
 ·simp at hc0
 refine Ya (Zu O (qR rr (qf (OpC.still (ZiF (cells:=[.pv _,.pv _,.pv _,.pv _,.pv _,.pv _,.pv _,.pv _,.pv _,.pv _]) (cells':=[.pv _,.pv _,.pv _,.pv _,.pv _,.pv _,.pv _,.pv _,.pv _,.pv _]) 2 4 Z Z (Zhy b A hok hfit sc hk) func15 Z kr Z (Args.one .t)) (ZhB Ziv (ZgJ Zi0))) r1 r2 (qR rr (qf (o_nilCheck 2 .is (by rfl)) r1 r1 (qf (oF 1 2 .adr) r1 r1 (qf (oF 4 2 .adr) r1 r1 (qa 2 r1 r1 (qf (o_add .t .t) r2 qz (qf (Zal .t qi) r1 qz (qO rr qZ)))))))))) V [8,3,2,0] [6,5,4,3,2,0] Z Z fun a w F O=>?_)
 try dsimp only [List.map,xD,xE,xT,xU,ldSF,rRt,rSq,ZC,rTx,Zv,Zl,Zs,rOp] at O
 refine Za (Zc O Z (fun hc1=>?_) (fun hc1=>?_))
 ·have hg:ZbF A=(A,0,2):=by unfold ZbF;rw [Yf];rw [hks,Zj ow] at hc1;simpa using hc1
  refine Ya (rZ O (qI (qI qZ)) V [3,2,0] [6,5,4,3,2,0] fun O=>(Yh (Zr (Zf ?_))))
  have O:=O.fresh 1 rfl
  obtain ⟨F,O⟩:=O.push 1 6 Z Z Z kr
  obtain ⟨F,O⟩:=O.push 1 5 Z Z Z kr
  obtain ⟨F,O⟩:=O.push 1 4 Z Z Z kr
  obtain ⟨F,O⟩:=O.push 1 3 Z Z Z kr
  obtain ⟨F,O⟩:=O.push 1 2 Z Z Z kr
  have O:=O.turn 1 Z (r':=RS.hp (ZX (.pointer (some ⟨b,0,none⟩)) (ZbF A).1)) (fun _ _ _ _ h=>⟨sc,(by rw [hg];exact hk),(by rw [hg];exact h)⟩)
  obtain ⟨F,O⟩:=O.nM [3,2,0] [1,0]
  refine ZE hG O Z (.tmp Z (.tmp Z .nil)) (.two (.int (by rw [hg])) (.int (by rw [hg]))) rfl
 have hg:ZbF A=(⟨A.now,A.snaps ++ [(A.next,A.now)],A.next+1,A.all,A.seqs⟩,A.next,0):=by unfold ZbF;rw [Yb];rw [hks,Zj ow] at hc1;simpa using hc1
 refine Yd (Zi (Za (Ya (rZ O (qR rr (qf (o_nilCheck 2 .is (by rfl)) r1 r1 (qf (oF 7 2 .adr) r1 r1 (qa 2 r1 r1 (qO rr qZ))))) V [4,3,2,0] [6,5,4,3,2,0] fun O=>Ya ?_))))
 refine Zu O (qR rr (qf (o_nilCheck 2 .is (by rfl)) r1 r1 (qf (oF 6 2 .adr) r1 r1 (qa 2 r1 r1 (qR rr (qR rr (qf (o_nilCheck 2 .is (by rfl)) r1 r1 (qf (oF 1 2 .adr) r1 r1 (qf (oL true 5 2 .adr) r1 r1 (qf (Zbq (ek:=(fun c:RtC=>PV.agg (rRt c))) (v:=sc.c) 4 YbZ (Za5 YbS) .is (Z6.intR .t Z) (.conv (.pagg .t) (Ent.rt hka))) r3 r1 qZ)))))))))) V [4,3,2,0] [6,5,4,3,2,0] Z Z fun a w F O=>?_
 try dsimp only [List.map,xD,xE,xT,xU,ldSF,rRt,rSq,ZC,rTx,Zv,Zl,Zs,rOp] at O
 refine Za (Ya (Zh O (qR rr (qf (o_nilCheck 2 .is (by rfl)) r1 r1 (qf (oF 7 2 .adr) r1 r1 (qa 2 r1 r1 (qp r1 (qf (o_nilCheck 2 .is (by rfl)) r1 r1 (qf (oF 7 2 .adr) r1 r1 (qf (ZeU 2 .adr .t one_int kr kr) r2 r1 qZ)))))))) V [4,3,2] [6,5,4,3,2,0] Z Z fun a w F O=>?_))
 rw [Zj (show -9223372036854775808≤A.next+1∧A.next+1≤9223372036854775807 by omega)] at O
 refine Za (Ya (rZ O (qR rr (qO rr (qI qZ))) V [3,2] [6,5,4,3,2,0] fun O=>Yh ?_))
 have O:=O.fresh 1 rfl
 obtain ⟨F,O⟩:=O.push 1 6 Z Z Z kr
 obtain ⟨F,O⟩:=O.push 1 5 Z Z Z kr
 obtain ⟨F,O⟩:=O.push 1 4 Z Z Z kr
 obtain ⟨F,O⟩:=O.push 1 3 Z Z Z kr
 obtain ⟨F,O⟩:=O.push 1 2 Z Z Z kr
 have O:=O.turn 1 Z (r':=RS.hp (ZX (.pointer (some ⟨b,0,none⟩)) (ZbF A).1)) (fun _ _ _ _ h=>⟨(⟨sc.b,sc.q,sc.c,(gPut A.next sc.c (sc.cs,sc.ck)).1,(gPut A.next sc.c (sc.cs,sc.ck)).2,sc.mv,sc.alv,sc.sqv,sc.sr⟩:StC),(by rw [hg];exact hk.keep hok _),(by rw [hg];exact h)⟩)
 obtain ⟨F,O⟩:=O.nM [3,2] [1,0]
 refine ZE hG O Z (.tmp Z (.tmp Z .nil)) (.two (.int (by rw [hg])) (.int (by rw [hg]))) rfl
theorem Zrc (b:Nat) (A:StA) (hok:ZaJ A) (hfit:Zb1 A) (n:Int):FnG prog 25 1 [.is (.pointer (some ⟨b,0,none⟩)),.int .i64 n] [ZX (.pointer (some ⟨b,0,none⟩)) A] (.int .i64 (Zdf A n).2) (fun _=>[ZX (.pointer (some ⟨b,0,none⟩)) (Zdf A n).1]):=by
 refine FnG.mk func25 Z ntmps25 Z kr fun B F0 a w F V hG O=>?_
 obtain ⟨sc,O⟩:=O.open_ex 1 rfl
 obtain ⟨hk,O⟩:=O.open_and 1 rfl
 obtain ⟨F,O⟩:=O.peel 1 2 Z rfl
 obtain ⟨F,O⟩:=O.peel 1 3 Z rfl
 obtain ⟨F,O⟩:=O.peel 1 4 Z rfl
 obtain ⟨F,O⟩:=O.peel 1 5 Z rfl
 obtain ⟨F,O⟩:=O.peel 1 6 Z rfl
 try dsimp only at O
 obtain ⟨F,O⟩:=O.nM [1,0] [6,5,4,3,2,0]
 have hka:=hk.now.a
 have hks:=hk.now.s
 have hhb:=hok.held
 have hnz:=hok.szn
 have hnl:=hok.now_le
 have hnx:=hok.next
 have hnf:=hfit.next
 have hhn:0≤Za2 A:=by have:=Zdg hok.nn;unfold Za2;omega
 refine Ya (rZ O (qI qZ) V [4,1,0] [6,5,4,3,2,0] fun O=>(Ya (Ya ?_)))
 refine rZ O (qR rr (qf (Zab _ YbT Z .t) r1 qz qZ)) V [8,4,1,0] [6,5,4,3,2,0] fun O=>?_
 refine Zc O Z (fun hc0=>?_) (fun hc0=>?_)
 ·simp at hc0
 refine Yd (Za (Ya (Zb O (qR rr (qf (o_nilCheck 2 .is (by rfl)) r1 r1 (qf (oF 6 2 .adr) r1 r1 (qa 2 r1 r1 (qR rr (qf (Zg9 (ek:=(fun c:RtC=>PV.agg (rRt c))) (z0:=(default:RtC)) 4 YbZ (Za5 YbS) kr (fun _ _=>⟨[_,_,_,_,_],rfl,⟨rfl,rfl,rfl⟩,⟨rfl,rfl,ZhL⟩,⟨rfl,rfl,rfl⟩,⟨rfl,rfl,ZhL⟩,⟨rfl,rfl,ZhL⟩,tv⟩) .is (Z6.intR .t Z)) r2 r1 (qR rr (qf (o_extract .t Z) r1 qz (qf (o_extract .t Z) r1 qz (qf (oH [.pointer none,.int .i64 0,.pointer none,.int .i64 0,.int .i64 0] 101) trivial qz (qf (oA 5 101 .same (.conv .t .agg)) r2 r1 (qO rr qZ)))))))))))) V [6,5,4,0] [101,6,5,4,3,2,0] (fun _=>rfl) (fun _=>rfl) fun τ a w F O=>?_)))
 try dsimp only [RS.sub,SF.sub,CF.sub,csub,Anc.sub,List.map,Zd,xL,xM,Nat.reduceAdd,xD,xE,xT,xU,xC,xN,zCF,ldSF,rRt,rSq,ZC,rTx,Zv,Zl,Zs,rOp] at O
 generalize τ 5=v5 at O
 refine Za (Ya (Ye (Ya (rZ O (qR rr (qf (Z1 .t) r1 qz (qO rr qZ))) V [18,5,4,0] [101,6,5,4,3,2,0] fun O=>?_))))
 refine Zc O Z (fun hc1=>?_) (fun hc1=>?_)
 ·have hx:ZdE A n=none:=Option.not_isSome_iff_eq_none.1 (by rw [← hk.find];simpa using hc1)
  have hg:Zdf A n=(A,3):=by unfold Zdf;rw [hx]
  refine Ya (rZ O (qI qZ) V [5,4,0] [101,6,5,4,3,2,0] fun O=>(Yh (Zr (Zf ?_))))
  have O:=O.fresh 1 rfl
  obtain ⟨F,O⟩:=O.push 1 6 Z Z Z kr
  obtain ⟨F,O⟩:=O.push 1 5 Z Z Z kr
  obtain ⟨F,O⟩:=O.push 1 4 Z Z Z kr
  obtain ⟨F,O⟩:=O.push 1 3 Z Z Z kr
  obtain ⟨F,O⟩:=O.push 1 2 Z Z Z kr
  have O:=O.turn 1 Z (r':=RS.hp (ZX (.pointer (some ⟨b,0,none⟩)) (Zdf A n).1)) (fun _ _ _ _ h=>⟨sc,(by rw [hg];exact hk),(by rw [hg];exact h)⟩)
  obtain ⟨F,O⟩:=O.nM [5,4,0] [101,1,0]
  refine ZE hG O Z (.tmp Z .nil) (.one (.int (by rw [hg]))) rfl
 obtain ⟨x,hx⟩:∃ x,ZdE A n=some x:=Ybe.1 (by rw [← hk.find];simpa using hc1)
 obtain ⟨c,hc,hrc⟩:=hk.found hx
 have hxm:=(ZbR hx).1
 have hxs:=hrc.s
 have hxl:=hok.snap_le hxm
 have hxz:=hok.szs x hxm
 rw [hc] at O
 try dsimp only [Option.getD] at O
 rw [hrc.a] at O
 obtain ⟨F,O⟩:=O.nM [18,5,4,0] [101,6,5,4,3,2,0]
 refine Ya (Zu O (qR rr (qf (OpC.still (ZiF (cells:=[.pv _,.pv _,.pv _,.pv _,.pv _,.pv _,.pv _,.pv _,.pv _,.pv _]) (cells':=[.pv _,.pv _,.pv _,.pv _,.pv _,.pv _,.pv _,.pv _,.pv _,.pv _]) 2 4 Z Z (Zhy b A hok hfit sc hk) func15 Z kr Z (Args.one .t)) (ZhB Ziv (ZgJ Zi0))) r1 r2 (qR rr (qf (o_nilCheck 2 .is (by rfl)) r1 r1 (qf (oF 1 2 .adr) r1 r1 (qf (oF 4 2 .adr) r1 r1 (qa 2 r1 r1 (qf (o_sub .t .t) r2 qz (qg 4 101 r1 r1 (qa 101 r1 r1 (qf (o_add .t .t) r2 qz (qf (Zal .t qi) r1 qz (qO rr qZ))))))))))))) V [21,5,4,0] [101,6,5,4,3,2,0] Z Z fun a w F O=>?_)
 try dsimp only [List.map,xD,xE,xT,xU,ldSF,rRt,rSq,ZC,rTx,Zv,Zl,Zs,rOp] at O
 refine Za (Zc O Z (fun hc2=>?_) (fun hc2=>?_))
 ·have hg:Zdf A n=(A,2):=by unfold Zdf;rw [hx];dsimp only;rw [Yf];rw [hks,hxs,Zj (x:=Za2 A - A.now.size) ow,Zj ow] at hc2;simpa using hc2
  refine Ya (rZ O (qI qZ) V [5,4,0] [101,6,5,4,3,2,0] fun O=>(Yh (Zr (Zf ?_))))
  have O:=O.fresh 1 rfl
  obtain ⟨F,O⟩:=O.push 1 6 Z Z Z kr
  obtain ⟨F,O⟩:=O.push 1 5 Z Z Z kr
  obtain ⟨F,O⟩:=O.push 1 4 Z Z Z kr
  obtain ⟨F,O⟩:=O.push 1 3 Z Z Z kr
  obtain ⟨F,O⟩:=O.push 1 2 Z Z Z kr
  have O:=O.turn 1 Z (r':=RS.hp (ZX (.pointer (some ⟨b,0,none⟩)) (Zdf A n).1)) (fun _ _ _ _ h=>⟨sc,(by rw [hg];exact hk),(by rw [hg];exact h)⟩)
  obtain ⟨F,O⟩:=O.nM [5,4,0] [101,1,0]
  refine ZE hG O Z (.tmp Z .nil) (.one (.int (by rw [hg]))) rfl
 have hg:Zdf A n=(⟨x.2,A.snaps,A.next,A.all,A.seqs⟩,0):=by unfold Zdf;rw [hx];dsimp only;rw [Yb];rw [hks,hxs,Zj (x:=Za2 A - A.now.size) ow,Zj ow] at hc2;simpa using hc2
 refine Yd (Zi (Za (Ya (rZ O (qR rr (qe 5 101 r1 r1 (qf (o_nilCheck 2 .is (by rfl)) r1 r1 (qf (oF 1 2 .adr) r1 r1 (qf (oA 5 2 .adr .t) r2 r1 qZ))))) V [4] [101,6,5,4,3,2,0] fun O=>Ya ?_))))
 refine rZ O (qI qZ) V [4] [101,6,5,4,3,2,0] fun O=>Yh ?_
 have O:=O.fresh 1 rfl
 obtain ⟨F,O⟩:=O.push 1 6 Z Z Z kr
 obtain ⟨F,O⟩:=O.push 1 5 Z Z Z kr
 obtain ⟨F,O⟩:=O.push 1 4 Z Z Z kr
 obtain ⟨F,O⟩:=O.push 1 3 Z Z Z kr
 obtain ⟨F,O⟩:=O.push 1 2 Z Z Z kr
 have O:=O.turn 1 Z (r':=RS.hp (ZX (.pointer (some ⟨b,0,none⟩)) (Zdf A n).1)) (fun _ _ _ _ h=>⟨(⟨sc.b,sc.q,c,sc.cs,sc.ck,sc.mv,sc.alv,sc.sqv,sc.sr⟩:StC),(by rw [hg];exact hk.back hx hrc),(by rw [hg];exact h)⟩)
 obtain ⟨F,O⟩:=O.nM [4] [101,1,0]
 refine ZE hG O Z (.tmp Z .nil) (.one (.int (by rw [hg]))) rfl
theorem ZqK (b:Nat) (A:StA) (hok:ZaJ A) (hfit:Zb1 A) (n:Int):FnG prog 26 1 [.is (.pointer (some ⟨b,0,none⟩)),.int .i64 n] [ZX (.pointer (some ⟨b,0,none⟩)) A] (.int .i64 (ZfP A n).2) (fun _=>[ZX (.pointer (some ⟨b,0,none⟩)) (ZfP A n).1]):=by
 refine FnG.mk func26 Z ntmps26 Z kr fun B F0 a w F V hG O=>?_
 obtain ⟨sc,O⟩:=O.open_ex 1 rfl
 obtain ⟨hk,O⟩:=O.open_and 1 rfl
 obtain ⟨F,O⟩:=O.peel 1 2 Z rfl
 obtain ⟨F,O⟩:=O.peel 1 3 Z rfl
 obtain ⟨F,O⟩:=O.peel 1 4 Z rfl
 obtain ⟨F,O⟩:=O.peel 1 5 Z rfl
 obtain ⟨F,O⟩:=O.peel 1 6 Z rfl
 try dsimp only at O
 obtain ⟨F,O⟩:=O.nM [1,0] [6,5,4,3,2,0]
 refine Ya (rZ O (qI qZ) V [4,1,0] [6,5,4,3,2,0] fun O=>(Ya (Ya ?_)))
 refine rZ O (qR rr (qf (Zab _ YbT Z .t) r1 qz qZ)) V [8,4,1,0] [6,5,4,3,2,0] fun O=>?_
 refine Zc O Z (fun hc0=>?_) (fun hc0=>?_)
 ·simp at hc0
 refine Yd (Za (Ya (Ya (Zb O (qR rr (qf (o_nilCheck 2 .is (by rfl)) r1 r1 (qf (oF 6 2 .adr) r1 r1 (qa 2 r1 r1 (qR rr (qf (Zg9 (ek:=(fun c:RtC=>PV.agg (rRt c))) (z0:=(default:RtC)) 4 YbZ (Za5 YbS) kr (fun _ _=>⟨[_,_,_,_,_],rfl,⟨rfl,rfl,rfl⟩,⟨rfl,rfl,ZhL⟩,⟨rfl,rfl,rfl⟩,⟨rfl,rfl,ZhL⟩,⟨rfl,rfl,ZhL⟩,tv⟩) .is (Z6.intR .t Z)) r2 r1 (qR rr (qf (o_extract .t Z) r1 qz (qf (o_extract .t Z) r1 qz (qf (oH [.pointer none,.int .i64 0,.pointer none,.int .i64 0,.int .i64 0] 101) trivial qz (qf (oA 5 101 .same (.conv .t .agg)) r2 r1 (qO rr qZ)))))))))))) V [6,4,1,0] [101,6,5,4,3,2,0] (fun _=>rfl) (fun _=>rfl) fun τ a w F O=>?_))))
 try dsimp only [RS.sub,SF.sub,CF.sub,csub,Anc.sub,List.map,Zd,xL,xM,Nat.reduceAdd,xD,xE,xT,xU,xC,xN,zCF,ldSF,rRt,rSq,ZC,rTx,Zv,Zl,Zs,rOp] at O
 generalize τ 5=v5 at O
 refine Za (Ya (rZ O (qR rr (qf (Z1 .t) r1 qz qZ)) V [19,4,1,0] [101,6,5,4,3,2,0] fun O=>?_))
 refine Zc O Z (fun hc1=>?_) (fun hc1=>?_)
 ·have hx:ZdE A n=none:=Option.not_isSome_iff_eq_none.1 (by rw [← hk.find];simpa using hc1)
  have hg:ZfP A n=(A,3):=by unfold ZfP;rw [hx]
  refine Ya (rZ O (qI qZ) V [4,1,0] [101,6,5,4,3,2,0] fun O=>(Yh (Zf ?_)))
  have O:=O.fresh 1 rfl
  obtain ⟨F,O⟩:=O.push 1 6 Z Z Z kr
  obtain ⟨F,O⟩:=O.push 1 5 Z Z Z kr
  obtain ⟨F,O⟩:=O.push 1 4 Z Z Z kr
  obtain ⟨F,O⟩:=O.push 1 3 Z Z Z kr
  obtain ⟨F,O⟩:=O.push 1 2 Z Z Z kr
  have O:=O.turn 1 Z (r':=RS.hp (ZX (.pointer (some ⟨b,0,none⟩)) (ZfP A n).1)) (fun _ _ _ _ h=>⟨sc,(by rw [hg];exact hk),(by rw [hg];exact h)⟩)
  obtain ⟨F,O⟩:=O.nM [4,1,0] [101,1,0]
  refine ZE hG O Z (.tmp Z .nil) (.one (.int (by rw [hg]))) rfl
 obtain ⟨x,hx⟩:∃ x,ZdE A n=some x:=Ybe.1 (by rw [← hk.find];simpa using hc1)
 obtain ⟨c,hc,hrc⟩:=hk.found hx
 have hxm:=(ZbR hx).1
 have hxs:=hrc.s
 have hxl:=hok.snap_le hxm
 have hxz:=hok.szs x hxm
 rw [hc] at O
 try dsimp only [Option.getD] at O
 rw [hrc.a] at O
 obtain ⟨F,O⟩:=O.nM [19,4,1,0] [101,6,5,4,3,2,0]
 have hg:ZfP A n=(⟨A.now,A.snaps.filter (fun x=>!decide (x.1=n)),A.next,A.all,A.seqs⟩,0):=by unfold ZfP;rw [hx]
 refine Yd (Za (Ya (rZ O (qR rr (qf (o_nilCheck 2 .is (by rfl)) r1 r1 (qf (oF 6 2 .adr) r1 r1 (qa 2 r1 r1 (qR rr (qf (Zoq 4 YbZ (Za5 YbS) .is (Z6.intR .t Z)) r2 r1 qZ)))))) V [4] [101,6,5,4,3,2,0] fun O=>Ya ?_)))
 refine rZ O (qI qZ) V [4] [101,6,5,4,3,2,0] fun O=>Yh ?_
 have O:=O.fresh 1 rfl
 obtain ⟨F,O⟩:=O.push 1 6 Z Z Z kr
 obtain ⟨F,O⟩:=O.push 1 5 Z Z Z kr
 obtain ⟨F,O⟩:=O.push 1 4 Z Z Z kr
 obtain ⟨F,O⟩:=O.push 1 3 Z Z Z kr
 obtain ⟨F,O⟩:=O.push 1 2 Z Z Z kr
 have O:=O.turn 1 Z (r':=RS.hp (ZX (.pointer (some ⟨b,0,none⟩)) (ZfP A n).1)) (fun _ _ _ _ h=>⟨(⟨sc.b,sc.q,sc.c,(gDel n sc.cs),sc.ck,sc.mv,sc.alv,sc.sqv,sc.sr⟩:StC),(by rw [hg];exact hk.drop hok n),(by rw [hg];exact h)⟩)
 obtain ⟨F,O⟩:=O.nM [4] [101,1,0]
 refine ZE hG O Z (.tmp Z .nil) (.one (.int (by rw [hg]))) rfl
def gvA (es:List (GE Int Int)) (k:Int):Int:=(gGet k es).getD 0
structure MvI (seqs:List (List Int)) (Live:Nat→Prop) (qo q:List Cell) (av nv:Value) (sr:List SqC) (es:List (GE Int Int)) (K:Int):Prop where
 len:sr.length=seqs.length
 gv:∀ k:Int,0≤gvA es k∧gvA es k≤K
 old:∀ i:Nat,i<seqs.length→Live i→gvA es i=0→(Nn sr i).av=av∧Zbe qo (Nn sr i).root (Nn seqs i)
 new:∀ i:Nat,i<seqs.length→0<gvA es i→(Nn sr i).av=nv∧Zbe q (Nn sr i).root (Nn seqs i)
section
variable {seqs:List (List Int)} {Live:Nat→Prop} {qo q:List Cell} {av nv:Value} {sr:List SqC} {es es':List (GE Int Int)} {K:Int}
theorem MvI.app (h:MvI seqs Live qo q av nv sr es K) (e:List Cell):MvI seqs Live qo (q++e) av nv sr es K:=
 ⟨h.len,h.gv,h.old,fun i hi hg=>⟨(h.new i hi hg).1,(h.new i hi hg).2.app⟩⟩
theorem Zge {α:Type} [Inhabited α] {l:List α} {i j:Nat} {x:α} (hi:i<l.length):Nn (l.set i x) j=if j=i then x else Nn l j:=by
 by_cases h:j=i
 ·subst h
  rw [Yf rfl,Zy (by rw [YN];exact hi),List.getElem_set_self]
 ·rw [Yb h]
  by_cases hj:j<l.length
  ·rw [Zy (by rw [YN];exact hj),Zy hj,List.getElem_set_ne (fun e=>h e.symm)]
  ·unfold Nn
   rw [Yam,Yam,List.getElem?_eq_none (by rw [YN];omega),List.getElem?_eq_none ow]
theorem MvI.more (h:MvI seqs Live qo q av nv sr es K) {i:Int} (hg:0<gvA es i) (he:∀ k,gvA es' k=if k=i then gvA es i+1 else gvA es k):MvI seqs Live qo q av nv sr es' (K+1):=by
 refine ⟨h.len,fun k=>?_,fun j hj hl h0=>?_,fun j hj h0=>?_⟩
 ·have h1:=h.gv k
  have h2:=h.gv i
  rw [he];split <;> omega
 ·rw [he] at h0
  split at h0
  ·omega
  ·exact h.old j hj hl h0
 ·rw [he] at h0
  split at h0
  ·rename_i e;exact h.new j hj (by rw [e];exact hg)
  ·exact h.new j hj h0
theorem MvI.first (h:MvI seqs Live qo q av nv sr es K) {i:Nat} (hi:i<seqs.length) (hg:gvA es i=0) (he:∀ k,gvA es' k=if k=(i:Int) then gvA es i+1 else gvA es k) {e:List Cell} {r:Int} (hr:Zbe (q++e) r (Nn seqs i)):MvI seqs Live qo (q++e) av nv (sr.set i ⟨nv,r⟩) es' (K+1):=by
 have hl:=h.len
 refine ⟨by rw [YN];exact h.len,fun k=>?_,fun j hj hl2 h0=>?_,fun j hj h0=>?_⟩
 ·have h1:=h.gv k
  have h2:=h.gv i
  rw [he];split <;> omega
 ·rw [he] at h0
  split at h0
  ·omega
  ·rename_i hne
   rw [Zge ow,Yb (fun e=>hne (by rw [e]))]
   exact h.old j hj hl2 h0
 ·rw [he] at h0
  rw [Zge ow]
  split at h0
  ·rename_i e
   have e2:j=i:=by omega
   subst e2
   rw [Yf rfl];exact ⟨rfl,hr⟩
  ·rename_i hne
   rw [Yb (fun e=>hne (by rw [e]))]
   exact ⟨(h.new j hj h0).1,(h.new j hj h0).2.app⟩
end
theorem ZrQ {es:List (GE Int Int)} {ck:Nat} {i v:Int} (k:Int):gvA (gPut i v (es,ck)).1 k=if k=i then v else gvA es k:=by
 unfold gvA
 rw [ZeC]
 split <;> rfl
theorem MvI.start {A:StA} {ex:List RtA} {s:StC} (h:Zan A ex s) (nv:Value):MvI A.seqs (Zcw (rootsA A++ex) A.seqs.length) s.q [] (arV (some s.b)) nv s.sr [] 0:=
 ⟨h.len,fun k=>⟨Yar 0,Yar 0⟩,fun i hi hl _=>h.seqs i hi hl,fun i hi hg=>absurd hg (by show ¬ (0:Int)<0;omega)⟩
def Zar (seqs:List (List Int)) (l:List ZF):Nat:=(l.map fun p=>(Nn seqs p.val.toNat).length).sum
theorem Zcr {seqs:List (List Int)} {l:List ZF} {i:Nat} (h:i<l.length):Zar seqs (l.take (i+1))=Zar seqs (l.take i)+(Nn seqs (Nn l i).val.toNat).length:=by
 unfold Zar
 rw [ZQ h,YZ,YaT];simp
theorem Zbf (all:List TxD) (seqs:List (List Int)) (r:RtA):r.txs.length+r.orders.length+Zar seqs r.orders=sizeH (Za4 all seqs r):=by
 unfold sizeH ZbS Za4 Zar
 simp only [YP,YaV]
 rfl
theorem ZkQ {seqs:List (List Int)} (l:List ZF) (i:Nat):Zar seqs (l.take i)≤Zar seqs l:=by
 have h:l=l.take i++l.drop i:=(YX i l).symm
 have e:Zar seqs l=Zar seqs (l.take i)+Zar seqs (l.drop i):=by
  conv=>lhs;rw [h]
  unfold Zar
  rw [YZ,YaT]
 omega
structure Zth (A:StA) (ex:List RtA) (qo q:List Cell) (av nv:Value) (sr:List SqC) (es:List (GE Int Int)) (K:Int):Prop where
 mv:MvI A.seqs (Zcw (rootsA A++ex) A.seqs.length) qo q av nv sr es K
 all:∀ r ∈ rootsA A++ex,∀ p ∈ r.orders,0<gvA es p.val
theorem Zth.seqs {A:StA} {ex:List RtA} {qo q:List Cell} {av nv:Value} {sr:List SqC} {es:List (GE Int Int)} {K:Int} (h:Zth A ex qo q av nv sr es K) {i:Nat} (hi:i<A.seqs.length) (hl:Zcw (rootsA A++ex) A.seqs.length i) (hlast:i+1=A.seqs.length→(Nn sr i).av=nv∧Zbe q (Nn sr i).root (Nn A.seqs i)):(Nn sr i).av=nv∧Zbe q (Nn sr i).root (Nn A.seqs i):=by
 rcases hl with ⟨r,hr,p,hp,e⟩ | h1
 ·exact h.mv.new i hi (by rw [← e];exact h.all r hr p hp)
 ·exact hlast h1
theorem Zmz (ob nb:Nat) {qo q:List Cell} {root:Int} {l:List ZF} (h:Zjr qo root l) (hr:q.length+l.length≤65536) :
  ∃ (e:List Cell) (r:Int),FnG prog 186 2 [.agg [.is (arV (some ob)),.int .i64 root],.is (arV (some nb))] [arH (some ob) 65536 qo,arH (some nb) 65536 q] (.tup [.agg [.is (arV (some nb)),.int .i64 r],.int .i64 0]) (fun _=>[arH (some ob) 65536 qo,arH (some nb) 65536 (q++e)])∧Zjr (q++e) r l∧e.length=l.length:=by
 obtain ⟨t,ht,hl⟩:=h
 obtain ⟨e,r,h1,h2,h3⟩:=Zjr.move (room:=65536) (q2:=q) (t:=t) ht.inc (by rw [hl];omega) (by rw [hl];omega)
 rw [hl] at h2 h3
 have:=Zsd (some ob) 65536 qo root t ht.rep (by rw [ZS,hl];omega) (some nb) 65536 q
 rw [h1] at this
 exact ⟨e,r,this,h2,h3⟩
theorem Zoo (ob nb:Nat) {qo q:List Cell} {c:SqC} {l:List Int} (h:c.av=arV (some ob)∧Zbe qo c.root l) (hr:q.length+l.length≤65536) :
  ∃ (e:List Cell) (r:Int),FnG prog 187 2 [.agg [.is c.av,.int .i64 c.root],.is (arV (some nb))] [arH (some ob) 65536 qo,arH (some nb) 65536 q] (.tup [.agg [.is (arV (some nb)),.int .i64 r],.int .i64 0]) (fun _=>[arH (some ob) 65536 qo,arH (some nb) 65536 (q++e)])∧Zbe (q++e) r l∧e.length=l.length:=by
 obtain ⟨ha,t,ht,hl⟩:=h
 have hv:=ZmL t
 rw [hl] at hv
 obtain ⟨e,r,h1,h2,h3⟩:=Zbe.of (room:=65536) (q:=q) (l:=l) ow ow
 have:=Zsu (some ob) 65536 qo c.root t ht ow (some nb) 65536 q
 rw [hl,h1] at this
 rw [ha]
 exact ⟨e,r,this,h2,h3⟩
theorem Ent.adrK {v:Value} {k:Nat} (h:(shift k v).oneCell' = true):Ent (.adr (.val v) k) (.pv (.is (shift k v))):=fun _ _ _ _ e=>⟨e,by
 have e:_=shift k v:=e
 rw [e];exact h⟩
theorem Ent.kAdr {v:Value} {k:Nat} : Ent (.pv (.is (shift k v))) (.adr (.val v) k):=fun _ _ _ _ h=>h.1
structure MvC where
 q:List Cell
 c:RtC
 sr:List SqC
 es:List (GE Int Int)
 ck:Nat
structure Ze6 (seqs:List (List Int)) (Live:Nat→Prop) (r:RtA) (qo q:List Cell) (av nv:Value) (es:List (GE Int Int)) (K:Int) (x:MvC):Prop where
 app:∃ e,x.q=q++e∧e.length≤r.txs.length+r.orders.length+Zar seqs r.orders
 rt:Zb7 x.q nv x.c r
 mv:MvI seqs Live qo x.q av nv x.sr x.es (K+r.orders.length)
 keep:∀ k,0<gvA es k→0<gvA x.es k
 all:∀ p ∈ r.orders,0<gvA x.es p.val
def ZqI (a0 a1:Value) (c:RtC) (mv:Value) (nx:Int) (alv sqv:Value):List CF:=[.pv (.is a0),.pv (.is a1),.pv (.int .i64 c.tr),.pv (.is a1),.pv (.int .i64 c.or),.pv (.int .i64 c.size),.pv (.is mv),.pv (.int .i64 nx),.pv (.is alv),.pv (.is sqv)]
def ZqH (v a1:Value) (ob nb:Nat) (qo q:List Cell) (c:RtC) (mv:Value) (nx:Int) (alv sqv:Value) (sr:List SqC) (mm:Value) (es:List (GE Int Int)) (ck:Nat):List RS:=[.pt (.val v) 97 (ZqI (arV (some nb)) a1 c mv nx alv sqv),RS.hp (arH (some ob) 65536 qo),RS.hp (arH (some nb) 65536 q),.ob (.val sqv) (ZO 114 2 rSq sr),.ob (.val mm) (MPI es ck)]
def Ztn (v a1:Value) (ob nb:Nat) (qo q:List Cell) (cn:RtC) (mv:Value) (nx:Int) (alv sqv:Value) (sr:List SqC) (mm:Value) (es:List (GE Int Int)) (ck:Nat) (rv:Value) (c:RtC):List RS:=[.pt (.val v) 97 (ZqI (arV (some nb)) (arV (some nb)) cn mv nx alv sqv),RS.hp (arH (some ob) 65536 qo),RS.hp (arH (some nb) 65536 q),.ob (.val sqv) (ZO 114 2 rSq sr),.ob (.val mm) (MPI es ck),.pt (.val rv) 92 [.pv (.is a1),.pv (.int .i64 c.tr),.pv (.is a1),.pv (.int .i64 c.or),.pv (.int .i64 c.size)]]
theorem Zib {seqs:List (List Int)} {l:List ZF} {i:Nat} (h:i<l.length):Zar seqs (l.take i)+(Nn seqs (Nn l i).val.toNat).length≤Zar seqs l:=by
 rw [← Zcr h];exact ZkQ l (i+1)
theorem Zry {es:List (GE Int Int)} {l:List ZF} (h:∀ j,j<l.length→0<gvA es (Nn l j).val):∀ p ∈ l,0<gvA es p.val:=fun p hp=>by
 obtain ⟨j,hj,rfl⟩:=YH hp
 have:=h j hj
 rwa [Zy hj] at this
end Go.Proofs.YtfecljadegkmdaaGreat
