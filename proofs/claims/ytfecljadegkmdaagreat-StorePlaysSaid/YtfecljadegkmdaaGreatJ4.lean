/- Laws and walks. No condition beyond what each says. -/
import Derived.Test.YtfecljadegkmdaaGreatJ3
import Derived.Test.YtfecljadegkmdaaGreatLibRg
namespace Go.Proofs.YtfecljadegkmdaaGreat
open Go Go.Gm Tryz
set_option linter.unusedVariables false
set_option linter.unusedSimpArgs false
set_option maxHeartbeats 4000000
set_option maxRecDepth 8000
def Zbj (l:List OrdD):Nat:=(l.map fun o=>o.txs.length).sum
def sizeH (h:Zw):Nat:=h.txs.length+h.orders.length+Zbj h.orders
theorem sizeO_next {l:List OrdD} {i:Nat} (h:i<l.length):Zbj (l.take (i+1))=Zbj (l.take i)+(Nn l i).txs.length:=by
 unfold Zbj
 rw [ZN h,YZ,YaE];simp
theorem Zmt {l:List OrdD} {n:Nat} (h:∀ o ∈ l,o.txs.length≤n):Zbj l≤n*l.length:=by
 unfold Zbj
 induction l with
 | nil=>simp
 | cons o l ih=>
  have h1:=h o Yan
  have h2:=ih fun x hx=>h x (YP _ hx)
  rw [YM,YaN,Yl,Nat.mul_add];omega
theorem Zqh (h:Zw) (hs:Za8 h):FnP prog 61 [.agg (Zi h)] (.int .i64 ((sizeH h:Nat):Int)):=by
 refine FnP.mk func61 Z ntmps61 Z fun B a w F V hfr O=>?_
 have hl1:=hs.1.1
 have hl2:=hs.2.1
 refine Ya (rS O (qx 101 r1 (qI qZ)) V J5 QK fun τ O=>?_)
 have O:=X1
 generalize τ 1=v1 at O
 refine Za (Ya (rZ O (qg 0 101 r1 r1 (qa 101 r1 r1 (qu YbR r1 (qg 1 101 r1 r1 (qa 101 r1 r1 (qu YbS r1 (qf (o_add .t .t) r2 qz (qO rr qZ)))))))) V Gh QK fun O=>(Ya (Ya ?_))))
 refine rZ O (qg 1 101 r1 r1 (qa 101 r1 r1 (qu YbS r1 (qJ qZ)))) V G0 QK fun O=>Ye ?_
 replace O:=O.ent (i:=3) (s':=.pv (.int .i64 ((h.txs.length+h.orders.length+Zbj (h.orders.take 0):Nat):Int))) Z (.int (by rw [Zj ow];simp [Zbj]))
 refine Zh (σ:=(Nat)) [2,14,15] [0,101] (fun s=>[(16,.pv (.int .i64 (s:Int))),(3,.pv (.int .i64 ((h.txs.length+h.orders.length+Zbj (h.orders.take s):Nat):Int)))]) (fun s=>[]) (fun s=>s≤h.orders.length∧(Zbj (h.orders.take s)≤1000*s)) (fun s=>h.orders.length - s) (0) O ⟨rfl,rfl,rfl,rfl,rfl,tv⟩ ⟨rfl,rfl,tv⟩ ⟨Yo _,(by simp [Zbj])⟩ ?_
 clear O;intro i a w F hC O
 have hC:=X3
 obtain ⟨F,O⟩:=O.nM G0 QK
 have O:=X2
 obtain ⟨hi,hq⟩:=hC
 refine Ya (rZ O (qL r2) V [17,16,15,14,3,2] QK fun O=>Ya ?_)
 refine Zb O Z (fun hc0=>?_) (fun hc0=>?_)
 ·have hil:i<h.orders.length:=WI
  have hx9:=hs.2.2 _ (ZP hil)
  have hq2:Zbj (h.orders.take (i+1))≤1000*(i+1):=by rw [sizeO_next hil];omega
  refine Yd (Za (Ya (Ye (Ya (rS O (qy 2 YbS r2 (qf (oR true 2 .t) r1 qz (qf (oH [.int .i64 0,.slice none 0 0] 102) trivial qz (qS 2 102 r2 r1 qZ)))) V [16,15,14,5,3,2] QI fun τ O=>?_)))))
  have O:=X0
  generalize τ 5=v5 at O
  try simp only [Yf] at O
  refine Za (Zg O (qR rr (qg 1 102 r1 r1 (qa 102 r1 r1 (qu YbT r1 (qf (o_add .t .t) r2 qz (qO rr qZ)))))) V G0 QI Z Z fun a w F O=>Zf (Za ?_))
  refine rZ O (qp r1 (qR rr qZ)) V G0 QI fun O=>?_
  replace O:=O.eI 16 i
  replace O:=O.ent (i:=3) (s':=.pv (.int .i64 ((h.txs.length+h.orders.length+Zbj (h.orders.take (i+1)):Nat):Int))) Z (.int (by rw [Zj ow,sizeO_next hil];omega))
  obtain ⟨F,O⟩:=O.nM [15,14,2,3,16] QK
  exact ⟨(i+1),F,⟨ow,hq2⟩,O,ow⟩
 have hil:i=h.orders.length:=WI
 refine Ym (Ze (Ze (Zk (Za (Ya (rZ O (qR rr (qO rr qZ)) V [2] QK fun O=>Yh ?_))))))
 refine Zx hfr O Z Z Z (.int (by unfold sizeH;rw [hil,Yy]))
theorem scopied_c (t:TxD) (hl:t.ops.length≤1000000):FnP prog 54 [.agg (rTx t)] (.agg (rTx t)):=by
 refine FnP.mk func54 Z ntmps54 Z fun B a w F V hfr O=>Ya ?_
 refine rS O (qx 101 r1 (qf (oH [.int .i64 0,.bool false,.slice none 0 0] 102) trivial qz qZ)) V J5 QI fun τ O=>?_
 have O:=X1
 generalize τ 1=v1,τ 2=v2 at O
 refine Za (Ya ?_)
 replace O:=O.fresh 103 rfl
 refine rS O (qg 2 101 r1 r1 (qa 101 r1 r1 (qf (Zdq 103 (ZmH t.ops hl) func86 Z kr (Args.one .t) Zf1) r1 r1 (qg 2 101 r1 r1 (qf (Zbo 101 .adr kr kr) r2 r1 qZ))))) V J5 QJ fun τ O=>?_
 have O:=X0
 generalize τ 5=v5 at O
 obtain ⟨F,O⟩:=O.giveCell 103 101 2 Z Z Z Z rfl
 have O:=XX
 obtain ⟨F,O⟩:=O.nM J5 QI
 refine Za (Ya (rZ O (qe 3 101 r1 r1 (qs 3 102 r2 r1 qZ)) V [2] QI fun O=>Yh ?_))
 refine ZU hfr O Z (.cl 102 true 3 Z Z .nil) (.one (.aggU Z Z))
theorem Zrt (o:Option Nat):FnP prog 46 [.is (arV o)] (.agg [.is (arV o),.int .i64 0,.is (arV o),.int .i64 0,.int .i64 0]):=by
 refine FnP.mk func46 Z ntmps46 Z fun B a w F V hfr O=>Ya ?_
 refine rS O (qf (oH [.pointer none,.int .i64 0,.pointer none,.int .i64 0,.int .i64 0] 101) trivial qz qZ) V Ju QK fun τ O=>?_
 have O:=X1
 generalize τ 2=v2 at O
 refine Za (Ya (rZ O (qR rr (qf (oP (ZjZ o) func104 (Args.one .t)) r1 qz (qR rr (qf (oP (ZjZ o) func104 (Args.one .t)) r1 qz (qf (oB [(0,.tmp 4),(1,.tmp 6)] [.pointer none,.int .i64 0,.pointer none,.int .i64 0,.int .i64 0] [(0,2),(2,2),(4,1)] (.agg Z (.conv .t .agg) kr kr (.agg Z (.conv .t .agg) kr kr .nil))) r2 qz (qs 5 101 r2 r1 qZ)))))) V [2] QK fun O=>Yh ?_))
 refine ZU hfr O Z (.cl 101 true 5 Z Z .nil) (.one (.aggU Z Z))
theorem ZkD {k v:Int} {p:ZD} : ∀ (l:List ZD) (d:Bool),p ∈ ZaQ k v l d→p ∈ l∨p = ⟨k,v⟩
 | [],d,h=>by cases d <;> simp [ZaQ] at h;exact .inr h
 | x :: l,d,h=>by
  rw [ZaQ,YH,YH] at h
  rcases h with (h | h) | h
  ·split at h <;> simp at h;exact .inr h
  ·split at h <;> simp at h;exact .inl (by simp [h])
  ·rcases ZkD l _ h with h | h
   ·exact .inl (by simp [h])
   ·exact .inr h
theorem ZiJ {k v:Int} : ∀ {l:List ZD},(∀ p ∈ l,k<p.key)→ZaQ k v l true=l
 | [],_=>rfl
 | p :: l,h=>by
  have:=h p W5
  rw [ZaQ,YbD,ZiJ fun x hx=>h x W7,Yb W5,Yb ow]
  rfl
theorem putP_inc {k v:Int} : ∀ {l:List ZD},Inc l→Inc (putP l k v)
 | [],_=>by simp [putP,ZaQ,Inc]
 | x :: l,h=>by
  have h':=YB.1 h
  unfold putP
  by_cases h1:x.key<k
  ·have e:ZaQ k v (x :: l) false=x :: putP l k v:=ZbA (l:=[x]) (m:=l) Wj
   rw [e]
   refine YB.2 ⟨fun p hp=>?_,putP_inc h'.2⟩
   rcases ZkD l false hp with hp | rfl
   ·exact h'.1 p hp
   ·exact h1
  ·by_cases h2:x.key=k
   ·rw [ZaQ,Yg ⟨rfl,ow⟩,Yg h2,show (false || decide (k≤x.key))=true by simp;omega,ZiJ fun p hp=>by have:=h'.1 p hp;omega]
    exact YB.2 ⟨fun p hp=>by have:=h'.1 p hp;show k<p.key;omega,h'.2⟩
   ·rw [Zkc (fun p hp=>by
     rcases Yp.1 hp with rfl | hp
     ·omega
     ·have:=h'.1 p hp;omega)]
    refine YB.2 ⟨fun p hp=>?_,h⟩
    show k<p.key
    rcases Yp.1 hp with rfl | hp
    ·omega
    ·have:=h'.1 p hp;omega
theorem Zgy {k:Int} {l:List ZD} (h:Inc l):Inc (delP l k):=List.Pairwise.filter _ h
structure Zc5 (q:List Cell) (t:Zae) (root:Int):Prop where
 rep:Rep id q t root
 bal:Bal t
 inc:Inc (tList t)
theorem Zc5.app {q e:List Cell} {t:Zae} {root:Int} (h:Zc5 q t root):Zc5 (q++e) t root:=⟨h.rep.app e,h.bal,h.inc⟩
theorem Zc5.nil (q:List Cell):Zc5 q .nil 0:=⟨rfl,tv,List.Pairwise.nil⟩
theorem Zc5.put {room:Int} {q:List Cell} {t:Zae} {root:Int} (h:Zc5 q t root) (k v:Int) (hs:ZB t<1000000) :
  (∃ (e:List Cell) (r:Int),ZsA room q ⟨k,v⟩ t root=(q++e,0,r)∧Zc5 (q++e) (putT ⟨k,v⟩ t) r∧(e.length:Int)≤3*(Zn t+1))∨(ZsA room q ⟨k,v⟩ t root=(q,2,0)∧room<q.length+3*(Zn t+1)):=by
 rcases Zd7 (Zhp (room:=room) (p:=⟨k,v⟩) rfl h.rep hs) with ⟨e,e1,e2,e3,e4,e5⟩ | ⟨e1,e2⟩
 ·refine .inl ⟨e,(ZsA room q ⟨k,v⟩ t root).2.2,?_,⟨e3,(ZiX _ h.bal).1,?_⟩,e5⟩
  ·exact Prod.ext e1 (Prod.ext e2 rfl)
  ·rw [ZeQ _ h.inc];exact putP_inc h.inc
 ·exact .inr ⟨e1,e2⟩
theorem Zc5.del {room:Int} {q:List Cell} {t:Zae} {root:Int} (h:Zc5 q t root) (k:Int) (hs:ZB t≤1000000) :
  (¬ (Zco k t).2=true∧ZqI room q k t root=(q,3,0))∨(Zco k t).2=true∧((∃ (e:List Cell) (r:Int),ZqI room q k t root=(q++e,0,r)∧Zc5 (q++e) (delT k t) r∧(e.length:Int)≤3*(Zn t+1))∨(ZqI room q k t root=(q,2,0)∧room<q.length+3*(Zn t+1))):=by
 by_cases hl:(Zco k t).2=true
 ·refine .inr ⟨hl,?_⟩
  have hd:ZqI room q k t root=Zdh q.length (ZbQ id room q 0 k t root):=Yg hl
  rw [hd]
  rcases Zd7 (ZhW (room:=room) h.rep (ZeT.1 hl) hs (fun _ _=>rfl)) with ⟨e,e1,e2,e3,e4,e5⟩ | ⟨e1,e2⟩
  ·refine .inl ⟨e,_,?_,⟨e3,(Zjx _ h.bal).1,?_⟩,e5⟩
   ·exact Prod.ext e1 (Prod.ext e2 rfl)
   ·rw [ZeN _ h.inc];exact Zgy h.inc
  ·exact .inr ⟨e1,e2⟩
 ·exact .inl ⟨hl,Yb hl⟩
theorem Zc5.high {q:List Cell} {t:Zae} {root:Int} (h:Zc5 q t root) (hs:ZB t≤1000000):0≤Zn t∧Zn t≤40:=⟨Zad t,Zou h.bal hs⟩
structure RtA where
 txs:List ZD
 orders:List ZD
 size:Int
 deriving Inhabited
def histA (all:List TxD) (seqs:List (List Int)) (r:RtA):Zw:=⟨r.txs.map fun p=>Nn all p.val.toNat,r.orders.map fun p=>⟨p.key,Nn seqs p.val.toNat⟩⟩
structure ZlN (all:List TxD) (seqs:List (List Int)) (r:RtA):Prop where
 ti:Inc r.txs
 oi:Inc r.orders
 tv:∀ p ∈ r.txs,(0≤p.val∧p.val<all.length)∧(Nn all p.val.toNat).id=p.key
 ov:∀ p ∈ r.orders,0≤p.val∧p.val<seqs.length
theorem Zb2 {α:Type} [Inhabited α] {l e:List α} {k:Nat} (h:k<l.length):Nn (l++e) k=Nn l k:=by
 rw [Zu Wb,Zu h,List.getElem_append_left h]
theorem Zed {all e:List TxD} {seqs f:List (List Int)} {r:RtA} (h:ZlN all seqs r):histA (all++e) (seqs++f) r=histA all seqs r:=by
 unfold histA
 congr 1
 ·refine Yav fun p hp=>?_
  have:=(h.tv p hp).1
  rw [Zb2 ow]
 ·refine Yav fun p hp=>?_
  have:=h.ov p hp
  rw [Zb2 ow]
theorem ZlN.grow {all e:List TxD} {seqs f:List (List Int)} {r:RtA} (h:ZlN all seqs r):ZlN (all++e) (seqs++f) r:=
 ⟨h.ti,h.oi,fun p hp=>by
  have h1:=h.tv p hp
  refine ⟨⟨h1.1.1,by rw [Yc];omega⟩,?_⟩
  rw [Zb2 ow];exact h1.2,fun p hp=>by
  have h1:=h.ov p hp
  exact ⟨h1.1,by rw [Yc];omega⟩⟩
def ZjP (q:List Cell) (root:Int) (l:List ZD):Prop:=∃ t,Zc5 q t root∧tList t=l
theorem ZjP.app {q e:List Cell} {root:Int} {l:List ZD} (h:ZjP q root l):ZjP (q++e) root l:=let ⟨t,h1,h2⟩:=h; ⟨t,h1.app,h2⟩
def Zbm (q:List Cell) (root:Int) (l:List Int):Prop:=∃ t,Rep kz q t root∧ZbT t=l
theorem Zbm.app {q e:List Cell} {root:Int} {l:List Int} (h:Zbm q root l):Zbm (q++e) root l:=let ⟨s,h1,h2⟩:=h; ⟨s,h1.app e,h2⟩
theorem Zmh (t:Zae):ZB t=(ZbT t).length:=by unfold ZbT;rw [YO];exact ZT t
theorem ZjP.move {room:Int} {q2:List Cell} {t:Zae} (h:Inc (tList t)) (hs:(tList t).length≤1000000) (hr:q2.length+(tList t).length≤room) :
  ∃ (e:List Cell) (r:Int),Zn7 room q2 t=(q2++e,0,r)∧ZjP (q2++e) r (tList t)∧e.length=(tList t).length:=by
 rcases Zd7 (ZeP (kf:=id) (room:=room) ((tList t).length+1) q2 (tList t) ow ow (fun _ _=>rfl)) with ⟨e,e1,e2,e3,e4,e5⟩ | ⟨e1,e2⟩
 ·exact ⟨e,_,Prod.ext e1 (Prod.ext e2 rfl),⟨_,⟨e3,(ZgS _ _ ow).2,by rw [ZcF _ _ ow];exact h⟩,ZcF _ _ ow⟩,ow⟩
 ·omega
theorem Zbm.of {room:Int} {q:List Cell} {l:List Int} (hs:l.length≤1000000) (hr:q.length+l.length≤room) :
  ∃ (e:List Cell) (r:Int),Zsl room q l=(q++e,0,r)∧Zbm (q++e) r l∧e.length=l.length:=by
 have e:Zsl room q l=Zdh q.length (allQ room (l.length+1) q 0 l):=rfl
 rw [e,ZqG]
 rcases Zd7 (ZeP (kf:=kz) (room:=room) (l.length+1) q (l.map kp) W5 (by simpa using hs) (fun p hp=>by obtain ⟨x,_,rfl⟩:=YG.1 hp;rfl)) with ⟨e,e1,e2,e3,e4,e5⟩ | ⟨e1,e2⟩
 ·rw [YO] at e4 e5
  exact ⟨e,_,Prod.ext e1 (Prod.ext e2 rfl),⟨_,e3,Zrr l⟩,ow⟩
 ·rw [YO] at e2;omega
structure RtC where
 av:Value
 tr:Int
 or:Int
 size:Int
def rRt (c:RtC):List PV:=[.is c.av,.int .i64 c.tr,.is c.av,.int .i64 c.or,.int .i64 c.size]
structure Zch (q:List Cell) (av:Value) (c:RtC) (r:RtA):Prop where
 a:c.av=av
 t:ZjP q c.tr r.txs
 o:ZjP q c.or r.orders
 s:c.size=r.size
theorem Zch.app {q e:List Cell} {av:Value} {c:RtC} {r:RtA} (h:Zch q av c r):Zch (q++e) av c r:=⟨h.a,h.t.app,h.o.app,h.s⟩
structure SqC where
 av:Value
 root:Int
instance:Inhabited SqC:=⟨⟨.nilIface,0⟩⟩
instance:Inhabited RtC:=⟨⟨.pointer none,0,0,0⟩⟩
def rSq (c:SqC):List PV:=[.is c.av,.int .i64 c.root]
structure StA where
 now:RtA
 snaps:List (Int×RtA)
 next:Int
 all:List TxD
 seqs:List (List Int)
def ZcA (rs:List RtA) (n:Nat) (i:Nat):Prop:=(∃ r ∈ rs,∃ p ∈ r.orders,p.val=(i:Int))∨i+1=n
def rootsA (A:StA):List RtA:=A.now :: A.snaps.map (·.2)
structure StC where
 b:Nat
 q:List Cell
 c:RtC
 cs:List (GE Int RtC)
 ck:Nat
 mv:Value
 alv:Value
 sqv:Value
 sr:List SqC
abbrev Zox:List (GE Int RtC)→Nat→Value→HP:=mapG (fun c:RtC=>PV.agg (rRt c)) (fun n:Int=>inR .i64 n) (fun n:Int=>Value.int .i64 n)
structure Zap (A:StA) (ex:List RtA) (s:StC):Prop where
 now:Zch s.q (arV (some s.b)) s.c A.now
 keys:s.cs.map (·.key)=A.snaps.map (·.1)
 snaps:∀ x ∈ A.snaps,∃ c,gGet x.1 s.cs=some c∧Zch s.q (arV (some s.b)) c x.2
 len:s.sr.length=A.seqs.length
 seqs:∀ i,i<A.seqs.length→ZcA (rootsA A++ex) A.seqs.length i→(Nn s.sr i).av=arV (some s.b)∧Zbm s.q (Nn s.sr i).root (Nn A.seqs i)
def ZaT (A:StA):Int:=A.now.size+(A.snaps.map fun x=>x.2.size).sum
structure Zaz (A:StA):Prop where
 okn:ZlN A.all A.seqs A.now
 oks:∀ x ∈ A.snaps,ZlN A.all A.seqs x.2∧0≤x.1∧x.1<A.next
 ids:(A.snaps.map (·.1)).Pairwise (· < ·)
 szn:A.now.size=sizeH (histA A.all A.seqs A.now)
 szs:∀ x ∈ A.snaps,x.2.size=sizeH (histA A.all A.seqs x.2)
 held:ZaT A≤10000
 next:0≤A.next
structure ZbR (A:StA):Prop where
 next:A.next≤100000
 snaps:A.snaps.length≤100000
 all:A.all.length≤100000
 seqs:A.seqs.length≤100000
 len:∀ l ∈ A.seqs,l.length≤1000
 ops:∀ t ∈ A.all,t.ops.length≤1000
def ZnG (v:Value) (A:StA) (s:StC):List RS:=[.pt (.val v) 97 [.pv (.is (arV (some s.b))),.pv (.is (arV (some s.b))),.pv (.int .i64 s.c.tr),.pv (.is (arV (some s.b))),.pv (.int .i64 s.c.or),.pv (.int .i64 s.c.size),.pv (.is s.mv),.pv (.int .i64 A.next),.pv (.is s.alv),.pv (.is s.sqv)],RS.hp (arH (some s.b) 65536 s.q),.ob (.val s.mv) (Zox s.cs s.ck),.ob (.val s.alv) (ZM 36 3 rTx A.all),.ob (.val s.sqv) (ZM 114 2 rSq s.sr)]
def ZO (v:Value) (A:StA):HP:=.ex fun s:StC=>.and (Zap A [] s) (.star (ZnG v A s))
theorem Zip {v:Value} {A:StA} {w:World} {f y:Ys} (h:(ZO v A).p w f y):∃ b,v = .pointer (some ⟨b,0,none⟩):=by
 obtain ⟨_,_,h⟩:=h
 exact HP.star_pt h
def Zg3:StA:=⟨⟨[],[],0⟩,[],0,[],[]⟩
theorem Zch.zero (q:List Cell) (av:Value):Zch q av ⟨av,0,0,0⟩ ⟨[],[],0⟩:=⟨rfl,⟨.nil,.nil q,rfl⟩,⟨.nil,.nil q,rfl⟩,rfl⟩
theorem Zap.zero (b:Nat) (mv alv sqv:Value):Zap Zg3 [] ⟨b,[],⟨arV (some b),0,0,0⟩,[],0,mv,alv,sqv,[]⟩:=
 ⟨Zch.zero _ _,rfl,fun x hx=>(by cases hx),rfl,fun i hi=>absurd hi (YI i)⟩
theorem Zaz.zero:Zaz Zg3:=
 ⟨⟨List.Pairwise.nil,List.Pairwise.nil,fun p hp=>(by cases hp),fun p hp=>(by cases hp)⟩,fun x hx=>(by cases hx),List.Pairwise.nil,rfl,fun x hx=>(by cases hx),by decide,Yau 0⟩
theorem Zdo {l:List (Int×RtA)} (h:∀ x ∈ l,0≤x.2.size):0≤(l.map fun x=>x.2.size).sum:=by
 induction l with
 | nil=>simp
 | cons x l ih=>
  have h1:=h x Yan
  have h2:=ih fun z hz=>h z (YP _ hz)
  rw [YM,YaN];omega
theorem Zqs {l:List (Int×RtA)} (h:∀ x ∈ l,0≤x.2.size) {x:Int×RtA} (hx:x ∈ l):x.2.size≤(l.map fun x=>x.2.size).sum:=by
 induction l with
 | nil=>cases hx
 | cons y l ih=>
  have h1:=h y Yan
  have h3:=Zdo fun z hz=>h z (YP _ hz)
  rw [YM,YaN]
  rcases Yp.1 hx with rfl | h4
  ·omega
  ·have h2:=ih (fun z hz=>h z (YP _ hz)) h4
   omega
theorem Zaz.nn {A:StA} (h:Zaz A):∀ x ∈ A.snaps,0≤x.2.size:=fun x hx=>by rw [h.szs x hx];omega
theorem Zaz.now_le {A:StA} (h:Zaz A):sizeH (histA A.all A.seqs A.now)≤10000:=by
 have h1:=h.held
 have h2:=Zdo h.nn
 have h3:=h.szn
 unfold ZaT at h1
 omega
theorem Zaz.snap_le {A:StA} (h:Zaz A) {x:Int×RtA} (hx:x ∈ A.snaps):sizeH (histA A.all A.seqs x.2)≤10000:=by
 have h1:=h.held
 have h2:=Zqs h.nn hx
 have h3:=h.szs x hx
 have h4:=h.szn
 unfold ZaT at h1
 omega
theorem ZcD (all:List TxD) (seqs:List (List Int)) (r:RtA):r.txs.length+r.orders.length≤sizeH (histA all seqs r):=by
 unfold sizeH histA;simp only [YO];omega
theorem Zaz.nodup {A:StA} (h:Zaz A):(A.snaps.map (·.1)).Nodup:=by
 rw [List.nodup_iff_pairwise_ne]
 exact List.Pairwise.imp (fun h=>by omega) h.ids
theorem Zap.nd {A:StA} {ex:List RtA} {s:StC} (h:Zap A ex s) (hk:Zaz A):GNd s.cs:=by
 unfold GNd;rw [h.keys];exact hk.nodup
theorem Zny {cs:List (GE Int RtC)} (h:GNd cs) {e:GE Int RtC} (he:e ∈ cs):gGet e.key cs=some e.val:=ZoE (k:=e.key) (v:=e.val) h e he
theorem Zap.val {A:StA} {ex:List RtA} {s:StC} (h:Zap A ex s) (hk:Zaz A) {e:GE Int RtC} (he:e ∈ s.cs):∃ x ∈ A.snaps,x.1=e.key∧Zch s.q (arV (some s.b)) e.val x.2:=by
 have h1:e.key ∈ A.snaps.map (·.1):=h.keys ▸ YG.2 ⟨e,he,rfl⟩
 obtain ⟨x,hx,ex⟩:=YG.1 h1
 obtain ⟨c,hc,hr⟩:=h.snaps x hx
 rw [ex,Zny (h.nd hk) he] at hc
 cases hc
 exact ⟨x,hx,ex,hr⟩
theorem Zap.cslen {A:StA} {ex:List RtA} {s:StC} (h:Zap A ex s):s.cs.length=A.snaps.length:=by
 have:=Yai List.length h.keys
 simpa using this
def Zao (seen:List Nat) (cs:List (GE Int RtC)):Int:=(cs.map fun e=>if e.born ∈ seen then e.val.size else 0).sum
theorem ZhA (cs:List (GE Int RtC)):Zao [] cs=0:=by
 unfold Zao
 induction cs with
 | nil=>rfl
 | cons e cs ih=>rw [YM,YaN,ih];simp
theorem Zeq {seen:List Nat} {e:GE Int RtC} (hs:e.born ∉ seen):∀ {cs:List (GE Int RtC)},(cs.map (·.born)).Nodup→e ∈ cs→Zao (seen ++ [e.born]) cs=Zao seen cs+e.val.size
 | [],_,he=>by cases he
 | x :: cs,hn,he=>by
  rw [YM,Ya5] at hn
  have hc:∀ seen cs,Zao seen (x :: cs)=(if x.born ∈ seen then x.val.size else 0)+Zao seen cs:=fun _ _=>by unfold Zao;rw [YM,YaN]
  rw [hc,hc]
  rcases Yp.1 he with rfl | he
  ·have h1:Zao (seen ++ [e.born]) cs=Zao seen cs:=by
    unfold Zao
    congr 1
    refine Yav fun y hy=>?_
    have h2:y.born≠e.born:=fun h=>hn.1 (YG.2 ⟨y,hy,h⟩)
    simp [h2]
   rw [h1,Yg W5,Yb hs];omega
  ·have h2:x.born≠e.born:=fun h=>hn.1 (YG.2 ⟨e,he,h.symm⟩)
   rw [Zeq hs hn.2 he]
   have h3:(x.born ∈ seen ++ [e.born])=(x.born ∈ seen):=by simp [h2]
   simp only [h3];omega
theorem Zly {seen:List Nat} {cs:List (GE Int RtC)} (h:∀ e ∈ cs,e.born ∈ seen):Zao seen cs=(cs.map fun e=>e.val.size).sum:=by
 unfold Zao
 congr 1
 exact Yav fun e he=>Yg (h e he)
theorem Zit {seen:List Nat} : ∀ {cs:List (GE Int RtC)},(∀ e ∈ cs,0≤e.val.size)→0≤Zao seen cs∧Zao seen cs≤(cs.map fun e=>e.val.size).sum
 | [],_=>by simp [Zao]
 | x :: cs,h=>by
  have h1:=Zit (seen:=seen) (cs:=cs) fun e he=>h e (YP _ he)
  have h2:=h x Yan
  have hc:Zao seen (x :: cs)=(if x.born ∈ seen then x.val.size else 0)+Zao seen cs:=by unfold Zao;rw [YM,YaN]
  rw [hc,YM,YaN]
  split <;> omega
theorem Zap.sizes {A:StA} {ex:List RtA} {s:StC} (h:Zap A ex s) (hk:Zaz A):(s.cs.map fun e=>e.val.size).sum=(A.snaps.map fun x=>x.2.size).sum:=by
 have e1:(s.cs.map fun e=>e.val.size)=(s.cs.map (·.key)).map fun k=>((gGet k s.cs).getD default).size:=by
  rw [YaS]
  refine Yav fun e he=>?_
  show _=((gGet e.key s.cs).getD default).size
  rw [Zny (h.nd hk) he];rfl
 have e2:(A.snaps.map fun x=>x.2.size)=(A.snaps.map (·.1)).map fun k=>((gGet k s.cs).getD default).size:=by
  rw [YaS]
  refine Yav fun x hx=>?_
  obtain ⟨c,hc,hr⟩:=h.snaps x hx
  show _=((gGet x.1 s.cs).getD default).size
  rw [hc];exact hr.s.symm
 rw [e1,e2,h.keys]
theorem Zap.held {A:StA} {ex:List RtA} {s:StC} (h:Zap A ex s) (hk:Zaz A) (seen:List Nat):0≤A.now.size+Zao seen s.cs∧A.now.size+Zao seen s.cs≤10000:=by
 have h1:=Zit (seen:=seen) (cs:=s.cs) fun e he=>by
  obtain ⟨x,hx,_,hr⟩:=h.val hk he
  rw [hr.s];exact hk.nn x hx
 have h2:=h.sizes hk
 have h3:=hk.held
 have h4:=hk.szn
 unfold ZaT at h3
 omega
theorem Zap.held_all {A:StA} {ex:List RtA} {s:StC} (h:Zap A ex s) (hk:Zaz A) {seen:List Nat} (ha:∀ e ∈ s.cs,e.born ∈ seen):A.now.size+Zao seen s.cs=ZaT A:=by
 rw [Zly ha,h.sizes hk];rfl
end Go.Proofs.YtfecljadegkmdaaGreat
namespace Go.Proofs.YtfecljadegkmdaaGreat
open Go Go.Gm Tryz
set_option linter.unusedVariables false
set_option linter.unusedSimpArgs false
set_option maxHeartbeats 4000000
set_option maxRecDepth 8000
open Go.RowKit Go.Maps Go.Sort Go.Shelf Go.ChangeMaps Go.MapKept
set_option maxRecDepth 100000 in
set_option maxHeartbeats 1000000 in
theorem Zs8 (F:Fence) (n:Nat) (h10:F.fn 188) (hro:F.round=none) (hn:1≤n) (l Bm off b clock:Nat) (es:Array MapEntry) (hnd:(es.toList.map (·.born)).Nodup) (hold:∀ x ∈ es.toList,x.born<clock) (hkv:∀ e ∈ es.toList,∃ k:Int,e.key=ZpP k) (J:List Int→World→Prop)
  (hY:∀ pre x W,J pre W→pre.length<es.size→YieldAt F (n - 1) prog l #[ZpP x] W fun e W'=>e = .returned (.bool true)∧J (pre ++ [x]) W' ∧ KeepsWalks W W')
  (W:World) (hJ:AbidesFrom W.heap.size J) (hm:W.cell? ⟨Bm,off,none⟩ = some (.map (some b))) (hb:W.heap[b]? = some (.map es clock)) (h0:J [] W) :
  CallsIn F n prog 188 #[.func (.yield l) #[] #[],.pointer (some ⟨Bm,off,none⟩)] W fun e W'=>(∃ v,e = .returned v) ∧ ∃ ss:List Int,(ss.map ZpP).Perm (es.toList.map (·.key))∧J ss W':=by
 have hbl:b<W.heap.size:=(Y6.1 hb).1
 refine callsIn_of_wp func188 Z h10 ?_ hro
 simp only [ntmps188,YaH,Yl,Yn,Nat.reduceAdd,Nat.reduceSub,Array.replicate_succ,Array.replicate_zero,List.push_toArray,List.append_toArray,Yao,Y1]
 gi_wp2_with (first
  | (gi_at_range;refine Zfq rfl _ 94 rfl 3 92 kr b es clock rfl hb ?_)
  | gi_in)
 go_frame
 have hg0:W.grownBy (W.alloc (.mapIter (some b) clock #[] clock)) none:=World.grownBy_alloc W _ none
 have hr0:(W.alloc (.mapIter (some b) clock #[] clock)).heap[W.heap.size]? = some (.mapIter (some b) clock #[] clock):=World.alloc_heap_new W _
 have hb0:(W.alloc (.mapIter (some b) clock #[] clock)).heap[b]? = some (.map es clock):=(Below.heap_alloc _ _ b hbl).trans hb
 generalize W.alloc (.mapIter (some b) clock #[] clock)=w0 at hg0 hr0 hb0 ⊢
 gi_loopw [3] (fun _ wr=>∃ (seen:Array Nat) (c0:Nat) (ss:List Int),wr.heap[W.heap.size]? = some (.mapIter (some b) clock seen c0)∧clock≤c0∧wr.heap[b]? = some (.map es clock)∧(ss.map ZpP).Perm ((es.toList.filter fun x=>seen.contains x.born).map (·.key))∧ss.length+(leftOf es seen).size≤es.size∧J ss wr)
  (fun _ wr=>(leftOf es (wr.iterSeen W.heap.size)).size)
 case atStart=>
  exact ⟨#[],clock,[],hr0,YE _,hb0,by rw [ZqO];exact .nil,by rw [Zqw];simp,hJ [] W w0 none h0 hg0 (fun r e=>by cases e)⟩
 case round=>
  obtain ⟨seen,c0,ss,hr,hsc,hbr,hp,hcs,hJs⟩:=hrel
  gi_wp2_with (first
   | (gi_at_next;refine ZfR rfl _ rfl W.heap.size b clock c0 seen es rfl hr hbr hold hsc ow hnd ?_ ?_)
   | gi_in)
  ·intro hl0
   gi_wp2
   go_end0
   exact ⟨⟨_,rfl⟩,ss,by rw [Zr9 hl0] at hp;exact hp,hJs⟩
  ·intro e w2 hN
   obtain ⟨hem,hes⟩:=mem_left hN.left
   obtain ⟨x,hx⟩:=hkv e hem
   have hr2:=hN.it
   have hb2:=hN.mp
   have hen:=hN.entry
   have hlt:=left_shrinks es seen e hN.left
   have hJ2:J ss w2:=hJ ss wr w2 (some W.heap.size) hJs hN.grown (fun r e9=>by cases e9;exact ⟨YE _,_,hr,rfl⟩)
   rw [hx] at hen
   obtain ⟨fn,tmps,assign,body,hy,hR⟩:=hY ss x w2 hJ2 ow
   rw [hx]
   clear hN
   gi_wp2
   refine hR.mono ?_
   rintro e9 W3 ⟨rfl,hJ3,hk3⟩
   gi_wp2
   have hr3:=hk3.same _ _ hr2 rfl
   have hb3:=hk3.same _ _ hb2 rfl
   go_roundw
   case rel=>
    exact ⟨seen.push e.born,clock,ss ++ [x],hr3,YE _,hb3,by
     rw [YZ,List.map_singleton]
     have h9:=((ZkY hnd hem hes).map (·.key)).symm
     rw [YM,hx] at h9
     exact ((List.perm_append_singleton _ _).trans (hp.cons _)).trans h9,by rw [Yc,Yat];omega,hJ3⟩
   case measure=>
    simp only [World.iterSeen,hr3,hr]
    exact hlt
end Go.Proofs.YtfecljadegkmdaaGreat
namespace Go.Proofs.YtfecljadegkmdaaGreat
open Go Go.Gm Tryz
set_option linter.unusedVariables false
set_option linter.unusedSimpArgs false
set_option maxHeartbeats 4000000
set_option maxRecDepth 8000
open Go.RowKit Go.Maps Go.Sort Go.Shelf Go.ChangeMaps Go.MapKept
theorem ZqF {α:Type} {enc:α→Value} {dec:Value→α} (h:∀ x,dec (enc x)=x) {l m:List α} (hp:(l.map enc).Perm (m.map enc)):l.Perm m:=by
 have h1:=hp.map dec
 rw [YaS,YaS] at h1
 have e:dec ∘ enc=id:=by funext x;exact h x
 rwa [e,List.map_id,List.map_id] at h1
theorem Zlm {ν:Type} (ek:ν→PV) (mv:Value) (es:List (GE Int ν)) (ck:Nat) (hN:es.length≤1000000000):FnG prog 166 2 [.clos 188 [.ref [.is mv]]] [mapG ek (fun n:Int=>inR .i64 n) (fun n:Int=>Value.int .i64 n) es ck mv,.star []] PV.one (fun v=>[mapG ek (fun n:Int=>inR .i64 n) (fun n:Int=>Value.int .i64 n) es ck mv,.ex fun l:List Int=>.and (l.Perm (es.map (·.key))) (ZM 3 1 Zo l v)]):=fun w F vs hw hle hvs hpr=>by
 match vs,hvs with
 | [fv],hvs=>
  obtain ⟨caps,hfv,hcaps⟩:=hvs.1
  match caps,hcaps with
  | [cu],hcaps=>
   obtain ⟨Bm,off,us,hcu,hny,hBm,hc,hus⟩:=hcaps.1
   match us,hus with
   | [mu],hus=>
    have hmu:mu=mv:=hus.1.2.1
    subst hmu
    subst hcu
    subst hfv
    obtain ⟨b,rs,hmv,hb,hg,⟨hwf,hkeys⟩,hf⟩:=hpr 0 _ rfl
    have hst:∀ c,¬ F 2 c:=hpr 1 _ rfl
    subst hmv
    have hbl:b<w.heap.size:=(Y6.1 hb).1
    have hm:w.cell? ⟨Bm,off,none⟩ = some (.map (some b)):=hc.1
    have hkm:rs.map (·.key)=es.map (·.key):=hg.keys
    have hbm:rs.map (·.born)=es.map (·.born):=hg.borns
    have hnd:(((rs.map (rEnc (fun n:Int=>Value.int .i64 n))).toArray).toList.map (·.born)).Nodup:=by
     have e1:((rs.map (rEnc (fun n:Int=>Value.int .i64 n))).toArray).toList.map (·.born)=rs.map (·.born):=by rw [YaS];rfl
     rw [e1,hbm];exact hwf.1
    have hold:∀ x ∈ ((rs.map (rEnc (fun n:Int=>Value.int .i64 n))).toArray).toList,x.born<ck:=fun x hx=>by
     obtain ⟨r,hr,rfl⟩:=YG.1 hx
     have h1:r.born ∈ es.map (·.born):=hbm ▸ YG.2 ⟨r,hr,rfl⟩
     obtain ⟨e,he,e1⟩:=YG.1 h1
     show r.born<ck
     rw [← e1];exact hwf.2 e he
    have hkv:∀ x ∈ ((rs.map (rEnc (fun n:Int=>Value.int .i64 n))).toArray).toList,∃ k:Int,x.key=ZpP k:=fun x hx=>by
     obtain ⟨r,_,rfl⟩:=YG.1 hx
     exact ⟨r.key,rfl⟩
    have hlen:((rs.map (rEnc (fun n:Int=>Value.int .i64 n))).toArray).size=es.length:=by
     have h1:=Yai List.length hkm
     simp at h1 ⊢;exact h1
    have hseq:SeqGives Fence.wide 10 prog 188 #[.pointer (some ⟨Bm,off,none⟩)] ZpP (fun ss=>(ss.map ZpP).Perm (((rs.map (rEnc (fun n:Int=>Value.int .i64 n))).toArray).toList.map (·.key))) ((rs.map (rEnc (fun n:Int=>Value.int .i64 n))).toArray).size w:=fun l J W hW hJ hY h0=>
     Zs8 Fence.wide 10 trivial rfl ow l Bm off b ck _ hnd hold hkv J hY W hJ ((hW.cell (p:=⟨Bm,off,none⟩) hBm).trans hm) ((hW.block b hbl).trans hb) h0
    have eg:∀ args w,(callFunc 188 args).run prog w = .ok (.enter 188 args) w:=enters_of func188 kr rfl
    have hcalls:=callsIn_wide.1 (Zlb Fence.wide 12 trivial trivial Z ow 188 #[.pointer (some ⟨Bm,off,none⟩)] trivial eg _ _ (by rw [hlen];unfold maxLen;omega) (by rw [hlen];omega) w hseq)
    refine hcalls.mono ?_
    rintro e w' ⟨v,ss,rfl,O,hrow,hnil,hbel⟩
    have hss:ss.Perm (es.map (·.key)):=by
     have e1:((rs.map (rEnc (fun n:Int=>Value.int .i64 n))).toArray).toList.map (·.key)=(es.map (·.key)).map ZpP:=by
      rw [← hkm,YaS,YaS];rfl
     rw [e1] at O
     exact ZqF Zr3 O
    have hown:∀ c,v.ownBlock=some c→w.heap.size≤c∧c<w'.heap.size:=fun c hc9=>by
     rcases hrow.2 with ⟨rfl,_⟩ | ⟨g,cap,cur,rfl,hbase,hgb,_⟩
     ·simp [Value.ownBlock] at hc9
     ·simp [Value.ownBlock] at hc9
      subst hc9
      exact ⟨hbase,(Y6.1 hgb).1⟩
    have hrow0:w'.ownsRow 0 3 1 v ss.length (ss.flatMap ZrC):=⟨hrow.1,by
     rcases hrow.2 with h | ⟨g,cap,cur,h1,_,h3⟩
     ·exact .inl h
     ·exact .inr ⟨g,cap,cur,h1,Yo _,h3⟩⟩
    have hst2:Stp (List.range' 1 2) w F w' (fun n c=>F n c∨(n=2∧v.ownBlock=some c)):=⟨hbel.os,hbel.tape,hbel.output,hbel.size,fun c hc9 _=>hbel.block c hc9,fun n hn=>by
      funext c
      have:n≠2:=fun e=>hn (by subst e;simp)
      simp [this],fun n hn c hc9=>by
      rcases hc9 with h | ⟨_,h⟩
      ·exact .inl ⟨n,hn,h⟩
      ·exact .inr (hown c h).1⟩
    refine ⟨v,_,rfl,⟨fun n m c h1 h2=>?_,fun n c h1=>?_⟩,hst2,fun n c h1=>?_,?_,fun i h hi=>?_⟩
    ·rcases h1 with h1 | ⟨h1,h1'⟩ <;> rcases h2 with h2 | ⟨h2,h2'⟩
     ·exact hw.dis n m c h1 h2
     ·have:=hw.bd n c h1;have:=(hown c h2').1;omega
     ·have:=hw.bd m c h2;have:=(hown c h1').1;omega
     ·omega
    ·rcases h1 with h1 | ⟨_,h1⟩
     ·have:=hw.bd n c h1;have:=hbel.size;omega
     ·exact (hown c h1).2
    ·rcases h1 with h1 | ⟨h1,_⟩
     ·exact hle n c h1
     ·omega
    ·show v.oneCell' = true
     rcases hrow.2 with ⟨rfl,_⟩ | ⟨g,cap,cur,rfl,_⟩ <;> rfl
    ·match i,hi with
     | 0,hi=>
      simp only [Ybl,Yae] at hi
      subst hi
      exact ⟨b,rs,rfl,(hbel.block b hbl).trans hb,hg.mono hst2.ev,⟨hwf,hkeys⟩,fun c=>by rw [← hf c];simp⟩
     | 1,hi=>
      simp only [List.getElem?_cons_succ,Ybl,Yae] at hi
      subst hi
      refine ⟨ss,hss,ss.flatMap ZrC,hrow0,ZpG fun x hx=>?_,fun c=>?_⟩
      ·obtain ⟨e,he,e1⟩:=YG.1 (hss.mem_iff.1 hx)
       rw [← e1];exact hkeys e he
      ·have:=hst c
       simp [this]
end Go.Proofs.YtfecljadegkmdaaGreat
namespace Go.Proofs.YtfecljadegkmdaaGreat
open Go Go.Gm Tryz
set_option linter.unusedVariables false
set_option linter.unusedSimpArgs false
set_option maxHeartbeats 4000000
set_option maxRecDepth 8000
def ZcE (h:Zw):Prop:=h.txs.length≤12∧h.orders.length≤24∧(∀ j,j<h.txs.length→(Nn h.txs j).ops.length≤24) ∧ ∀ j,j<h.orders.length→(Nn h.orders j).txs.length≤24
instance (h:Zw):Decidable (ZcE h):=by unfold ZcE;exact inferInstance
def Ze4 (d:ZK):Prop:=ZcE ⟨d.was,d.old⟩∧ZcE ⟨d.now,d.new⟩
instance (d:ZK):Decidable (Ze4 d):=by unfold Ze4;exact inferInstance
theorem Zqt (d:ZK):(decide (ZcE ⟨d.was,d.old⟩) && decide (ZcE ⟨d.now,d.new⟩))=decide (Ze4 d):=by
 rw [Yaa,Yx,Yj,Yj,Yj]
 exact Iff.rfl
theorem Zne (u:Zw):FnP prog 22 [.agg (Zi u)] (.bool (decide (ZcE u))):=by
 refine FnP.mk func22 Z ntmps22 Z fun B a w F V hfr O=>?_
 obtain ⟨hxl,hyl⟩:=Sat.lenHist O (i:=0) rfl
 refine Ya (rS O (qx 101 r1 qB) V J5 QK fun τ O=>?_)
 have O:=Xa
 generalize τ 1=v1 at O
 refine Za (Ya (Ya (rZ O (qg 0 101 r1 r1 (qa 101 r1 r1 (qu YbR r1 (qf (o_gtr .t qi) r1 qz (qR rr (qv 1 101 Z r2 r1 (qw 101 Z r2 r1 (qk Z (fun h=>Zbp YbS (.w h)) r2 qz (qk Z (fun h=>o_gtr (.w h) qi) r2 qz (qf (ZaB .t .t) r2 qz qZ)))))))))) V [16,2,1] QK fun O=>?_)))
 refine Zb O Z (fun hc0=>?_) (fun hc0=>?_)
 ·have hg:false=decide (ZcE u):=by
    rw [Y8,Yi]
    rintro ⟨g1,g2,g3,g4⟩
    simp at hc0;omega
  refine Ya (rZ O qB V J5 QK fun O=>(Yh (Zd ?_)))
  refine Zx hfr O Z Z Z (.bool hg)
 have hb:u.txs.length≤12∧u.orders.length≤24:=WI
 refine Yd (Za (Ya (Ya (rZ O (qg 0 101 r1 r1 (qa 101 r1 r1 (qu YbR r1 (qJ qZ)))) V [20,19,18,2,1] QK fun O=>Ye ?_))))
 obtain ⟨F,O⟩:=O.nM [20,19,18,1] QK
 refine ZbL (σ:=Nat) (fun s=>(⟨[(1,.pv (.is v1)),(18,.pv (.sl rTx u.txs)),(19,.pv (.int .i64 u.txs.length)),(20,.pv (.int .i64 s))],[(0,frame B),(101,.pt (.val v1) 30 [.pv (.sl rTx u.txs),.pv (.sl Zp u.orders)])]⟩:En)) (fun s=>s≤u.txs.length ∧ ∀ j,j<s→(Nn u.txs j).ops.length≤24) (fun s=>u.txs.length - s) 0 O ⟨Yo _,fun j hj=>absurd hj (YI j)⟩ ?_
 clear O;intro i a w F hC O
 have hC:=X3
 have O:=X2
 obtain ⟨hi,hq⟩:=hC
 refine Ya (rZ O (qL r2) V [21,20,19,18,1] QK fun O=>Ya ?_)
 refine Zb O Z (fun hc1=>?_) (fun hc1=>?_)
 ·have hil:i<u.txs.length:=WH
  refine Yd (Za (Ya (Ye (Ya (rS O (qy 3 YbR r2 (qf (oR true 3 .t) r1 qz (qf (oH [.int .i64 0,.bool false,.slice none 0 0] 102) trivial qz (qS 3 102 r2 r1 qZ)))) V [20,19,18,4,1] QI fun τ O=>?_)))))
  have O:=Xk
  generalize τ 4=v4 at O
  refine Za (Ya (rZ O (qg 2 102 r1 r1 (qa 102 r1 r1 (qu YbU r1 (qf (o_gtr .t qi) r1 qz qZ)))) V [27,20,19,18,1] QK fun O=>?_))
  refine Zb O Z (fun hc2=>?_) (fun hc2=>?_)
  ·have hg:false=decide (ZcE u):=by
     rw [Y8,Yi]
     rintro ⟨g1,g2,g3,g4⟩
     have:=g3 i hil;rw [Yf] at hc2;simp at hc2;omega
   refine Ya (rZ O qB V [20,19,18,2,1] QK fun O=>(Yh (Zl (Zd (Zd (Zl (Zd ?_)))))))
   refine Zx hfr O Z Z Z (.bool hg)
  have hqi:(Nn u.txs i).ops.length≤24:=by rw [Yf] at hc2;simp at hc2;omega
  refine Yd (Zf (Za (rZ O (qp r1 (qR rr qZ)) V [20,19,18,1] QK fun O=>?_)))
  replace O:=O.eI 20 i
  obtain ⟨F,O⟩:=O.nM [20,19,18,1] QK
  exact ⟨i+1,F,⟨ow,fun j hj=>by rcases Yw (YC hj) with h | h;exact hq j h;rw [h];exact hqi⟩,O,ow⟩
 have hT:∀ j,j<u.txs.length→(Nn u.txs j).ops.length≤24:=fun j hj=>hq j WH
 clear hq hi
 refine Ym (Ze (Ze (Zk (Za (Ya (Ya (rZ O (qg 1 101 r1 r1 (qa 101 r1 r1 (qu YbS r1 (qJ qZ)))) V XaV [0] fun O=>Ye ?_)))))))
 obtain ⟨F,O⟩:=O.nM XaV [0]
 refine ZbL (σ:=Nat) (fun s=>(⟨[(30,.pv (.sl Zp u.orders)),(31,.pv (.int .i64 u.orders.length)),(32,.pv (.int .i64 s))],[(0,frame B)]⟩:En)) (fun s=>s≤u.orders.length ∧ ∀ j,j<s→(Nn u.orders j).txs.length≤24) (fun s=>u.orders.length - s) 0 O ⟨Yo _,fun j hj=>absurd hj (YI j)⟩ ?_
 clear O;intro i a w F hC O
 have hC:=X3
 have O:=X2
 obtain ⟨hi,hq⟩:=hC
 refine Ya (rZ O (qL r2) V [33,32,31,30] [0] fun O=>Ya ?_)
 refine Zb O Z (fun hc3=>?_) (fun hc3=>?_)
 ·have hil:i<u.orders.length:=WV
  refine Yd (Za (Ya (Ye (Ya (rS O (qy 2 YbS r2 (qf (oR true 2 .t) r1 qz (qf (oH [.int .i64 0,.slice none 0 0] 103) trivial qz (qS 2 103 r2 r1 qZ)))) V [32,31,30,6] [103,0] fun τ O=>?_)))))
  have O:=Xk
  generalize τ 6=v6 at O
  refine Za (Ya (rZ O (qg 1 103 r1 r1 (qa 103 r1 r1 (qu YbT r1 (qf (o_gtr .t qi) r1 qz qZ)))) V [39,32,31,30] [0] fun O=>?_))
  refine Zb O Z (fun hc4=>?_) (fun hc4=>?_)
  ·have hg:false=decide (ZcE u):=by
     rw [Y8,Yi]
     rintro ⟨g1,g2,g3,g4⟩
     have:=g4 i hil;rw [Yf] at hc4;simp at hc4;omega
   refine Ya (rZ O qB V [32,31,30,2] [0] fun O=>(Yh (Zl (Zd (Zd (Zl (Zd ?_)))))))
   refine Zx hfr O Z Z Z (.bool hg)
  have hqi:(Nn u.orders i).txs.length≤24:=by rw [Yf] at hc4;simp at hc4;omega
  refine Yd (Zf (Za (rZ O (qp r1 (qR rr qZ)) V XaV [0] fun O=>?_)))
  replace O:=O.eI 32 i
  obtain ⟨F,O⟩:=O.nM XaV [0]
  exact ⟨i+1,F,⟨ow,fun j hj=>by rcases Yw (YC hj) with h | h;exact hq j h;rw [h];exact hqi⟩,O,ow⟩
 have hO:∀ j,j<u.orders.length→(Nn u.orders j).txs.length≤24:=fun j hj=>hq j WV
 have hg:true=decide (ZcE u):=by rw [Y8,Yj];exact ⟨hb.1,hb.2,hT,hO⟩
 refine Ym (Ze (Ze (Zk (Za (Ya (rZ O qB V [2] [0] fun O=>Yh ?_))))))
 refine Zx hfr O Z Z Z (.bool hg)
theorem Zrx (d:ZK):FnP prog 48 [.agg (ZC d)] (.bool (decide (Ze4 d))):=by
 refine FnP.mk func48 Z ntmps48 Z fun B a w F V hfr O=>Ya ?_
 refine rS O (qx 101 r1 qB) V J5 QK fun τ O=>?_
 have O:=Xa
 generalize τ 1=v1 at O
 refine Za (Ya (rZ O (qg 0 101 r1 r1 (qa 101 r1 r1 (qg 2 101 r1 r1 (qa 101 r1 r1 (qf (oB [(0,.tmp 4),(1,.tmp 6)] [.slice none 0 0,.slice none 0 0] [(0,1),(1,1)] (.one Z .t Zaf kr (.one Z .t Zaf kr .nil))) r2 qz (qf (oP (Zne ⟨d.was,d.old⟩) func22 (Args.one (.pagg .t))) r1 qz (qR rr (qv 1 101 Z r2 r1 (qw 101 Z r2 r1 (qv 3 101 Z r2 r1 (qw 101 Z r2 r1 (qk Z (fun h=>Zdi (r:=[(0,.tmp 11),(1,.tmp 13)]) (zs:=[.slice none 0 0,.slice none 0 0]) (pl:=[(0,1),(1,1)]) kr kr (.one Z (.w h) Zaf kr (.one Z (.w h) Zaf kr .nil)) Wd) r3 qz (qk Z (fun h=>oP (Zne ⟨d.now,d.new⟩) func22 (Args.one (.pagg (.w h)))) r2 qz (qf (ZF .t .t) r2 qz (qO rr qZ))))))))))))))) V [2] [0] fun O=>Yh ?_))
 refine Zx hfr O Z Z Z (.bool (Zqt d))
instance (h:Zw):Decidable (ZcE h):=by unfold ZcE;exact inferInstance
def Zjz (os:List OrdD) (k:Int):List OrdD:=if isK OrdD.key k os=true then os else os.take (lowK OrdD.key k os) ++ [⟨k,[]⟩] ++ os.drop (lowK OrdD.key k os)
def Zlg (k:Int):List OrdD→List OrdD
 | []=>[⟨k,[]⟩]
 | o :: os=>if o.key<k then o :: Zlg k os else if o.key=k then o :: os else ⟨k,[]⟩ :: o :: os
theorem ZV {α:Type} [Inhabited α] {κ:α→Int} {l:List α} : ZeH κ l ↔ l.Pairwise fun a b=>κ a<κ b:=by
 rw [Y9]
 constructor
 ·intro h i j hi hj hij
  have:=h i j hij hj
  rwa [Zu hi,Zu hj] at this
 ·intro h a b hab hb
  rw [Zu ow,Zu hb]
  exact h a b ow hb hab
theorem Zjo (k:Int):∀ {os:List OrdD},ZeH OrdD.key os→Zjz os k=Zlg k os
 | [],_=>rfl
 | o :: os,h=>by
  rw [ZV,YB] at h
  have ih:=Zjo k (os:=os) (ZV.2 h.2)
  have e1:lowK OrdD.key k (o :: os)=if o.key<k then lowK OrdD.key k os+1 else 0:=by
   unfold lowK
   split
   ·rename_i h1
    rw [List.takeWhile_cons_of_pos Wj,Yl]
   ·rename_i h1
    rw [List.takeWhile_cons_of_neg Wj];rfl
  have e2:isK OrdD.key k (o :: os)=(decide (o.key=k) || isK OrdD.key k os):=by unfold isK;rw [List.any_cons]
  by_cases h1:o.key<k
  ·rw [Yg h1] at e1
   have e3:isK OrdD.key k (o :: os)=isK OrdD.key k os:=by rw [e2,Yq ow,Ybz]
   unfold Zjz at ih ⊢
   unfold Zlg
   rw [Yg h1,e3,e1]
   split
   ·rename_i h2;rw [Yg h2] at ih;exact Yai (o :: ·) ih
   ·rename_i h2;rw [Yb h2] at ih;rw [← ih];simp
  ·rw [Yb h1] at e1
   unfold Zjz Zlg
   rw [Yb h1,e1]
   by_cases h3:o.key=k
   ·rw [Yg h3,Yg (by rw [e2,YA h3,YbD])]
   ·rw [Yb h3,Yb]
    ·simp
    ·rw [e2,Yq h3,Ybz]
     unfold isK
     rw [Ybc]
     rintro ⟨x,hx,hk⟩
     have:=h.1 x hx
     simp at hk
     omega
theorem Zma {k:Int} {o:OrdD} : ∀ {os:List OrdD},o ∈ Zlg k os→o ∈ os∨o = ⟨k,[]⟩
 | [],h=>by simp [Zlg] at h;exact .inr h
 | x :: os,h=>by
  unfold Zlg at h
  split at h
  ·rcases Yp.1 h with h | h
   ·exact .inl (by simp [h])
   ·rcases Zma h with h | h
    ·exact .inl (by simp [h])
    ·exact .inr h
  ·split at h
   ·exact .inl h
   ·rcases Yp.1 h with h | h
    ·exact .inr h
    ·exact .inl h
theorem ZkC {k:Int} : ∀ {os:List OrdD},(os.Pairwise fun a b=>a.key<b.key)→(Zlg k os).Pairwise fun a b=>a.key<b.key
 | [],_=>by simp [Zlg]
 | x :: os,h=>by
  rw [YB] at h
  unfold Zlg
  split
  ·rename_i h1
   rw [YB]
   refine ⟨fun o ho=>?_,ZkC h.2⟩
   rcases Zma ho with h3 | h3
   ·exact h.1 o h3
   ·rw [h3];exact h1
  ·split
   ·rw [YB];exact h
   ·rw [YB,YB]
    refine ⟨fun o ho=>?_,h⟩
    rcases Yp.1 ho with h3 | h3
    ·rw [h3];show k<x.key;omega
    ·have:=h.1 o h3;show k<o.key;omega
theorem insK_rise {os:List OrdD} (k:Int) (h:ZeH OrdD.key os):ZeH OrdD.key (Zjz os k):=by
 rw [Zjo k h,ZV]
 exact ZkC (ZV.1 h)
theorem Zm4 (os:List OrdD) (k:Int):(Zjz os k).length≤os.length+1:=by
 unfold Zjz
 split
 ·omega
 ·rw [Yc,Yc,Yk,YN];simp;omega
theorem Zmm {os:List OrdD} {k:Int} {o:OrdD} (h:o ∈ Zjz os k):o ∈ os∨o = ⟨k,[]⟩:=by
 unfold Zjz at h
 split at h
 ·exact .inl h
 ·rw [YH,YH] at h
  rcases h with (h | h) | h
  ·exact .inl (Yax h)
  ·exact .inr W4
  ·exact .inl (YaW h)
def Zeu (t:TxD) (os:List OrdD) (ks:List Int):List OrdD:=if t.done=true then ks.foldl Zjz os else os
theorem ZnT {t:TxD} {os:List OrdD} (h:ZeH OrdD.key os) (hs:ZbS os) (ks:List Int):ZeH OrdD.key (Zeu t os ks)∧(Zeu t os ks).length≤os.length+ks.length ∧ ∀ o ∈ Zeu t os ks,o.txs.length≤1000:=by
 unfold Zeu
 split
 ·have key:∀ (ks:List Int) (os:List OrdD),ZeH OrdD.key os→(∀ o ∈ os,o.txs.length≤1000)→ZeH OrdD.key (ks.foldl Zjz os)∧(ks.foldl Zjz os).length≤os.length+ks.length ∧ ∀ o ∈ ks.foldl Zjz os,o.txs.length≤1000:=by
   intro ks
   induction ks with
   | nil=>intro os h1 h2;exact ⟨h1,by simp,h2⟩
   | cons k ks ih=>
    intro os h1 h2
    obtain ⟨g1,g2,g3⟩:=ih (Zjz os k) (insK_rise k h1) (fun o ho=>by
     rcases Zmm ho with h | h
     ·exact h2 o h
     ·rw [h];simp)
    have:=Zm4 os k
    exact ⟨g1,by rw [Yas,Yl];omega,g3⟩
  exact key ks os h hs.2
 ·exact ⟨h,ow,hs.2⟩
def Zsu (t:TxD) (o:OrdD):OrdD:=⟨o.key,if t.done=true∧0<wcnt t.ops o.key then ZgH o.txs t.id else ZbN o.txs t.id⟩
def settleO (t:TxD) (os:List OrdD):List OrdD:=((Zeu t os (Zai t)).map (Zsu t)).filter fun o=>!decide (o.txs = [])
abbrev Zu8 (T TR:TypeId) (p va:Value) (os:List OrdD):HP:=HP.ex fun vb:Value=>HP.star [.pt (.val p) T [.pv (.is va),.pv (.is vb)],.ob (.val vb) (ZM TR 2 Zp os)]
def Zbq:Zw:=⟨[],[]⟩
theorem ZaF {g:Zw} (h:ZG g):ZeH TxD.id g.txs∧ZeH OrdD.key g.orders:=by
 constructor
 ·have hi:ZjS (g.txs.map TxD.id):=Zi4 fun i hi h0=>by
   have hi':i<g.txs.length:=W8
   rw [ZdB ow,ZdB hi']
   exact (h.2.1 i hi').1 h0
  rw [ZV]
  exact YaT.1 hi
 ·have h2:=(Zdk g).2 h.2.2
  have hi:ZjS (g.orders.map OrdD.key):=Zi4 fun i hi h0=>by
   have hi':i<g.orders.length:=W8
   rw [ZdB ow,ZdB hi']
   exact (h2.2 i hi').1 h0
  rw [ZV]
  exact YaT.1 hi
def ZnX (t:TxD) (v:ZcM):Bool:=decide (v.tx=t.id) && decide ((wcnt t.ops v.key:Int)<v.nth)
def Zlc (t x:TxD):Bool:=decide (x.id≠t.id) && (ZaC x).any (ZnX t)
def Zhm (g:Zw) (t:TxD):Bool:=g.txs.any (Zlc t)
theorem ZmF {α:Type} [Inhabited α] {p:α→Bool} {l:List α} (h:∀ q,q<l.length→p (Nn l q)=false):l.any p=false:=by
 rw [Ya3]
 intro x hx
 obtain ⟨k,hk,e⟩:=YL hx
 have:=h k hk
 rw [Zu hk,e] at this
 simp [this]
theorem Znb {α:Type} [Inhabited α] {p:α→Bool} {l:List α} {i:Nat} (hi:i<l.length) (h:p (Nn l i)=true):l.any p=true:=by
 rw [Ybc]
 exact ⟨_,ZP hi,h⟩
def ZjQ (g:Zw) (t:TxD) (there:Int) (wanted:Bool):Int×Int:=if ¬ ZG g then (0,5) else if Zag t≠0 then (0,Zag t) else if isK TxD.id t.id g.txs≠wanted then (0,there) else if Zbb g t=false then (0,6) else (lowK TxD.id t.id g.txs,0)
def ZbH (g:Zw) (t:TxD):Zw×Int:=if (ZjQ g t 4 false).2≠0 then (Zbq,(ZjQ g t 4 false).2) else if g.txs.length=4096 then (Zbq,2) else (⟨g.txs.take (lowK TxD.id t.id g.txs) ++ [t] ++ g.txs.drop (lowK TxD.id t.id g.txs),settleO t g.orders⟩,0)
def Zey (id:Int):TxD:=⟨id,false,[]⟩
def Zbu (g:Zw) (id:Int):Zw×Int:=if ¬ ZG g then (Zbq,5) else if isK TxD.id id g.txs=false then (Zbq,3) else if Zhm g (Zey id)=true then (Zbq,7) else (⟨g.txs.take (lowK TxD.id id g.txs)++g.txs.drop (lowK TxD.id id g.txs+1),settleO (Zey id) g.orders⟩,0)
def ZcK (g:Zw) (t:TxD):Zw×Int:=if (ZjQ g t 3 true).2≠0 then (Zbq,(ZjQ g t 3 true).2) else if Zhm g t=true then (Zbq,7) else (⟨g.txs.set (lowK TxD.id t.id g.txs) t,settleO t g.orders⟩,0)
theorem Zsy {g:Zw} {t:TxD} {there:Int} {wanted:Bool} (ht:there≠0) (h:(ZjQ g t there wanted).2=0):ZG g∧Zag t=0∧isK TxD.id t.id g.txs=wanted∧Zbb g t=true∧(ZjQ g t there wanted).1=lowK TxD.id t.id g.txs:=by
 unfold ZjQ at h ⊢
 split at h
 ·simp at h
 ·rename_i h1
  split at h
  ·rename_i h2;exact absurd h h2
  ·rename_i h2
   split at h
   ·exact absurd h ht
   ·rename_i h3
    split at h
    ·simp at h
    ·rename_i h4
     rw [Yb h1,Yb h2,Yb h3,Yb h4]
     exact ⟨YS.1 h1,YS.1 h2,YS.1 h3,by simpa using h4,rfl⟩
theorem Zjr {α:Type} [Inhabited α] {κ:α→Int} {k:Int} {l:List α} (hs:ZeH κ l) (h:isK κ k l=true):lowK κ k l<l.length∧κ (Nn l (lowK κ k l))=k:=by
 obtain ⟨x,hx,hk⟩:=Ybc.1 h
 obtain ⟨q,hq,e⟩:=YL hx
 have hk':κ (Nn l q)=k:=by rw [Zu hq,e];simpa using hk
 have hl:=Zpd (κ:=κ) (k:=k) (l:=l) (i:=q) (Nat.le_of_lt hq) (fun p hp=>by have:=hs p q hp hq;omega) (fun p hp hp2=>by have:=Zs5 hs hp hp2;omega)
 rw [hl]
 exact ⟨hq,hk'⟩
theorem ZoL (l:List Int) (tx place:Int):(ZcB l tx place).1.length≤l.length:=by
 unfold ZcB
 split
 ·simp
 ·split
  ·simp
  ·rename_i h1 h2
   have hr:=Zin tx l
   have h3:(l.eraseIdx (ZeI tx l).toNat).length=l.length - 1:=by rw [List.length_eraseIdx,Yg ow]
   show (ZpA _ _ _).length≤_
   unfold ZpA
   split
   ·rw [Yc,Yl,Yk,YN];omega
   ·omega
theorem ZqY (l:List Int) (tx place:Int) (hl:l.length≤1000000):FnP prog 138 [.sl Zo l,.int .i64 tx,.int .i64 place] (.tup [.sl Zo (ZcB l tx place).1,.int .i64 (ZcB l tx place).2]):=by
 refine FnP.mk func138 Z ntmps138 Z fun B a w F V hfr O=>?_
 have hll:=Sat.lenSl O (i:=0) rfl
 have hxr:=Zin tx l
 have hxw:IntKind.wrap .i64 (ZeI tx l+1)=ZeI tx l+1:=Zj ow
 refine Ya (rZ O (qC (qI qZ)) V Gg [0] fun O=>Ya ?_)
 refine rZ O (qR rr (qR rr (qf (oP (Zqk l tx) func205 (Args.two .t .t)) r2 qz (qO rr qZ)))) V QX [0] fun O=>(Ya (Ya ?_))
 refine rZ O (qR rr (qf (ZaR .t qi) r1 qz qZ)) V [15,8,7,6,2,1,0] [0] fun O=>?_
 refine Zb O Z (fun hc0=>?_) (fun hc0=>?_)
 ·have hix:ZeI tx l<0:=Wz
  have hm:ZcB l tx place=([],3):=Yg hix
  refine Ya (rZ O (qC (qI qZ)) V QX [0] fun O=>(Yh (Zd ?_)))
  refine ZU hfr O Z (.tmp Z (.tmp Z .nil)) (.two (.trans .nilSl (.sl Kq)) (.int Kr))
 have hix:0≤ZeI tx l:=WI
 refine Yd (Za (Ya (Ya (rZ O (qR rr (qR rr (qf (oP (ZpK l place) func206 (Args.two .t .t)) r2 qz (qf (ZW .t) r1 qz qZ)))) V [19,8,7,6,2,1,0] [0] fun O=>?_))))
 refine Zb O Z (fun hc1=>?_) (fun hc1=>?_)
 ·have hpl:¬ (0≤place∧place<l.length):=WH
  have hm:ZcB l tx place=([],1):=(Yb ow).trans (Yg hpl)
  refine Ya (rZ O (qC (qI qZ)) V QX [0] fun O=>(Yh (Zd ?_)))
  refine ZU hfr O Z (.tmp Z (.tmp Z .nil)) (.two (.trans .nilSl (.sl Kq)) (.int Kr))
 have hpl:0≤place∧place<l.length:=WH
 have hm:ZcB l tx place=(ZpA (l.eraseIdx (ZeI tx l).toNat) place tx,0):=(Yb ow).trans (Yb Wb)
 refine Yd (Za (Ya (rZ O (qR rr (qR rr (qf (oP (ZsY l (ZeI tx l) hl ow) func208 (Args.two .t .t)) r2 qz (qR rr (qR rr (qf (oP (ZsI (l.eraseIdx (ZeI tx l).toNat) place tx (by rw [List.length_eraseIdx];split <;> omega)) func207 (Args.three .t .t .t)) r3 qz (qR rr (qf (o_extract .t Z) r1 qz (qf (o_extract .t Z) r1 qz (qO rr (qO rr qZ))))))))))) V [9,7,6] [0] fun O=>Ya ?_)))
 refine rZ O (qR rr (qO rr (qI qZ))) V XaK [0] fun O=>Yh ?_
 refine ZU hfr O Z (.tmp Z (.tmp Z .nil)) (.two (.sl Kq) (.int Kr))
def ZbV (g:Zw) (key:Int) (rule:List Int→List Int×Int):Zw×Int:=if ¬ ZG g then (Zbq,5) else if isK OrdD.key key g.orders=false then (Zbq,3) else if (rule (Nn g.orders (lowK OrdD.key key g.orders)).txs).2≠0 then (Zbq,(rule (Nn g.orders (lowK OrdD.key key g.orders)).txs).2) else (⟨g.txs,g.orders.set (lowK OrdD.key key g.orders) ⟨(Nn g.orders (lowK OrdD.key key g.orders)).key,(rule (Nn g.orders (lowK OrdD.key key g.orders)).txs).1⟩⟩,0)
def Zi5 (o:OrdD) (l:List Int):List Int×Int:=if l.Perm o.txs then (o.txs,0) else ([],8)
def ZcL (g:Zw) (o:OrdD):Zw×Int:=ZbV g o.key (Zi5 o)
def ZkL (g:Zw) (key id place:Int):Zw×Int:=ZbV g key fun l=>ZcB l id place
section
set_option linter.unusedSectionVars false
variable {α:Type} {κ:α→Int} {t x:α} {l out r:List α} {d:Bool}
def putGR (κ:α→Int) (t:α):List α→Bool→List α
 | [],d=>if d=true then [] else [t]
 | x :: l,d=>(if d=false∧κ t≤κ x then [t] else [])++(if κ x=κ t then [] else [x])++putGR κ t l (d || decide (κ t≤κ x))
theorem ZaO (hA:d=false∧κ t≤κ x) (V:¬ κ x=κ t) (h:out++putGR κ t (x :: l) d=r):out ++ [t] ++ [x] ++ putGR κ t l true=r:=by
 rw [← h,putGR,Yg hA,Yb V];simp [hA.2]
theorem ZaN (hA:d=false∧κ t≤κ x) (V:κ x=κ t) (h:out++putGR κ t (x :: l) d=r):out ++ [t] ++ putGR κ t l true=r:=by
 rw [← h,putGR,Yg hA,Yg V];simp [hA.2]
theorem Zqf (hA:¬ (d=false∧κ t≤κ x)):(d || decide (κ t≤κ x))=d:=by
 cases d
 ·simp at hA ⊢;omega
 ·rfl
theorem ZaL (hA:¬ (d=false∧κ t≤κ x)) (V:¬ κ x=κ t) (h:out++putGR κ t (x :: l) d=r):out ++ [x] ++ putGR κ t l d=r:=by
 rw [← h,putGR,Yb hA,Yb V,Zqf hA];simp
theorem ZaM (hA:¬ (d=false∧κ t≤κ x)) (V:κ x=κ t) (h:out++putGR κ t (x :: l) d=r):out++putGR κ t l d=r:=by
 rw [← h,putGR,Yb hA,Yg V,Zqf hA];simp
theorem ZbX:∀ l:List α,putGR κ t l true=l.filter fun x=>!decide (κ x=κ t)
 | []=>rfl
 | x :: l=>by
  rw [putGR,Yb W5,Yao,YbD,ZbX l]
  split
  ·rename_i h;rw [Yad W4];rfl
  ·rename_i h;rw [Yac W4];rfl
theorem ZcU (l:List α) (d:Bool):(putGR κ t l d).length≤l.length+1:=by
 have h2:∀ l:List α,(putGR κ t l true).length≤l.length:=fun l=>by rw [ZbX];exact YJ _ _
 induction l generalizing d with
 | nil=>cases d <;> simp [putGR]
 | cons x l ih=>
  have h1:=ih (d || decide (κ t≤κ x))
  rw [putGR,Yc,Yc]
  have h3:=h2 l
  by_cases hA:d=false∧κ t≤κ x
  ·rw [show (d || decide (κ t≤κ x))=true by simp [hA.2],Yg hA]
   split <;> simp <;> omega
  ·rw [Yb hA]
   split <;> simp <;> omega
theorem ZeE {k:Int} (h:∀ x ∈ l,k<κ x):(l.filter fun x=>!decide (κ x=k))=l:=by
 rw [Yba]
 intro x hx
 have:=h x hx
 simp;omega
theorem Zhv {k:Int} : lowK κ k (x :: l)=if κ x<k then lowK κ k l+1 else 0:=by
 unfold lowK
 split
 ·rename_i h1;rw [List.takeWhile_cons_of_pos Wj,Yl]
 ·rename_i h1;rw [List.takeWhile_cons_of_neg Wj];rfl
theorem Zb4 {k:Int} : isK κ k (x :: l)=(decide (κ x=k) || isK κ k l):=by unfold isK;rw [List.any_cons]
theorem Zm3 {k:Int} (h:∀ x ∈ l,k<κ x):isK κ k l=false:=by
 unfold isK
 rw [Ya3]
 intro x hx
 have:=h x hx
 simp;omega
theorem Ze3 (hs:l.Pairwise fun a b=>κ a<κ b) (hk:isK κ (κ t) l=false):putGR κ t l false=l.take (lowK κ (κ t) l) ++ [t] ++ l.drop (lowK κ (κ t) l):=by
 induction l with
 | nil=>rfl
 | cons x l ih=>
  rw [YB] at hs
  rw [Zb4,YaK,Yi] at hk
  rw [putGR,Yb hk.1,Zhv]
  by_cases h:κ x<κ t
  ·rw [Yb ow,Yg h,show (false || decide (κ t≤κ x))=false by simp;omega,ih hs.2 hk.2];simp
  ·rw [Yg ⟨rfl,ow⟩,Yb h,show (false || decide (κ t≤κ x))=true by simp;omega,ZbX,ZeE fun y hy=>by have:=hs.1 y hy;omega];simp
theorem ZhP (hs:l.Pairwise fun a b=>κ a<κ b) (hk:isK κ (κ t) l=true):putGR κ t l false=l.set (lowK κ (κ t) l) t:=by
 induction l with
 | nil=>simp [isK] at hk
 | cons x l ih=>
  rw [YB] at hs
  rw [putGR,Zhv]
  by_cases h:κ x<κ t
  ·rw [Zb4,Yq ow,Ybz] at hk
   rw [Yb ow,Yb ow,Yg h,show (false || decide (κ t≤κ x))=false by simp;omega,ih hs.2 hk];rfl
  ·rw [Yg ⟨rfl,ow⟩,Yb h,show (false || decide (κ t≤κ x))=true by simp;omega,ZbX,ZeE fun y hy=>by have:=hs.1 y hy;omega]
   have hx:κ x=κ t:=by
    refine Y3 fun h9=>?_
    rw [Zb4,Yq h9,Ybz,Zm3 fun y hy=>by have:=hs.1 y hy;omega] at hk
    cases hk
   rw [Yg hx];rfl
theorem Zid {k:Int} (hs:l.Pairwise fun a b=>κ a<κ b) (hk:isK κ k l=true):(l.filter fun x=>!decide (κ x=k))=l.take (lowK κ k l)++l.drop (lowK κ k l+1):=by
 induction l with
 | nil=>simp [isK] at hk
 | cons x l ih=>
  rw [YB] at hs
  rw [Zhv]
  by_cases h:κ x<k
  ·rw [Zb4,Yq ow,Ybz] at hk
   rw [Yac Wb,Yg h,ih hs.2 hk];rfl
  ·have hx:κ x=k:=by
    refine Y3 fun h9=>?_
    rw [Zb4,Yq h9,Ybz,Zm3 fun y hy=>by have:=hs.1 y hy;omega] at hk
    cases hk
   rw [Yad Wl,Yb h,ZeE fun y hy=>by have:=hs.1 y hy;omega];simp
theorem Zfs {y:α} (h:y ∈ putGR κ t l d):(y=t∧d=false)∨(y ∈ l∧κ y≠κ t):=by
 induction l generalizing d with
 | nil=>cases d <;> simp [putGR] at h;exact .inl ⟨h,rfl⟩
 | cons x l ih=>
  rw [putGR,YH,YH] at h
  rcases h with (h | h) | h
  ·split at h
   ·rename_i h1;exact .inl ⟨by simpa using h,h1.1⟩
   ·cases h
  ·split at h
   ·cases h
   ·rename_i h1
    have e:y=x:=W4
    subst e
    exact .inr ⟨by simp,h1⟩
  ·rcases ih h with ⟨h1,h2⟩ | ⟨h1,h2⟩
   ·rw [YaK] at h2;exact .inl ⟨h1,h2.1⟩
   ·exact .inr ⟨by simp [h1],h2⟩
theorem Zdd (hs:l.Pairwise fun a b=>κ a<κ b):(putGR κ t l d).Pairwise fun a b=>κ a<κ b:=by
 induction l generalizing d with
 | nil=>cases d <;> simp [putGR]
 | cons x l ih=>
  rw [YB] at hs
  have hf:=hs.2.filter fun x=>!decide (κ x=κ t)
  rw [putGR]
  by_cases hA:d=false∧κ t≤κ x
  ·rw [Yg hA,show (d || decide (κ t≤κ x))=true by simp [hA.2],ZbX]
   have h1:∀ y ∈ l.filter (fun x=>!decide (κ x=κ t)),κ x<κ y:=fun y hy=>hs.1 y (YV.1 hy).1
   split
   ·rw [YF,YaU,YB]
    exact ⟨fun y hy=>by have:=h1 y hy;omega,hf⟩
   ·rename_i h2
    rw [Yt,YaU,YaU,YB,YB]
    refine ⟨fun y hy=>?_,h1,hf⟩
    rcases Yp.1 hy with rfl | hy
    ·omega
    ·have:=h1 y hy;omega
  ·rw [Yb hA,Yao]
   have ih2:=ih (d:=d || decide (κ t≤κ x)) hs.2
   split
   ·simpa using ih2
   ·rename_i h2
    rw [YaU,YB]
    refine ⟨fun y hy=>?_,ih2⟩
    rcases Zfs hy with ⟨rfl,h3⟩ | ⟨h3,_⟩
    ·rw [YaK] at h3
     have:=YW h3.2
     omega
    ·exact hs.1 y h3
end
def getO (os:List OrdD) (k:Int):List Int:=((os.find? fun o=>decide (o.key=k)).map OrdD.txs).getD []
theorem Zaj {o:OrdD} {os:List OrdD} {k:Int} : getO (o :: os) k=if o.key=k then o.txs else getO os k:=by
 unfold getO
 rw [YbI]
 by_cases h:o.key=k <;> simp [h]
theorem ZdW {os:List OrdD} {k:Int} (h:∀ o ∈ os,o.key≠k):getO os k = []:=by
 unfold getO
 rw [YaV.2 fun o ho=>by simpa using h o ho];rfl
theorem Zee {os:List OrdD} {o:OrdD} (hs:os.Pairwise fun a b=>a.key<b.key) (h:o ∈ os):getO os o.key=o.txs:=by
 induction os with
 | nil=>cases h
 | cons x os ih=>
  rw [YB] at hs
  rw [Zaj]
  rcases Yp.1 h with rfl | h
  ·rw [Yg rfl]
  ·have:=hs.1 o h
   rw [Yb ow,ih hs.2 h]
theorem Zg7 {os:List OrdD} {k:Int} (h:getO os k≠[]):(⟨k,getO os k⟩:OrdD) ∈ os:=by
 induction os with
 | nil=>exact absurd rfl h
 | cons x os ih=>
  rw [Zaj] at h ⊢
  by_cases e:x.key=k
  ·rw [Yg e];subst e;simp
  ·rw [Yb e] at h ⊢;simp [ih h]
def NE (os:List OrdD):Prop:=∀ o ∈ os,o.txs≠[]
theorem ZoF:∀ {a b:List OrdD},(a.Pairwise fun x y=>x.key<y.key)→(b.Pairwise fun x y=>x.key<y.key)→(∀ o,o ∈ a ↔ o ∈ b)→a=b
 | [],[],_,_,_=>rfl
 | [],y :: b,_,_,h=>by have:=(h y).2 W5;cases this
 | x :: a,[],_,_,h=>by have:=(h x).1 W5;cases this
 | x :: a,y :: b,ha,hb,h=>by
  rw [YB] at ha hb
  have e:x=y:=by
   rcases Yp.1 ((h x).1 W5) with e | h1
   ·exact e
   ·rcases Yp.1 ((h y).2 W5) with e | h2
    ·exact e.symm
    ·have:=ha.1 y h2;have:=hb.1 x h1;omega
  subst e
  rw [ZoF (a:=a) (b:=b) ha.2 hb.2 fun o=>?_]
  constructor
  ·intro ho
   rcases Yp.1 ((h o).1 (by simp [ho])) with e | h1
   ·have:=ha.1 o ho;rw [e] at this;omega
   ·exact h1
  ·intro ho
   rcases Yp.1 ((h o).2 (by simp [ho])) with e | h1
   ·have:=hb.1 o ho;rw [e] at this;omega
   ·exact h1
theorem Ztd {a b:List OrdD} (ha:a.Pairwise fun x y=>x.key<y.key) (hb:b.Pairwise fun x y=>x.key<y.key) (na:NE a) (nb:NE b) (h:∀ k,getO a k=getO b k):a=b:=by
 refine ZoF ha hb fun o=>⟨fun ho=>?_,fun ho=>?_⟩
 ·have h1:=Zee ha ho
  have h2:getO b o.key≠[]:=by rw [← h,h1];exact na o ho
  have h3:=Zg7 h2
  rw [← h,h1] at h3;exact h3
 ·have h1:=Zee hb ho
  have h2:getO a o.key≠[]:=by rw [h,h1];exact nb o ho
  have h3:=Zg7 h2
  rw [h,h1] at h3;exact h3
def Zej (t:TxD) (l:List Int) (k:Int):List Int:=if t.done=true∧0<wcnt t.ops k then ZgH l t.id else ZbN l t.id
theorem ZlK {os:List OrdD} (hs:os.Pairwise fun a b=>a.key<b.key) (k:Int):getO (os.filter fun o=>!decide (o.txs = [])) k=getO os k:=by
 induction os with
 | nil=>rfl
 | cons x os ih=>
  rw [YB] at hs
  rw [Zaj]
  by_cases e:x.txs = []
  ·rw [Yad W6,ih hs.2]
   split
   ·rename_i hk
    rw [e,ZdW fun o ho=>by have:=hs.1 o ho;omega]
   ·rfl
  ·rw [Yac W6,Zaj,ih hs.2]
theorem ZqT {t:TxD} {os:List OrdD} {k:Int} : getO (os.map (Zsu t)) k=if isK OrdD.key k os=true then Zej t (getO os k) k else []:=by
 induction os with
 | nil=>simp [getO,isK]
 | cons x os ih=>
  rw [YM,Zaj,Zaj,Zb4,ih]
  by_cases e:x.key=k
  ·subst e
   rw [Yg (show (Zsu t x).key=x.key from rfl),Yg rfl]
   simp [Zsu,Zej]
  ·rw [Yb (show ¬ (Zsu t x).key=k from e),Yb e,Yq e,Ybz]
theorem Zk6 {k' k:Int} : ∀ {os:List OrdD},(os.Pairwise fun a b=>a.key<b.key)→getO (Zlg k' os) k=getO os k
 | [],_=>by unfold Zlg;rw [Zaj];split <;> rfl
 | x :: os,h=>by
  rw [YB] at h
  unfold Zlg
  split
  ·rw [Zaj,Zaj,Zk6 h.2]
  ·split
   ·rfl
   ·rw [Zaj]
    split
    ·rename_i h1 h2 h3
     have h3:k' = k:=h3
     subst h3
     refine (ZdW fun o ho=>?_).symm
     rcases Yp.1 ho with rfl | ho
     ·exact h2
     ·have:=h.1 o ho;omega
    ·rfl
theorem ZmP {k' k:Int} : ∀ {os:List OrdD},isK OrdD.key k (Zlg k' os)=(isK OrdD.key k os || decide (k' = k))
 | []=>by simp [Zlg,isK]
 | x :: os=>by
  unfold Zlg
  split
  ·rw [Zb4,Zb4,ZmP,Bool.or_assoc]
  ·split
   ·rename_i h2
    rw [Zb4]
    by_cases e:k' = k
    ·simp [h2,e]
    ·simp [e]
   ·rw [Zb4,Bool.or_comm]
theorem ZnB:∀ (ks:List Int) {os:List OrdD} (k:Int),ZeH OrdD.key os→getO (ks.foldl Zjz os) k=getO os k∧isK OrdD.key k (ks.foldl Zjz os)=(isK OrdD.key k os || decide (k ∈ ks))
 | [],os,k,_=>by simp
 | k' :: ks,os,k,h=>by
  obtain ⟨h1,h2⟩:=ZnB ks k (insK_rise k' h)
  rw [Yas,h1,h2,Zjo k' h,Zk6 (ZV.1 h),ZmP]
  refine ⟨rfl,?_⟩
  rw [Bool.or_assoc]
  congr 1
  rw [Yaa]
  simp only [Yar,Yj,Yp]
  exact ⟨fun h=>h.elim (fun h=>.inl h.symm) .inr,fun h=>h.elim (fun h=>.inl h.symm) .inr⟩
theorem Zqv {os:List OrdD} {k:Int} (h:isK OrdD.key k os=false):getO os k = []:=by
 refine ZdW fun o ho e=>?_
 unfold isK at h
 rw [Ya3] at h
 exact h o ho W6
theorem ZiC {t:TxD} {os:List OrdD} (h:ZeH OrdD.key os) (k:Int):getO (settleO t os) k=Zej t (getO os k) k:=by
 unfold settleO
 have hins:getO (Zeu t os (Zai t)) k=getO os k∧isK OrdD.key k (Zeu t os (Zai t))=(isK OrdD.key k os || (t.done && decide (k ∈ Zai t)))∧ZeH OrdD.key (Zeu t os (Zai t)):=by
  unfold Zeu
  split
  ·rename_i hd
   obtain ⟨h1,h2⟩:=ZnB (Zai t) k h
   refine ⟨h1,by rw [h2,hd,Ybv],?_⟩
   have key:∀ (ks:List Int) (os:List OrdD),ZeH OrdD.key os→ZeH OrdD.key (ks.foldl Zjz os):=by
    intro ks
    induction ks with
    | nil=>intro os h;exact h
    | cons k ks ih=>intro os h;exact ih _ (insK_rise k h)
   exact key _ _ h
  ·rename_i hd
   exact ⟨rfl,by simp [hd],h⟩
 obtain ⟨h1,h2,h3⟩:=hins
 have hm:((Zeu t os (Zai t)).map (Zsu t)).Pairwise fun a b=>a.key<b.key:=YaT.2 ((ZV.1 h3).imp fun h=>h)
 rw [ZlK hm,ZqT,h1,h2]
 split
 ·rfl
 ·rename_i hk
  simp only [Yar,not_or,Yx,Yj] at hk
  have hk1:isK OrdD.key k os=false:=by simpa using hk.1
  rw [Zqv hk1]
  unfold Zej
  rw [Yb fun h9=>hk.2 ⟨h9.1,Zc9.2 h9.2⟩];rfl
theorem ZhJ {t:TxD} {os:List OrdD} (h:ZeH OrdD.key os) (hs:ZbS os):(settleO t os).Pairwise (fun a b=>a.key<b.key)∧NE (settleO t os):=by
 have h3:=(ZnT (t:=t) h hs (Zai t)).1
 have hm:((Zeu t os (Zai t)).map (Zsu t)).Pairwise fun a b=>a.key<b.key:=YaT.2 ((ZV.1 h3).imp fun h=>h)
 refine ⟨hm.filter _,fun o ho=>?_⟩
 have:=(YV.1 ho).2
 simpa using this
def Zax (t:TxD) (os out:List OrdD) (k:Int):List OrdD:=putGR OrdD.key ⟨k,Zej t (getO os k) k⟩ out (decide (Zej t (getO os k) k = []))
def Z4 (t:TxD) (os:List OrdD):List Int:=(Zai t).foldl Zdv (ZbE (os.map OrdD.key))
def ZcZ (t:TxD) (os:List OrdD):List OrdD:=(Z4 t os).foldl (Zax t os) os
theorem Zm7 {o:OrdD} {os:List OrdD} {d:Bool} (hs:os.Pairwise fun a b=>a.key<b.key) (k:Int):getO (putGR OrdD.key o os d) k=if k=o.key then (if d=true then [] else o.txs) else getO os k:=by
 have hf:∀ os:List OrdD,getO (os.filter fun x=>!decide (x.key=o.key)) k=if k=o.key then [] else getO os k:=by
  intro os
  induction os with
  | nil=>split <;> rfl
  | cons x os ih=>
   by_cases e:x.key=o.key
   ·rw [Yad W6,ih,Zaj]
    split
    ·rfl
    ·rename_i h;rw [Yb ow]
   ·rw [Yac W6,Zaj,Zaj,ih]
    split
    ·rename_i h;rw [Yb ow]
    ·rfl
 cases d with
 | true=>rw [ZbX,hf];simp
 | false=>
  simp only [Ya7,Yu]
  induction os with
  | nil=>
   show getO [o] k=_
   rw [Zaj]
   by_cases e:o.key=k
   ·rw [Yg e,Yg e.symm]
   ·rw [Yb e,Yb fun h=>e h.symm]
  | cons x os ih=>
   rw [YB] at hs
   rw [putGR]
   by_cases hA:o.key≤x.key
   ·rw [Yg ⟨rfl,hA⟩,show (false || decide (o.key≤x.key))=true by simp [hA],ZbX,Yt,YaU,Zaj]
    by_cases e:o.key=k
    ·rw [Yg e,Yg e.symm]
    ·have e':¬ k=o.key:=fun h=>e h.symm
     rw [Yb e,Yb e',Zaj]
     by_cases e2:x.key=o.key
     ·rw [Yg e2,Yao,hf,Yb e',Yb (show ¬ x.key=k by omega)]
     ·rw [Yb e2,YaU,Zaj,hf,Yb e']
   ·rw [Yb fun h=>hA h.2,Yb ow,Yao,YaU,show (false || decide (o.key≤x.key))=false by simp;omega,Zaj,Zaj,ih hs.2]
    split
    ·rename_i h;rw [Yb ow]
    ·rfl
theorem Zl9 {t:TxD} {os:List OrdD} : ∀ (ks:List Int) {out:List OrdD},(out.Pairwise fun a b=>a.key<b.key)→NE out→ks.Nodup→((ks.foldl (Zax t os) out).Pairwise fun a b=>a.key<b.key)∧NE (ks.foldl (Zax t os) out) ∧ ∀ k,getO (ks.foldl (Zax t os) out) k=if k ∈ ks then Zej t (getO os k) k else getO out k
 | [],out,h1,h2,_=>⟨h1,h2,fun k=>by simp⟩
 | k' :: ks,out,h1,h2,hn=>by
  rw [Ya5] at hn
  have hst:NE (Zax t os out k'):=fun o ho=>by
   rcases Zfs ho with ⟨rfl,h3⟩ | ⟨h3,_⟩
   ·simpa using h3
   ·exact h2 o h3
  obtain ⟨g1,g2,g3⟩:=Zl9 ks (out:=Zax t os out k') (Zdd h1) hst hn.2
  refine ⟨g1,g2,fun k=>?_⟩
  rw [Yas,g3]
  by_cases hk:k ∈ ks
  ·rw [Yg hk,Yg (by simp [hk])]
  ·rw [Yb hk]
   unfold Zax
   rw [Zm7 h1]
   by_cases e:k=k'
   ·subst e
    rw [Yg rfl,Yg (show k ∈ k :: ks by simp)]
    show (if decide (Zej t (getO os k) k = [])=true then [] else Zej t (getO os k) k)=_
    split
    ·rename_i h;exact (Yv h).symm
    ·rfl
   ·rw [Yb e,Yb (by simp [e,hk])]
theorem ZkR:∀ (b:List Int) {a:List Int},ZjS a→ZjS (b.foldl Zdv a) ∧ ∀ x,x ∈ b.foldl Zdv a ↔ x ∈ a∨x ∈ b
 | [],a,h=>⟨h,fun x=>by simp⟩
 | y :: b,a,h=>by
  obtain ⟨h1,h2⟩:=ZiR (n:=y) h
  obtain ⟨g1,g2⟩:=ZkR b h1
  exact ⟨g1,fun x=>by rw [Yas,g2,h2];simp [or_assoc]⟩
theorem ZfO {t:TxD} {os:List OrdD} (h:ZeH OrdD.key os) (hs:ZbS os) (hn:NE os):ZcZ t os=settleO t os:=by
 obtain ⟨s1,s2⟩:=ZhJ (t:=t) h hs
 obtain ⟨k1,k2⟩:=ZkR (Zai t) (Zbl (os.map OrdD.key)).1
 obtain ⟨d1,d2,d3⟩:=Zl9 (t:=t) (os:=os) (Z4 t os) (ZV.1 h) hn (k1.imp fun h=>Int.ne_of_lt h)
 refine Ztd d1 s1 d2 s2 fun k=>?_
 rw [show getO (ZcZ t os) k=_ from d3 k,ZiC h]
 split
 ·rfl
 ·rename_i hk
  have hk2:=fun h9=>hk ((k2 k).2 h9)
  have e1:getO os k = []:=ZdW fun o ho e=>hk2 (.inl ((Zbl _).2 k |>.2 (by rw [YG];exact ⟨o,ho,e⟩)))
  rw [e1]
  unfold Zej
  rw [Yb fun h9=>hk2 (.inr (Zc9.2 h9.2))];rfl
theorem ZqA (l:List TxD) (t:TxD) (hl:l.length≤1000000):FnP prog 133 [.sl rTx l,.agg (rTx t)] (.sl rTx (putGR TxD.id t l false)):=by
 refine FnP.mk func133 Z ntmps133 Z fun B a w F V hfr O=>Ya ?_
 refine rS O (qx 101 r1 (qC qZ)) V DC QK fun τ O=>?_
 have O:=X1
 generalize τ 3=v3 at O
 refine Za (Ya (rZ O (qC qZ) V Gq QK fun O=>Ya ?_))
 refine rZ O qB V Xa5 QK fun O=>(Ya (Ya ?_))
 refine rZ O (qR rr (qu YbR r1 (qJ qZ))) V QT QK fun O=>Ye ?_
 replace O:=O.fresh 50 rfl
 replace O:=O.turn 50 Z (Zas (T:=36) (sz:=3) (R:=rTx))
 refine Zh (σ:=(Nat)×(Bool)×(Value)×(List TxD)) [3,4,9,10] [0,101] (fun s=>[(11,.pv (.int .i64 (s.1:Int))),(6,.pv (.bool s.2.1)),(5,.pv (.is s.2.2.1))]) (fun s=>[(50,.ob (.val s.2.2.1) (ZM 36 3 rTx s.2.2.2))]) (fun s=>s.1≤l.length∧(s.2.2.2++putGR TxD.id t (l.drop s.1) s.2.1=putGR TxD.id t l false)) (fun s=>l.length - s.1) ((0),(false),(.slice none 0 0),([])) O ⟨rfl,rfl,rfl,rfl,rfl,rfl,rfl,tv⟩ ⟨rfl,rfl,rfl,tv⟩ ⟨Yo _,rfl⟩ ?_
 clear O;intro s a w F hC O
 obtain ⟨i,d,v,out⟩:=s
 have hC:=X3
 obtain ⟨F,O⟩:=O.nM QT QQ
 have O:=X2
 obtain ⟨hi,hq⟩:=hC
 have hol:=Yai List.length hq
 rw [Yc] at hol
 have htl:(putGR TxD.id t l false).length≤l.length+1:=ZcU l _
 refine Ya (rZ O (qL r2) V DN QQ fun O=>Ya ?_)
 refine Zb O Z (fun hc0=>?_) (fun hc0=>?_)
 ·have hil:i<l.length:=WI
  refine Yd (Za (Ya (Ye (Ya (rS O (qy 3 YbR r2 (qf (oR true 3 .t) r1 qz (qf (oH [.int .i64 0,.bool false,.slice none 0 0] 102) trivial qz (qS 3 102 r2 r1 qZ)))) V Ji QM fun τ O=>?_)))))
  have O:=X0
  generalize τ 8=v8 at O
  try simp only [Yf] at O
  refine Za (Ya (Ya (rZ O (qR rr (qf (ZW .t) r1 qz (qR rr (qv 0 102 Z r2 r1 (qw 102 Z r2 r1 (qv 0 101 Z r2 r1 (qw 101 Z r2 r1 (qk Z (fun h=>Zcb (.w h) (.w h)) r3 qz (qf (ZF .t .t) r2 qz qZ))))))))) V Dj QM fun O=>?_)))
  refine Zb O Z (fun hc1=>?_) (fun hc1=>?_)
  ·have hA:d=false∧TxD.id t≤TxD.id (Nn l i):=WE
   refine Ya (rS O (qR rr (qe 3 101 r1 r1 (qf (o_buildSliceE (sz:=3) (zs:=[.int .i64 0,.bool false,.slice none 0 0]) (r:=[(0,.tmp 25)]) (l:=[_,_,_]) YbR kr kr kr kr Z Z (.agg Z .t kr kr .nil) Z) r1 qz (qf (o_append (sz:=3) (bs:=40) 50 (.mk' YbR kr kr) Wt .is (.arr (l':=[t]) .t) Wx We) ⟨rfl,rfl,tv⟩ ⟨rfl,tv⟩ (qO rr qZ))))) V Ji QM fun τ O=>?_)
   have O:=X0
   generalize τ 27=v27 at O
   refine Za (rZ O qB V Ji QM fun O=>Ya ?_)
   refine rZ O (qg 0 102 r1 r1 (qa 102 r1 r1 (qg 0 101 r1 r1 (qa 101 r1 r1 (qf (o_neq .t .t) r2 qz qZ))))) V JJ QM fun O=>?_
   refine Zb O Z (fun hc2=>?_) (fun hc2=>?_)
   ·have hBq:¬ TxD.id (Nn l i)=TxD.id t:=WD
    refine rS O (qR rr (qe 3 102 r1 r1 (qf (o_buildSliceE (sz:=3) (zs:=[.int .i64 0,.bool false,.slice none 0 0]) (r:=[(0,.tmp 34)]) (l:=[_,_,_]) YbR kr kr kr kr Z Z (.agg Z .t kr kr .nil) Z) r1 qz (qf (o_append (sz:=3) (bs:=40) 50 (.mk' YbR kr kr) Wt .is (.arr (l':=[(Nn l i)]) .t) Wx We) ⟨rfl,rfl,tv⟩ ⟨rfl,tv⟩ (qO rr qZ))))) V QT QM fun τ O=>?_
    have O:=X0
    generalize τ 36=v36 at O
    refine Zf (Za (rZ O (qp r1 (qR rr qZ)) V QT QM fun O=>?_))
    replace O:=O.eI 11 i
    obtain ⟨F,O⟩:=O.nM Ja J9
    exact ⟨((i+1),_,_,_),F,⟨ow,Ks⟩,O,ow⟩
   have hBq:TxD.id (Nn l i)=TxD.id t:=WD
   refine Yd (Zf (Za (rZ O (qp r1 (qR rr qZ)) V QT QM fun O=>?_)))
   replace O:=O.eI 11 i
   obtain ⟨F,O⟩:=O.nM Ja J9
   exact ⟨((i+1),_,_,_),F,⟨ow,Ks⟩,O,ow⟩
  have hA:¬ (d=false∧TxD.id t≤TxD.id (Nn l i)):=KS
  refine Yd (Za (Ya (rZ O (qg 0 102 r1 r1 (qa 102 r1 r1 (qg 0 101 r1 r1 (qa 101 r1 r1 (qf (o_neq .t .t) r2 qz qZ))))) V JJ QM fun O=>?_)))
  refine Zb O Z (fun hc3=>?_) (fun hc3=>?_)
  ·have hBq:¬ TxD.id (Nn l i)=TxD.id t:=WS
   refine rS O (qR rr (qe 3 102 r1 r1 (qf (o_buildSliceE (sz:=3) (zs:=[.int .i64 0,.bool false,.slice none 0 0]) (r:=[(0,.tmp 34)]) (l:=[_,_,_]) YbR kr kr kr kr Z Z (.agg Z .t kr kr .nil) Z) r1 qz (qf (o_append (sz:=3) (bs:=40) 50 (.mk' YbR kr kr) Wt .is (.arr (l':=[(Nn l i)]) .t) Wx We) ⟨rfl,rfl,tv⟩ ⟨rfl,tv⟩ (qO rr qZ))))) V QT QM fun τ O=>?_
   have O:=X0
   generalize τ 36=v36 at O
   refine Zf (Za (rZ O (qp r1 (qR rr qZ)) V QT QM fun O=>?_))
   replace O:=O.eI 11 i
   obtain ⟨F,O⟩:=O.nM Ja J9
   exact ⟨((i+1),_,_,_),F,⟨ow,Ks⟩,O,ow⟩
  have hBq:TxD.id (Nn l i)=TxD.id t:=WS
  refine Yd (Zf (Za (rZ O (qp r1 (qR rr qZ)) V QT QM fun O=>?_)))
  replace O:=O.eI 11 i
  obtain ⟨F,O⟩:=O.nM Ja J9
  exact ⟨((i+1),_,_,_),F,⟨ow,Ks⟩,O,ow⟩
 have hil:i=l.length:=WI
 refine Ym (Ze (Ze (Zk (Za (Ya (Ya (rZ O (qR rr (qf (ZW .t) r1 qz qZ)) V [39,5,4,3] QQ fun O=>?_)))))))
 refine Zb O Z (fun hc4=>?_) (fun hc4=>?_)
 ·have hfin:out ++ [t] = putGR TxD.id t l false:=KN
  refine rS O (qR rr (qe 3 101 r1 r1 (qf (o_buildSliceE (sz:=3) (zs:=[.int .i64 0,.bool false,.slice none 0 0]) (r:=[(0,.tmp 41)]) (l:=[_,_,_]) YbR kr kr kr kr Z Z (.agg Z .t kr kr .nil) Z) r1 qz (qf (o_append (sz:=3) (bs:=40) 50 (.mk' YbR kr kr) Wt .is (.arr (l':=[t]) .t) Wx We) ⟨rfl,rfl,tv⟩ ⟨rfl,tv⟩ (qO rr qZ))))) V Jf QQ fun τ O=>?_
  have O:=X0
  generalize τ 43=v43 at O
  refine Za (Ya (rZ O (qR rr (qO rr qZ)) V [4] QQ fun O=>Yh ?_))
  obtain ⟨F,O⟩:=O.give 50 4 Z rfl
  refine Zx hfr O Z Z Z (.sl hfin)
 have hfin:out=putGR TxD.id t l false:=KO
 refine Yd (Za (Ya (rZ O (qR rr (qO rr qZ)) V [4] QQ fun O=>Yh ?_)))
 obtain ⟨F,O⟩:=O.give 50 4 Z rfl
 refine Zx hfr O Z Z Z (.sl hfin)
theorem Zeg (l:List OrdD) (t:OrdD) (hl:l.length≤1000000):FnP prog 137 [.sl Zp l,.agg (Zp t)] (.sl Zp (putGR OrdD.key t l (decide (t.txs = [])))):=by
 refine FnP.mk func137 Z ntmps137 Z fun B a w F V hfr O=>Ya ?_
 refine rS O (qx 101 r1 (qC qZ)) V DC QK fun τ O=>?_
 have O:=X1
 generalize τ 3=v3 at O
 refine Za (Ya (rZ O (qC qZ) V Gq QK fun O=>Ya ?_))
 refine rZ O (qg 1 101 r1 r1 (qa 101 r1 r1 (qu YbT r1 (qf (o_eql .t qi) r1 qz (qO rr qZ))))) V Xa5 QK fun O=>(Ya (Ya ?_))
 refine rZ O (qR rr (qu YbS r1 (qJ qZ))) V Jx QK fun O=>Ye ?_
 replace O:=O.fresh 50 rfl
 replace O:=O.turn 50 Z (Zas (T:=39) (sz:=2) (R:=Zp))
 replace O:=O.ent (i:=6) (s':=.pv (.bool (decide (t.txs = [])))) Z ((.bool (by rw [Yaa];simp)))
 refine Zh (σ:=(Nat)×(Bool)×(Value)×(List OrdD)) [3,4,13,14] [0,101] (fun s=>[(15,.pv (.int .i64 (s.1:Int))),(6,.pv (.bool s.2.1)),(5,.pv (.is s.2.2.1))]) (fun s=>[(50,.ob (.val s.2.2.1) (ZM 39 2 Zp s.2.2.2))]) (fun s=>s.1≤l.length∧(s.2.2.2++putGR OrdD.key t (l.drop s.1) s.2.1=putGR OrdD.key t l (decide (t.txs = [])))) (fun s=>l.length - s.1) ((0),((decide (t.txs = []))),(.slice none 0 0),([])) O ⟨rfl,rfl,rfl,rfl,rfl,rfl,rfl,tv⟩ ⟨rfl,rfl,rfl,tv⟩ ⟨Yo _,rfl⟩ ?_
 clear O;intro s a w F hC O
 obtain ⟨i,d,v,out⟩:=s
 have hC:=X3
 obtain ⟨F,O⟩:=O.nM Jx QQ
 have O:=X2
 obtain ⟨hi,hq⟩:=hC
 have hol:=Yai List.length hq
 rw [Yc] at hol
 have htl:(putGR OrdD.key t l (decide (t.txs = []))).length≤l.length+1:=ZcU l _
 refine Ya (rZ O (qL r2) V [16,15,14,13,6,5,4,3] QQ fun O=>Ya ?_)
 refine Zb O Z (fun hc0=>?_) (fun hc0=>?_)
 ·have hil:i<l.length:=WI
  refine Yd (Za (Ya (Ye (Ya (rS O (qy 2 YbS r2 (qf (oR true 2 .t) r1 qz (qf (oH [.int .i64 0,.slice none 0 0] 102) trivial qz (qS 2 102 r2 r1 qZ)))) V DO QM fun τ O=>?_)))))
  have O:=X0
  generalize τ 8=v8 at O
  try simp only [Yf] at O
  refine Za (Ya (Ya (rZ O (qR rr (qf (ZW .t) r1 qz (qR rr (qv 0 102 Z r2 r1 (qw 102 Z r2 r1 (qv 0 101 Z r2 r1 (qw 101 Z r2 r1 (qk Z (fun h=>Zcb (.w h) (.w h)) r3 qz (qf (ZF .t .t) r2 qz qZ))))))))) V [27,15,14,13,8,6,5,4,3] QM fun O=>?_)))
  refine Zb O Z (fun hc1=>?_) (fun hc1=>?_)
  ·have hA:d=false∧OrdD.key t≤OrdD.key (Nn l i):=WE
   refine Ya (rS O (qR rr (qe 2 101 r1 r1 (qf (o_buildSliceE (sz:=2) (zs:=[.int .i64 0,.slice none 0 0]) (r:=[(0,.tmp 29)]) (l:=[_,_]) YbS kr kr kr kr Z Z (.agg Z .t kr kr .nil) Z) r1 qz (qf (o_append (sz:=2) (bs:=32) 50 (.mk' YbS kr kr) Wt .is (.arr (l':=[t]) .t) Wx We) ⟨rfl,rfl,tv⟩ ⟨rfl,tv⟩ (qO rr qZ))))) V DO QM fun τ O=>?_)
   have O:=X0
   generalize τ 31=v31 at O
   refine Za (rZ O qB V DO QM fun O=>Ya ?_)
   refine rZ O (qg 0 102 r1 r1 (qa 102 r1 r1 (qg 0 101 r1 r1 (qa 101 r1 r1 (qf (o_neq .t .t) r2 qz qZ))))) V XaH QM fun O=>?_
   refine Zb O Z (fun hc2=>?_) (fun hc2=>?_)
   ·have hBq:¬ OrdD.key (Nn l i)=OrdD.key t:=WD
    refine rS O (qR rr (qe 2 102 r1 r1 (qf (o_buildSliceE (sz:=2) (zs:=[.int .i64 0,.slice none 0 0]) (r:=[(0,.tmp 38)]) (l:=[_,_]) YbS kr kr kr kr Z Z (.agg Z .t kr kr .nil) Z) r1 qz (qf (o_append (sz:=2) (bs:=32) 50 (.mk' YbS kr kr) Wt .is (.arr (l':=[(Nn l i)]) .t) Wx We) ⟨rfl,rfl,tv⟩ ⟨rfl,tv⟩ (qO rr qZ))))) V Jx QM fun τ O=>?_
    have O:=X0
    generalize τ 40=v40 at O
    refine Zf (Za (rZ O (qp r1 (qR rr qZ)) V Jx QM fun O=>?_))
    replace O:=O.eI 15 i
    obtain ⟨F,O⟩:=O.nM GW J9
    exact ⟨((i+1),_,_,_),F,⟨ow,Ks⟩,O,ow⟩
   have hBq:OrdD.key (Nn l i)=OrdD.key t:=WD
   refine Yd (Zf (Za (rZ O (qp r1 (qR rr qZ)) V Jx QM fun O=>?_)))
   replace O:=O.eI 15 i
   obtain ⟨F,O⟩:=O.nM GW J9
   exact ⟨((i+1),_,_,_),F,⟨ow,Ks⟩,O,ow⟩
  have hA:¬ (d=false∧OrdD.key t≤OrdD.key (Nn l i)):=KS
  refine Yd (Za (Ya (rZ O (qg 0 102 r1 r1 (qa 102 r1 r1 (qg 0 101 r1 r1 (qa 101 r1 r1 (qf (o_neq .t .t) r2 qz qZ))))) V XaH QM fun O=>?_)))
  refine Zb O Z (fun hc3=>?_) (fun hc3=>?_)
  ·have hBq:¬ OrdD.key (Nn l i)=OrdD.key t:=WS
   refine rS O (qR rr (qe 2 102 r1 r1 (qf (o_buildSliceE (sz:=2) (zs:=[.int .i64 0,.slice none 0 0]) (r:=[(0,.tmp 38)]) (l:=[_,_]) YbS kr kr kr kr Z Z (.agg Z .t kr kr .nil) Z) r1 qz (qf (o_append (sz:=2) (bs:=32) 50 (.mk' YbS kr kr) Wt .is (.arr (l':=[(Nn l i)]) .t) Wx We) ⟨rfl,rfl,tv⟩ ⟨rfl,tv⟩ (qO rr qZ))))) V Jx QM fun τ O=>?_
   have O:=X0
   generalize τ 40=v40 at O
   refine Zf (Za (rZ O (qp r1 (qR rr qZ)) V Jx QM fun O=>?_))
   replace O:=O.eI 15 i
   obtain ⟨F,O⟩:=O.nM GW J9
   exact ⟨((i+1),_,_,_),F,⟨ow,Ks⟩,O,ow⟩
  have hBq:OrdD.key (Nn l i)=OrdD.key t:=WS
  refine Yd (Zf (Za (rZ O (qp r1 (qR rr qZ)) V Jx QM fun O=>?_)))
  replace O:=O.eI 15 i
  obtain ⟨F,O⟩:=O.nM GW J9
  exact ⟨((i+1),_,_,_),F,⟨ow,Ks⟩,O,ow⟩
 have hil:i=l.length:=WI
 refine Ym (Ze (Ze (Zk (Za (Ya (Ya (rZ O (qR rr (qf (ZW .t) r1 qz qZ)) V [43,5,4,3] QQ fun O=>?_)))))))
 refine Zb O Z (fun hc4=>?_) (fun hc4=>?_)
 ·have hfin:out ++ [t] = putGR OrdD.key t l (decide (t.txs = [])):=KN
  refine rS O (qR rr (qe 2 101 r1 r1 (qf (o_buildSliceE (sz:=2) (zs:=[.int .i64 0,.slice none 0 0]) (r:=[(0,.tmp 45)]) (l:=[_,_]) YbS kr kr kr kr Z Z (.agg Z .t kr kr .nil) Z) r1 qz (qf (o_append (sz:=2) (bs:=32) 50 (.mk' YbS kr kr) Wt .is (.arr (l':=[t]) .t) Wx We) ⟨rfl,rfl,tv⟩ ⟨rfl,tv⟩ (qO rr qZ))))) V Jf QQ fun τ O=>?_
  have O:=X0
  generalize τ 47=v47 at O
  refine Za (Ya (rZ O (qR rr (qO rr qZ)) V [4] QQ fun O=>Yh ?_))
  obtain ⟨F,O⟩:=O.give 50 4 Z rfl
  refine Zx hfr O Z Z Z (.sl hfin)
 have hfin:out=putGR OrdD.key t l (decide (t.txs = [])):=KO
 refine Yd (Za (Ya (rZ O (qR rr (qO rr qZ)) V [4] QQ fun O=>Yh ?_)))
 obtain ⟨F,O⟩:=O.give 50 4 Z rfl
 refine Zx hfr O Z Z Z (.sl hfin)
theorem Zto {os:List OrdD} {k:Int} {i:Nat} (hi:i<os.length) (h:(Nn os i).key=k) (hq:∀ q,q<i→(Nn os q).key≠k):getO os k=(Nn os i).txs:=by
 unfold getO
 rw [Ya6.2 ⟨by simpa using h,i,hi,(Zu hi).symm,fun j hj=>by have:=hq j hj;rw [Zu ow] at this;simpa using this⟩];rfl
theorem Zta {os:List OrdD} {k:Int} (hq:∀ q,q<os.length→(Nn os q).key≠k):getO os k = []:=ZdW fun o ho=>by
 obtain ⟨j,hj,e⟩:=YL ho
 have:=hq j hj
 rwa [Zu hj,e] at this
theorem Zi7 {os:List OrdD} (h:ZbS os) (k:Int):(getO os k).length≤1000:=by
 by_cases e:getO os k = []
 ·rw [e];simp
 ·exact h.2 _ (Zg7 e)
theorem Zmj {t:TxD} {os:List OrdD} : ∀ (ks:List Int) (out:List OrdD),(ks.foldl (Zax t os) out).length≤out.length+ks.length
 | [],out=>by simp
 | k :: ks,out=>by
  have h1:=Zmj (t:=t) (os:=os) ks (Zax t os out k)
  have h2:(Zax t os out k).length≤out.length+1:=ZcU _ _
  rw [Yas,Yl];omega
theorem Zeb (g:Zw) (key:Int):FnP prog 20 [.agg (Zi g),.int .i64 key] (.sl Zo (getO g.orders key)):=by
 refine FnP.mk func20 Z ntmps20 Z fun B a w F V hfr O=>?_
 obtain ⟨hxl,hyl⟩:=Sat.lenHist O (i:=0) rfl
 refine Ya (rS O (qx 101 r1 (qC qZ)) V Dz QK fun τ O=>?_)
 have O:=X1
 generalize τ 2=v2 at O
 refine Za (Ya (Ya (rZ O (qg 1 101 r1 r1 (qa 101 r1 r1 (qu YbS r1 (qJ qZ)))) V Xav QK fun O=>Ye ?_)))
 refine Zh (σ:=(Nat)) [1,4,8,9] [0,101] (fun s=>[(10,.pv (.int .i64 (s:Int)))]) (fun s=>[]) (fun s=>s≤g.orders.length∧(∀ q,q<s→(Nn g.orders q).key≠key)) (fun s=>g.orders.length - s) (0) O ⟨rfl,rfl,rfl,rfl,rfl,tv⟩ ⟨rfl,rfl,tv⟩ ⟨Yo _,fun q hq=>absurd hq (YI q)⟩ ?_
 clear O;intro i a w F hC O
 have hC:=X3
 obtain ⟨F,O⟩:=O.nM Xav QK
 have O:=X2
 obtain ⟨hi,hq⟩:=hC
 refine Ya (rZ O (qL r2) V [11,10,9,8,4,1] QK fun O=>Ya ?_)
 refine Zb O Z (fun hc0=>?_) (fun hc0=>?_)
 ·have hil:i<g.orders.length:=WI
  refine Yd (Za (Ya (Ye (Ya (rS O (qy 2 YbS r2 (qf (oR true 2 .t) r1 qz (qf (oH [.int .i64 0,.slice none 0 0] 102) trivial qz (qS 2 102 r2 r1 qZ)))) V [10,9,8,6,4,1] QI fun τ O=>?_)))))
  have O:=X0
  generalize τ 6=v6 at O
  try simp only [Yf] at O
  refine Za (Ya (rZ O (qg 0 102 r1 r1 (qa 102 r1 r1 (qR rr (qf (o_eql .t .t) r2 qz qZ)))) V [17,10,9,8,6,4,1] QI fun O=>?_))
  refine Zb O Z (fun hc1=>?_) (fun hc1=>?_)
  ·have hg:(Nn g.orders i).txs=getO g.orders key:=(Zto hil WE hq).symm
   refine Ya (rZ O (qg 1 102 r1 r1 (qa 102 r1 r1 (qO rr qZ))) V Xav QI fun O=>(Yh (Zl (Zd (Zd (Zl (Zd ?_)))))))
   refine Zx hfr O Z Z Z Kt
  have hne:(Nn g.orders i).key≠key:=WE
  refine Yd (Zf (Za (rZ O (qp r1 (qR rr qZ)) V Xav QI fun O=>?_)))
  replace O:=O.eI 10 i
  obtain ⟨F,O⟩:=O.nM [9,8,4,1,10] QK
  exact ⟨(i+1),F,⟨ow,(fun q h9=>by rcases Yw (YC h9) with h8 | h8;exact hq q h8;rw [h8];exact hne)⟩,O,ow⟩
 have hil:i=g.orders.length:=WI
 have hg:[] = getO g.orders key:=(Zta WZ).symm
 refine Ym (Ze (Ze (Zk (Za (Ya (rZ O (qC qZ) V [4] QK fun O=>Yh ?_))))))
 refine Zx hfr O Z Z Z Kt
theorem Zet (os:List OrdD) (t:TxD) (hs:ZbS os) (ht:t.ops.length≤1000):FnP prog 134 [.sl Zp os,.agg (rTx t)] (.sl Zp (ZcZ t os)):=by
 refine FnP.mk func134 Z ntmps134 Z fun B a w F V hfr O=>?_
 have hso:=hs.1
 have hkt:=ZdD t
 refine Ya (rS O (qx 101 r1 (qC qZ)) V DC QK fun τ O=>?_)
 have O:=X1
 generalize τ 3=v3 at O
 refine Za (Ya (rZ O (qC qZ) V Gq QK fun O=>(Ya (Ya ?_))))
 refine rZ O (qR rr (qu YbS r1 (qJ qZ))) V GX QK fun O=>Ye ?_
 replace O:=O.ent (i:=5) (s':=.pv (.sl Zo (((os.map OrdD.key).take 0).foldl Zdv []))) Z (.nilSl)
 refine Zh (σ:=(Nat)) [0,3,4,14,15] [0,101] (fun s=>[(16,.pv (.int .i64 (s:Int))),(5,.pv (.sl Zo (((os.map OrdD.key).take s).foldl Zdv [])))]) (fun s=>[]) (fun s=>s≤os.length∧(True)) (fun s=>os.length - s) (0) O ⟨rfl,rfl,rfl,rfl,rfl,rfl,rfl,tv⟩ ⟨rfl,rfl,tv⟩ ⟨Yo _,tv⟩ ?_
 clear O;intro i a w F hC O
 have hC:=X3
 obtain ⟨F,O⟩:=O.nM GX QK
 have O:=X2
 obtain ⟨hi,hq⟩:=hC
 have hkl:=ZeW [] ((os.map OrdD.key).take i)
 rw [Yk] at hkl
 simp only [Yn,Yaj] at hkl
 refine Ya (rZ O (qL r2) V [17,16,15,14,5,4,3,0] QK fun O=>Ya ?_)
 refine Zb O Z (fun hc0=>?_) (fun hc0=>?_)
 ·have hil:i<os.length:=WI
  refine Yd (Za (Ya (Ye (Ya (rS O (qy 2 YbS r2 (qf (oR true 2 .t) r1 qz (qf (oH [.int .i64 0,.slice none 0 0] 102) trivial qz (qS 2 102 r2 r1 qZ)))) V [16,15,14,7,5,4,3,0] QI fun τ O=>?_)))))
  have O:=X0
  generalize τ 7=v7 at O
  try simp only [Yf] at O
  refine Za (Zg O (qR rr (qg 0 102 r1 r1 (qa 102 r1 r1 (qf (oP (ZjC _ (Nn os i).key ow) func200 (Args.two .t .t)) r2 qz (qO rr qZ))))) V GX QI Z Z fun a w F O=>Zf (Za ?_))
  refine rZ O (qp r1 (qR rr qZ)) V GX QI fun O=>?_
  replace O:=O.eI 16 i
  replace O:=O.ent (i:=5) (s':=.pv (.sl Zo (((os.map OrdD.key).take (i+1)).foldl Zdv []))) Z ((.sl (by rw [ZN (by simpa using hil),YaC,ZdB hil];rfl)))
  obtain ⟨F,O⟩:=O.nM [15,14,4,3,0,5,16] QK
  exact ⟨(i+1),F,⟨ow,tv⟩,O,ow⟩
 have hil:i=os.length:=WI
 have hk0:(((os.map OrdD.key).take i).foldl Zdv [])=ZbE (os.map OrdD.key):=by rw [hil,YU W5];rfl
 have hk00:=Zfr (os.map OrdD.key)
 rw [YO] at hk00
 refine Ym (Ze (Ze (Zk (Za (Ya (Ya (Zg O (qe 3 101 r1 r1 (qf (oP (ZpZ t false ow) func201 (Args.two (.pagg .t) .cb)) r1 qz (qu YbT r1 (qJ qZ)))) V GY QK Z Z fun a w F O=>?_)))))))
 rw [show ZbE ((t.ops.filter fun o=>false || !o.read).map OpD.key)=Zai t from rfl] at O
 refine Za (Ye ?_)
 replace O:=O.ent (i:=5) (s':=.pv (.sl Zo (((Zai t).take 0).foldl Zdv (ZbE (os.map OrdD.key))))) Z ((.sl hk0))
 refine Zh (σ:=(Nat)) [0,3,4,26,27] [0,101] (fun s=>[(28,.pv (.int .i64 (s:Int))),(5,.pv (.sl Zo (((Zai t).take s).foldl Zdv (ZbE (os.map OrdD.key)))))]) (fun s=>[]) (fun s=>s≤(Zai t).length∧(True)) (fun s=>(Zai t).length - s) (0) O ⟨rfl,rfl,rfl,rfl,rfl,rfl,rfl,tv⟩ ⟨rfl,rfl,tv⟩ ⟨Yo _,tv⟩ ?_
 clear O;intro i a w F hC O
 have hC:=X3
 obtain ⟨F,O⟩:=O.nM GY QK
 have O:=X2
 obtain ⟨hi,hq⟩:=hC
 have hkl:=ZeW (ZbE (os.map OrdD.key)) ((Zai t).take i)
 rw [Yk] at hkl
 refine Ya (rZ O (qL r2) V [29,28,27,26,5,4,3,0] QK fun O=>Ya ?_)
 refine Zb O Z (fun hc1=>?_) (fun hc1=>?_)
 ·have hil:i<(Zai t).length:=WH
  refine Yd (Za (Ya (Ye (Ya (Zg O (qy 1 YbT r2 (qf (oR false 1 .t) r1 qz (qO rr qZ))) V [28,27,26,9,5,4,3,0] QK Z Z fun a w F O=>?_)))))
  try simp only [Yf] at O
  refine Za (Zg O (qR rr (qR rr (qf (oP (ZjC _ (Nn (Zai t) i) ow) func200 (Args.two .t .t)) r2 qz (qO rr qZ)))) V GY QK Z Z fun a w F O=>Zf (Za ?_))
  refine rZ O (qp r1 (qR rr qZ)) V GY QK fun O=>?_
  replace O:=O.eI 28 i
  replace O:=O.ent (i:=5) (s':=.pv (.sl Zo (((Zai t).take (i+1)).foldl Zdv (ZbE (os.map OrdD.key))))) Z ((.sl (by rw [ZN hil,YaC];rfl)))
  obtain ⟨F,O⟩:=O.nM [27,26,4,3,0,5,28] QK
  exact ⟨(i+1),F,⟨ow,tv⟩,O,ow⟩
 have hil:i=(Zai t).length:=WH
 rw [hil,Yy] at O
 rw [show (Zai t).foldl Zdv (ZbE (os.map OrdD.key))=Z4 t os from rfl] at O
 have hdk:(Z4 t os).length≤5000:=by have:=ZeW (ZbE (os.map OrdD.key)) (Zai t);unfold Z4;omega
 refine Ym (Ze (Ze (Zk (Za (Ya (rZ O (qR rr (qO rr qZ)) V [10,5,4,3,0] QK fun O=>(Ya (Ya ?_))))))))
 refine rZ O (qR rr (qu YbT r1 (qJ qZ))) V JV QK fun O=>Ye ?_
 replace O:=O.ent (i:=10) (s':=.pv (.sl Zp (((Z4 t os).take 0).foldl (Zax t os) os))) Z (.refl)
 refine Zh (σ:=(Nat)) [0,3,4,37,38] [0,101] (fun s=>[(39,.pv (.int .i64 (s:Int))),(10,.pv (.sl Zp (((Z4 t os).take s).foldl (Zax t os) os)))]) (fun s=>[]) (fun s=>s≤(Z4 t os).length∧(True)) (fun s=>(Z4 t os).length - s) (0) O ⟨rfl,rfl,rfl,rfl,rfl,rfl,rfl,tv⟩ ⟨rfl,rfl,tv⟩ ⟨Yo _,tv⟩ ?_
 clear O;intro i a w F hC O
 have hC:=X3
 obtain ⟨F,O⟩:=O.nM JV QK
 have O:=X2
 obtain ⟨hi,hq⟩:=hC
 have hdl:=Zmj (t:=t) (os:=os) ((Z4 t os).take i) os
 rw [Yk] at hdl
 refine Ya (rZ O (qL r2) V [40,39,38,37,10,4,3,0] QK fun O=>Ya ?_)
 refine Zb O Z (fun hc2=>?_) (fun hc2=>?_)
 ·have hil:i<(Z4 t os).length:=KM
  have hio:=hil
  have hgl:=Zi7 hs (Nn (Z4 t os) i)
  refine Yd (Za (Ya (Ye (Ya (Zg O (qy 1 YbT r2 (qf (oR false 1 .t) r1 qz (qO rr qZ))) V [39,38,37,12,10,4,3,0] QK Z Z fun a w F O=>?_)))))
  try simp only [Yf] at O
  refine Za (Ya (rZ O (qR rr (qf (oB [(1,.tmp 43)] [.slice none 0 0,.slice none 0 0] [(0,1),(1,1)] (.one Z .t Zaf kr .nil)) r1 qz (qR rr (qf (oP (Zeb ⟨[],os⟩ (Nn (Z4 t os) i)) func20 (Args.two (.conv (.pagg .t) (Ent.paggLe (l:=[.is (.slice none 0 0),.sl Zp os]) (l':=Zi ⟨[],os⟩) ⟨Zay.nilSl,Zay.refl,tv⟩)) .t)) r2 qz (qO rr qZ))))) V [39,38,37,13,12,10,4,3,0] QK fun O=>Ya ?_))
  refine rZ O (qg 1 101 r1 r1 (qa 101 r1 r1 (qR rr (qv 2 101 Z r2 r1 (qw 101 Z r2 r1 (qm Z Z Z Z (qk Z (fun h=>oP (ZdO t.ops (Nn (Z4 t os) i) ow) func197 (Args.two (.w h) (.w h))) r3 qz (qk Z (fun h=>o_gtr (.w h) qi) r2 qz (qf (ZF .t .t) r2 qz qZ))))))))) V [55,39,38,37,13,12,10,4,3,0] QK fun O=>?_
  refine Zb O Z (fun hc3=>?_) (fun hc3=>?_)
  ·have hst9:putGR OrdD.key (⟨(Nn (Z4 t os) i),ZgH (getO os (Nn (Z4 t os) i)) t.id⟩:OrdD) (((Z4 t os).take i).foldl (Zax t os) os) (decide (((⟨(Nn (Z4 t os) i),ZgH (getO os (Nn (Z4 t os) i)) t.id⟩:OrdD)).txs = []))=(((Z4 t os).take (i+1)).foldl (Zax t os) os):=by rw [ZN hio,YaC];show _=Zax t os _ _;unfold Zax Zej;rw [Yg (by have h9:=hc3;unfold wcnt;simpa using h9)]
   refine Zg O (qR rr (qR rr (qR rr (qg 0 101 r1 r1 (qa 101 r1 r1 (qf (oP (ZrL (getO os (Nn (Z4 t os) i)) t.id ow) func202 (Args.two .t .t)) r2 qz (qf (oB [(0,.tmp 57),(1,.tmp 61)] [.int .i64 0,.slice none 0 0] [(0,1),(1,1)] (.one Z .t one_int kr (.one Z .t Zaf kr .nil))) r2 qz (qf (oP (Zeg (((Z4 t os).take i).foldl (Zax t os) os) (⟨(Nn (Z4 t os) i),ZgH (getO os (Nn (Z4 t os) i)) t.id⟩:OrdD) ow) func137 (Args.two .t (.pagg .t))) r2 qz (qO rr qZ))))))))) V JV QK Z Z fun a w F O=>Zf (Za ?_)
   refine rZ O (qp r1 (qR rr qZ)) V JV QK fun O=>?_
   replace O:=O.eI 39 i
   replace O:=O.ent (i:=10) (s':=.pv (.sl Zp (((Z4 t os).take (i+1)).foldl (Zax t os) os))) Z ((.sl hst9))
   obtain ⟨F,O⟩:=O.nM [38,37,4,3,0,10,39] QK
   exact ⟨(i+1),F,⟨ow,tv⟩,O,ow⟩
  have hst9:putGR OrdD.key (⟨(Nn (Z4 t os) i),ZbN (getO os (Nn (Z4 t os) i)) t.id⟩:OrdD) (((Z4 t os).take i).foldl (Zax t os) os) (decide (((⟨(Nn (Z4 t os) i),ZbN (getO os (Nn (Z4 t os) i)) t.id⟩:OrdD)).txs = []))=(((Z4 t os).take (i+1)).foldl (Zax t os) os):=by rw [ZN hio,YaC];show _=Zax t os _ _;unfold Zax Zej;rw [Yb (by have h9:=hc3;unfold wcnt;intro e;simp [e.1,e.2] at h9)]
  refine Zg O (qR rr (qR rr (qR rr (qg 0 101 r1 r1 (qa 101 r1 r1 (qf (oP (ZlH (getO os (Nn (Z4 t os) i)) t.id ow) func203 (Args.two .t .t)) r2 qz (qf (oB [(0,.tmp 65),(1,.tmp 69)] [.int .i64 0,.slice none 0 0] [(0,1),(1,1)] (.one Z .t one_int kr (.one Z .t Zaf kr .nil))) r2 qz (qf (oP (Zeg (((Z4 t os).take i).foldl (Zax t os) os) (⟨(Nn (Z4 t os) i),ZbN (getO os (Nn (Z4 t os) i)) t.id⟩:OrdD) ow) func137 (Args.two .t (.pagg .t))) r2 qz (qO rr qZ))))))))) V JV QK Z Z fun a w F O=>Zf (Za ?_)
  refine rZ O (qp r1 (qR rr qZ)) V JV QK fun O=>?_
  replace O:=O.eI 39 i
  replace O:=O.ent (i:=10) (s':=.pv (.sl Zp (((Z4 t os).take (i+1)).foldl (Zax t os) os))) Z ((.sl hst9))
  obtain ⟨F,O⟩:=O.nM [38,37,4,3,0,10,39] QK
  exact ⟨(i+1),F,⟨ow,tv⟩,O,ow⟩
 have hil:i=(Z4 t os).length:=KM
 refine Ym (Ze (Ze (Zk (Za (Ya (rZ O (qR rr (qO rr qZ)) V [4] QK fun O=>Yh ?_))))))
 refine Zx hfr O Z Z Z (.sl (by rw [hil,Yy];rfl))
theorem Zj4 (g:Zw) (t:TxD) (hs:Za3 g.txs) (ht:t.ops.length≤1000):FnP prog 135 [.agg (Zi g),.agg (rTx t)] (.bool (Zhm g t)):=by
 refine FnP.mk func135 Z ntmps135 Z fun B a w F V hfr O=>?_
 have hsl:=hs.1
 have hnl:∀ x:TxD,x.ops.length≤1000→(ZaC x).length≤1000:=fun x hx=>by have:=Zd1 x.id x.ops x.ops.length;rw [Yy] at this;unfold ZaC;omega
 refine Ya (rS O (qx 101 r1 (qx 102 r1 qB)) V Jj QI fun τ O=>?_)
 have O:=X1
 generalize τ 2=v2,τ 3=v3 at O
 refine Za (Ya (Ya (rZ O (qg 0 101 r1 r1 (qa 101 r1 r1 (qu YbR r1 (qJ qZ)))) V Xa2 QI fun O=>Ye ?_)))
 refine Zh (σ:=(Nat)) [3,4,10,11] [0,101,102] (fun s=>[(12,.pv (.int .i64 (s:Int)))]) (fun s=>[]) (fun s=>s≤g.txs.length∧(∀ q,q<s→Zlc t (Nn g.txs q)=false)) (fun s=>g.txs.length - s) (0) O ⟨rfl,rfl,rfl,rfl,rfl,tv⟩ ⟨rfl,rfl,rfl,tv⟩ ⟨Yo _,fun q hq=>absurd hq (YI q)⟩ ?_
 clear O;intro i a w F hC O
 have hC:=X3
 obtain ⟨F,O⟩:=O.nM Xa2 QI
 have O:=X2
 obtain ⟨hi,hq⟩:=hC
 refine Ya (rZ O (qL r2) V [13,12,11,10,4,3] QI fun O=>Ya ?_)
 refine Zb O Z (fun hc0=>?_) (fun hc0=>?_)
 ·have hil:i<g.txs.length:=WI
  have hio:=hil
  have hqo:=hq
  have hnl2:=hnl (Nn g.txs i) (by have:=hs.at hio;omega)
  refine Yd (Za (Ya (Ye (Ya (rS O (qy 3 YbR r2 (qf (oR true 3 .t) r1 qz (qf (oH [.int .i64 0,.bool false,.slice none 0 0] 103) trivial qz (qS 3 103 r2 r1 qZ)))) V [12,11,10,6,4,3] QJ fun τ O=>?_)))))
  have O:=X0
  generalize τ 6=v6 at O
  try simp only [Yf] at O
  refine Za (Ya (Ya (rZ O (qg 0 103 r1 r1 (qa 103 r1 r1 (qg 0 102 r1 r1 (qa 102 r1 r1 (qf (o_eql .t .t) r2 qz qZ))))) V [20,12,11,10,6,4,3] QJ fun O=>?_)))
  refine Zb O Z (fun hc1=>?_) (fun hc1=>?_)
  ·have hno:Zlc t (Nn g.txs i)=false:=by unfold Zlc;rw [Yq WE,YbA]
   refine Ym (Ze (Zk (Za (rZ O (qp r1 (qR rr qZ)) V Xa2 QJ fun O=>?_))))
   replace O:=O.eI 12 i
   obtain ⟨F,O⟩:=O.nM [11,10,4,3,12] QI
   exact ⟨(i+1),F,⟨ow,(fun q h9=>by rcases Yw (YC h9) with h8 | h8;exact hqo q h8;rw [h8];exact hno)⟩,O,ow⟩
  have hne:(Nn g.txs i).id≠t.id:=WE
  refine Yd (Za (Ya (rZ O (qe 3 103 r1 r1 (qf (oP (Ziz (Nn g.txs i) (by have:=hs.at hio;omega)) func198 (Args.one (.pagg .t))) r1 qz (qu Yb0 r1 (qJ qZ)))) V Gn QJ fun O=>Ye ?_)))
  refine Zh (σ:=(Nat)) [3,4,10,11,12,22,23] [0,101,102,103] (fun s=>[(24,.pv (.int .i64 (s:Int)))]) (fun s=>[]) (fun s=>s≤(ZaC (Nn g.txs i)).length∧(∀ q,q<s→ZnX t (Nn (ZaC (Nn g.txs i)) q)=false)) (fun s=>(ZaC (Nn g.txs i)).length - s) (0) O ⟨rfl,rfl,rfl,rfl,rfl,rfl,rfl,rfl,tv⟩ ⟨rfl,rfl,rfl,rfl,tv⟩ ⟨Yo _,fun q hq=>absurd hq (YI q)⟩ ?_
  clear O;intro j a w F hC O
  have hC:=X3
  obtain ⟨F,O⟩:=O.nM Gn QJ
  have O:=X2
  obtain ⟨hi,hq⟩:=hC
  have hq2:=hq
  refine Ya (rZ O (qL r2) V [25,24,23,22,12,11,10,4,3] QJ fun O=>Ya ?_)
  refine Zb O Z (fun hc2=>?_) (fun hc2=>?_)
  ·have hil:j<(ZaC (Nn g.txs i)).length:=KM
   have hjo:=hil
   refine Yd (Za (Ya (Ye (Ya (rS O (qy 3 Yb0 r2 (qf (oR true 3 .t) r1 qz (qf (oH [.int .i64 0,.int .i64 0,.int .i64 0] 104) trivial qz (qS 3 104 r2 r1 qZ)))) V [24,23,22,12,11,10,8,4,3] QN fun τ O=>?_)))))
   have O:=X0
   generalize τ 8=v8 at O
   try simp only [Yf] at O
   refine Za (Ya (Zr O (qg 0 104 r1 r1 (qa 104 r1 r1 (qg 0 102 r1 r1 (qa 102 r1 r1 (qf (o_eql .t .t) r2 qz (qR rr (qv 2 104 Z r2 r1 (qw 104 Z r2 r1 (qv 2 102 Z r2 r1 (qw 102 Z r2 r1 (qv 1 104 Z r2 r1 (qw 104 Z r2 r1 (qk Z (fun h=>oP (ZdO t.ops (Nn (ZaC (Nn g.txs i)) j).key ow) func197 (Args.two (.w h) (.w h))) r3 qz (qk Z (fun h=>o_gtr (.w h) (.w h)) r3 qz (qf (ZF .t .t) r2 qz qZ))))))))))))))) V [42,24,23,22,12,11,10,4,3] QN Z Z fun a w F O=>?_))
   have O:=Xf
   refine Za (Zb O Z (fun hc3=>?_) (fun hc3=>?_))
   ·have hg:true=Zhm g t:=(Znb hio (by
      have h9:=hc3
      simp at h9
      unfold Zlc
      rw [YA hne,Ybv]
      refine Znb hjo ?_
      unfold ZnX wcnt
      simp [h9.1]
      first | exact h9.2 | (have:=h9.2;omega))).symm
    refine Ya (rZ O qB V Gn QN fun O=>(Yh (Zl (Zd (Zd (Zl (Zl (Zd (Zd (Zl (Zd ?_)))))))))))
    refine Zx hfr O Z Z Z (.bool hg)
   have hnv:ZnX t (Nn (ZaC (Nn g.txs i)) j)=false:=by
     have h9:=hc3
     unfold ZnX wcnt
     simp at h9 ⊢
     first | exact h9 | (intro e;have:=h9 e;omega)
   refine Yd (Zf (Za (rZ O (qp r1 (qR rr qZ)) V Gn QN fun O=>?_)))
   replace O:=O.eI 24 j
   obtain ⟨F,O⟩:=O.nM [23,22,12,11,10,4,3,24] QJ
   exact ⟨(j+1),F,⟨ow,(fun q h9=>by rcases Yw (YC h9) with h8 | h8;exact hq2 q h8;rw [h8];exact hnv)⟩,O,ow⟩
  have hil:j=(ZaC (Nn g.txs i)).length:=KM
  have hno:Zlc t (Nn g.txs i)=false:=by unfold Zlc;rw [ZmF (by rw [← hil];exact hq2),Bool.and_false]
  refine Ym (Ze (Ze (Zk (Zf (Za (rZ O (qp r1 (qR rr qZ)) V Xa2 QJ fun O=>?_))))))
  replace O:=O.eI 12 i
  obtain ⟨F,O⟩:=O.nM [11,10,4,3,12] QI
  exact ⟨(i+1),F,⟨ow,(fun q h9=>by rcases Yw (YC h9) with h8 | h8;exact hqo q h8;rw [h8];exact hno)⟩,O,ow⟩
 have hil:i=g.txs.length:=WI
 have hg:false=Zhm g t:=(ZmF WZ).symm
 refine Ym (Ze (Ze (Zk (Za (Ya (rZ O qB V [4] QI fun O=>Yh ?_))))))
 refine Zx hfr O Z Z Z (.bool hg)
def getL (k:Int):List ZD→Int×Bool
 | []=>(0,false)
 | p :: l=>if p.key=k then (p.val,true) else getL k l
theorem Zdj {k:Int} {m:List ZD} : ∀ {l:List ZD},(∀ p ∈ l,p.key≠k)→getL k (l++m)=getL k m
 | [],_=>rfl
 | p :: l,h=>by rw [Y1,getL,Yb (h p W5),Zdj fun x hx=>h x W7]
theorem Zps {k:Int} {l:List ZD} (h:∀ p ∈ l,p.key≠k):getL k l=(0,false):=by
 have:=Zdj (m:=[]) h
 rwa [YF] at this
theorem ZgL {k:Int} {m:List ZD} (hm:∀ p ∈ m,p.key≠k):∀ l:List ZD,getL k (l++m)=getL k l
 | []=>Zps hm
 | p :: l=>by rw [Y1,getL,getL,ZgL hm l]
theorem Zd6 (k:Int):∀ {t:Zae},Inc (tList t)→Zco k t=getL k (tList t)
 | .nil,_=>rfl
 | .node l p r,h=>by
  obtain ⟨h1,h2,h3,h4⟩:=Inc.parts h
  show _=getL k (tList l++p :: tList r)
  unfold Zco
  split
  ·rename_i hk
   rw [Zd6 k h1,ZgL fun x hx=>by
    rcases Yp.1 hx with rfl | hx
    ·omega
    ·have:=h4 x hx;omega]
  ·rename_i hk
   rw [Zdj fun x hx=>by have:=h3 x hx;omega,getL]
   split
   ·rw [Yb ow,Zd6 k h2]
   ·rw [Yg ow]
theorem Zpj (b:Nat) {q:List Cell} {root:Int} {l:List ZD} (k:Int) (h:ZjP q root l):FnG prog 53 1 [.agg [.is (arV (some b)),.int .i64 root],.int .i64 k] [arH (some b) 65536 q] (.tup [.int .i64 (getL k l).1,.bool (getL k l).2]) (fun _=>[arH (some b) 65536 q]):=by
 obtain ⟨t,ht,hl⟩:=h
 have:=Zsz (some b) 65536 q root k t ht.rep
 rwa [Zd6 k ht.inc,hl] at this
theorem Zgm (b:Nat) {q:List Cell} {root:Int} {l:List ZD} (h:ZjP q root l) (hs:l.length≤1000000):FnG prog 56 1 [.agg [.is (arV (some b)),.int .i64 root]] [arH (some b) 65536 q] (.sl Zt l) (fun _=>[arH (some b) 65536 q]):=by
 obtain ⟨t,ht,hl⟩:=h
 have:=ZoR (some b) 65536 q root t ht.rep (by rw [ZT,hl];omega)
 rwa [hl] at this
theorem sListR_c (b:Nat) {q:List Cell} {c:SqC} {l:List Int} (h:c.av=arV (some b)∧Zbm q c.root l) (hs:l.length≤1000000):FnG prog 57 1 [.agg [.is c.av,.int .i64 c.root]] [arH (some b) 65536 q] (.sl Zo l) (fun _=>[arH (some b) 65536 q]):=by
 obtain ⟨h1,t,ht,hl⟩:=h
 have hv:=Zmh t
 rw [hl] at hv
 have:=ZpR (some b) 65536 q c.root t ht ow
 rw [hl] at this
 rw [h1];exact this
theorem lookR_mem {k:Int} : ∀ {l:List ZD},(getL k l).2=true→(⟨k,(getL k l).1⟩:ZD) ∈ l
 | [],h=>by cases h
 | p :: l,h=>by
  rw [getL] at h ⊢
  split at h
  ·rename_i e;rw [Yg e,← e];exact Yan
  ·rename_i e;rw [Yb e];exact YP _ (lookR_mem h)
theorem Zmk {k:Int} : ∀ {l:List ZD},(getL k l).2=false → ∀ p ∈ l,p.key≠k
 | [],h,p,hp=>by cases hp
 | x :: l,h,p,hp=>by
  rw [getL] at h
  split at h
  ·cases h
  ·rename_i e
   rcases Yp.1 hp with rfl | hp
   ·exact e
   ·exact Zmk h p hp
def hiA (A:StA):Zw:=histA A.all A.seqs A.now
def txA (A:StA) (id:Int):TxD×Bool:=if (getL id A.now.txs).2=true then (Nn A.all (getL id A.now.txs).1.toNat,true) else (zeroT,false)
def Zf7 (A:StA) (k:Int):List Int:=if (getL k A.now.orders).2=true then Nn A.seqs (getL k A.now.orders).1.toNat else []
theorem ZrS {l:List ZD} {all:List TxD} (hv:∀ p ∈ l,(Nn all p.val.toNat).id=p.key) (id:Int):ZaV (l.map fun p=>Nn all p.val.toNat) id=if (getL id l).2=true then some (Nn all (getL id l).1.toNat) else none:=by
 induction l with
 | nil=>rfl
 | cons p l ih=>
  have h1:=hv p Yan
  have h2:=ih fun x hx=>hv x (YP _ hx)
  unfold ZaV at h2 ⊢
  rw [YM,YbI,getL]
  by_cases h:p.key=id
  ·rw [Yg h,YA (by rw [h1];exact h)];rfl
  ·rw [Yb h,Yq (by rw [h1];exact h)];exact h2
theorem Zq0 {A:StA} (hok:Zaz A) (id:Int):txA A id=((ZaV (hiA A).txs id).getD zeroT,(ZaV (hiA A).txs id).isSome):=by
 unfold hiA histA txA
 rw [ZrS (fun p hp=>(hok.okn.tv p hp).2)]
 split <;> rfl
theorem ZnM {A:StA} (k:Int):Zf7 A k=getO (hiA A).orders k:=by
 unfold hiA histA Zf7
 generalize A.now.orders=l
 unfold getO
 induction l with
 | nil=>rfl
 | cons p l ih=>
  rw [getL]
  simp only [YM,YbI]
  by_cases h:p.key=k
  ·simp [h]
  ·simp only [h,Yu,decide_false];exact ih
theorem Zoc {A:StA} {i:Nat} (h:i<A.now.txs.length):(hiA A).txs.take (i+1)=(hiA A).txs.take i ++ [Nn A.all (Nn A.now.txs i).val.toNat]:=by
 have hl:i<(hiA A).txs.length:=by unfold hiA histA;rw [YO];exact h
 rw [ZN hl,Zu hl,Zu h]
 exact Yai (fun x=>_ ++ [x]) (Yaq _)
theorem Zoo {A:StA} {i:Nat} (h:i<A.now.orders.length):(hiA A).orders.take (i+1)=(hiA A).orders.take i ++ [⟨(Nn A.now.orders i).key,Nn A.seqs (Nn A.now.orders i).val.toNat⟩]:=by
 have hl:i<(hiA A).orders.length:=by unfold hiA histA;rw [YO];exact h
 rw [ZN hl,Zu hl,Zu h]
 exact Yai (fun x=>_ ++ [x]) (Yaq _)
theorem ZpE {A:StA} {i:Nat} (h:i=A.now.txs.length):(hiA A).txs.take i=(hiA A).txs:=by rw [YU];unfold hiA histA;rw [YO];omega
theorem Zqr {A:StA} {i:Nat} (h:i=A.now.orders.length):(hiA A).orders.take i=(hiA A).orders:=by rw [YU];unfold hiA histA;rw [YO];omega
theorem Zaz.lens {A:StA} (h:Zaz A):A.now.txs.length≤10000∧A.now.orders.length≤10000:=by
 have h1:=h.now_le
 have h2:=ZcD A.all A.seqs A.now
 omega
theorem Zap.sq {A:StA} {ex:List RtA} {s:StC} (h:Zap A ex s) (hk:Zaz A) {p:ZD} (hp:p ∈ A.now.orders):(Nn s.sr p.val.toNat).av=arV (some s.b)∧Zbm s.q (Nn s.sr p.val.toNat).root (Nn A.seqs p.val.toNat):=by
 have h1:=hk.okn.ov p hp
 refine h.seqs _ ow (.inl ⟨A.now,by simp [rootsA],p,hp,ow⟩)
def unsn (seen:List Nat) (cs:List (GE Int RtC)):Nat:=(cs.filter fun e=>decide (e.born ∉ seen)).length
theorem ZeS {α:Type} {p p':α→Bool} (h:∀ x,p' x=true→p x=true):∀ l:List α,(l.filter p').length≤(l.filter p).length
 | []=>YE _
 | x :: l=>by
  have ih:=ZeS h l
  have hx:=h x
  rw [YaA,YaA]
  cases h1:p' x with
  | true=>rw [hx h1,Yg rfl,Yg rfl,Yl,Yl];omega
  | false=>
   rw [Yb W5]
   split
   ·rw [Yl];omega
   ·exact ih
theorem ZeM {α:Type} {p p':α→Bool} (h:∀ x,p' x=true→p x=true) {e:α} (h1:p e=true) (h2:p' e=false):∀ {l:List α},e ∈ l→(l.filter p').length<(l.filter p).length
 | [],he=>by cases he
 | x :: l,he=>by
  have hle:=ZeS h l
  rw [YaA,YaA]
  rcases Yp.1 he with rfl | he
  ·rw [h1,h2,Yb W5,Yg rfl,Yl];omega
  ·have ih:=ZeM h h1 h2 he
   have hx:=h x
   cases h3:p' x with
   | true=>rw [hx h3,Yg rfl,Yg rfl,Yl,Yl];omega
   | false=>
    rw [Yb W5]
    split
    ·rw [Yl];omega
    ·exact ih
theorem Zpz {seen:List Nat} {e:GE Int RtC} (hs:e.born ∉ seen) {cs:List (GE Int RtC)} (he:e ∈ cs):unsn (seen ++ [e.born]) cs<unsn seen cs:=by
 unfold unsn
 refine ZeM (e:=e) (fun x hx=>?_) ?_ ?_ he
 ·simp only [Yj] at hx ⊢
  exact fun h=>hx (Yaw _ h)
 ·simpa using hs
 ·simp
theorem Zsk {B:Zb3} {E:En} {a:Act} {w:World} {F:Fp} (h:Sat B E a w F) (n:Nat) {mv:Value} {cs:List (GE Int RtC)} {ck:Nat} (hl:Go.Gm.look E.r n=some (.ob (.val mv) (Zox cs ck))):GWf cs ck ∧ ∀ e ∈ cs,∀ w y,(PV.int .i64 e.key).p (.int .i64 e.key) w y:=by
 obtain ⟨_,_,_,_,_,_,_,_,⟨h1,h2⟩,_⟩:=h.obGet n hl
 exact ⟨h1,fun e he w y=>⟨rfl,h2 e he⟩⟩
theorem Zss (b:Nat) (A:StA) (hok:Zaz A) (hfit:ZbR A) (id:Int):FnG prog 11 1 [.is (.pointer (some ⟨b,0,none⟩)),.int .i64 id] [ZO (.pointer (some ⟨b,0,none⟩)) A] (.tup [.agg (rTx (txA A id).1),.bool (txA A id).2]) (fun _=>[ZO (.pointer (some ⟨b,0,none⟩)) A]):=by
 refine FnG.mk func11 Z ntmps11 Z kr fun B F0 a w F V hG O=>?_
 obtain ⟨sc,O⟩:=O.open_ex 1 rfl
 obtain ⟨hk,O⟩:=O.open_and 1 rfl
 obtain ⟨F,O⟩:=O.peel 1 2 Z rfl
 obtain ⟨F,O⟩:=O.peel 1 3 Z rfl
 obtain ⟨F,O⟩:=O.peel 1 4 Z rfl
 obtain ⟨F,O⟩:=O.peel 1 5 Z rfl
 obtain ⟨F,O⟩:=O.peel 1 6 Z rfl
 have O:=X2
 obtain ⟨F,O⟩:=O.nM QL QR
 refine Ya (rS O (qf (oH [.int .i64 0,.bool false,.slice none 0 0] 101) trivial qz qB) V J6 QO fun τ O=>?_)
 have O:=Xo
 generalize τ 4=v4 at O
 refine Za (Ya (Ya (rZ O (qR rr (qf (Zab _ YbW Z .t) r1 qz qZ)) V [9,5,4,1,0] QO fun O=>?_)))
 refine Zb O Z (fun hc0=>?_) (fun hc0=>?_)
 ·simp at hc0
 refine Yd (Za (Ya (rZ O (qR rr (qf (o_nilCheck 2 .is Wd) r1 r1 (qf (oF 1 2 .adr) r1 r1 (qf (oF 0 2 .adr) r1 r1 (qf (oL true 2 2 .adr) r1 r1 (qR rr (qf (o_callG1 3 (Zpj sc.b id hk.now.t) func53 Z kr (Args.two (.pagg .t) .t)) r2 r1 (qR rr (qf (o_extract .t Z) r1 qz (qf (o_extract .t Z) r1 qz (qO rr (qO rr qZ)))))))))))) V [7,6,5,4,0] QO fun O=>(Ya (Ya ?_)))))
 refine rZ O (qR rr (qf (ZW .t) r1 qz qZ)) V [22,6,5,4,0] QO fun O=>?_
 refine Zb O Z (fun hc1=>?_) (fun hc1=>?_)
 ·have hg:txA A id=(zeroT,false):=by unfold txA;rw [Yb];simpa using hc1
  refine Ya (rZ O (qf (oB [] [.int .i64 0,.bool false,.slice none 0 0] [(0,1),(1,1),(2,1)] .nil) trivial qz (qs 3 101 r2 r1 qB)) V Xa7 QO fun O=>(Yh (Zd ?_)))
  have O:=O.fresh 1 rfl
  obtain ⟨F,O⟩:=O.push 1 6 Z Z Z kr
  obtain ⟨F,O⟩:=O.push 1 5 Z Z Z kr
  obtain ⟨F,O⟩:=O.push 1 4 Z Z Z kr
  obtain ⟨F,O⟩:=O.push 1 3 Z Z Z kr
  obtain ⟨F,O⟩:=O.push 1 2 Z Z Z kr
  have O:=O.turn 1 Z (r':=RS.hp (ZO (.pointer (some ⟨b,0,none⟩)) A)) (fun _ _ _ _ h=>⟨sc,hk,h⟩)
  obtain ⟨F,O⟩:=O.nM Xa7 QW
  refine Zz hG O Z (.cl 101 true 3 Z Z (.tmp Z .nil)) (.two WY (.bool Wr)) rfl
 have hl:(getL id A.now.txs).2=true:=WE
 have hg:txA A id=(Nn A.all (getL id A.now.txs).1.toNat,true):=by unfold txA;rw [Yg hl]
 have hv:=(hok.okn.tv _ (lookR_mem hl)).1
 dsimp only at hv
 refine Yd (Za (Ya (Zg O (qR rr (qf (o_nilCheck 2 .is Wd) r1 r1 (qf (oF 8 2 .adr) r1 r1 (qa 2 r1 r1 (qR rr (qf (o_indexAddr_row (sz:=3) 5 (.mk YbR kr) .is .t ow ow Wd) r2 r1 (qf (Zs (ag:=true) (sz':=3) (sz:=3) 5 .t Wt ow kr kr kr) r1 r1 (qf (oP (scopied_c (Nn A.all (getL id A.now.txs).1.toNat) (by have:=hfit.ops _ (ZP (show (getL id A.now.txs).1.toNat<A.all.length by omega));omega)) func54 (Args.one (.pagg .t))) r1 qz (qf (oA 3 101 .is (.conv .t .agg)) r2 r1 qB))))))))) V Jf QO Z Z fun a w F O=>?_)))
 try simp only [Yf] at O
 refine Za (Yh ?_)
 have O:=O.fresh 1 rfl
 obtain ⟨F,O⟩:=O.push 1 6 Z Z Z kr
 obtain ⟨F,O⟩:=O.push 1 5 Z Z Z kr
 obtain ⟨F,O⟩:=O.push 1 4 Z Z Z kr
 obtain ⟨F,O⟩:=O.push 1 3 Z Z Z kr
 obtain ⟨F,O⟩:=O.push 1 2 Z Z Z kr
 have O:=O.turn 1 Z (r':=RS.hp (ZO (.pointer (some ⟨b,0,none⟩)) A)) (fun _ _ _ _ h=>⟨sc,hk,h⟩)
 obtain ⟨F,O⟩:=O.nM Jf QW
 refine Zz hG O Z (.cl 101 true 3 Z Z (.tmp Z .nil)) (.two WY (.bool Wr)) rfl
theorem ZkU (b:Nat) (A:StA) (hok:Zaz A) (hfit:ZbR A) (key:Int):FnG prog 19 1 [.is (.pointer (some ⟨b,0,none⟩)),.int .i64 key] [ZO (.pointer (some ⟨b,0,none⟩)) A] (.sl Zo (Zf7 A key)) (fun _=>[ZO (.pointer (some ⟨b,0,none⟩)) A]):=by
 refine FnG.mk func19 Z ntmps19 Z kr fun B F0 a w F V hG O=>?_
 obtain ⟨sc,O⟩:=O.open_ex 1 rfl
 obtain ⟨hk,O⟩:=O.open_and 1 rfl
 obtain ⟨F,O⟩:=O.peel 1 2 Z rfl
 obtain ⟨F,O⟩:=O.peel 1 3 Z rfl
 obtain ⟨F,O⟩:=O.peel 1 4 Z rfl
 obtain ⟨F,O⟩:=O.peel 1 5 Z rfl
 obtain ⟨F,O⟩:=O.peel 1 6 Z rfl
 have O:=X2
 obtain ⟨F,O⟩:=O.nM QL QR
 refine Ya (rZ O (qC qZ) V J0 QR fun O=>(Ya (Ya ?_)))
 refine rZ O (qR rr (qf (Zab _ YbW Z .t) r1 qz qZ)) V XaM QR fun O=>?_
 refine Zb O Z (fun hc0=>?_) (fun hc0=>?_)
 ·simp at hc0
 refine Yd (Za (Ya (rZ O (qR rr (qf (o_nilCheck 2 .is Wd) r1 r1 (qf (oF 1 2 .adr) r1 r1 (qf (oF 2 2 .adr) r1 r1 (qf (oL true 2 2 .adr) r1 r1 (qR rr (qf (o_callG1 3 (Zpj sc.b key hk.now.o) func53 Z kr (Args.two (.pagg .t) .t)) r2 r1 (qR rr (qf (o_extract .t Z) r1 qz (qf (o_extract .t Z) r1 qz (qO rr (qO rr qZ)))))))))))) V Xa7 QR fun O=>(Ya (Ya ?_)))))
 refine rZ O (qR rr (qf (ZW .t) r1 qz qZ)) V [20,5,4,0] QR fun O=>?_
 refine Zb O Z (fun hc1=>?_) (fun hc1=>?_)
 ·have hg:Zf7 A key = []:=by unfold Zf7;rw [Yb];simpa using hc1
  refine Ya (rZ O (qC qZ) V Jm QR fun O=>(Yh (Zd ?_)))
  have O:=O.fresh 1 rfl
  obtain ⟨F,O⟩:=O.push 1 6 Z Z Z kr
  obtain ⟨F,O⟩:=O.push 1 5 Z Z Z kr
  obtain ⟨F,O⟩:=O.push 1 4 Z Z Z kr
  obtain ⟨F,O⟩:=O.push 1 3 Z Z Z kr
  obtain ⟨F,O⟩:=O.push 1 2 Z Z Z kr
  have O:=O.turn 1 Z (r':=RS.hp (ZO (.pointer (some ⟨b,0,none⟩)) A)) (fun _ _ _ _ h=>⟨sc,hk,h⟩)
  obtain ⟨F,O⟩:=O.nM Jm QL
  refine Zz hG O Z (.tmp Z .nil) (.one Ku) rfl
 have hl:(getL key A.now.orders).2=true:=WE
 have hg:Zf7 A key=Nn A.seqs (getL key A.now.orders).1.toNat:=by unfold Zf7;rw [Yg hl]
 have hm:=lookR_mem hl
 have hv:=hok.okn.ov _ hm
 have hsl:=hk.len
 dsimp only at hv
 refine Yd (Za (Ya (Zg O (qR rr (qf (o_nilCheck 2 .is Wd) r1 r1 (qf (oF 9 2 .adr) r1 r1 (qa 2 r1 r1 (qR rr (qf (o_indexAddr_row (sz:=2) 6 (.mk YbZ kr) .is .t ow ow Wd) r2 r1 (qf (Zs (ag:=true) (sz':=2) (sz:=2) 6 .t Wt ow kr kr kr) r1 r1 (qf (o_callG1 3 (sListR_c sc.b (l:=Nn A.seqs (getL key A.now.orders).1.toNat) (c:=Nn sc.sr (getL key A.now.orders).1.toNat) (hk.sq hok hm) (by have:=hfit.len _ (ZP (show (getL key A.now.orders).1.toNat<A.seqs.length by omega));omega)) func57 Z kr (Args.one (.pagg .t))) r1 r1 (qO rr qZ))))))))) V [4] QR Z Z fun a w F O=>?_)))
 try simp only [Yf] at O
 refine Za (Yh ?_)
 have O:=O.fresh 1 rfl
 obtain ⟨F,O⟩:=O.push 1 6 Z Z Z kr
 obtain ⟨F,O⟩:=O.push 1 5 Z Z Z kr
 obtain ⟨F,O⟩:=O.push 1 4 Z Z Z kr
 obtain ⟨F,O⟩:=O.push 1 3 Z Z Z kr
 obtain ⟨F,O⟩:=O.push 1 2 Z Z Z kr
 have O:=O.turn 1 Z (r':=RS.hp (ZO (.pointer (some ⟨b,0,none⟩)) A)) (fun _ _ _ _ h=>⟨sc,hk,h⟩)
 obtain ⟨F,O⟩:=O.nM [4] QL
 refine Zz hG O Z (.tmp Z .nil) (.one Ku) rfl
theorem Zjg (b:Nat) (A:StA) (hok:Zaz A) (hfit:ZbR A):FnG prog 14 1 [.is (.pointer (some ⟨b,0,none⟩))] [ZO (.pointer (some ⟨b,0,none⟩)) A] (.agg (Zi (hiA A))) (fun _=>[ZO (.pointer (some ⟨b,0,none⟩)) A]):=by
 refine FnG.mk func14 Z ntmps14 Z kr fun B F0 a w F V hG O=>?_
 obtain ⟨sc,O⟩:=O.open_ex 1 rfl
 obtain ⟨hk,O⟩:=O.open_and 1 rfl
 obtain ⟨F,O⟩:=O.peel 1 2 Z rfl
 obtain ⟨F,O⟩:=O.peel 1 3 Z rfl
 obtain ⟨F,O⟩:=O.peel 1 4 Z rfl
 obtain ⟨F,O⟩:=O.peel 1 5 Z rfl
 obtain ⟨F,O⟩:=O.peel 1 6 Z rfl
 have O:=X2
 obtain ⟨F,O⟩:=O.nM [0] QR
 have hlen:=hok.lens
 refine Ya (rS O (qf (oH [.slice none 0 0,.slice none 0 0] 101) trivial qz qZ) V Ju QO fun τ O=>?_)
 have O:=Xo
 generalize τ 2=v2 at O
 refine Za (Ya (rS O (qf (oH [.slice none 0 0,.slice none 0 0] 102) trivial qz qZ) V JR J4 fun τ O=>?_))
 have O:=Xo
 generalize τ 3=v3 at O
 refine Za (Ya (Ya (rZ O (qR rr (qf (Zab _ YbW Z .t) r1 qz qZ)) V [9,3,2,0] J4 fun O=>?_)))
 refine Zb O Z (fun hc0=>?_) (fun hc0=>?_)
 ·simp at hc0
 refine Yd (Za (Ya (Ya (rZ O (qR rr (qf (o_nilCheck 2 .is Wd) r1 r1 (qf (oF 1 2 .adr) r1 r1 (qf (oF 0 2 .adr) r1 r1 (qf (oL true 2 2 .adr) r1 r1 (qf (o_callG1 3 (Zgm sc.b hk.now.t ow) func56 Z kr (Args.one (.pagg .t))) r1 r1 (qu YbX r1 (qJ qZ)))))))) V Dp J4 fun O=>Ye ?_))))
 replace O:=O.fresh 50 rfl
 replace O:=O.turn 50 Z (Zas (T:=36) (sz:=3) (R:=rTx))
 refine Zh (σ:=(Nat)×(Value)×(List TxD)) [0,2,3,16,17] [0,2,3,4,5,6,101] (fun s=>[(18,.pv (.int .i64 (s.1:Int)))]) (fun s=>[(102,.pt (.val v3) 30 [.pv (.is s.2.1),.pv (.is (.slice none 0 0))]),(50,.ob (.val s.2.1) (ZM 36 3 rTx s.2.2))]) (fun s=>s.1≤A.now.txs.length∧(s.2.2=(hiA A).txs.take s.1)) (fun s=>A.now.txs.length - s.1) ((0),(.slice none 0 0),([])) O ⟨rfl,rfl,rfl,rfl,rfl,rfl,tv⟩ ⟨rfl,rfl,rfl,rfl,rfl,rfl,rfl,rfl,rfl,tv⟩ ⟨Yo _,rfl⟩ ?_
 clear O;intro s a w F hC O
 obtain ⟨i,u,out⟩:=s
 have hC:=X3
 obtain ⟨F,O⟩:=O.nM Dp Xaw
 have O:=X2
 obtain ⟨hi,hq⟩:=hC
 have hol:out.length≤i:=by rw [hq,Yk];omega
 refine Ya (rZ O (qL r2) V [19,18,17,16,3,2,0] Xaw fun O=>Ya ?_)
 refine Zb O Z (fun hc1=>?_) (fun hc1=>?_)
 ·have hil:i<A.now.txs.length:=WH
  have hv:=(hok.okn.tv _ (ZP hil)).1
  refine Yd (Za (Ya (Ye (Ya (rS O (qy 2 YbX r2 (qf (oR true 2 .t) r1 qz (qf (oH [.int .i64 0,.int .i64 0] 103) trivial qz (qS 2 103 r2 r1 qZ)))) V [18,17,16,5,3,2,0] Gw fun τ O=>?_)))))
  have O:=X7
  generalize τ 5=v5 at O
  try simp only [Yf] at O
  refine Za (rT O (qg 0 102 r1 r1 (qa 102 r1 r1 (qR rr (qf (o_nilCheck 2 .is Wd) r1 r1 (qf (oF 8 2 .adr) r1 r1 (qa 2 r1 r1 (qg 1 103 r1 r1 (qa 103 r1 r1 (qf (o_indexAddr_row (sz:=3) 5 (.mk YbR kr) .is .t ow ow Wd) r2 r1 (qf (Zs (ag:=true) (sz':=3) (sz:=3) 5 .t Wt ow kr kr kr) r1 r1 (qf (oP (scopied_c (Nn A.all (Nn A.now.txs i).val.toNat) (by have:=hfit.ops _ (ZP (show (Nn A.now.txs i).val.toNat<A.all.length by omega));omega)) func54 (Args.one (.pagg .t))) r1 qz (qf (o_buildSliceE (sz:=3) (zs:=[.int .i64 0,.bool false,.slice none 0 0]) (r:=[(0,.tmp 32)]) (l:=[_,_,_]) YbR kr kr kr kr Z Z (.agg Z (.conv .t .agg) kr kr .nil) Z) r1 qz (qf (o_append (sz:=3) (bs:=40) 50 (.mk' YbR kr kr) Wt .is (.arr (l':=[Nn A.all (Nn A.now.txs i).val.toNat]) .t) Wv We) ⟨rfl,rfl,tv⟩ ⟨rfl,tv⟩ (qg 0 102 r1 r1 (qf (Zbo 102 .adr kr kr) r2 r1 qZ))))))))))))))) V Dp Gw fun τ O=>?_)
  have O:=X7
  generalize τ 34=v34 at O
  try simp only [Yf] at O
  refine Zf (Za (rZ O (qp r1 (qR rr qZ)) V Dp Gw fun O=>?_))
  replace O:=O.eI 18 i
  obtain ⟨F,O⟩:=O.nM [17,16,3,2,0,18] [101,6,5,4,3,2,0,50,102]
  exact ⟨((i+1),_,_),F,⟨ow,(by rw [hq];exact (Zoc hil).symm)⟩,O,ow⟩
 have hil:i=A.now.txs.length:=WH
 obtain ⟨F,O⟩:=O.giveCell 50 102 0 Z Z Z Z rfl
 have O:=XX
 obtain ⟨F,O⟩:=O.nM [19,18,17,16,3,2,0] J4
 rw [hq,ZpE hil] at O
 refine Ym (Ze (Ze (Zk (Za (Ya (Ya (rZ O (qR rr (qf (o_nilCheck 2 .is Wd) r1 r1 (qf (oF 1 2 .adr) r1 r1 (qf (oF 2 2 .adr) r1 r1 (qf (oL true 2 2 .adr) r1 r1 (qf (o_callG1 3 (Zgm sc.b hk.now.o ow) func56 Z kr (Args.one (.pagg .t))) r1 r1 (qu YbX r1 (qJ qZ)))))))) V Dq J4 fun O=>Ye ?_)))))))
 replace O:=O.fresh 51 rfl
 replace O:=O.turn 51 Z (Zas (T:=39) (sz:=2) (R:=Zp))
 refine Zh (σ:=(Nat)×(Value)×(List OrdD)) [0,2,3,42,43] [0,2,3,4,5,6,101] (fun s=>[(44,.pv (.int .i64 (s.1:Int)))]) (fun s=>[(102,.pt (.val v3) 30 [.pv (.sl rTx (hiA A).txs),.pv (.is s.2.1)]),(51,.ob (.val s.2.1) (ZM 39 2 Zp s.2.2))]) (fun s=>s.1≤A.now.orders.length∧(s.2.2=(hiA A).orders.take s.1)) (fun s=>A.now.orders.length - s.1) ((0),(.slice none 0 0),([])) O ⟨rfl,rfl,rfl,rfl,rfl,rfl,tv⟩ ⟨rfl,rfl,rfl,rfl,rfl,rfl,rfl,rfl,rfl,tv⟩ ⟨Yo _,rfl⟩ ?_
 clear O;intro s a w F hC O
 obtain ⟨i,u,out⟩:=s
 have hC:=X3
 obtain ⟨F,O⟩:=O.nM Dq Xax
 have O:=X2
 obtain ⟨hi,hq⟩:=hC
 have hol:out.length≤i:=by rw [hq,Yk];omega
 refine Ya (rZ O (qL r2) V [45,44,43,42,3,2,0] Xax fun O=>Ya ?_)
 refine Zb O Z (fun hc2=>?_) (fun hc2=>?_)
 ·have hil:i<A.now.orders.length:=KM
  have hv:=hok.okn.ov _ (ZP hil)
  have hsl:=hk.len
  refine Yd (Za (Ya (Ye (Ya (rS O (qy 2 YbX r2 (qf (oR true 2 .t) r1 qz (qf (oH [.int .i64 0,.int .i64 0] 104) trivial qz (qS 2 104 r2 r1 qZ)))) V [44,43,42,7,3,2,0] Gx fun τ O=>?_)))))
  have O:=X7
  generalize τ 7=v7 at O
  try simp only [Yf] at O
  refine Za (rT O (qg 1 102 r1 r1 (qa 102 r1 r1 (qg 0 104 r1 r1 (qa 104 r1 r1 (qR rr (qf (o_nilCheck 2 .is Wd) r1 r1 (qf (oF 9 2 .adr) r1 r1 (qa 2 r1 r1 (qg 1 104 r1 r1 (qa 104 r1 r1 (qf (o_indexAddr_row (sz:=2) 6 (.mk YbZ kr) .is .t ow ow Wd) r2 r1 (qf (Zs (ag:=true) (sz':=2) (sz:=2) 6 .t Wt ow kr kr kr) r1 r1 (qf (o_callG1 3 (sListR_c sc.b (c:=Nn sc.sr (Nn A.now.orders i).val.toNat) (hk.sq hok (ZP hil)) (by have:=hfit.len _ (ZP (show (Nn A.now.orders i).val.toNat<A.seqs.length by omega));omega)) func57 Z kr (Args.one (.pagg .t))) r1 r1 (qf (oB [(0,.tmp 51),(1,.tmp 60)] [.int .i64 0,.slice none 0 0] [(0,1),(1,1)] (.one Z .t one_int kr (.one Z .t Zaf kr .nil))) r2 qz (qf (o_buildSliceE (sz:=2) (zs:=[.int .i64 0,.slice none 0 0]) (r:=[(0,.tmp 61)]) (l:=[_,_]) YbS kr kr kr kr Z Z (.agg Z .t kr kr .nil) Z) r1 qz (qf (o_append (sz:=2) (bs:=32) 51 (.mk' YbS kr kr) Wt .is (.arr (l':=[(⟨(Nn A.now.orders i).key,Nn A.seqs (Nn A.now.orders i).val.toNat⟩:OrdD)]) .t) Wv We) ⟨rfl,rfl,tv⟩ ⟨rfl,tv⟩ (qg 1 102 r1 r1 (qf (Zbo 102 .adr kr kr) r2 r1 qZ)))))))))))))))))) V Dq Gx fun τ O=>?_)
  have O:=X7
  generalize τ 63=v63 at O
  try simp only [Yf] at O
  refine Zf (Za (rZ O (qp r1 (qR rr qZ)) V Dq Gx fun O=>?_))
  replace O:=O.eI 44 i
  obtain ⟨F,O⟩:=O.nM [43,42,3,2,0,44] [101,6,5,4,3,2,0,51,102]
  exact ⟨((i+1),_,_),F,⟨ow,(by rw [hq];exact (Zoo hil).symm)⟩,O,ow⟩
 have hil:i=A.now.orders.length:=KM
 obtain ⟨F,O⟩:=O.giveCell 51 102 1 Z Z Z Z rfl
 have O:=XX
 obtain ⟨F,O⟩:=O.nM [45,44,43,42,3,2,0] J4
 rw [hq,Zqr hil] at O
 refine Ym (Ze (Ze (Zk (Za (Ya (rZ O (qe 2 102 r1 r1 (qs 2 101 r2 r1 qZ)) V [2] J4 fun O=>Yh ?_))))))
 have O:=O.fresh 1 rfl
 obtain ⟨F,O⟩:=O.push 1 6 Z Z Z kr
 obtain ⟨F,O⟩:=O.push 1 5 Z Z Z kr
 obtain ⟨F,O⟩:=O.push 1 4 Z Z Z kr
 obtain ⟨F,O⟩:=O.push 1 3 Z Z Z kr
 obtain ⟨F,O⟩:=O.push 1 2 Z Z Z kr
 have O:=O.turn 1 Z (r':=RS.hp (ZO (.pointer (some ⟨b,0,none⟩)) A)) (fun _ _ _ _ h=>⟨sc,hk,h⟩)
 obtain ⟨F,O⟩:=O.nM [2] QP
 refine Zz hG O Z (.cl 101 true 2 Z Z .nil) (.one (.aggU Z Z)) rfl
theorem ZmY (b:Nat) (A:StA) (hok:Zaz A) (hfit:ZbR A):FnG prog 15 1 [.is (.pointer (some ⟨b,0,none⟩))] [ZO (.pointer (some ⟨b,0,none⟩)) A] (.int .i64 (ZaT A)) (fun _=>[ZO (.pointer (some ⟨b,0,none⟩)) A]):=by
 refine FnG.mk func15 Z ntmps15 Z kr fun B F0 a w F V hG O=>?_
 obtain ⟨sc,O⟩:=O.open_ex 1 rfl
 obtain ⟨hk,O⟩:=O.open_and 1 rfl
 obtain ⟨F,O⟩:=O.peel 1 2 Z rfl
 obtain ⟨F,O⟩:=O.peel 1 3 Z rfl
 obtain ⟨F,O⟩:=O.peel 1 4 Z rfl
 obtain ⟨F,O⟩:=O.peel 1 5 Z rfl
 obtain ⟨F,O⟩:=O.peel 1 6 Z rfl
 have O:=X2
 obtain ⟨F,O⟩:=O.nM [0] QR
 have hnz:=hk.now.s
 obtain ⟨hwf,hKI⟩:=Zsk O 4 rfl
 refine Ya (rZ O (qI qZ) V Ju QR fun O=>(Ya (Ya ?_)))
 refine rZ O (qR rr (qf (Zab _ YbW Z .t) r1 qz qZ)) V [7,2,0] QR fun O=>?_
 refine Zb O Z (fun hc0=>?_) (fun hc0=>?_)
 ·simp at hc0
 refine Yd (Za (Ya (rZ O (qR rr (qf (o_nilCheck 2 .is Wd) r1 r1 (qf (oF 1 2 .adr) r1 r1 (qf (oF 4 2 .adr) r1 r1 (qa 2 r1 r1 (qO rr qZ)))))) V JR QR fun O=>(Ya (Ya ?_)))))
 refine rS O (qR rr (qf (o_nilCheck 2 .is Wd) r1 r1 (qf (oF 6 2 .adr) r1 r1 (qa 2 r1 r1 (qf (Znd 4 101 Yb3 .is) r1 r1 qZ))))) V Xay QO fun τ O=>?_
 have O:=XC
 generalize τ 17=v17 at O
 refine Za (Ye ?_)
 replace O:=O.ent (i:=3) (s':=.pv (.int .i64 (A.now.size+Zao [] sc.cs))) Z (.int Kv)
 refine Zh (σ:=List Nat) [2,17] [0,2,3,4,5,6] (fun s=>[(3,.pv (.int .i64 (A.now.size+Zao s sc.cs)))]) (fun s=>[(101,.ob (.val v17) (iterM sc.mv sc.ck s))]) (fun s=>True) (fun s=>unsn s sc.cs) ([]) O ⟨rfl,rfl,rfl,tv⟩ ⟨rfl,rfl,rfl,rfl,rfl,rfl,rfl,tv⟩ trivial ?_
 clear O;intro seen a w F hC O
 have hC:=X3
 obtain ⟨F,O⟩:=O.nM Xay QO
 have O:=X2
 refine Ya (rS O (qf (ZpJ 101 4 .is) r1 r2 (qf (Zp4 101 We) qz r1 qZ)) V Dk QO fun τ O=>?_)
 have O:=XP
 generalize τ 18=v18 at O
 refine Za (Ya (Zb O Z (fun hc1=>?_) (fun hc1=>?_)))
 ·obtain ⟨e,he,hns,O⟩:=O.nextTrue 101 rfl hc1
  obtain ⟨F,O⟩:=O.nM Dk QO
  refine Yd (Za (Ye (Ya (rS O (qf (Znk (kp:=.int .i64 e.key) 101 4 he (hKI e he) .is) r1 r2 (qf (o_extract .t Z) r1 qz (qf (oH [.pointer none,.int .i64 0,.pointer none,.int .i64 0,.int .i64 0] 102) trivial qz (qf (oA 5 102 .same (.conv .t .agg)) r2 r1 qZ)))) V [17,5,3,2] J4 fun τ O=>?_))))
  have O:=Xp
  generalize τ 5=v5 at O
  refine Za (Zg O (qR rr (qg 4 102 r1 r1 (qa 102 r1 r1 (qf (o_add .t .t) r2 qz (qO rr qZ))))) V Xay J4 Z Z fun a w F O=>Zf (Za ?_))
  replace O:=O.ent (i:=3) (s':=.pv (.int .i64 (A.now.size+Zao (seen ++ [e.born]) sc.cs))) Z (.int Kw)
  obtain ⟨F,O⟩:=O.nM [17,2,3] [6,5,4,3,2,0,101]
  exact ⟨(seen ++ [e.born]),F,tv,O,Zpz hns he⟩
 obtain ⟨hall,O⟩:=O.nextFalse 101 rfl hc1
 obtain ⟨F,O⟩:=O.nM Dk QO
 refine Ym (Ze (Ze (Zk (Za (Ya (rZ O (qR rr (qO rr qZ)) V [2] QO fun O=>Yh ?_))))))
 have O:=O.fresh 1 rfl
 obtain ⟨F,O⟩:=O.push 1 6 Z Z Z kr
 obtain ⟨F,O⟩:=O.push 1 5 Z Z Z kr
 obtain ⟨F,O⟩:=O.push 1 4 Z Z Z kr
 obtain ⟨F,O⟩:=O.push 1 3 Z Z Z kr
 obtain ⟨F,O⟩:=O.push 1 2 Z Z Z kr
 have O:=O.turn 1 Z (r':=RS.hp (ZO (.pointer (some ⟨b,0,none⟩)) A)) (fun _ _ _ _ h=>⟨sc,hk,h⟩)
 obtain ⟨F,O⟩:=O.nM [2] QW
 refine Zz hG O Z (.tmp Z .nil) (.one (.int (hk.held_all hok hall))) rfl
section
variable {P:Program} {ty:TypeId} {pos:String} {af:Array Edge} {g:Option (Nat×Bool)} {ps:List (Nat×SF)}
theorem OpC.res2 {o:Oper} {q:SF} {n m:Nat} {r r' r2 r2' s s' s2 s2':RS} (h:OpC P o ⟨ps,[(n,r),(m,s)],q,[(n,r2),(m,s2)]⟩) (hr:∀ τ w fb y,r'.holds τ w fb y→r.holds τ w fb y) (hq:∀ τ w fb y,r2.holds τ w fb y→r2'.holds τ w fb y) (hr2:∀ τ w fb y,s'.holds τ w fb y→s.holds τ w fb y) (hq2:∀ τ w fb y,s2.holds τ w fb y→s2'.holds τ w fb y):OpC P o ⟨ps,[(n,r'),(m,s')],q,[(n,r2'),(m,s2')]⟩:=fun a w F K Q hw hs hp ht=>
 h a w F K Q hw hs (fun x hx=>by
  simp only [Yp,YaF,Ya8] at hx
  rcases hx with rfl | rfl
  ·exact hr _ _ _ _ (hp (n,r') W5)
  ·exact hr2 _ _ _ _ (hp (m,s') W5)) (fun v w' F' h1 h2 h3 h4=>ht v w' F' h1 h2 h3 (fun x hx=>by
  simp only [Yp,YaF,Ya8] at hx
  rcases hx with rfl | rfl
  ·exact hq _ _ _ _ (h4 (n,r2) W5)
  ·exact hq2 _ _ _ _ (h4 (m,s2) W5)))
theorem ZjB {f:FuncId} {args:Array Operand} {tys:Array TypeId} {d':Nat} {avs:List PV} {T:TypeId} {cells cells':List CF} {v u:Value} {k k':Value→HP} {q:PV} {fn:Func} (n m:Nat) (hd:Zem (cdeps cells)=true) (hd':Zem (cdeps cells')=true)
    (hc : FnG P f 2 avs [Ztb T cells v, k u] q (fun _ => [Ztb T cells' v, k' u])) (hf : P.funcs[f]? = some fn) (hb : fn.body.isSome = true) (hn : (fn.name == "runtime.NumGoroutine") = false) (hne : Nat.beq n m = false)
    (ha:∀ (a:Act) w y,Hps ps (Act.tau a) w y → ∃ vs:List Value,args.map a.eval=vs.toArray∧PVt avs vs w y) :
    OpC P ⟨some d',.call { callee:=.value (.func f),args:=args,argTypes:=tys },ty,pos,af,g⟩ ⟨ps,[(n,.pt (.val v) T cells),(m,.ob (.val u) k)],.pv q,[(n,.pt (.val v) T cells'),(m,.ob (.val u) k')]⟩:=
  OpC.res2 (o_callG2c n m hc hf hb hn hne ha) (fun τ w fb y h=>ZsD hd τ w fb y h) (fun τ w fb y h=>Zsn hd' τ w fb y h) (fun _ _ _ _ h=>h) (fun _ _ _ _ h=>h)
def ZgU (r:RS):Prop:=∀ (τ τ':Tau) (w w':World) (f f' y y':Ys),r.holds τ w f y→r.holds τ' w' f' y' → (∀ c,f c ↔ f' c) ∧ ∀ c,f c→w'.heap[c]? = w.heap[c]?
theorem OpC.still {o:Oper} {q:SF} {pr:List (Nat×RS)} (h:OpC P o ⟨ps,pr,q,pr⟩) (hx:∀ x ∈ pr,ZgU x.2):OpC P o ⟨ps,pr,q,[]⟩:=fun a w F K Q hw hs hp ht=>
 h a w F K Q hw hs hp fun v w' F' h1 h2 h3 h4=>by
  have hF:F' = F:=by
   funext n c
   by_cases hn:n ∈ pr.map (·.1)
   ·obtain ⟨x,hm,rfl⟩:=YG.1 hn
    exact propext ((hx x hm _ _ _ _ _ _ _ _ (hp x hm) (h4 x hm)).1 c).symm
   ·exact congrFun (h2.fkeep n hn) c
  subst hF
  refine ht v w' F' h1 ⟨h2.os,h2.tape,h2.output,h2.size,fun b hb _=>?_,fun _ _=>rfl,fun n hn=>by cases hn⟩ h3 (fun x hx=>by cases hx)
  by_cases hm:∃ x ∈ pr,F' x.1 b
  ·obtain ⟨x,hm,hb2⟩:=hm
   exact (hx x hm _ _ _ _ _ _ _ _ (hp x hm) (h4 x hm)).2 b hb2
  ·refine h2.keep b hb fun n hn hb2=>?_
   obtain ⟨x,hx2,rfl⟩:=YG.1 hn
   exact hm ⟨x,hx2,hb2⟩
def Zf4 (p:PV):Prop:=∃ u,∀ w y v,p.p v w y→v=u
theorem Zhz:∀ {l:List PV},(∀ p ∈ l,Zf4 p) → ∃ us:List Value,∀ w y vs,PVs l vs w y→vs=us
 | [],_=>⟨[],fun w y vs h=>by cases vs with | nil=>rfl | cons v vs=>exact h.elim⟩
 | p :: l,h=>by
  obtain ⟨u,hu⟩:=h p Yan
  obtain ⟨us,hus⟩:=Zhz fun q hq=>h q (YP _ hq)
  refine ⟨u :: us,fun w y vs k=>?_⟩
  cases vs with
  | nil=>exact k.elim
  | cons v vs=>rw [hu w y v k.1.2,hus w y vs k.2]
theorem ZpC {l:List PV} (h:∀ p ∈ l,Zf4 p):Zf4 (.agg l):=by
 obtain ⟨us,hus⟩:=Zhz h
 exact ⟨.agg us.toArray,fun w y v ⟨vs,e,k⟩=>by rw [e,hus w y vs k]⟩
theorem exact_is (v:Value):Zf4 (.is v):=⟨v,fun _ _ _ h=>h.1⟩
theorem exact_int (k:IntKind) (x:Int):Zf4 (.int k x):=⟨.int k x,fun _ _ _ h=>h.1⟩
theorem ZrG {v:Value} {T:TypeId} {l:List PV} (h:∀ p ∈ l,Zf4 p):ZgU (.pt (.val v) T (l.map CF.pv)):=by
 obtain ⟨us,hus⟩:=Zhz h
 have key:∀ {l:List PV} {τ:Tau} {w:World} {y:Ys} {vs:List Value},CFs τ w y (l.map CF.pv) vs→PVs l vs w y:=by
  intro l
  induction l with
  | nil=>intro τ w y vs k;cases vs with | nil=>trivial | cons v vs=>exact k.elim
  | cons p l ih=>intro τ w y vs k;cases vs with | nil=>exact k.elim | cons v vs=>exact ⟨k.1,ih k.2⟩
 intro τ τ' w w' f f' y y' ⟨b,vs,e,hb,hf,hc⟩ ⟨b',vs',e',hb',hf',hc'⟩
 have eb:b=b':=by
  have:=e.symm.trans e'
  simpa using this
 subst eb
 have ev:vs=vs':=by
  have h1:=hus _ _ _ (key hc)
  have h2:=hus _ _ _ (key hc')
  exact Array.toList_inj.1 (h1.trans h2.symm)
 refine ⟨fun c=>(hf c).trans (hf' c).symm,fun c hc9=>?_⟩
 rw [(hf c).1 hc9,hb,hb',ev]
theorem ZgP {κ ν:Type} [DecidableEq κ] {ek:ν→PV} {ok:κ→Prop} {kv:κ→Value} {es:List (GE κ ν)} {ck:Nat} {u:Value} (h:∀ c,Zf4 (ek c)):ZgU (.ob (.val u) (mapG ek ok kv es ck)):=by
 have key:∀ {es:List (GE κ ν)},∃ rs0:List (GE κ Value),∀ {w:World} {y:Ys} {rs:List (GE κ Value)},GR ek es rs w y→rs=rs0:=by
  intro es
  induction es with
  | nil=>exact ⟨[],fun {w y rs} k=>by cases rs with | nil=>rfl | cons r rs=>exact k.elim⟩
  | cons e es ih=>
   obtain ⟨rs0,h0⟩:=ih
   obtain ⟨u0,hu0⟩:=h e.val
   refine ⟨⟨e.key,u0,e.born⟩ :: rs0,fun {w y rs} k=>?_⟩
   cases rs with
   | nil=>exact k.elim
   | cons r rs=>
    obtain ⟨⟨k1,k2,k3⟩,k4⟩:=k
    rw [h0 k4]
    cases r
    simp only at k1 k2 k3
    rw [← k1,← k2,hu0 _ _ _ k3]
 obtain ⟨rs0,h0⟩:=key (es:=es)
 intro τ τ' w w' f f' y y' ⟨b,rs,e,hb,hg,_,hf⟩ ⟨b',rs',e',hb',hg',_,hf'⟩
 have eb:b=b':=by
  have:=e.symm.trans e'
  simpa using this
 subst eb
 refine ⟨fun c=>(hf c).trans (hf' c).symm,fun c hc9=>?_⟩
 rw [(hf c).1 hc9,hb,hb',h0 hg,h0 hg']
theorem Zjs (c:RtC):Zf4 (.agg (rRt c)):=ZpC fun p hp=>by
 simp only [rRt,Yp,YaF,Ya8] at hp
 rcases hp with rfl | rfl | rfl | rfl | rfl <;> first | exact exact_is _ | exact exact_int _ _
theorem Zjt {v:Value} {T:TypeId} {v1 v2 v3 v4 v5 v6:Value} {i1 i2 i3 i4:Int} : ZgU (.pt (.val v) T [.pv (.is v1),.pv (.is v2),.pv (.int .i64 i1),.pv (.is v3),.pv (.int .i64 i2),.pv (.int .i64 i3),.pv (.is v4),.pv (.int .i64 i4),.pv (.is v5),.pv (.is v6)]):=
 ZrG (l:=[.is v1,.is v2,.int .i64 i1,.is v3,.int .i64 i2,.int .i64 i3,.is v4,.int .i64 i4,.is v5,.is v6]) fun p hp=>by
  simp only [Yp,YaF,Ya8] at hp
  rcases hp with rfl | rfl | rfl | rfl | rfl | rfl | rfl | rfl | rfl | rfl <;> first | exact exact_is _ | exact exact_int _ _
theorem Zhs {n m:Nat} {r s:RS} (h1:ZgU r) (h2:ZgU s):∀ x ∈ [(n,r),(m,s)],ZgU x.2:=fun x hx=>by
 simp only [Yp,YaF,Ya8] at hx
 rcases hx with rfl | rfl
 ·exact h1
 ·exact h2
theorem Ent.rt {c:RtC} {v:Value} (h:c.av=v):Ent (.pv (.agg [.is v,.int .i64 c.tr,.is v,.int .i64 c.or,.int .i64 c.size])) (.pv (.agg (rRt c))):=by subst h;exact fun _ _ _ _ h=>h
end
theorem ZgV (b:Nat) (A:StA) (hok:Zaz A) (hfit:ZbR A) (sc:StC) (hk:Zap A [] sc):FnG prog 15 2 [.is (.pointer (some ⟨b,0,none⟩))] [Ztb 97 [.pv (.is (arV (some sc.b))),.pv (.is (arV (some sc.b))),.pv (.int .i64 sc.c.tr),.pv (.is (arV (some sc.b))),.pv (.int .i64 sc.c.or),.pv (.int .i64 sc.c.size),.pv (.is sc.mv),.pv (.int .i64 A.next),.pv (.is sc.alv),.pv (.is sc.sqv)] (.pointer (some ⟨b,0,none⟩)),Zox sc.cs sc.ck sc.mv] (.int .i64 (ZaT A)) (fun _=>[Ztb 97 [.pv (.is (arV (some sc.b))),.pv (.is (arV (some sc.b))),.pv (.int .i64 sc.c.tr),.pv (.is (arV (some sc.b))),.pv (.int .i64 sc.c.or),.pv (.int .i64 sc.c.size),.pv (.is sc.mv),.pv (.int .i64 A.next),.pv (.is sc.alv),.pv (.is sc.sqv)] (.pointer (some ⟨b,0,none⟩)),Zox sc.cs sc.ck sc.mv]):=by
 refine FnG.mk func15 Z ntmps15 Z kr fun B F0 a w F V hG O=>?_
 have hnz:=hk.now.s
 have O:=O.turn 1 Z (r':=.pt (.val (.pointer (some ⟨b,0,none⟩))) 97 [.pv (.is (arV (some sc.b))),.pv (.is (arV (some sc.b))),.pv (.int .i64 sc.c.tr),.pv (.is (arV (some sc.b))),.pv (.int .i64 sc.c.or),.pv (.int .i64 sc.c.size),.pv (.is sc.mv),.pv (.int .i64 A.next),.pv (.is sc.alv),.pv (.is sc.sqv)]) (fun τ w f y h=>Zsn Z τ w f y h)
 have O:=O.turn 2 Z (r':=.ob (.val sc.mv) (Zox sc.cs sc.ck)) (fun _ _ _ _ h=>h)
 obtain ⟨F,O⟩:=O.nM [0] Jq
 obtain ⟨hwf,hKI⟩:=Zsk O 2 rfl
 refine Ya (rZ O (qI qZ) V Ju Jq fun O=>(Ya (Ya ?_)))
 refine rZ O (qR rr (qf (Zab _ YbW Z .t) r1 qz qZ)) V [7,2,0] Jq fun O=>?_
 refine Zb O Z (fun hc0=>?_) (fun hc0=>?_)
 ·simp at hc0
 refine Yd (Za (Ya (rZ O (qR rr (qf (o_nilCheck 1 .is Wd) r1 r1 (qf (oF 1 1 .adr) r1 r1 (qf (oF 4 1 .adr) r1 r1 (qa 1 r1 r1 (qO rr qZ)))))) V JR Jq fun O=>(Ya (Ya ?_)))))
 refine rS O (qR rr (qf (o_nilCheck 1 .is Wd) r1 r1 (qf (oF 6 1 .adr) r1 r1 (qa 1 r1 r1 (qf (Znd 2 101 Yb3 .is) r1 r1 qZ))))) V Xay Dl fun τ O=>?_
 have O:=XC
 generalize τ 17=v17 at O
 refine Za (Ye ?_)
 replace O:=O.ent (i:=3) (s':=.pv (.int .i64 (A.now.size+Zao [] sc.cs))) Z (.int Kv)
 refine Zh (σ:=List Nat) [2,17] [0,1,2] (fun s=>[(3,.pv (.int .i64 (A.now.size+Zao s sc.cs)))]) (fun s=>[(101,.ob (.val v17) (iterM sc.mv sc.ck s))]) (fun s=>True) (fun s=>unsn s sc.cs) ([]) O ⟨rfl,rfl,rfl,tv⟩ ⟨rfl,rfl,rfl,rfl,tv⟩ trivial ?_
 clear O;intro seen a w F hC O
 have hC:=X3
 obtain ⟨F,O⟩:=O.nM Xay Dl
 have O:=X2
 refine Ya (rS O (qf (ZpJ 101 2 .is) r1 r2 (qf (Zp4 101 We) qz r1 qZ)) V Dk Dl fun τ O=>?_)
 have O:=XP
 generalize τ 18=v18 at O
 refine Za (Ya (Zb O Z (fun hc1=>?_) (fun hc1=>?_)))
 ·obtain ⟨e,he,hns,O⟩:=O.nextTrue 101 rfl hc1
  obtain ⟨F,O⟩:=O.nM Dk Dl
  refine Yd (Za (Ye (Ya (rS O (qf (Znk (kp:=.int .i64 e.key) 101 2 he (hKI e he) .is) r1 r2 (qf (o_extract .t Z) r1 qz (qf (oH [.pointer none,.int .i64 0,.pointer none,.int .i64 0,.int .i64 0] 102) trivial qz (qf (oA 5 102 .same (.conv .t .agg)) r2 r1 qZ)))) V [17,5,3,2] DJ fun τ O=>?_))))
  have O:=Xp
  generalize τ 5=v5 at O
  refine Za (Zg O (qR rr (qg 4 102 r1 r1 (qa 102 r1 r1 (qf (o_add .t .t) r2 qz (qO rr qZ))))) V Xay DJ Z Z fun a w F O=>Zf (Za ?_))
  replace O:=O.ent (i:=3) (s':=.pv (.int .i64 (A.now.size+Zao (seen ++ [e.born]) sc.cs))) Z (.int Kw)
  obtain ⟨F,O⟩:=O.nM [17,2,3] [2,1,0,101]
  exact ⟨(seen ++ [e.born]),F,tv,O,Zpz hns he⟩
 obtain ⟨hall,O⟩:=O.nextFalse 101 rfl hc1
 obtain ⟨F,O⟩:=O.nM Dk Dl
 refine Ym (Ze (Ze (Zk (Za (Ya (rZ O (qR rr (qO rr qZ)) V [2] Dl fun O=>Yh ?_))))))
 have O:=O.turn 1 Z (r':=RS.hp (Ztb 97 [.pv (.is (arV (some sc.b))),.pv (.is (arV (some sc.b))),.pv (.int .i64 sc.c.tr),.pv (.is (arV (some sc.b))),.pv (.int .i64 sc.c.or),.pv (.int .i64 sc.c.size),.pv (.is sc.mv),.pv (.int .i64 A.next),.pv (.is sc.alv),.pv (.is sc.sqv)] (.pointer (some ⟨b,0,none⟩)))) (fun τ w f y h=>ZsD Z τ w f y h)
 have O:=O.turn 2 Z (r':=RS.hp (Zox sc.cs sc.ck sc.mv)) (fun _ _ _ _ h=>h)
 obtain ⟨F,O⟩:=O.nM [2] Jq
 refine Zll hG O Z (.tmp Z .nil) (.one (.int (hk.held_all hok hall))) Z rfl
def ZbZ (A:StA):StA×Int×Int:=if ZaT A+A.now.size > 10000 then (A,0,2) else (⟨A.now,A.snaps ++ [(A.next,A.now)],A.next+1,A.all,A.seqs⟩,A.next,0)
def ZcQ (A:StA) (n:Int):Option (Int×RtA):=A.snaps.find? fun x=>decide (x.1=n)
def Zcf (A:StA) (n:Int):StA×Int:=match ZcQ A n with
 | none=>(A,3)
 | some x=>if ZaT A - A.now.size+x.2.size > 10000 then (A,2) else (⟨x.2,A.snaps,A.next,A.all,A.seqs⟩,0)
def ZcI (A:StA) (n:Int):StA×Int:=match ZcQ A n with
 | none=>(A,3)
 | some _=>(⟨A.now,A.snaps.filter fun x=>!decide (x.1=n),A.next,A.all,A.seqs⟩,0)
theorem ZbC {A:StA} {n:Int} {x:Int×RtA} (h:ZcQ A n=some x):x ∈ A.snaps∧x.1=n:=⟨List.mem_of_find?_eq_some h,by have:=List.find?_some h;simpa using this⟩
theorem ZnU {A:StA} {n:Int} (h:ZcQ A n=none):∀ x ∈ A.snaps,x.1≠n:=fun x hx e=>by
 unfold ZcQ at h
 rw [YaV] at h
 exact h x hx (by simp [e])
theorem Zap.find {A:StA} {ex:List RtA} {s:StC} (h:Zap A ex s) (n:Int):(gGet n s.cs).isSome=(ZcQ A n).isSome:=by
 rw [Yaa,Zdp,h.keys]
 unfold ZcQ
 rw [List.find?_isSome]
 simp
theorem Zap.found {A:StA} {ex:List RtA} {s:StC} (h:Zap A ex s) {n:Int} {x:Int×RtA} (hx:ZcQ A n=some x):∃ c,gGet n s.cs=some c∧Zch s.q (arV (some s.b)) c x.2:=by
 obtain ⟨h1,h2⟩:=ZbC hx
 obtain ⟨c,hc,hr⟩:=h.snaps x h1
 exact ⟨c,by rw [← h2];exact hc,hr⟩
theorem ZcA.mono {rs rs':List RtA} {n i:Nat} (h:ZcA rs n i) (hs:∀ r ∈ rs,r ∈ rs'):ZcA rs' n i:=h.imp (fun ⟨r,hr,p,hp,e⟩=>⟨r,hs r hr,p,hp,e⟩) fun h=>h
theorem Zaz.next_new {A:StA} (h:Zaz A):A.next ∉ A.snaps.map (·.1):=fun hm=>by
 obtain ⟨x,hx,e⟩:=YG.1 hm
 have:=(h.oks x hx).2.2
 omega
theorem Zap.keep {A:StA} {s:StC} (h:Zap A [] s) (hk:Zaz A) (ck:Nat):Zap ⟨A.now,A.snaps ++ [(A.next,A.now)],A.next+1,A.all,A.seqs⟩ [] ⟨s.b,s.q,s.c,(gPut A.next s.c (s.cs,s.ck)).1,ck,s.mv,s.alv,s.sqv,s.sr⟩:=by
 have hn:A.next ∉ s.cs.map (·.key):=by rw [h.keys];exact hk.next_new
 refine ⟨h.now,?_,fun x hx=>?_,h.len,fun i hi hl=>h.seqs i hi (hl.mono fun r hr=>?_)⟩
 ·show (gPut A.next s.c (s.cs,s.ck)).1.map (·.key)=_
  rw [Zkz,Yb hn,h.keys,YZ];rfl
 ·show ∃ c,gGet x.1 (gPut A.next s.c (s.cs,s.ck)).1=some c∧_
  rw [Zfh]
  rcases YH.1 hx with hx | hx
  ·have h1:x.1≠A.next:=fun e=>by have:=(hk.oks x hx).2.2;omega
   rw [Yb h1];exact h.snaps x hx
  ·rw [Yr.1 hx,Yg rfl]
   exact ⟨s.c,rfl,h.now⟩
 ·simp only [rootsA,YZ,YM,List.map_nil,YF,Yp,YH] at hr ⊢
  rcases hr with hr | hr | hr | hr
  ·exact .inl hr
  ·exact .inr hr
  ·exact .inl hr
  ·cases hr
theorem Zap.back {A:StA} {s:StC} (h:Zap A [] s) {n:Int} {x:Int×RtA} {c:RtC} (hx:ZcQ A n=some x) (hr:Zch s.q (arV (some s.b)) c x.2):Zap ⟨x.2,A.snaps,A.next,A.all,A.seqs⟩ [] ⟨s.b,s.q,c,s.cs,s.ck,s.mv,s.alv,s.sqv,s.sr⟩:=
 ⟨hr,h.keys,h.snaps,h.len,fun i hi hl=>h.seqs i hi (hl.mono fun r hr=>by
  have h1:x.2 ∈ A.snaps.map (·.2):=YG.2 ⟨x,(ZbC hx).1,rfl⟩
  simp only [rootsA,YF,Yp] at hr ⊢
  rcases hr with rfl | hr
  ·exact .inr h1
  ·exact .inr hr)⟩
theorem Zap.drop {A:StA} {s:StC} (h:Zap A [] s) (hk:Zaz A) (n:Int):Zap ⟨A.now,A.snaps.filter fun x=>!decide (x.1=n),A.next,A.all,A.seqs⟩ [] ⟨s.b,s.q,s.c,gDel n s.cs,s.ck,s.mv,s.alv,s.sqv,s.sr⟩:=by
 have hd:∀ cs:List (GE Int RtC),GNd cs→(gDel n cs).map (·.key)=(cs.map (·.key)).filter fun k=>!decide (k=n):=by
  intro cs
  induction cs with
  | nil=>intro _;rfl
  | cons e cs ih=>
   intro hn
   have hn2:e.key ∉ cs.map (·.key)∧GNd cs:=by unfold GNd at hn ⊢;rwa [YM,Ya5] at hn
   unfold gDel
   by_cases he:n=e.key
   ·rw [Yg he,YM,YaA,Yb (by simp [he]),Yba.2]
    intro k hk
    have:k≠n:=fun h9=>hn2.1 (by rw [← he,← h9];exact hk)
    simp [this]
   ·rw [Yb he,YM,YM,YaA,Yg (by simp;exact fun h9=>he h9.symm),ih hn2.2]
 refine ⟨h.now,?_,fun x hx=>?_,h.len,fun i hi hl=>h.seqs i hi (hl.mono fun r hr=>?_)⟩
 ·show (gDel n s.cs).map (·.key)=_
  rw [hd _ (h.nd hk),h.keys,List.filter_map];rfl
 ·obtain ⟨h1,h2⟩:=YV.1 hx
  show ∃ c,gGet x.1 (gDel n s.cs)=some c∧_
  rw [Zmz (h.nd hk),Yb Wk]
  exact h.snaps x h1
 ·simp only [rootsA,YF,Yp,YG] at hr ⊢
  rcases hr with hr | ⟨x,hx,hr⟩
  ·exact .inl hr
  ·exact .inr ⟨x,(YV.1 hx).1,hr⟩
theorem Zaz.keep {A:StA} (h:Zaz A):Zaz (ZbZ A).1:=by
 unfold ZbZ
 split
 ·exact h
 ·rename_i hh
  refine ⟨h.okn,fun x hx=>?_,?_,h.szn,fun x hx=>?_,?_,by have:=h.next;show 0≤A.next+1;omega⟩
  ·rcases YH.1 hx with hx | hx
   ·have:=h.oks x hx
    exact ⟨this.1,this.2.1,by have:=this.2.2;show x.1<A.next+1;omega⟩
   ·rw [Yr.1 hx]
    exact ⟨h.okn,h.next,by show A.next<A.next+1;omega⟩
  ·show ((A.snaps ++ [(A.next,A.now)]).map (·.1)).Pairwise (· < ·)
   rw [YZ,Y4]
   refine ⟨h.ids,YaJ _ _,fun a ha z hz=>?_⟩
   obtain ⟨x,hx,rfl⟩:=YG.1 ha
   rw [YM,List.map_nil,Yr] at hz
   rw [hz];exact (h.oks x hx).2.2
  ·rcases YH.1 hx with hx | hx
   ·exact h.szs x hx
   ·rw [Yr.1 hx];exact h.szn
  ·unfold ZaT at hh ⊢
   show A.now.size+((A.snaps ++ [(A.next,A.now)]).map fun x=>x.2.size).sum≤10000
   rw [YZ,YaE]
   simp;omega
theorem Zaz.back {A:StA} (h:Zaz A) (n:Int):Zaz (Zcf A n).1:=by
 unfold Zcf
 split
 ·exact h
 ·rename_i x hx
  split
  ·exact h
  ·rename_i hh
   have h1:=(ZbC hx).1
   exact ⟨(h.oks x h1).1,h.oks,h.ids,h.szs x h1,h.szs,by unfold ZaT at hh ⊢;show x.2.size+(A.snaps.map fun x=>x.2.size).sum≤10000;omega,h.next⟩
theorem Zju {l:List (Int×RtA)} {p:Int×RtA→Bool} (h:∀ x ∈ l,0≤x.2.size):((l.filter p).map fun x=>x.2.size).sum≤(l.map fun x=>x.2.size).sum:=by
 induction l with
 | nil=>simp
 | cons x l ih=>
  have h1:=h x Yan
  have h2:=ih fun z hz=>h z (YP _ hz)
  rw [YaA,YM,YaN]
  split
  ·rw [YM,YaN];omega
  ·omega
theorem Zaz.drop {A:StA} (h:Zaz A) (n:Int):Zaz (ZcI A n).1:=by
 unfold ZcI
 split
 ·exact h
 ·refine ⟨h.okn,fun x hx=>h.oks x (YV.1 hx).1,?_,h.szn,fun x hx=>h.szs x (YV.1 hx).1,?_,h.next⟩
  ·exact h.ids.sublist (List.Sublist.map _ Ybm)
  ·have h1:=Zju (p:=fun x=>!decide (x.1=n)) h.nn
   have h2:=h.held
   unfold ZaT at h2 ⊢
   show A.now.size+((A.snaps.filter fun x=>!decide (x.1=n)).map fun x=>x.2.size).sum≤10000
   omega
theorem Zmy (b:Nat) (A:StA) (hok:Zaz A) (hfit:ZbR A):FnG prog 21 1 [.is (.pointer (some ⟨b,0,none⟩))] [ZO (.pointer (some ⟨b,0,none⟩)) A] (.tup [.int .i64 (ZbZ A).2.1,.int .i64 (ZbZ A).2.2]) (fun _=>[ZO (.pointer (some ⟨b,0,none⟩)) (ZbZ A).1]):=by
 refine FnG.mk func21 Z ntmps21 Z kr fun B F0 a w F V hG O=>?_
 obtain ⟨sc,O⟩:=O.open_ex 1 rfl
 obtain ⟨hk,O⟩:=O.open_and 1 rfl
 obtain ⟨F,O⟩:=O.peel 1 2 Z rfl
 obtain ⟨F,O⟩:=O.peel 1 3 Z rfl
 obtain ⟨F,O⟩:=O.peel 1 4 Z rfl
 obtain ⟨F,O⟩:=O.peel 1 5 Z rfl
 obtain ⟨F,O⟩:=O.peel 1 6 Z rfl
 have O:=X2
 obtain ⟨F,O⟩:=O.nM [0] QR
 have hka:=hk.now.a
 have hks:=hk.now.s
 have hhb:=hok.held
 have hnz:=hok.szn
 have hnl:=hok.now_le
 have hnx:=hok.next
 have hnf:=hfit.next
 have hhn:0≤ZaT A:=Qc
 refine Ya (rZ O (qI (qI qZ)) V JR QR fun O=>(Ya (Ye (Ya ?_))))
 refine rZ O (qR rr (qf (Zab _ YbW Z .t) r1 qz (qO rr qZ))) V [5,3,2,0] QR fun O=>?_
 refine Zb O Z (fun hc0=>?_) (fun hc0=>?_)
 ·simp at hc0
 refine Ya (Zr O (qR rr (qf (OpC.still (ZjB (cells:=[.pv _,.pv _,.pv _,.pv _,.pv _,.pv _,.pv _,.pv _,.pv _,.pv _]) (cells':=[.pv _,.pv _,.pv _,.pv _,.pv _,.pv _,.pv _,.pv _,.pv _,.pv _]) 2 4 Z Z (ZgV b A hok hfit sc hk) func15 Z kr Z (Args.one .t)) (Zhs Zjt (ZgP Zjs))) r1 r2 (qR rr (qf (o_nilCheck 2 .is Wd) r1 r1 (qf (oF 1 2 .adr) r1 r1 (qf (oF 4 2 .adr) r1 r1 (qa 2 r1 r1 (qf (o_add .t .t) r2 qz (qf (o_gtr .t qi) r1 qz (qO rr qZ)))))))))) V [8,3,2,0] QR Z Z fun a w F O=>?_)
 have O:=Xn
 refine Za (Zb O Z (fun hc1=>?_) (fun hc1=>?_))
 ·have hg:ZbZ A=(A,0,2):=by unfold ZbZ;rw [Yg];rw [hks,Zj ow] at hc1;simpa using hc1
  refine Ya (rZ O (qI (qI qZ)) V JR QR fun O=>(Yh (Zl (Zd ?_))))
  have O:=O.fresh 1 rfl
  obtain ⟨F,O⟩:=O.push 1 6 Z Z Z kr
  obtain ⟨F,O⟩:=O.push 1 5 Z Z Z kr
  obtain ⟨F,O⟩:=O.push 1 4 Z Z Z kr
  obtain ⟨F,O⟩:=O.push 1 3 Z Z Z kr
  obtain ⟨F,O⟩:=O.push 1 2 Z Z Z kr
  have O:=O.turn 1 Z (r':=RS.hp (ZO (.pointer (some ⟨b,0,none⟩)) (ZbZ A).1)) (fun _ _ _ _ h=>⟨sc,Kx,Ky⟩)
  obtain ⟨F,O⟩:=O.nM JR QL
  refine Zz hG O Z (.tmp Z (.tmp Z .nil)) (.two (.int Wr) (.int Wr)) rfl
 have hg:ZbZ A=(⟨A.now,A.snaps ++ [(A.next,A.now)],A.next+1,A.all,A.seqs⟩,A.next,0):=by unfold ZbZ;rw [Yb];rw [hks,Zj ow] at hc1;simpa using hc1
 refine Yd (Zf (Za (Ya (rZ O (qR rr (qf (o_nilCheck 2 .is Wd) r1 r1 (qf (oF 7 2 .adr) r1 r1 (qa 2 r1 r1 (qO rr qZ))))) V [4,3,2,0] QR fun O=>Ya ?_))))
 refine Zr O (qR rr (qf (o_nilCheck 2 .is Wd) r1 r1 (qf (oF 6 2 .adr) r1 r1 (qa 2 r1 r1 (qR rr (qR rr (qf (o_nilCheck 2 .is Wd) r1 r1 (qf (oF 1 2 .adr) r1 r1 (qf (oL true 5 2 .adr) r1 r1 (qf (Zbx (ek:=(fun c:RtC=>PV.agg (rRt c))) (v:=sc.c) 4 Yb3 (Zbg YbV) .is (Z5.intR .t Z) (.conv (.pagg .t) (Ent.rt hka))) r3 r1 qZ)))))))))) V [4,3,2,0] QR Z Z fun a w F O=>?_
 have O:=Xn
 refine Za (Ya (Zg O (qR rr (qf (o_nilCheck 2 .is Wd) r1 r1 (qf (oF 7 2 .adr) r1 r1 (qa 2 r1 r1 (qp r1 (qf (o_nilCheck 2 .is Wd) r1 r1 (qf (oF 7 2 .adr) r1 r1 (qf (ZbI 2 .adr .t one_int kr kr) r2 r1 qZ)))))))) V Jj QR Z Z fun a w F O=>?_))
 rw [Zj (show -9223372036854775808≤A.next+1∧A.next+1≤9223372036854775807 by omega)] at O
 refine Za (Ya (rZ O (qR rr (qO rr (qI qZ))) V Xap QR fun O=>Yh ?_))
 have O:=O.fresh 1 rfl
 obtain ⟨F,O⟩:=O.push 1 6 Z Z Z kr
 obtain ⟨F,O⟩:=O.push 1 5 Z Z Z kr
 obtain ⟨F,O⟩:=O.push 1 4 Z Z Z kr
 obtain ⟨F,O⟩:=O.push 1 3 Z Z Z kr
 obtain ⟨F,O⟩:=O.push 1 2 Z Z Z kr
 have O:=O.turn 1 Z (r':=RS.hp (ZO (.pointer (some ⟨b,0,none⟩)) (ZbZ A).1)) (fun _ _ _ _ h=>⟨(⟨sc.b,sc.q,sc.c,(gPut A.next sc.c (sc.cs,sc.ck)).1,(gPut A.next sc.c (sc.cs,sc.ck)).2,sc.mv,sc.alv,sc.sqv,sc.sr⟩:StC),(by rw [hg];exact hk.keep hok _),Ky⟩)
 obtain ⟨F,O⟩:=O.nM Xap QL
 refine Zz hG O Z (.tmp Z (.tmp Z .nil)) (.two (.int Wr) (.int Wr)) rfl
theorem Zmc (b:Nat) (A:StA) (hok:Zaz A) (hfit:ZbR A) (n:Int):FnG prog 25 1 [.is (.pointer (some ⟨b,0,none⟩)),.int .i64 n] [ZO (.pointer (some ⟨b,0,none⟩)) A] (.int .i64 (Zcf A n).2) (fun _=>[ZO (.pointer (some ⟨b,0,none⟩)) (Zcf A n).1]):=by
 refine FnG.mk func25 Z ntmps25 Z kr fun B F0 a w F V hG O=>?_
 obtain ⟨sc,O⟩:=O.open_ex 1 rfl
 obtain ⟨hk,O⟩:=O.open_and 1 rfl
 obtain ⟨F,O⟩:=O.peel 1 2 Z rfl
 obtain ⟨F,O⟩:=O.peel 1 3 Z rfl
 obtain ⟨F,O⟩:=O.peel 1 4 Z rfl
 obtain ⟨F,O⟩:=O.peel 1 5 Z rfl
 obtain ⟨F,O⟩:=O.peel 1 6 Z rfl
 have O:=X2
 obtain ⟨F,O⟩:=O.nM QL QR
 have hka:=hk.now.a
 have hks:=hk.now.s
 have hhb:=hok.held
 have hnz:=hok.szn
 have hnl:=hok.now_le
 have hnx:=hok.next
 have hnf:=hfit.next
 have hhn:0≤ZaT A:=Qc
 refine Ya (rZ O (qI qZ) V J0 QR fun O=>(Ya (Ya ?_)))
 refine rZ O (qR rr (qf (Zab _ YbW Z .t) r1 qz qZ)) V XaM QR fun O=>?_
 refine Zb O Z (fun hc0=>?_) (fun hc0=>?_)
 ·simp at hc0
 refine Yd (Za (Ya (rS O (qR rr (qf (o_nilCheck 2 .is Wd) r1 r1 (qf (oF 6 2 .adr) r1 r1 (qa 2 r1 r1 (qR rr (qf (Zhf (ek:=(fun c:RtC=>PV.agg (rRt c))) (z0:=(default:RtC)) 4 Yb3 (Zbg YbV) kr (fun _ _=>⟨[_,_,_,_,_],rfl,⟨rfl,rfl,rfl⟩,⟨rfl,rfl,ZhX⟩,⟨rfl,rfl,rfl⟩,⟨rfl,rfl,ZhX⟩,⟨rfl,rfl,ZhX⟩,tv⟩) .is (Z5.intR .t Z)) r2 r1 (qR rr (qf (o_extract .t Z) r1 qz (qf (o_extract .t Z) r1 qz (qf (oH [.pointer none,.int .i64 0,.pointer none,.int .i64 0,.int .i64 0] 101) trivial qz (qf (oA 5 101 .same (.conv .t .agg)) r2 r1 (qO rr qZ)))))))))))) V Xa7 QO fun τ O=>?_)))
 have O:=X7
 generalize τ 5=v5 at O
 refine Za (Ya (Ye (Ya (rZ O (qR rr (qf (ZW .t) r1 qz (qO rr qZ))) V [18,5,4,0] QO fun O=>?_))))
 refine Zb O Z (fun hc1=>?_) (fun hc1=>?_)
 ·have hx:ZcQ A n=none:=Option.not_isSome_iff_eq_none.1 Kz
  have hg:Zcf A n=(A,3):=by unfold Zcf;rw [hx]
  refine Ya (rZ O (qI qZ) V Jm QO fun O=>(Yh (Zl (Zd ?_))))
  have O:=O.fresh 1 rfl
  obtain ⟨F,O⟩:=O.push 1 6 Z Z Z kr
  obtain ⟨F,O⟩:=O.push 1 5 Z Z Z kr
  obtain ⟨F,O⟩:=O.push 1 4 Z Z Z kr
  obtain ⟨F,O⟩:=O.push 1 3 Z Z Z kr
  obtain ⟨F,O⟩:=O.push 1 2 Z Z Z kr
  have O:=O.turn 1 Z (r':=RS.hp (ZO (.pointer (some ⟨b,0,none⟩)) (Zcf A n).1)) (fun _ _ _ _ h=>⟨sc,Kx,Ky⟩)
  obtain ⟨F,O⟩:=O.nM Jm QW
  refine Zz hG O Z (.tmp Z .nil) (.one (.int Wr)) rfl
 obtain ⟨x,hx⟩:∃ x,ZcQ A n=some x:=Ybg.1 Kz
 obtain ⟨c,hc,hrc⟩:=hk.found hx
 have hxm:=(ZbC hx).1
 have hxs:=hrc.s
 have hxl:=hok.snap_le hxm
 have hxz:=hok.szs x hxm
 rw [hc] at O
 try dsimp only [Option.getD] at O
 rw [hrc.a] at O
 obtain ⟨F,O⟩:=O.nM [18,5,4,0] QO
 refine Ya (Zr O (qR rr (qf (OpC.still (ZjB (cells:=[.pv _,.pv _,.pv _,.pv _,.pv _,.pv _,.pv _,.pv _,.pv _,.pv _]) (cells':=[.pv _,.pv _,.pv _,.pv _,.pv _,.pv _,.pv _,.pv _,.pv _,.pv _]) 2 4 Z Z (ZgV b A hok hfit sc hk) func15 Z kr Z (Args.one .t)) (Zhs Zjt (ZgP Zjs))) r1 r2 (qR rr (qf (o_nilCheck 2 .is Wd) r1 r1 (qf (oF 1 2 .adr) r1 r1 (qf (oF 4 2 .adr) r1 r1 (qa 2 r1 r1 (qf (o_sub .t .t) r2 qz (qg 4 101 r1 r1 (qa 101 r1 r1 (qf (o_add .t .t) r2 qz (qf (o_gtr .t qi) r1 qz (qO rr qZ))))))))))))) V [21,5,4,0] QO Z Z fun a w F O=>?_)
 have O:=Xn
 refine Za (Zb O Z (fun hc2=>?_) (fun hc2=>?_))
 ·have hg:Zcf A n=(A,2):=by unfold Zcf;rw [hx];dsimp only;rw [Yg];rw [hks,hxs,Zj (x:=ZaT A - A.now.size) ow,Zj ow] at hc2;simpa using hc2
  refine Ya (rZ O (qI qZ) V Jm QO fun O=>(Yh (Zl (Zd ?_))))
  have O:=O.fresh 1 rfl
  obtain ⟨F,O⟩:=O.push 1 6 Z Z Z kr
  obtain ⟨F,O⟩:=O.push 1 5 Z Z Z kr
  obtain ⟨F,O⟩:=O.push 1 4 Z Z Z kr
  obtain ⟨F,O⟩:=O.push 1 3 Z Z Z kr
  obtain ⟨F,O⟩:=O.push 1 2 Z Z Z kr
  have O:=O.turn 1 Z (r':=RS.hp (ZO (.pointer (some ⟨b,0,none⟩)) (Zcf A n).1)) (fun _ _ _ _ h=>⟨sc,Kx,Ky⟩)
  obtain ⟨F,O⟩:=O.nM Jm QW
  refine Zz hG O Z (.tmp Z .nil) (.one (.int Wr)) rfl
 have hg:Zcf A n=(⟨x.2,A.snaps,A.next,A.all,A.seqs⟩,0):=by unfold Zcf;rw [hx];dsimp only;rw [Yb];rw [hks,hxs,Zj (x:=ZaT A - A.now.size) ow,Zj ow] at hc2;simpa using hc2
 refine Yd (Zf (Za (Ya (rZ O (qR rr (qe 5 101 r1 r1 (qf (o_nilCheck 2 .is Wd) r1 r1 (qf (oF 1 2 .adr) r1 r1 (qf (oA 5 2 .adr .t) r2 r1 qZ))))) V [4] QO fun O=>Ya ?_))))
 refine rZ O (qI qZ) V [4] QO fun O=>Yh ?_
 have O:=O.fresh 1 rfl
 obtain ⟨F,O⟩:=O.push 1 6 Z Z Z kr
 obtain ⟨F,O⟩:=O.push 1 5 Z Z Z kr
 obtain ⟨F,O⟩:=O.push 1 4 Z Z Z kr
 obtain ⟨F,O⟩:=O.push 1 3 Z Z Z kr
 obtain ⟨F,O⟩:=O.push 1 2 Z Z Z kr
 have O:=O.turn 1 Z (r':=RS.hp (ZO (.pointer (some ⟨b,0,none⟩)) (Zcf A n).1)) (fun _ _ _ _ h=>⟨(⟨sc.b,sc.q,c,sc.cs,sc.ck,sc.mv,sc.alv,sc.sqv,sc.sr⟩:StC),(by rw [hg];exact hk.back hx hrc),Ky⟩)
 obtain ⟨F,O⟩:=O.nM [4] QW
 refine Zz hG O Z (.tmp Z .nil) (.one (.int Wr)) rfl
theorem Zmr (b:Nat) (A:StA) (hok:Zaz A) (hfit:ZbR A) (n:Int):FnG prog 26 1 [.is (.pointer (some ⟨b,0,none⟩)),.int .i64 n] [ZO (.pointer (some ⟨b,0,none⟩)) A] (.int .i64 (ZcI A n).2) (fun _=>[ZO (.pointer (some ⟨b,0,none⟩)) (ZcI A n).1]):=by
 refine FnG.mk func26 Z ntmps26 Z kr fun B F0 a w F V hG O=>?_
 obtain ⟨sc,O⟩:=O.open_ex 1 rfl
 obtain ⟨hk,O⟩:=O.open_and 1 rfl
 obtain ⟨F,O⟩:=O.peel 1 2 Z rfl
 obtain ⟨F,O⟩:=O.peel 1 3 Z rfl
 obtain ⟨F,O⟩:=O.peel 1 4 Z rfl
 obtain ⟨F,O⟩:=O.peel 1 5 Z rfl
 obtain ⟨F,O⟩:=O.peel 1 6 Z rfl
 have O:=X2
 obtain ⟨F,O⟩:=O.nM QL QR
 refine Ya (rZ O (qI qZ) V J0 QR fun O=>(Ya (Ya ?_)))
 refine rZ O (qR rr (qf (Zab _ YbW Z .t) r1 qz qZ)) V XaM QR fun O=>?_
 refine Zb O Z (fun hc0=>?_) (fun hc0=>?_)
 ·simp at hc0
 refine Yd (Za (Ya (Ya (rS O (qR rr (qf (o_nilCheck 2 .is Wd) r1 r1 (qf (oF 6 2 .adr) r1 r1 (qa 2 r1 r1 (qR rr (qf (Zhf (ek:=(fun c:RtC=>PV.agg (rRt c))) (z0:=(default:RtC)) 4 Yb3 (Zbg YbV) kr (fun _ _=>⟨[_,_,_,_,_],rfl,⟨rfl,rfl,rfl⟩,⟨rfl,rfl,ZhX⟩,⟨rfl,rfl,rfl⟩,⟨rfl,rfl,ZhX⟩,⟨rfl,rfl,ZhX⟩,tv⟩) .is (Z5.intR .t Z)) r2 r1 (qR rr (qf (o_extract .t Z) r1 qz (qf (o_extract .t Z) r1 qz (qf (oH [.pointer none,.int .i64 0,.pointer none,.int .i64 0,.int .i64 0] 101) trivial qz (qf (oA 5 101 .same (.conv .t .agg)) r2 r1 (qO rr qZ)))))))))))) V [6,4,1,0] QO fun τ O=>?_))))
 have O:=X7
 generalize τ 5=v5 at O
 refine Za (Ya (rZ O (qR rr (qf (ZW .t) r1 qz qZ)) V [19,4,1,0] QO fun O=>?_))
 refine Zb O Z (fun hc1=>?_) (fun hc1=>?_)
 ·have hx:ZcQ A n=none:=Option.not_isSome_iff_eq_none.1 Kz
  have hg:ZcI A n=(A,3):=by unfold ZcI;rw [hx]
  refine Ya (rZ O (qI qZ) V J0 QO fun O=>(Yh (Zd ?_)))
  have O:=O.fresh 1 rfl
  obtain ⟨F,O⟩:=O.push 1 6 Z Z Z kr
  obtain ⟨F,O⟩:=O.push 1 5 Z Z Z kr
  obtain ⟨F,O⟩:=O.push 1 4 Z Z Z kr
  obtain ⟨F,O⟩:=O.push 1 3 Z Z Z kr
  obtain ⟨F,O⟩:=O.push 1 2 Z Z Z kr
  have O:=O.turn 1 Z (r':=RS.hp (ZO (.pointer (some ⟨b,0,none⟩)) (ZcI A n).1)) (fun _ _ _ _ h=>⟨sc,Kx,Ky⟩)
  obtain ⟨F,O⟩:=O.nM J0 QW
  refine Zz hG O Z (.tmp Z .nil) (.one (.int Wr)) rfl
 obtain ⟨x,hx⟩:∃ x,ZcQ A n=some x:=Ybg.1 Kz
 obtain ⟨c,hc,hrc⟩:=hk.found hx
 have hxm:=(ZbC hx).1
 have hxs:=hrc.s
 have hxl:=hok.snap_le hxm
 have hxz:=hok.szs x hxm
 rw [hc] at O
 try dsimp only [Option.getD] at O
 rw [hrc.a] at O
 obtain ⟨F,O⟩:=O.nM [19,4,1,0] QO
 have hg:ZcI A n=(⟨A.now,A.snaps.filter (fun x=>!decide (x.1=n)),A.next,A.all,A.seqs⟩,0):=by unfold ZcI;rw [hx]
 refine Yd (Za (Ya (rZ O (qR rr (qf (o_nilCheck 2 .is Wd) r1 r1 (qf (oF 6 2 .adr) r1 r1 (qa 2 r1 r1 (qR rr (qf (Zqp 4 Yb3 (Zbg YbV) .is (Z5.intR .t Z)) r2 r1 qZ)))))) V [4] QO fun O=>Ya ?_)))
 refine rZ O (qI qZ) V [4] QO fun O=>Yh ?_
 have O:=O.fresh 1 rfl
 obtain ⟨F,O⟩:=O.push 1 6 Z Z Z kr
 obtain ⟨F,O⟩:=O.push 1 5 Z Z Z kr
 obtain ⟨F,O⟩:=O.push 1 4 Z Z Z kr
 obtain ⟨F,O⟩:=O.push 1 3 Z Z Z kr
 obtain ⟨F,O⟩:=O.push 1 2 Z Z Z kr
 have O:=O.turn 1 Z (r':=RS.hp (ZO (.pointer (some ⟨b,0,none⟩)) (ZcI A n).1)) (fun _ _ _ _ h=>⟨(⟨sc.b,sc.q,sc.c,(gDel n sc.cs),sc.ck,sc.mv,sc.alv,sc.sqv,sc.sr⟩:StC),(by rw [hg];exact hk.drop hok n),Ky⟩)
 obtain ⟨F,O⟩:=O.nM [4] QW
 refine Zz hG O Z (.tmp Z .nil) (.one (.int Wr)) rfl
def gvA (es:List (GE Int Int)) (k:Int):Int:=(gGet k es).getD 0
structure MvI (seqs:List (List Int)) (Live:Nat→Prop) (qo q:List Cell) (av nv:Value) (sr:List SqC) (es:List (GE Int Int)) (K:Int):Prop where
 len:sr.length=seqs.length
 gv:∀ k:Int,0≤gvA es k∧gvA es k≤K
 old:∀ i:Nat,i<seqs.length→Live i→gvA es i=0→(Nn sr i).av=av∧Zbm qo (Nn sr i).root (Nn seqs i)
 new:∀ i:Nat,i<seqs.length→0<gvA es i→(Nn sr i).av=nv∧Zbm q (Nn sr i).root (Nn seqs i)
section
variable {seqs:List (List Int)} {Live:Nat→Prop} {qo q:List Cell} {av nv:Value} {sr:List SqC} {es es':List (GE Int Int)} {K:Int}
theorem MvI.app (h:MvI seqs Live qo q av nv sr es K) (e:List Cell):MvI seqs Live qo (q++e) av nv sr es K:=
 ⟨h.len,h.gv,h.old,fun i hi hg=>⟨(h.new i hi hg).1,(h.new i hi hg).2.app⟩⟩
theorem Zgz {α:Type} [Inhabited α] {l:List α} {i j:Nat} {x:α} (hi:i<l.length):Nn (l.set i x) j=if j=i then x else Nn l j:=by
 by_cases h:j=i
 ·subst h
  rw [Yg rfl,Zu (by rw [YR];exact hi),List.getElem_set_self]
 ·rw [Yb h]
  by_cases hj:j<l.length
  ·rw [Zu (by rw [YR];exact hj),Zu hj,List.getElem_set_ne (fun e=>h e.symm)]
  ·unfold Nn
   rw [Yap,Yap,List.getElem?_eq_none WL,List.getElem?_eq_none ow]
theorem MvI.more (h:MvI seqs Live qo q av nv sr es K) {i:Int} (hg:0<gvA es i) (he:∀ k,gvA es' k=if k=i then gvA es i+1 else gvA es k):MvI seqs Live qo q av nv sr es' (K+1):=by
 refine ⟨h.len,fun k=>?_,fun j hj hl h0=>?_,fun j hj h0=>?_⟩
 ·have h1:=h.gv k
  have h2:=h.gv i
  rw [he];split <;> omega
 ·rw [he] at h0
  split at h0
  ·omega
  ·exact h.old j hj hl h0
 ·rw [he] at h0
  split at h0
  ·rename_i e;exact h.new j hj (by rw [e];exact hg)
  ·exact h.new j hj h0
theorem MvI.first (h:MvI seqs Live qo q av nv sr es K) {i:Nat} (hi:i<seqs.length) (hg:gvA es i=0) (he:∀ k,gvA es' k=if k=(i:Int) then gvA es i+1 else gvA es k) {e:List Cell} {r:Int} (hr:Zbm (q++e) r (Nn seqs i)):MvI seqs Live qo (q++e) av nv (sr.set i ⟨nv,r⟩) es' (K+1):=by
 have hl:=h.len
 refine ⟨by rw [YR];exact h.len,fun k=>?_,fun j hj hl2 h0=>?_,fun j hj h0=>?_⟩
 ·have h1:=h.gv k
  have h2:=h.gv i
  rw [he];split <;> omega
 ·rw [he] at h0
  split at h0
  ·omega
  ·rename_i hne
   rw [Zgz ow,Yb (fun e=>hne (by rw [e]))]
   exact h.old j hj hl2 h0
 ·rw [he] at h0
  rw [Zgz ow]
  split at h0
  ·rename_i e
   have e2:j=i:=ow
   subst e2
   rw [Yg rfl];exact ⟨rfl,hr⟩
  ·rename_i hne
   rw [Yb (fun e=>hne (by rw [e]))]
   exact ⟨(h.new j hj h0).1,(h.new j hj h0).2.app⟩
end
theorem Zsx {es:List (GE Int Int)} {ck:Nat} {i v:Int} (k:Int):gvA (gPut i v (es,ck)).1 k=if k=i then v else gvA es k:=by
 unfold gvA
 rw [Zfh]
 split <;> rfl
theorem MvI.start {A:StA} {ex:List RtA} {s:StC} (h:Zap A ex s) (nv:Value):MvI A.seqs (ZcA (rootsA A++ex) A.seqs.length) s.q [] (arV (some s.b)) nv s.sr [] 0:=
 ⟨h.len,fun k=>⟨Yau 0,Yau 0⟩,fun i hi hl _=>h.seqs i hi hl,fun i hi hg=>absurd hg (by show ¬ (0:Int)<0;omega)⟩
def Zar (seqs:List (List Int)) (l:List ZD):Nat:=(l.map fun p=>(Nn seqs p.val.toNat).length).sum
theorem Zcw {seqs:List (List Int)} {l:List ZD} {i:Nat} (h:i<l.length):Zar seqs (l.take (i+1))=Zar seqs (l.take i)+(Nn seqs (Nn l i).val.toNat).length:=by
 unfold Zar
 rw [ZN h,YZ,YaE];simp
theorem Zbr (all:List TxD) (seqs:List (List Int)) (r:RtA):r.txs.length+r.orders.length+Zar seqs r.orders=sizeH (histA all seqs r):=by
 unfold sizeH Zbj histA Zar
 simp only [YO,YaS]
 rfl
theorem ZlQ {seqs:List (List Int)} (l:List ZD) (i:Nat):Zar seqs (l.take i)≤Zar seqs l:=by
 have h:l=l.take i++l.drop i:=(YY i l).symm
 have e:Zar seqs l=Zar seqs (l.take i)+Zar seqs (l.drop i):=by
  conv=>lhs;rw [h]
  unfold Zar
  rw [YZ,YaE]
 omega
structure Zt3 (A:StA) (ex:List RtA) (qo q:List Cell) (av nv:Value) (sr:List SqC) (es:List (GE Int Int)) (K:Int):Prop where
 mv:MvI A.seqs (ZcA (rootsA A++ex) A.seqs.length) qo q av nv sr es K
 all:∀ r ∈ rootsA A++ex,∀ p ∈ r.orders,0<gvA es p.val
theorem Zt3.seqs {A:StA} {ex:List RtA} {qo q:List Cell} {av nv:Value} {sr:List SqC} {es:List (GE Int Int)} {K:Int} (h:Zt3 A ex qo q av nv sr es K) {i:Nat} (hi:i<A.seqs.length) (hl:ZcA (rootsA A++ex) A.seqs.length i) (hlast:i+1=A.seqs.length→(Nn sr i).av=nv∧Zbm q (Nn sr i).root (Nn A.seqs i)):(Nn sr i).av=nv∧Zbm q (Nn sr i).root (Nn A.seqs i):=by
 rcases hl with ⟨r,hr,p,hp,e⟩ | h1
 ·exact h.mv.new i hi (by rw [← e];exact h.all r hr p hp)
 ·exact hlast h1
theorem Znl (ob nb:Nat) {qo q:List Cell} {root:Int} {l:List ZD} (h:ZjP qo root l) (hr:q.length+l.length≤65536) :
  ∃ (e:List Cell) (r:Int),FnG prog 186 2 [.agg [.is (arV (some ob)),.int .i64 root],.is (arV (some nb))] [arH (some ob) 65536 qo,arH (some nb) 65536 q] (.tup [.agg [.is (arV (some nb)),.int .i64 r],.int .i64 0]) (fun _=>[arH (some ob) 65536 qo,arH (some nb) 65536 (q++e)])∧ZjP (q++e) r l∧e.length=l.length:=by
 obtain ⟨t,ht,hl⟩:=h
 obtain ⟨e,r,h1,h2,h3⟩:=ZjP.move (room:=65536) (q2:=q) (t:=t) ht.inc Wi Wi
 rw [hl] at h2 h3
 have:=ZsN (some ob) 65536 qo root t ht.rep (by rw [ZT,hl];omega) (some nb) 65536 q
 rw [h1] at this
 exact ⟨e,r,this,h2,h3⟩
theorem ZpN (ob nb:Nat) {qo q:List Cell} {c:SqC} {l:List Int} (h:c.av=arV (some ob)∧Zbm qo c.root l) (hr:q.length+l.length≤65536) :
  ∃ (e:List Cell) (r:Int),FnG prog 187 2 [.agg [.is c.av,.int .i64 c.root],.is (arV (some nb))] [arH (some ob) 65536 qo,arH (some nb) 65536 q] (.tup [.agg [.is (arV (some nb)),.int .i64 r],.int .i64 0]) (fun _=>[arH (some ob) 65536 qo,arH (some nb) 65536 (q++e)])∧Zbm (q++e) r l∧e.length=l.length:=by
 obtain ⟨ha,t,ht,hl⟩:=h
 have hv:=Zmh t
 rw [hl] at hv
 obtain ⟨e,r,h1,h2,h3⟩:=Zbm.of (room:=65536) (q:=q) (l:=l) ow ow
 have:=Ztf (some ob) 65536 qo c.root t ht ow (some nb) 65536 q
 rw [hl,h1] at this
 rw [ha]
 exact ⟨e,r,this,h2,h3⟩
theorem Ent.adrK {v:Value} {k:Nat} (h:(shift k v).oneCell' = true):Ent (.adr (.val v) k) (.pv (.is (shift k v))):=fun _ _ _ _ e=>⟨e,by
 have e:_=shift k v:=e
 rw [e];exact h⟩
theorem Ent.kAdr {v:Value} {k:Nat} : Ent (.pv (.is (shift k v))) (.adr (.val v) k):=fun _ _ _ _ h=>h.1
structure MvC where
 q:List Cell
 c:RtC
 sr:List SqC
 es:List (GE Int Int)
 ck:Nat
structure Zfy (seqs:List (List Int)) (Live:Nat→Prop) (r:RtA) (qo q:List Cell) (av nv:Value) (es:List (GE Int Int)) (K:Int) (x:MvC):Prop where
 app:∃ e,x.q=q++e∧e.length≤r.txs.length+r.orders.length+Zar seqs r.orders
 rt:Zch x.q nv x.c r
 mv:MvI seqs Live qo x.q av nv x.sr x.es (K+r.orders.length)
 keep:∀ k,0<gvA es k→0<gvA x.es k
 all:∀ p ∈ r.orders,0<gvA x.es p.val
def Zrd (a0 a1:Value) (c:RtC) (mv:Value) (nx:Int) (alv sqv:Value):List CF:=[.pv (.is a0),.pv (.is a1),.pv (.int .i64 c.tr),.pv (.is a1),.pv (.int .i64 c.or),.pv (.int .i64 c.size),.pv (.is mv),.pv (.int .i64 nx),.pv (.is alv),.pv (.is sqv)]
def Zq6 (v a1:Value) (ob nb:Nat) (qo q:List Cell) (c:RtC) (mv:Value) (nx:Int) (alv sqv:Value) (sr:List SqC) (mm:Value) (es:List (GE Int Int)) (ck:Nat):List RS:=[.pt (.val v) 97 (Zrd (arV (some nb)) a1 c mv nx alv sqv),RS.hp (arH (some ob) 65536 qo),RS.hp (arH (some nb) 65536 q),.ob (.val sqv) (ZM 114 2 rSq sr),.ob (.val mm) (MPI es ck)]
def ZtQ (v a1:Value) (ob nb:Nat) (qo q:List Cell) (cn:RtC) (mv:Value) (nx:Int) (alv sqv:Value) (sr:List SqC) (mm:Value) (es:List (GE Int Int)) (ck:Nat) (rv:Value) (c:RtC):List RS:=[.pt (.val v) 97 (Zrd (arV (some nb)) (arV (some nb)) cn mv nx alv sqv),RS.hp (arH (some ob) 65536 qo),RS.hp (arH (some nb) 65536 q),.ob (.val sqv) (ZM 114 2 rSq sr),.ob (.val mm) (MPI es ck),.pt (.val rv) 92 [.pv (.is a1),.pv (.int .i64 c.tr),.pv (.is a1),.pv (.int .i64 c.or),.pv (.int .i64 c.size)]]
theorem Zic {seqs:List (List Int)} {l:List ZD} {i:Nat} (h:i<l.length):Zar seqs (l.take i)+(Nn seqs (Nn l i).val.toNat).length≤Zar seqs l:=by
 rw [← Zcw h];exact ZlQ l (i+1)
theorem Zsi {es:List (GE Int Int)} {l:List ZD} (h:∀ j,j<l.length→0<gvA es (Nn l j).val):∀ p ∈ l,0<gvA es p.val:=fun p hp=>by
 obtain ⟨j,hj,rfl⟩:=YL hp
 have:=h j hj
 rwa [Zu hj] at this
end Go.Proofs.YtfecljadegkmdaaGreat
