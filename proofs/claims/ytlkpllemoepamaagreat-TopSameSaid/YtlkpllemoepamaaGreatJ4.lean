/- Texts put together. No condition beyond those that each theorem says. -/
import Derived.Test.YtlkpllemoepamaaGreatJ3
import Derived.Test.YtlkpllemoepamaaGreatJ1
import Derived.Test.YtlkpllemoepamaaGreatLibE
namespace Go.Proofs.YtlkpllemoepamaaGreat
open Go Go.Gm Tryz
set_option linter.unusedVariables false
set_option linter.unusedSimpArgs false
set_option maxHeartbeats 4000000
set_option maxRecDepth 8000
def Zcd (h:Zt):Prop:=h.txs.length≤12∧h.orders.length≤24∧(∀ j,j<h.txs.length→(Nn h.txs j).ops.length≤24) ∧ ∀ j,j<h.orders.length→(Nn h.orders j).txs.length≤24
instance (h:Zt):Decidable (Zcd h):=by unfold Zcd;exact inferInstance
def Zlk (d:Zg3):Prop:=Zcd ⟨d.was,d.old⟩∧Zcd ⟨d.now,d.new⟩
instance (d:Zg3):Decidable (Zlk d):=by unfold Zlk;exact inferInstance
theorem Ztu {α:Type} [Inhabited α] {q:List α} {x:α} (h:x ∈ q):∃ j,j<q.length∧Nn q j=x:=by
 obtain ⟨j,hj,e⟩:=Yaf h
 exact ⟨j,hj,by rw [nth_eq hj];exact e⟩
theorem Zlk.ok {d:Zg3} (h:Zlk d):DOk d:=by
 obtain ⟨⟨h1,h2,h3,h4⟩,h5,h6,h7,h8⟩:=h
 dsimp only at h1 h2 h3 h4 h5 h6 h7 h8
 refine ⟨⟨by omega,fun t ht=>?_⟩,⟨by omega,fun t ht=>?_⟩,⟨by omega,fun t ht=>?_⟩,⟨by omega,fun t ht=>?_⟩⟩ <;> obtain ⟨j,hj,rfl⟩:=Ztu ht
 ·have:=h3 j hj;omega
 ·have:=h7 j hj;omega
 ·have:=h4 j hj;omega
 ·have:=h8 j hj;omega
theorem ZqL (u:Zt):FnP prog 11 [.agg (Zs u)] (.bool (decide (Zcd u))):=by
 refine FnP.mk func11 rfl ntmps11 rfl fun B a w F V hfr G=>?_
 obtain ⟨hxl,hyl⟩:=Sat.lenHist G (i:=0) rfl
 refine Ya (Zb G (qx 101 r1 qB) V [2,1] [101,0] (fun _=>rfl) (fun _=>rfl) fun τ a w F G=>?_)
 try dsimp only [RS.sub,SF.sub,CF.sub,csub,Anc.sub,List.map,zCF] at G
 generalize τ 1=v1 at G
 refine Za (Ya (Ya (rZ G (qg 0 101 r1 r1 (qa 101 r1 r1 (qu underlying22 r1 (qf (ZaU .t qi) r1 qz (qR rr (qv 1 101 rfl r2 r1 (qw 101 rfl r2 r1 (qk rfl (fun h=>ZcB underlying23 (.w h)) r2 qz (qk rfl (fun h=>ZaU (.w h) qi) r2 qz (qf (Zam .t .t) r2 qz qZ)))))))))) V [16,2,1] [101,0] fun G=>?_)))
 refine Zc G rfl (fun hc0=>?_) (fun hc0=>?_)
 ·have hg:false=decide (Zcd u):=by
    rw [Yaj,Yz]
    rintro ⟨g1,g2,g3,g4⟩
    simp at hc0;omega
  refine Ya (rZ G qB V [2,1] [101,0] fun G=>(Yh (Zk ?_)))
  refine Zo hfr G rfl rfl rfl (.bool hg)
 have hb:u.txs.length≤12∧u.orders.length≤24:=by simp at hc0;omega
 refine Ye (Za (Ya (Ya (rZ G (qg 0 101 r1 r1 (qa 101 r1 r1 (qu underlying22 r1 (qJ qZ)))) V [20,19,18,2,1] [101,0] fun G=>Yg ?_))))
 obtain ⟨F,G⟩:=G.nM [20,19,18,1] [101,0]
 refine Za2 (σ:=Nat) (fun s=>(⟨[(1,.pv (.is v1)),(18,.pv (.sl rTx u.txs)),(19,.pv (.int .i64 u.txs.length)),(20,.pv (.int .i64 s))],[(0,frame B),(101,.pt (.val v1) 25 [.pv (.sl rTx u.txs),.pv (.sl ZP u.orders)])]⟩:En)) (fun s=>s≤u.txs.length ∧ ∀ j,j<s→(Nn u.txs j).ops.length≤24) (fun s=>u.txs.length - s) 0 G ⟨Yv _,fun j hj=>absurd hj (YX j)⟩ ?_
 clear G;intro i a w F hC G
 try dsimp only at hC
 try dsimp only at G
 obtain ⟨hi,hq⟩:=hC
 refine Ya (rZ G (qL r2) V [21,20,19,18,1] [101,0] fun G=>Ya ?_)
 refine Zc G rfl (fun hc1=>?_) (fun hc1=>?_)
 ·have hil:i<u.txs.length:=by simp at hc1;omega
  refine Ye (Za (Ya (Yg (Ya (Zb G (qy 3 underlying22 r2 (qf (oR true 3 .t) r1 qz (qf (oH [.int .i64 0,.bool false,.slice none 0 0] 102) trivial qz (qS 3 102 r2 r1 qZ)))) V [20,19,18,4,1] [102,101,0] (fun _=>rfl) (fun _=>rfl) fun τ a w F G=>?_)))))
  try dsimp only [RS.sub,SF.sub,CF.sub,csub,Anc.sub,List.map,Ze,xL,xM,Nat.reduceAdd,xD,xE,xT,xU,xC,xN,zCF,ldSF] at G
  generalize τ 4=v4 at G
  refine Za (Ya (rZ G (qg 2 102 r1 r1 (qa 102 r1 r1 (qu underlying28 r1 (qf (ZaU .t qi) r1 qz qZ)))) V [27,20,19,18,1] [101,0] fun G=>?_))
  refine Zc G rfl (fun hc2=>?_) (fun hc2=>?_)
  ·have hg:false=decide (Zcd u):=by
     rw [Yaj,Yz]
     rintro ⟨g1,g2,g3,g4⟩
     have:=g3 i hil;rw [Yb] at hc2;simp at hc2;omega
   refine Ya (rZ G qB V [20,19,18,2,1] [101,0] fun G=>(Yh (Zu (Zk (Zk (Zu (Zk ?_)))))))
   refine Zo hfr G rfl rfl rfl (.bool hg)
  have hqi:(Nn u.txs i).ops.length≤24:=by rw [Yb] at hc2;simp at hc2;omega
  refine Ye (Zj (Za (rZ G (qp r1 (qR rr qZ)) V [20,19,18,1] [101,0] fun G=>?_)))
  replace G:=G.ent (i:=20) (s':=.pv (.int .i64 ((i+1:Nat):Int))) rfl (.int (Zd ow))
  obtain ⟨F,G⟩:=G.nM [20,19,18,1] [101,0]
  exact ⟨i+1,F,⟨by omega,fun j hj=>by rcases YS (YY hj) with h | h;exact hq j h;rw [h];exact hqi⟩,G,by omega⟩
 have hT:∀ j,j<u.txs.length→(Nn u.txs j).ops.length≤24:=fun j hj=>hq j (by simp at hc1;omega)
 clear hq hi
 refine Yw (Zi (Zi (Zn (Za (Ya (Ya (rZ G (qg 1 101 r1 r1 (qa 101 r1 r1 (qu underlying23 r1 (qJ qZ)))) V [32,31,30] [0] fun G=>Yg ?_)))))))
 obtain ⟨F,G⟩:=G.nM [32,31,30] [0]
 refine Za2 (σ:=Nat) (fun s=>(⟨[(30,.pv (.sl ZP u.orders)),(31,.pv (.int .i64 u.orders.length)),(32,.pv (.int .i64 s))],[(0,frame B)]⟩:En)) (fun s=>s≤u.orders.length ∧ ∀ j,j<s→(Nn u.orders j).txs.length≤24) (fun s=>u.orders.length - s) 0 G ⟨Yv _,fun j hj=>absurd hj (YX j)⟩ ?_
 clear G;intro i a w F hC G
 try dsimp only at hC
 try dsimp only at G
 obtain ⟨hi,hq⟩:=hC
 refine Ya (rZ G (qL r2) V [33,32,31,30] [0] fun G=>Ya ?_)
 refine Zc G rfl (fun hc3=>?_) (fun hc3=>?_)
 ·have hil:i<u.orders.length:=by simp at hc3;omega
  refine Ye (Za (Ya (Yg (Ya (Zb G (qy 2 underlying23 r2 (qf (oR true 2 .t) r1 qz (qf (oH [.int .i64 0,.slice none 0 0] 103) trivial qz (qS 2 103 r2 r1 qZ)))) V [32,31,30,6] [103,0] (fun _=>rfl) (fun _=>rfl) fun τ a w F G=>?_)))))
  try dsimp only [RS.sub,SF.sub,CF.sub,csub,Anc.sub,List.map,Ze,xL,xM,Nat.reduceAdd,xD,xE,xT,xU,xC,xN,zCF,ldSF] at G
  generalize τ 6=v6 at G
  refine Za (Ya (rZ G (qg 1 103 r1 r1 (qa 103 r1 r1 (qu underlying45 r1 (qf (ZaU .t qi) r1 qz qZ)))) V [39,32,31,30] [0] fun G=>?_))
  refine Zc G rfl (fun hc4=>?_) (fun hc4=>?_)
  ·have hg:false=decide (Zcd u):=by
     rw [Yaj,Yz]
     rintro ⟨g1,g2,g3,g4⟩
     have:=g4 i hil;rw [Yb] at hc4;simp at hc4;omega
   refine Ya (rZ G qB V [32,31,30,2] [0] fun G=>(Yh (Zu (Zk (Zk (Zu (Zk ?_)))))))
   refine Zo hfr G rfl rfl rfl (.bool hg)
  have hqi:(Nn u.orders i).txs.length≤24:=by rw [Yb] at hc4;simp at hc4;omega
  refine Ye (Zj (Za (rZ G (qp r1 (qR rr qZ)) V [32,31,30] [0] fun G=>?_)))
  replace G:=G.ent (i:=32) (s':=.pv (.int .i64 ((i+1:Nat):Int))) rfl (.int (Zd ow))
  obtain ⟨F,G⟩:=G.nM [32,31,30] [0]
  exact ⟨i+1,F,⟨by omega,fun j hj=>by rcases YS (YY hj) with h | h;exact hq j h;rw [h];exact hqi⟩,G,by omega⟩
 have hO:∀ j,j<u.orders.length→(Nn u.orders j).txs.length≤24:=fun j hj=>hq j (by simp at hc3;omega)
 have hg:true=decide (Zcd u):=by rw [Yaj,Yq];exact ⟨hb.1,hb.2,hT,hO⟩
 refine Yw (Zi (Zi (Zn (Za (Ya (rZ G qB V [2] [0] fun G=>Yh ?_))))))
 refine Zo hfr G rfl rfl rfl (.bool hg)
instance (h:Zt):Decidable (Zcd h):=by unfold Zcd;exact inferInstance
theorem Zer {P:Program} {w:World} {d:Nat} {e:TypeId} (he:P.underlying e=some (.int .i64)) {l m:List Int} : ∀ (is:List Nat),(∀ i ∈ is,i<l.length∧i<m.length)→(Op.eqItems (d+1) e 1 (l.map fun n=>Value.int .i64 n).toArray (m.map fun n=>Value.int .i64 n).toArray is).run P w = .ok (is.all fun i=>decide (l[i]? = m[i]?)) w
 | [],_=>by simp [Op.eqItems]
 | i :: is,h=>by
  have hag:P.aggB e=some false:=by unfold Program.aggB;rw [he]
  obtain ⟨h1,h2⟩:=h i (by simp)
  have p1:(part e (l.map fun n=>Value.int .i64 n).toArray (i*1)).run P w = .ok (.int .i64 l[i]) w:=by simp [part,run_isAgg hag,h1]
  have p2:(part e (m.map fun n=>Value.int .i64 n).toArray (i*1)).run P w = .ok (.int .i64 m[i]) w:=by simp [part,run_isAgg hag,h2]
  have p3:(Op.equalIn (d+1) e (.int .i64 l[i]) (.int .i64 m[i])).run P w = .ok (l[i] == m[i]) w:=run_equalIn_int w d e .i64 _ _ _ he
  have ih:=Zer (P:=P) (w:=w) (d:=d) he is (fun j hj=>h j (YB _ hj))
  simp only [Op.eqItems,YA,p1,p2,p3,Yn]
  rw [List.all_cons,Yau h1,Yau h2]
  by_cases hab:l[i] = m[i]
  ·simp [hab,ih]
  ·simp [hab]
theorem ZnW {l m:List Int} {n:Nat} (hl:l.length=n) (hm:m.length=n):((List.range n).all fun i=>decide (l[i]? = m[i]?))=decide (l=m):=by
 rw [Yan,Ya9,Yq]
 constructor
 ·intro h
  apply List.ext_getElem?
  intro i
  by_cases hi:i<n
  ·simpa using h i (Ya4.2 hi)
  ·rw [YbL ow,YbL ow]
 ·rintro rfl i _
  simp
theorem Zq8 {P:Program} {κ:Type} [DecidableEq κ] {kt et:TypeId} {enc:κ→List Int} {n:Nat} (hl:∀ k,(enc k).length=n) (hi:∀ a b,enc a=enc b→a=b) (hu:P.underlying kt=some (.array n et)) (he:P.underlying et=some (.int .i64)) (hc:P.cellsOf et=1):ZmW P kt (fun k=>∀ x ∈ enc k,inR .i64 x) (kvS enc) where
 check:=fun b k w _=>by
  obtain ⟨ti,hti⟩:∃ i,P.info? et=some i:=info_of_underlying he
  have hag:P.aggB et=some false:=by unfold Program.aggB;rw [he]
  unfold kvS
  rw [show (10000:Nat)=9998+1+1 from rfl,Instr.checkKey]
  simp only [YA,Ym hu,Yn]
  simp only [Std.Legacy.Range.forIn_eq_forIn_range',Std.Legacy.Range.size,YbV,Nat.add_one_sub_one,Nat.div_one]
  have each:∀ i ∈ List.range' 0 n,i<(enc k).length:=by intro i h;rw [hl];simp [List.mem_range'] at h;omega
  generalize List.range' 0 n=is at each
  induction is with
  | nil=>simp
  | cons j is ih=>
   have h1:=each j (by simp)
   have p1:(part et ((enc k).map fun n=>Value.int .i64 n).toArray (j*1)).run P w = .ok (.int .i64 (enc k)[j]) w:=by simp [part,run_isAgg hag,h1]
   have p2:(Instr.checkKey b (9998+1) et (.int .i64 (enc k)[j])).run P w = .ok () w:=Go.MapKept.run_checkKey he (by simp [Go.MapKept.IsKey]) b 9998
   simp only [List.forIn_cons,YA,run_sizeOf w hti,hc,Yn,p1,p2,YF]
   exact ih (fun y hy=>each y (by simp [hy]))
 find:=fun es k w hok hks=>by
  obtain ⟨ti,hti⟩:∃ i,P.info? et=some i:=info_of_underlying he
  rw [run_findKey_eq (P:=P) (w:=w) (k:=kt) (by rw [hu]) (kvS enc k) (es.map (rEnc (kvS enc)))]
  have key:∀ (es:List (GE κ Value)) (j:Nat),(Instr.findAsking kt (kvS enc k) (es.map (rEnc (kvS enc))) j).run P w = .ok ((gIdx k es).map fun i=>(i+j,(gGet k es).getD undef)) w:=by
   intro es
   induction es with
   | nil=>intro j;simp [Instr.findAsking,gIdx]
   | cons e es ih=>
    intro j
    have hq:(Op.equal kt (kvS enc k) (kvS enc e.key)).run P w = .ok (decide (enc k=enc e.key)) w:=by
     unfold Op.equal Op.maxDepth kvS
     rw [show (10000:Nat)=9998+1+1 from rfl,run_equalIn_array w (9998+1) _ _ hu hti,hc,Zer he _ (fun i h=>by rw [hl,hl];simpa using h),ZnW (hl _) (hl _)]
    rw [YU]
    unfold Instr.findAsking
    have ih':=ih (j+1)
    by_cases h:k=e.key
    ·have hek:enc k=enc e.key:=by rw [h]
     simp only [rEnc,YA,hq,hek,decide_true,Yn,Yr,YF]
     simp [gIdx,gGet,h]
    ·have hek:¬ enc k=enc e.key:=fun h'=>h (hi _ _ h')
     simp only [rEnc,YA,hq,YC hek,Yn,Ya8,Yo]
     rw [show (es.map fun e=>rEnc (kvS enc) e)=es.map (rEnc (kvS enc)) from rfl] at *
     rw [ih']
     simp only [gIdx,gGet,Yc h]
     cases hm:gIdx k es with
     | none=>rfl
     | some i=>simp;omega
  have:=key es 0
  simpa using this
 same:=fun k=>Zf5 (enc k) 9999
def ZmR {κ:Type} [DecidableEq κ] (A:List (κ×Int)) (k:κ):Int:=A.foldl (fun x z=>if k=z.1 then z.2 else x) 0
theorem Zh5 {κ:Type} [DecidableEq κ] {A:List (κ×Int)} {z:κ×Int} {k:κ} : ZmR (A ++ [z]) k=if k=z.1 then z.2 else ZmR A k:=by unfold ZmR;rw [YaF];rfl
theorem Zp5 {κ:Type} [DecidableEq κ] {k:κ} (A:List (κ×Int)) (hA:∀ z ∈ A,z.2=1):0≤ZmR A k∧ZmR A k≤1:=by
 have key:∀ (A:List (κ×Int)) (x:Int),(∀ z ∈ A,z.2=1)→0≤x∧x≤1→0≤A.foldl (fun x z=>if k=z.1 then z.2 else x) x∧A.foldl (fun x z=>if k=z.1 then z.2 else x) x≤1:=by
  intro A
  induction A with
  | nil=>intro x _ h;exact h
  | cons z A ih=>
   intro x hz hx
   rw [YaE]
   refine ih _ (fun y hy=>hz y (YB _ hy)) ?_
   have:=hz z (by simp)
   split <;> omega
 exact key A 0 hA ow
structure ZdB where
 fst:Int
 snd:Int
 deriving DecidableEq,Inhabited
def ZeH (k:ZdB):List Int:=[k.fst,k.snd]
def Zaq (e:Zg):List Int:=[e.src,e.dst,e.kind,e.key]
def Zdk (l:List TxD):List (Int×Int):=(l.filter TxD.done).map fun t=>(t.id,1)
def ZbP (id:Int) (l:List OpD):List ZdB:=(l.filter fun o=>!o.read).map fun o=>⟨id,o.key⟩
def lastK (l:List TxD):List ZdB:=l.flatMap fun t=>if t.done=true then ZbP t.id t.ops else []
def atI (l:List Int) (j:Nat):Int:=if j=0 then 0 else Nn l (j - 1)
def nxO (o:OrdD) (j:Nat):List (ZdB×Int):=(List.range j).map fun i=>(⟨o.key,atI o.txs i⟩,Nn o.txs i)
def nxA (l:List OrdD):List (ZdB×Int):=l.flatMap fun o=>nxO o o.txs.length
theorem Zfq {l:List TxD} {i:Nat} (hi:i<l.length):Zdk (l.take (i+1))=Zdk (l.take i)++if (Nn l i).done=true then [((Nn l i).id,1)] else []:=by
 unfold Zdk
 rw [Zr hi,Yae,YQ]
 cases hd:(Nn l i).done <;> simp [hd]
theorem ZgE {l:List TxD} {i:Nat} (hi:i<l.length):lastK (l.take (i+1))=lastK (l.take i)++if (Nn l i).done=true then ZbP (Nn l i).id (Nn l i).ops else []:=by
 unfold lastK
 rw [Zr hi,YR]
 simp
theorem ZfF {id:Int} {l:List OpD} {j:Nat} (hj:j<l.length):ZbP id (l.take (j+1))=ZbP id (l.take j)++if (Nn l j).read=true then [] else [⟨id,(Nn l j).key⟩]:=by
 unfold ZbP
 rw [Zr hj,Yae,YQ]
 cases hd:(Nn l j).read <;> simp [hd]
theorem Zg0 (id:Int) (l:List OpD):(ZbP id l).length≤l.length:=by unfold ZbP;rw [YM];exact Yai _ _
theorem ZoK {l:List TxD} (h:Za0 l) (i:Nat):(lastK (l.take i)).length≤1000*i:=by
 have key:∀ l:List TxD,(∀ t ∈ l,t.ops.length≤1000)→(lastK l).length≤1000*l.length:=by
  intro l
  induction l with
  | nil=>intro _;simp [lastK]
  | cons t l ih=>
   intro h
   have h1:=ih fun x hx=>h x (by simp [hx])
   have h2:=h t (by simp)
   have h3:=Zg0 t.id t.ops
   unfold lastK at h1 ⊢
   rw [Y1,Yd,Yl]
   split
   ·omega
   ·simp only [Yy];omega
 have h1:=key (l.take i) fun t ht=>h.2 t (YaS ht)
 have h2:(l.take i).length≤i:=by rw [Yj];omega
 exact Y5 h1 (Ybj _ h2)
theorem ZrU {o:OrdD} {j:Nat} : nxO o (j+1)=nxO o j ++ [(⟨o.key,atI o.txs j⟩,Nn o.txs j)]:=by unfold nxO;rw [List.range_succ,YQ];rfl
theorem Zq2 {l:List OrdD} {i:Nat} (hi:i<l.length):nxA (l.take (i+1))=nxA (l.take i)++nxO (Nn l i) (Nn l i).txs.length:=by
 unfold nxA
 rw [Zr hi,YR]
 simp
def ZmL {κ:Type} [DecidableEq κ] (es:List (GE κ Int)) (A:List (κ×Int)):Prop:=∀ k,(gGet k es).getD 0=ZmR A k
def ZpO {κ:Type} [DecidableEq κ] (es:List (GE κ Int)) (R:List κ):Prop:=∀ k,(gGet k es).getD 0=(R.count k:Int)
theorem Zox {κ:Type} [DecidableEq κ] {es:List (GE κ Int)} {A:List (κ×Int)} {ck:Nat} {k:κ} {x:Int} (h:ZmL es A):ZmL (gPut k x (es,ck)).1 (A ++ [(k,x)]):=fun k'=>by
 rw [Zc1,Zh5,← h k']
 split <;> rfl
theorem Ztg {κ:Type} [DecidableEq κ] {es:List (GE κ Int)} {R:List κ} {ck:Nat} {k:κ} (h:ZpO es R) (hl:R.length≤100000000):ZpO (gSet k (IntKind.wrap .i64 ((gGet k es).getD 0+1)) (gEns 0 k (es,ck)).1) (R ++ [k]):=fun k'=>by
 have hc:R.count k≤R.length:=List.count_le_length
 rw [Zc8,h k,Zy ow,YbN]
 by_cases e:k' = k
 ·subst e;rw [Yf rfl];simp
 ·rw [Yc e,h k'];simp [List.count_cons,Ne.symm e]
def ZiF (g:Zt) (id:Int):Int:=ZmR (Zdk g.txs) id
def ZlN (g:Zt) (id k:Int):Int:=((lastK g.txs).count ⟨id,k⟩:Int)
def nxI (g:Zt) (k x:Int):Int:=ZmR (nxA g.orders) ⟨k,x⟩
def Zr7 (g:Zt) (t:TxD) (o:OpD):Bool:=decide (o.tx=t.id) || (!decide (o.tx=0) && (decide (ZiF g o.tx=0) || !decide (ZlN g o.tx o.key=o.nth)))
def rdA (t:TxD) (o:OpD):List Zg:=if o.tx=0 then [] else [⟨o.tx,t.id,2,o.key⟩]
def rdB (g:Zt) (t:TxD) (o:OpD):List Zg:=if nxI g o.key o.tx≠0∧nxI g o.key o.tx≠t.id then [⟨t.id,nxI g o.key o.tx,3,o.key⟩] else []
def rdO (g:Zt) (t:TxD) (o:OpD):List Zg:=if Zr7 g t o=true then [] else rdA t o++rdB g t o
theorem ZtU (g:Zt) (t:TxD) (o:OpD):(rdO g t o).length≤2:=by
 unfold rdO rdA rdB
 split
 ·simp
 ·split <;> split <;> simp
def rdT (p:Int→Bool) (g:Zt) (t:TxD) (l:List OpD):List Zg:=l.flatMap fun o=>if (t.done && (o.read && p o.key))=true then rdO g t o else []
def rdH (p:Int→Bool) (g:Zt) (l:List TxD):List Zg:=l.flatMap fun t=>rdT p g t t.ops
theorem Zku {p:Int→Bool} {g:Zt} {t:TxD} {l:List OpD} {j:Nat} (hj:j<l.length):rdT p g t (l.take (j+1))=rdT p g t (l.take j)++if (t.done && ((Nn l j).read && p (Nn l j).key))=true then rdO g t (Nn l j) else []:=by
 unfold rdT
 rw [Zr hj,YR]
 simp
theorem ZqQ {p:Int→Bool} {g:Zt} {l:List TxD} {i:Nat} (hi:i<l.length):rdH p g (l.take (i+1))=rdH p g (l.take i)++rdT p g (Nn l i) (Nn l i).ops:=by
 unfold rdH
 rw [Zr hi,YR]
 simp
theorem Zpk (p:Int→Bool) (g:Zt) (t:TxD) (l:List OpD):(rdT p g t l).length≤2*l.length:=by
 induction l with
 | nil=>simp [rdT]
 | cons o l ih=>
  have h1:=ZtU g t o
  unfold rdT at ih ⊢
  rw [Y1,Yd,Yl]
  split
  ·omega
  ·simp only [Yy];omega
theorem ZoV {p:Int→Bool} {g:Zt} {l:List TxD} (h:Za0 l) (i:Nat):(rdH p g (l.take i)).length≤2000*i:=by
 have key:∀ l:List TxD,(∀ t ∈ l,t.ops.length≤1000)→(rdH p g l).length≤2000*l.length:=by
  intro l
  induction l with
  | nil=>intro _;simp [rdH]
  | cons t l ih=>
   intro h
   have h1:=ih fun x hx=>h x (by simp [hx])
   have h2:=h t (by simp)
   have h3:=Zpk p g t t.ops
   unfold rdH at h1 ⊢
   rw [Y1,Yd,Yl]
   omega
 have h1:=key (l.take i) fun t ht=>h.2 t (YaS ht)
 have h2:(l.take i).length≤i:=by rw [Yj];omega
 exact Y5 h1 (Ybj _ h2)
def wwO (o:OrdD) (j:Nat):List (Zg×Int):=(List.range j).map fun i=>(⟨Nn o.txs i,Nn o.txs (i+1),1,o.key⟩,1)
def wwA (p:Int→Bool) (l:List OrdD):List (Zg×Int):=l.flatMap fun o=>if p o.key=true then wwO o (o.txs.length - 1) else []
theorem Zrd {o:OrdD} {j:Nat} : wwO o (j+1)=wwO o j ++ [(⟨Nn o.txs j,Nn o.txs (j+1),1,o.key⟩,1)]:=by unfold wwO;rw [List.range_succ,YQ];rfl
theorem ZrB {p:Int→Bool} {l:List OrdD} {i:Nat} (hi:i<l.length):wwA p (l.take (i+1))=wwA p (l.take i)++if p (Nn l i).key=true then wwO (Nn l i) ((Nn l i).txs.length - 1) else []:=by
 unfold wwA
 rw [Zr hi,YR]
 simp
theorem ZnK {κ ν:Type} [DecidableEq κ] (k:κ) (v:ν):∀ es:List (GE κ ν),(gSet k v es).length=es.length
 | []=>rfl
 | e :: es=>by
  unfold gSet
  split
  ·rfl
  ·rw [Yl,Yl,ZnK k v es]
theorem Zu0 {κ ν:Type} [DecidableEq κ] (k:κ) (v:ν) (s:List (GE κ ν)×Nat):(gPut k v s).1.length≤s.1.length+1:=by
 unfold gPut
 split
 ·show (gSet k v s.1).length≤_
  rw [ZnK];omega
 ·show (s.1 ++ [_]).length≤_
  rw [Yd];simp
theorem Zut {κ ν:Type} [DecidableEq κ] (z:ν) (k:κ) (s:List (GE κ ν)×Nat):(gEns z k s).1.length≤s.1.length+1:=by
 unfold gEns
 split
 ·omega
 ·show (s.1 ++ [_]).length≤_
  rw [Yd];simp
structure Zg4 (es:List (GE Zg Int)) (A:List (Zg×Int)) (R:List Zg):Prop where
 val:∀ e,(gGet e es).getD 0=ZmR A e+(R.count e:Int)
 one:∀ z ∈ A,z.2=1
 key:∀ e,(gGet e es).isSome=true ↔ (e ∈ A.map Prod.fst∨e ∈ R)
 len:es.length≤A.length+R.length
theorem ZlE:Zg4 [] [] []:=⟨fun _=>rfl,by simp,fun e=>by simp [gGet],Yv _⟩
theorem Zue {es:List (GE Zg Int)} {A:List (Zg×Int)} {ck:Nat} {e:Zg} (h:Zg4 es A []):Zg4 (gPut e 1 (es,ck)).1 (A ++ [(e,1)]) []:=⟨fun k=>by
 have:=h.val k
 rw [Zc1,Zh5]
 split
 ·rfl
 ·rw [this],fun z hz=>by
 rcases YE.1 hz with h1 | h1
 ·exact h.one z h1
 ·simp at h1;rw [h1],fun k=>by
 rw [Zc1,YQ,YE]
 by_cases hk:k=e
 ·rw [Yf hk];simp [hk]
 ·rw [Yc hk,h.key k];simp [hk],by
 have h1:=h.len
 have h2:=Zu0 e (1:Int) (es,ck)
 rw [Yd]
 simp only [Yl,Yy] at h1 h2 ⊢
 omega⟩
theorem ZjR {es:List (GE Zg Int)} {A:List (Zg×Int)} {R:List Zg} {ck:Nat} {e:Zg} (h:Zg4 es A R) (hl:R.length≤100000000):Zg4 (gSet e (IntKind.wrap .i64 ((gGet e es).getD 0+1)) (gEns 0 e (es,ck)).1) A (R ++ [e]):=⟨fun k=>by
 have hc:R.count e≤R.length:=List.count_le_length
 have h1:=Zp5 (k:=e) A h.one
 rw [Zc8,h.val e,Zy ow,YbN]
 by_cases hk:k=e
 ·subst hk;rw [Yf rfl];simp;omega
 ·rw [Yc hk,h.val k];simp [List.count_cons,Ne.symm hk],h.one,fun k=>by
 rw [Zc8,YE]
 by_cases hk:k=e
 ·rw [Yf hk];simp [hk]
 ·rw [Yc hk,h.key k];simp [hk],by
 have h1:=h.len
 have h2:=Zut (0:Int) e (es,ck)
 rw [ZnK,Yd]
 simp only [Yl,Yy] at h1 h2 ⊢
 omega⟩
structure FS where
 mA:Value
 mB:Value
 mC:Value
 eA:List (GE Int Int)
 kA:Nat
 eB:List (GE ZdB Int)
 kB:Nat
 eC:List (GE ZdB Int)
 kC:Nat
structure ZvM (g:Zt) (s:FS):Prop where
 dn:ZmL s.eA (Zdk g.txs)
 la:ZpO s.eB (lastK g.txs)
 nx:ZmL s.eC (nxA g.orders)
theorem Zgv:ZmW prog 250 (fun k=>∀ x ∈ ZeH k,inR .i64 x) (kvS ZeH):=Zq8 (et:=3) (n:=2) (fun _=>rfl) (fun a b h=>by cases a;cases b;simpa [ZeH] using h) kr kr kr
theorem ZcR:ZmW prog 42 (fun k=>∀ x ∈ Zaq k,inR .i64 x) (kvS Zaq):=Zdl (n:=4) (fun _=>rfl) (fun a b h=>by cases a;cases b;simpa [Zaq] using h) kr
def Zsp (g:Zt) (s:FS) (v:Value):List RS:=[.pt (.val v) 249 [.pv (.sl rTx g.txs),.pv (.sl ZP g.orders),.pv (.is s.mA),.pv (.is s.mB),.pv (.is s.mC)],.ob (.val s.mA) (ZbA (fun n:Int=>PV.int .i64 n) (fun _=>True) (fun n:Int=>Value.int .i64 n) s.eA s.kA),.ob (.val s.mB) (ZbA (fun n:Int=>PV.int .i64 n) (fun k=>∀ x ∈ ZeH k,inR .i64 x) (kvS ZeH) s.eB s.kB),.ob (.val s.mC) (ZbA (fun n:Int=>PV.int .i64 n) (fun k=>∀ x ∈ ZeH k,inR .i64 x) (kvS ZeH) s.eC s.kC)]
def ZmO (g:Zt) (v:Value):HP:=.ex fun s:FS=>.and (ZvM g s) (.star (Zsp g s v))
def Zf3 (A:List (Zg×Int)) (R:List Zg) (v:Value):HP:=.ex fun s:List (GE Zg Int)×Nat=>.and (Zg4 s.1 A R) (ZbA (fun n:Int=>PV.int .i64 n) (fun k=>∀ x ∈ Zaq k,inR .i64 x) (kvS Zaq) s.1 s.2 v)
theorem Zuz (g:Zt) (hsm:Zbc g):FnG prog 135 1 [.agg (Zs g)] [.star []] (PV.ptr) (fun v=>[ZmO g v]):=by
 refine FnG.mk func135 rfl ntmps135 rfl kr fun B F0 a w F V hG G=>?_
 have hs:=hsm.1
 have hsl:=hs.1
 have hso:=hsm.2
 have hol1:=hso.1
 refine Ya (Zb G (qx 101 r1 (qC qZ)) V [2,1] [101,1,0] (fun _=>rfl) (fun _=>rfl) fun τ a w F G=>?_)
 try dsimp only [RS.sub,SF.sub,CF.sub,csub,Anc.sub,List.map,zCF,Zs,rTx,ZP,ZS,rInt,rOp] at G
 generalize τ 1=v1 at G
 refine Za (Ya (Zb G (qe 2 101 r1 r1 (qf (ZaR (ek:=(fun n:Int=>PV.int .i64 n)) (ok:=(fun _=>True)) (kv:=(fun n:Int=>Value.int .i64 n)) 102) trivial qz (qf (ZaR (ek:=(fun n:Int=>PV.int .i64 n)) (ok:=(fun k=>∀ x ∈ ZeH k,inR .i64 x)) (kv:=(kvS ZeH)) 103) trivial qz (qf (ZaR (ek:=(fun n:Int=>PV.int .i64 n)) (ok:=(fun k=>∀ x ∈ ZeH k,inR .i64 x)) (kv:=(kvS ZeH)) 104) trivial qz (qf (oB [(0,.tmp 13),(1,.tmp 14),(2,.tmp 15),(3,.tmp 16)] [.slice none 0 0,.slice none 0 0,.map none,.map none,.map none] [(0,2),(2,1),(3,1),(4,1)] (.agg rfl .t kr kr (.same rfl kr (.same rfl kr (.same rfl kr .nil))))) r4 qz (qf (oX 105 .t) r1 qz (qO rr qZ))))))) V [3,2,1] [105,104,103,102,101,1,0] (fun _=>rfl) (fun _=>rfl) fun τ a w F G=>?_))
 try dsimp only [RS.sub,SF.sub,CF.sub,csub,Anc.sub,List.map,Ze,xL,xM,Nat.reduceAdd,xD,xE,xT,xU,xC,xN,zCF,ldSF,Zs,rTx,ZP,ZS,rInt,rOp] at G
 generalize τ 18=v18 at G
 generalize τ 14=v14 at G
 generalize τ 15=v15 at G
 generalize τ 16=v16 at G
 refine Za (Ya (Ya (rZ G (qg 0 101 r1 r1 (qa 101 r1 r1 (qu underlying22 r1 (qJ qZ)))) V [22,21,20,3,2,1] [105,104,103,102,101,1,0] fun G=>Yg ?_)))
 refine Zl (σ:=(Nat)×(List (GE Int Int))×(Nat)×(List (GE ZdB Int))×(Nat)) [1,2,3,20,21] [0,1,101,104,105] (fun s=>[(22,.pv (.int .i64 (s.1:Int)))]) (fun s=>[(102,.ob (.val v14) (ZbA (fun n:Int=>PV.int .i64 n) (fun _=>True) (fun n:Int=>Value.int .i64 n) s.2.1 s.2.2.1)),(103,.ob (.val v15) (ZbA (fun n:Int=>PV.int .i64 n) (fun k=>∀ x ∈ ZeH k,inR .i64 x) (kvS ZeH) s.2.2.2.1 s.2.2.2.2))]) (fun s=>s.1≤g.txs.length∧(ZmL s.2.1 (Zdk (g.txs.take s.1))∧ZpO s.2.2.2.1 (lastK (g.txs.take s.1)))) (fun s=>g.txs.length - s.1) ((0),([]),(0),([]),(0)) G ⟨rfl,rfl,rfl,rfl,rfl,rfl,tv⟩ ⟨rfl,rfl,rfl,rfl,rfl,rfl,rfl,tv⟩ ⟨Yv _,⟨fun _=>rfl,fun _=>rfl⟩⟩ ?_
 clear G;intro s a w F hC G
 obtain ⟨i,eA,kA,eB,kB⟩:=s
 try dsimp only at hC
 obtain ⟨F,G⟩:=G.nM [22,21,20,3,2,1] [105,104,103,102,101,1,0]
 try dsimp only at G
 obtain ⟨hi,hq⟩:=hC
 have hxl:=fun hil:i<g.txs.length=>hs.at hil
 refine Ya (rZ G (qL r2) V [23,22,21,20,3,2,1] [105,104,103,102,101,1,0] fun G=>Ya ?_)
 refine Zc G rfl (fun hc0=>?_) (fun hc0=>?_)
 ·have hil:i<g.txs.length:=by simp at hc0;omega
  have hio:=hil
  have htl:=hxl hil
  have hsl:=hs.1
  have hdn0:=hq.1
  have hcn:=hq.2
  refine Ye (Za (Ya (Yg (Ya (Zb G (qy 3 underlying22 r2 (qf (oR true 3 .t) r1 qz (qf (oH [.int .i64 0,.bool false,.slice none 0 0] 106) trivial qz (qS 3 106 r2 r1 qZ)))) V [22,21,20,5,3,2,1] [106,105,104,103,102,101,1,0] (fun _=>rfl) (fun _=>rfl) fun τ a w F G=>?_)))))
  try dsimp only [RS.sub,SF.sub,CF.sub,csub,Anc.sub,List.map,Ze,xL,xM,Nat.reduceAdd,xD,xE,xT,xU,xC,xN,zCF,ldSF,Zs,rTx,ZP,ZS,rInt,rOp] at G
  generalize τ 5=v5 at G
  try simp only [Yb] at G
  refine Za (Ya (Ya (rZ G (qg 1 106 r1 r1 (qa 106 r1 r1 (qf (o_not .t) r1 qz qZ))) V [28,22,21,20,5,3,2,1] [106,105,104,103,102,101,1,0] fun G=>?_)))
  refine Zc G rfl (fun hc1=>?_) (fun hc1=>?_)
  ·have hdn:(Nn g.txs i).done=false:=by simpa using hc1
   obtain ⟨eA2,heA2⟩:∃ z,z=eA:=⟨_,rfl⟩
   obtain ⟨kA2,hkA2⟩:∃ z,z=kA:=⟨_,rfl⟩
   obtain ⟨eB2,heB2⟩:∃ z,z=eB:=⟨_,rfl⟩
   obtain ⟨kB2,hkB2⟩:∃ z,z=kB:=⟨_,rfl⟩
   rw [← heA2,← hkA2,← heB2,← hkB2] at G
   have hR2:ZmL eA2 (Zdk (g.txs.take (i+1)))∧ZpO eB2 (lastK (g.txs.take (i+1))):=by rw [heA2,heB2,Zfq hio,ZgE hio,Yc (by rw [hdn];simp),Yc (by rw [hdn];simp),YP,YP];exact ⟨hdn0,hcn⟩
   refine Yw (Zi (Zn (Za (rZ G (qp r1 (qR rr qZ)) V [22,21,20,3,2,1] [106,105,104,103,102,101,1,0] fun G=>?_))))
   replace G:=G.ent (i:=22) (s':=.pv (.int .i64 ((i+1:Nat):Int))) rfl (.int (Zd ow))
   obtain ⟨F,G⟩:=G.nM [21,20,3,2,1,22] [105,104,101,1,0,103,102]
   exact ⟨((i+1),(eA2),(kA2),(eB2),(kB2)),F,⟨by omega,hR2⟩,G,by omega⟩
  have hdn:(Nn g.txs i).done=true:=by simpa using hc1
  refine Ye (Za (Ya (Zx G (qR rr (qf (o_nilCheck 105 .is (by rfl)) r1 r1 (qf (oF 2 105 .adr) r1 r1 (qa 105 r1 r1 (qg 0 106 r1 r1 (qa 106 r1 r1 (qf (o_mapUpdateG (ek:=(fun n:Int=>PV.int .i64 n)) 102 underlying75 (Zcu underlying3) .is (ZI.int .t rfl) qi) r2 r1 qZ))))))) V [22,21,20,5,3,2,1] [106,105,104,103,102,101,1,0] rfl rfl fun a w F G=>?_)))
  try dsimp only [List.map,xD,xE,xT,xU,ldSF,Zs,rTx,ZP,ZS,rInt,rOp] at G
  obtain ⟨eA2,heA2⟩:∃ z,z=(gPut (Nn g.txs i).id 1 (eA,kA)).1:=⟨_,rfl⟩
  obtain ⟨kA2,hkA2⟩:∃ z,z=(gPut (Nn g.txs i).id 1 (eA,kA)).2:=⟨_,rfl⟩
  rw [← heA2,← hkA2] at G
  refine Za (Ya (rZ G (qg 2 106 r1 r1 (qa 106 r1 r1 (qu underlying28 r1 (qJ qZ)))) V [38,37,36,22,21,20,5,3,2,1] [106,105,104,103,102,101,1,0] fun G=>Yg ?_))
  refine Zl (σ:=(Nat)×(List (GE ZdB Int))×(Nat)) [1,2,3,5,20,21,22,36,37] [0,1,101,102,104,105,106] (fun s=>[(38,.pv (.int .i64 (s.1:Int)))]) (fun s=>[(103,.ob (.val v15) (ZbA (fun n:Int=>PV.int .i64 n) (fun k=>∀ x ∈ ZeH k,inR .i64 x) (kvS ZeH) s.2.1 s.2.2))]) (fun s=>s.1≤(Nn g.txs i).ops.length∧(ZpO s.2.1 (lastK (g.txs.take i)++ZbP (Nn g.txs i).id ((Nn g.txs i).ops.take s.1)))) (fun s=>(Nn g.txs i).ops.length - s.1) ((0),(eB),(kB)) G ⟨rfl,rfl,rfl,rfl,rfl,rfl,rfl,rfl,rfl,rfl,tv⟩ ⟨rfl,rfl,rfl,rfl,rfl,rfl,rfl,rfl,tv⟩ ⟨Yv _,(by show ZpO _ (lastK (g.txs.take i) ++ []);rw [YP];exact hcn)⟩ ?_
  clear G;intro s a w F hC G
  obtain ⟨j,eB3,kB3⟩:=s
  try dsimp only at hC
  obtain ⟨F,G⟩:=G.nM [38,37,36,22,21,20,5,3,2,1] [106,105,104,103,102,101,1,0]
  try dsimp only at G
  obtain ⟨hi,hq⟩:=hC
  refine Ya (rZ G (qL r2) V [39,38,37,36,22,21,20,5,3,2,1] [106,105,104,103,102,101,1,0] fun G=>Ya ?_)
  refine Zc G rfl (fun hc2=>?_) (fun hc2=>?_)
  ·have hil:j<(Nn g.txs i).ops.length:=by simp at hc2;omega
   refine Ye (Za (Ya (Yg (Ya (Zb G (qy 4 underlying28 r2 (qf (oR true 4 .t) r1 qz (qf (oH [.bool false,.int .i64 0,.int .i64 0,.int .i64 0] 107) trivial qz (qS 4 107 r2 r1 qZ)))) V [38,37,36,22,21,20,7,5,3,2,1] [107,106,105,104,103,102,101,1,0] (fun _=>rfl) (fun _=>rfl) fun τ a w F G=>?_)))))
   try dsimp only [RS.sub,SF.sub,CF.sub,csub,Anc.sub,List.map,Ze,xL,xM,Nat.reduceAdd,xD,xE,xT,xU,xC,xN,zCF,ldSF,Zs,rTx,ZP,ZS,rInt,rOp] at G
   generalize τ 7=v7 at G
   try simp only [Yb] at G
   refine Za (Ya (rZ G (qg 0 107 r1 r1 (qa 107 r1 r1 (qf (o_not .t) r1 qz qZ))) V [44,38,37,36,22,21,20,7,5,3,2,1] [107,106,105,104,103,102,101,1,0] fun G=>?_))
   refine Zc G rfl (fun hc3=>?_) (fun hc3=>?_)
   ·have hrd:(Nn (Nn g.txs i).ops j).read=false:=by simpa using hc3
    replace G:=G.turnZ 103 (0) (⟨(Nn g.txs i).id,(Nn (Nn g.txs i).ops j).key⟩:ZdB) rfl
    refine Za8 103 13 (m1:=1) (m2:=2) kr G kr (qR rr (qf (o_nilCheck 105 .is (by rfl)) r1 r1 (qf (oF 3 105 .adr) r1 r1 (qa 105 r1 r1 (qg 0 106 r1 r1 (qa 106 r1 r1 (qg 1 107 r1 r1 (qa 107 r1 r1 (qf (Zbl (sz:=1) (r:=[(0,.tmp 50),(1,.tmp 52)]) (zs:=[.int .i64 0,.int .i64 0]) (pl:=[(0,1),(1,1)]) underlying250 kr kr rfl (.one rfl .t one_int kr (.one rfl .t one_int kr .nil)) (by rfl)) r2 qz (qf (Zb6 (ek:=(fun n:Int=>PV.int .i64 n)) (z0:=(0)) 103 underlying247 Zgv kr (fun _ _=>⟨rfl,Zdj⟩) .is (ZI.agg (enc:=ZeH) (k:=(⟨(Nn g.txs i).id,(Nn (Nn g.txs i).ops j).key⟩:ZdB)) (.pagg .t) rfl)) r2 r1 (qp r1 (qf (Za9 (ek:=(fun n:Int=>PV.int .i64 n)) (z0:=(0)) 103 underlying247 Zgv kr (fun _ _=>⟨rfl,Zdj⟩) .is (ZI.agg (enc:=ZeH) (k:=(⟨(Nn g.txs i).id,(Nn (Nn g.txs i).ops j).key⟩:ZdB)) (.pagg .t) rfl) (by intros;first | rfl | simp [Anc.v,upd])) r2 r1 (qf (Zh .t rfl) r1 qz (qf (ZaK 103 (ZbB _ _ _) .is .t .t) r3 r1 qZ)))))))))))))) kr kr kr rfl rfl rfl (fun _ _ _ _ h=>.inr h) (by rw [V];kernel_rfl) fun a w F G=>?_
    obtain ⟨F,G⟩:=G.nM [38,37,36,22,21,20,5,3,2,1] [107,106,105,104,103,102,101,1,0]
    try dsimp only [List.map,Ze,xL,xM,Nat.reduceAdd,xD,xE,xT,xU,xC,xN,zCF,ldSF,Zs,rTx,ZP,ZS,rInt,rOp] at G
    obtain ⟨eB4,heB4⟩:∃ z,z=gSet (⟨(Nn g.txs i).id,(Nn (Nn g.txs i).ops j).key⟩:ZdB) (IntKind.wrap .i64 ((gGet (⟨(Nn g.txs i).id,(Nn (Nn g.txs i).ops j).key⟩:ZdB) eB3).getD 0+1)) (gEns 0 (⟨(Nn g.txs i).id,(Nn (Nn g.txs i).ops j).key⟩:ZdB) (eB3,kB3)).1:=⟨_,rfl⟩
    obtain ⟨kB4,hkB4⟩:∃ z,z=(gEns 0 (⟨(Nn g.txs i).id,(Nn (Nn g.txs i).ops j).key⟩:ZdB) (eB3,kB3)).2:=⟨_,rfl⟩
    rw [← heB4,← hkB4] at G
    have hR3:ZpO eB4 (lastK (g.txs.take i)++ZbP (Nn g.txs i).id ((Nn g.txs i).ops.take (j+1))):=by rw [heB4,ZfF hil,Yc (by rw [hrd];simp),← YJ];exact Ztg hq (by have h1:=ZoK hs i;have h2:=Zg0 (Nn g.txs i).id ((Nn g.txs i).ops.take j);rw [Yj] at h2;rw [Yd];omega)
    refine Zj (Za (rZ G (qp r1 (qR rr qZ)) V [38,37,36,22,21,20,5,3,2,1] [107,106,105,104,103,102,101,1,0] fun G=>?_))
    replace G:=G.ent (i:=38) (s':=.pv (.int .i64 ((j+1:Nat):Int))) rfl (.int (Zd ow))
    obtain ⟨F,G⟩:=G.nM [37,36,22,21,20,5,3,2,1,38] [106,105,104,102,101,1,0,103]
    exact ⟨((j+1),(eB4),(kB4)),F,⟨by omega,hR3⟩,G,by omega⟩
   have hrd:(Nn (Nn g.txs i).ops j).read=true:=by simpa using hc3
   obtain ⟨eB4,heB4⟩:∃ z,z=eB3:=⟨_,rfl⟩
   obtain ⟨kB4,hkB4⟩:∃ z,z=kB3:=⟨_,rfl⟩
   rw [← heB4,← hkB4] at G
   have hR3:ZpO eB4 (lastK (g.txs.take i)++ZbP (Nn g.txs i).id ((Nn g.txs i).ops.take (j+1))):=by rw [heB4,ZfF hil,Yf hrd,YP];exact hq
   refine Ye (Zj (Za (rZ G (qp r1 (qR rr qZ)) V [38,37,36,22,21,20,5,3,2,1] [107,106,105,104,103,102,101,1,0] fun G=>?_)))
   replace G:=G.ent (i:=38) (s':=.pv (.int .i64 ((j+1:Nat):Int))) rfl (.int (Zd ow))
   obtain ⟨F,G⟩:=G.nM [37,36,22,21,20,5,3,2,1,38] [106,105,104,102,101,1,0,103]
   exact ⟨((j+1),(eB4),(kB4)),F,⟨by omega,hR3⟩,G,by omega⟩
  have hil:j=(Nn g.txs i).ops.length:=by simp at hc2;omega
  rw [hil,YD] at hq
  obtain ⟨eB2,heB2⟩:∃ z,z=eB3:=⟨_,rfl⟩
  obtain ⟨kB2,hkB2⟩:∃ z,z=kB3:=⟨_,rfl⟩
  rw [← heB2,← hkB2] at G
  have hR2:ZmL eA2 (Zdk (g.txs.take (i+1)))∧ZpO eB2 (lastK (g.txs.take (i+1))):=by rw [heA2,heB2,Zfq hio,ZgE hio,Yf hdn,Yf hdn];exact ⟨Zox hdn0,hq⟩
  refine Yw (Zi (Zi (Zn (Zj (Za (rZ G (qp r1 (qR rr qZ)) V [22,21,20,3,2,1] [106,105,104,103,102,101,1,0] fun G=>?_))))))
  replace G:=G.ent (i:=22) (s':=.pv (.int .i64 ((i+1:Nat):Int))) rfl (.int (Zd ow))
  obtain ⟨F,G⟩:=G.nM [21,20,3,2,1,22] [105,104,101,1,0,103,102]
  exact ⟨((i+1),(eA2),(kA2),(eB2),(kB2)),F,⟨by omega,hR2⟩,G,by omega⟩
 have hil:i=g.txs.length:=by simp at hc0;omega
 rw [hil,YD] at hq
 have hdA:=hq.1
 have hdB:=hq.2
 refine Yw (Zi (Zi (Zn (Za (Ya (Ya (rZ G (qg 1 101 r1 r1 (qa 101 r1 r1 (qu underlying23 r1 (qJ qZ)))) V [63,62,61,3,2] [105,104,103,102,101,1,0] fun G=>Yg ?_)))))))
 refine Zl (σ:=(Nat)×(List (GE ZdB Int))×(Nat)) [2,3,61,62] [0,1,101,102,103,105] (fun s=>[(63,.pv (.int .i64 (s.1:Int)))]) (fun s=>[(104,.ob (.val v16) (ZbA (fun n:Int=>PV.int .i64 n) (fun k=>∀ x ∈ ZeH k,inR .i64 x) (kvS ZeH) s.2.1 s.2.2))]) (fun s=>s.1≤g.orders.length∧(ZmL s.2.1 (nxA (g.orders.take s.1)))) (fun s=>g.orders.length - s.1) ((0),([]),(0)) G ⟨rfl,rfl,rfl,rfl,rfl,tv⟩ ⟨rfl,rfl,rfl,rfl,rfl,rfl,rfl,tv⟩ ⟨Yv _,(fun _=>rfl)⟩ ?_
 clear G;intro s a w F hC G
 obtain ⟨i,eC,kC⟩:=s
 try dsimp only at hC
 obtain ⟨F,G⟩:=G.nM [63,62,61,3,2] [105,104,103,102,101,1,0]
 try dsimp only at G
 obtain ⟨hi,hq⟩:=hC
 have hol:=fun hil:i<g.orders.length=>hso.at hil
 refine Ya (rZ G (qL r2) V [64,63,62,61,3,2] [105,104,103,102,101,1,0] fun G=>Ya ?_)
 refine Zc G rfl (fun hc4=>?_) (fun hc4=>?_)
 ·have hil:i<g.orders.length:=by simp at hc4;omega
  have hio:=hil
  have hcn:=hq
  have hox:=hol hil
  have hol1:=hso.1
  refine Ye (Za (Ya (Yg (Ya (Zb G (qy 2 underlying23 r2 (qf (oR true 2 .t) r1 qz (qf (oH [.int .i64 0,.slice none 0 0] 108) trivial qz (qS 2 108 r2 r1 qZ)))) V [63,62,61,9,3,2] [108,105,104,103,102,101,1,0] (fun _=>rfl) (fun _=>rfl) fun τ a w F G=>?_)))))
  try dsimp only [RS.sub,SF.sub,CF.sub,csub,Anc.sub,List.map,Ze,xL,xM,Nat.reduceAdd,xD,xE,xT,xU,xC,xN,zCF,ldSF,Zs,rTx,ZP,ZS,rInt,rOp] at G
  generalize τ 9=v9 at G
  try simp only [Yb] at G
  refine Za (Ya (rZ G (qI qZ) V [63,62,61,10,9,3,2] [108,105,104,103,102,101,1,0] fun G=>Ya ?_))
  refine rZ G (qg 1 108 r1 r1 (qa 108 r1 r1 (qu underlying45 r1 (qJ qZ)))) V [70,69,68,63,62,61,10,9,3,2] [108,105,104,103,102,101,1,0] fun G=>Yg ?_
  replace G:=G.ent (i:=10) (s':=.pv (.int .i64 (atI (Nn g.orders i).txs 0))) rfl (.int rfl)
  refine Zl (σ:=(Nat)×(List (GE ZdB Int))×(Nat)) [2,3,9,61,62,63,68,69] [0,1,101,102,103,105,108] (fun s=>[(70,.pv (.int .i64 (s.1:Int))),(10,.pv (.int .i64 (atI (Nn g.orders i).txs s.1)))]) (fun s=>[(104,.ob (.val v16) (ZbA (fun n:Int=>PV.int .i64 n) (fun k=>∀ x ∈ ZeH k,inR .i64 x) (kvS ZeH) s.2.1 s.2.2))]) (fun s=>s.1≤(Nn g.orders i).txs.length∧(ZmL s.2.1 (nxA (g.orders.take i)++nxO (Nn g.orders i) s.1))) (fun s=>(Nn g.orders i).txs.length - s.1) ((0),(eC),(kC)) G ⟨rfl,rfl,rfl,rfl,rfl,rfl,rfl,rfl,rfl,rfl,tv⟩ ⟨rfl,rfl,rfl,rfl,rfl,rfl,rfl,rfl,tv⟩ ⟨Yv _,(by show ZmL _ (nxA (g.orders.take i) ++ []);rw [YP];exact hcn)⟩ ?_
  clear G;intro s a w F hC G
  obtain ⟨j,eC3,kC3⟩:=s
  try dsimp only at hC
  obtain ⟨F,G⟩:=G.nM [70,69,68,63,62,61,10,9,3,2] [108,105,104,103,102,101,1,0]
  try dsimp only at G
  obtain ⟨hi,hq⟩:=hC
  refine Ya (rZ G (qL r2) V [71,70,69,68,63,62,61,10,9,3,2] [108,105,104,103,102,101,1,0] fun G=>Ya ?_)
  refine Zc G rfl (fun hc5=>?_) (fun hc5=>?_)
  ·have hil:j<(Nn g.orders i).txs.length:=by simp at hc5;omega
   refine Ye (Za (Ya (Yg (Ya (Zf G (qy 1 underlying45 r2 (qf (oR false 1 .t) r1 qz (qO rr qZ))) V [70,69,68,63,62,61,12,10,9,3,2] [108,105,104,103,102,101,1,0] rfl rfl fun a w F G=>?_)))))
   try simp only [Yb] at G
   refine Za (Ya (Zx G (qR rr (qf (o_nilCheck 105 .is (by rfl)) r1 r1 (qf (oF 4 105 .adr) r1 r1 (qa 105 r1 r1 (qg 0 108 r1 r1 (qa 108 r1 r1 (qR rr (qf (Zbl (sz:=1) (r:=[(0,.tmp 79),(1,.tmp 80)]) (zs:=[.int .i64 0,.int .i64 0]) (pl:=[(0,1),(1,1)]) underlying250 kr kr rfl (.one rfl .t one_int kr (.one rfl .t one_int kr .nil)) (by rfl)) r2 qz (qR rr (qf (o_mapUpdateG (ek:=(fun n:Int=>PV.int .i64 n)) 104 underlying247 Zgv .is (ZI.agg (enc:=ZeH) (k:=(⟨(Nn g.orders i).key,atI (Nn g.orders i).txs j⟩:ZdB)) (.pagg .t) rfl) .t) r3 r1 qZ)))))))))) V [70,69,68,63,62,61,12,10,9,3,2] [108,105,104,103,102,101,1,0] rfl rfl fun a w F G=>?_))
   try dsimp only [List.map,Ze,xL,xM,Nat.reduceAdd,xD,xE,xT,xU,xC,xN,zCF,ldSF,Zs,rTx,ZP,ZS,rInt,rOp] at G
   obtain ⟨eC4,heC4⟩:∃ z,z=(gPut (⟨(Nn g.orders i).key,atI (Nn g.orders i).txs j⟩:ZdB) (Nn (Nn g.orders i).txs j) (eC3,kC3)).1:=⟨_,rfl⟩
   obtain ⟨kC4,hkC4⟩:∃ z,z=(gPut (⟨(Nn g.orders i).key,atI (Nn g.orders i).txs j⟩:ZdB) (Nn (Nn g.orders i).txs j) (eC3,kC3)).2:=⟨_,rfl⟩
   rw [← heC4,← hkC4] at G
   have hR3:ZmL eC4 (nxA (g.orders.take i)++nxO (Nn g.orders i) (j+1)):=by rw [heC4,ZrU,← YJ];exact Zox hq
   refine Za (Zf G (qR rr (qO rr qZ)) V [70,69,68,63,62,61,10,9,3,2] [108,105,104,103,102,101,1,0] rfl rfl fun a w F G=>Zj (Za ?_))
   refine rZ G (qp r1 (qR rr qZ)) V [70,69,68,63,62,61,10,9,3,2] [108,105,104,103,102,101,1,0] fun G=>?_
   replace G:=G.ent (i:=70) (s':=.pv (.int .i64 ((j+1:Nat):Int))) rfl (.int (Zd ow))
   replace G:=G.ent (i:=10) (s':=.pv (.int .i64 (atI (Nn g.orders i).txs (j+1)))) rfl (.int (by simp [atI]))
   obtain ⟨F,G⟩:=G.nM [69,68,63,62,61,9,3,2,10,70] [108,105,103,102,101,1,0,104]
   exact ⟨((j+1),(eC4),(kC4)),F,⟨by omega,hR3⟩,G,by omega⟩
  have hil:j=(Nn g.orders i).txs.length:=by simp at hc5;omega
  rw [hil] at hq
  obtain ⟨eC2,heC2⟩:∃ z,z=eC3:=⟨_,rfl⟩
  obtain ⟨kC2,hkC2⟩:∃ z,z=kC3:=⟨_,rfl⟩
  rw [← heC2,← hkC2] at G
  have hR2:ZmL eC2 (nxA (g.orders.take (i+1))):=by rw [heC2,Zq2 hio];exact hq
  refine Yw (Zi (Zi (Zn (Zj (Za (rZ G (qp r1 (qR rr qZ)) V [63,62,61,3,2] [108,105,104,103,102,101,1,0] fun G=>?_))))))
  replace G:=G.ent (i:=63) (s':=.pv (.int .i64 ((i+1:Nat):Int))) rfl (.int (Zd ow))
  obtain ⟨F,G⟩:=G.nM [62,61,3,2,63] [105,103,102,101,1,0,104]
  exact ⟨((i+1),(eC2),(kC2)),F,⟨by omega,hR2⟩,G,by omega⟩
 have hil:i=g.orders.length:=by simp at hc4;omega
 rw [hil,YD] at hq
 have hdC:=hq
 refine Yw (Zi (Zi (Zn (Za (Ya (rZ G (qR rr (qO rr qZ)) V [2] [105,104,103,102,101,1,0] fun G=>Yh ?_))))))
 obtain ⟨b,rfl⟩:=G.shape 105 rfl
 obtain ⟨F,G⟩:=G.push 1 104 rfl rfl rfl kr
 obtain ⟨F,G⟩:=G.push 1 103 rfl rfl rfl kr
 obtain ⟨F,G⟩:=G.push 1 102 rfl rfl rfl kr
 obtain ⟨F,G⟩:=G.push 1 105 rfl rfl rfl kr
 have G:=G.turn 1 rfl (r':=RS.hp (ZmO g (.pointer (some ⟨b,0,none⟩)))) (fun _ _ _ _ h=>⟨(⟨v14,v15,v16,eA,kA,eB,kB,eC,kC⟩:FS),⟨hdA,hdB,hdC⟩,h⟩)
 refine Z8 (h':=fun v=>ZmO g v) hG G rfl (.tmp rfl .nil) (.one .ptr) rfl
end Go.Proofs.YtlkpllemoepamaaGreat
