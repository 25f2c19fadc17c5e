/- Laws and walks. No condition beyond what each says. -/
import Derived.Test.YtlkpllemoepamaaGreatJ2
namespace Go.Proofs.YtlkpllemoepamaaGreat
open Go Go.Gm Tryz
set_option linter.unusedVariables false
set_option linter.unusedSimpArgs false
set_option maxHeartbeats 4000000
set_option maxRecDepth 8000
def Zb1 (h:Zq):Prop:=h.txs.length≤12∧h.orders.length≤24∧(∀ j,j<h.txs.length→(Nn h.txs j).ops.length≤24) ∧ ∀ j,j<h.orders.length→(Nn h.orders j).txs.length≤24
instance (h:Zq):Decidable (Zb1 h):=by unfold Zb1;exact inferInstance
def ZkG (d:ZgC):Prop:=Zb1 ⟨d.was,d.old⟩∧Zb1 ⟨d.now,d.new⟩
instance (d:ZgC):Decidable (ZkG d):=by unfold ZkG;exact inferInstance
theorem Zsd {α:Type} [Inhabited α] {q:List α} {x:α} (h:x ∈ q):∃ j,j<q.length∧Nn q j=x:=by
 obtain ⟨j,hj,e⟩:=YY h
 exact ⟨j,hj,by rw [nth_eq hj];exact e⟩
theorem ZkG.ok {d:ZgC} (h:ZkG d):DOk d:=by
 obtain ⟨⟨h1,h2,h3,h4⟩,h5,h6,h7,h8⟩:=h
 dsimp only at h1 h2 h3 h4 h5 h6 h7 h8
 refine ⟨⟨by omega,fun t ht=>?_⟩,⟨by omega,fun t ht=>?_⟩,⟨by omega,fun t ht=>?_⟩,⟨by omega,fun t ht=>?_⟩⟩ <;> obtain ⟨j,hj,rfl⟩:=Zsd ht
 ·have:=h3 j hj;omega
 ·have:=h7 j hj;omega
 ·have:=h4 j hj;omega
 ·have:=h8 j hj;omega
theorem ZoM (u:Zq):FnP prog 11 [.agg (Zx u)] (.bool (decide (Zb1 u))):=by
 refine FnP.mk func11 rfl ntmps11 rfl fun B a w F Z hfr G=>?_
 obtain ⟨hxl,hyl⟩:=Sat.lenHist G (i:=0) rfl
 refine Ya (Zb G (qx 101 r1 qB) Z [2,1] [101,0] (fun _=>rfl) (fun _=>rfl) fun τ a w F G=>?_)
 try dsimp only [RS.sub,SF.sub,CF.sub,csub,Anc.sub,List.map,zCF] at G
 generalize τ 1=v1 at G
 refine Za (Ya (Ya (rZ G (qg 0 101 r1 r1 (qa 101 r1 r1 (qu Yb3 r1 (qf (ZaV .t qi) r1 qz (qR rr (qv 1 101 rfl r2 r1 (qw 101 rfl r2 r1 (qk rfl (fun h=>Zbe Yb6 (.w h)) r2 qz (qk rfl (fun h=>ZaV (.w h) qi) r2 qz (qf (Zab .t .t) r2 qz qZ)))))))))) Z [16,2,1] [101,0] fun G=>?_)))
 refine Zc G rfl (fun hc0=>?_) (fun hc0=>?_)
 ·have hg:false=decide (Zb1 u):=by
    rw [Yay,YH]
    rintro ⟨g1,g2,g3,g4⟩
    simp at hc0;omega
  refine Ya (rZ G qB Z [2,1] [101,0] fun G=>(Yh (Zm ?_)))
  refine Zw hfr G rfl rfl rfl (.bool hg)
 have hb:u.txs.length≤12∧u.orders.length≤24:=by simp at hc0;omega
 refine Yf (Za (Ya (Ya (rZ G (qg 0 101 r1 r1 (qa 101 r1 r1 (qu Yb3 r1 (qJ qZ)))) Z [20,19,18,2,1] [101,0] fun G=>Yg ?_))))
 obtain ⟨F,G⟩:=G.nM [20,19,18,1] [101,0]
 refine Zbb (σ:=Nat) (fun s=>(⟨[(1,.pv (.is v1)),(18,.pv (.sl rTx u.txs)),(19,.pv (.int .i64 u.txs.length)),(20,.pv (.int .i64 s))],[(0,frame B),(101,.pt (.val v1) 25 [.pv (.sl rTx u.txs),.pv (.sl ZV u.orders)])]⟩:En)) (fun s=>s≤u.txs.length ∧ ∀ j,j<s→(Nn u.txs j).ops.length≤24) (fun s=>u.txs.length - s) 0 G ⟨Yw _,fun j hj=>absurd hj (Y9 j)⟩ ?_
 clear G;intro i a w F hC G
 try dsimp only at hC
 try dsimp only at G
 obtain ⟨hi,hq⟩:=hC
 refine Ya (rZ G (qL r2) Z [21,20,19,18,1] [101,0] fun G=>Ya ?_)
 refine Zc G rfl (fun hc1=>?_) (fun hc1=>?_)
 ·have hil:i<u.txs.length:=by simp at hc1;omega
  refine Yf (Za (Ya (Yg (Ya (Zb G (qy 3 Yb3 r2 (qf (oR true 3 .t) r1 qz (qf (oH [.int .i64 0,.bool false,.slice none 0 0] 102) trivial qz (qS 3 102 r2 r1 qZ)))) Z [20,19,18,4,1] [102,101,0] (fun _=>rfl) (fun _=>rfl) fun τ a w F G=>?_)))))
  try dsimp only [RS.sub,SF.sub,CF.sub,csub,Anc.sub,List.map,Zf,xL,xM,Nat.reduceAdd,xD,xE,xT,xU,xC,xN,zCF,ldSF] at G
  generalize τ 4=v4 at G
  refine Za (Ya (rZ G (qg 2 102 r1 r1 (qa 102 r1 r1 (qu Yb2 r1 (qf (ZaV .t qi) r1 qz qZ)))) Z [27,20,19,18,1] [101,0] fun G=>?_))
  refine Zc G rfl (fun hc2=>?_) (fun hc2=>?_)
  ·have hg:false=decide (Zb1 u):=by
     rw [Yay,YH]
     rintro ⟨g1,g2,g3,g4⟩
     have:=g3 i hil;rw [Yc] at hc2;simp at hc2;omega
   refine Ya (rZ G qB Z [20,19,18,2,1] [101,0] fun G=>(Yh (ZB (Zm (Zm (ZB (Zm ?_)))))))
   refine Zw hfr G rfl rfl rfl (.bool hg)
  have hqi:(Nn u.txs i).ops.length≤24:=by rw [Yc] at hc2;simp at hc2;omega
  refine Yf (Zk (Za (rZ G (qp r1 (qR rr qZ)) Z [20,19,18,1] [101,0] fun G=>?_)))
  replace G:=G.ent (i:=20) (s':=.pv (.int .i64 ((i+1:Nat):Int))) rfl (.int (Zd ow))
  obtain ⟨F,G⟩:=G.nM [20,19,18,1] [101,0]
  exact ⟨i+1,F,⟨by omega,fun j hj=>by rcases Y8 (Yad hj) with h | h;exact hq j h;rw [h];exact hqi⟩,G,by omega⟩
 have hT:∀ j,j<u.txs.length→(Nn u.txs j).ops.length≤24:=fun j hj=>hq j (by simp at hc1;omega)
 clear hq hi
 refine Yx (Zj (Zj (Zr (Za (Ya (Ya (rZ G (qg 1 101 r1 r1 (qa 101 r1 r1 (qu Yb6 r1 (qJ qZ)))) Z [32,31,30] [0] fun G=>Yg ?_)))))))
 obtain ⟨F,G⟩:=G.nM [32,31,30] [0]
 refine Zbb (σ:=Nat) (fun s=>(⟨[(30,.pv (.sl ZV u.orders)),(31,.pv (.int .i64 u.orders.length)),(32,.pv (.int .i64 s))],[(0,frame B)]⟩:En)) (fun s=>s≤u.orders.length ∧ ∀ j,j<s→(Nn u.orders j).txs.length≤24) (fun s=>u.orders.length - s) 0 G ⟨Yw _,fun j hj=>absurd hj (Y9 j)⟩ ?_
 clear G;intro i a w F hC G
 try dsimp only at hC
 try dsimp only at G
 obtain ⟨hi,hq⟩:=hC
 refine Ya (rZ G (qL r2) Z [33,32,31,30] [0] fun G=>Ya ?_)
 refine Zc G rfl (fun hc3=>?_) (fun hc3=>?_)
 ·have hil:i<u.orders.length:=by simp at hc3;omega
  refine Yf (Za (Ya (Yg (Ya (Zb G (qy 2 Yb6 r2 (qf (oR true 2 .t) r1 qz (qf (oH [.int .i64 0,.slice none 0 0] 103) trivial qz (qS 2 103 r2 r1 qZ)))) Z [32,31,30,6] [103,0] (fun _=>rfl) (fun _=>rfl) fun τ a w F G=>?_)))))
  try dsimp only [RS.sub,SF.sub,CF.sub,csub,Anc.sub,List.map,Zf,xL,xM,Nat.reduceAdd,xD,xE,xT,xU,xC,xN,zCF,ldSF] at G
  generalize τ 6=v6 at G
  refine Za (Ya (rZ G (qg 1 103 r1 r1 (qa 103 r1 r1 (qu YbZ r1 (qf (ZaV .t qi) r1 qz qZ)))) Z [39,32,31,30] [0] fun G=>?_))
  refine Zc G rfl (fun hc4=>?_) (fun hc4=>?_)
  ·have hg:false=decide (Zb1 u):=by
     rw [Yay,YH]
     rintro ⟨g1,g2,g3,g4⟩
     have:=g4 i hil;rw [Yc] at hc4;simp at hc4;omega
   refine Ya (rZ G qB Z [32,31,30,2] [0] fun G=>(Yh (ZB (Zm (Zm (ZB (Zm ?_)))))))
   refine Zw hfr G rfl rfl rfl (.bool hg)
  have hqi:(Nn u.orders i).txs.length≤24:=by rw [Yc] at hc4;simp at hc4;omega
  refine Yf (Zk (Za (rZ G (qp r1 (qR rr qZ)) Z [32,31,30] [0] fun G=>?_)))
  replace G:=G.ent (i:=32) (s':=.pv (.int .i64 ((i+1:Nat):Int))) rfl (.int (Zd ow))
  obtain ⟨F,G⟩:=G.nM [32,31,30] [0]
  exact ⟨i+1,F,⟨by omega,fun j hj=>by rcases Y8 (Yad hj) with h | h;exact hq j h;rw [h];exact hqi⟩,G,by omega⟩
 have hO:∀ j,j<u.orders.length→(Nn u.orders j).txs.length≤24:=fun j hj=>hq j (by simp at hc3;omega)
 have hg:true=decide (Zb1 u):=by rw [Yay,Yu];exact ⟨hb.1,hb.2,hT,hO⟩
 refine Yx (Zj (Zj (Zr (Za (Ya (rZ G qB Z [2] [0] fun G=>Yh ?_))))))
 refine Zw hfr G rfl rfl rfl (.bool hg)
instance (h:Zq):Decidable (Zb1 h):=by unfold Zb1;exact inferInstance
theorem Zed {P:Program} {w:World} {d:Nat} {e:TypeId} (he:P.underlying e=some (.int .i64)) {l m:List Int} : ∀ (is:List Nat),(∀ i ∈ is,i<l.length∧i<m.length)→(Op.eqItems (d+1) e 1 (l.map fun n=>Value.int .i64 n).toArray (m.map fun n=>Value.int .i64 n).toArray is).run P w = .ok (is.all fun i=>decide (l[i]? = m[i]?)) w
 | [],_=>by simp [Op.eqItems]
 | i :: is,h=>by
  have hag:P.aggB e=some false:=by unfold Program.aggB;rw [he]
  obtain ⟨h1,h2⟩:=h i (by simp)
  have p1:(part e (l.map fun n=>Value.int .i64 n).toArray (i*1)).run P w = .ok (.int .i64 l[i]) w:=by simp [part,run_isAgg hag,h1]
  have p2:(part e (m.map fun n=>Value.int .i64 n).toArray (i*1)).run P w = .ok (.int .i64 m[i]) w:=by simp [part,run_isAgg hag,h2]
  have p3:(Op.equalIn (d+1) e (.int .i64 l[i]) (.int .i64 m[i])).run P w = .ok (l[i] == m[i]) w:=run_equalIn_int w d e .i64 _ _ _ he
  have ih:=Zed (P:=P) (w:=w) (d:=d) he is (fun j hj=>h j (YB _ hj))
  simp only [Op.eqItems,Yz,p1,p2,p3,Yo]
  rw [List.all_cons,Yan h1,Yan h2]
  by_cases hab:l[i] = m[i]
  ·simp [hab,ih]
  ·simp [hab]
theorem Znm {l m:List Int} {n:Nat} (hl:l.length=n) (hm:m.length=n):((List.range n).all fun i=>decide (l[i]? = m[i]?))=decide (l=m):=by
 rw [Ybi,Ya9,Yu]
 constructor
 ·intro h
  apply List.ext_getElem?
  intro i
  by_cases hi:i<n
  ·simpa using h i (YaX.2 hi)
  ·rw [YbA ow,YbA ow]
 ·rintro rfl i _
  simp
theorem Zo7 {P:Program} {κ:Type} [DecidableEq κ] {kt et:TypeId} {enc:κ→List Int} {n:Nat} (hl:∀ k,(enc k).length=n) (hi:∀ a b,enc a=enc b→a=b) (hu:P.underlying kt=some (.array n et)) (he:P.underlying et=some (.int .i64)) (hc:P.cellsOf et=1):ZlX P kt (fun k=>∀ x ∈ enc k,inR .i64 x) (kvS enc) where
 check:=fun b k w _=>by
  obtain ⟨ti,hti⟩:∃ i,P.info? et=some i:=info_of_underlying he
  have hag:P.aggB et=some false:=by unfold Program.aggB;rw [he]
  unfold kvS
  rw [show (10000:Nat)=9998+1+1 from rfl,Instr.checkKey]
  simp only [Yz,Ym hu,Yo]
  simp only [Std.Legacy.Range.forIn_eq_forIn_range',Std.Legacy.Range.size,YbQ,Nat.add_one_sub_one,Nat.div_one]
  have each:∀ i ∈ List.range' 0 n,i<(enc k).length:=by intro i h;rw [hl];simp [List.mem_range'] at h;omega
  generalize List.range' 0 n=is at each
  induction is with
  | nil=>simp
  | cons j is ih=>
   have h1:=each j (by simp)
   have p1:(part et ((enc k).map fun n=>Value.int .i64 n).toArray (j*1)).run P w = .ok (.int .i64 (enc k)[j]) w:=by simp [part,run_isAgg hag,h1]
   have p2:(Instr.checkKey b (9998+1) et (.int .i64 (enc k)[j])).run P w = .ok () w:=Go.MapKept.run_checkKey he (by simp [Go.MapKept.IsKey]) b 9998
   simp only [List.forIn_cons,Yz,run_sizeOf w hti,hc,Yo,p1,p2,YD]
   exact ih (fun y hy=>each y (by simp [hy]))
 find:=fun es k w hok hks=>by
  obtain ⟨ti,hti⟩:∃ i,P.info? et=some i:=info_of_underlying he
  rw [run_findKey_eq (P:=P) (w:=w) (k:=kt) (by rw [hu]) (kvS enc k) (es.map (rEnc (kvS enc)))]
  have key:∀ (es:List (GE κ Value)) (j:Nat),(Instr.findAsking kt (kvS enc k) (es.map (rEnc (kvS enc))) j).run P w = .ok ((gIdx k es).map fun i=>(i+j,(gGet k es).getD undef)) w:=by
   intro es
   induction es with
   | nil=>intro j;simp [Instr.findAsking,gIdx]
   | cons e es ih=>
    intro j
    have hq:(Op.equal kt (kvS enc k) (kvS enc e.key)).run P w = .ok (decide (enc k=enc e.key)) w:=by
     unfold Op.equal Op.maxDepth kvS
     rw [show (10000:Nat)=9998+1+1 from rfl,run_equalIn_array w (9998+1) _ _ hu hti,hc,Zed he _ (fun i h=>by rw [hl,hl];simpa using h),Znm (hl _) (hl _)]
    rw [YQ]
    unfold Instr.findAsking
    have ih':=ih (j+1)
    by_cases h:k=e.key
    ·have hek:enc k=enc e.key:=by rw [h]
     simp only [rEnc,Yz,hq,hek,decide_true,Yo,Yp,YD]
     simp [gIdx,gGet,h]
    ·have hek:¬ enc k=enc e.key:=fun h'=>h (hi _ _ h')
     simp only [rEnc,Yz,hq,YI hek,Yo,Yba,Yn]
     rw [show (es.map fun e=>rEnc (kvS enc) e)=es.map (rEnc (kvS enc)) from rfl] at *
     rw [ih']
     simp only [gIdx,gGet,Yb h]
     cases hm:gIdx k es with
     | none=>rfl
     | some i=>simp;omega
  have:=key es 0
  simpa using this
 same:=fun k=>Zfd (enc k) 9999
def Zl0 {κ:Type} [DecidableEq κ] (A:List (κ×Int)) (k:κ):Int:=A.foldl (fun x z=>if k=z.1 then z.2 else x) 0
theorem ZhK {κ:Type} [DecidableEq κ] {A:List (κ×Int)} {z:κ×Int} {k:κ} : Zl0 (A ++ [z]) k=if k=z.1 then z.2 else Zl0 A k:=by unfold Zl0;rw [Ybk];rfl
theorem Zp6 {κ:Type} [DecidableEq κ] {k:κ} (A:List (κ×Int)) (hA:∀ z ∈ A,z.2=1):0≤Zl0 A k∧Zl0 A k≤1:=by
 have key:∀ (A:List (κ×Int)) (x:Int),(∀ z ∈ A,z.2=1)→0≤x∧x≤1→0≤A.foldl (fun x z=>if k=z.1 then z.2 else x) x∧A.foldl (fun x z=>if k=z.1 then z.2 else x) x≤1:=by
  intro A
  induction A with
  | nil=>intro x _ h;exact h
  | cons z A ih=>
   intro x hz hx
   rw [Yav]
   refine ih _ (fun y hy=>hz y (YB _ hy)) ?_
   have:=hz z (by simp)
   split <;> omega
 exact key A 0 hA ow
structure Zdq where
 fst:Int
 snd:Int
 deriving DecidableEq,Inhabited
def Zeo (k:Zdq):List Int:=[k.fst,k.snd]
def Zag (e:Ze):List Int:=[e.src,e.dst,e.kind,e.key]
def Zc8 (l:List TxD):List (Int×Int):=(l.filter TxD.done).map fun t=>(t.id,1)
def ZbJ (id:Int) (l:List OpD):List Zdq:=(l.filter fun o=>!o.read).map fun o=>⟨id,o.key⟩
def lastK (l:List TxD):List Zdq:=l.flatMap fun t=>if t.done=true then ZbJ t.id t.ops else []
def atI (l:List Int) (j:Nat):Int:=if j=0 then 0 else Nn l (j - 1)
def nxO (o:OrdD) (j:Nat):List (Zdq×Int):=(List.range j).map fun i=>(⟨o.key,atI o.txs i⟩,Nn o.txs i)
def nxA (l:List OrdD):List (Zdq×Int):=l.flatMap fun o=>nxO o o.txs.length
theorem ZfC {l:List TxD} {i:Nat} (hi:i<l.length):Zc8 (l.take (i+1))=Zc8 (l.take i)++if (Nn l i).done=true then [((Nn l i).id,1)] else []:=by
 unfold Zc8
 rw [Zt hi,Yaa,YK]
 cases hd:(Nn l i).done <;> simp [hd]
theorem Zgc {l:List TxD} {i:Nat} (hi:i<l.length):lastK (l.take (i+1))=lastK (l.take i)++if (Nn l i).done=true then ZbJ (Nn l i).id (Nn l i).ops else []:=by
 unfold lastK
 rw [Zt hi,YS]
 simp
theorem ZeH {id:Int} {l:List OpD} {j:Nat} (hj:j<l.length):ZbJ id (l.take (j+1))=ZbJ id (l.take j)++if (Nn l j).read=true then [] else [⟨id,(Nn l j).key⟩]:=by
 unfold ZbJ
 rw [Zt hj,Yaa,YK]
 cases hd:(Nn l j).read <;> simp [hd]
theorem Zgv (id:Int) (l:List OpD):(ZbJ id l).length≤l.length:=by unfold ZbJ;rw [YF];exact Y3 _ _
theorem Zod {l:List TxD} (h:ZaI l) (i:Nat):(lastK (l.take i)).length≤1000*i:=by
 have key:∀ l:List TxD,(∀ t ∈ l,t.ops.length≤1000)→(lastK l).length≤1000*l.length:=by
  intro l
  induction l with
  | nil=>intro _;simp [lastK]
  | cons t l ih=>
   intro h
   have h1:=ih fun x hx=>h x (by simp [hx])
   have h2:=h t (by simp)
   have h3:=Zgv t.id t.ops
   unfold lastK at h1 ⊢
   rw [YX,Yd,Yl]
   split
   ·omega
   ·simp only [Yy];omega
 have h1:=key (l.take i) fun t ht=>h.2 t (Yao ht)
 have h2:(l.take i).length≤i:=by rw [Yj];omega
 exact Y6 h1 (Ya6 _ h2)
theorem Zpk {o:OrdD} {j:Nat} : nxO o (j+1)=nxO o j ++ [(⟨o.key,atI o.txs j⟩,Nn o.txs j)]:=by unfold nxO;rw [List.range_succ,YK];rfl
theorem Zo1 {l:List OrdD} {i:Nat} (hi:i<l.length):nxA (l.take (i+1))=nxA (l.take i)++nxO (Nn l i) (Nn l i).txs.length:=by
 unfold nxA
 rw [Zt hi,YS]
 simp
def ZlY {κ:Type} [DecidableEq κ] (es:List (GE κ Int)) (A:List (κ×Int)):Prop:=∀ k,(gGet k es).getD 0=Zl0 A k
def Zoz {κ:Type} [DecidableEq κ] (es:List (GE κ Int)) (R:List κ):Prop:=∀ k,(gGet k es).getD 0=(R.count k:Int)
theorem Zna {κ:Type} [DecidableEq κ] {es:List (GE κ Int)} {A:List (κ×Int)} {ck:Nat} {k:κ} {x:Int} (h:ZlY es A):ZlY (gPut k x (es,ck)).1 (A ++ [(k,x)]):=fun k'=>by
 rw [ZcZ,ZhK,← h k']
 split <;> rfl
theorem ZrO {κ:Type} [DecidableEq κ] {es:List (GE κ Int)} {R:List κ} {ck:Nat} {k:κ} (h:Zoz es R) (hl:R.length≤100000000):Zoz (gSet k (IntKind.wrap .i64 ((gGet k es).getD 0+1)) (gEns 0 k (es,ck)).1) (R ++ [k]):=fun k'=>by
 have hc:R.count k≤R.length:=List.count_le_length
 rw [ZcU,h k,ZC ow,YbD]
 by_cases e:k' = k
 ·subst e;rw [Ye rfl];simp
 ·rw [Yb e,h k'];simp [List.count_cons,Ne.symm e]
def Zic (g:Zq) (id:Int):Int:=Zl0 (Zc8 g.txs) id
def Zlw (g:Zq) (id k:Int):Int:=((lastK g.txs).count ⟨id,k⟩:Int)
def nxI (g:Zq) (k x:Int):Int:=Zl0 (nxA g.orders) ⟨k,x⟩
def ZqH (g:Zq) (t:TxD) (o:OpD):Bool:=decide (o.tx=t.id) || (!decide (o.tx=0) && (decide (Zic g o.tx=0) || !decide (Zlw g o.tx o.key=o.nth)))
def rdA (t:TxD) (o:OpD):List Ze:=if o.tx=0 then [] else [⟨o.tx,t.id,2,o.key⟩]
def rdB (g:Zq) (t:TxD) (o:OpD):List Ze:=if nxI g o.key o.tx≠0∧nxI g o.key o.tx≠t.id then [⟨t.id,nxI g o.key o.tx,3,o.key⟩] else []
def rdO (g:Zq) (t:TxD) (o:OpD):List Ze:=if ZqH g t o=true then [] else rdA t o++rdB g t o
theorem Zrc (g:Zq) (t:TxD) (o:OpD):(rdO g t o).length≤2:=by
 unfold rdO rdA rdB
 split
 ·simp
 ·split <;> split <;> simp
def rdT (p:Int→Bool) (g:Zq) (t:TxD) (l:List OpD):List Ze:=l.flatMap fun o=>if (t.done && (o.read && p o.key))=true then rdO g t o else []
def rdH (p:Int→Bool) (g:Zq) (l:List TxD):List Ze:=l.flatMap fun t=>rdT p g t t.ops
theorem Zj0 {p:Int→Bool} {g:Zq} {t:TxD} {l:List OpD} {j:Nat} (hj:j<l.length):rdT p g t (l.take (j+1))=rdT p g t (l.take j)++if (t.done && ((Nn l j).read && p (Nn l j).key))=true then rdO g t (Nn l j) else []:=by
 unfold rdT
 rw [Zt hj,YS]
 simp
theorem Zql {p:Int→Bool} {g:Zq} {l:List TxD} {i:Nat} (hi:i<l.length):rdH p g (l.take (i+1))=rdH p g (l.take i)++rdT p g (Nn l i) (Nn l i).ops:=by
 unfold rdH
 rw [Zt hi,YS]
 simp
theorem Zmv (p:Int→Bool) (g:Zq) (t:TxD) (l:List OpD):(rdT p g t l).length≤2*l.length:=by
 induction l with
 | nil=>simp [rdT]
 | cons o l ih=>
  have h1:=Zrc g t o
  unfold rdT at ih ⊢
  rw [YX,Yd,Yl]
  split
  ·omega
  ·simp only [Yy];omega
theorem Zm2 {p:Int→Bool} {g:Zq} {l:List TxD} (h:ZaI l) (i:Nat):(rdH p g (l.take i)).length≤2000*i:=by
 have key:∀ l:List TxD,(∀ t ∈ l,t.ops.length≤1000)→(rdH p g l).length≤2000*l.length:=by
  intro l
  induction l with
  | nil=>intro _;simp [rdH]
  | cons t l ih=>
   intro h
   have h1:=ih fun x hx=>h x (by simp [hx])
   have h2:=h t (by simp)
   have h3:=Zmv p g t t.ops
   unfold rdH at h1 ⊢
   rw [YX,Yd,Yl]
   omega
 have h1:=key (l.take i) fun t ht=>h.2 t (Yao ht)
 have h2:(l.take i).length≤i:=by rw [Yj];omega
 exact Y6 h1 (Ya6 _ h2)
def wwO (o:OrdD) (j:Nat):List (Ze×Int):=(List.range j).map fun i=>(⟨Nn o.txs i,Nn o.txs (i+1),1,o.key⟩,1)
def wwA (p:Int→Bool) (l:List OrdD):List (Ze×Int):=l.flatMap fun o=>if p o.key=true then wwO o (o.txs.length - 1) else []
theorem ZoJ {o:OrdD} {j:Nat} : wwO o (j+1)=wwO o j ++ [(⟨Nn o.txs j,Nn o.txs (j+1),1,o.key⟩,1)]:=by unfold wwO;rw [List.range_succ,YK];rfl
theorem ZoS {p:Int→Bool} {l:List OrdD} {i:Nat} (hi:i<l.length):wwA p (l.take (i+1))=wwA p (l.take i)++if p (Nn l i).key=true then wwO (Nn l i) ((Nn l i).txs.length - 1) else []:=by
 unfold wwA
 rw [Zt hi,YS]
 simp
theorem Zmz {κ ν:Type} [DecidableEq κ] (k:κ) (v:ν):∀ es:List (GE κ ν),(gSet k v es).length=es.length
 | []=>rfl
 | e :: es=>by
  unfold gSet
  split
  ·rfl
  ·rw [Yl,Yl,Zmz k v es]
theorem ZsP {κ ν:Type} [DecidableEq κ] (k:κ) (v:ν) (s:List (GE κ ν)×Nat):(gPut k v s).1.length≤s.1.length+1:=by
 unfold gPut
 split
 ·show (gSet k v s.1).length≤_
  rw [Zmz];omega
 ·show (s.1 ++ [_]).length≤_
  rw [Yd];simp
theorem ZsH {κ ν:Type} [DecidableEq κ] (z:ν) (k:κ) (s:List (GE κ ν)×Nat):(gEns z k s).1.length≤s.1.length+1:=by
 unfold gEns
 split
 ·omega
 ·show (s.1 ++ [_]).length≤_
  rw [Yd];simp
structure Zf4 (es:List (GE Ze Int)) (A:List (Ze×Int)) (R:List Ze):Prop where
 val:∀ e,(gGet e es).getD 0=Zl0 A e+(R.count e:Int)
 one:∀ z ∈ A,z.2=1
 key:∀ e,(gGet e es).isSome=true ↔ (e ∈ A.map Prod.fst∨e ∈ R)
 len:es.length≤A.length+R.length
theorem ZkC:Zf4 [] [] []:=⟨fun _=>rfl,by simp,fun e=>by simp [gGet],Yw _⟩
theorem Zrl {es:List (GE Ze Int)} {A:List (Ze×Int)} {ck:Nat} {e:Ze} (h:Zf4 es A []):Zf4 (gPut e 1 (es,ck)).1 (A ++ [(e,1)]) []:=⟨fun k=>by
 have:=h.val k
 rw [ZcZ,ZhK]
 split
 ·rfl
 ·rw [this],fun z hz=>by
 rcases YA.1 hz with h1 | h1
 ·exact h.one z h1
 ·simp at h1;rw [h1],fun k=>by
 rw [ZcZ,YK,YA]
 by_cases hk:k=e
 ·rw [Ye hk];simp [hk]
 ·rw [Yb hk,h.key k];simp [hk],by
 have h1:=h.len
 have h2:=ZsP e (1:Int) (es,ck)
 rw [Yd]
 simp only [Yl,Yy] at h1 h2 ⊢
 omega⟩
theorem ZiV {es:List (GE Ze Int)} {A:List (Ze×Int)} {R:List Ze} {ck:Nat} {e:Ze} (h:Zf4 es A R) (hl:R.length≤100000000):Zf4 (gSet e (IntKind.wrap .i64 ((gGet e es).getD 0+1)) (gEns 0 e (es,ck)).1) A (R ++ [e]):=⟨fun k=>by
 have hc:R.count e≤R.length:=List.count_le_length
 have h1:=Zp6 (k:=e) A h.one
 rw [ZcU,h.val e,ZC ow,YbD]
 by_cases hk:k=e
 ·subst hk;rw [Ye rfl];simp;omega
 ·rw [Yb hk,h.val k];simp [List.count_cons,Ne.symm hk],h.one,fun k=>by
 rw [ZcU,YA]
 by_cases hk:k=e
 ·rw [Ye hk];simp [hk]
 ·rw [Yb hk,h.key k];simp [hk],by
 have h1:=h.len
 have h2:=ZsH (0:Int) e (es,ck)
 rw [Zmz,Yd]
 simp only [Yl,Yy] at h1 h2 ⊢
 omega⟩
structure FS where
 mA:Value
 mB:Value
 mC:Value
 eA:List (GE Int Int)
 kA:Nat
 eB:List (GE Zdq Int)
 kB:Nat
 eC:List (GE Zdq Int)
 kC:Nat
structure ZtQ (g:Zq) (s:FS):Prop where
 dn:ZlY s.eA (Zc8 g.txs)
 la:Zoz s.eB (lastK g.txs)
 nx:ZlY s.eC (nxA g.orders)
theorem Zf6:ZlX prog 250 (fun k=>∀ x ∈ Zeo k,inR .i64 x) (kvS Zeo):=Zo7 (et:=3) (n:=2) (fun _=>rfl) (fun a b h=>by cases a;cases b;simpa [Zeo] using h) kr kr kr
theorem ZcR:ZlX prog 42 (fun k=>∀ x ∈ Zag k,inR .i64 x) (kvS Zag):=Zdc (n:=4) (fun _=>rfl) (fun a b h=>by cases a;cases b;simpa [Zag] using h) kr
def ZqE (g:Zq) (s:FS) (v:Value):List RS:=[.pt (.val v) 249 [.pv (.sl rTx g.txs),.pv (.sl ZV g.orders),.pv (.is s.mA),.pv (.is s.mB),.pv (.is s.mC)],.ob (.val s.mA) (Zbt (fun n:Int=>PV.int .i64 n) (fun _=>True) (fun n:Int=>Value.int .i64 n) s.eA s.kA),.ob (.val s.mB) (Zbt (fun n:Int=>PV.int .i64 n) (fun k=>∀ x ∈ Zeo k,inR .i64 x) (kvS Zeo) s.eB s.kB),.ob (.val s.mC) (Zbt (fun n:Int=>PV.int .i64 n) (fun k=>∀ x ∈ Zeo k,inR .i64 x) (kvS Zeo) s.eC s.kC)]
def Zl4 (g:Zq) (v:Value):HP:=.ex fun s:FS=>.and (ZtQ g s) (.star (ZqE g s v))
def ZeI (A:List (Ze×Int)) (R:List Ze) (v:Value):HP:=.ex fun s:List (GE Ze Int)×Nat=>.and (Zf4 s.1 A R) (Zbt (fun n:Int=>PV.int .i64 n) (fun k=>∀ x ∈ Zag k,inR .i64 x) (kvS Zag) s.1 s.2 v)
theorem ZsW (g:Zq) (hsm:ZbY g):FnG prog 135 1 [.agg (Zx g)] [.star []] (PV.ptr) (fun v=>[Zl4 g v]):=by
 refine FnG.mk func135 rfl ntmps135 rfl kr fun B F0 a w F Z hG G=>?_
 have hs:=hsm.1
 have hsl:=hs.1
 have hso:=hsm.2
 have hol1:=hso.1
 refine Ya (Zb G (qx 101 r1 (qC qZ)) Z [2,1] [101,1,0] (fun _=>rfl) (fun _=>rfl) fun τ a w F G=>?_)
 try dsimp only [RS.sub,SF.sub,CF.sub,csub,Anc.sub,List.map,zCF,Zx,rTx,ZV,ZQ,Zo,rOp] at G
 generalize τ 1=v1 at G
 refine Za (Ya (Zb G (qe 2 101 r1 r1 (qf (ZaG (ek:=(fun n:Int=>PV.int .i64 n)) (ok:=(fun _=>True)) (kv:=(fun n:Int=>Value.int .i64 n)) 102) trivial qz (qf (ZaG (ek:=(fun n:Int=>PV.int .i64 n)) (ok:=(fun k=>∀ x ∈ Zeo k,inR .i64 x)) (kv:=(kvS Zeo)) 103) trivial qz (qf (ZaG (ek:=(fun n:Int=>PV.int .i64 n)) (ok:=(fun k=>∀ x ∈ Zeo k,inR .i64 x)) (kv:=(kvS Zeo)) 104) trivial qz (qf (oB [(0,.tmp 13),(1,.tmp 14),(2,.tmp 15),(3,.tmp 16)] [.slice none 0 0,.slice none 0 0,.map none,.map none,.map none] [(0,2),(2,1),(3,1),(4,1)] (.agg rfl .t kr kr (.same rfl kr (.same rfl kr (.same rfl kr .nil))))) r4 qz (qf (oX 105 .t) r1 qz (qO rr qZ))))))) Z [3,2,1] [105,104,103,102,101,1,0] (fun _=>rfl) (fun _=>rfl) fun τ a w F G=>?_))
 try dsimp only [RS.sub,SF.sub,CF.sub,csub,Anc.sub,List.map,Zf,xL,xM,Nat.reduceAdd,xD,xE,xT,xU,xC,xN,zCF,ldSF,Zx,rTx,ZV,ZQ,Zo,rOp] at G
 generalize τ 18=v18,τ 14=v14 at G
 generalize τ 15=v15,τ 16=v16 at G
 refine Za (Ya (Ya (rZ G (qg 0 101 r1 r1 (qa 101 r1 r1 (qu Yb3 r1 (qJ qZ)))) Z [22,21,20,3,2,1] [105,104,103,102,101,1,0] fun G=>Yg ?_)))
 refine Zl (σ:=(Nat)×(List (GE Int Int))×(Nat)×(List (GE Zdq Int))×(Nat)) [1,2,3,20,21] [0,1,101,104,105] (fun s=>[(22,.pv (.int .i64 (s.1:Int)))]) (fun s=>[(102,.ob (.val v14) (Zbt (fun n:Int=>PV.int .i64 n) (fun _=>True) (fun n:Int=>Value.int .i64 n) s.2.1 s.2.2.1)),(103,.ob (.val v15) (Zbt (fun n:Int=>PV.int .i64 n) (fun k=>∀ x ∈ Zeo k,inR .i64 x) (kvS Zeo) s.2.2.2.1 s.2.2.2.2))]) (fun s=>s.1≤g.txs.length∧(ZlY s.2.1 (Zc8 (g.txs.take s.1))∧Zoz s.2.2.2.1 (lastK (g.txs.take s.1)))) (fun s=>g.txs.length - s.1) ((0),([]),(0),([]),(0)) G ⟨rfl,rfl,rfl,rfl,rfl,rfl,tv⟩ ⟨rfl,rfl,rfl,rfl,rfl,rfl,rfl,tv⟩ ⟨Yw _,⟨fun _=>rfl,fun _=>rfl⟩⟩ ?_
 clear G;intro s a w F hC G
 obtain ⟨i,eA,kA,eB,kB⟩:=s
 try dsimp only at hC
 obtain ⟨F,G⟩:=G.nM [22,21,20,3,2,1] [105,104,103,102,101,1,0]
 try dsimp only at G
 obtain ⟨hi,hq⟩:=hC
 have hxl:=fun hil:i<g.txs.length=>hs.at hil
 refine Ya (rZ G (qL r2) Z [23,22,21,20,3,2,1] [105,104,103,102,101,1,0] fun G=>Ya ?_)
 refine Zc G rfl (fun hc0=>?_) (fun hc0=>?_)
 ·have hil:i<g.txs.length:=by simp at hc0;omega
  have hio:=hil
  have htl:=hxl hil
  have hsl:=hs.1
  have hdn0:=hq.1
  have hcn:=hq.2
  refine Yf (Za (Ya (Yg (Ya (Zb G (qy 3 Yb3 r2 (qf (oR true 3 .t) r1 qz (qf (oH [.int .i64 0,.bool false,.slice none 0 0] 106) trivial qz (qS 3 106 r2 r1 qZ)))) Z [22,21,20,5,3,2,1] [106,105,104,103,102,101,1,0] (fun _=>rfl) (fun _=>rfl) fun τ a w F G=>?_)))))
  try dsimp only [RS.sub,SF.sub,CF.sub,csub,Anc.sub,List.map,Zf,xL,xM,Nat.reduceAdd,xD,xE,xT,xU,xC,xN,zCF,ldSF,Zx,rTx,ZV,ZQ,Zo,rOp] at G
  generalize τ 5=v5 at G
  try simp only [Yc] at G
  refine Za (Ya (Ya (rZ G (qg 1 106 r1 r1 (qa 106 r1 r1 (qf (o_not .t) r1 qz qZ))) Z [28,22,21,20,5,3,2,1] [106,105,104,103,102,101,1,0] fun G=>?_)))
  refine Zc G rfl (fun hc1=>?_) (fun hc1=>?_)
  ·have hdn:(Nn g.txs i).done=false:=by simpa using hc1
   obtain ⟨eA2,heA2⟩:∃ z,z=eA:=⟨_,rfl⟩
   obtain ⟨kA2,hkA2⟩:∃ z,z=kA:=⟨_,rfl⟩
   obtain ⟨eB2,heB2⟩:∃ z,z=eB:=⟨_,rfl⟩
   obtain ⟨kB2,hkB2⟩:∃ z,z=kB:=⟨_,rfl⟩
   rw [← heA2,← hkA2,← heB2,← hkB2] at G
   have hR2:ZlY eA2 (Zc8 (g.txs.take (i+1)))∧Zoz eB2 (lastK (g.txs.take (i+1))):=by rw [heA2,heB2,ZfC hio,Zgc hio,Yb (by rw [hdn];simp),Yb (by rw [hdn];simp),YN,YN];exact ⟨hdn0,hcn⟩
   refine Yx (Zj (Zr (Za (rZ G (qp r1 (qR rr qZ)) Z [22,21,20,3,2,1] [106,105,104,103,102,101,1,0] fun G=>?_))))
   replace G:=G.ent (i:=22) (s':=.pv (.int .i64 ((i+1:Nat):Int))) rfl (.int (Zd ow))
   obtain ⟨F,G⟩:=G.nM [21,20,3,2,1,22] [105,104,101,1,0,103,102]
   exact ⟨((i+1),(eA2),(kA2),(eB2),(kB2)),F,⟨by omega,hR2⟩,G,by omega⟩
  have hdn:(Nn g.txs i).done=true:=by simpa using hc1
  refine Yf (Za (Ya (Zz G (qR rr (qf (Zs 105 .is (by rfl)) r1 r1 (qf (oF 2 105 .adr) r1 r1 (qa 105 r1 r1 (qg 0 106 r1 r1 (qa 106 r1 r1 (qf (o_mapUpdateG (ek:=(fun n:Int=>PV.int .i64 n)) 102 underlying75 (Zck Yb4) .is (ZG.int .t rfl) qi) r2 r1 qZ))))))) Z [22,21,20,5,3,2,1] [106,105,104,103,102,101,1,0] rfl rfl fun a w F G=>?_)))
  try dsimp only [List.map,xD,xE,xT,xU,ldSF,Zx,rTx,ZV,ZQ,Zo,rOp] at G
  obtain ⟨eA2,heA2⟩:∃ z,z=(gPut (Nn g.txs i).id 1 (eA,kA)).1:=⟨_,rfl⟩
  obtain ⟨kA2,hkA2⟩:∃ z,z=(gPut (Nn g.txs i).id 1 (eA,kA)).2:=⟨_,rfl⟩
  rw [← heA2,← hkA2] at G
  refine Za (Ya (rZ G (qg 2 106 r1 r1 (qa 106 r1 r1 (qu Yb2 r1 (qJ qZ)))) Z [38,37,36,22,21,20,5,3,2,1] [106,105,104,103,102,101,1,0] fun G=>Yg ?_))
  refine Zl (σ:=(Nat)×(List (GE Zdq Int))×(Nat)) [1,2,3,5,20,21,22,36,37] [0,1,101,102,104,105,106] (fun s=>[(38,.pv (.int .i64 (s.1:Int)))]) (fun s=>[(103,.ob (.val v15) (Zbt (fun n:Int=>PV.int .i64 n) (fun k=>∀ x ∈ Zeo k,inR .i64 x) (kvS Zeo) s.2.1 s.2.2))]) (fun s=>s.1≤(Nn g.txs i).ops.length∧(Zoz s.2.1 (lastK (g.txs.take i)++ZbJ (Nn g.txs i).id ((Nn g.txs i).ops.take s.1)))) (fun s=>(Nn g.txs i).ops.length - s.1) ((0),(eB),(kB)) G ⟨rfl,rfl,rfl,rfl,rfl,rfl,rfl,rfl,rfl,rfl,tv⟩ ⟨rfl,rfl,rfl,rfl,rfl,rfl,rfl,rfl,tv⟩ ⟨Yw _,(by show Zoz _ (lastK (g.txs.take i) ++ []);rw [YN];exact hcn)⟩ ?_
  clear G;intro s a w F hC G
  obtain ⟨j,eB3,kB3⟩:=s
  try dsimp only at hC
  obtain ⟨F,G⟩:=G.nM [38,37,36,22,21,20,5,3,2,1] [106,105,104,103,102,101,1,0]
  try dsimp only at G
  obtain ⟨hi,hq⟩:=hC
  refine Ya (rZ G (qL r2) Z [39,38,37,36,22,21,20,5,3,2,1] [106,105,104,103,102,101,1,0] fun G=>Ya ?_)
  refine Zc G rfl (fun hc2=>?_) (fun hc2=>?_)
  ·have hil:j<(Nn g.txs i).ops.length:=by simp at hc2;omega
   refine Yf (Za (Ya (Yg (Ya (Zb G (qy 4 Yb2 r2 (qf (oR true 4 .t) r1 qz (qf (oH [.bool false,.int .i64 0,.int .i64 0,.int .i64 0] 107) trivial qz (qS 4 107 r2 r1 qZ)))) Z [38,37,36,22,21,20,7,5,3,2,1] [107,106,105,104,103,102,101,1,0] (fun _=>rfl) (fun _=>rfl) fun τ a w F G=>?_)))))
   try dsimp only [RS.sub,SF.sub,CF.sub,csub,Anc.sub,List.map,Zf,xL,xM,Nat.reduceAdd,xD,xE,xT,xU,xC,xN,zCF,ldSF,Zx,rTx,ZV,ZQ,Zo,rOp] at G
   generalize τ 7=v7 at G
   try simp only [Yc] at G
   refine Za (Ya (rZ G (qg 0 107 r1 r1 (qa 107 r1 r1 (qf (o_not .t) r1 qz qZ))) Z [44,38,37,36,22,21,20,7,5,3,2,1] [107,106,105,104,103,102,101,1,0] fun G=>?_))
   refine Zc G rfl (fun hc3=>?_) (fun hc3=>?_)
   ·have hrd:(Nn (Nn g.txs i).ops j).read=false:=by simpa using hc3
    replace G:=G.turnZ 103 (0) (⟨(Nn g.txs i).id,(Nn (Nn g.txs i).ops j).key⟩:Zdq) rfl
    refine ZaU 103 13 (m1:=1) (m2:=2) kr G kr (qR rr (qf (Zs 105 .is (by rfl)) r1 r1 (qf (oF 3 105 .adr) r1 r1 (qa 105 r1 r1 (qg 0 106 r1 r1 (qa 106 r1 r1 (qg 1 107 r1 r1 (qa 107 r1 r1 (qf (Zbf (sz:=1) (r:=[(0,.tmp 50),(1,.tmp 52)]) (zs:=[.int .i64 0,.int .i64 0]) (pl:=[(0,1),(1,1)]) Yca kr kr rfl (.one rfl .t one_int kr (.one rfl .t one_int kr .nil)) (by rfl)) r2 qz (qf (ZbZ (ek:=(fun n:Int=>PV.int .i64 n)) (z0:=(0)) 103 Yce Zf6 kr (fun _ _=>⟨rfl,Zdf⟩) .is (ZG.agg (enc:=Zeo) (k:=(⟨(Nn g.txs i).id,(Nn (Nn g.txs i).ops j).key⟩:Zdq)) (.pagg .t) rfl)) r2 r1 (qp r1 (qf (ZaW (ek:=(fun n:Int=>PV.int .i64 n)) (z0:=(0)) 103 Yce Zf6 kr (fun _ _=>⟨rfl,Zdf⟩) .is (ZG.agg (enc:=Zeo) (k:=(⟨(Nn g.txs i).id,(Nn (Nn g.txs i).ops j).key⟩:Zdq)) (.pagg .t) rfl) (by intros;first | rfl | simp [Anc.v,upd])) r2 r1 (qf (Zh .t rfl) r1 qz (qf (Zav 103 (Zbq _ _ _) .is .t .t) r3 r1 qZ)))))))))))))) kr kr kr rfl rfl rfl (fun _ _ _ _ h=>.inr h) (by rw [Z];kernel_rfl) fun a w F G=>?_
    obtain ⟨F,G⟩:=G.nM [38,37,36,22,21,20,5,3,2,1] [107,106,105,104,103,102,101,1,0]
    try dsimp only [List.map,Zf,xL,xM,Nat.reduceAdd,xD,xE,xT,xU,xC,xN,zCF,ldSF,Zx,rTx,ZV,ZQ,Zo,rOp] at G
    obtain ⟨eB4,heB4⟩:∃ z,z=gSet (⟨(Nn g.txs i).id,(Nn (Nn g.txs i).ops j).key⟩:Zdq) (IntKind.wrap .i64 ((gGet (⟨(Nn g.txs i).id,(Nn (Nn g.txs i).ops j).key⟩:Zdq) eB3).getD 0+1)) (gEns 0 (⟨(Nn g.txs i).id,(Nn (Nn g.txs i).ops j).key⟩:Zdq) (eB3,kB3)).1:=⟨_,rfl⟩
    obtain ⟨kB4,hkB4⟩:∃ z,z=(gEns 0 (⟨(Nn g.txs i).id,(Nn (Nn g.txs i).ops j).key⟩:Zdq) (eB3,kB3)).2:=⟨_,rfl⟩
    rw [← heB4,← hkB4] at G
    have hR3:Zoz eB4 (lastK (g.txs.take i)++ZbJ (Nn g.txs i).id ((Nn g.txs i).ops.take (j+1))):=by rw [heB4,ZeH hil,Yb (by rw [hrd];simp),← YP];exact ZrO hq (by have h1:=Zod hs i;have h2:=Zgv (Nn g.txs i).id ((Nn g.txs i).ops.take j);rw [Yj] at h2;rw [Yd];omega)
    refine Zk (Za (rZ G (qp r1 (qR rr qZ)) Z [38,37,36,22,21,20,5,3,2,1] [107,106,105,104,103,102,101,1,0] fun G=>?_))
    replace G:=G.ent (i:=38) (s':=.pv (.int .i64 ((j+1:Nat):Int))) rfl (.int (Zd ow))
    obtain ⟨F,G⟩:=G.nM [37,36,22,21,20,5,3,2,1,38] [106,105,104,102,101,1,0,103]
    exact ⟨((j+1),(eB4),(kB4)),F,⟨by omega,hR3⟩,G,by omega⟩
   have hrd:(Nn (Nn g.txs i).ops j).read=true:=by simpa using hc3
   obtain ⟨eB4,heB4⟩:∃ z,z=eB3:=⟨_,rfl⟩
   obtain ⟨kB4,hkB4⟩:∃ z,z=kB3:=⟨_,rfl⟩
   rw [← heB4,← hkB4] at G
   have hR3:Zoz eB4 (lastK (g.txs.take i)++ZbJ (Nn g.txs i).id ((Nn g.txs i).ops.take (j+1))):=by rw [heB4,ZeH hil,Ye hrd,YN];exact hq
   refine Yf (Zk (Za (rZ G (qp r1 (qR rr qZ)) Z [38,37,36,22,21,20,5,3,2,1] [107,106,105,104,103,102,101,1,0] fun G=>?_)))
   replace G:=G.ent (i:=38) (s':=.pv (.int .i64 ((j+1:Nat):Int))) rfl (.int (Zd ow))
   obtain ⟨F,G⟩:=G.nM [37,36,22,21,20,5,3,2,1,38] [106,105,104,102,101,1,0,103]
   exact ⟨((j+1),(eB4),(kB4)),F,⟨by omega,hR3⟩,G,by omega⟩
  have hil:j=(Nn g.txs i).ops.length:=by simp at hc2;omega
  rw [hil,YC] at hq
  obtain ⟨eB2,heB2⟩:∃ z,z=eB3:=⟨_,rfl⟩
  obtain ⟨kB2,hkB2⟩:∃ z,z=kB3:=⟨_,rfl⟩
  rw [← heB2,← hkB2] at G
  have hR2:ZlY eA2 (Zc8 (g.txs.take (i+1)))∧Zoz eB2 (lastK (g.txs.take (i+1))):=by rw [heA2,heB2,ZfC hio,Zgc hio,Ye hdn,Ye hdn];exact ⟨Zna hdn0,hq⟩
  refine Yx (Zj (Zj (Zr (Zk (Za (rZ G (qp r1 (qR rr qZ)) Z [22,21,20,3,2,1] [106,105,104,103,102,101,1,0] fun G=>?_))))))
  replace G:=G.ent (i:=22) (s':=.pv (.int .i64 ((i+1:Nat):Int))) rfl (.int (Zd ow))
  obtain ⟨F,G⟩:=G.nM [21,20,3,2,1,22] [105,104,101,1,0,103,102]
  exact ⟨((i+1),(eA2),(kA2),(eB2),(kB2)),F,⟨by omega,hR2⟩,G,by omega⟩
 have hil:i=g.txs.length:=by simp at hc0;omega
 rw [hil,YC] at hq
 have hdA:=hq.1
 have hdB:=hq.2
 refine Yx (Zj (Zj (Zr (Za (Ya (Ya (rZ G (qg 1 101 r1 r1 (qa 101 r1 r1 (qu Yb6 r1 (qJ qZ)))) Z [63,62,61,3,2] [105,104,103,102,101,1,0] fun G=>Yg ?_)))))))
 refine Zl (σ:=(Nat)×(List (GE Zdq Int))×(Nat)) [2,3,61,62] [0,1,101,102,103,105] (fun s=>[(63,.pv (.int .i64 (s.1:Int)))]) (fun s=>[(104,.ob (.val v16) (Zbt (fun n:Int=>PV.int .i64 n) (fun k=>∀ x ∈ Zeo k,inR .i64 x) (kvS Zeo) s.2.1 s.2.2))]) (fun s=>s.1≤g.orders.length∧(ZlY s.2.1 (nxA (g.orders.take s.1)))) (fun s=>g.orders.length - s.1) ((0),([]),(0)) G ⟨rfl,rfl,rfl,rfl,rfl,tv⟩ ⟨rfl,rfl,rfl,rfl,rfl,rfl,rfl,tv⟩ ⟨Yw _,(fun _=>rfl)⟩ ?_
 clear G;intro s a w F hC G
 obtain ⟨i,eC,kC⟩:=s
 try dsimp only at hC
 obtain ⟨F,G⟩:=G.nM [63,62,61,3,2] [105,104,103,102,101,1,0]
 try dsimp only at G
 obtain ⟨hi,hq⟩:=hC
 have hol:=fun hil:i<g.orders.length=>hso.at hil
 refine Ya (rZ G (qL r2) Z [64,63,62,61,3,2] [105,104,103,102,101,1,0] fun G=>Ya ?_)
 refine Zc G rfl (fun hc4=>?_) (fun hc4=>?_)
 ·have hil:i<g.orders.length:=by simp at hc4;omega
  have hio:=hil
  have hcn:=hq
  have hox:=hol hil
  have hol1:=hso.1
  refine Yf (Za (Ya (Yg (Ya (Zb G (qy 2 Yb6 r2 (qf (oR true 2 .t) r1 qz (qf (oH [.int .i64 0,.slice none 0 0] 108) trivial qz (qS 2 108 r2 r1 qZ)))) Z [63,62,61,9,3,2] [108,105,104,103,102,101,1,0] (fun _=>rfl) (fun _=>rfl) fun τ a w F G=>?_)))))
  try dsimp only [RS.sub,SF.sub,CF.sub,csub,Anc.sub,List.map,Zf,xL,xM,Nat.reduceAdd,xD,xE,xT,xU,xC,xN,zCF,ldSF,Zx,rTx,ZV,ZQ,Zo,rOp] at G
  generalize τ 9=v9 at G
  try simp only [Yc] at G
  refine Za (Ya (rZ G (qI qZ) Z [63,62,61,10,9,3,2] [108,105,104,103,102,101,1,0] fun G=>Ya ?_))
  refine rZ G (qg 1 108 r1 r1 (qa 108 r1 r1 (qu YbZ r1 (qJ qZ)))) Z [70,69,68,63,62,61,10,9,3,2] [108,105,104,103,102,101,1,0] fun G=>Yg ?_
  replace G:=G.ent (i:=10) (s':=.pv (.int .i64 (atI (Nn g.orders i).txs 0))) rfl (.int rfl)
  refine Zl (σ:=(Nat)×(List (GE Zdq Int))×(Nat)) [2,3,9,61,62,63,68,69] [0,1,101,102,103,105,108] (fun s=>[(70,.pv (.int .i64 (s.1:Int))),(10,.pv (.int .i64 (atI (Nn g.orders i).txs s.1)))]) (fun s=>[(104,.ob (.val v16) (Zbt (fun n:Int=>PV.int .i64 n) (fun k=>∀ x ∈ Zeo k,inR .i64 x) (kvS Zeo) s.2.1 s.2.2))]) (fun s=>s.1≤(Nn g.orders i).txs.length∧(ZlY s.2.1 (nxA (g.orders.take i)++nxO (Nn g.orders i) s.1))) (fun s=>(Nn g.orders i).txs.length - s.1) ((0),(eC),(kC)) G ⟨rfl,rfl,rfl,rfl,rfl,rfl,rfl,rfl,rfl,rfl,tv⟩ ⟨rfl,rfl,rfl,rfl,rfl,rfl,rfl,rfl,tv⟩ ⟨Yw _,(by show ZlY _ (nxA (g.orders.take i) ++ []);rw [YN];exact hcn)⟩ ?_
  clear G;intro s a w F hC G
  obtain ⟨j,eC3,kC3⟩:=s
  try dsimp only at hC
  obtain ⟨F,G⟩:=G.nM [70,69,68,63,62,61,10,9,3,2] [108,105,104,103,102,101,1,0]
  try dsimp only at G
  obtain ⟨hi,hq⟩:=hC
  refine Ya (rZ G (qL r2) Z [71,70,69,68,63,62,61,10,9,3,2] [108,105,104,103,102,101,1,0] fun G=>Ya ?_)
  refine Zc G rfl (fun hc5=>?_) (fun hc5=>?_)
  ·have hil:j<(Nn g.orders i).txs.length:=by simp at hc5;omega
   refine Yf (Za (Ya (Yg (Ya (Zg G (qy 1 YbZ r2 (qf (oR false 1 .t) r1 qz (qO rr qZ))) Z [70,69,68,63,62,61,12,10,9,3,2] [108,105,104,103,102,101,1,0] rfl rfl fun a w F G=>?_)))))
   try simp only [Yc] at G
   refine Za (Ya (Zz G (qR rr (qf (Zs 105 .is (by rfl)) r1 r1 (qf (oF 4 105 .adr) r1 r1 (qa 105 r1 r1 (qg 0 108 r1 r1 (qa 108 r1 r1 (qR rr (qf (Zbf (sz:=1) (r:=[(0,.tmp 79),(1,.tmp 80)]) (zs:=[.int .i64 0,.int .i64 0]) (pl:=[(0,1),(1,1)]) Yca kr kr rfl (.one rfl .t one_int kr (.one rfl .t one_int kr .nil)) (by rfl)) r2 qz (qR rr (qf (o_mapUpdateG (ek:=(fun n:Int=>PV.int .i64 n)) 104 Yce Zf6 .is (ZG.agg (enc:=Zeo) (k:=(⟨(Nn g.orders i).key,atI (Nn g.orders i).txs j⟩:Zdq)) (.pagg .t) rfl) .t) r3 r1 qZ)))))))))) Z [70,69,68,63,62,61,12,10,9,3,2] [108,105,104,103,102,101,1,0] rfl rfl fun a w F G=>?_))
   try dsimp only [List.map,Zf,xL,xM,Nat.reduceAdd,xD,xE,xT,xU,xC,xN,zCF,ldSF,Zx,rTx,ZV,ZQ,Zo,rOp] at G
   obtain ⟨eC4,heC4⟩:∃ z,z=(gPut (⟨(Nn g.orders i).key,atI (Nn g.orders i).txs j⟩:Zdq) (Nn (Nn g.orders i).txs j) (eC3,kC3)).1:=⟨_,rfl⟩
   obtain ⟨kC4,hkC4⟩:∃ z,z=(gPut (⟨(Nn g.orders i).key,atI (Nn g.orders i).txs j⟩:Zdq) (Nn (Nn g.orders i).txs j) (eC3,kC3)).2:=⟨_,rfl⟩
   rw [← heC4,← hkC4] at G
   have hR3:ZlY eC4 (nxA (g.orders.take i)++nxO (Nn g.orders i) (j+1)):=by rw [heC4,Zpk,← YP];exact Zna hq
   refine Za (Zg G (qR rr (qO rr qZ)) Z [70,69,68,63,62,61,10,9,3,2] [108,105,104,103,102,101,1,0] rfl rfl fun a w F G=>Zk (Za ?_))
   refine rZ G (qp r1 (qR rr qZ)) Z [70,69,68,63,62,61,10,9,3,2] [108,105,104,103,102,101,1,0] fun G=>?_
   replace G:=G.ent (i:=70) (s':=.pv (.int .i64 ((j+1:Nat):Int))) rfl (.int (Zd ow))
   replace G:=G.ent (i:=10) (s':=.pv (.int .i64 (atI (Nn g.orders i).txs (j+1)))) rfl (.int (by simp [atI]))
   obtain ⟨F,G⟩:=G.nM [69,68,63,62,61,9,3,2,10,70] [108,105,103,102,101,1,0,104]
   exact ⟨((j+1),(eC4),(kC4)),F,⟨by omega,hR3⟩,G,by omega⟩
  have hil:j=(Nn g.orders i).txs.length:=by simp at hc5;omega
  rw [hil] at hq
  obtain ⟨eC2,heC2⟩:∃ z,z=eC3:=⟨_,rfl⟩
  obtain ⟨kC2,hkC2⟩:∃ z,z=kC3:=⟨_,rfl⟩
  rw [← heC2,← hkC2] at G
  have hR2:ZlY eC2 (nxA (g.orders.take (i+1))):=by rw [heC2,Zo1 hio];exact hq
  refine Yx (Zj (Zj (Zr (Zk (Za (rZ G (qp r1 (qR rr qZ)) Z [63,62,61,3,2] [108,105,104,103,102,101,1,0] fun G=>?_))))))
  replace G:=G.ent (i:=63) (s':=.pv (.int .i64 ((i+1:Nat):Int))) rfl (.int (Zd ow))
  obtain ⟨F,G⟩:=G.nM [62,61,3,2,63] [105,103,102,101,1,0,104]
  exact ⟨((i+1),(eC2),(kC2)),F,⟨by omega,hR2⟩,G,by omega⟩
 have hil:i=g.orders.length:=by simp at hc4;omega
 rw [hil,YC] at hq
 have hdC:=hq
 refine Yx (Zj (Zj (Zr (Za (Ya (rZ G (qR rr (qO rr qZ)) Z [2] [105,104,103,102,101,1,0] fun G=>Yh ?_))))))
 obtain ⟨b,rfl⟩:=G.shape 105 rfl
 obtain ⟨F,G⟩:=G.push 1 104 rfl rfl rfl kr
 obtain ⟨F,G⟩:=G.push 1 103 rfl rfl rfl kr
 obtain ⟨F,G⟩:=G.push 1 102 rfl rfl rfl kr
 obtain ⟨F,G⟩:=G.push 1 105 rfl rfl rfl kr
 have G:=G.turn 1 rfl (r':=RS.hp (Zl4 g (.pointer (some ⟨b,0,none⟩)))) (fun _ _ _ _ h=>⟨(⟨v14,v15,v16,eA,kA,eB,kB,eC,kC⟩:FS),⟨hdA,hdB,hdC⟩,h⟩)
 refine Z9 (h':=fun v=>Zl4 g v) hG G rfl (.tmp rfl .nil) (.one .ptr) rfl
theorem ZeG {P:Program} {B:Za6} {F0:Fp} (hG:Zmk B F0 2) {E:En} {a:Act} {w:World} {F:Fp} {fn:Func} {q:PV} {k1 k2:HP} {ss:List SF} (G:Sat B E a w F) (h0:Go.Gm.look E.r 0=some (frame B)) (hr:ROk P E fn.results.toList ss) (hq:Zbg ss q)
  (h1:Go.Gm.look E.r 1=some (RS.hp k1)) (h2:Go.Gm.look E.r 2=some (RS.hp k2)):bodyPost P fn (RG B F0 2 q (fun _=>[k1,k2])) .ret a w:=
 Zq8 hG G h0 hr hq fun v τ y hv i h hi=>by
  match i,hi with
  | 0,hi=>simp at hi;subst hi;exact ⟨_,h1,by omega,fun _ _ _ h=>h⟩
  | 1,hi=>simp at hi;subst hi;exact ⟨_,h2,by omega,fun _ _ _ h=>h⟩
theorem Zq6 (b:Nat) (g:Zq) (t:TxD) (o:OpD) (mv:Value) (AA:List (Ze×Int)) (RR:List Ze) (hRR:RR.length≤10000000):FnG prog 136 2 [.is (.pointer (some ⟨b,0,none⟩)),.agg (rTx t),.agg (rOp o),.is mv] [Zl4 g (.pointer (some ⟨b,0,none⟩)),ZeI AA RR mv] (.tup []) (fun _=>[Zl4 g (.pointer (some ⟨b,0,none⟩)),ZeI AA (RR++rdO g t o) mv]):=by
 refine FnG.mk func136 rfl ntmps136 rfl kr fun B F0 a w F Z hG G=>?_
 obtain ⟨⟨mA,mB,mC,eA,kA,eB,kB,eC,kC⟩,G⟩:=G.open_ex 1 rfl
 obtain ⟨hI,G⟩:=G.open_and 1 rfl
 try dsimp only [ZqE] at G
 obtain ⟨F,G⟩:=G.peel 1 3 rfl rfl
 obtain ⟨F,G⟩:=G.peel 1 4 rfl rfl
 obtain ⟨F,G⟩:=G.peel 1 5 rfl rfl
 obtain ⟨F,G⟩:=G.peel 1 6 rfl rfl
 obtain ⟨⟨es,ck⟩,G⟩:=G.open_ex 2 rfl
 obtain ⟨hq0,G⟩:=G.open_and 2 rfl
 replace G:=G.turn 2 rfl (r':=.ob (.val mv) (Zbt (fun n:Int=>PV.int .i64 n) (fun k=>∀ x ∈ Zag k,inR .i64 x) (kvS Zag) es ck)) (fun _ _ _ _ h=>h)
 try dsimp only at hI hq0
 obtain ⟨F,G⟩:=G.nM [3,2,1,0] [6,5,4,3,2,0]
 refine Ya (Zb G (qx 101 r1 (qx 102 r1 qZ)) Z [6,5,3,0] [102,101,6,5,4,3,2,0] (fun _=>rfl) (fun _=>rfl) fun τ a w F G=>?_)
 try dsimp only [RS.sub,SF.sub,CF.sub,csub,Anc.sub,List.map,zCF,Zx,rTx,ZV,ZQ,Zo,rOp] at G
 generalize τ 5=v5,τ 6=v6 at G
 refine Za (Ya (Ya (Zz G (qg 2 102 r1 r1 (qa 102 r1 r1 (qg 0 101 r1 r1 (qa 101 r1 r1 (qf (o_eql .t .t) r2 qz (qR rr (qv 2 102 rfl r2 r1 (qw 102 rfl r2 r1 (qk rfl (fun h=>o_neq (.w h) qi) r2 qz (qk rfl (fun h=>oM (.w h)) r2 qz (Zv.cons (Zan.cond2 rfl rfl (fun h=>ZaS .t (by rfl))) r2 qz (Zv.cons (Zan.cond2 rfl rfl (fun h=>Zs 3 (.w h .is) (by rfl))) r2 r1 (Zv.cons (Zan.cond2 rfl rfl (fun h=>ZT (off:=2) 3 (.w h .adr) kr (by rfl))) r2 r1 (Zv.cons (Zan.cond2 rfl rfl (fun h=>Za8 (ag:=false) (sz:=1) 3 (.w h .adr) kr kr kr (by rfl))) r2 r1 (Zv.cons (Zan.cond2 rfl rfl (fun h=>ZT (off:=2) 102 .is kr (by rfl))) r2 r1 (Zv.cons (Zan.cond2 rfl rfl (fun h=>Za8 (ag:=false) (sz:=1) 102 (.w h .adr) kr kr kr (by rfl))) r2 r1 (Zv.cons (Zan.cond2 rfl rfl (fun h=>Zae (ek:=(fun n:Int=>PV.int .i64 n)) (z0:=(0)) 4 underlying75 (Zck Yb4) kr (fun _ _=>⟨rfl,Zdf⟩) (.w h .is) (ZG.int (.w h) rfl))) r3 r1 (Zv.cons (Zan.cond2 rfl rfl (fun h=>o_eql (.w h) qi)) r2 qz (Zv.cons (Zan.cond2 rfl rfl (fun h=>ZaS (.w h) (by rfl))) r2 qz (Zv.cons (Zan.cond2 rfl rfl (fun h=>ZaS .t (by rfl))) r2 qz (Zv.cons (Zan.cond2 rfl rfl (fun h=>Zs 3 (.w h .is) (by rfl))) r2 r1 (Zv.cons (Zan.cond2 rfl rfl (fun h=>ZT (off:=3) 3 (.w h .adr) kr (by rfl))) r2 r1 (Zv.cons (Zan.cond2 rfl rfl (fun h=>Za8 (ag:=false) (sz:=1) 3 (.w h .adr) kr kr kr (by rfl))) r2 r1 (Zv.cons (Zan.cond2 rfl rfl (fun h=>ZT (off:=2) 102 .is kr (by rfl))) r2 r1 (Zv.cons (Zan.cond2 rfl rfl (fun h=>Za8 (ag:=false) (sz:=1) 102 (.w h .adr) kr kr kr (by rfl))) r2 r1 (Zv.cons (Zan.cond2 rfl rfl (fun h=>ZT (off:=1) 102 .is kr (by rfl))) r2 r1 (Zv.cons (Zan.cond2 rfl rfl (fun h=>Za8 (ag:=false) (sz:=1) 102 (.w h .adr) kr kr kr (by rfl))) r2 r1 (Zv.cons (Zan.cond2 rfl rfl (fun h=>Zbf (sz:=1) (r:=[(0,.tmp 33),(1,.tmp 35)]) (zs:=[.int .i64 0,.int .i64 0]) (pl:=[(0,1),(1,1)]) Yca kr kr rfl (.one rfl (.w h) one_int kr (.one rfl (.w h) one_int kr .nil)) (by rfl))) r3 qz (Zv.cons (Zan.cond2 rfl rfl (fun h=>Zae (ek:=(fun n:Int=>PV.int .i64 n)) (z0:=(0)) 5 Yce Zf6 kr (fun _ _=>⟨rfl,Zdf⟩) (.w h .is) (ZG.agg (enc:=Zeo) (k:=(⟨o.tx,o.key⟩:Zdq)) (.pagg (.w h)) rfl))) r3 r1 (Zv.cons (Zan.cond2 rfl rfl (fun h=>ZT (off:=3) 102 .is kr (by rfl))) r2 r1 (Zv.cons (Zan.cond2 rfl rfl (fun h=>Za8 (ag:=false) (sz:=1) 102 (.w h .adr) kr kr kr (by rfl))) r2 r1 (Zv.cons (Zan.cond2 rfl rfl (fun h=>o_neq (.w h) (.w h))) r3 qz (Zv.cons (Zan.cond2 rfl rfl (fun h=>Zab (.w h) (.wc h))) r3 qz (qk rfl (fun h=>ZH (.w h) (.wc h)) r3 qz (qf (Zab .t .t) r2 qz qZ))))))))))))))))))))))))))))))))))) Z [43,6,5,3,0] [102,101,6,5,4,3,2,0] rfl rfl fun a w F G=>?_)))
 try dsimp only [List.map,Zf,xL,xM,Nat.reduceAdd,xD,xE,xT,xU,xC,xN,zCF,ldSF,Zx,rTx,ZV,ZQ,Zo,rOp] at G
 refine Za (Zc G rfl (fun hc0=>?_) (fun hc0=>?_))
 ·have hno:ZqH g t o=true:=by unfold ZqH Zic Zlw;rw [← hI.dn,← hI.la];simpa using hc0
  obtain ⟨es3,hes3⟩:∃ z,z=es:=⟨_,rfl⟩
  obtain ⟨ck3,hck3⟩:∃ z,z=ck:=⟨_,rfl⟩
  rw [← hes3,← hck3] at G
  have hR9:Zf4 es3 AA (RR++rdO g t o):=by rw [hes3];unfold rdO;rw [Ye hno,YN];exact hq0
  refine Yh (Zm ?_)
  have G:=G.fresh 1 rfl
  obtain ⟨F,G⟩:=G.push 1 6 rfl rfl rfl kr
  obtain ⟨F,G⟩:=G.push 1 5 rfl rfl rfl kr
  obtain ⟨F,G⟩:=G.push 1 4 rfl rfl rfl kr
  obtain ⟨F,G⟩:=G.push 1 3 rfl rfl rfl kr
  have G:=G.turn 1 rfl (r':=RS.hp (Zl4 g (.pointer (some ⟨b,0,none⟩)))) (fun _ _ _ _ h=>⟨(⟨mA,mB,mC,eA,kA,eB,kB,eC,kC⟩:FS),hI,h⟩)
  have G:=G.turn 2 rfl (r':=RS.hp (ZeI AA (RR++rdO g t o) mv)) (fun _ _ _ _ h=>⟨(es3,ck3),hR9,h⟩)
  refine ZeG hG G rfl .nil Zbg.none rfl rfl
 have hno:ZqH g t o=false:=by unfold ZqH Zic Zlw;rw [← hI.dn,← hI.la];simpa using hc0
 refine Yf (Za (Ya (Ya (rZ G (qg 2 102 r1 r1 (qa 102 r1 r1 (qf (o_neq .t qi) r1 qz qZ))) Z [46,6,5,3,0] [102,101,6,5,4,3,2,0] fun G=>?_))))
 refine Zc G rfl (fun hc1=>?_) (fun hc1=>?_)
 ·have h0:¬ o.tx=0:=by simpa using hc1
  replace G:=G.turnZ 2 (0) (⟨o.tx,t.id,2,o.key⟩:Ze) rfl
  refine ZaU 2 12 (m1:=1) (m2:=2) kr G kr (qR rr (qg 2 102 r1 r1 (qa 102 r1 r1 (qg 0 101 r1 r1 (qa 101 r1 r1 (qg 1 102 r1 r1 (qa 102 r1 r1 (qf (oB [(0,.tmp 49),(1,.tmp 51),(2,_),(3,.tmp 53)] [.int .i64 0,.int .i64 0,.int .i64 0,.int .i64 0] [(0,1),(1,1),(2,1),(3,1)] (.one rfl .t one_int kr (.one rfl .t one_int kr (.one rfl qi one_int kr (.one rfl .t one_int kr .nil))))) r3 qz (qf (ZbZ (ek:=(fun n:Int=>PV.int .i64 n)) (z0:=(0)) 2 Ycb ZcR kr (fun _ _=>⟨rfl,Zdf⟩) .is (ZG.agg (enc:=Zag) (k:=(⟨o.tx,t.id,2,o.key⟩:Ze)) (.pagg .t) rfl)) r2 r1 (qp r1 (qf (ZaW (ek:=(fun n:Int=>PV.int .i64 n)) (z0:=(0)) 2 Ycb ZcR kr (fun _ _=>⟨rfl,Zdf⟩) .is (ZG.agg (enc:=Zag) (k:=(⟨o.tx,t.id,2,o.key⟩:Ze)) (.pagg .t) rfl) (by intros;first | rfl | simp [Anc.v,upd])) r2 r1 (qf (Zh .t rfl) r1 qz (qf (Zav 2 (Zbq _ _ _) .is .t .t) r3 r1 qZ))))))))))))) kr kr kr rfl rfl rfl (fun _ _ _ _ h=>.inr h) (by rw [Z];kernel_rfl) fun a w F G=>?_
  obtain ⟨F,G⟩:=G.nM [6,5,3,0] [102,101,6,5,4,3,2,0]
  try dsimp only [List.map,Zf,xL,xM,Nat.reduceAdd,xD,xE,xT,xU,xC,xN,zCF,ldSF,Zx,rTx,ZV,ZQ,Zo,rOp] at G
  obtain ⟨es2,hes2⟩:∃ z,z=gSet (⟨o.tx,t.id,2,o.key⟩:Ze) (IntKind.wrap .i64 ((gGet (⟨o.tx,t.id,2,o.key⟩:Ze) es).getD 0+1)) (gEns 0 (⟨o.tx,t.id,2,o.key⟩:Ze) (es,ck)).1:=⟨_,rfl⟩
  obtain ⟨ck2,hck2⟩:∃ z,z=(gEns 0 (⟨o.tx,t.id,2,o.key⟩:Ze) (es,ck)).2:=⟨_,rfl⟩
  rw [← hes2,← hck2] at G
  have hR2:Zf4 es2 AA (RR++rdA t o):=by rw [hes2];unfold rdA;rw [Yb h0];exact ZiV hq0 ow
  refine Za (Ya (Zz G (qR rr (qf (Zs 3 .is (by rfl)) r1 r1 (qf (oF 4 3 .adr) r1 r1 (qa 3 r1 r1 (qg 1 102 r1 r1 (qa 102 r1 r1 (qg 2 102 r1 r1 (qa 102 r1 r1 (qf (Zbf (sz:=1) (r:=[(0,.tmp 64),(1,.tmp 66)]) (zs:=[.int .i64 0,.int .i64 0]) (pl:=[(0,1),(1,1)]) Yca kr kr rfl (.one rfl .t one_int kr (.one rfl .t one_int kr .nil)) (by rfl)) r2 qz (qf (Zae (ek:=(fun n:Int=>PV.int .i64 n)) (z0:=(0)) 6 Yce Zf6 kr (fun _ _=>⟨rfl,Zdf⟩) .is (ZG.agg (enc:=Zeo) (k:=(⟨o.key,o.tx⟩:Zdq)) (.pagg .t) rfl)) r2 r1 (qO rr qZ))))))))))) Z [8,6,5,3] [102,101,6,5,4,3,2,0] rfl rfl fun a w F G=>?_))
  try dsimp only [List.map,Zf,xL,xM,Nat.reduceAdd,xD,xE,xT,xU,xC,xN,zCF,ldSF,Zx,rTx,ZV,ZQ,Zo,rOp] at G
  rw [show (gGet (⟨o.key,o.tx⟩:Zdq) eC).getD 0=(nxI g o.key o.tx) from hI.nx _] at G
  refine Za (Ya (rZ G (qR rr (qf (o_neq .t qi) r1 qz (qR rr (qm rfl rfl rfl rfl (qv 0 101 rfl r2 r1 (qw 101 rfl r2 r1 (qk rfl (fun h=>o_neq (.w h) (.w h)) r3 qz (qf (ZH .t .t) r2 qz qZ)))))))) Z [76,8,6,5,3] [102,101,6,5,4,3,2,0] fun G=>?_))
  refine Zc G rfl (fun hc2=>?_) (fun hc2=>?_)
  ·have h1:(nxI g o.key o.tx)≠0∧(nxI g o.key o.tx)≠t.id:=by simpa using hc2
   replace G:=G.turnZ 2 (0) (⟨t.id,(nxI g o.key o.tx),3,o.key⟩:Ze) rfl
   refine ZaU 2 11 (m1:=1) (m2:=2) kr G kr (qR rr (qg 0 101 r1 r1 (qa 101 r1 r1 (qR rr (qg 1 102 r1 r1 (qa 102 r1 r1 (qf (oB [(0,.tmp 79),(1,.tmp 80),(2,_),(3,.tmp 82)] [.int .i64 0,.int .i64 0,.int .i64 0,.int .i64 0] [(0,1),(1,1),(2,1),(3,1)] (.one rfl .t one_int kr (.one rfl .t one_int kr (.one rfl qi one_int kr (.one rfl .t one_int kr .nil))))) r3 qz (qf (ZbZ (ek:=(fun n:Int=>PV.int .i64 n)) (z0:=(0)) 2 Ycb ZcR kr (fun _ _=>⟨rfl,Zdf⟩) .is (ZG.agg (enc:=Zag) (k:=(⟨t.id,(nxI g o.key o.tx),3,o.key⟩:Ze)) (.pagg .t) rfl)) r2 r1 (qp r1 (qf (ZaW (ek:=(fun n:Int=>PV.int .i64 n)) (z0:=(0)) 2 Ycb ZcR kr (fun _ _=>⟨rfl,Zdf⟩) .is (ZG.agg (enc:=Zag) (k:=(⟨t.id,(nxI g o.key o.tx),3,o.key⟩:Ze)) (.pagg .t) rfl) (by intros;first | rfl | simp [Anc.v,upd])) r2 r1 (qf (Zh .t rfl) r1 qz (qf (Zav 2 (Zbq _ _ _) .is .t .t) r3 r1 qZ)))))))))))) kr kr kr rfl rfl rfl (fun _ _ _ _ h=>.inr h) (by rw [Z];kernel_rfl) fun a w F G=>?_
   obtain ⟨F,G⟩:=G.nM [] [102,101,6,5,4,3,2,0]
   try dsimp only [List.map,Zf,xL,xM,Nat.reduceAdd,xD,xE,xT,xU,xC,xN,zCF,ldSF,Zx,rTx,ZV,ZQ,Zo,rOp] at G
   obtain ⟨es3,hes3⟩:∃ z,z=gSet (⟨t.id,(nxI g o.key o.tx),3,o.key⟩:Ze) (IntKind.wrap .i64 ((gGet (⟨t.id,(nxI g o.key o.tx),3,o.key⟩:Ze) es2).getD 0+1)) (gEns 0 (⟨t.id,(nxI g o.key o.tx),3,o.key⟩:Ze) (es2,ck2)).1:=⟨_,rfl⟩
   obtain ⟨ck3,hck3⟩:∃ z,z=(gEns 0 (⟨t.id,(nxI g o.key o.tx),3,o.key⟩:Ze) (es2,ck2)).2:=⟨_,rfl⟩
   rw [← hes3,← hck3] at G
   have hR9:Zf4 es3 AA (RR++rdO g t o):=by rw [hes3];unfold rdO;rw [Yb (by rw [hno];simp)];unfold rdB;rw [Ye h1,← YP];exact ZiV hR2 (by have h9:(rdA t o).length≤1:=by { unfold rdA;split <;> simp };rw [Yd];omega)
   have G:=G.fresh 1 rfl
   obtain ⟨F,G⟩:=G.push 1 6 rfl rfl rfl kr
   obtain ⟨F,G⟩:=G.push 1 5 rfl rfl rfl kr
   obtain ⟨F,G⟩:=G.push 1 4 rfl rfl rfl kr
   obtain ⟨F,G⟩:=G.push 1 3 rfl rfl rfl kr
   have G:=G.turn 1 rfl (r':=RS.hp (Zl4 g (.pointer (some ⟨b,0,none⟩)))) (fun _ _ _ _ h=>⟨(⟨mA,mB,mC,eA,kA,eB,kB,eC,kC⟩:FS),hI,h⟩)
   have G:=G.turn 2 rfl (r':=RS.hp (ZeI AA (RR++rdO g t o) mv)) (fun _ _ _ _ h=>⟨(es3,ck3),hR9,h⟩)
   refine ZeG hG G rfl .nil Zbg.none rfl rfl
  have h1:¬ ((nxI g o.key o.tx)≠0∧(nxI g o.key o.tx)≠t.id):=by simpa using hc2
  obtain ⟨es3,hes3⟩:∃ z,z=es2:=⟨_,rfl⟩
  obtain ⟨ck3,hck3⟩:∃ z,z=ck2:=⟨_,rfl⟩
  rw [← hes3,← hck3] at G
  have hR9:Zf4 es3 AA (RR++rdO g t o):=by rw [hes3];unfold rdO;rw [Yb (by rw [hno];simp)];unfold rdB;rw [Yb h1,YN];exact hR2
  refine Yf ?_
  have G:=G.fresh 1 rfl
  obtain ⟨F,G⟩:=G.push 1 6 rfl rfl rfl kr
  obtain ⟨F,G⟩:=G.push 1 5 rfl rfl rfl kr
  obtain ⟨F,G⟩:=G.push 1 4 rfl rfl rfl kr
  obtain ⟨F,G⟩:=G.push 1 3 rfl rfl rfl kr
  have G:=G.turn 1 rfl (r':=RS.hp (Zl4 g (.pointer (some ⟨b,0,none⟩)))) (fun _ _ _ _ h=>⟨(⟨mA,mB,mC,eA,kA,eB,kB,eC,kC⟩:FS),hI,h⟩)
  have G:=G.turn 2 rfl (r':=RS.hp (ZeI AA (RR++rdO g t o) mv)) (fun _ _ _ _ h=>⟨(es3,ck3),hR9,h⟩)
  refine ZeG hG G rfl .nil Zbg.none rfl rfl
 have h0:o.tx=0:=by simpa using hc1
 obtain ⟨es2,hes2⟩:∃ z,z=es:=⟨_,rfl⟩
 obtain ⟨ck2,hck2⟩:∃ z,z=ck:=⟨_,rfl⟩
 rw [← hes2,← hck2] at G
 have hR2:Zf4 es2 AA (RR++rdA t o):=by rw [hes2];unfold rdA;rw [Ye h0,YN];exact hq0
 refine Yf (Za (Ya (Zz G (qR rr (qf (Zs 3 .is (by rfl)) r1 r1 (qf (oF 4 3 .adr) r1 r1 (qa 3 r1 r1 (qg 1 102 r1 r1 (qa 102 r1 r1 (qg 2 102 r1 r1 (qa 102 r1 r1 (qf (Zbf (sz:=1) (r:=[(0,.tmp 64),(1,.tmp 66)]) (zs:=[.int .i64 0,.int .i64 0]) (pl:=[(0,1),(1,1)]) Yca kr kr rfl (.one rfl .t one_int kr (.one rfl .t one_int kr .nil)) (by rfl)) r2 qz (qf (Zae (ek:=(fun n:Int=>PV.int .i64 n)) (z0:=(0)) 6 Yce Zf6 kr (fun _ _=>⟨rfl,Zdf⟩) .is (ZG.agg (enc:=Zeo) (k:=(⟨o.key,o.tx⟩:Zdq)) (.pagg .t) rfl)) r2 r1 (qO rr qZ))))))))))) Z [8,6,5,3] [102,101,6,5,4,3,2,0] rfl rfl fun a w F G=>?_)))
 try dsimp only [List.map,Zf,xL,xM,Nat.reduceAdd,xD,xE,xT,xU,xC,xN,zCF,ldSF,Zx,rTx,ZV,ZQ,Zo,rOp] at G
 rw [show (gGet (⟨o.key,o.tx⟩:Zdq) eC).getD 0=(nxI g o.key o.tx) from hI.nx _] at G
 refine Za (Ya (rZ G (qR rr (qf (o_neq .t qi) r1 qz (qR rr (qm rfl rfl rfl rfl (qv 0 101 rfl r2 r1 (qw 101 rfl r2 r1 (qk rfl (fun h=>o_neq (.w h) (.w h)) r3 qz (qf (ZH .t .t) r2 qz qZ)))))))) Z [76,8,6,5,3] [102,101,6,5,4,3,2,0] fun G=>?_))
 refine Zc G rfl (fun hc3=>?_) (fun hc3=>?_)
 ·have h1:(nxI g o.key o.tx)≠0∧(nxI g o.key o.tx)≠t.id:=by simpa using hc3
  replace G:=G.turnZ 2 (0) (⟨t.id,(nxI g o.key o.tx),3,o.key⟩:Ze) rfl
  refine ZaU 2 11 (m1:=1) (m2:=2) kr G kr (qR rr (qg 0 101 r1 r1 (qa 101 r1 r1 (qR rr (qg 1 102 r1 r1 (qa 102 r1 r1 (qf (oB [(0,.tmp 79),(1,.tmp 80),(2,_),(3,.tmp 82)] [.int .i64 0,.int .i64 0,.int .i64 0,.int .i64 0] [(0,1),(1,1),(2,1),(3,1)] (.one rfl .t one_int kr (.one rfl .t one_int kr (.one rfl qi one_int kr (.one rfl .t one_int kr .nil))))) r3 qz (qf (ZbZ (ek:=(fun n:Int=>PV.int .i64 n)) (z0:=(0)) 2 Ycb ZcR kr (fun _ _=>⟨rfl,Zdf⟩) .is (ZG.agg (enc:=Zag) (k:=(⟨t.id,(nxI g o.key o.tx),3,o.key⟩:Ze)) (.pagg .t) rfl)) r2 r1 (qp r1 (qf (ZaW (ek:=(fun n:Int=>PV.int .i64 n)) (z0:=(0)) 2 Ycb ZcR kr (fun _ _=>⟨rfl,Zdf⟩) .is (ZG.agg (enc:=Zag) (k:=(⟨t.id,(nxI g o.key o.tx),3,o.key⟩:Ze)) (.pagg .t) rfl) (by intros;first | rfl | simp [Anc.v,upd])) r2 r1 (qf (Zh .t rfl) r1 qz (qf (Zav 2 (Zbq _ _ _) .is .t .t) r3 r1 qZ)))))))))))) kr kr kr rfl rfl rfl (fun _ _ _ _ h=>.inr h) (by rw [Z];kernel_rfl) fun a w F G=>?_
  obtain ⟨F,G⟩:=G.nM [] [102,101,6,5,4,3,2,0]
  try dsimp only [List.map,Zf,xL,xM,Nat.reduceAdd,xD,xE,xT,xU,xC,xN,zCF,ldSF,Zx,rTx,ZV,ZQ,Zo,rOp] at G
  obtain ⟨es3,hes3⟩:∃ z,z=gSet (⟨t.id,(nxI g o.key o.tx),3,o.key⟩:Ze) (IntKind.wrap .i64 ((gGet (⟨t.id,(nxI g o.key o.tx),3,o.key⟩:Ze) es2).getD 0+1)) (gEns 0 (⟨t.id,(nxI g o.key o.tx),3,o.key⟩:Ze) (es2,ck2)).1:=⟨_,rfl⟩
  obtain ⟨ck3,hck3⟩:∃ z,z=(gEns 0 (⟨t.id,(nxI g o.key o.tx),3,o.key⟩:Ze) (es2,ck2)).2:=⟨_,rfl⟩
  rw [← hes3,← hck3] at G
  have hR9:Zf4 es3 AA (RR++rdO g t o):=by rw [hes3];unfold rdO;rw [Yb (by rw [hno];simp)];unfold rdB;rw [Ye h1,← YP];exact ZiV hR2 (by have h9:(rdA t o).length≤1:=by { unfold rdA;split <;> simp };rw [Yd];omega)
  have G:=G.fresh 1 rfl
  obtain ⟨F,G⟩:=G.push 1 6 rfl rfl rfl kr
  obtain ⟨F,G⟩:=G.push 1 5 rfl rfl rfl kr
  obtain ⟨F,G⟩:=G.push 1 4 rfl rfl rfl kr
  obtain ⟨F,G⟩:=G.push 1 3 rfl rfl rfl kr
  have G:=G.turn 1 rfl (r':=RS.hp (Zl4 g (.pointer (some ⟨b,0,none⟩)))) (fun _ _ _ _ h=>⟨(⟨mA,mB,mC,eA,kA,eB,kB,eC,kC⟩:FS),hI,h⟩)
  have G:=G.turn 2 rfl (r':=RS.hp (ZeI AA (RR++rdO g t o) mv)) (fun _ _ _ _ h=>⟨(es3,ck3),hR9,h⟩)
  refine ZeG hG G rfl .nil Zbg.none rfl rfl
 have h1:¬ ((nxI g o.key o.tx)≠0∧(nxI g o.key o.tx)≠t.id):=by simpa using hc3
 obtain ⟨es3,hes3⟩:∃ z,z=es2:=⟨_,rfl⟩
 obtain ⟨ck3,hck3⟩:∃ z,z=ck2:=⟨_,rfl⟩
 rw [← hes3,← hck3] at G
 have hR9:Zf4 es3 AA (RR++rdO g t o):=by rw [hes3];unfold rdO;rw [Yb (by rw [hno];simp)];unfold rdB;rw [Yb h1,YN];exact hR2
 refine Yf ?_
 have G:=G.fresh 1 rfl
 obtain ⟨F,G⟩:=G.push 1 6 rfl rfl rfl kr
 obtain ⟨F,G⟩:=G.push 1 5 rfl rfl rfl kr
 obtain ⟨F,G⟩:=G.push 1 4 rfl rfl rfl kr
 obtain ⟨F,G⟩:=G.push 1 3 rfl rfl rfl kr
 have G:=G.turn 1 rfl (r':=RS.hp (Zl4 g (.pointer (some ⟨b,0,none⟩)))) (fun _ _ _ _ h=>⟨(⟨mA,mB,mC,eA,kA,eB,kB,eC,kC⟩:FS),hI,h⟩)
 have G:=G.turn 2 rfl (r':=RS.hp (ZeI AA (RR++rdO g t o) mv)) (fun _ _ _ _ h=>⟨(es3,ck3),hR9,h⟩)
 refine ZeG hG G rfl .nil Zbg.none rfl rfl
end Go.Proofs.YtlkpllemoepamaaGreat
