/- Texts put together. No condition beyond those that each theorem says. -/
import Derived.Test.YtlkpllemoepamaaGreatJ7
import Derived.Test.YtlkpllemoepamaaGreatJ3
import Derived.Test.YtlkpllemoepamaaGreatJ0
import Derived.Test.YtlkpllemoepamaaGreatLibW
import Derived.Laws.BitsLemmas
import Derived.Test.YtlkpllemoepamaaGreatLibL
namespace Go.Proofs.YtlkpllemoepamaaGreat
open Go Go.Gm Tryz
set_option linter.unusedVariables false
set_option linter.unusedSimpArgs false
set_option maxHeartbeats 4000000
set_option maxRecDepth 8000
theorem ZbA {l:List TxD} {k x:Int} : x ∈ Z4 l k ↔ ∃ t ∈ l,t.id=x∧t.done=true∧0<wcnt t.ops k:=by
 unfold Z4
 rw [Yv]
 constructor
 ·rintro ⟨t,ht,e⟩
  rw [YV] at ht
  simp at ht
  exact ⟨t,ht.1,e,ht.2.1,ht.2.2⟩
 ·rintro ⟨t,ht,e,h1,h2⟩
  exact ⟨t,by rw [YV];simp [ht,h1,h2],e⟩
theorem Zcr {l:List TxD} (h:Zcq TxD.id l) (k:Int):(Z4 l k).Nodup:=by
 unfold Z4
 have h1:(l.map TxD.id).Nodup:=(YaW.2 (ZS.1 h)).imp fun h=>Int.ne_of_lt h
 exact (h1.sublist ((List.filter_sublist).map _))
theorem Zfd {l:List TxD} (h:Zcq TxD.id l) {t:TxD} (ht:t ∈ l):Z5 l t.id=some t:=by
 have h:=ZS.1 h
 induction l with
 | nil=>cases ht
 | cons x l ih=>
  rw [Yo] at h
  unfold Z5
  rw [Yb4]
  rcases Yj.1 ht with rfl | ht
  ·simp
  ·have:=h.1 t ht
   rw [show decide (x.id=t.id)=false by simp;omega]
   exact ih (ZS.2 h.2) ht h.2
theorem Zsg {l:List TxD} {id:Int} (h:∀ t ∈ l,t.id≠id):Z5 l id=none:=by
 unfold Z5
 exact Ybu.2 fun t ht=>by simpa using h t ht
theorem Zcc {g:Zr} : ZW g ↔ g.txs.length≤4096∧Zcq TxD.id g.txs∧(∀ t ∈ g.txs,ZaI t=0∧Zdw g t=true)∧Zcq OrdD.key g.orders∧NE g.orders ∧ ∀ k,(getO g.orders k).Perm (Z4 g.txs k):=by
 constructor
 ·intro h
  obtain ⟨r1',r2'⟩:=Zaz h
  have hne:=Zqv h
  have h2:=(Zdd g).2 h.2.2
  refine ⟨h.1,r1',fun t ht=>?_,r2',hne,fun k=>?_⟩
  ·obtain ⟨j,hj,e⟩:=Yab ht
   have:=(h.2.1 j hj).2
   rwa [nth_eq hj,e] at this
  ·by_cases hk:getO g.orders k = []
   ·rw [hk]
    have hw:Z4 g.txs k = []:=by
     refine Decidable.byContradiction fun hw=>?_
     obtain ⟨j,hj,e⟩:=Yab (Zc4.2 hw)
     have hjo:j<g.orders.length:=by rw [h.2.2.1];exact hj
     have h3:=(h.2.2.2 j hjo).1
     rw [nth_eq hj,e] at h3
     have h4:=Zd2 (ZS.1 r2') (nth_mem hjo)
     rw [h3,hk] at h4
     exact hne _ (nth_mem hjo) h4.symm
    rw [hw]
   ·have hm:=ZhB hk
    obtain ⟨j,hj,e⟩:=Yab hm
    have:=(h2.2 j hj).2.2
    rw [nth_eq hj,e] at this
    exact this
 ·rintro ⟨h1,h2,h3,h4,h5,h6⟩
  have hk:g.orders.map OrdD.key=ZcC g.txs:=by
   refine Zew (YaW.2 (ZS.1 h4)) (ZV _).1 fun k=>?_
   rw [Zc4,Yv]
   constructor
   ·rintro ⟨o,ho,rfl⟩ e
    have:=h6 o.key
    rw [e,Zd2 (ZS.1 h4) ho] at this
    exact h5 o ho this.eq_nil
   ·intro e
    have:getO g.orders k≠[]:=fun e2=>by
     have:=h6 k
     rw [e2] at this
     exact e this.symm.eq_nil
    exact ⟨_,ZhB this,rfl⟩
  have hlen:g.orders.length=(ZcC g.txs).length:=by rw [← hk,YH]
  refine ⟨h1,fun i hi=>?_,(Zdd g).1 ⟨hlen,fun i hi=>?_⟩⟩
  ·obtain ⟨g1,g2⟩:=h3 _ (nth_mem hi)
   exact ⟨fun h0=>h2 (i - 1) i ow hi,g1,g2⟩
  ·refine ⟨fun h0=>h4 (i - 1) i ow hi,h5 _ (nth_mem hi),?_⟩
   have:=h6 (Nn g.orders i).key
   rwa [Zd2 (ZS.1 h4) (nth_mem hi)] at this
theorem Zo8 {t:TxD} {l:List Int} {k x:Int} : x ∈ Zic t l k ↔ (x ∈ l∧x≠t.id)∨(x=t.id∧t.done=true∧0<wcnt t.ops k):=by
 unfold Zic
 by_cases h:t.done=true∧0<wcnt t.ops k
 ·rw [Yf h]
  unfold withO
  split
  ·rename_i hi
   constructor
   ·intro hx
    by_cases e:x=t.id
    ·exact .inr ⟨e,h⟩
    ·exact .inl ⟨hx,e⟩
   ·rintro (⟨hx,_⟩ | ⟨rfl,_⟩)
    ·exact hx
    ·exact hi
  ·rename_i hi
   rw [Yz,Yk]
   constructor
   ·rintro (hx | hx)
    ·exact .inl ⟨hx,fun e=>hi (e ▸ hx)⟩
    ·exact .inr ⟨hx,h⟩
   ·rintro (⟨hx,_⟩ | ⟨e,_⟩)
    ·exact .inl hx
    ·exact .inr e
 ·rw [Yc h]
  unfold withoutO
  rw [YV,Yq]
  exact ⟨fun h1=>.inl h1,fun h1=>h1.elim id fun h2=>absurd h2.2 h⟩
theorem Zka {t:TxD} {l:List Int} (h:l.Nodup) (k:Int):(Zic t l k).Nodup:=by
 unfold Zic
 split
 ·unfold withO
  split
  ·exact h
  ·rename_i hi
   rw [YbA]
   exact ⟨h,by simp,fun a ha b hb=>by rw [Yk] at hb;subst hb;exact fun e=>hi (e ▸ ha)⟩
 ·exact h.filter _
theorem Zmt {g:Zr} {t:TxD} {b:Bool} {l:List TxD} (hR:ZW g) (hs:Zdz g.orders) (hr:Zcq TxD.id l) (hl:l.length≤4096) (hM:∀ s,s ∈ l ↔ (s ∈ g.txs∧s.id≠t.id)∨(s=t∧b=true))
  (ht:b=true→ZaI t=0∧Zdw g t=true) (hb:b=false→t.done=false)
  (hu:∀ x ∈ l,∀ v ∈ Zf1 x,v.tx=t.id→ZjW g v=true→¬ (v.tx=0∧v.nth=0)→b=true∧v.nth≤(wcnt t.ops v.key:Int)):ZW ⟨l,settleO t g.orders⟩:=by
 obtain ⟨h1,h2,h3,h4,h5,h6⟩:=Zcc.1 hR
 obtain ⟨s1,s2⟩:=Zkk (t:=t) h4 hs
 have hhas:∀ x ∈ l,∀ v ∈ Zf1 x,ZjW g v=true→ZjW ⟨l,settleO t g.orders⟩ v=true:=by
  intro x hx v hv hg
  by_cases hz:v.tx=0∧v.nth=0
  ·unfold ZjW at hg ⊢
   rw [Yf hz] at hg ⊢
   exact hg
  ·have hu2:=hu x hx v hv
   unfold ZjW at hg hu2 ⊢
   rw [Yc hz] at hg hu2 ⊢
   by_cases e:v.tx=t.id
   ·obtain ⟨b1,b2⟩:=hu2 e hg hz
    have hm:t ∈ l:=(hM t).2 (.inr ⟨rfl,b1⟩)
    have hf:=Zfd hr hm
    simp only [Yr,Yq] at hg ⊢
    show _∧_
    rw [e,hf]
    exact ⟨rfl,hg.2.1,b2⟩
   ·have hf:Z5 l v.tx=Z5 g.txs v.tx:=by
     cases hc:Z5 g.txs v.tx with
     | none=>
      refine Zsg fun s hsl es=>?_
      rcases (hM s).1 hsl with ⟨m1,m2⟩ | ⟨rfl,_⟩
      ·have:=Zfd h2 m1
       rw [es,hc] at this;cases this
      ·exact e es.symm
     | some s=>
      obtain ⟨m1,m2⟩:=findT_mem hc
      have hm:s ∈ l:=(hM s).2 (.inl ⟨m1,by rw [m2];exact e⟩)
      have:=Zfd hr hm
      rwa [m2] at this
    show (((Z5 l v.tx).isSome && _):Bool)=true
    rw [hf];exact hg
 refine Zcc.2 ⟨hl,hr,fun x hx=>?_,ZS.2 s1,s2,fun k=>?_⟩
 ·have hx2:ZaI x=0∧Zdw g x=true:=by
   rcases (hM x).1 hx with ⟨m1,_⟩ | ⟨rfl,b1⟩
   ·exact h3 x m1
   ·exact ht b1
  refine ⟨hx2.1,?_⟩
  have h7:=hx2.2
  unfold Zdw at h7 ⊢
  rw [YaT] at h7 ⊢
  exact fun v hv=>hhas x hx v hv (h7 v hv)
 ·rw [ZgS h4 k]
  have hn:(getO g.orders k).Nodup:=(h6 k).symm.nodup (Zcr h2 k)
  refine (List.perm_ext_iff_of_nodup (Zka hn k) (Zcr hr k)).2 fun x=>?_
  rw [Zo8,ZbA,(h6 k).mem_iff,ZbA]
  constructor
  ·rintro (⟨⟨s,m1,m2,m3,m4⟩,m5⟩ | ⟨rfl,m3,m4⟩)
   ·exact ⟨s,(hM s).2 (.inl ⟨m1,by rw [m2];exact m5⟩),m2,m3,m4⟩
   ·refine ⟨t,(hM t).2 (.inr ⟨rfl,?_⟩),rfl,m3,m4⟩
    cases b with
    | true=>rfl
    | false=>rw [hb rfl] at m3;cases m3
  ·rintro ⟨s,m1,m2,m3,m4⟩
   rcases (hM s).1 m1 with ⟨m5,m6⟩ | ⟨rfl,_⟩
   ·exact .inl ⟨⟨s,m5,m2,m3,m4⟩,by rw [← m2];exact m6⟩
   ·exact .inr ⟨m2.symm,m3,m4⟩
theorem Zlv {l:List TxD} {t:TxD} (h:Zcq TxD.id l) (hk:isK TxD.id t.id l=false):Zcq TxD.id (l.take (lowK TxD.id t.id l) ++ [t] ++ l.drop (lowK TxD.id t.id l)) ∧ ∀ s,s ∈ l.take (lowK TxD.id t.id l) ++ [t] ++ l.drop (lowK TxD.id t.id l) ↔ (s ∈ l∧s.id≠t.id)∨(s=t∧true=true):=by
 rw [← ZfL (ZS.1 h) hk]
 refine ⟨ZS.2 (Zhk (ZS.1 h)),fun s=>?_⟩
 rw [ZfL (ZS.1 h) hk,Yz,Yz,Yk]
 have hne:∀ s ∈ l,s.id≠t.id:=fun s hs e=>by
  have:=List.any_eq_false.1 hk s hs
  simp at this;exact this e
 constructor
 ·rintro ((h1 | h1) | h1)
  ·exact .inl ⟨Yak h1,hne s (Yak h1)⟩
  ·exact .inr ⟨h1,rfl⟩
  ·exact .inl ⟨Ya1 h1,hne s (Ya1 h1)⟩
 ·rintro (⟨h1,_⟩ | ⟨h1,_⟩)
  ·rw [← YaF (lowK TxD.id t.id l) l,Yz] at h1
   rcases h1 with h1 | h1
   ·exact .inl (.inl h1)
   ·exact .inr h1
  ·exact .inl (.inr h1)
theorem ZpY {g:Zr} {v:Zb0} (h:ZjW g v=true) (hz:¬ (v.tx=0∧v.nth=0)):isK TxD.id v.tx g.txs=true∧1≤v.nth:=by
 unfold ZjW at h
 rw [Yc hz,Yr,Yr,Zoi] at h
 exact ⟨h.1,by simpa using h.2.1⟩
theorem ZiF {g:Zr} {t:TxD} (hs:Za9 g) (h:(Z3 g t).2=0):ZW (Z3 g t).1:=by
 unfold Z3 at h ⊢
 split at h
 ·rename_i h1;exact absurd h h1
 ·rename_i h1
  split at h
  ·simp at h
  ·rename_i h2
   obtain ⟨hr,hrt,hik,hnd,_⟩:=Zqq (by decide) (Yax.1 h1)
   rw [Yc h1,Yc h2]
   obtain ⟨m1,m2⟩:=Zlv (Zaz hr).1 hik
   refine Zmt (b:=true) hr hs.2 m1 ?_ m2 (fun _=>⟨hrt,hnd⟩) (fun h=>by cases h) fun x _ v _ e hv hz=>?_
   ·have:=hr.1
    rw [Yd,Yd,Yi,YE];simp;omega
   ·have:=(ZpY hv hz).1
    rw [e,hik] at this;cases this
structure ZpX where
 tx:Int
 place:Int
 vof:Zb0
 deriving DecidableEq,Inhabited
def Zim (b:ZpX):List PV:=[.int .i64 b.tx,.int .i64 b.place,.int .i64 b.vof.tx,.int .i64 b.vof.key,.int .i64 b.vof.nth]
def uOf (g:Zr) (o:OpD):TxD:=(Z5 g.txs o.tx).getD zeroT
def ZgV (t u:TxD) (o:OpD) (phen:Int):Bool:=t.done && (if phen=2 then !u.done else decide (phen=3) && decide (o.nth<(wcnt u.ops o.key:Int)))
def ZpE (g:Zr) (phen:Int) (t:TxD) (o:OpD):Bool:=Zds t.id o && ZgV t (uOf g o) o phen
def Zc8 (g:Zr) (phen:Int) (p:Int→Bool) (t:TxD) (l:List OpD):List ZpX:=(l.zipIdx.filter fun x=>p x.1.key && ZpE g phen t x.1).map fun x=>⟨t.id,(x.2:Int),ofO x.1⟩
theorem ZdA {g:Zr} {phen:Int} {p:Int→Bool} {t:TxD} {l:List OpD} {j:Nat} (hj:j<l.length):Zc8 g phen p t (l.take (j+1))=Zc8 g phen p t (l.take j)++if (p (Nn l j).key && ZpE g phen t (Nn l j))=true then [⟨t.id,j,ofO (Nn l j)⟩] else []:=by
 unfold Zc8
 rw [Zp hj,List.zipIdx_append,Yaa,YQ]
 congr 1
 rw [Yi,show min j l.length=j by omega]
 by_cases h:(p (Nn l j).key && ZpE g phen t (Nn l j))=true
 ·rw [Yf h,List.zipIdx_cons,Yar (by simpa using h)];simp
 ·rw [Yc h,List.zipIdx_cons,Yas (by simpa using h)];simp
theorem Zg4 (g:Zr) (phen:Int) (p:Int→Bool) (t:TxD) (l:List OpD):(Zc8 g phen p t l).length≤l.length:=by
 unfold Zc8
 rw [YH]
 exact Y1 (Yac _ _) (by simp)
def badsG (g:Zr) (phen:Int) (p:Int→Bool) (l:List TxD):List ZpX:=l.flatMap fun t=>Zc8 g phen p t t.ops
theorem Zmv {g:Zr} {phen:Int} {p:Int→Bool} {l:List TxD} {i:Nat} (hi:i<l.length):badsG g phen p (l.take (i+1))=badsG g phen p (l.take i)++Zc8 g phen p (Nn l i) (Nn l i).ops:=by
 unfold badsG
 rw [Zp hi,YU]
 simp
theorem Zlp {g:Zr} {phen:Int} {p:Int→Bool} {l:List TxD} (h:Za1 l) (i:Nat):(badsG g phen p (l.take i)).length≤1000*i:=by
 have key:∀ l:List TxD,(∀ t ∈ l,t.ops.length≤1000)→(badsG g phen p l).length≤1000*l.length:=by
  intro l
  induction l with
  | nil=>intro _;simp [badsG]
  | cons t l ih=>
   intro h
   have h1:=ih fun x hx=>h x (by simp [hx])
   have h2:=h t (by simp)
   have h3:=Zg4 g phen p t t.ops
   unfold badsG at h1 ⊢
   rw [YZ,Yd,Yl]
   omega
 have h1:=key (l.take i) fun t ht=>h.2 t (Yak ht)
 have h2:(l.take i).length≤i:=by rw [Yi];omega
 exact Y1 h1 (Ybl _ h2)
def ZaS (g:Zr) (phen:Int) (p:Int→Bool):List ZpX:=if ZW g then badsG g phen p g.txs else []
theorem Zpi {g:Zr} (hr:∀ i,i<g.txs.length→Zny g i):Zdu (g.txs.map TxD.id):=ZfI fun i hi h0=>by
 have hi':i<g.txs.length:=by simpa using hi
 rw [Zcy ow,Zcy hi']
 exact (hr i hi').1 h0
theorem Zvj {g:Zr} (hr:∀ i,i<g.txs.length→Zny g i) {i k:Nat} (hi:i<g.txs.length) (hk:k<i):(Nn g.txs k).id<(Nn g.txs i).id:=by
 have h:=YaL.1 (Zpi hr) k i (by simp;omega) (by simpa using hi) hk
 rw [nth_eq hi,nth_eq ow]
 simpa using h
def Zto (es:List (GE Int TxD)) (l:List TxD):Prop:=∀ id,gGet id es=Z5 l id
theorem ZtA {g:Zr} (hr:∀ i,i<g.txs.length→Zny g i) {es:List (GE Int TxD)} {ck i:Nat} (h:Zto es (g.txs.take i)) (hi:i<g.txs.length):Zto (gPut (Nn g.txs i).id (Nn g.txs i) (es,ck)).1 (g.txs.take (i+1)):=fun id=>by
 rw [Zdo,h id]
 unfold Z5
 rw [Zp hi,List.find?_append]
 by_cases e:id=(Nn g.txs i).id
 ·subst e
  have hn:(g.txs.take i).find? (fun t=>decide (t.id=(Nn g.txs i).id))=none:=by
   rw [Ybu]
   intro x hx
   obtain ⟨k,hk,e⟩:=Yab hx
   rw [Yi] at hk
   have:=Zvj hr hi (show k<i by omega)
   rw [nth_eq ow] at this
   rw [List.getElem_take] at e
   rw [e] at this
   simp;omega
  simp [hn]
 ·rw [Yc e]
  have hn:[Nn g.txs i].find? (fun t=>decide (t.id=id))=none:=by simp;exact fun h=>e h.symm
  rw [hn];simp
theorem Zuu {u v:ZpX} {r:Bool} (h:(decide (u.tx=v.tx) && (decide (u.place=v.place) && (decide (u.vof.tx=v.vof.tx) && (decide (u.vof.key=v.vof.key) && (decide (u.vof.nth=v.vof.nth) && true)))))=r):r=decide (u=v):=by
 obtain ⟨a,b,c,d,e⟩:=u;obtain ⟨a',b',c',d',e'⟩:=v
 rw [← h,Yai]
 simp
def ZuL (x:Int):List PV:=[.int .u64 x]
def bitAt (ws:List Int) (j:Nat):Bool:=(Nn ws (j / 64)).toNat.testBit (j % 64)
def Zjc (ws:List Int) (j:Nat):List Int:=ws.set (j / 64) (((Nn ws (j / 64)).toNat ^^^ 2 ^ (j % 64):Nat):Int)
def hasW (n:Nat) (ws:List Int) (i:Int):Bool:=(decide (0≤i) && decide (i<n)) && bitAt ws i.toNat
def ZsN (n:Nat) (ws:List Int) (i:Int) (on:Bool):Bool:=(decide (0≤i) && decide (i<n)) && (hasW n ws i != on)
def setW (n:Nat) (ws:List Int) (i:Int) (on:Bool):List Int:=if ZsN n ws i on then Zjc ws i.toNat else ws
structure ZdC (n:Nat) (ws:List Int):Prop where
 hi:n≤65536
 len:ws.length=(n+63) / 64
 wd:∀ k,0≤Nn ws k∧Nn ws k<18446744073709551616
def Zss (v wv:Value) (n:Nat) (ws:List Int):List RS:=[.pt (.val v) 274 [.pv (.int .i64 n),.pv (.is wv)],.ob (.val wv) (Zy 175 1 ZuL ws)]
def ZhI (v:Value) (n:Nat) (ws:List Int):HP:=.ex fun wv:Value=>.and (ZdC n ws) (.star (Zss v wv n ws))
theorem Zqe {v:Value} {n:Nat} {ws:List Int} {w:World} {f y:Ys} (h:(ZhI v n ws).p w f y):ZdC n ws ∧ ∃ b,v = .pointer (some ⟨b,0,none⟩):=by
 obtain ⟨_,hI,h⟩:=h
 exact ⟨hI,HP.star_pt h⟩
theorem shr6 (i:Int):i.fdiv (2 ^ min (6:Int).toNat (IntKind.bits .i64))=i / 64:=YaQ i (by decide)
theorem and63 (i:Int) (h:0≤i∧i≤9223372036854775807):bits .and .i64 i 63=i % 64:=by
 obtain ⟨X,rfl⟩:=Yae h.1
 have h1:(BitVec.ofInt 64 (X:Int)).toNat=X:=by rw [YaE];omega
 have h2:(BitVec.ofInt 64 (63:Int)).toNat=2 ^ 6 - 1:=by decide
 show IntKind.wrap .i64 (((BitVec.ofInt 64 (X:Int) &&& BitVec.ofInt 64 63).toNat:Nat):Int)=_
 rw [Ybq,h1,h2,YaR,Zz ow]
 omega
theorem and1 (x:Int) (h:0≤x∧x<18446744073709551616):bits .and .u64 x 1=x % 2:=by
 obtain ⟨X,rfl⟩:=Yae h.1
 have h1:(BitVec.ofInt 64 (X:Int)).toNat=X:=by rw [YaE];omega
 have h2:(BitVec.ofInt 64 (1:Int)).toNat=2 ^ 1 - 1:=by decide
 show IntKind.wrap .u64 (((BitVec.ofInt 64 (X:Int) &&& BitVec.ofInt 64 1).toNat:Nat):Int)=_
 rw [Ybq,h1,h2,YaR,Zan ow]
 omega
theorem xor64 (x y:Nat) (hx:x<18446744073709551616) (hy:y<18446744073709551616):bits .xor .u64 (x:Int) (y:Int)=((x ^^^ y:Nat):Int):=by
 have h1:(BitVec.ofInt 64 (x:Int)).toNat=x:=by rw [YaE];omega
 have h2:(BitVec.ofInt 64 (y:Int)).toNat=y:=by rw [YaE];omega
 show IntKind.wrap .u64 (((BitVec.ofInt 64 (x:Int) ^^^ BitVec.ofInt 64 (y:Int)).toNat:Nat):Int)=_
 rw [BitVec.toNat_xor,h1,h2]
 exact Zan (by have:=Nat.xor_lt_two_pow (n:=64) hx hy;omega)
theorem Zta {x:Int} (h:0≤x∧x<18446744073709551616) (i:Int) (hi:0≤i∧i≤9223372036854775807):decide (bits .and .u64 (x.fdiv (2 ^ min (IntKind.wrap .u64 (bits .and .i64 i 63)).toNat (IntKind.bits .u64))) 1=1)=x.toNat.testBit (i.toNat % 64):=by
 obtain ⟨X,rfl⟩:=Yae h.1
 obtain ⟨I,rfl⟩:=Yae hi.1
 rw [and63 _ hi,Zan ow,Yb,Yb]
 have e1:min ((I:Int) % 64).toNat (IntKind.bits .u64)=I % 64:=by simp only [IntKind.bits];omega
 rw [e1,YaQ _ (by exact_mod_cast Yx _)]
 have e2:(X:Int) / 2 ^ (I % 64)=((X / 2 ^ (I % 64):Nat):Int):=by norm_cast
 have hle:X / 2 ^ (I % 64)≤X:=Nat.div_le_self _ _
 rw [e2,Nat.testBit_eq_decide_div_mod_eq]
 generalize X / 2 ^ (I % 64)=q at hle ⊢
 rw [and1 _ ow]
 exact decide_eq_decide.2 ow
theorem ZdC.at {n:Nat} {ws:List Int} (h:ZdC n ws) (i:Int) (h0:0≤i) (h1:i<n):0≤i / 64∧i / 64<ws.length:=by have:=h.len;omega
theorem u64_nonneg (x:Int):0≤IntKind.wrap .u64 x:=by rw [Zak];omega
theorem and_iff {a b:Prop} [Decidable a] [Decidable b] (h:(decide a && decide b)=true):a∧b:=by simpa using h
theorem Zvr (n:Nat) (p:PV):FnP prog 246 [.ref [.int .i64 n,p]] (.int .i64 n):=by
 refine FnP.mk func246 rfl ntmps246 rfl fun B a w F V hfr G=>Ya ?_
 refine rZ G (qI qZ) V [2,0] [0] fun G=>(Ya (Ya ?_))
 refine rZ G (qR rr (qf (Zcm underlying229 .t) r1 qz qZ)) V [4,2,0] [0] fun G=>?_
 refine Zc G rfl (fun hc0=>?_) (fun hc0=>?_)
 ·simp at hc0
 refine Ye (Za (Ya (rZ G (qR rr (qf (ZD .t) r1 qz (qf (oG 0 .t) r1 qz (qf (oR false 1 .t) r1 qz (qO rr qZ))))) V [2] [0] fun G=>Yh ?_)))
 refine Zs hfr G rfl rfl rfl .refl
theorem ZnZ (n:Nat) (p:PV) (i:Int):FnP prog 225 [.ref [.int .i64 n,p],.int .i64 i] (.bool (decide (0≤i) && decide (i<n))):=by
 refine FnP.mk func225 rfl ntmps225 rfl fun B a w F V hfr G=>Ya ?_
 refine rZ G qB V [4,1,0] [0] fun G=>Ya ?_
 refine rZ G (qR rr (qf (Zbq .t qi) r1 qz (qR rr (qm rfl rfl rfl rfl (qm rfl rfl rfl rfl (qk rfl (fun h=>oP (Zvr n p) func246 (Args.one (.w h))) r2 qz (qk rfl (fun h=>ZaA (.w h) (.w h)) r3 qz (qf (ZE .t .t) r2 qz (qO rr qZ))))))))) V [4] [0] fun G=>Yh ?_
 refine Zs hfr G rfl rfl rfl .refl
theorem Int.toNat_ediv_64 {i:Int} (h:0≤i):(i / 64).toNat=i.toNat / 64:=by omega
theorem ZdL {a b:Prop} [Decidable a] [Decidable b] (h:¬ (a∧b)):(decide a && decide b)=false:=by rw [← Yb2];exact YF h
theorem Zs1 (n:Nat) (ws:List Int) (hI:ZdC n ws) (i:Int):FnP prog 202 [.ref [.int .i64 n,.sl ZuL ws],.int .i64 i] (.bool (hasW n ws i)):=by
 refine FnP.mk func202 rfl ntmps202 rfl fun B a w F V hfr G=>Ya ?_
 refine rZ G qB V [4,1,0] [0] fun G=>Ya ?_
 refine rZ G (qR rr (qR rr (qf (oP (ZnZ n _ i) func225 (Args.two .t .t)) r2 qz (qR rr (qm rfl rfl rfl rfl (qk rfl (fun h=>ZD (.w h)) r2 qz (qk rfl (fun h=>oG 1 (.w h)) r2 qz (qk rfl (fun h=>oR false 1 (.w h)) r2 qz (qm rfl rfl rfl rfl (qk rfl (fun h=>Zci (.w h) qi (by decide)) r2 qz (qk rfl (fun h=>o_indexAddr_sl (sz:=1) (.mk underlying272 kr) (by intro x;rfl) (.w h) (.w h) (by rw [shr6];exact (hI.at i (and_iff h).1 (and_iff h).2).1) (by rw [shr6];exact (hI.at i (and_iff h).1 (and_iff h).2).2)) r3 qz (qk rfl (fun h=>oR false 1 (.w h)) r2 qz (qm rfl rfl rfl rfl (qk rfl (fun h=>o_and (.w h) qi) r2 qz (qk rfl (fun h=>o_conv Yck kr (.w h)) r2 qz (qk rfl (fun h=>Zci (.w h) (.w h) (u64_nonneg _)) r3 qz (qk rfl (fun h=>o_and (.w h) qi) r2 qz (qk rfl (fun h=>o_eql (.w h) qi) r2 qz (qf (ZE .t .t) r2 qz (qO rr qZ)))))))))))))))))))) V [4] [0] fun G=>Yh ?_
 refine Zs hfr G rfl rfl rfl (.bool (by unfold hasW bitAt;by_cases hb:0≤i∧i<n; (rw [shr6,Zta (hI.wd _) i (by have:=hI.hi;omega),Int.toNat_ediv_64 hb.1]); (simp only [ZdL hb,Bool.false_and])))
def rowN (m:Int):Nat:=(if m<0 then 0 else if m > 65536 then 65536 else m).toNat
theorem Zh5 (m:Int):rowN m≤65536:=by unfold rowN;split; (· omega);split <;> omega
theorem Zur (m:Int):(if 65536<(if m<0 then 0 else m) then 65536 else if m<0 then 0 else m)=((rowN m:Nat):Int):=by unfold rowN;split <;> split <;> (try split) <;> omega
def Zh2 (m:Int):List Int:=List.replicate ((rowN m+63) / 64) 0
theorem ZoQ (k j:Nat):Nn (List.replicate k (0:Int)) j=0:=by
 by_cases h:j<k
 ·rw [nth_eq (by simpa using h)];simp
 ·unfold Nn;rw [YaG,YbP (by simp;omega)];rfl
theorem ZkV (m:Int):ZdC (rowN m) (Zh2 m):=⟨Zh5 m,by simp [Zh2],fun k=>by unfold Zh2;rw [ZoQ];omega⟩
theorem Zsn (m:Int):(IntKind.wrap .i64 (((rowN m:Nat):Int)+63)).fdiv (2 ^ min (6:Int).toNat (IntKind.bits .i64))=(((rowN m+63) / 64:Nat):Int):=by
 have:=Zh5 m
 rw [shr6,Zz ow];omega
theorem ZqU (w:World) (yy:Ys):PVs (ZuL 0) [.int .u64 0] w yy:=⟨⟨rfl,rfl,by simp [inR,IntKind.min,IntKind.max,IntKind.signed,IntKind.bits]⟩,tv⟩
theorem Zjz (ws:List Int) (j:Nat):(Zjc ws j).length=ws.length:=by simp [Zjc]
theorem Zk5 {ws:List Int} {i j:Nat} {c:Int} (h:j<ws.length):Nn (ws.set i c) j=if i=j then c else Nn ws j:=by
 rw [nth_eq (by simpa using h),nth_eq h,YbX]
theorem Zj8 {ws:List Int} {j:Nat} (h:ws.length≤j):Nn ws j=0:=by unfold Nn;rw [YaG,YbP h];rfl
theorem Zni {x:Int} (h:0≤x∧x<18446744073709551616) (k:Nat) (hk:k<64):0≤(((x.toNat ^^^ 2 ^ k:Nat)):Int)∧(((x.toNat ^^^ 2 ^ k:Nat)):Int)<18446744073709551616:=by
 have h1:x.toNat<2 ^ 64:=by omega
 have h2:2 ^ k<2 ^ 64:=Nat.pow_lt_pow_right (by decide) hk
 have:=Nat.xor_lt_two_pow h1 h2
 omega
theorem ZdC.flip {n:Nat} {ws:List Int} (h:ZdC n ws) (j:Nat):ZdC n (Zjc ws j):=by
 refine ⟨h.hi,by rw [Zjz];exact h.len,fun k=>?_⟩
 by_cases hk:k<ws.length
 ·unfold Zjc
  rw [Zk5 hk]
  split
  ·exact Zni (h.wd _) _ (Ybp _ (by decide))
  ·exact h.wd k
 ·rw [Zj8 (by rw [Zjz];omega)];omega
theorem ZdC.setW {n:Nat} {ws:List Int} (h:ZdC n ws) (i:Int) (on:Bool):ZdC n (setW n ws i on):=by
 unfold Go.Proofs.YtlkpllemoepamaaGreat.setW
 split
 ·exact h.flip _
 ·exact h
theorem Zp7 {x:Int} (h:0≤x∧x<18446744073709551616) (i:Int) (hi:0≤i∧i≤9223372036854775807):bits .xor .u64 x (IntKind.wrap .u64 (1*2 ^ min (IntKind.wrap .u64 (bits .and .i64 i 63)).toNat (IntKind.bits .u64)))=((x.toNat ^^^ 2 ^ (i.toNat % 64):Nat):Int):=by
 obtain ⟨X,rfl⟩:=Yae h.1
 obtain ⟨I,rfl⟩:=Yae hi.1
 rw [and63 _ hi,Zan (by omega:0≤((I:Int) % 64)∧(I:Int) % 64≤_),Yb,Yb]
 have e1:min ((I:Int) % 64).toNat (IntKind.bits .u64)=I % 64:=by simp only [IntKind.bits];omega
 have h2:2 ^ (I % 64)<2 ^ 64:=Nat.pow_lt_pow_right (by decide) (Ybp _ (by decide))
 have e2:(1:Int)*2 ^ (I % 64)=((2 ^ (I % 64):Nat):Int):=by rw [Int.one_mul];norm_cast
 rw [e1,e2]
 generalize 2 ^ (I % 64)=q at h2 ⊢
 rw [Zan ow,xor64 X q ow ow]
theorem Zvw (m:Int):FnG prog 162 1 [.int .i64 m] [.star []] (PV.ptr) (fun v=>[ZhI v (rowN m) (Zh2 m)]):=by
 refine FnG.mk func162 rfl ntmps162 rfl kr fun B F0 a w F V hG G=>?_
 have hr:=Zur m
 refine Ya (rZ G (qC qZ) V [2,0] [1,0] fun G=>Ya ?_)
 refine Ze G (qR rr (qf (Zqc .t qi) r1 qz (qf (o_min .t qi) r1 qz (qO rr qZ)))) V [2,0] [1,0] rfl rfl fun a w F G=>?_
 rw [hr] at G
 refine Za (Ya (Zb G (qR rr (qR rr (qp r1 (qf (Zci .t qi (by decide)) r1 qz (qf (ZaJ (R:=ZuL) (v:=0) (c:=(IntKind.wrap .i64 (((rowN m:Nat):Int)+63)).fdiv (2 ^ min (6:Int).toNat (IntKind.bits .i64))) (sz:=1) (bs:=8) (zs:=[.int .u64 0]) 101 underlying272 kr kr kr ZqU .t .t (by rw [Zsn];exact Yau _) (by have:=Zh5 m;rw [Zsn];omega) (by have:=Zh5 m;rw [Zsn];omega)) r2 qz (qf (oB [(0,.tmp 6),(1,.tmp 10)] [.int .i64 0,.slice none 0 0] [(0,1),(1,1)] (.one rfl .t one_int kr (.same rfl kr .nil))) r2 qz (qf (oX 102 .t) r1 qz (qO rr qZ)))))))) V [2] [102,101,1,0] (fun _=>rfl) (fun _=>rfl) fun τ a w F G=>?_))
 try dsimp only [RS.sub,SF.sub,CF.sub,csub,Anc.sub,List.map,Zf,xL,xM,Nat.reduceAdd,xD,xE,xT,xU,xC,xN,zCF] at G
 generalize τ 12=v12,τ 10=v10 at G
 rw [Zsn,Yb] at G
 refine Za (Yh ?_)
 obtain ⟨b,rfl⟩:=G.shape 102 rfl
 obtain ⟨F,G⟩:=G.push 1 101 rfl rfl rfl kr
 obtain ⟨F,G⟩:=G.push 1 102 rfl rfl rfl kr
 have G:=G.turn 1 rfl (r':=RS.hp (ZhI (.pointer (some ⟨b,0,none⟩)) (rowN m) (Zh2 m))) (fun _ _ _ _ h=>⟨_,ZkV m,h⟩)
 refine Z1 (h':=fun v=>ZhI v (rowN m) (Zh2 m)) hG G rfl (.tmp rfl .nil) (.one .ptr) rfl
theorem ZvQ (b n:Nat) (ws:List Int) (i:Int) (on:Bool):FnG prog 222 1 [.is (.pointer (some ⟨b,0,none⟩)),.int .i64 i,.bool on] [ZhI (.pointer (some ⟨b,0,none⟩)) n ws] (.bool (ZsN n ws i on)) (fun _=>[ZhI (.pointer (some ⟨b,0,none⟩)) n (setW n ws i on)]):=by
 refine FnG.mk func222 rfl ntmps222 rfl kr fun B F0 a w F V hG G=>?_
 obtain ⟨wv,G⟩:=G.open_ex 1 rfl
 obtain ⟨hI,G⟩:=G.open_and 1 rfl
 obtain ⟨F,G⟩:=G.peel 1 2 rfl rfl
 obtain ⟨F,G⟩:=G.peel 1 3 rfl rfl
 obtain ⟨F,G⟩:=G.nM [2,1,0] [3,2,0]
 refine Ya (rZ G qB V [6,2,1,0] [3,2,0] fun G=>(Ya (Ya ?_)))
 refine rZ G (qR rr (qR rr (qf (ZhZ (cells:=[.pv _,.pv _]) 2 (ZnZ n _ i) (fun _ _ _ _ _ h=>h) rfl func225 rfl kr (Zag.two .is .t)) r2 r1 (qf (o_not .t) r1 qz (qR rr (qm rfl rfl rfl rfl (qm rfl rfl rfl rfl (qk rfl (fun h=>ZbO (cells:=[.pv _,.pv (.is wv)]) 2 3 1 (Zs1 n ws hI i) (fun _ _ _ _ _ h=>h) rfl func202 rfl kr rfl rfl (Zag.two (.w h .is) (.w h))) r3 r2 (qm rfl rfl rfl rfl (qk rfl (fun h=>Zvk Ycs (.w h) (.w h)) r3 qz (qf (Zal .t .t) r2 qz qZ))))))))))) V [17,6,1,0] [3,2,0] fun G=>?_
 refine Zc G rfl (fun hc0=>?_) (fun hc0=>?_)
 ·have hs:ZsN n ws i on=false:=by unfold ZsN;revert hc0;cases (decide (0≤i) && decide (i<n)) <;> cases hasW n ws i <;> cases on <;> simp
  have hg:setW n ws i on=ws:=by unfold setW;rw [hs];rfl
  refine Ya (rZ G qB V [6,1,0] [3,2,0] fun G=>(Yh (Zk ?_)))
  have G:=G.fresh 1 rfl
  obtain ⟨F,G⟩:=G.push 1 3 rfl rfl rfl kr
  obtain ⟨F,G⟩:=G.push 1 2 rfl rfl rfl kr
  have G:=G.turn 1 rfl (r':=RS.hp (ZhI (.pointer (some ⟨b,0,none⟩)) n (setW n ws i on))) (fun _ _ _ _ h=>⟨_,(hI.setW i on),(by rw [hg];exact h)⟩)
  refine Zaf hG G rfl (.tmp rfl .nil) (.one (.bool hs.symm)) rfl
 have hs:ZsN n ws i on=true:=by unfold ZsN;revert hc0;cases (decide (0≤i) && decide (i<n)) <;> cases hasW n ws i <;> cases on <;> simp
 have hg:setW n ws i on=Zjc ws i.toNat:=by unfold setW;rw [hs];rfl
 have hb:0≤i∧i<n:=by
   have hs':=hs
   simp only [ZsN,Yr,Yq] at hs'
   exact hs'.1
 have hhi:=hI.hi
 have hq:=hI.at i hb.1 hb.2
 rw [← shr6] at hq
 have hq2:(i.fdiv (2 ^ min (6:Int).toNat (IntKind.bits .i64))).toNat<ws.length:=by omega
 refine Ye (Za (Ya (Ze G (qR rr (qf (o_nilCheck 2 .is (by rfl)) r1 r1 (qf (oF 1 2 .adr) r1 r1 (qa 2 r1 r1 (qR rr (qf (Zci .t qi (by decide)) r1 qz (qf (o_indexAddr_row (sz:=1) 3 (.mk underlying272 kr) .is .t hq.1 hq.2 (by rfl)) r2 r1 (qf (Zu (ag:=false) (sz':=1) (sz:=1) 3 .t (by intro x;rfl) hq2 kr kr kr) r1 r1 (qR rr (qf (o_and .t qi) r1 qz (qf (o_conv Yck kr .t) r1 qz (qf (o_shl qi .t (u64_nonneg _)) r1 qz (qf (o_xor .t .t) r2 qz (qf (o_indexAddr_row (sz:=1) 3 (.mk underlying272 kr) .is .t hq.1 hq.2 (by rfl)) r2 r1 (qf (ZI (R:=ZuL) (sz:=1) (v:=_) 3 .t (by intro x;rfl) hq2 .t rfl one_int kr) r2 r1 qZ))))))))))))))) V [6] [3,2,0] rfl rfl fun a w F G=>?_)))
 rw [Zp7 (hI.wd _) i ow,shr6,Int.toNat_ediv_64 hb.1] at G
 refine Za (Ya (rZ G qB V [6] [3,2,0] fun G=>Yh ?_))
 have G:=G.fresh 1 rfl
 obtain ⟨F,G⟩:=G.push 1 3 rfl rfl rfl kr
 obtain ⟨F,G⟩:=G.push 1 2 rfl rfl rfl kr
 have G:=G.turn 1 rfl (r':=RS.hp (ZhI (.pointer (some ⟨b,0,none⟩)) n (setW n ws i on))) (fun _ _ _ _ h=>⟨_,(hI.setW i on),(by rw [hg];exact h)⟩)
 refine Zaf hG G rfl (.tmp rfl .nil) (.one (.bool hs.symm)) rfl
def places (n:Nat) (ws:List Int):List Int:=((List.range n).filter fun j=>bitAt ws j).map fun j:Nat=>(j:Int)
def ZuZ (n:Nat) (ws:List Int):Prop:=∀ j,n≤j→bitAt ws j=false
def Up (n:Nat) (x:List Int):Prop:=x.Pairwise (· < ·) ∧ ∀ i ∈ x,0≤i∧i<n
structure ZeB (n:Nat) (ws:List Int) (x:List Int):Prop where
 ok:ZdC n ws
 clean:ZuZ n ws
 up:Up n x
 mem:∀ j:Nat,bitAt ws j=true ↔ (j:Int) ∈ x
theorem ZeB.mk' {n:Nat} {ws x:List Int} (hok:ZdC n ws) (hc:ZuZ n ws) (hu:Up n x) (h:∀ j:Nat,j<n→(bitAt ws j=true ↔ (j:Int) ∈ x)):ZeB n ws x:=by
 refine ⟨hok,hc,hu,fun j=>?_⟩
 by_cases hj:j<n
 ·exact h j hj
 ·rw [hc j ow]
  constructor
  ·intro h;cases h
  ·intro hm;have:=hu.2 _ hm;omega
theorem ZeB.in {n:Nat} {ws x:List Int} (h:ZeB n ws x) (i:Int):hasW n ws i=decide (i ∈ x):=by
 unfold hasW
 by_cases hb:0≤i∧i<n
 ·have:=h.mem i.toNat
  rw [YaO hb.1] at this
  rw [show (decide (0≤i) && decide (i<(n:Int)))=true by simp [hb],Ybf]
  by_cases hm:i ∈ x
  ·rw [Yag hm,this.2 hm]
  ·rw [YF hm]
   cases e:bitAt ws i.toNat
   ·rfl
   ·exact absurd (this.1 e) hm
 ·rw [ZdL hb,Bool.false_and,Yaq,YD]
  intro hm
  exact hb (h.up.2 i hm)
theorem ZeB.zero (m:Int):ZeB (rowN m) (Zh2 m) []:=by
 have hz:∀ j,bitAt (Zh2 m) j=false:=fun j=>by unfold bitAt Zh2;rw [ZoQ];simp
 exact ⟨ZkV m,fun j _=>hz j,⟨List.Pairwise.nil,by simp⟩,fun j=>by simp [hz j]⟩
def Zqs (i:Int):List Int→Bool→List Int
 | [],d=>if d then [] else [i]
 | x :: l,d=>(if d=false∧i≤x then [i] else [])++(if x=i then [] else [x])++Zqs i l (d || decide (i≤x))
def putL (l:List Int) (n i:Int) (on:Bool):List Int:=Zqs i l (!on || decide (i<0) || decide (n≤i))
theorem Zd3 (i j:Int):∀ (l:List Int) (d:Bool),j ∈ Zqs i l d ↔ (j≠i∧j ∈ l)∨(j=i∧d=false)
 | [],d=>by cases d <;> simp [Zqs]
 | x :: l,d=>by
  rw [Zqs,Yz,Yz,Zd3 i j l]
  by_cases h1:i≤x <;> cases d <;> by_cases h2:x=i <;> by_cases h3:j=i <;> simp_all
  all_goals (try omega)
theorem Zj2 (i:Int):∀ (l:List Int) (d:Bool),l.Pairwise (· < ·)→(Zqs i l d).Pairwise (· < ·)
 | [],d,_=>by cases d <;> simp [Zqs]
 | x :: l,d,h=>by
  rw [Yo] at h
  have ih:=Zj2 i l (d || decide (i≤x)) h.2
  rw [Zqs]
  by_cases h1:i≤x
  ·have hm:∀ j,j ∈ Zqs i l (d || decide (i≤x))→x<j∧j≠i:=by
    intro j hj
    rw [Zd3] at hj
    rcases hj with hj | hj
    ·exact ⟨h.1 j hj.2,hj.1⟩
    ·simp [h1] at hj
   generalize (d || decide (i≤x))=d' at hm ih ⊢
   cases d <;> by_cases h2:x=i
   ·subst h2
    simp only [Yao,and_self,Yu,Yav,YP,YaP,Yo]
    exact ⟨fun j hj=>(hm j hj).1,ih⟩
   ·simp only [h1,and_self,Yu,h2,Yp,YaP,Yah,Yav,Yo,Yj]
    refine ⟨?_,fun j hj=>(hm j hj).1,ih⟩
    rintro j (rfl | hj)
    ·omega
    ·have:=hm j hj;omega
   ·simp only [h2,Yu,YP,Bool.true_eq_false,false_and,Yp,Yav]
    subst h2;exact ih
   ·simp only [h2,Yp,Bool.true_eq_false,false_and,Yav,YaP,Yo]
    exact ⟨fun j hj=>(hm j hj).1,ih⟩
  ·have hm:∀ j,j ∈ Zqs i l (d || decide (i≤x))→x<j:=by
    intro j hj
    rw [Zd3] at hj
    rcases hj with hj | hj
    ·exact h.1 j hj.2
    ·omega
   generalize (d || decide (i≤x))=d' at hm ih ⊢
   have h2:¬ x=i:=by omega
   simp only [h1,and_false,Yp,h2,Yav,YaP,Yo]
   exact ⟨hm,ih⟩
theorem Zl1 {l:List Int} {n i j:Int} {on:Bool} : j ∈ putL l n i on ↔ (j≠i∧j ∈ l)∨(j=i∧on=true∧0≤i∧i<n):=by
 unfold putL
 rw [Zd3]
 cases on <;> simp <;> omega
theorem ZtT {n:Nat} {l:List Int} (h:Up n l) (i:Int) (on:Bool):Up n (putL l n i on):=by
 refine ⟨Zj2 _ _ _ h.1,fun j hj=>?_⟩
 rw [Zl1] at hj
 rcases hj with hj | hj
 ·exact h.2 j hj.2
 ·omega
theorem ZkU {n:Nat} {ws:List Int} (hI:ZdC n ws) (i:Int) (on:Bool) (j:Nat):bitAt (setW n ws i on) j=if 0≤i∧i<n∧i=j then on else bitAt ws j:=by
 unfold setW ZsN hasW
 by_cases hb:0≤i∧i<n
 ·rw [show (decide (0≤i) && decide (i<(n:Int)))=true by simp [hb],Ybf,Ybf]
  have hq:=hI.at i hb.1 hb.2
  have flip:∀ j,bitAt (Zjc ws i.toNat) j=if i=j then !bitAt ws j else bitAt ws j:=by
   intro j
   unfold bitAt Zjc
   by_cases hj:j / 64<ws.length
   ·rw [Zk5 hj]
    by_cases he:i.toNat / 64=j / 64
    ·rw [Yf he,Yb,Nat.testBit_xor,Nat.testBit_two_pow,he]
     by_cases e2:i=j
     ·subst e2;simp
     ·rw [Yc e2,show decide (i.toNat % 64=j % 64)=false by simp;omega,Bool.xor_false]
    ·rw [Yc he,Yc (fun e=>he ow)]
   ·rw [Zj8 (by rw [YI];omega),Zj8 ow,Yc (fun e=>hj ow)]
  by_cases h1:(bitAt ws i.toNat != on)=true
  ·rw [Yf h1,flip j]
   by_cases e:i=j
   ·rw [Yf e,Yf ⟨hb.1,hb.2,e⟩]
    subst e
    rw [Yb] at h1
    cases hx:bitAt ws j <;> rw [hx] at h1 <;> cases on <;> simp_all
   ·rw [Yc e,Yc (fun h=>e h.2.2)]
  ·rw [Yc h1]
   by_cases e:i=j
   ·rw [Yf ⟨hb.1,hb.2,e⟩]
    subst e
    rw [Yb] at h1
    cases hx:bitAt ws j <;> rw [hx] at h1 <;> cases on <;> simp_all
   ·rw [Yc (fun h=>e h.2.2)]
 ·rw [ZdL hb,Bool.false_and,Yc (by simp),Yc (fun h=>hb ⟨h.1,h.2.1⟩)]
theorem ZeB.set {n:Nat} {ws x:List Int} (h:ZeB n ws x) (i:Int) (on:Bool):ZeB n (setW n ws i on) (putL x n i on):=by
 refine ZeB.mk' (h.ok.setW i on) (fun j hj=>?_) (ZtT h.up i on) (fun j hj=>?_)
 ·rw [ZkU h.ok,Yc ow,h.clean j hj]
 ·rw [ZkU h.ok,Zl1]
  have:=h.mem j
  by_cases e:0≤i∧i<n∧i=j
  ·rw [Yf e]
   constructor
   ·intro ho;exact .inr ⟨e.2.2.symm,ho,e.1,e.2.1⟩
   ·rintro (⟨h1,_⟩ | ⟨_,h2,_⟩)
    ·exact absurd e.2.2.symm h1
    ·exact h2
  ·rw [Yc e,this]
   constructor
   ·intro hm
    refine .inl ⟨fun e'=>e ?_,hm⟩
    omega
   ·rintro (⟨_,h2⟩ | ⟨h1,_,h3,h4⟩)
    ·exact h2
    ·exact absurd ⟨h3,h4,h1.symm⟩ e
end Go.Proofs.YtlkpllemoepamaaGreat
