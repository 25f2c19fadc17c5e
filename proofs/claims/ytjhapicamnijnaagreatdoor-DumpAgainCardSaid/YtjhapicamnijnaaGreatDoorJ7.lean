/- Texts put together. No condition beyond those that each theorem says. -/
import Derived.Test.YtjhapicamnijnaaGreatDoorJ6
import Derived.Test.YtjhapicamnijnaaGreatDoorLibI
import Derived.Test.YtjhapicamnijnaaGreatDoorJ0
import Derived.Test.YtjhapicamnijnaaGreatDoorLibL
import Derived.Shelf.SlIter.Collect
import Derived.Test.YtjhapicamnijnaaGreatDoorJ3
import Derived.Test.YtjhapicamnijnaaGreatDoorJ2
namespace Go.Proofs.YtjhapicamnijnaaGreatDoor
open Go Go.Gm
set_option linter.unusedVariables false
set_option linter.unusedSimpArgs false
set_option maxHeartbeats 4000000
set_option maxRecDepth 8000
inductive ZeL where
 | none
 | away (t:TxD)
 | plain (t:TxD) (b:Bool)
 | whole (t:TxD)
 deriving Inhabited
def Zet:ZeL→PV
 | .none=>.is .nilIface
 | .away t=>.ifc 132 (.agg (rTx t))
 | .plain t b=>.ifc 130 (.agg [.int .i64 t.id,.bool t.done,.sl rOp t.ops,.bool b])
 | .whole t=>.ifc 133 (.agg (rTx t))
def Zjp (s:ZeL):List PV:=[Zet s]
def ZqZ (l:List ZeL):List PV:=[.sl Zjp l]
structure Zd3 where
 t:TxD
 there:Bool
 just:Bool
 reads:Bool
 deriving Inhabited
def Zj8 (s:Zd3):List PV:=[.int .i64 s.t.id,.bool s.t.done,.sl rOp s.t.ops,.bool s.there,.bool s.just,.bool s.reads]
def hasT (o:HistD) (t:TxD):Bool:=(ZK o.txs t.id).isSome
def ZaY (o:HistD) (t:TxD):Bool:=(ZK o.txs t.id).isSome && decide (t=(ZK o.txs t.id).getD zeroT)
def Zdd (o:HistD) (t:TxD):Zd3:=⟨t,hasT o t,ZaY o t,Z6 t⟩
def Zdp (h o:HistD):List Zd3:=h.txs.map (Zdd o)
def Zoi (l:List Zd3):List ZeL:=(l.filter fun s=>!s.just && s.reads).map fun s=>.plain s.t true
def Zq1 (l:List Zd3):List ZeL:=(l.filter fun s=>!s.there).map fun s=>.away s.t
def Zq9 (l:List Zd3):List ZeL:=(l.filter fun s=>!s.just && s.there).map fun s=>.plain s.t true
def ZrK (l:List Zd3):List ZeL:=(l.filter fun s=>!s.just && !s.there).map fun s=>.plain s.t false
def Zq2 (l:List Zd3):List ZeL:=(l.filter fun s=>!s.just && s.reads).map fun s=>.whole s.t
def ZhH (a b:HistD):List (List ZeL):=[Zoi (Zdp a b),Zq1 (Zdp a b),Zq9 (Zdp b a),ZrK (Zdp b a),Zq2 (Zdp b a)]
def Zn6 (t:TxD):CmdD:={zeroC 3 with id:=t.id}
def ZsJ:ZeL→CmdD
 | .none=>zeroC 0
 | .away t=>Zn6 t
 | .plain t b=>if b=true then ZcM (bareT t) else Zc6 t
 | .whole t=>ZcM t
def Zbb (a b:HistD):List CmdD:=
 ((((a.txs.filter fun t=>!ZaY b t && Z6 t).map fun t=>ZcM (bareT t))++((a.txs.filter fun t=>!hasT b t).map Zn6))++((b.txs.filter fun t=>hasT a t && !ZaY a t).map fun t=>ZcM (bareT t)))++((b.txs.filter fun t=>!hasT a t).map Zc6)++((b.txs.filter fun t=>!ZaY a t && Z6 t).map ZcM)
theorem Zoc {β:Type} (o:HistD) (f:Zd3→Bool) (m:Zd3→β) (l:List TxD):((l.map (Zdd o)).filter f).map m=(l.filter fun t=>f (Zdd o t)).map fun t=>m (Zdd o t):=by rw [List.filter_map,List.map_map];rfl
theorem ZlZ {o:HistD} {t:TxD} : (!ZaY o t && !hasT o t) = !hasT o t:=by
 unfold ZaY hasT
 cases (ZK o.txs t.id).isSome <;> simp
theorem Zj9 (a b:HistD):(ZhH a b).flatten.map ZsJ=Zbb a b:=by
 unfold ZhH Zbb Zoi Zq1 Zq9 ZrK Zq2 Zdp
 simp only [List.flatten_cons,List.flatten_nil,List.append_nil,List.map_append,List.map_map,Zoc]
 have e1:∀ t:TxD,(!(Zdd a t).just && !(Zdd a t).there) = !hasT a t:=fun t=>ZlZ
 have e2:∀ t:TxD,(!(Zdd a t).just && (Zdd a t).there)=(hasT a t && !ZaY a t):=fun t=>Bool.and_comm _ _
 simp only [e1,e2,List.append_assoc]
 rfl
theorem ZgV {α β:Type} (f:α→Bool) (m:α→β) (l:List α):((l.filter f).map m).length≤l.length:=by
 rw [List.length_map];exact List.length_filter_le _ _
theorem ZjL (a b:HistD):(ZhH a b).flatten.length≤2*a.txs.length+3*b.txs.length:=by
 unfold ZhH Zoi Zq1 Zq9 ZrK Zq2 Zdp
 simp only [List.flatten_cons,List.flatten_nil,List.append_nil,List.length_append]
 have h1:=fun (f:Zd3→Bool) (m:Zd3→ZeL)=>ZgV f m (a.txs.map (Zdd b))
 have h2:=fun (f:Zd3→Bool) (m:Zd3→ZeL)=>ZgV f m (b.txs.map (Zdd a))
 simp only [List.length_map] at h1 h2 ⊢
 have a1:=h1 (fun s=>!s.just && s.reads) (fun s=>.plain s.t true)
 have a2:=h1 (fun s=>!s.there) (fun s=>.away s.t)
 have a3:=h2 (fun s=>!s.just && s.there) (fun s=>.plain s.t true)
 have a4:=h2 (fun s=>!s.just && !s.there) (fun s=>.plain s.t false)
 have a5:=h2 (fun s=>!s.just && s.reads) (fun s=>.whole s.t)
 omega
theorem Zmz (a b:HistD):(Zbb a b).length≤2*a.txs.length+3*b.txs.length:=by
 rw [← Zj9,List.length_map];exact ZjL a b
theorem ZiS {a b:HistD} (ha:∀ t ∈ a.txs,t.ops.length≤24) (hb:∀ t ∈ b.txs,t.ops.length≤24):∀ c ∈ Zbb a b,ZaK c:=fun c hc=>by
 have hbare:∀ t:TxD,t.ops.length≤24→(bareT t).ops.length≤24:=fun t h=>Nat.le_trans (List.length_filter_le _ _) h
 unfold Zbb at hc
 simp only [List.mem_append,List.mem_map,List.mem_filter] at hc
 rcases hc with (((⟨t,ht,rfl⟩ | ⟨t,ht,rfl⟩) | ⟨t,ht,rfl⟩) | ⟨t,ht,rfl⟩) | ⟨t,ht,rfl⟩
 · exact ⟨hbare t (ha t ht.1),Nat.zero_le _⟩
 · exact ⟨Nat.zero_le _,Nat.zero_le _⟩
 · exact ⟨hbare t (hb t ht.1),Nat.zero_le _⟩
 · exact ⟨hbare t (hb t ht.1),Nat.zero_le _⟩
 · exact ⟨hb t ht.1,Nat.zero_le _⟩
def Zjo (n:Nat) (g:HistD):Prop:=Za0 g∧g.txs.length≤n ∧ ∀ t ∈ g.txs,t.ops.length≤24
theorem Zl3 {g:HistD} {c:CmdD} (h:¬ (ZJ g c).2≠0):Zx g:=by
 refine Classical.byContradiction fun hr=>h ?_
 unfold ZJ
 have m:∀ t there wanted,mayH g t there wanted=(0,5):=fun t there wanted=>ZsH hr
 split
 · unfold Zam;rw [m,if_pos (show ((0:Int),(5:Int)).2≠0 by decide)];decide
 · split
   · unfold Za4;rw [m,if_pos (show ((0:Int),(5:Int)).2≠0 by decide)];decide
   · split
     · unfold Zad;rw [if_pos hr];decide
     · split
       · unfold ZcZ;rw [Zos hr];decide
       · split
         · unfold Zmp;rw [Zos hr];decide
         · decide
theorem Fit.small160 {n:Nat} {g:HistD} (h:Fit n g) (hn:n≤166):Za0 g:=by
 obtain ⟨⟨h1,h2⟩,h3,h4⟩:=h
 exact ⟨⟨by omega,fun t ht=>by have:=h2 t ht;omega⟩,by omega,fun o ho=>by have:=h4 o ho;omega⟩
theorem ZaB.edit2 {n:Nat} {g:HistD} {c:CmdD} (h:ZaB n g) (hn:n≤165) (hc:ZaK c) (h0:¬ (ZJ g c).2≠0):ZaB (n+1) (ZJ g c).1:=by
 have h0:=Decidable.not_not.1 h0
 have e:=Zno h0
 rw [e] at h0 ⊢
 have hf:=h.fit.doH (Zjd hc)
 exact ⟨ZkB (h.fit.small160 (by omega)) h0,hf.1.1,hf.1.2⟩
theorem Zjo.edit {n:Nat} {g:HistD} {c:CmdD} (h:Zjo n g) (hn:n≤165) (hc:ZaK c) (h0:¬ (ZJ g c).2≠0):Zjo (n+1) (ZJ g c).1:=by
 have hf:ZaB (n+1) (ZJ g c).1:=ZaB.edit2 ⟨Zl3 h0,h.2⟩ hn hc h0
 exact ⟨hf.fit.small160 (by omega),hf.2⟩
theorem Zjo.none {n:Nat} : Zjo n zeroH:=⟨⟨⟨by simp [zeroH],fun t ht=>by cases ht⟩,by simp [zeroH],fun o ho=>by cases ho⟩,by simp [zeroH],fun t ht=>by cases ht⟩
theorem Zjo.play:∀ (l:List CmdD) {n i:Nat} {g:HistD},Zjo n g→n+l.length≤166→(∀ c ∈ l,ZaK c)→Za0 (playC g l i).1
 | [],n,i,g,h,_,_=>h.1
 | c :: l,n,i,g,h,hn,hl=>by
   rw [List.length_cons] at hn
   unfold playC
   by_cases h0:(ZJ g c).2≠0
   · rw [if_pos h0];exact (Zjo.none (n:=0)).1
   · rw [if_neg h0];exact Zjo.play l (h.edit (by omega) (hl c (by simp)) h0) (by omega) fun x hx=>hl x (by simp [hx])
def mvC (h:HistD) (o:OrdD):List CmdD:=(ZaD (getO h.orders o.key) o.txs).1.map (Zh8 o.key)
def ZeF (a b:HistD):List CmdD×Int:=if ¬ Zx a∨¬ Zx b then ([],5) else (Zbb a b++b.orders.flatMap (mvC (playC a (Zbb a b) 0).1),0)
def fA (a b:HistD):List CmdD:=(a.txs.filter fun t=>!ZaY b t && Z6 t).map fun t=>ZcM (bareT t)
def fB (a b:HistD):List CmdD:=(a.txs.filter fun t=>!hasT b t).map Zn6
def fC (a b:HistD):List CmdD:=(b.txs.filter fun t=>hasT a t && !ZaY a t).map fun t=>ZcM (bareT t)
def fD (a b:HistD):List CmdD:=(b.txs.filter fun t=>!hasT a t).map Zc6
def fE (a b:HistD):List CmdD:=(b.txs.filter fun t=>!ZaY a t && Z6 t).map ZcM
theorem Zjo.light {g:HistD} (h:Za0 g) (h1:g.txs.length≤12) (h2:∀ j,j<g.txs.length→(Go.Gm.nth g.txs j).ops.length≤24):Zjo 12 g:=⟨h,h1,fun t ht=>by
 obtain ⟨j,hj,e⟩:=List.getElem_of_mem ht
 have:=h2 j hj
 rwa [Zn hj,e] at this⟩
theorem Zjo.first {n:Nat} {a b:HistD} (ha:Zjo n a) (hb:Zjo n b) (hn:n≤27):n+(Zbb a b).length≤166∧(∀ c ∈ Zbb a b,ZaK c)∧Za0 (playC a (Zbb a b) 0).1:=by
 have h1:=Zmz a b
 have h2:=ha.2.1
 have h3:=hb.2.1
 have h4:∀ c ∈ Zbb a b,ZaK c:=ZiS ha.2.2 hb.2.2
 exact ⟨by omega,h4,Zjo.play _ ha (by omega) h4⟩
def ZbB (Q:HistD→Prop):HistD→List CmdD→HistD→Prop
 | g,[],h=>h=g
 | g,c :: l,h=>(ZJ g c).2=0∧Q (ZJ g c).1∧ZbB Q (ZJ g c).1 l h
theorem ZbB.play {Q:HistD→Prop} : ∀ {l:List CmdD} {g h:HistD},ZbB Q g l h → ∀ i,playC g l i=(h,i+l.length,0)
 | [],g,h,hp,i=>by rw [show h=g from hp];rfl
 | c :: l,g,h,hp,i=>by
   obtain ⟨h1,_,h2⟩:=hp
   rw [playC,if_neg (by simp [h1]),h2.play (i+1),List.length_cons,Nat.add_right_comm i 1 l.length,← Nat.add_assoc]
theorem ZbB.app {Q:HistD→Prop} : ∀ {l m:List CmdD} {g h k:HistD},ZbB Q g l h→ZbB Q h m k→ZbB Q g (l++m) k
 | [],m,g,h,k,h1,h2=>by rw [show h=g from h1] at h2;exact h2
 | c :: l,m,g,h,k,⟨h1,h3,h4⟩,h2=>⟨h1,h3,h4.app h2⟩
theorem ZbB.at {Q:HistD→Prop} : ∀ {l:List CmdD} {g h:HistD},ZbB Q g l h → ∀ {i:Nat},i<l.length → ∃ x,playC g (l.take i) 0=(x,i,0)∧(ZJ x (Go.Gm.nth l i)).2=0∧Q (ZJ x (Go.Gm.nth l i)).1∧playC g (l.take (i+1)) 0=((ZJ x (Go.Gm.nth l i)).1,i+1,0)
 | c :: l,g,h,⟨h1,h2,h3⟩,0,_=>⟨g,rfl,h1,h2,by
   show playC g [c] 0=_
   rw [playC,if_neg (by simp [h1])];rfl⟩
 | c :: l,g,h,⟨h1,h2,h3⟩,i+1,hi=>by
   have hi':i<l.length:=by simpa using hi
   obtain ⟨x,k1,k2,k3,k4⟩:=h3.at hi'
   have sh:∀ (l:List CmdD) (g:HistD) (x:HistD) (n j:Nat),playC g l j=(x,n,0)→playC g l (j+1)=(x,n+1,0):=by
     intro l
     induction l with
     | nil=>intro g x n j h;simp only [playC,Prod.mk.injEq] at h ⊢;exact ⟨h.1,by rw [h.2.1],h.2.2⟩
     | cons c l ih=>
       intro g x n j h
       rw [playC] at h ⊢
       split at h
       · rename_i h9;simp only [Prod.mk.injEq] at h;exact absurd h.2.2 h9
       · rename_i h9;rw [if_neg h9];exact ih _ _ _ _ h
   have e:Go.Gm.nth (c :: l) (i+1)=Go.Gm.nth l i:=by rw [Zn hi,Zn hi'];rfl
   refine ⟨x,?_,by rw [e];exact k2,by rw [e];exact k3,?_⟩
   · show playC g (c :: l.take i) 0=_
     rw [playC,if_neg (by simp [h1])];exact sh _ _ _ _ _ k1
   · show playC g (c :: l.take (i+1)) 0=_
     rw [playC,if_neg (by simp [h1]),e];exact sh _ _ _ _ _ k4
def At (x:HistD) (F:Int→Option TxD):Prop:=∀ i,ZK x.txs i=F i
def Zpt (F:Int→Option TxD) (i:Int) (v:Option TxD):Int→Option TxD:=fun j=>if j=i then v else F j
theorem Zlh {l:List TxD} (h:ZbP TxD.id l) {i:Int} {t:TxD} : ZK l i=some t ↔ t ∈ l∧t.id=i:=⟨findT_mem,fun ⟨h1,h2⟩=>by rw [← h2];exact Zbj h h1⟩
theorem Zia {l m:List TxD} {i:Int} {v:Option TxD} (hl:ZbP TxD.id l) (hm:ZbP TxD.id m) (hv:∀ t,v=some t→t.id=i) (h:∀ s,s ∈ m ↔ (s ∈ l∧s.id≠i)∨v=some s) (j:Int):ZK m j=if j=i then v else ZK l j:=by
 refine Option.ext fun t=>?_
 rw [show (ZK m j=some t ↔ t ∈ m∧t.id=j) from Zlh hm,h]
 by_cases e:j=i
 · rw [if_pos e]
   subst e
   exact ⟨fun ⟨h1,h2⟩=>h1.elim (fun h3=>absurd h2 h3.2) id,fun h1=>⟨.inr h1,hv t h1⟩⟩
 · rw [if_neg e,show (ZK l j=some t ↔ t ∈ l∧t.id=j) from Zlh hl]
   exact ⟨fun ⟨h1,h2⟩=>⟨h1.elim (fun h3=>h3.1) (fun h3=>absurd (h2.symm.trans (hv t h3)) e),h2⟩,fun ⟨h1,h2⟩=>⟨.inl ⟨h1,by rw [h2];exact e⟩,h2⟩⟩
theorem Zqm:∀ {a b:List TxD},(a.Pairwise fun x y=>x.id<y.id)→(b.Pairwise fun x y=>x.id<y.id)→(∀ o,o ∈ a ↔ o ∈ b)→a=b
 | [],[],_,_,_=>rfl
 | [],y :: b,_,_,h=>by have:=(h y).2 (by simp);cases this
 | x :: a,[],_,_,h=>by have:=(h x).1 (by simp);cases this
 | x :: a,y :: b,ha,hb,h=>by
   rw [List.pairwise_cons] at ha hb
   have e:x=y:=by
     rcases List.mem_cons.1 ((h x).1 (by simp)) with e | h1
     · exact e
     · rcases List.mem_cons.1 ((h y).2 (by simp)) with e | h2
       · exact e.symm
       · have:=ha.1 y h2;have:=hb.1 x h1;omega
   subst e
   rw [Zqm (a:=a) (b:=b) ha.2 hb.2 fun o=>?_]
   constructor
   · intro ho
     rcases List.mem_cons.1 ((h o).1 (by simp [ho])) with e | h1
     · have:=ha.1 o ho;rw [e] at this;omega
     · exact h1
   · intro ho
     rcases List.mem_cons.1 ((h o).2 (by simp [ho])) with e | h1
     · have:=hb.1 o ho;rw [e] at this;omega
     · exact h1
theorem ZsK {x y:HistD} (hx:Zx x) (hy:Zx y) (h:At x (ZK y.txs)):x.txs=y.txs:=by
 have rx:=(Zq hx).1
 have ry:=(Zq hy).1
 refine Zqm (Zs.1 rx) (Zs.1 ry) fun t=>⟨fun ht=>?_,fun ht=>?_⟩
 · have:=Zbj rx ht
   rw [h] at this;exact (findT_mem this).1
 · have:=Zbj ry ht
   rw [← h] at this;exact (findT_mem this).1
theorem ZeH {x:HistD} {F:Int→Option TxD} (hx:Zx x) (h:At x F) {s:TxD} (hs:s ∈ x.txs):F s.id=some s:=by rw [← h];exact Zbj (Zq hx).1 hs
theorem ZkR {l:List TxD} {i:Int} {t:TxD} (h:ZK l i=some t):isK TxD.id i l=true:=by rw [← ZjN,h];rfl
theorem ZpR {l:List TxD} {i:Int} (h:ZK l i=none):isK TxD.id i l=false:=by rw [← ZjN,h];rfl
theorem Zap {g:HistD} (h:Zx g) {t:TxD} (ht:t ∈ g.txs):ZU t=0∧Zbi g t=true:=(Z7.1 h).2.2.1 t ht
theorem Ze4 {g:HistD} {t:TxD} (h:Zbi g t=true) {v:ZbQ} (hv:v ∈ Zas t):Zgv g v=true:=List.all_eq_true.1 h v hv
theorem Zfv (g:HistD) (t:TxD):Zbi g (bareT t)=true:=by unfold Zbi;rw [Zg0];rfl
theorem ZeY {t:TxD} (h:ZU t=0):1≤t.id:=by
 unfold ZU at h
 split at h
 · cases h
 · rename_i h1;exact (Decidable.not_not.1 h1).1
theorem Zqq {g:HistD} {v:ZbQ} {t:TxD} (h:Zgv g v=true) (hv:1≤v.tx) (hf:ZK g.txs v.tx=some t):v.nth≤(wcnt t.ops v.key:Int):=by
 unfold Zgv at h
 rw [if_neg (by omega),hf] at h
 simp at h
 exact h.2
theorem Zsg {g:HistD} {v:ZbQ} (h:Zgv g v=true) (hv:1≤v.tx):(ZK g.txs v.tx).isSome=true:=by
 unfold Zgv at h
 rw [if_neg (by omega)] at h
 simp only [Bool.and_eq_true] at h
 exact h.1
theorem Zki {x:HistD} {t:TxD} (h:∀ y ∈ x.txs,y.id≠t.id → ∀ v ∈ Zas y,v.tx=t.id→v.nth≤(wcnt t.ops v.key:Int)):Zen x t=false:=by
 unfold Zen
 rw [List.any_eq_false]
 intro y hy h2
 unfold Zka at h2
 simp only [Bool.and_eq_true,decide_eq_true_eq,List.any_eq_true] at h2
 obtain ⟨h3,v,hv,h4⟩:=h2
 unfold Zj5 at h4
 simp only [Bool.and_eq_true,decide_eq_true_eq] at h4
 have:=h y hy h3 v hv h4.1
 omega
theorem Zjr {x:HistD} {t t0:TxD} (hx:Zx x) (ht:1≤t.id) (hf:ZK x.txs t.id=some t0) (hw:∀ k,wcnt t.ops k=wcnt t0.ops k):Zen x t=false:=
 Zki fun y hy _ v hv e=>by
   have:=Zqq (t:=t0) (Ze4 (Zap hx hy).2 hv) (by rw [e];exact ht) (by rw [e];exact hf)
   rw [hw];exact this
theorem ZrY {n:Nat} {x:HistD} {F:Int→Option TxD} {t:TxD} (hx:ZaB n x) (hn:n≤165) (h:At x F) (ht:ZU t=0) (hl:t.ops.length≤24) (hi:F t.id=none) :
   (ZJ x (Zc6 t)).2=0∧ZaB (n+1) (ZJ x (Zc6 t)).1∧At (ZJ x (Zc6 t)).1 (Zpt F t.id (some (bareT t))) ∧ ∀ k,getO (ZJ x (Zc6 t)).1.orders k=ZeK (bareT t) (getO x.orders k) k:=by
 have hR:=hx.1
 have hk:isK TxD.id (bareT t).id x.txs=false:=ZpR (by rw [h];exact hi)
 have hm:mayH x (bareT t) 4 false=(((lowK TxD.id (bareT t).id x.txs:Nat):Int),0):=Zr9 hR (Za5 ht) hk (Zfv x t)
 have hlen:=hx.2.1
 have e:ZJ x (Zc6 t)=(⟨x.txs.take (lowK TxD.id (bareT t).id x.txs) ++ [bareT t] ++ x.txs.drop (lowK TxD.id (bareT t).id x.txs),settleO (bareT t) x.orders⟩,0):=by
   show Zam x (bareT t)=_
   unfold Zam
   rw [hm,if_neg (by simp),if_neg (by omega)]
 have h0:(ZJ x (Zc6 t)).2=0:=by rw [e]
 refine ⟨h0,ZaB.edit2 hx hn ⟨Nat.le_trans (List.length_filter_le _ _) hl,Nat.zero_le _⟩ (by simp [h0]),?_,?_⟩
 · rw [e]
   obtain ⟨m1,m2⟩:=Zk2 (Zq hR).1 hk
   intro j
   rw [Zia (v:=some (bareT t)) (Zq hR).1 m1 (fun s hs=>by cases hs;rfl) (fun s=>by rw [m2];simp [eq_comm]) j]
   unfold Zpt
   rw [h];rfl
 · rw [e];exact fun k=>Zel (Zq hR).2 k
theorem ZoI {n:Nat} {x:HistD} {F:Int→Option TxD} {t t0:TxD} (hx:ZaB n x) (hn:n≤165) (h:At x F) (ht:ZU t=0) (hl:t.ops.length≤24) (hi:F t.id=some t0) (hd:Zbi x t=true) (hu:Zen x t=false) :
   (ZJ x (ZcM t)).2=0∧ZaB (n+1) (ZJ x (ZcM t)).1∧At (ZJ x (ZcM t)).1 (Zpt F t.id (some t)) ∧ ∀ k,getO (ZJ x (ZcM t)).1.orders k=ZeK t (getO x.orders k) k:=by
 have hR:=hx.1
 have hk:isK TxD.id t.id x.txs=true:=ZkR (by rw [h];exact hi)
 have hm:mayH x t 3 true=(((lowK TxD.id t.id x.txs:Nat):Int),0):=Zr9 hR ht hk hd
 have e:ZJ x (ZcM t)=(⟨x.txs.set (lowK TxD.id t.id x.txs) t,settleO t x.orders⟩,0):=by
   show Za4 x t=_
   unfold Za4
   rw [hm,if_neg (by simp),if_neg (by simp [hu])]
 have h0:(ZJ x (ZcM t)).2=0:=by rw [e]
 refine ⟨h0,ZaB.edit2 hx hn ⟨hl,Nat.zero_le _⟩ (by simp [h0]),?_,?_⟩
 · rw [e]
   obtain ⟨m1,m2⟩:=Zld (Zq hR).1 hk
   intro j
   rw [Zia (v:=some t) (Zq hR).1 m1 (fun s hs=>by cases hs;rfl) (fun s=>by rw [m2];simp [eq_comm]) j]
   unfold Zpt
   rw [h]
 · rw [e];exact fun k=>Zel (Zq hR).2 k
theorem ZrU {n:Nat} {x:HistD} {F:Int→Option TxD} {t t0:TxD} (hx:ZaB n x) (hn:n≤165) (h:At x F) (hi:F t.id=some t0) (hu:Zen x (Zc8 t.id)=false) :
   (ZJ x (Zn6 t)).2=0∧ZaB (n+1) (ZJ x (Zn6 t)).1∧At (ZJ x (Zn6 t)).1 (Zpt F t.id none):=by
 have hR:=hx.1
 have hr:=(Zq hR).1
 have hk:isK TxD.id t.id x.txs=true:=ZkR (by rw [h];exact hi)
 have e:ZJ x (Zn6 t)=(⟨x.txs.filter fun s=>!decide (s.id=t.id),settleO (Zc8 t.id) x.orders⟩,0):=by
   show Zad x t.id=_
   unfold Zad
   rw [if_neg (by simpa using hR),if_neg (by simp [hk]),if_neg (by simp [hu]),ZgB (Zs.1 hr) hk]
 have h0:(ZJ x (Zn6 t)).2=0:=by rw [e]
 refine ⟨h0,ZaB.edit2 hx hn ⟨Nat.zero_le _,Nat.zero_le _⟩ (by simp [h0]),?_⟩
 rw [e]
 intro j
 have hf:ZbP TxD.id (x.txs.filter fun s=>!decide (s.id=t.id)):=Zs.2 ((Zs.1 hr).filter _)
 rw [Zia (v:=none) (i:=t.id) hr hf (fun s hs=>by cases hs) (fun s=>by rw [List.mem_filter];simp) j]
 unfold Zpt
 rw [h]
theorem ZaB.up {n:Nat} {g:HistD} (h:ZaB n g):ZaB (n+1) g:=⟨h.1,by have:=h.2.1;omega,h.2.2⟩
theorem ZaB.le {n m:Nat} {g:HistD} (h:ZaB n g) (hm:n≤m):ZaB m g:=⟨h.1,by have:=h.2.1;omega,h.2.2⟩
theorem stage {Q:HistD→Prop} {L:List TxD} {p:TxD→Bool} {m:TxD→CmdD} {I:List TxD→HistD→Prop}
   (hs:∀ A t B x n,L=A++t :: B→ZaB n x→n≤165→I A x→if p t=true then (ZJ x (m t)).2=0∧ZaB (n+1) (ZJ x (m t)).1∧I (A ++ [t]) (ZJ x (m t)).1 else I (A ++ [t]) x)
   (hQ:∀ A x,ZaB 166 x→I A x→Q x):∀ (B A:List TxD) (x:HistD) (n:Nat),L=A++B→ZaB n x→n+B.length≤165→I A x → ∃ y,ZbB Q x ((B.filter p).map m) y∧ZaB (n+B.length) y∧I L y
 | [],A,x,n,hL,hx,hn,hI=>⟨x,rfl,hx,by rw [hL,List.append_nil];exact hI⟩
 | t :: B,A,x,n,hL,hx,hn,hI=>by
   rw [List.length_cons] at hn
   have h1:=hs A t B x n hL hx (by omega) hI
   have e:L=(A ++ [t])++B:=by rw [hL];simp
   by_cases hp:p t=true
   · rw [if_pos hp] at h1
     obtain ⟨k1,k2,k3⟩:=h1
     obtain ⟨y,y1,y2,y3⟩:=stage hs hQ B (A ++ [t]) _ (n+1) e k2 (by omega) k3
     refine ⟨y,?_,by rw [List.length_cons];exact y2.le (by omega),y3⟩
     rw [List.filter_cons_of_pos hp]
     exact ⟨k1,hQ _ _ (k2.le (by omega)) k3,y1⟩
   · rw [if_neg hp] at h1
     obtain ⟨y,y1,y2,y3⟩:=stage hs hQ B (A ++ [t]) x n e hx (by omega) h1
     refine ⟨y,?_,by rw [List.length_cons];exact y2.le (by omega),y3⟩
     rw [List.filter_cons_of_neg hp];exact y1
theorem Zei {L A B:List TxD} {t:TxD} (hr:ZbP TxD.id L) (e:L=A++t :: B):ZK L t.id=some t∧(∀ s ∈ A,s.id<t.id) ∧ ∀ i,i≠t.id → ∀ s,ZK L i=some s→(s ∈ A ++ [t] ↔ s ∈ A):=by
 have hp:=Zs.1 hr
 refine ⟨Zbj hr (by rw [e];simp),?_,fun i hi s hs=>?_⟩
 · rw [e,List.pairwise_append] at hp
   exact fun s hs=>hp.2.2 s hs t (by simp)
 · have:=(findT_mem hs).2
   simp only [List.mem_append,List.mem_singleton]
   exact ⟨fun h=>h.resolve_right fun e2=>hi (by rw [← this,e2]),.inl⟩
theorem Znf {A:List TxD} {t:TxD} (h:∀ s ∈ A,s.id<t.id):t ∉ A:=fun h2=>by have:=h t h2;omega
theorem ZpV {t:TxD} (h:Z6 t=false):bareT t=t:=by
 have h2:=Zfq t
 rw [h,Bool.not_eq_false',decide_eq_true_eq] at h2
 exact h2.symm
section
variable {a b:HistD}
def fT (b:HistD) (t:TxD):TxD:=if ZaY b t=true then t else bareT t
theorem ZsY (t:TxD):(fT b t).id=t.id:=by unfold fT;split <;> rfl
theorem ZsN (t:TxD) (k:Int):wcnt (fT b t).ops k=wcnt t.ops k:=by
 unfold fT;split
 · rfl
 · exact Zfd _ _
theorem Zqe (t:TxD):(fT b t).ops.length≤t.ops.length:=by
 unfold fT;split
 · exact Nat.le_refl _
 · exact List.length_filter_le _ _
theorem Zhy {t:TxD} {v:ZbQ} (h:v ∈ Zas (fT b t)):ZaY b t=true∧v ∈ Zas t:=by
 unfold fT at h
 split at h
 · rename_i h1;exact ⟨h1,h⟩
 · rw [Zg0] at h;cases h
theorem ZhI {t:TxD} (h:ZaY b t=true):t ∈ b.txs∧ZK b.txs t.id=some t:=by
 unfold ZaY at h
 rw [Bool.and_eq_true,decide_eq_true_eq] at h
 obtain ⟨h1,h2⟩:=h
 cases hf:ZK b.txs t.id with
 | none=>rw [hf] at h1;cases h1
 | some u=>
   rw [hf] at h2
   have e:t=u:=h2
   exact ⟨by rw [e];exact (findT_mem hf).1,by rw [e]⟩
theorem Zo6 {t:TxD} (h:ZaY b t=true):hasT b t=true:=by unfold hasT;rw [(ZhI h).2];rfl
theorem ZoW {t u:TxD} (h:ZK b.txs t.id=some u):ZaY b t=decide (t=u):=by
 unfold ZaY;rw [h];simp
theorem Znl {t:TxD} (h:ZaY b t=false) (hr:Z6 t=false):fT b t=t:=by
 unfold fT;rw [h];exact ZpV hr
end
def tab (L:List TxD) (f g:TxD→Option TxD) (A:List TxD):Int→Option TxD:=fun i=>(ZK L i).bind fun s=>if s ∈ A then f s else g s
theorem Zc3 {L A B:List TxD} {t:TxD} {f g:TxD→Option TxD} (hr:ZbP TxD.id L) (e:L=A++t :: B):tab L f g (A ++ [t])=Zpt (tab L f g A) t.id (f t):=by
 obtain ⟨h1,h2,h3⟩:=Zei hr e
 funext i
 unfold Zpt tab
 by_cases hi:i=t.id
 · rw [if_pos hi,hi,h1]
   show (if t ∈ A ++ [t] then f t else g t)=f t
   rw [if_pos (by simp)]
 · rw [if_neg hi]
   cases hf:ZK L i with
   | none=>rfl
   | some s=>
     show (if s ∈ A ++ [t] then f s else g s)=if s ∈ A then f s else g s
     by_cases hs:s ∈ A
     · rw [if_pos hs,if_pos ((h3 i hi s hf).2 hs)]
     · rw [if_neg hs,if_neg fun h=>hs ((h3 i hi s hf).1 h)]
theorem tab_at {L A B:List TxD} {t:TxD} {f g:TxD→Option TxD} (hr:ZbP TxD.id L) (e:L=A++t :: B):tab L f g A t.id=g t:=by
 obtain ⟨h1,h2,_⟩:=Zei hr e
 unfold tab
 rw [h1]
 show (if t ∈ A then f t else g t)=g t
 rw [if_neg (Znf h2)]
theorem ZdW {L A B:List TxD} {t:TxD} {f g:TxD→Option TxD} (hr:ZbP TxD.id L) (e:L=A++t :: B) (h:f t=g t):tab L f g (A ++ [t])=tab L f g A:=by
 rw [Zc3 hr e,h]
 funext i
 unfold Zpt
 split
 · rename_i hi;rw [hi,tab_at hr e]
 · rfl
theorem Zfl {L:List TxD} {f g:TxD→Option TxD} (i:Int):tab L f g [] i=(ZK L i).bind g:=by
 unfold tab;simp
theorem ZfM {L:List TxD} {f g:TxD→Option TxD} (i:Int):tab L f g L i=(ZK L i).bind f:=by
 unfold tab
 cases h:ZK L i with
 | none=>rfl
 | some s=>show (if s ∈ L then f s else g s)=f s;rw [if_pos (findT_mem h).1]
theorem ZeB {L A:List TxD} {f g:TxD→Option TxD} {i:Int} {y:TxD} (h:tab L f g A i=some y):∃ s,s ∈ L∧s.id=i∧((s ∈ A∧f s=some y)∨(s ∉ A∧g s=some y)):=by
 unfold tab at h
 cases hf:ZK L i with
 | none=>rw [hf] at h;cases h
 | some s=>
   rw [hf] at h
   have h:(if s ∈ A then f s else g s)=some y:=h
   refine ⟨s,(findT_mem hf).1,(findT_mem hf).2,?_⟩
   by_cases hs:s ∈ A
   · rw [if_pos hs] at h;exact .inl ⟨hs,h⟩
   · rw [if_neg hs] at h;exact .inr ⟨hs,h⟩
theorem ZaQ {x:HistD} {F G:Int→Option TxD} (h:At x F) (e:∀ i,F i=G i):At x G:=fun i=>(h i).trans (e i)
def ZsT (x b:HistD):Prop:=∀ s ∈ x.txs,∃ u ∈ b.txs,u.id=s.id∧s.ops.length≤u.ops.length
section
variable {a b:HistD} {Q:HistD→Prop} (hQ:∀ x,ZaB 166 x→(a.txs = []→ZsT x b)→Q x)
include hQ
theorem Zsk {n:Nat} (ha:ZaB n a) (hn:n+a.txs.length≤165):∃ y,ZbB Q a (fA a b) y∧ZaB (n+a.txs.length) y∧At y (fun i=>(ZK a.txs i).bind fun t=>some (fT b t)):=by
 have hr:=(Zq ha.1).1
 obtain ⟨y,h1,h2,h3⟩:=stage (Q:=Q) (L:=a.txs) (p:=fun t=>!ZaY b t && Z6 t) (m:=fun t=>ZcM (bareT t)) (I:=fun A x=>At x (tab a.txs (fun t=>some (fT b t)) some A)) (fun A t B x n e hx hn hI=>by
   have hm:t ∈ a.txs:=by rw [e];simp
   obtain ⟨hrt,_⟩:=Zap ha.1 hm
   have hat:=tab_at (f:=fun t=>some (fT b t)) (g:=some) hr e
   split
   · rename_i hp
     simp only [Bool.and_eq_true,Bool.not_eq_true'] at hp
     obtain ⟨k1,k2,k3,_⟩:=ZoI (t:=bareT t) (t0:=t) hx hn hI (Za5 hrt) (Nat.le_trans (List.length_filter_le _ _) (ha.2.2 t hm)) hat (Zfv x t) (Zjr hx.1 (ZeY (Za5 hrt)) (t0:=t) (by rw [hI];exact hat) fun k=>Zfd _ _)
     refine ⟨k1,k2,ZaQ k3 fun i=>?_⟩
     rw [Zc3 hr e]
     have:fT b t=bareT t:=by unfold fT;rw [hp.1];rfl
     rw [this];rfl
   · rename_i hp
     rw [ZdW hr e]
     · exact hI
     · show some (fT b t)=some t
       congr 1
       by_cases hj:ZaY b t=true
       · unfold fT;rw [if_pos hj]
       · exact Znl (by simpa using hj) (by simpa [hj] using hp)) (fun A x hx hI=>hQ x hx fun h0 s hs=>by
   obtain ⟨u,hu,_⟩:=ZeB (ZeH hx.1 hI hs)
   rw [h0] at hu;cases hu) a.txs [] a n rfl ha hn (fun i=>by rw [Zfl];simp)
 exact ⟨y,h1,h2,ZaQ h3 fun i=>ZfM i⟩
theorem Zsf {n:Nat} {x:HistD} (ha:Zx a) (hb:Zx b) (hx:ZaB n x) (hn:n+a.txs.length≤165) (hI:At x (fun i=>(ZK a.txs i).bind fun t=>some (fT b t))) :
   ∃ y,ZbB Q x (fB a b) y∧ZaB (n+a.txs.length) y∧At y (fun i=>(ZK a.txs i).bind fun t=>if hasT b t=true then some (fT b t) else none):=by
 have hr:=(Zq ha).1
 obtain ⟨y,h1,h2,h3⟩:=stage (Q:=Q) (L:=a.txs) (p:=fun t=>!hasT b t) (m:=Zn6) (I:=fun A x=>At x (tab a.txs (fun t=>if hasT b t=true then some (fT b t) else none) (fun t=>some (fT b t)) A)) (fun A t B x n e hx hn hI=>by
   have hm:t ∈ a.txs:=by rw [e];simp
   obtain ⟨hrt,_⟩:=Zap ha hm
   split
   · rename_i hp
     have hp:hasT b t=false:=by simpa using hp
     have hu:Zen x (Zc8 t.id)=false:=Zki fun y hy _ v hv e2=>by
       obtain ⟨s,hs,_,h9⟩:=ZeB (ZeH hx.1 hI hy)
       have hy2:y=fT b s:=by
         rcases h9 with ⟨_,h9⟩ | ⟨_,h9⟩
         · split at h9
           · exact (Option.some.inj h9).symm
           · cases h9
         · exact (Option.some.inj h9).symm
       rw [hy2] at hv
       obtain ⟨j1,j2⟩:=Zhy hv
       have e3:v.tx=t.id:=e2
       have h8:=Zsg (Ze4 (Zap hb (ZhI j1).1).2 j2) (by rw [e3];exact ZeY hrt)
       rw [e3] at h8
       have:hasT b t=true:=h8
       rw [hp] at this;cases this
     obtain ⟨k1,k2,k3⟩:=ZrU hx hn hI (tab_at hr e) hu
     refine ⟨k1,k2,ZaQ k3 fun i=>?_⟩
     rw [Zc3 hr e,if_neg (by simp [hp])]
   · rename_i hp
     rw [ZdW hr e]
     · exact hI
     · rw [if_pos (by simpa using hp)]) (fun A x hx hI=>hQ x hx fun h0 s hs=>by
   obtain ⟨u,hu,_⟩:=ZeB (ZeH hx.1 hI hs)
   rw [h0] at hu;cases hu) a.txs [] x n rfl hx hn (ZaQ hI fun i=>by rw [Zfl])
 exact ⟨y,h1,h2,ZaQ h3 fun i=>ZfM i⟩
theorem Zsp {n:Nat} {x:HistD} (ha:Zx a) (hb:Zx b) (hl:∀ t ∈ b.txs,t.ops.length≤24) (hx:ZaB n x) (hn:n+b.txs.length≤165) (hI:At x (fun i=>(ZK b.txs i).bind fun u=>(ZK a.txs u.id).map (fT b))) :
   ∃ y,ZbB Q x (fC a b) y∧ZaB (n+b.txs.length) y∧At y (fun i=>(ZK b.txs i).bind fun u=>if hasT a u=true then some (fT a u) else none):=by
 have hr:=(Zq hb).1
 obtain ⟨y,h1,h2,h3⟩:=stage (Q:=Q) (L:=b.txs) (p:=fun t=>hasT a t && !ZaY a t) (m:=fun t=>ZcM (bareT t)) (I:=fun A x=>At x (tab b.txs (fun u=>if hasT a u=true then some (fT a u) else none) (fun u=>(ZK a.txs u.id).map (fT b)) A)) (fun A t B x n e hx hn hI=>by
   have hm:t ∈ b.txs:=by rw [e];simp
   obtain ⟨hrt,_⟩:=Zap hb hm
   have hft:=Zbj hr hm
   split
   · rename_i hp
     simp only [Bool.and_eq_true,Bool.not_eq_true'] at hp
     obtain ⟨s0,hs0⟩:=Option.isSome_iff_exists.1 (show (ZK a.txs t.id).isSome=true from hp.1)
     have hu:Zen x (bareT t)=false:=Zki fun y hy _ v hv e2=>by
       have e3:v.tx=t.id:=e2
       obtain ⟨s,hs,_,h9⟩:=ZeB (ZeH hx.1 hI hy)
       obtain ⟨w,hw,hv2⟩:∃ w ∈ b.txs,v ∈ Zas w:=by
         rcases h9 with ⟨_,h9⟩ | ⟨_,h9⟩
         · split at h9
           · rw [← Option.some.inj h9] at hv
             exact ⟨s,hs,(Zhy hv).2⟩
           · cases h9
         · obtain ⟨w,_,h9⟩:=Option.map_eq_some_iff.1 h9
           rw [← h9] at hv
           obtain ⟨j1,j2⟩:=Zhy hv
           exact ⟨w,(ZhI j1).1,j2⟩
       have h8:=Zqq (t:=t) (Ze4 (Zap hb hw).2 hv2) (by rw [e3];exact ZeY hrt) (by rw [e3];exact hft)
       rw [show wcnt (bareT t).ops v.key=wcnt t.ops v.key from Zfd _ _];exact h8
     obtain ⟨k1,k2,k3,_⟩:=ZoI (t:=bareT t) (t0:=fT b s0) hx hn hI (Za5 hrt) (Nat.le_trans (List.length_filter_le _ _) (hl t hm)) (by
       show tab _ _ _ A t.id=_
       rw [tab_at hr e,hs0];rfl) (Zfv x t) hu
     refine ⟨k1,k2,ZaQ k3 fun i=>?_⟩
     rw [Zc3 hr e,if_pos hp.1]
     have:fT a t=bareT t:=by unfold fT;rw [hp.2];rfl
     rw [this];rfl
   · rename_i hp
     rw [ZdW hr e]
     · exact hI
     · by_cases hh:hasT a t=true
       · have hj:ZaY a t=true:=by simpa [hh] using hp
         have hjb:ZaY b t=true:=by rw [ZoW hft];simp
         rw [if_pos hh,(ZhI hj).2]
         show some (fT a t)=some (fT b t)
         unfold fT;rw [if_pos hj,if_pos hjb]
       · rw [if_neg hh]
         have:ZK a.txs t.id=none:=by unfold hasT at hh;simpa using hh
         rw [this];rfl) (fun A x hx hI=>hQ x hx fun h0 s hs=>by
   obtain ⟨u,hu,_,h9⟩:=ZeB (ZeH hx.1 hI hs)
   exfalso
   have hn:∀ i,ZK a.txs i=none:=fun i=>by rw [h0];rfl
   rcases h9 with ⟨_,h9⟩ | ⟨_,h9⟩
   · split at h9
     · rename_i h8;unfold hasT at h8;rw [hn] at h8;cases h8
     · cases h9
   · rw [hn] at h9;cases h9) b.txs [] x n rfl hx hn (ZaQ hI fun i=>by rw [Zfl])
 exact ⟨y,h1,h2,ZaQ h3 fun i=>ZfM i⟩
omit hQ in
theorem ZiM {t:TxD} {l:List Int} {k:Int} (h:ZdR l) (hx:t.done=true→0<wcnt t.ops k→t.id ∈ l ∨ ∀ z ∈ l,z<t.id):ZdR (ZeK t l k):=by
 unfold ZeK
 split
 · rename_i h1
   unfold withO
   split
   · exact h
   · rename_i h2
     have h3:=(hx h1.1 h1.2).resolve_left h2
     exact List.pairwise_append.2 ⟨h,by simp,fun z hz w hw=>by rw [List.mem_singleton.1 hw];exact h3 z hz⟩
 · exact h.filter _
theorem Zsi {n:Nat} {x:HistD} (hb:Zx b) (hl:∀ t ∈ b.txs,t.ops.length≤24) (hx:ZaB n x) (hn:n+b.txs.length≤165) (hI:At x (fun i=>(ZK b.txs i).bind fun u=>if hasT a u=true then some (fT a u) else none)) (hO:a.txs = [] → ∀ k,ZdR (getO x.orders k)) :
   ∃ y,ZbB Q x (fD a b) y∧ZaB (n+b.txs.length) y∧At y (fun i=>(ZK b.txs i).bind fun u=>some (fT a u))∧(a.txs = [] → ∀ k,ZdR (getO y.orders k)):=by
 have hr:=(Zq hb).1
 obtain ⟨y,h1,h2,h3,h4⟩:=stage (Q:=Q) (L:=b.txs) (p:=fun t=>!hasT a t) (m:=Zc6) (I:=fun A x=>At x (tab b.txs (fun u=>some (fT a u)) (fun u=>if hasT a u=true then some (fT a u) else none) A)∧(a.txs = [] → ∀ k,ZdR (getO x.orders k))) (fun A t B x n e hx hn hI=>by
   have hm:t ∈ b.txs:=by rw [e];simp
   obtain ⟨hrt,_⟩:=Zap hb hm
   split
   · rename_i hp
     have hp:hasT a t=false:=by simpa using hp
     have hj:ZaY a t=false:=by
       cases hc:ZaY a t with
       | false=>rfl
       | true=>rw [Zo6 hc] at hp;cases hp
     obtain ⟨k1,k2,k3,k4⟩:=ZrY hx hn hI.1 hrt (hl t hm) (by rw [tab_at hr e,if_neg (by simp [hp])])
     refine ⟨k1,k2,ZaQ k3 fun i=>?_,fun h0 k=>?_⟩
     · rw [Zc3 hr e]
       have:fT a t=bareT t:=by unfold fT;rw [hj];rfl
       rw [this]
     · rw [k4]
       refine ZiM (hI.2 h0 k) fun _ _=>.inr fun z hz=>?_
       have hz2:=((Z7.1 hx.1).2.2.2.2.2 k).mem_iff.1 hz
       obtain ⟨s,hs,e2,_⟩:=Za6.1 hz2
       obtain ⟨u,hu,e3,h9⟩:=ZeB (ZeH hx.1 hI.1 hs)
       have hA:u ∈ A:=by
         rcases h9 with ⟨h9,_⟩ | ⟨_,h9⟩
         · exact h9
         · rw [show hasT a u=false by unfold hasT;rw [h0];rfl] at h9
           cases h9
       have:=(Zei hr e).2.1 u hA
       show z<t.id
       omega
   · rename_i hp
     refine ⟨?_,hI.2⟩
     rw [ZdW hr e]
     · exact hI.1
     · rw [if_pos (by simpa using hp)]) (fun A x hx hI=>hQ x hx fun _ s hs=>by
   obtain ⟨u,hu,e2,h9⟩:=ZeB (ZeH hx.1 hI.1 hs)
   have hy2:s=fT a u:=by
     rcases h9 with ⟨_,h9⟩ | ⟨_,h9⟩
     · exact (Option.some.inj h9).symm
     · split at h9
       · exact (Option.some.inj h9).symm
       · cases h9
   exact ⟨u,hu,e2,by rw [hy2];exact Zqe u⟩) b.txs [] x n rfl hx hn ⟨ZaQ hI fun i=>by rw [Zfl],hO⟩
 exact ⟨y,h1,h2,ZaQ h3 fun i=>ZfM i,h4⟩
theorem Zsm {n:Nat} {x:HistD} (hb:Zx b) (hl:∀ t ∈ b.txs,t.ops.length≤24) (hx:ZaB n x) (hn:n+b.txs.length≤165) (hI:At x (fun i=>(ZK b.txs i).bind fun u=>some (fT a u))) (hO:a.txs = [] → ∀ k,ZdR (getO x.orders k)) :
   ∃ y,ZbB Q x (fE a b) y∧ZaB (n+b.txs.length) y∧y.txs=b.txs∧(a.txs = [] → ∀ k,ZdR (getO y.orders k)):=by
 have hr:=(Zq hb).1
 obtain ⟨y,h1,h2,h3,h4⟩:=stage (Q:=Q) (L:=b.txs) (p:=fun t=>!ZaY a t && Z6 t) (m:=ZcM) (I:=fun A x=>At x (tab b.txs some (fun u=>some (fT a u)) A)∧(a.txs = [] → ∀ k,ZdR (getO x.orders k))) (fun A t B x n e hx hn hI=>by
   have hm:t ∈ b.txs:=by rw [e];simp
   obtain ⟨hrt,hnd⟩:=Zap hb hm
   split
   · rename_i hp
     have hat:ZK x.txs t.id=some (fT a t):=by rw [hI.1,tab_at hr e]
     have hd:Zbi x t=true:=by
       unfold Zbi
       rw [List.all_eq_true]
       intro v hv
       have h9:=Ze4 hnd hv
       unfold Zgv at h9 ⊢
       split
       · rename_i hz;rw [if_pos hz] at h9;exact h9
       · rename_i hz
         rw [if_neg hz] at h9
         rw [hI.1]
         cases hf:ZK b.txs v.tx with
         | none=>rw [hf] at h9;cases h9
         | some u=>
           rw [hf] at h9
           unfold tab
           rw [hf]
           by_cases hu:u ∈ A
           · simpa [hu] using h9
           · have hw:=ZsN (b:=a) u v.key
             simp [hu,hw] at h9 ⊢
             exact h9
     obtain ⟨k1,k2,k3,k4⟩:=ZoI (t0:=fT a t) hx hn hI.1 hrt (hl t hm) (tab_at hr e) hd (Zjr hx.1 (ZeY hrt) hat fun k=>(ZsN t k).symm)
     refine ⟨k1,k2,ZaQ k3 fun i=>?_,fun h0 k=>?_⟩
     · rw [Zc3 hr e]
     · rw [k4]
       refine ZiM (hI.2 h0 k) fun hdn hw=>.inl ?_
       refine ((Z7.1 hx.1).2.2.2.2.2 k).mem_iff.2 (Za6.2 ⟨fT a t,(findT_mem hat).1,ZsY t,?_,by rw [ZsN];exact hw⟩)
       unfold fT;split
       · exact hdn
       · exact hdn
   · rename_i hp
     refine ⟨?_,hI.2⟩
     rw [ZdW hr e]
     · exact hI.1
     · congr 1
       by_cases hj:ZaY a t=true
       · unfold fT;rw [if_pos hj]
       · exact (Znl (by simpa using hj) (by simpa [hj] using hp)).symm) (fun A x hx hI=>hQ x hx fun _ s hs=>by
   obtain ⟨u,hu,e2,h9⟩:=ZeB (ZeH hx.1 hI.1 hs)
   refine ⟨u,hu,e2,?_⟩
   rcases h9 with ⟨_,h9⟩ | ⟨_,h9⟩
   · rw [← Option.some.inj h9];exact Nat.le_refl _
   · rw [← Option.some.inj h9];exact Zqe u) b.txs [] x n rfl hx hn ⟨ZaQ hI fun i=>by rw [Zfl],hO⟩
 refine ⟨y,h1,h2,ZsK h2.1 hb fun i=>?_,h4⟩
 rw [h3,ZfM];simp
theorem ZgZ (hb:ZaB 12 b) {h0:HistD} {o:OrdD} {s:List Zb8} (hso:Zm8 (getO h0.orders o.key) o.txs s) (hne:getO h0.orders o.key≠[]):∀ (S2 S1:List Zb8) (x:HistD),s=S1++S2→Zx x→x.txs=b.txs→getO x.orders o.key=ZaX (getO h0.orders o.key) S1 →
   ∃ y,ZbB Q x (S2.map (Zh8 o.key)) y∧Zx y∧y.txs=b.txs∧getO y.orders o.key=o.txs ∧ ∀ k,k≠o.key→getO y.orders k=getO x.orders k
 | [],S1,x,e,hx,ht,hg=>⟨x,rfl,hx,ht,by rw [hg,← hso.done,e,List.append_nil],fun _ _=>rfl⟩
 | p :: S2,S1,x,e,hx,ht,hg=>by
   have hi:S1.length<s.length:=by rw [e];simp
   have h1:=hso.each S1.length hi
   have e1:s.take S1.length=S1:=by rw [e];simp
   have e2:Go.Gm.nth s S1.length=p:=by rw [Zn hi];simp [e]
   have e3:s.take (S1.length+1)=S1 ++ [p]:=by rw [ZF hi,e1,e2]
   rw [e1,e2,e3,← hg] at h1
   have hl:∀ i,ZaX (getO h0.orders o.key) (s.take i)≠[]:=fun i h9=>by
     have:=hso.len i
     rw [h9] at this
     exact hne (List.eq_nil_of_length_eq_zero this.symm)
   have n1:getO x.orders o.key≠[]:=by rw [hg];have:=hl S1.length;rwa [e1] at this
   have n2:(Zaf (getO x.orders o.key) p.key p.val).1≠[]:=by rw [h1];have:=hl (S1.length+1);rwa [e3] at this
   have hed:ZJ x (Zh8 o.key p)=Z0 x o.key fun l=>Zaf l p.key p.val:=rfl
   have ht4:=Zqv (rule:=fun l=>Zaf l p.key p.val) hx n1 (by rw [h1]) n2
   have h2:(ZJ x (Zh8 o.key p)).2=0:=by rw [hed,ht4]
   have hR:Zx (ZJ x (Zh8 o.key p)).1:=by
     rw [hed] at h2 ⊢
     exact Zcn (rule:=fun l=>Zaf l p.key p.val) (fun l h=>Zif h) h2
   have htx:(ZJ x (Zh8 o.key p)).1.txs=b.txs:=by rw [hed,ht4];exact ht
   have hgo:∀ k,getO (ZJ x (Zh8 o.key p)).1.orders k=if k=o.key then (Zaf (getO x.orders o.key) p.key p.val).1 else getO x.orders k:=fun k=>by
     rw [hed,ht4]
     show getO (ZbN OrdD.key _ _ _) k=_
     rw [ZkT (Zs.1 (Zq hx).2),decide_eq_false n2]
     rfl
   obtain ⟨y,y1,y2,y3,y4,y5⟩:=ZgZ hb hso hne S2 (S1 ++ [p]) (ZJ x (Zh8 o.key p)).1 (by rw [e];simp) hR htx (by rw [hgo,if_pos rfl,h1])
   refine ⟨y,⟨h2,hQ _ ⟨hR,by rw [htx];exact Nat.le_trans hb.2.1 (by omega),by rw [htx];exact hb.2.2⟩ fun _ s hs=>⟨s,by rw [← htx];exact hs,rfl,Nat.le_refl _⟩,y1⟩,y2,y3,y4,fun k hk=>?_⟩
   rw [y5 k hk,hgo,if_neg hk]
omit hQ in
theorem ZiR {h0:HistD} (hh:Zx h0) (hb:Zx b) (ht:h0.txs=b.txs) {o:OrdD} (ho:o ∈ b.orders):Zca (getO h0.orders o.key) o.txs∧getO h0.orders o.key≠[]:=by
 obtain ⟨_,b2,b3,b4,b5,b6⟩:=Z7.1 hb
 obtain ⟨_,_,_,_,_,h6⟩:=Z7.1 hh
 have p1:=h6 o.key
 have p2:=b6 o.key
 rw [Za8 (Zs.1 b4) ho] at p2
 rw [ht] at p1
 have hin:∀ z ∈ ZN b.txs o.key,1≤z∧z≤1048575:=fun z hz=>by
   obtain ⟨t,h1,h2,_⟩:=Za6.1 hz
   have:=(b3 t h1).1
   unfold ZU at this
   split at this
   · cases this
   · rename_i h3;rw [← h2];exact Decidable.not_not.1 h3
 have hnd:=ZaW b2 o.key
 refine ⟨⟨⟨fun z hz=>hin z (p1.mem_iff.1 hz),p1.nodup_iff.2 hnd⟩,⟨fun z hz=>hin z (p2.mem_iff.1 hz),p2.nodup_iff.2 hnd⟩,p1.trans p2.symm⟩,fun h9=>?_⟩
 rw [h9] at p1
 exact b5 o ho (p2.trans p1.symm).eq_nil
theorem Zqx {h0:HistD} (hh:Zx h0) (hb:ZaB 12 b) (ht:h0.txs=b.txs):∀ (B A:List OrdD) (x:HistD),b.orders=A++B→Zx x→x.txs=b.txs→(∀ k,getO x.orders k=if (∃ o ∈ A,o.key=k) then getO b.orders k else getO h0.orders k) →
   ∃ y,ZbB Q x (B.flatMap (mvC h0)) y∧Zx y∧y.txs=b.txs ∧ ∀ k,getO y.orders k=if (∃ o ∈ b.orders,o.key=k) then getO b.orders k else getO h0.orders k
 | [],A,x,e,hx,hxt,hg=>⟨x,rfl,hx,hxt,by rw [e,List.append_nil] at *;exact hg⟩
 | o :: B,A,x,e,hx,hxt,hg=>by
   have ho:o ∈ b.orders:=by rw [e];simp
   have hbr:=Zs.1 (Zq hb.1).2
   obtain ⟨ok,hne⟩:=ZiR hh hb.1 ht ho
   have hnA:¬ ∃ u ∈ A,u.key=o.key:=fun ⟨u,hu,h9⟩=>by
     rw [e,List.pairwise_append] at hbr
     have:=hbr.2.2 u hu o (by simp)
     omega
   obtain ⟨y,y1,y2,y3,y4,y5⟩:=ZgZ hQ hb (steps_facts ok rfl) hne (Zao (getO h0.orders o.key) 0 o.txs) [] x rfl hx hxt (by rw [hg,if_neg hnA];rfl)
   obtain ⟨z,z1,z2,z3,z4⟩:=Zqx hh hb ht B (A ++ [o]) y (by rw [e];simp) y2 y3 fun k=>by
     by_cases hk:k=o.key
     · rw [hk,y4,if_pos ⟨o,by simp,rfl⟩,Za8 hbr ho]
     · rw [y5 k hk,hg]
       by_cases h9:∃ u ∈ A,u.key=k
       · obtain ⟨u,hu,e9⟩:=h9
         rw [if_pos ⟨u,hu,e9⟩,if_pos ⟨u,by simp [hu],e9⟩]
       · rw [if_neg h9,if_neg]
         rintro ⟨u,hu,e9⟩
         rcases List.mem_append.1 hu with hu | hu
         · exact h9 ⟨u,hu,e9⟩
         · rw [List.mem_singleton.1 hu] at e9;exact hk e9.symm
   refine ⟨z,?_,z2,z3,z4⟩
   rw [List.flatMap_cons]
   refine ZbB.app ?_ z1
   unfold mvC ZaD
   rw [if_pos ok]
   exact y1
theorem ZfI (ha:ZaB 12 a) (hb:ZaB 12 b):∃ h0,playC a (Zbb a b) 0=(h0,(Zbb a b).length,0)∧Zx h0∧h0.txs=b.txs∧(a=zeroH → ∀ k,ZdR (getO h0.orders k))∧ZbB Q a (ZeF a b).1 b:=by
 have la:=ha.2.1
 have lb:=hb.2.1
 obtain ⟨x1,p1,f1,i1⟩:=Zsk hQ ha (by omega)
 obtain ⟨x2,p2,f2,i2⟩:=Zsf hQ ha.1 hb.1 f1 (by omega) i1
 obtain ⟨x3,p3,f3,i3⟩:=Zsp hQ ha.1 hb.1 hb.2.2 f2 (by omega) (ZaQ i2 fun i=>by
   cases hA:ZK a.txs i with
   | none=>
     cases hB:ZK b.txs i with
     | none=>rfl
     | some u=>show none=(ZK a.txs u.id).map (fT b);rw [(findT_mem hB).2,hA];rfl
   | some s=>
     cases hB:ZK b.txs i with
     | none=>
       show (if hasT b s=true then some (fT b s) else none)=none
       rw [if_neg];unfold hasT;rw [(findT_mem hA).2,hB];simp
     | some u=>
       show (if hasT b s=true then some (fT b s) else none)=(ZK a.txs u.id).map (fT b)
       rw [(findT_mem hB).2,hA,if_pos]
       · rfl
       · unfold hasT;rw [(findT_mem hA).2,hB];rfl)
 have hO:a.txs = [] → ∀ k,ZdR (getO x3.orders k):=fun h0 k=>by
   have e1:x1=a:=by unfold fA at p1;rw [h0] at p1;exact p1
   have e2:x2=a:=by unfold fB at p2;rw [h0,e1] at p2;exact p2
   have e3:x3=a:=by
     unfold fC at p3
     rw [List.filter_eq_nil_iff.2 fun t _=>by simp [hasT,h0,ZK],e2] at p3
     exact p3
   have hol:=ha.1.2.2.1
   rw [h0] at hol
   rw [e3,List.eq_nil_of_length_eq_zero hol]
   exact List.Pairwise.nil
 obtain ⟨x4,p4,f4,i4,o4⟩:=Zsi hQ hb.1 hb.2.2 f3 (by omega) i3 hO
 obtain ⟨x5,p5,f5,i5,o5⟩:=Zsm hQ hb.1 hb.2.2 f4 (by omega) i4 o4
 have pf:ZbB Q a (Zbb a b) x5:=(((p1.app p2).app p3).app p4).app p5
 have hpl:=pf.play 0
 rw [Nat.zero_add] at hpl
 refine ⟨x5,hpl,f5.1,i5,fun h0=>o5 (by rw [h0];rfl),?_⟩
 obtain ⟨y,y1,y2,y3,y4⟩:=Zqx hQ f5.1 hb i5 b.orders [] x5 rfl f5.1 i5 fun k=>by rw [if_neg (by simp)]
 have e:y=b:=by
   have hbr:=Zq hb.1
   have hyr:=Zq y2
   have ho:y.orders=b.orders:=Zrh (Zs.1 hyr.2) (Zs.1 hbr.2) (Zc4 y2) (Zc4 hb.1) fun k=>by
     rw [y4]
     split
     · rfl
     · rename_i h9
       have e1:getO b.orders k = []:=Zco fun o ho e=>h9 ⟨o,ho,e⟩
       have q1:=(Z7.1 hb.1).2.2.2.2.2 k
       have q2:=(Z7.1 f5.1).2.2.2.2.2 k
       rw [i5] at q2
       rw [e1] at q1
       rw [e1]
       exact (q2.trans q1.symm).eq_nil
   cases y;cases b
   simp only at y3 ho
   rw [y3,ho]
 subst e
 unfold ZeF
 rw [if_neg (by simp [ha.1,hb.1]),hpl]
 exact pf.app y1
end
theorem Zmc (g:HistD):Zbb zeroH g=g.txs.map Zc6++(g.txs.filter Z6).map ZcM:=by
 have h1:∀ t,hasT zeroH t=false:=fun t=>rfl
 have h2:∀ t,ZaY zeroH t=false:=fun t=>rfl
 unfold Zbb
 simp only [h1,h2]
 have e1:g.txs.filter (fun t=>false && !false) = []:=List.filter_eq_nil_iff.2 fun t _=>by simp
 have e2:g.txs.filter (fun t=>!false)=g.txs:=List.filter_eq_self.2 fun t _=>by simp
 rw [e1,e2]
 have e:(fun t:TxD=>!false && Z6 t)=Z6:=by funext t;simp
 rw [e]
 simp [zeroH]
theorem ZoL {x y:List Int} (hx:ZdR x) (hy:ZdR y) (h:x.Perm y):x=y:=ZcS hx hy fun z=>h.mem_iff
theorem Zg4 {g:HistD} (hg:ZaB 12 g):ZeF zeroH g=(Zv g,0):=by
 obtain ⟨h0,h1,h2,h3,h4,_⟩:=ZfI (a:=zeroH) (b:=g) (Q:=fun _=>True) (fun _ _ _=>trivial) (ZaB.le ZaB.zero (by omega)) hg
 unfold ZeF
 rw [if_neg (by simp [ZgN,hg.1]),h1,Zcj hg.1,Zmc]
 congr 2
 have cg:∀ (l:List OrdD) (f g:OrdD→List CmdD),(∀ o ∈ l,f o=g o)→l.flatMap f=l.flatMap g:=by
   intro l f g h
   induction l with
   | nil=>rfl
   | cons x l ih=>rw [List.flatMap_cons,List.flatMap_cons,h x (by simp),ih fun o ho=>h o (by simp [ho])]
 refine cg _ _ _ fun o ho=>?_
 unfold mvC ZbR
 have hgr:=Z7.1 hg.1
 have q1:=(Z7.1 h2).2.2.2.2.2 o.key
 have q2:=hgr.2.2.2.2.2 o.key
 rw [Za8 (Zs.1 hgr.2.2.2.1) ho] at q2
 rw [h3] at q1
 have hnd:o.txs.Nodup:=q2.nodup_iff.2 (ZaW hgr.2.1 _)
 rw [← Zie hnd,ZoL (h4 rfl o.key) (Zal o.txs).1]
 refine (List.perm_ext_iff_of_nodup (q1.nodup_iff.2 (ZaW hgr.2.1 _)) ((Zal o.txs).1.imp fun h=>Int.ne_of_lt h)).2 fun z=>?_
 rw [(Zal _).2,q1.mem_iff,q2.mem_iff]
end Go.Proofs.YtjhapicamnijnaaGreatDoor
namespace Go.Proofs.YtjhapicamnijnaaGreatDoor
open Go Go.Gm
set_option linter.unusedVariables false
set_option linter.unusedSimpArgs false
set_option maxHeartbeats 4000000
set_option maxRecDepth 8000
open Go.RowKit Go.Maps Go.Sort Go.Shelf Go.ChangeMaps Go.MapKept
def Zo8 (x:Int):List Value:=[.int .i64 x]
def ZsO (x:Int):Value:=.int .i64 x
theorem ZoO (x:Int):∀ u ∈ [Value.int .i64 x],u.oneCell' = true:=by simp [Value.oneCell']
theorem Zn3 {w:World} {y:Ys} : ∀ {l:List Int},(∀ x ∈ l,inR .i64 x)→PVs (l.flatMap rInt) (l.flatMap Zo8) w y
 | [],_=>trivial
 | x :: l,h=>⟨⟨rfl,rfl,h x (by simp)⟩,Zn3 fun z hz=>h z (by simp [hz])⟩
open Go.RowKit Go.Maps Go.Sort Go.Shelf
def ZsS {α:Type} (F:Fence) (n:Nat) (P:Program) (g:Nat) (lb:Array Value) (enc:α→Value) (S:List α→Prop) (N:Nat) (w:World):Prop:=
 ∀ (l:Nat) (J:List α→World→Prop) (W:World),Below w.heap.size w W→AbidesFrom W.heap.size J→(∀ pre W1,J pre W1→Below w.heap.size w W1) →
   (∀ pre x W1,J pre W1→pre.length<N→YieldAt F (n - 1) P l #[enc x] W1 fun e W'=>e = .returned (.bool true)∧J (pre ++ [x]) W' ∧ KeepsWalks W1 W') →
   J [] W→CallsIn F n P g (#[.func (.yield l) #[] #[]] ++ lb) W fun e W'=>(∃ v,e = .returned v) ∧ ∃ xs,S xs∧J xs W'
set_option maxRecDepth 100000 in
set_option maxHeartbeats 1000000 in
theorem ZqL (F:Fence) (n:Nat) (h10:F.fn 115) (hro:F.round=none) (hn:1≤n) (l Bm boff cap:Nat) (ad:Option Addr) (w:World) (xs:List Int) (hx:xs.length≤9223372036854775807)
   (hc:∀ j (hj:j<xs.length),∃ b off,ad=some ⟨b,off,none⟩∧b<w.heap.size∧w.cell? ⟨b,off+j,none⟩ = some (.int .i64 xs[j]))
   (J:List Int→World→Prop) (hB:∀ pre W1,J pre W1→Below w.heap.size w W1)
   (hY:∀ pre x W,J pre W→pre.length<xs.length→YieldAt F (n - 1) Tryz.prog l #[.int .i64 x] W fun e W'=>e = .returned (.bool true)∧J (pre ++ [x]) W' ∧ KeepsWalks W W')
   (W:World) (hm:W.cell? ⟨Bm,boff,none⟩ = some (.slice ad xs.length cap)) (h0:J [] W) :
   CallsIn F n Tryz.prog 115 #[.func (.yield l) #[] #[],.pointer (some ⟨Bm,boff,none⟩)] W fun e W'=>(∃ v,e = .returned v) ∧ ∃ ss:List Int,ss=xs∧J ss W':=by
 refine callsIn_of_wp Tryz.func115 rfl h10 ?_ hro
 simp only [Tryz.ntmps115,List.size_toArray,List.length_cons,List.length_nil,Nat.reduceAdd,Nat.reduceSub,Array.replicate_succ,Array.replicate_zero,List.push_toArray,List.append_toArray,List.nil_append,List.cons_append]
 gi_wp2
 gi_loopg [4,7] xs.length (fun g s4 s7 wr=>∃ k:Nat,k≤xs.length∧xs.length - k≤g∧s7 = .int .i64 k∧J (xs.take k) wr)
 case atStart=>exact ⟨0,Nat.zero_le _,by omega,rfl,h0⟩
 case round=>
   obtain ⟨k,hk,hg,rfl,hJs⟩:=hrel
   by_cases hlt:k<xs.length
   · obtain ⟨b,off,rfl,hbl,hcell⟩:=hc k hlt
     have hbel:=hB _ _ hJs
     have g1:wr.cell? ⟨b,off+k,none⟩ = some (.int .i64 xs[k]):=(World.cell?_of_block (a:=⟨b,off+k,none⟩) (hbel.block b hbl)).trans hcell
     obtain ⟨fn,tmps,assign,body,hy,hR⟩:=hY (xs.take k) xs[k] wr hJs (by rw [List.length_take];omega)
     have hts:xs.take (k+1)=xs.take k ++ [xs[k]]:=List.take_succ_eq_append_getElem hlt
     generalize xs[k] = x at *
     have A:Aside (∀ j (hj:j<xs.length),∃ b' off',(some ⟨b,off,none⟩:Option Addr)=some ⟨b',off',none⟩∧b' < w.heap.size∧w.cell? ⟨b',off' + j,none⟩ = some (.int .i64 xs[j])):=hc
     clear hc hcell
     gi_wp2
     refine hR.mono ?_
     rintro e9 W3 ⟨rfl,hJ3,hk3⟩
     gi_wp2
     gi_roundg (xs.length - (k+1))
     case measure=>omega
     case rel=>exact ⟨k+1,by omega,by omega,by go_num,by rw [hts];exact hJ3⟩
   · have:k=xs.length:=by omega
     subst this
     clear hc
     gi_wp2
     go_end0
     exact ⟨⟨_,rfl⟩,xs,rfl,by rwa [List.take_length] at hJs⟩
end Go.Proofs.YtjhapicamnijnaaGreatDoor
namespace Go.Proofs.YtjhapicamnijnaaGreatDoor
open Go Go.Gm
set_option linter.unusedVariables false
set_option linter.unusedSimpArgs false
set_option maxHeartbeats 4000000
set_option maxRecDepth 8000
open Go.RowKit Go.Maps Go.Sort Go.Shelf Go.ChangeMaps Go.MapKept
theorem Zna (w:World) (l:List Value) (t:TypeId):∀ j u,l[j]? = some u→(w.alloc (.cells l.toArray t)).cell? ((⟨w.heap.size,0,none⟩:Addr).add j)=some u:=by
 intro j u hj
 rw [show (⟨w.heap.size,0,none⟩:Addr).add j = ⟨w.heap.size,j,none⟩ from by cases j <;> simp [Addr.add]]
 rw [ZaT (vs:=l.toArray) (T:=t) (fr:=(0,0)) (World.alloc_heap_new w _)]
 simpa using hj
def Zef : Code := (Code.region 2 #[{ dst := some 5, op := Op.assign (Operand.tmp 7), type := 3, pos := "iter.go:51", after := #[], guard := none }] false)
def ZhN : Code := (Code.block 1 (Code.region 3 #[{ dst := some 8, op := Op.load 39 (Operand.tmp 2), type := 39, pos := "iter.go:52", after := #[], guard := none }, { dst := some 9, op := Op.move (Operand.tmp 5), type := 3, pos := "iter.go:52", after := #[], guard := none }, { dst := some 10, op := Op.buildSlice 39 1 #[(0, Operand.tmp 9)], type := 39, pos := "iter.go:52", after := #[{ on := 1, ground := Ground.data }], guard := none }, { dst := some 11, op := Op.call { callee := Callee.builtin Builtin.append, args := #[Operand.tmp 8, Operand.tmp 10], argTypes := #[39, 39] }, type := 39, pos := "iter.go:52", after := #[{ on := 0, ground := Ground.data }, { on := 2, ground := Ground.data }], guard := none }, { dst := none, op := Op.store 39 (Operand.tmp 2) (Operand.tmp 11), type := 0, pos := "iter.go:52", after := #[{ on := 3, ground := Ground.data }, { on := 3, ground := Ground.chain }, { on := 0, ground := Ground.phase }, { on := 1, ground := Ground.phase }, { on := 2, ground := Ground.phase }, { on := 3, ground := Ground.phase }], guard := none }] false))
def kcApRec (fn:FuncId) (sv:Value) (Bs D:Nat) (st:LoopState) (pend:Option Code):Loop:=
 { state:=st,pending:=pend,fn,tmps:=#[.slice none 0 0,sv,.pointer (some ⟨Bs,0,none⟩),undef,.slice none 0 0,undef,sv,undef,undef,undef,undef,undef,undef],params:=#[7],assign:=Zef,body:=ZhN,defers:=D }
structure Zi8 (w0:World) (fn:FuncId) (sv:Value) (Bs l D:Nat) (ss:List Int) (W:World):Prop where
 box:∃ v,W.heap[Bs]? = some (.cells #[v] 39 (0,0))∧W.ownsRow w0.heap.size 3 1 v ss.length (ss.flatMap Zo8)∧(v = .slice none 0 0 ↔ ss = [])
 L:W.heap[l]? = some (.loop (kcApRec fn sv Bs D .ready none))
 K:W.heap[D]? = some (.deferred (some []))
 below:Below w0.heap.size w0 W
theorem Zjw (w0:World) (fn:FuncId) (sv:Value) (Bs l D B:Nat) (hB:w0.heap.size≤B):AbidesFrom B (Zi8 w0 fn sv Bs l D):=fun s W W' row h hg hrow=>by
 have hrow':∀ r,row=some r → ∃ o:Obj,W.heap[r]? = some o∧o.isWalk=true:=fun r e=>(hrow r e).2
 obtain ⟨v,hv,hr,hn⟩:=h.box
 exact ⟨⟨v,(grownBy_keeps hg hrow' hv rfl).trans hv,ownsRow_abides_a hr hg hrow',hn⟩,(grownBy_keeps hg hrow' h.L rfl).trans h.L,(grownBy_keeps hg hrow' h.K rfl).trans h.K,
   h.below.grown hg h.below.size (fun k e=>Nat.le_trans hB (hrow k e).1)⟩
set_option maxRecDepth 100000 in
set_option maxHeartbeats 2000000 in
theorem Znb (F:Fence) (m:Nat) (w0:World) (fn:FuncId) (hfn:F.fn fn) (sv:Value) (Bs l D:Nat) (hBl:Bs≠l) (hDl:D≠l) (hDB:D≠Bs) (h0B:w0.heap.size≤Bs) (h0l:w0.heap.size≤l)
   (N:Nat) (hN:N≤maxLen) (hNb:N*8≤140737488355328) (ss:List Int) (x:Int) (W:World) (h:Zi8 w0 fn sv Bs l D ss W) (hlen:ss.length<N) :
   YieldAt F m Tryz.prog l #[(.int .i64 x)] W fun e W'=>e = .returned (.bool true)∧Zi8 w0 fn sv Bs l D (ss ++ [x]) W' ∧ KeepsWalks W W':=by
 have hne:39≠3:=by decide
 obtain ⟨i0,hi,hz0,hz1,hz2⟩:=info_parts (show (Tryz.prog.info? 3).map (fun i=>(i.zero,i.size,i.bytes))=some (some (.int .i64 0),1,8) from by kernel_rfl)
 obtain ⟨v,hv,hrow,_⟩:=h.box
 refine ⟨fn,#[.slice none 0 0,sv,.pointer (some ⟨Bs,0,none⟩),undef,.slice none 0 0,undef,sv,(.int .i64 x),undef,undef,undef,undef,undef],Zef,ZhN,by simpa [kcApRec] using run_yield (P:=Tryz.prog) (args:=#[(.int .i64 x)]) h.L rfl,roundIn_of_wpIn hfn ?_⟩
 have hl:l<W.heap.size:=(Array.getElem?_eq_some_iff.1 h.L).1
 have hbr:=run_beginRound (P:=Tryz.prog) h.L rfl
 obtain ⟨W2,hW2⟩:∃ W2,W.putObj l (.loop { kcApRec fn sv Bs D .ready none with state:=.busy })=W2:=⟨_,rfl⟩
 rw [hW2] at hbr
 have hg2:W.grownBy W2 (some l):=by rw [← hW2];exact grownBy_putObj_a _ _ _
 have hk2:KeepsWalks W W2:=by rw [← hW2];exact KeepsWalks.putObj _ h.L rfl
 have hv2:W2.heap[Bs]? = some (.cells #[v] 39 (0,0)):=by rw [← hW2];exact (World.putObj_heap_other hBl).trans hv
 have hK2:W2.heap[D]? = some (.deferred (some [])):=by rw [← hW2];exact (World.putObj_heap_other hDl).trans h.K
 have hL2:W2.heap[l]? = some (.loop { kcApRec fn sv Bs D .ready none with state:=.busy }):=by rw [← hW2];exact World.putObj_heap_same hl
 have hrow2:W2.ownsRow w0.heap.size 3 1 v ss.length (ss.flatMap Zo8):=hrow.kept hg2 (ownsRow_ne_a hrow h.L (fun cur e=>by first | cases e | exact hne (Obj.cells.inj e).2.1))
 have hb2:Below w0.heap.size w0 W2:=h.below.grown hg2 h.below.size (fun k e=>by cases e;exact h0l)
 obtain ⟨hc2,hf2⟩:=cell_of_box_a hv2
 have hBlt:Bs<W2.heap.size:=(Array.getElem?_eq_some_iff.1 hv2).1
 have hl2:l<W2.heap.size:=(Array.getElem?_eq_some_iff.1 hL2).1
 have hDlt:D<W2.heap.size:=(Array.getElem?_eq_some_iff.1 hK2).1
 have ne_of:∀ {j:Nat} {o:Obj},W2.heap[j]? = some o→(∀ cur,o ≠ .cells cur 3 (0,0))→some j≠v.ownBlock:=fun hj hno=>by
   rcases ownsRow_ne_a hrow2 hj hno with e | e
   · rw [e];simp
   · exact fun e'=>e e'.symm
 clear hW2
 unfold Zef
 gi_wp2_with gi_round_op_a
 unfold ZhN
 gi_wp2_with (first
   | (gi_at_builtin;refine wpListIn_append_own _ rfl _ _ 39 rfl w0.heap.size 3 i0 (.int .i64 0) 1 8 Tryz.underlying39 hi hz0 hz1 hz2 rfl (by decide) _ _ _ rfl (hrow2.alloc _) ⟨W2.heap.size,0,none⟩ 1 1 ([.int .i64 x]) rfl rfl (Zna _ _ _) (ZoO x) (by omega) (by omega) (by have:=hb2.size;simp;omega) ?_;intro v' w3 hown' hg3 hnil3
      have hv3:w3.heap[Bs]? = some (.cells #[v] 39 (0,0)):=(hg3.block Bs (by simp;omega) (ne_of hv2 (fun cur e=>by first | cases e | exact hne (Obj.cells.inj e).2.1))).trans ((Below.heap_alloc _ _ Bs hBlt).trans hv2)
      obtain ⟨hc3,hf3⟩:=cell_of_box_a hv3
      obtain ⟨g',cap',cur',rfl,hbase',hgb',hr1,hr2,hr3,hr4⟩:∃ g' cap' cur',v' = .slice (some ⟨g',0,none⟩) (ss.length+1) cap' ∧ w0.heap.size≤g' ∧ w3.heap[g']? = some (.cells cur' 3 (0,0))∧ss.length+1≤cap' ∧ cap' ≤ maxLen∧cur'.size=cap' * 1∧cur'.toList.take ((ss.length+1)*1)=ss.flatMap Zo8 ++ [.int .i64 x]:=by
        rcases hown'.2 with ⟨_,h0⟩ | h'
        · exact absurd h0 (by omega)
        · exact h'
      go_frame)
   | gi_round_op_a)
 have hg3':(W2.alloc (.cells ([.int .i64 x]).toArray 3)).grownBy w3 v.ownBlock:=hg3
 have hL3:w3.heap[l]? = some (.loop { kcApRec fn sv Bs D .ready none with state:=.busy }):=(hg3'.block l (by simp;omega) (ne_of hL2 (fun cur e=>by first | cases e | exact hne (Obj.cells.inj e).2.1))).trans ((Below.heap_alloc _ _ l hl2).trans hL2)
 have hK3:w3.heap[D]? = some (.deferred (some [])):=(hg3'.block D (by simp;omega) (ne_of hK2 (fun cur e=>by first | cases e | exact hne (Obj.cells.inj e).2.1))).trans ((Below.heap_alloc _ _ D hDlt).trans hK2)
 obtain ⟨w4,hw4⟩:∃ w4,w3.setCell ⟨Bs,0,none⟩ (.slice (some ⟨g',0,none⟩) (ss.length+1) cap')=w4:=⟨_,rfl⟩
 rw [hw4]
 have hg4:w3.grownBy w4 (some Bs):=by rw [← hw4];exact grownBy_setCell0_a _ _ _
 have hv4:w4.heap[Bs]? = some (.cells #[.slice (some ⟨g',0,none⟩) (ss.length+1) cap'] 39 (0,0)):=by rw [← hw4];exact heap_setCell_box_a _ hv3
 have hL4:w4.heap[l]? = some (.loop { kcApRec fn sv Bs D .ready none with state:=.busy }):=(hg4.block l (Array.getElem?_eq_some_iff.1 hL3).1 (fun e=>hBl (by cases e;rfl))).trans hL3
 have hK4:w4.heap[D]? = some (.deferred (some [])):=(hg4.block D (Array.getElem?_eq_some_iff.1 hK3).1 (fun e=>hDB (by cases e;rfl))).trans hK3
 have hrow4:=hown'.kept hg4 (ownsRow_ne_a hown' hv3 (fun cur e=>by first | cases e | exact hne (Obj.cells.inj e).2.1))
 have hl4:l<w4.heap.size:=(Array.getElem?_eq_some_iff.1 hL4).1
 have hb3:Below w0.heap.size w0 w3:=(hb2.alloc hb2.size _).grown hg3' (by have:=hb2.size;simp;omega) (fun k e=>(hrow2.lt k e).1)
 have hb4:Below w0.heap.size w0 w4:=hb3.grown hg4 hb3.size (fun k e=>by cases e;exact h0B)
 have hk4:KeepsWalks W w4:=((hk2.trans (KeepsWalks.alloc _ _)).trans (KeepsWalks.of_grownBy hg3' (ownsRow_not_walk_a (hrow2.alloc _)))).trans (by rw [← hw4];exact KeepsWalks.setCell _ _ _)
 clear hw4
 refine ⟨_,_,run_endRound none hL4,rfl,⟨⟨_,(World.putObj_heap_other hBl).trans hv4,?_,by simp⟩,World.putObj_heap_same hl4,(World.putObj_heap_other hDl).trans hK4,hb4.grown (grownBy_putObj_a _ _ _) hb4.size (fun k e=>by cases e;exact h0l)⟩,hk4.trans (KeepsWalks.putObj _ hL4 rfl)⟩
 have:=hrow4.kept (grownBy_putObj_a w4 l (.loop { { kcApRec fn sv Bs D .ready none with state:=.busy } with state:=if (none:Option Code).isNone then .ready else .done,pending:=none })) (ownsRow_ne_a hrow4 hL4 (fun cur e=>by first | cases e | exact hne (Obj.cells.inj e).2.1))
 rw [List.flatMap_append,show [x].flatMap Zo8 = [.int .i64 x] from rfl,List.length_append]
 simpa using this
set_option maxRecDepth 100000 in
set_option maxHeartbeats 2000000 in
theorem Zgs (F:Fence) (n:Nat) (h11:F.fn 150) (hro:F.round=none) (hn:2≤n) (g:Nat) (lb:Array Value) (hFg:F.fn g) (eg:∀ args w,(callFunc g args).run Tryz.prog w = .ok (.enter g args) w)
   (S:List Int→Prop) (N:Nat) (hN:N≤maxLen) (hNb:N*8≤140737488355328) (w:World) (hseq:ZsS F (n - 1) Tryz.prog g lb ZsO S N w) :
   CallsIn F n Tryz.prog 150 #[.slice none 0 0,.func (.func g) #[] lb] w fun e w'=>∃ (v:Value) (ss:List Int),e = .returned v∧S ss∧w'.ownsRow w.heap.size 3 1 v ss.length (ss.flatMap Zo8)∧(v = .slice none 0 0 ↔ ss = [])∧Below w.heap.size w w':=by
 have h1:1≤n:=by omega
 have hne:39≠3:=by decide
 refine callsIn_of_wp_marks Tryz.func150 rfl h11 ?_ hro
 simp only [Tryz.ntmps150,List.size_toArray,List.length_cons,List.length_nil,Nat.reduceAdd,Nat.reduceSub,Array.replicate_succ,Array.replicate_zero,List.push_toArray,List.append_toArray,List.nil_append,List.cons_append]
 gi_wp2
 refine wpIn_rangeFunc ?_
 intro fn hfn
 rw [hro]
 obtain ⟨W0,hW0⟩:∃ W0,w.alloc (.cells #[.slice none 0 0] 39)=W0:=⟨_,rfl⟩
 have hs0:W0.heap.size=w.heap.size+1:=by rw [← hW0];simp
 have hv0:W0.heap[w.heap.size]? = some (.cells #[.slice none 0 0] 39 (0,0)):=by rw [← hW0];exact World.alloc_heap_new w _
 have hb0:Below w.heap.size w W0:=by rw [← hW0];exact (Below.refl _ w).alloc (Nat.le_refl _) _
 rw [hW0]
 obtain ⟨W1,hW1⟩:∃ W1,(W0.alloc (.deferred (some []))).alloc (.loop (kcApRec fn (.func (.func g) #[] lb) w.heap.size W0.heap.size .ready none))=W1:=⟨_,rfl⟩
 have hold:∀ k,k<W0.heap.size→W1.heap[k]? = W0.heap[k]?:=fun k hk=>by
   rw [← hW1];exact (Below.heap_alloc _ _ k (by simp;omega)).trans (Below.heap_alloc _ _ k hk)
 have hb1:Below w.heap.size w W1:=by rw [← hW1];exact (hb0.alloc hb0.size _).alloc (by have:=hb0.size;simp;omega) _
 have hs1:W1.heap.size=W0.heap.size+2:=by rw [← hW1];simp
 have hM:Zi8 w fn (.func (.func g) #[] lb) w.heap.size (W0.heap.size+1) W0.heap.size [] W1:=
   ⟨⟨_,(hold w.heap.size (by omega)).trans hv0,⟨rfl,.inl ⟨rfl,rfl⟩⟩,by simp⟩,
    by rw [← hW1];have:=World.alloc_heap_new (W0.alloc (.deferred (some []))) (.loop (kcApRec fn (.func (.func g) #[] lb) w.heap.size W0.heap.size .ready none));rwa [World.size_alloc] at this,
    by rw [← hW1];exact (Below.heap_alloc _ _ _ (by simp)).trans (World.alloc_heap_new W0 _),hb1⟩
 refine ⟨W0.heap.size+1,[{ target:=.collected W0.heap.size,args:=#[] }],W1,{ target:=.fn (.func g) lb,args:=#[.func (.yield (W0.heap.size+1)) #[] #[]] },W1,g,
   #[.func (.yield (W0.heap.size+1)) #[] #[]] ++ lb,W1,?_,?_,?_,?_,fun _=>h1,?_⟩
 · rw [← hW1];exact run_enterLoop_outer _ _ _ _ _
 · simp [resolve,go_sem]
 · intro f' hf';simp [Target.leads] at hf';subst hf';exact hFg
 · simp [invoke,go_sem,eg]
 · refine (hseq (W0.heap.size+1) (Zi8 w fn (.func (.func g) #[] lb) w.heap.size (W0.heap.size+1) W0.heap.size) W1 hb1 (Zjw _ _ _ _ _ _ _ hb1.size)
     (fun _ _ h=>h.below)
     (fun pre x W hJ hl=>Znb F (n - 1 - 1) w fn hfn _ w.heap.size (W0.heap.size+1) W0.heap.size (by omega) (by omega) (by omega) (Nat.le_refl _) (by omega) N hN hNb pre x W hJ hl) hM).mono ?_
   rintro e W2 ⟨⟨v0,rfl⟩,ss,hS,h2⟩
   obtain ⟨v,hv,hrow,hnil⟩:=h2.box
   have hend:=run_endLoop (P:=Tryz.prog) h2.L (by simp [kcApRec])
   obtain ⟨W3,hW3⟩:∃ W3,W2.putObj (W0.heap.size+1) (.loop { kcApRec fn (.func (.func g) #[] lb) w.heap.size W0.heap.size .ready none with state:=.exhausted })=W3:=⟨_,rfl⟩
   rw [hW3] at hend
   have hg3:W2.grownBy W3 (some (W0.heap.size+1)):=by rw [← hW3];exact grownBy_putObj_a _ _ _
   have hv3:W3.heap[w.heap.size]? = some (.cells #[v] 39 (0,0)):=by rw [← hW3];exact (World.putObj_heap_other (by omega)).trans hv
   have hK3:W3.heap[W0.heap.size]? = some (.deferred (some [])):=by rw [← hW3];exact (World.putObj_heap_other (by omega)).trans h2.K
   have hrow3:=hrow.kept hg3 (ownsRow_ne_a hrow h2.L (fun cur e=>by first | cases e | exact hne (Obj.cells.inj e).2.1))
   have hb3:Below w.heap.size w W3:=h2.below.grown hg3 h2.below.size (fun k e=>by cases e;omega)
   obtain ⟨hc3,hf3⟩:=cell_of_box_a hv3
   clear hW3
   refine ⟨none,W3,hend,?_⟩
   gi_wp2
   rw [← hs0]
   refine ⟨by simp,.inl ⟨_,_,rfl,run_takeDeferred hK3,?_⟩⟩
   exact ⟨_,results_tmp rfl _ _ _,v,ss,rfl,hS,hrow3.kept (grownBy_putObj_a _ _ _) (ownsRow_ne_a hrow3 hK3 (fun cur e=>by first | cases e | exact hne (Obj.cells.inj e).2.1)),hnil,hb3.grown (grownBy_putObj_a _ _ _) hb3.size (fun k e=>by cases e;omega)⟩
set_option maxHeartbeats 1000000 in
theorem Zit (F:Fence) (n:Nat) (h8:F.fn 114) (h11:F.fn 150) (hro:F.round=none) (hn:3≤n) (g:Nat) (lb:Array Value) (hFg:F.fn g) (eg:∀ args w,(callFunc g args).run Tryz.prog w = .ok (.enter g args) w)
   (S:List Int→Prop) (N:Nat) (hN:N≤maxLen) (hNb:N*8≤140737488355328) (w:World) (hseq:ZsS F (n - 1 - 1) Tryz.prog g lb ZsO S N w) :
   CallsIn F n Tryz.prog 114 #[.func (.func g) #[] lb] w fun e w'=>∃ (v:Value) (ss:List Int),e = .returned v∧S ss∧w'.ownsRow w.heap.size 3 1 v ss.length (ss.flatMap Zo8)∧(v = .slice none 0 0 ↔ ss = [])∧Below w.heap.size w w':=by
 have h1:1≤n:=by omega
 have e11:∀ args w,(callFunc 150 args).run Tryz.prog w = .ok (.enter 150 args) w:=enters_of Tryz.func150 (by kernel_rfl) rfl
 refine callsIn_of_wp Tryz.func114 rfl h8 ?_ hro
 simp only [Tryz.ntmps114,List.size_toArray,List.length_cons,List.length_nil,Nat.reduceAdd,Nat.reduceSub,Array.replicate_succ,Array.replicate_zero,List.push_toArray,List.append_toArray,List.nil_append,List.cons_append]
 gi_wp2_with (gi_at_fn 150;refine (Zgs F (n - 1) h11 hro (by omega) g lb hFg eg S N hN hNb _ hseq).mono ?_;rintro e w' ⟨v,ss,rfl,hS,hrow,hnil,hb⟩)
 go_ret
 exact ⟨v,ss,rfl,hS,hrow,hnil,hb⟩
end Go.Proofs.YtjhapicamnijnaaGreatDoor
namespace Go.Proofs.YtjhapicamnijnaaGreatDoor
open Go Go.Gm
set_option linter.unusedVariables false
set_option linter.unusedSimpArgs false
set_option maxHeartbeats 4000000
set_option maxRecDepth 8000
open Go.RowKit Go.Maps Go.Sort Go.Shelf Go.ChangeMaps Go.MapKept
theorem Zkn (xs:List Int) (hN:xs.length≤1000000000):FnG Tryz.prog 114 1 [.clos 115 [.ref [.sl rInt xs]]] [.star []] PV.one (fun v=>[Zu 3 1 rInt xs v]):=fun w F vs hw hle hvs hpr=>by
 match vs,hvs with
 | [fv],hvs=>
   obtain ⟨caps,hfv,hcaps⟩:=hvs.1
   match caps,hcaps with
   | [cu],hcaps=>
     obtain ⟨Bm,off,us,hcu,hny,hBm,hc,hus⟩:=hcaps.1
     match us,hus with
     | [sv],hus=>
       obtain ⟨ad,cap,hsv,hcap,hcm,hel⟩:=hus.1.2
       subst hsv
       subst hcu
       subst hfv
       have hst:∀ c,¬ F 1 c:=hpr 0 _ rfl
       have hm:w.cell? ⟨Bm,off,none⟩ = some (.slice ad xs.length cap):=hc.1
       have hcell:(∀ x ∈ xs,inR .i64 x) ∧ ∀ j (hj:j<xs.length),∃ b o,ad=some ⟨b,o,none⟩∧b<w.heap.size∧w.cell? ⟨b,o+j,none⟩ = some (.int .i64 xs[j]):=by
         rcases hel with rfl | ⟨b,o,vs,rfl,_,hbl,hca,hps⟩
         · exact ⟨fun x hx=>(by cases hx),fun j hj=>absurd hj (Nat.not_lt_zero j)⟩
         · obtain ⟨hve,hin⟩:=ZhX hps
           refine ⟨hin,fun j hj=>⟨b,o,rfl,hbl,?_⟩⟩
           exact hca.get j _ (by rw [hve];simp [hj])
       have hseq:ZsS Fence.wide 10 Tryz.prog 115 #[.pointer (some ⟨Bm,off,none⟩)] ZsO (fun ss=>ss=xs) xs.length w:=fun l J W hW hJ hB hY h0=>
         ZqL Fence.wide 10 trivial rfl (by omega) l Bm off cap ad w xs (by omega) hcell.2 J hB hY W ((hW.cell (p:=⟨Bm,off,none⟩) hBm).trans hm) h0
       have eg:∀ args w,(callFunc 115 args).run Tryz.prog w = .ok (.enter 115 args) w:=enters_of Tryz.func115 (by kernel_rfl) rfl
       have hcalls:=callsIn_wide.1 (Zit Fence.wide 12 trivial trivial rfl (by omega) 115 #[.pointer (some ⟨Bm,off,none⟩)] trivial eg _ _ (by unfold maxLen;omega) (by omega) w hseq)
       refine hcalls.mono ?_
       rintro e w' ⟨v,ss,rfl,rfl,hrow,hnil,hbel⟩
       have hown:∀ c,v.ownBlock=some c→w.heap.size≤c∧c<w'.heap.size:=fun c hc9=>by
         rcases hrow.2 with ⟨rfl,_⟩ | ⟨g,cap,cur,rfl,hbase,hgb,_⟩
         · simp [Value.ownBlock] at hc9
         · simp [Value.ownBlock] at hc9
           subst hc9
           exact ⟨hbase,(Array.getElem?_eq_some_iff.1 hgb).1⟩
       have hrow0:w'.ownsRow 0 3 1 v ss.length (ss.flatMap Zo8):=⟨hrow.1,by
         rcases hrow.2 with h | ⟨g,cap,cur,h1,_,h3⟩
         · exact .inl h
         · exact .inr ⟨g,cap,cur,h1,Nat.zero_le _,h3⟩⟩
       have hst2:Stp (List.range' 1 1) w F w' (fun n c=>F n c∨(n=1∧v.ownBlock=some c)):=⟨hbel.os,hbel.tape,hbel.output,hbel.size,fun c hc9 _=>hbel.block c hc9,fun n hn=>by
           funext c
           have:n≠1:=fun e=>hn (by subst e;simp)
           simp [this],fun n hn c hc9=>by
           rcases hc9 with h | ⟨_,h⟩
           · exact .inl ⟨n,hn,h⟩
           · exact .inr (hown c h).1⟩
       refine ⟨v,_,rfl,⟨fun n m c h1 h2=>?_,fun n c h1=>?_⟩,hst2,fun n c h1=>?_,?_,fun i h hi=>?_⟩
       · rcases h1 with h1 | ⟨h1,h1'⟩ <;> rcases h2 with h2 | ⟨h2,h2'⟩
         · exact hw.dis n m c h1 h2
         · have:=hw.bd n c h1;have:=(hown c h2').1;omega
         · have:=hw.bd m c h2;have:=(hown c h1').1;omega
         · omega
       · rcases h1 with h1 | ⟨_,h1⟩
         · have:=hw.bd n c h1;have:=hbel.size;omega
         · exact (hown c h1).2
       · rcases h1 with h1 | ⟨h1,_⟩
         · exact hle n c h1
         · omega
       · show v.oneCell' = true
         rcases hrow.2 with ⟨rfl,_⟩ | ⟨g,cap,cur,rfl,_⟩ <;> rfl
       · match i,hi with
         | 0,hi=>
           simp only [List.getElem?_cons_zero,Option.some.injEq] at hi
           subst hi
           refine ⟨ss.flatMap Zo8,hrow0,Zn3 hcell.1,fun c=>?_⟩
           have:=hst c
           simp [this]
end Go.Proofs.YtjhapicamnijnaaGreatDoor
namespace Go.Proofs.YtjhapicamnijnaaGreatDoor
open Go Go.Gm
set_option linter.unusedVariables false
set_option linter.unusedSimpArgs false
set_option maxHeartbeats 4000000
set_option maxRecDepth 8000
theorem ZqK (l:List Int):FnP Tryz.prog 72 [.sl rInt l] (.clos 115 [.ref [.sl rInt l]]):=by
 refine FnP.mk Tryz.func72 rfl Tryz.ntmps72 rfl ?_
 intro B a w F hB hfr hS
 refine wp_seq ?_
 refine Zc hS (qf (ZkG 101 .t one_sl) r1 qz (qC qZ)) hB [2,1] [101,0] (fun _=>rfl) (fun _=>rfl) fun τ a w F hS=>?_
 try dsimp only [RS.sub,SF.sub,CF.sub,csub,Anc.sub,List.map,zCF] at hS
 generalize τ 1=v1 at hS
 obtain ⟨F,hS⟩:=hS.giveRef 101 1 rfl rfl rfl
 obtain ⟨F,hS⟩:=hS.nm [2,1] [0] rfl rfl
 try dsimp only [Go.Gm.unCF] at hS
 refine Zb (wp_seq ?_)
 refine Za hS (qf (ZbU (Args.one .t)) r1 qz (qN rfl rfl qZ)) hB [2] [0] rfl rfl fun a w F hS=>Zb (wp_ret ?_)
 refine Zm hfr hS rfl rfl rfl .refl
theorem Znp (l:List Int) (hl:l.length≤1000000):FnP Tryz.prog 71 [.clos 115 [.ref [.sl rInt l]]] (.sl rInt (l.mergeSort leI)):=by
 refine FnP.mk Tryz.func71 rfl Tryz.ntmps71 rfl ?_
 intro B a w F hB hfr hS
 refine wp_seq ?_
 refine Za hS (qC qZ) hB [2,0] [0] rfl rfl fun a w F hS=>Zb (wp_seq ?_)
 replace hS:=hS.fresh 101 rfl
 refine Zc hS (qM rfl rfl (qf (Zbz 101 (Zkn l (by omega)) Tryz.func114 rfl (by kernel_rfl) (Args.one .t) Za3) r1 r1 (qN rfl rfl qZ))) hB [3,2] [101,0] (fun _=>rfl) (fun _=>rfl) fun τ a w F hS=>?_
 try dsimp only [RS.sub,SF.sub,CF.sub,csub,Anc.sub,List.map,rInt] at hS
 generalize τ 5=v5 at hS
 refine Zb (wp_seq ?_)
 refine Za hS (qM rfl rfl (qf (Zd1 101 (Zk1 _ l hl) Tryz.func65 rfl (by kernel_rfl) (Args.one .t)) r1 r1 qZ)) hB [3,2] [101,0] rfl rfl fun a w F hS=>Zb (wp_seq ?_)
 refine Za hS (qM rfl rfl (qN rfl rfl qZ)) hB [2] [101,0] rfl rfl fun a w F hS=>Zb (wp_ret ?_)
 obtain ⟨F,hS⟩:=hS.give 101 2 rfl rfl
 refine Zm hfr hS rfl rfl rfl (.sl rfl)
theorem Zrf (v : Value) (l : List OpD) (hll : l.length ≤ 1000000) (p : OpD → Bool) (f : FuncId) (fn : Func) (cps : List PV) (hf : Tryz.prog.funcs[f]? = some fn) (hb : fn.body.isSome = true) (hnn : (fn.name == "runtime.NumGoroutine") = false) (hw : ∀ x, FnP Tryz.prog f (.agg (rOp x) :: cps) (.bool (p x))) : FnG Tryz.prog 67 1 [.is v, .clos f cps] [Zu 53 4 rOp l v] (PV.one) (fun v => [Zu 53 4 rOp (l.filter fun x => !p x) v]) := by
 refine FnG.mk Tryz.func67 rfl Tryz.ntmps67 rfl (by kernel_rfl) ?_
 intro B F0 a w F hB hG hS
 replace hS:=hS.turn 1 rfl (r':=.ob (.val v) (Zu 53 4 rOp l)) (fun _ _ _ _ h=>h)
 refine wp_seq ?_
 refine Za hS (qC qZ) hB [4,1,0] [1,0] rfl rfl fun a w F hS=>Zb (wp_seq ?_)
 refine Za hS (qM rfl rfl (qM rfl rfl (qf (OpC.lendRow 1 [8] (oP (ZnY l p f fn cps hf hb hnn hw) Tryz.func113 (Args.two .t .t)) ⟨rfl,trivial,trivial⟩ (.pv (fun _ _ _ _ h=>h)) trivial (by rfl)) r2 r1 (qN rfl rfl qZ)))) hB [5,4,1,0] [1,0] rfl rfl fun a w F hS=>Zb (wp_seq (wp_seq ?_))
 refine Za hS (qM rfl rfl (qf (o_eql .t qi) r1 qz qZ)) hB [12,5,4,1,0] [1,0] rfl rfl fun a w F hS=>Zb ?_
 refine Zd hS rfl (fun hc0=>?_) (fun hc0=>?_)
 ·skip
  have hno:=(Zar p l).resolve_right (by rintro ⟨i,h1,_⟩;simp at hc0;omega)
  have hg:(l.filter fun x=>!p x)=l:=Zc1 hno.2
  refine wp_seq ?_
  refine Za hS (qM rfl rfl (qN rfl rfl qZ)) hB [5,4,1,0] [1,0] rfl rfl fun a w F hS=>Zb (wp_ret (Ze ?_))
  have hS:=hS.turn 1 rfl (r':=RS.hp (Zu 53 4 rOp (l.filter fun x=>!p x) v)) (fun _ _ _ _ h=>by rw [hg];exact h)
  refine ZaG (h':=fun v=>Zu 53 4 rOp (l.filter fun x=>!p x) v) hG hS rfl (.tmp rfl .nil) (.one .one) rfl
 obtain ⟨i0,hi0,hi1,hip,hib⟩:=(Zar p l).resolve_left (by rintro ⟨h1,_⟩;simp [h1] at hc0)
 have hst0:=Zeq hi1 hip hib
 refine wp_skip (Zb (wp_seq (wp_seq ?_)))
 refine Za hS (qM rfl rfl (qp r1 (qN rfl rfl qZ))) hB [6,5,4,1,0] [1,0] rfl rfl fun a w F hS=>Zb (wp_block ?_)
 have hC0:i0<i0+1∧i0+1≤l.length∧l.length=l.length∧l.take i0=(l.take (i0+1)).filter (fun x=>!p x) ∧ ∀ k,i0+1≤k→k<l.length→Go.Gm.nth l k=Go.Gm.nth l k:=⟨by omega,by omega,rfl,hst0,fun k _ _=>rfl⟩
 replace hS:=hS.ent (i:=5) (s':=.pv (.int .i64 (i0:Int))) rfl (.int hi0)
 replace hS:=hS.ent (i:=6) (s':=.pv (.int .i64 ((i0+1:Nat):Int))) rfl (.int (by rw [hi0,ZA (by omega)];omega))
 refine Zp (σ:=Nat×Nat×List OpD) [0,1,4] [0] (fun s=>[(5,.pv (.int .i64 (s.1:Int))),(6,.pv (.int .i64 (s.2.1:Int)))]) (fun s=>[(1,.ob (.val v) (Zu 53 4 rOp s.2.2))]) (fun s=>s.1<s.2.1∧s.2.1≤l.length∧s.2.2.length=l.length∧s.2.2.take s.1=(l.take s.2.1).filter (fun x=>!p x) ∧ ∀ k,s.2.1≤k→k<l.length→Go.Gm.nth s.2.2 k=Go.Gm.nth l k) (fun s=>l.length - s.2.1) ((i0),(i0+1),(l)) hS ⟨rfl,rfl,rfl,rfl,rfl,trivial⟩ ⟨rfl,rfl,trivial⟩ hC0 ?_
 clear hS;intro s a w F hC hS
 obtain ⟨i,j,l1⟩:=s
 try dsimp only at hC
 obtain ⟨F,hS⟩:=hS.nm [6,5,4,1,0] [1,0] rfl rfl
 try dsimp only at hS
 obtain ⟨hij,hj,hll1,htk,hrest⟩:=hC
 refine wp_seq (wp_seq ?_)
 refine Za hS (qM rfl rfl (qM rfl rfl (qf (ZZ 1 Tryz.underlying36 .is) r1 r1 (qL r2)))) hB [19,6,5,4,1,0] [1,0] rfl rfl fun a w F hS=>Zb ?_
 refine Zd hS rfl (fun hc1=>?_) (fun hc1=>?_)
 ·skip
  have hjl:j<l.length:=by simp at hc1;omega
  have hnj:Go.Gm.nth l1 j=(Go.Gm.nth l j):=hrest j (Nat.le_refl _) hjl
  have hfs:=Zcc (p:=fun x=>!p x) hjl
  refine wp_skip (Zb (wp_seq (wp_block (wp_seq ?_))))
  refine Zc hS (qM rfl rfl (qM rfl rfl (qf (o_indexAddr_row (sz:=4) 1 (.mk Tryz.underlying36 (by kernel_rfl)) .is .t (by omega) (by omega) (by rfl)) r2 r1 (qf (Zax (ag:=true) (sz':=4) (sz:=4) 1 .t (by intro x;rfl) (by omega) (by kernel_rfl) (by kernel_rfl) (by kernel_rfl)) r1 r1 (qf (oH [.bool false,.int .i64 0,.int .i64 0,.int .i64 0] 101) trivial qz (qS 4 101 r2 r1 qZ)))))) hB [7,6,5,4,1,0] [101,1,0] (fun _=>rfl) (fun _=>rfl) fun τ a w F hS=>?_
  try dsimp only [RS.sub,SF.sub,CF.sub,csub,Anc.sub,List.map,Zg,xL,xM,Nat.reduceAdd,xD,xE,xT,xU,xC,xN,zCF,ldSF,rOp] at hS
  generalize τ 7=v7 at hS
  try simp only [Int.toNat_natCast] at hS
  rw [hnj] at hS
  refine Zb (wp_seq ?_)
  refine Za hS (qM rfl rfl (qe 4 101 r1 r1 (qf (ZM (avs:=[.agg (rOp (Go.Gm.nth l j))]) .t (hw (Go.Gm.nth l j)) hf hb hnn (Args.one (.pagg .t))) r2 qz (qf (o_not .t) r1 qz qZ)))) hB [29,7,6,5,4,1,0] [101,1,0] rfl rfl fun a w F hS=>Zb ?_
  refine Zd hS rfl (fun hc2=>?_) (fun hc2=>?_)
  ·skip
   have hp:p (Go.Gm.nth l j)=false:=by simpa using hc2
   obtain ⟨i2,hi2e⟩:∃ i2,i2=i+1:=⟨_,rfl⟩
   have hi2:IntKind.wrap .i64 ((i:Int)+1)=(i2:Int):=by rw [hi2e];exact wrap_succ (by omega)
   obtain ⟨l2,hl2⟩:∃ l2,l2=l1.set i (Go.Gm.nth l j):=⟨_,rfl⟩
   have hC2:i2<j+1∧j+1≤l.length∧l2.length=l.length∧l2.take i2=(l.take (j+1)).filter (fun x=>!p x) ∧ ∀ k,j+1≤k→k<l.length→Go.Gm.nth l2 k=Go.Gm.nth l k:=⟨by omega,by omega,by rw [hl2,List.length_set];exact hll1,by rw [hl2,hi2e,hfs,hp,← htk,ZF (by rw [List.length_set];omega),List.take_set_of_le (Nat.le_refl _),Zn (by rw [List.length_set];omega),List.getElem_set_self];rfl,fun k hk hk2=>by rw [hl2,Zn (by rw [List.length_set];omega),List.getElem_set_ne (by omega),← Zn (by omega)];exact hrest k (by omega) hk2⟩
   refine wp_seq ?_
   refine Za hS (qM rfl rfl (qM rfl rfl (qe 4 101 r1 r1 (qf (o_indexAddr_row (sz:=4) 1 (.mk Tryz.underlying36 (by kernel_rfl)) .is .t (by omega) (by omega) (by rfl)) r2 r1 (qf (Zdl (sz:=4) 1 .t (by intro x;rfl) (by omega) (.conv .t (Ent.aggU (l:=rOp (Go.Gm.nth l j)) rfl rfl)) (by kernel_rfl)) r2 r1 qZ))))) hB [6,5,4,1,0] [1,0] rfl rfl fun a w F hS=>?_
   try simp only [Int.toNat_natCast] at hS
   rw [← hl2] at hS
   refine Zb ?_
   refine Za hS (qM rfl rfl (qp r1 (qN rfl rfl qZ))) hB [6,5,4,1,0] [1,0] rfl rfl fun a w F hS=>Zh (Zb ?_)
   refine Za hS (qM rfl rfl (qp r1 (qN rfl rfl qZ))) hB [6,5,4,1,0] [1,0] rfl rfl fun a w F hS=>Zb ?_
   have hmu:l.length - (j+1)<l.length - j:=by omega
   replace hS:=hS.ent (i:=5) (s':=.pv (.int .i64 (i2:Int))) rfl (.int hi2)
   replace hS:=hS.ent (i:=6) (s':=.pv (.int .i64 ((j+1:Nat):Int))) rfl (.int (wrap_succ (by omega)))
   obtain ⟨F,hS⟩:=hS.nm [4,1,0,6,5] [0,1] rfl rfl
   exact ⟨((i2),(j+1),(l2)),F,hC2,hS,hmu⟩
  have hp:p (Go.Gm.nth l j)=true:=by simpa using hc2
  obtain ⟨i2,hi2e⟩:∃ i2,i2=i:=⟨_,rfl⟩
  have hi2:(i:Int)=(i2:Int):=by rw [hi2e]
  obtain ⟨l2,hl2⟩:∃ l2,l2=l1:=⟨_,rfl⟩
  rw [← hl2] at hS
  have hC2:i2<j+1∧j+1≤l.length∧l2.length=l.length∧l2.take i2=(l.take (j+1)).filter (fun x=>!p x) ∧ ∀ k,j+1≤k→k<l.length→Go.Gm.nth l2 k=Go.Gm.nth l k:=⟨by omega,by omega,by rw [hl2];exact hll1,by rw [hl2,hi2e,hfs,hp,htk];simp,fun k hk hk2=>by rw [hl2];exact hrest k (by omega) hk2⟩
  refine wp_skip (Zh (Zb ?_))
  refine Za hS (qM rfl rfl (qp r1 (qN rfl rfl qZ))) hB [6,5,4,1,0] [1,0] rfl rfl fun a w F hS=>Zb ?_
  have hmu:l.length - (j+1)<l.length - j:=by omega
  replace hS:=hS.ent (i:=5) (s':=.pv (.int .i64 (i2:Int))) rfl (.int hi2)
  replace hS:=hS.ent (i:=6) (s':=.pv (.int .i64 ((j+1:Nat):Int))) rfl (.int (wrap_succ (by omega)))
  obtain ⟨F,hS⟩:=hS.nm [4,1,0,6,5] [0,1] rfl rfl
  exact ⟨((i2),(j+1),(l2)),F,hC2,hS,hmu⟩
 have hjl:j=l.length:=by simp at hc1;omega
 have hil2:i<l.length:=by omega
 have hg:(l.filter fun x=>!p x)=(l1.take i++List.replicate (l1.length - i) (⟨false,0,0,0⟩:OpD)).take i:=by rw [List.take_append_of_le_length (by rw [List.length_take];omega),List.take_take,Nat.min_self,htk,hjl,List.take_length]
 refine wp_exit (Zi (Zi (Zl (Zb (wp_seq ?_)))))
 refine Za hS (qM rfl rfl (qM rfl rfl (qf (Zat (sz:=4) 1 (.mk Tryz.underlying36 (by kernel_rfl)) .is .t (by omega) (by omega)) r2 r1 (qf (Zb9 (R:=rOp) (z:=(⟨false,0,0,0⟩:OpD)) (zs:=[.bool false,.int .i64 0,.int .i64 0,.int .i64 0]) 1 Tryz.underlying36 (by kernel_rfl) rfl rfl (fun _ _=>⟨⟨rfl,rfl⟩,⟨rfl,rfl,Zjt⟩,⟨rfl,rfl,Zjt⟩,⟨rfl,rfl,Zjt⟩,trivial⟩) (by intro x;rfl) .t (by simp;omega)) r1 r1 qZ)))) hB [5,4,0] [1,0] rfl rfl fun a w F hS=>Zb (wp_seq ?_)
 refine Zc hS (qM rfl rfl (qM rfl rfl (qf (ZbY (sz:=4) 1 (.mk Tryz.underlying36 (by kernel_rfl)) (by intro x;rfl) .is .t (by omega) (by simp;omega)) r2 r1 (qN rfl rfl qZ)))) hB [4] [1,0] (fun _=>rfl) (fun _=>rfl) fun τ a w F hS=>?_
 try dsimp only [RS.sub,SF.sub,CF.sub,csub,Anc.sub,List.map,rOp] at hS
 generalize τ 41=v41 at hS
 refine Zb (wp_ret ?_)
 have hS:=hS.turn 1 rfl (r':=RS.hp (Zu 53 4 rOp (l.filter fun x=>!p x) v41)) (fun _ _ _ _ h=>by rw [hg];exact h)
 refine ZaG (h':=fun v=>Zu 53 4 rOp (l.filter fun x=>!p x) v) hG hS rfl (.tmp rfl .nil) (.one .one) rfl
theorem ZqS (o:OpD):FnP Tryz.prog 68 [.agg (rOp o)] (.bool o.read):=by
 refine FnP.mk Tryz.func68 rfl Tryz.ntmps68 rfl ?_
 intro B a w F hB hfr hS
 refine wp_seq ?_
 refine Zc hS (qx 101 r1 qB) hB [2,1] [101,0] (fun _=>rfl) (fun _=>rfl) fun τ a w F hS=>?_
 try dsimp only [RS.sub,SF.sub,CF.sub,csub,Anc.sub,List.map,zCF,rOp] at hS
 generalize τ 1=v1 at hS
 refine Zb (wp_seq ?_)
 refine Za hS (qg 0 101 r1 r1 (qa 101 r1 r1 (qN rfl rfl qZ))) hB [2] [0] rfl rfl fun a w F hS=>Zb (wp_ret ?_)
 refine Zm hfr hS rfl rfl rfl .refl
theorem Zps (t:TxD) (hl:t.ops.length≤1000000):FnP Tryz.prog 27 [.agg (rTx t)] (.agg (rTx (bareT t))):=by
 refine FnP.mk Tryz.func27 rfl Tryz.ntmps27 rfl ?_
 intro B a w F hB hfr hS
 refine wp_seq ?_
 refine Zc hS (qx 101 r1 (qf (oH [.int .i64 0,.bool false,.slice none 0 0] 102) trivial qz qZ)) hB [2,1] [102,101,0] (fun _=>rfl) (fun _=>rfl) fun τ a w F hS=>?_
 try dsimp only [RS.sub,SF.sub,CF.sub,csub,Anc.sub,List.map,zCF,rTx,rInt] at hS
 generalize τ 1=v1 at hS
 generalize τ 2=v2 at hS
 refine Zb (wp_seq ?_)
 replace hS:=hS.fresh 103 rfl
 refine Zc hS (qg 2 101 r1 r1 (qa 101 r1 r1 (qf (Zbz 103 (ZhJ t.ops hl) Tryz.func29 rfl (by kernel_rfl) (Args.one .t) Za3) r1 r1 (qf (ZkX 5 103 (fun v=>Zrf _ t.ops hl (fun o=>o.read) 68 Tryz.f68 [] Tryz.func68 rfl (by kernel_rfl) (fun o=>ZqS o)) Tryz.func67 rfl (by kernel_rfl) (Zhr.two .same (.of (.conv .f (Ent.fnClos)))) Za3) r1 r1 (qg 2 101 r1 r1 (qf (Zaz 101 .adr (by kernel_rfl) (by kernel_rfl)) r2 r1 qZ)))))) hB [2,1] [103,102,101,0] (fun _=>rfl) (fun _=>rfl) fun τ a w F hS=>?_
 try dsimp only [RS.sub,SF.sub,CF.sub,csub,Anc.sub,List.map,Zg,xL,xM,Nat.reduceAdd,xD,xE,xT,xU,xC,xN,zCF,ldSF,rTx,rInt] at hS
 generalize τ 6=v6 at hS
 obtain ⟨F,hS⟩:=hS.giveCell 103 101 2 rfl rfl rfl rfl rfl
 try dsimp only [List.set] at hS
 obtain ⟨F,hS⟩:=hS.nm [2,1] [102,101,0] rfl rfl
 refine Zb (wp_seq ?_)
 refine Za hS (qe 3 101 r1 r1 (qs 3 102 r2 r1 qZ)) hB [2] [102,101,0] rfl rfl fun a w F hS=>Zb (wp_ret ?_)
 refine Zr hfr hS rfl (.cl 102 true 3 rfl rfl .nil) (.one (.aggU rfl rfl))
end Go.Proofs.YtjhapicamnijnaaGreatDoor
