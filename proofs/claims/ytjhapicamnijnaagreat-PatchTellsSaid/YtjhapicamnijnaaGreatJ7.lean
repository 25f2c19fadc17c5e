/- Texts put together. No condition beyond those that each theorem says. -/
import Derived.Test.YtjhapicamnijnaaGreatJ6
import Derived.Test.YtjhapicamnijnaaGreatLibI
import Derived.Test.YtjhapicamnijnaaGreatLibE
import Derived.Test.YtjhapicamnijnaaGreatJ0
import Derived.Test.YtjhapicamnijnaaGreatLibL
import Derived.Shelf.SlIter.Collect
import Derived.Test.YtjhapicamnijnaaGreatJ1
import Derived.Test.YtjhapicamnijnaaGreatJ3
import Derived.Test.YtjhapicamnijnaaGreatJ4
import Derived.Test.YtjhapicamnijnaaGreatJ2
namespace Go.Proofs.YtjhapicamnijnaaGreat
open Go Go.Gm
set_option linter.unusedVariables false
set_option linter.unusedSimpArgs false
set_option maxHeartbeats 4000000
set_option maxRecDepth 8000
inductive ZO where
 | none
 | away (t:TxD)
 | plain (t:TxD) (b:Bool)
 | whole (t:TxD)
 deriving Inhabited
def Zu:ZO→PV
 | .none=>.is .nilIface
 | .away t=>.ifc 108 (.agg (rTx t))
 | .plain t b=>.ifc 106 (.agg [.int .i64 t.id,.bool t.done,.sl rOp t.ops,.bool b])
 | .whole t=>.ifc 109 (.agg (rTx t))
def ZC (s:ZO):List PV:=[Zu s]
def Zaj (l:List ZO):List PV:=[.sl ZC l]
structure Z1 where
 t:TxD
 there:Bool
 just:Bool
 reads:Bool
 deriving Inhabited
def ZH (s:Z1):List PV:=[.int .i64 s.t.id,.bool s.t.done,.sl rOp s.t.ops,.bool s.there,.bool s.just,.bool s.reads]
def Zb5 (o:Zn) (t:TxD):Bool:=(Zas o.txs t.id).isSome
def Za1 (o:Zn) (t:TxD):Bool:=(Zas o.txs t.id).isSome && decide (t=(Zas o.txs t.id).getD zeroT)
def Zb1 (o:Zn) (t:TxD):Z1:=⟨t,Zb5 o t,Za1 o t,Za5 t⟩
def Zp (h o:Zn):List Z1:=h.txs.map (Zb1 o)
def Zcp (l:List Z1):List ZO:=(l.filter fun s=>!s.just && s.reads).map fun s=>.plain s.t true
def ZdV (l:List Z1):List ZO:=(l.filter fun s=>!s.there).map fun s=>.away s.t
def Zee (l:List Z1):List ZO:=(l.filter fun s=>!s.just && s.there).map fun s=>.plain s.t true
def Zei (l:List Z1):List ZO:=(l.filter fun s=>!s.just && !s.there).map fun s=>.plain s.t false
def ZdF (l:List Z1):List ZO:=(l.filter fun s=>!s.just && s.reads).map fun s=>.whole s.t
def Zao (a b:Zn):List (List ZO):=[Zcp (Zp a b),ZdV (Zp a b),Zee (Zp b a),Zei (Zp b a),ZdF (Zp b a)]
def Zeu (t:TxD):CmdD:={zeroC 3 with id:=t.id}
def Zb6:ZO→CmdD
 | .none=>zeroC 0
 | .away t=>Zeu t
 | .plain t b=>if b=true then ZbV (bareT t) else Zem t
 | .whole t=>ZbV t
def ZI (a b:Zn):List CmdD:=
 ((((a.txs.filter fun t=>!Za1 b t && Za5 t).map fun t=>ZbV (bareT t))++((a.txs.filter fun t=>!Zb5 b t).map Zeu))++((b.txs.filter fun t=>Zb5 a t && !Za1 a t).map fun t=>ZbV (bareT t)))++((b.txs.filter fun t=>!Zb5 a t).map Zem)++((b.txs.filter fun t=>!Za1 a t && Za5 t).map ZbV)
theorem Zkg {β:Type} (o:Zn) (f:Z1→Bool) (m:Z1→β) (l:List TxD):((l.map (Zb1 o)).filter f).map m=(l.filter fun t=>f (Zb1 o t)).map fun t=>m (Zb1 o t):=by rw [List.filter_map,List.map_map];rfl
theorem ZjO {o:Zn} {t:TxD} : (!Za1 o t && !Zb5 o t) = !Zb5 o t:=by
 unfold Za1 Zb5
 cases (Zas o.txs t.id).isSome <;> simp
theorem ZeL (a b:Zn):(Zao a b).flatten.map Zb6=ZI a b:=by
 unfold Zao ZI Zcp ZdV Zee Zei ZdF Zp
 simp only [List.flatten_cons,List.flatten_nil,List.append_nil,List.map_append,List.map_map,Zkg]
 have e1:∀ t:TxD,(!(Zb1 a t).just && !(Zb1 a t).there) = !Zb5 a t:=fun t=>ZjO
 have e2:∀ t:TxD,(!(Zb1 a t).just && (Zb1 a t).there)=(Zb5 a t && !Za1 a t):=fun t=>Bool.and_comm _ _
 simp only [e1,e2,List.append_assoc]
 rfl
theorem Zjw {a b:Zn} {s:ZO} (h:s ∈ (Zao a b).flatten):s ≠ .none:=by
 unfold Zao Zcp ZdV Zee Zei ZdF at h
 simp only [List.flatten_cons,List.flatten_nil,List.append_nil,List.mem_append,List.mem_map] at h
 rcases h with ⟨_,_,rfl⟩ | ⟨_,_,rfl⟩ | ⟨_,_,rfl⟩ | ⟨_,_,rfl⟩ | ⟨_,_,rfl⟩ <;> (intro h;cases h)
theorem Zad {α β:Type} (f:α→Bool) (m:α→β) (l:List α):((l.filter f).map m).length≤l.length:=by
 rw [List.length_map];exact List.length_filter_le _ _
theorem Zc7 (a b:Zn):(Zao a b).flatten.length≤2*a.txs.length+3*b.txs.length:=by
 unfold Zao Zcp ZdV Zee Zei ZdF Zp
 simp only [List.flatten_cons,List.flatten_nil,List.append_nil,List.length_append]
 have h1:=fun (f:Z1→Bool) (m:Z1→ZO)=>Zad f m (a.txs.map (Zb1 b))
 have h2:=fun (f:Z1→Bool) (m:Z1→ZO)=>Zad f m (b.txs.map (Zb1 a))
 simp only [List.length_map] at h1 h2 ⊢
 have a1:=h1 (fun s=>!s.just && s.reads) (fun s=>.plain s.t true)
 have a2:=h1 (fun s=>!s.there) (fun s=>.away s.t)
 have a3:=h2 (fun s=>!s.just && s.there) (fun s=>.plain s.t true)
 have a4:=h2 (fun s=>!s.just && !s.there) (fun s=>.plain s.t false)
 have a5:=h2 (fun s=>!s.just && s.reads) (fun s=>.whole s.t)
 omega
theorem ZjU (a b:Zn):(ZI a b).length≤2*a.txs.length+3*b.txs.length:=by
 rw [← ZeL,List.length_map];exact Zc7 a b
theorem Zhv {a b:Zn} (ha:∀ t ∈ a.txs,t.ops.length≤24) (hb:∀ t ∈ b.txs,t.ops.length≤24):∀ c ∈ ZI a b,Zac c:=fun c hc=>by
 have hbare:∀ t:TxD,t.ops.length≤24→(bareT t).ops.length≤24:=fun t h=>Nat.le_trans (List.length_filter_le _ _) h
 unfold ZI at hc
 simp only [List.mem_append,List.mem_map,List.mem_filter] at hc
 rcases hc with (((⟨t,ht,rfl⟩ | ⟨t,ht,rfl⟩) | ⟨t,ht,rfl⟩) | ⟨t,ht,rfl⟩) | ⟨t,ht,rfl⟩
 · exact ⟨hbare t (ha t ht.1),Nat.zero_le _⟩
 · exact ⟨Nat.zero_le _,Nat.zero_le _⟩
 · exact ⟨hbare t (hb t ht.1),Nat.zero_le _⟩
 · exact ⟨hbare t (hb t ht.1),Nat.zero_le _⟩
 · exact ⟨hb t ht.1,Nat.zero_le _⟩
def ZcJ (n:Nat) (g:Zn):Prop:=ZaK g∧g.txs.length≤n ∧ ∀ t ∈ g.txs,t.ops.length≤24
theorem ZjK {g:Zn} {c:CmdD} (h:¬ (Z0 g c).2≠0):Zx g:=by
 refine Classical.byContradiction fun hr=>h ?_
 unfold Z0
 have m:∀ t there wanted,mayH g t there wanted=(0,5):=fun t there wanted=>Znd hr
 split
 · unfold Z6;rw [m,if_pos (show ((0:Int),(5:Int)).2≠0 by decide)];decide
 · split
   · unfold Zar;rw [m,if_pos (show ((0:Int),(5:Int)).2≠0 by decide)];decide
   · split
     · unfold ZY;rw [if_pos hr];decide
     · split
       · unfold ZaD;rw [ZhR hr];decide
       · split
         · unfold ZdS;rw [ZhR hr];decide
         · decide
theorem Fit.small160 {n:Nat} {g:Zn} (h:Fit n g) (hn:n≤166):ZaK g:=by
 obtain ⟨⟨h1,h2⟩,h3,h4⟩:=h
 exact ⟨⟨by omega,fun t ht=>by have:=h2 t ht;omega⟩,by omega,fun o ho=>by have:=h4 o ho;omega⟩
theorem Zj8.edit2 {n:Nat} {g:Zn} {c:CmdD} (h:Zj8 n g) (hn:n≤165) (hc:Zac c) (h0:¬ (Z0 g c).2≠0):Zj8 (n+1) (Z0 g c).1:=by
 have h0:=Decidable.not_not.1 h0
 have e:=Zks h0
 rw [e] at h0 ⊢
 have hf:=h.fit.doH (Zht hc)
 exact ⟨ZiJ (h.fit.small160 (by omega)) h0,hf.1.1,hf.1.2⟩
theorem ZcJ.edit {n:Nat} {g:Zn} {c:CmdD} (h:ZcJ n g) (hn:n≤165) (hc:Zac c) (h0:¬ (Z0 g c).2≠0):ZcJ (n+1) (Z0 g c).1:=by
 have hf:Zj8 (n+1) (Z0 g c).1:=Zj8.edit2 ⟨ZjK h0,h.2⟩ hn hc h0
 exact ⟨hf.fit.small160 (by omega),hf.2⟩
theorem ZcJ.none {n:Nat} : ZcJ n zeroH:=⟨⟨⟨by simp [zeroH],fun t ht=>by cases ht⟩,by simp [zeroH],fun o ho=>by cases ho⟩,by simp [zeroH],fun t ht=>by cases ht⟩
theorem ZcJ.play:∀ (l:List CmdD) {n i:Nat} {g:Zn},ZcJ n g→n+l.length≤166→(∀ c ∈ l,Zac c)→ZaK (ZQ g l i).1
 | [],n,i,g,h,_,_=>h.1
 | c :: l,n,i,g,h,hn,hl=>by
   rw [List.length_cons] at hn
   unfold ZQ
   by_cases h0:(Z0 g c).2≠0
   · rw [if_pos h0];exact (ZcJ.none (n:=0)).1
   · rw [if_neg h0];exact ZcJ.play l (h.edit (by omega) (hl c (by simp)) h0) (by omega) fun x hx=>hl x (by simp [hx])
def mvC (h:Zn) (o:OrdD):List CmdD:=(Zae (getO h.orders o.key) o.txs).1.map (Zn7 o.key)
def Zdy (a b:Zn):List CmdD×Int:=if ¬ Zx a∨¬ Zx b then ([],5) else (ZI a b++b.orders.flatMap (mvC (ZQ a (ZI a b) 0).1),0)
theorem Znb (h:Zn) (o:OrdD):(mvC h o).length≤o.txs.length:=by unfold mvC;rw [List.length_map];exact Zc8 _ _
theorem Zkw {h:Zn} {os:List OrdD} (hs:Za3 os) (i:Nat):((os.take i).flatMap (mvC h)).length≤1000*i:=by
 induction i with
 | zero=>simp
 | succ i ih=>
   by_cases hi:i<os.length
   · rw [Zt hi,List.flatMap_append,List.length_append]
     have h1:=Znb h (Go.Gm.nth os i)
     have h2:=hs.at hi
     simp only [List.flatMap_cons,List.flatMap_nil,List.append_nil]
     omega
   · rw [List.take_of_length_le (by omega)]
     rw [List.take_of_length_le (by omega)] at ih
     omega
def ZhV (l:List (List ZO)):Nat:=(l.map List.length).sum
theorem Zdc {l:List (List ZO)} {i:Nat} (hi:i<l.length):ZhV (l.take (i+1))=ZhV (l.take i)+(Go.Gm.nth l i).length:=by unfold ZhV;rw [Zt hi,List.map_append,List.sum_append];simp
theorem Zda:∀ l:List (List ZO),ZhV l=l.flatten.length
 | []=>rfl
 | x :: l=>by unfold ZhV;rw [List.map_cons,List.sum_cons,List.flatten_cons,List.length_append];have:=Zda l;unfold ZhV at this;omega
theorem Zfb (l:List (List ZO)) (i:Nat):ZhV (l.take i)≤l.flatten.length:=by
 have h:ZhV l=ZhV (l.take i)+ZhV (l.drop i):=by
   unfold ZhV
   rw [← List.sum_append,← List.map_append,List.take_append_drop]
 have:=Zda l
 omega
theorem ZjY {l:List (List ZO)} {i:Nat} (hi:i<l.length):(l.take (i+1)).flatten=(l.take i).flatten++Go.Gm.nth l i:=by rw [Zt hi,List.flatten_append];simp
def fA (a b:Zn):List CmdD:=(a.txs.filter fun t=>!Za1 b t && Za5 t).map fun t=>ZbV (bareT t)
def fB (a b:Zn):List CmdD:=(a.txs.filter fun t=>!Zb5 b t).map Zeu
def fC (a b:Zn):List CmdD:=(b.txs.filter fun t=>Zb5 a t && !Za1 a t).map fun t=>ZbV (bareT t)
def fD (a b:Zn):List CmdD:=(b.txs.filter fun t=>!Zb5 a t).map Zem
theorem Zhb {α β:Type} [Inhabited α] {f:α→Bool} {m:α→β} {l:List α} {i:Nat} {p out:List β} (hq:out=p++((l.take i).filter f).map m) (hi:i<l.length) (hf:f (Go.Gm.nth l i)=true):out ++ [m (Go.Gm.nth l i)] = p++((l.take (i+1)).filter f).map m:=by rw [ZbC hi true hf,hq,List.append_assoc];rfl
theorem Zko {α β:Type} [Inhabited α] {f:α→Bool} {m:α→β} {l:List α} {i:Nat} {p out:List β} (hq:out=p++((l.take i).filter f).map m) (hi:i<l.length) (hf:f (Go.Gm.nth l i)=false):out=p++((l.take (i+1)).filter f).map m:=by rw [ZbC hi false hf,hq];simp
theorem Zhi {α β:Type} {f:α→Bool} {m:α→β} {l:List α} {i:Nat} {p out:List β} (hq:out=p++((l.take i).filter f).map m):out.length≤p.length+i:=by
 rw [hq,List.length_append]
 have:=Zad f m (l.take i)
 rw [List.length_take] at this
 omega
theorem Zk2 {a b:Zn} {n:Nat} (ha:∀ t ∈ a.txs,t.ops.length≤n) (hb:∀ t ∈ b.txs,t.ops.length≤n) {s:ZO} (h:s ∈ (Zao a b).flatten):(match s with | .none=>[] | .away t=>t.ops | .plain t _=>t.ops | .whole t=>t.ops).length≤n:=by
 unfold Zao Zcp ZdV Zee Zei ZdF Zp at h
 simp only [List.flatten_cons,List.flatten_nil,List.append_nil,List.mem_append,List.mem_map,List.mem_filter] at h
 rcases h with ⟨_,⟨⟨t,ht,rfl⟩,_⟩,rfl⟩ | ⟨_,⟨⟨t,ht,rfl⟩,_⟩,rfl⟩ | ⟨_,⟨⟨t,ht,rfl⟩,_⟩,rfl⟩ | ⟨_,⟨⟨t,ht,rfl⟩,_⟩,rfl⟩ | ⟨_,⟨⟨t,ht,rfl⟩,_⟩,rfl⟩
 · exact ha t ht
 · exact ha t ht
 · exact hb t ht
 · exact hb t ht
 · exact hb t ht
theorem Za2 {a b:Zn} (h:¬ Zx a∨¬ Zx b):Zdy a b=([],5):=if_pos h
theorem Za4 {a b:Zn} (h:¬ (¬ Zx a∨¬ Zx b)):Zdy a b=(ZI a b++b.orders.flatMap (mvC (ZQ a (ZI a b) 0).1),0):=if_neg h
theorem ZiF {h:Zn} {os:List OrdD} {i:Nat} {p out:List CmdD} (hq:out=p++(os.take i).flatMap (mvC h)) (hi:i<os.length):out++mvC h (Go.Gm.nth os i)=p++(os.take (i+1)).flatMap (mvC h):=by
 rw [hq,Zt hi,List.flatMap_append,List.append_assoc];simp
theorem ZcJ.light {g:Zn} (h:ZaK g) (h1:g.txs.length≤12) (h2:∀ j,j<g.txs.length→(Go.Gm.nth g.txs j).ops.length≤24):ZcJ 12 g:=⟨h,h1,fun t ht=>by
 obtain ⟨j,hj,e⟩:=List.getElem_of_mem ht
 have:=h2 j hj
 rwa [Zz hj,e] at this⟩
theorem ZcJ.first {n:Nat} {a b:Zn} (ha:ZcJ n a) (hb:ZcJ n b) (hn:n≤27):n+(ZI a b).length≤166∧(∀ c ∈ ZI a b,Zac c)∧ZaK (ZQ a (ZI a b) 0).1:=by
 have h1:=ZjU a b
 have h2:=ha.2.1
 have h3:=hb.2.1
 have h4:∀ c ∈ ZI a b,Zac c:=Zhv ha.2.2 hb.2.2
 exact ⟨by omega,h4,ZcJ.play _ ha (by omega) h4⟩
theorem ZnP (n:Int) (hn:0≤n∧n≤1000000):FnG Tryz.prog 144 1 [.is (.slice none 0 0),.int .i64 n] [.star []] (PV.one) (fun v=>[Zw 63 1 ZC ([]:List ZO) v]):=by
 refine FnG.mk Tryz.func144 rfl Tryz.ntmps144 rfl (by kernel_rfl) ?_
 intro B F0 a w F hB hG hS
 obtain ⟨F,hS⟩:=hS.nm [1,0] [0] rfl rfl
 replace hS:=hS.fresh 50 rfl
 replace hS:=hS.turn 50 rfl (Zaf (T:=63) (sz:=1) (R:=ZC))
 refine wp_seq ?_
 refine Zb hS (qC qZ) hB [4,1,0] [50,0] rfl rfl fun a w F hS=>Za (wp_seq (wp_seq ?_))
 refine Zb hS (qM rfl rfl (qf (Zb3 .t qi) r1 qz qZ)) hB [6,4,1,0] [50,0] rfl rfl fun a w F hS=>Za ?_
 refine Zd hS rfl (fun hc0=>?_) (fun hc0=>?_)
 ·skip
  simp at hc0;omega
 refine wp_skip (Za (wp_seq (wp_seq ?_)))
 refine Zb hS (qM rfl rfl (qM rfl rfl (qf (Zhh Tryz.underlying60 .t) r1 qz (qM rfl rfl (qf (Z4 50 Tryz.underlying60 .is) r1 r1 (qf (o_sub .t .t) r2 qz (qf (o_sub .t .t) r2 qz (qN rfl rfl qZ)))))))) hB [4,1,0] [50,0] rfl rfl fun a w F hS=>?_
 replace hS:=hS.ent (i:=1) (s':=.pv (.int .i64 n)) rfl (.int (by simp only [List.length_nil,Int.natCast_zero,Int.sub_zero];rw [show IntKind.wrap .i64 0=0 by decide,Int.sub_zero];exact ZP (by omega)))
 obtain ⟨F,hS⟩:=hS.nm [4,1,0] [50,0] rfl rfl
 refine Za (wp_seq ?_)
 refine Zb hS (qM rfl rfl (qf (ZaR .t qi) r1 qz qZ)) hB [16,4,1,0] [50,0] rfl rfl fun a w F hS=>Za ?_
 refine Zd hS rfl (fun hc1=>?_) (fun hc1=>?_)
 ·skip
  have hn0:0<n:=by simpa using hc1
  have hg:([]:List ZO) = []:=rfl
  refine Zc hS (qM rfl rfl (qM rfl rfl (qf (Zhh Tryz.underlying60 .t) r1 qz (qf (Zcx (sz:=1) 50 (.mk Tryz.underlying60 (by kernel_rfl)) .is .t (by omega) (by simp)) r2 r1 (qM rfl rfl (qf (ZbG (R:=ZC) (z:=ZO.none) (bs:=16) (sz:=1) (zs:=[.nilIface]) 50 101 Tryz.underlying60 Tryz.underlying3 (by kernel_rfl) (by kernel_rfl) (by kernel_rfl) (by intro x;rfl) (fun _ _=>⟨⟨rfl,rfl,rfl⟩,trivial⟩) .t .t (Nat.le_refl 0) (by show 0<0+n.toNat;omega) hn0 (by show (0+n.toNat)*16≤_;omega) (by show 0+n.toNat≤_;omega)) ⟨rfl,rfl,trivial⟩ ⟨rfl,trivial⟩ (qM rfl rfl (qf (Z4 50 Tryz.underlying60 .is) r1 r1 (qf (Zch (sz:=1) 101 (.mk Tryz.underlying60 (by kernel_rfl)) (by intro x;rfl) .same .t (by omega) (by simp;omega)) r2 r1 (qN rfl rfl qZ)))))))))) hB [4,0] [101,50,0] (fun _=>rfl) (fun _=>rfl) fun τ a w F hS=>?_
  try dsimp only [RS.sub,SF.sub,CF.sub,csub,Anc.sub,List.map,xC,xN,Zj,rTx,Zs,Zv,rInt,rOp,rCmd,ZC,Zaj,ZH,Zu] at hS
  generalize τ 25=v25 at hS
  refine Za (wp_seq ?_)
  refine Zb hS (qM rfl rfl (qN rfl rfl qZ)) hB [4] [101,50,0] rfl rfl fun a w F hS=>Za (wp_ret ?_)
  obtain ⟨F,hS⟩:=hS.rename 101 1 rfl rfl
  have hS:=hS.turn 1 rfl (r':=RS.hp (Zw 63 1 ZC ([]:List ZO) v25)) (fun _ _ _ _ h=>by rw [hg];exact h)
  refine Zat (h':=fun v=>Zw 63 1 ZC ([]:List ZO) v) hG hS rfl (.tmp rfl .nil) (.one .one) rfl
 have hg:([]:List ZO) = []:=rfl
 refine wp_skip (Za (wp_seq ?_))
 refine Zb hS (qM rfl rfl (qN rfl rfl qZ)) hB [4] [50,0] rfl rfl fun a w F hS=>Za (wp_ret ?_)
 have hS:=hS.fresh 1 rfl
 have hS:=hS.turn 1 rfl (Zaf (T:=63) (sz:=1) (R:=ZC))
 have hS:=hS.turn 1 rfl (r':=RS.hp (Zw 63 1 ZC ([]:List ZO) (.slice none 0 0))) (fun _ _ _ _ h=>by rw [hg];exact h)
 refine Zat (h':=fun v=>Zw 63 1 ZC ([]:List ZO) v) hG hS rfl (.tmp rfl .nil) (.one .one) rfl
theorem Zmw (ls:List (List ZO)) (hl:ls.flatten.length≤100000) (hn:ls.length≤1000):FnP Tryz.prog 80 [.sl Zaj ls] (.sl ZC ls.flatten):=by
 refine FnP.mk Tryz.func80 rfl Tryz.ntmps80 rfl ?_
 intro B a w F hB hfr hS
 refine wp_seq ?_
 refine Zb hS (qC qZ) hB [2,0] [0] rfl rfl fun a w F hS=>Za (wp_seq ?_)
 refine Zb hS (qI qZ) hB [3,2,0] [0] rfl rfl fun a w F hS=>Za (wp_seq (wp_seq ?_))
 refine Zb hS (qM rfl rfl (qu Tryz.underlying171 r1 (qJ qZ))) hB [11,10,9,3,2,0] [0] rfl rfl fun a w F hS=>Za (wp_block ?_)
 refine Zl (σ:=(Nat)) [0,2,9,10] [0] (fun s=>[(11,.pv (.int .i64 (s:Int))),(3,.pv (.int .i64 ((ZhV (ls.take s):Nat):Int)))]) (fun s=>[]) (fun s=>s≤ls.length∧(True)) (fun s=>ls.length - s) (0) hS ⟨rfl,rfl,rfl,rfl,rfl,rfl,trivial⟩ ⟨rfl,trivial⟩ ⟨Nat.zero_le _,trivial⟩ ?_
 clear hS;intro i a w F hC hS
 try dsimp only at hC
 obtain ⟨F,hS⟩:=hS.nm [11,10,9,3,2,0] [0] rfl rfl
 try dsimp only at hS
 obtain ⟨hi,hq⟩:=hC
 have hll:=Zfb ls i
 refine wp_seq ?_
 refine Zb hS (qL r2) hB [12,11,10,9,3,2,0] [0] rfl rfl fun a w F hS=>Za (wp_seq ?_)
 refine Zd hS rfl (fun hc0=>?_) (fun hc0=>?_)
 ·skip
  have hil:i<ls.length:=by simp at hc0;omega
  have hio:=hil
  have hls1:=Zfb ls (i+1)
  rw [Zdc hio] at hls1
  refine wp_skip (Za (wp_seq (wp_block (wp_seq ?_))))
  refine Zb hS (qy 1 Tryz.underlying171 r2 (qf (oR false 1 .t) r1 qz (qN rfl rfl qZ))) hB [11,10,9,5,3,2,0] [0] rfl rfl fun a w F hS=>?_
  try simp only [Int.toNat_natCast] at hS
  refine Za (wp_seq ?_)
  refine Zb hS (qM rfl rfl (qM rfl rfl (qu Tryz.underlying60 r1 (qf (ZcM .t .t) r2 qz (qN rfl rfl qZ))))) hB [11,10,9,3,2,0] [0] rfl rfl fun a w F hS=>Za (wp_seq ?_)
  refine Zb hS (qM rfl rfl (qf (Zb3 .t qi) r1 qz qZ)) hB [20,11,10,9,3,2,0] [0] rfl rfl fun a w F hS=>Za ?_
  refine Zd hS rfl (fun hc1=>?_) (fun hc1=>?_)
  ·skip
   have hls:=Zfb ls (i+1)
   rw [Zdc hio] at hls
   have hw9:IntKind.wrap .i64 ((ZhV (ls.take i):Int)+((Go.Gm.nth ls i).length:Int))=(ZhV (ls.take i):Int)+((Go.Gm.nth ls i).length:Int):=ZP (by omega)
   rw [hw9] at hc1
   simp at hc1
   omega
  refine wp_skip (Zi (Za ?_))
  refine Zb hS (qp r1 (qM rfl rfl qZ)) hB [11,10,9,3,2,0] [0] rfl rfl fun a w F hS=>Za ?_
  replace hS:=hS.ent (i:=11) (s':=.pv (.int .i64 ((i+1:Nat):Int))) rfl (.int (Ze (by omega)))
  replace hS:=hS.ent (i:=3) (s':=.pv (.int .i64 ((ZhV (ls.take (i+1)):Nat):Int))) rfl (.int (by rw [Zdc hio,ZP (by omega)];omega))
  obtain ⟨F,hS⟩:=hS.nm [10,9,2,0,3,11] [0] rfl rfl
  exact ⟨(i+1),F,⟨by omega,trivial⟩,hS,by omega⟩
 have hil:i=ls.length:=by simp at hc0;omega
 refine wp_exit (Zk (Zk (Zq (Za (wp_seq ?_)))))
 replace hS:=hS.fresh 101 rfl
 refine Zc hS (qM rfl rfl (qf (ZaM 101 (ZnP ((ZhV (ls.take i):Nat):Int) (by omega)) Tryz.func144 rfl (by kernel_rfl) (Args.two (.c rfl) .t) ZaF) r1 r1 (qN rfl rfl qZ))) hB [6,2,0] [101,0] (fun _=>rfl) (fun _=>rfl) fun τ a w F hS=>?_
 try dsimp only [RS.sub,SF.sub,CF.sub,csub,Anc.sub,List.map,Zj,rTx,Zs,Zv,rInt,rOp,rCmd,ZC,Zaj,ZH,Zu] at hS
 generalize τ 24=v24 at hS
 refine Za (wp_seq (wp_seq ?_))
 refine Zb hS (qM rfl rfl (qu Tryz.underlying171 r1 (qJ qZ))) hB [27,26,25,6,2] [101,0] rfl rfl fun a w F hS=>Za (wp_block ?_)
 refine Zl (σ:=(Nat)×(Value)×(List ZO)) [2,25,26] [0] (fun s=>[(27,.pv (.int .i64 (s.1:Int))),(6,.pv (.is s.2.1))]) (fun s=>[(101,.ob (.val s.2.1) (Zw 63 1 ZC s.2.2))]) (fun s=>s.1≤ls.length∧(s.2.2=(ls.take s.1).flatten)) (fun s=>ls.length - s.1) ((0),(v24),([])) hS ⟨rfl,rfl,rfl,rfl,rfl,trivial⟩ ⟨rfl,rfl,trivial⟩ ⟨Nat.zero_le _,rfl⟩ ?_
 clear hS;intro s a w F hC hS
 obtain ⟨i,v,out⟩:=s
 try dsimp only at hC
 obtain ⟨F,hS⟩:=hS.nm [27,26,25,6,2] [101,0] rfl rfl
 try dsimp only at hS
 obtain ⟨hi,hq⟩:=hC
 have hol:out.length≤ls.flatten.length:=by rw [hq,← Zda];exact Zfb ls i
 have hon:i<ls.length→out.length+(Go.Gm.nth ls i).length≤ls.flatten.length:=fun h=>by
   have h1:=Zfb ls (i+1)
   rw [Zdc h,Zda,← hq] at h1
   exact h1
 refine wp_seq ?_
 refine Zb hS (qL r2) hB [28,27,26,25,6,2] [101,0] rfl rfl fun a w F hS=>Za (wp_seq ?_)
 refine Zd hS rfl (fun hc2=>?_) (fun hc2=>?_)
 ·skip
  have hil:i<ls.length:=by simp at hc2;omega
  have hio:=hil
  refine wp_skip (Za (wp_seq (wp_block (wp_seq ?_))))
  refine Zb hS (qy 1 Tryz.underlying171 r2 (qf (oR false 1 .t) r1 qz (qN rfl rfl qZ))) hB [27,26,25,8,6,2] [101,0] rfl rfl fun a w F hS=>?_
  try simp only [Int.toNat_natCast] at hS
  refine Za ?_
  refine Zc hS (qM rfl rfl (qM rfl rfl (qf (o_append (sz:=1) (bs:=16) 101 (.mk' Tryz.underlying60 (by kernel_rfl) (by kernel_rfl)) (by intro x;rfl) .is (.sl .t) (by have:=hon hio;omega) (by decide)) ⟨rfl,rfl,trivial⟩ ⟨rfl,trivial⟩ (qN rfl rfl qZ)))) hB [27,26,25,6,2] [101,0] (fun _=>rfl) (fun _=>rfl) fun τ a w F hS=>?_
  try dsimp only [RS.sub,SF.sub,CF.sub,csub,Anc.sub,List.map,xC,xN,Zj,rTx,Zs,Zv,rInt,rOp,rCmd,ZC,Zaj,ZH,Zu] at hS
  generalize τ 33=v33 at hS
  refine Zi (Za ?_)
  refine Zb hS (qp r1 (qM rfl rfl qZ)) hB [27,26,25,6,2] [101,0] rfl rfl fun a w F hS=>Za ?_
  replace hS:=hS.ent (i:=27) (s':=.pv (.int .i64 ((i+1:Nat):Int))) rfl (.int (Ze (by omega)))
  obtain ⟨F,hS⟩:=hS.nm [26,25,2,6,27] [0,101] rfl rfl
  exact ⟨((i+1),_,_),F,⟨by omega,(by rw [ZjY hio,hq])⟩,hS,by omega⟩
 have hil:i=ls.length:=by simp at hc2;omega
 refine wp_exit (Zk (Zk (Zq (Za (wp_seq ?_)))))
 refine Zb hS (qM rfl rfl (qN rfl rfl qZ)) hB [2] [101,0] rfl rfl fun a w F hS=>Za (wp_ret ?_)
 obtain ⟨F,hS⟩:=hS.give 101 2 rfl rfl
 refine Zr hfr hS rfl rfl rfl (.sl (by rw [hq,hil,List.take_length]))
end Go.Proofs.YtjhapicamnijnaaGreat
namespace Go.Proofs.YtjhapicamnijnaaGreat
open Go Go.Gm
set_option linter.unusedVariables false
set_option linter.unusedSimpArgs false
set_option maxHeartbeats 4000000
set_option maxRecDepth 8000
open Go.RowKit Go.Maps Go.Sort Go.Shelf Go.ChangeMaps Go.MapKept
def ZoO (x:Int):List Value:=[.int .i64 x]
open Go.RowKit Go.Maps Go.Sort Go.Shelf
end Go.Proofs.YtjhapicamnijnaaGreat
namespace Go.Proofs.YtjhapicamnijnaaGreat
open Go Go.Gm
set_option linter.unusedVariables false
set_option linter.unusedSimpArgs false
set_option maxHeartbeats 4000000
set_option maxRecDepth 8000
open Go.RowKit Go.Maps Go.Sort Go.Shelf Go.ChangeMaps Go.MapKept
def ZjQ : Code := (Code.region 2 #[{ dst := some 5, op := Op.assign (Operand.tmp 7), type := 3, pos := "iter.go:51", after := #[], guard := none }] false)
def Zmc : Code := (Code.block 1 (Code.region 3 #[{ dst := some 8, op := Op.load 41 (Operand.tmp 2), type := 41, pos := "iter.go:52", after := #[], guard := none }, { dst := some 9, op := Op.move (Operand.tmp 5), type := 3, pos := "iter.go:52", after := #[], guard := none }, { dst := some 10, op := Op.buildSlice 41 1 #[(0, Operand.tmp 9)], type := 41, pos := "iter.go:52", after := #[{ on := 1, ground := Ground.data }], guard := none }, { dst := some 11, op := Op.call { callee := Callee.builtin Builtin.append, args := #[Operand.tmp 8, Operand.tmp 10], argTypes := #[41, 41] }, type := 41, pos := "iter.go:52", after := #[{ on := 0, ground := Ground.data }, { on := 2, ground := Ground.data }], guard := none }, { dst := none, op := Op.store 41 (Operand.tmp 2) (Operand.tmp 11), type := 0, pos := "iter.go:52", after := #[{ on := 3, ground := Ground.data }, { on := 3, ground := Ground.chain }, { on := 0, ground := Ground.phase }, { on := 1, ground := Ground.phase }, { on := 2, ground := Ground.phase }, { on := 3, ground := Ground.phase }], guard := none }] false))
def Znj (fn:FuncId) (sv:Value) (Bs D:Nat) (st:LoopState) (pend:Option Code):Loop:=
 { state:=st,pending:=pend,fn,tmps:=#[.slice none 0 0,sv,.pointer (some ⟨Bs,0,none⟩),undef,.slice none 0 0,undef,sv,undef,undef,undef,undef,undef,undef],params:=#[7],assign:=ZjQ,body:=Zmc,defers:=D }
structure ZoE (w0:World) (fn:FuncId) (sv:Value) (Bs l D:Nat) (ss:List Int) (W:World):Prop where
 box:∃ v,W.heap[Bs]? = some (.cells #[v] 41 (0,0))∧W.ownsRow w0.heap.size 3 1 v ss.length (ss.flatMap ZoO)∧(v = .slice none 0 0 ↔ ss = [])
 L:W.heap[l]? = some (.loop (Znj fn sv Bs D .ready none))
 K:W.heap[D]? = some (.deferred (some []))
 below:Below w0.heap.size w0 W
end Go.Proofs.YtjhapicamnijnaaGreat
namespace Go.Proofs.YtjhapicamnijnaaGreat
open Go Go.Gm
set_option linter.unusedVariables false
set_option linter.unusedSimpArgs false
set_option maxHeartbeats 4000000
set_option maxRecDepth 8000
theorem ZmY (v : Value) (l : List OpD) (hll : l.length ≤ 1000000) (p : OpD → Bool) (f : FuncId) (fn : Func) (cps : List PV) (hf : Tryz.prog.funcs[f]? = some fn) (hb : fn.body.isSome = true) (hnn : (fn.name == "runtime.NumGoroutine") = false) (hw : ∀ x, FnP Tryz.prog f (.agg (rOp x) :: cps) (.bool (p x))) : FnG Tryz.prog 105 1 [.is v, .clos f cps] [Zw 59 4 rOp l v] (PV.one) (fun v => [Zw 59 4 rOp (l.filter fun x => !p x) v]) := by
 refine FnG.mk Tryz.func105 rfl Tryz.ntmps105 rfl (by kernel_rfl) ?_
 intro B F0 a w F hB hG hS
 replace hS:=hS.turn 1 rfl (r':=.ob (.val v) (Zw 59 4 rOp l)) (fun _ _ _ _ h=>h)
 refine wp_seq ?_
 refine Zb hS (qC qZ) hB [4,1,0] [1,0] rfl rfl fun a w F hS=>Za (wp_seq ?_)
 refine Zb hS (qM rfl rfl (qM rfl rfl (qf (OpC.lendRow 1 [8] (oP (Zki l p f fn cps hf hb hnn hw) Tryz.func166 (Args.two .t .t)) ⟨rfl,trivial,trivial⟩ (.pv (fun _ _ _ _ h=>h)) trivial (by rfl)) r2 r1 (qN rfl rfl qZ)))) hB [5,4,1,0] [1,0] rfl rfl fun a w F hS=>Za (wp_seq (wp_seq ?_))
 refine Zb hS (qM rfl rfl (qf (o_eql .t qi) r1 qz qZ)) hB [12,5,4,1,0] [1,0] rfl rfl fun a w F hS=>Za ?_
 refine Zd hS rfl (fun hc0=>?_) (fun hc0=>?_)
 ·skip
  have hno:=(Zam p l).resolve_right (by rintro ⟨i,h1,_⟩;simp at hc0;omega)
  have hg:(l.filter fun x=>!p x)=l:=ZcE hno.2
  refine wp_seq ?_
  refine Zb hS (qM rfl rfl (qN rfl rfl qZ)) hB [5,4,1,0] [1,0] rfl rfl fun a w F hS=>Za (wp_ret (Zg ?_))
  have hS:=hS.turn 1 rfl (r':=RS.hp (Zw 59 4 rOp (l.filter fun x=>!p x) v)) (fun _ _ _ _ h=>by rw [hg];exact h)
  refine Zat (h':=fun v=>Zw 59 4 rOp (l.filter fun x=>!p x) v) hG hS rfl (.tmp rfl .nil) (.one .one) rfl
 obtain ⟨i0,hi0,hi1,hip,hib⟩:=(Zam p l).resolve_left (by rintro ⟨h1,_⟩;simp [h1] at hc0)
 have hst0:=ZdR hi1 hip hib
 refine wp_skip (Za (wp_seq (wp_seq ?_)))
 refine Zb hS (qM rfl rfl (qp r1 (qN rfl rfl qZ))) hB [6,5,4,1,0] [1,0] rfl rfl fun a w F hS=>Za (wp_block ?_)
 have hC0:i0<i0+1∧i0+1≤l.length∧l.length=l.length∧l.take i0=(l.take (i0+1)).filter (fun x=>!p x) ∧ ∀ k,i0+1≤k→k<l.length→Go.Gm.nth l k=Go.Gm.nth l k:=⟨by omega,by omega,rfl,hst0,fun k _ _=>rfl⟩
 replace hS:=hS.ent (i:=5) (s':=.pv (.int .i64 (i0:Int))) rfl (.int hi0)
 replace hS:=hS.ent (i:=6) (s':=.pv (.int .i64 ((i0+1:Nat):Int))) rfl (.int (by rw [hi0,ZP (by omega)];omega))
 refine Zl (σ:=Nat×Nat×List OpD) [0,1,4] [0] (fun s=>[(5,.pv (.int .i64 (s.1:Int))),(6,.pv (.int .i64 (s.2.1:Int)))]) (fun s=>[(1,.ob (.val v) (Zw 59 4 rOp s.2.2))]) (fun s=>s.1<s.2.1∧s.2.1≤l.length∧s.2.2.length=l.length∧s.2.2.take s.1=(l.take s.2.1).filter (fun x=>!p x) ∧ ∀ k,s.2.1≤k→k<l.length→Go.Gm.nth s.2.2 k=Go.Gm.nth l k) (fun s=>l.length - s.2.1) ((i0),(i0+1),(l)) hS ⟨rfl,rfl,rfl,rfl,rfl,trivial⟩ ⟨rfl,rfl,trivial⟩ hC0 ?_
 clear hS;intro s a w F hC hS
 obtain ⟨i,j,l1⟩:=s
 try dsimp only at hC
 obtain ⟨F,hS⟩:=hS.nm [6,5,4,1,0] [1,0] rfl rfl
 try dsimp only at hS
 obtain ⟨hij,hj,hll1,htk,hrest⟩:=hC
 refine wp_seq (wp_seq ?_)
 refine Zb hS (qM rfl rfl (qM rfl rfl (qf (Z4 1 Tryz.underlying38 .is) r1 r1 (qL r2)))) hB [19,6,5,4,1,0] [1,0] rfl rfl fun a w F hS=>Za ?_
 refine Zd hS rfl (fun hc1=>?_) (fun hc1=>?_)
 ·skip
  have hjl:j<l.length:=by simp at hc1;omega
  have hnj:Go.Gm.nth l1 j=(Go.Gm.nth l j):=hrest j (Nat.le_refl _) hjl
  have hfs:=ZbX (p:=fun x=>!p x) hjl
  refine wp_skip (Za (wp_seq (wp_block (wp_seq ?_))))
  refine Zc hS (qM rfl rfl (qM rfl rfl (qf (o_indexAddr_row (sz:=4) 1 (.mk Tryz.underlying38 (by kernel_rfl)) .is .t (by omega) (by omega) (by rfl)) r2 r1 (qf (Zah (ag:=true) (sz':=4) (sz:=4) 1 .t (by intro x;rfl) (by omega) (by kernel_rfl) (by kernel_rfl) (by kernel_rfl)) r1 r1 (qf (oH [.bool false,.int .i64 0,.int .i64 0,.int .i64 0] 101) trivial qz (qS 4 101 r2 r1 qZ)))))) hB [7,6,5,4,1,0] [101,1,0] (fun _=>rfl) (fun _=>rfl) fun τ a w F hS=>?_
  try dsimp only [RS.sub,SF.sub,CF.sub,csub,Anc.sub,List.map,Zf,xL,xM,Nat.reduceAdd,xD,xE,xT,xU,xC,xN,zCF,ldSF,rOp] at hS
  generalize τ 7=v7 at hS
  try simp only [Int.toNat_natCast] at hS
  rw [hnj] at hS
  refine Za (wp_seq ?_)
  refine Zb hS (qM rfl rfl (qe 4 101 r1 r1 (qf (Z2 (avs:=[.agg (rOp (Go.Gm.nth l j))]) .t (hw (Go.Gm.nth l j)) hf hb hnn (Args.one (.pagg .t))) r2 qz (qf (o_not .t) r1 qz qZ)))) hB [29,7,6,5,4,1,0] [101,1,0] rfl rfl fun a w F hS=>Za ?_
  refine Zd hS rfl (fun hc2=>?_) (fun hc2=>?_)
  ·skip
   have hp:p (Go.Gm.nth l j)=false:=by simpa using hc2
   obtain ⟨i2,hi2e⟩:∃ i2,i2=i+1:=⟨_,rfl⟩
   have hi2:IntKind.wrap .i64 ((i:Int)+1)=(i2:Int):=by rw [hi2e];exact Ze (by omega)
   obtain ⟨l2,hl2⟩:∃ l2,l2=l1.set i (Go.Gm.nth l j):=⟨_,rfl⟩
   have hC2:i2<j+1∧j+1≤l.length∧l2.length=l.length∧l2.take i2=(l.take (j+1)).filter (fun x=>!p x) ∧ ∀ k,j+1≤k→k<l.length→Go.Gm.nth l2 k=Go.Gm.nth l k:=⟨by omega,by omega,by rw [hl2,List.length_set];exact hll1,by rw [hl2,hi2e,hfs,hp,← htk,Zt (by rw [List.length_set];omega),List.take_set_of_le (Nat.le_refl _),Zz (by rw [List.length_set];omega),List.getElem_set_self];rfl,fun k hk hk2=>by rw [hl2,Zz (by rw [List.length_set];omega),List.getElem_set_ne (by omega),← Zz (by omega)];exact hrest k (by omega) hk2⟩
   refine wp_seq ?_
   refine Zb hS (qM rfl rfl (qM rfl rfl (qe 4 101 r1 r1 (qf (o_indexAddr_row (sz:=4) 1 (.mk Tryz.underlying38 (by kernel_rfl)) .is .t (by omega) (by omega) (by rfl)) r2 r1 (qf (Zc4 (sz:=4) 1 .t (by intro x;rfl) (by omega) (.conv .t (Ent.aggU (l:=rOp (Go.Gm.nth l j)) rfl rfl)) (by kernel_rfl)) r2 r1 qZ))))) hB [6,5,4,1,0] [1,0] rfl rfl fun a w F hS=>?_
   try simp only [Int.toNat_natCast] at hS
   rw [← hl2] at hS
   refine Za ?_
   refine Zb hS (qM rfl rfl (qp r1 (qN rfl rfl qZ))) hB [6,5,4,1,0] [1,0] rfl rfl fun a w F hS=>Zi (Za ?_)
   refine Zb hS (qM rfl rfl (qp r1 (qN rfl rfl qZ))) hB [6,5,4,1,0] [1,0] rfl rfl fun a w F hS=>Za ?_
   have hmu:l.length - (j+1)<l.length - j:=by omega
   replace hS:=hS.ent (i:=5) (s':=.pv (.int .i64 (i2:Int))) rfl (.int hi2)
   replace hS:=hS.ent (i:=6) (s':=.pv (.int .i64 ((j+1:Nat):Int))) rfl (.int (Ze (by omega)))
   obtain ⟨F,hS⟩:=hS.nm [4,1,0,6,5] [0,1] rfl rfl
   exact ⟨((i2),(j+1),(l2)),F,hC2,hS,hmu⟩
  have hp:p (Go.Gm.nth l j)=true:=by simpa using hc2
  obtain ⟨i2,hi2e⟩:∃ i2,i2=i:=⟨_,rfl⟩
  have hi2:(i:Int)=(i2:Int):=by rw [hi2e]
  obtain ⟨l2,hl2⟩:∃ l2,l2=l1:=⟨_,rfl⟩
  rw [← hl2] at hS
  have hC2:i2<j+1∧j+1≤l.length∧l2.length=l.length∧l2.take i2=(l.take (j+1)).filter (fun x=>!p x) ∧ ∀ k,j+1≤k→k<l.length→Go.Gm.nth l2 k=Go.Gm.nth l k:=⟨by omega,by omega,by rw [hl2];exact hll1,by rw [hl2,hi2e,hfs,hp,htk];simp,fun k hk hk2=>by rw [hl2];exact hrest k (by omega) hk2⟩
  refine wp_skip (Zi (Za ?_))
  refine Zb hS (qM rfl rfl (qp r1 (qN rfl rfl qZ))) hB [6,5,4,1,0] [1,0] rfl rfl fun a w F hS=>Za ?_
  have hmu:l.length - (j+1)<l.length - j:=by omega
  replace hS:=hS.ent (i:=5) (s':=.pv (.int .i64 (i2:Int))) rfl (.int hi2)
  replace hS:=hS.ent (i:=6) (s':=.pv (.int .i64 ((j+1:Nat):Int))) rfl (.int (Ze (by omega)))
  obtain ⟨F,hS⟩:=hS.nm [4,1,0,6,5] [0,1] rfl rfl
  exact ⟨((i2),(j+1),(l2)),F,hC2,hS,hmu⟩
 have hjl:j=l.length:=by simp at hc1;omega
 have hil2:i<l.length:=by omega
 have hg:(l.filter fun x=>!p x)=(l1.take i++List.replicate (l1.length - i) (⟨false,0,0,0⟩:OpD)).take i:=by rw [List.take_append_of_le_length (by rw [List.length_take];omega),List.take_take,Nat.min_self,htk,hjl,List.take_length]
 refine wp_exit (Zk (Zk (Zq (Za (wp_seq ?_)))))
 refine Zb hS (qM rfl rfl (qM rfl rfl (qf (Zaw (sz:=4) 1 (.mk Tryz.underlying38 (by kernel_rfl)) .is .t (by omega) (by omega)) r2 r1 (qf (ZbT (R:=rOp) (z:=(⟨false,0,0,0⟩:OpD)) (zs:=[.bool false,.int .i64 0,.int .i64 0,.int .i64 0]) 1 Tryz.underlying38 (by kernel_rfl) rfl rfl (fun _ _=>⟨⟨rfl,rfl⟩,⟨rfl,rfl,ZhT⟩,⟨rfl,rfl,ZhT⟩,⟨rfl,rfl,ZhT⟩,trivial⟩) (by intro x;rfl) .t (by simp;omega)) r1 r1 qZ)))) hB [5,4,0] [1,0] rfl rfl fun a w F hS=>Za (wp_seq ?_)
 refine Zc hS (qM rfl rfl (qM rfl rfl (qf (Zch (sz:=4) 1 (.mk Tryz.underlying38 (by kernel_rfl)) (by intro x;rfl) .is .t (by omega) (by simp;omega)) r2 r1 (qN rfl rfl qZ)))) hB [4] [1,0] (fun _=>rfl) (fun _=>rfl) fun τ a w F hS=>?_
 try dsimp only [RS.sub,SF.sub,CF.sub,csub,Anc.sub,List.map,rOp] at hS
 generalize τ 41=v41 at hS
 refine Za (wp_ret ?_)
 have hS:=hS.turn 1 rfl (r':=RS.hp (Zw 59 4 rOp (l.filter fun x=>!p x) v41)) (fun _ _ _ _ h=>by rw [hg];exact h)
 refine Zat (h':=fun v=>Zw 59 4 rOp (l.filter fun x=>!p x) v) hG hS rfl (.tmp rfl .nil) (.one .one) rfl
theorem Znz (o:OpD):FnP Tryz.prog 106 [.agg (rOp o)] (.bool o.read):=by
 refine FnP.mk Tryz.func106 rfl Tryz.ntmps106 rfl ?_
 intro B a w F hB hfr hS
 refine wp_seq ?_
 refine Zc hS (qx 101 r1 qB) hB [2,1] [101,0] (fun _=>rfl) (fun _=>rfl) fun τ a w F hS=>?_
 try dsimp only [RS.sub,SF.sub,CF.sub,csub,Anc.sub,List.map,zCF,rOp] at hS
 generalize τ 1=v1 at hS
 refine Za (wp_seq ?_)
 refine Zb hS (qg 0 101 r1 r1 (qa 101 r1 r1 (qN rfl rfl qZ))) hB [2] [0] rfl rfl fun a w F hS=>Za (wp_ret ?_)
 refine Zr hfr hS rfl rfl rfl .refl
theorem Zis (t:TxD) (hl:t.ops.length≤1000000):FnP Tryz.prog 47 [.agg (rTx t)] (.agg (rTx (bareT t))):=by
 refine FnP.mk Tryz.func47 rfl Tryz.ntmps47 rfl ?_
 intro B a w F hB hfr hS
 refine wp_seq ?_
 refine Zc hS (qx 101 r1 (qf (oH [.int .i64 0,.bool false,.slice none 0 0] 102) trivial qz qZ)) hB [2,1] [102,101,0] (fun _=>rfl) (fun _=>rfl) fun τ a w F hS=>?_
 try dsimp only [RS.sub,SF.sub,CF.sub,csub,Anc.sub,List.map,zCF,rTx,rInt] at hS
 generalize τ 1=v1 at hS
 generalize τ 2=v2 at hS
 refine Za (wp_seq ?_)
 replace hS:=hS.fresh 103 rfl
 refine Zc hS (qg 2 101 r1 r1 (qa 101 r1 r1 (qf (ZaM 103 (Zcw t.ops hl) Tryz.func49 rfl (by kernel_rfl) (Args.one .t) ZaF) r1 r1 (qf (Zjl 5 103 (fun v=>ZmY _ t.ops hl (fun o=>o.read) 106 Tryz.f106 [] Tryz.func106 rfl (by kernel_rfl) (fun o=>Znz o)) Tryz.func105 rfl (by kernel_rfl) (ZgF.two .same (.of (.conv .f (Ent.fnClos)))) ZaF) r1 r1 (qg 2 101 r1 r1 (qf (Zau 101 .adr (by kernel_rfl) (by kernel_rfl)) r2 r1 qZ)))))) hB [2,1] [103,102,101,0] (fun _=>rfl) (fun _=>rfl) fun τ a w F hS=>?_
 try dsimp only [RS.sub,SF.sub,CF.sub,csub,Anc.sub,List.map,Zf,xL,xM,Nat.reduceAdd,xD,xE,xT,xU,xC,xN,zCF,ldSF,rTx,rInt] at hS
 generalize τ 6=v6 at hS
 obtain ⟨F,hS⟩:=hS.giveCell 103 101 2 rfl rfl rfl rfl rfl
 try dsimp only [List.set] at hS
 obtain ⟨F,hS⟩:=hS.nm [2,1] [102,101,0] rfl rfl
 refine Za (wp_seq ?_)
 refine Zb hS (qe 3 101 r1 r1 (qs 3 102 r2 r1 qZ)) hB [2] [102,101,0] rfl rfl fun a w F hS=>Za (wp_ret ?_)
 refine ZA hfr hS rfl (.cl 102 true 3 rfl rfl .nil) (.one (.aggU rfl rfl))
theorem ZdG (t:TxD) (hl:t.ops.length≤1000000):FnP Tryz.prog 52 [.agg (rTx t)] (.agg (rTx (bareT t))):=by
 refine FnP.mk Tryz.func52 rfl Tryz.ntmps52 rfl ?_
 intro B a w F hB hfr hS
 refine wp_seq ?_
 refine Zc hS (qx 101 r1 (qf (oH [.int .i64 0,.bool false,.slice none 0 0] 102) trivial qz qZ)) hB [2,1] [102,101,0] (fun _=>rfl) (fun _=>rfl) fun τ a w F hS=>?_
 try dsimp only [RS.sub,SF.sub,CF.sub,csub,Anc.sub,List.map,zCF,rTx,rInt,rOp] at hS
 generalize τ 1=v1 at hS
 generalize τ 2=v2 at hS
 refine Za (wp_seq ?_)
 refine Zb hS (qC qZ) hB [3,2,1] [102,101,0] rfl rfl fun a w F hS=>Za (wp_seq (wp_seq ?_))
 refine Zb hS (qg 2 101 r1 r1 (qa 101 r1 r1 (qu Tryz.underlying38 r1 (qJ qZ)))) hB [9,8,7,3,2,1] [102,101,0] rfl rfl fun a w F hS=>Za (wp_block ?_)
 replace hS:=hS.fresh 50 rfl
 replace hS:=hS.turn 50 rfl (Zaf (T:=59) (sz:=4) (R:=rOp))
 refine Zl (σ:=(Nat)×(Value)×(List OpD)) [1,2,7,8] [0,101,102] (fun s=>[(9,.pv (.int .i64 (s.1:Int))),(3,.pv (.is s.2.1))]) (fun s=>[(50,.ob (.val s.2.1) (Zw 59 4 rOp s.2.2))]) (fun s=>s.1≤t.ops.length∧(s.2.2=((t.ops.take s.1).filter fun o=>!o.read))) (fun s=>t.ops.length - s.1) ((0),(.slice none 0 0),([])) hS ⟨rfl,rfl,rfl,rfl,rfl,rfl,trivial⟩ ⟨rfl,rfl,rfl,rfl,trivial⟩ ⟨Nat.zero_le _,rfl⟩ ?_
 clear hS;intro s a w F hC hS
 obtain ⟨i,v,out⟩:=s
 try dsimp only at hC
 obtain ⟨F,hS⟩:=hS.nm [9,8,7,3,2,1] [102,101,50,0] rfl rfl
 try dsimp only at hS
 obtain ⟨hi,hq⟩:=hC
 have hol:out.length≤i:=by rw [hq];exact Nat.le_trans (List.length_filter_le _ _) (by rw [List.length_take];omega)
 refine wp_seq ?_
 refine Zb hS (qL r2) hB [10,9,8,7,3,2,1] [102,101,50,0] rfl rfl fun a w F hS=>Za (wp_seq ?_)
 refine Zd hS rfl (fun hc0=>?_) (fun hc0=>?_)
 ·skip
  have hil:i<t.ops.length:=by simp at hc0;omega
  refine wp_skip (Za (wp_seq (wp_block (wp_seq ?_))))
  refine Zc hS (qy 4 Tryz.underlying38 r2 (qf (oR true 4 .t) r1 qz (qf (oH [.bool false,.int .i64 0,.int .i64 0,.int .i64 0] 103) trivial qz (qS 4 103 r2 r1 qZ)))) hB [9,8,7,5,3,2,1] [103,102,101,50,0] (fun _=>rfl) (fun _=>rfl) fun τ a w F hS=>?_
  try dsimp only [RS.sub,SF.sub,CF.sub,csub,Anc.sub,List.map,Zf,xL,xM,Nat.reduceAdd,xD,xE,xT,xU,xC,xN,zCF,ldSF,rTx,rInt,rOp] at hS
  generalize τ 5=v5 at hS
  try simp only [Int.toNat_natCast] at hS
  refine Za (wp_seq ?_)
  refine Zb hS (qg 0 103 r1 r1 (qa 103 r1 r1 (qf (o_not .t) r1 qz qZ))) hB [15,9,8,7,5,3,2,1] [103,102,101,50,0] rfl rfl fun a w F hS=>Za ?_
  refine Zd hS rfl (fun hc1=>?_) (fun hc1=>?_)
  ·skip
   have hBq:(Go.Gm.nth t.ops i).read=false:=by simpa using hc1
   refine Zc hS (qM rfl rfl (qe 4 103 r1 r1 (qf (Zh (sz:=4) (zs:=[.bool false,.int .i64 0,.int .i64 0,.int .i64 0]) (r:=[(0,.tmp 17)]) (l:=[_,_,_,_]) Tryz.underlying38 (by kernel_rfl) (by kernel_rfl) (by kernel_rfl) (by kernel_rfl) rfl rfl (.agg rfl .t (by kernel_rfl) (by kernel_rfl) .nil) rfl) r1 qz (qf (o_append (sz:=4) (bs:=32) 50 (.mk' Tryz.underlying38 (by kernel_rfl) (by kernel_rfl)) (by intro x;rfl) .is (.arr (l':=[_]) .t) (by simp only [List.length_append,List.length_cons,List.length_nil,List.length_take,List.length_drop];omega) (by decide)) ⟨rfl,rfl,trivial⟩ ⟨rfl,trivial⟩ (qN rfl rfl qZ))))) hB [9,8,7,3,2,1] [103,102,101,50,0] (fun _=>rfl) (fun _=>rfl) fun τ a w F hS=>?_
   try dsimp only [RS.sub,SF.sub,CF.sub,csub,Anc.sub,List.map,Zf,xL,xM,Nat.reduceAdd,xD,xE,xT,xU,xC,xN,zCF,ldSF,rTx,rInt,rOp] at hS
   generalize τ 19=v19 at hS
   refine Zi (Za ?_)
   refine Zb hS (qp r1 (qM rfl rfl qZ)) hB [9,8,7,3,2,1] [103,102,101,50,0] rfl rfl fun a w F hS=>Za ?_
   replace hS:=hS.ent (i:=9) (s':=.pv (.int .i64 ((i+1:Nat):Int))) rfl (.int (Ze (by omega)))
   obtain ⟨F,hS⟩:=hS.nm [8,7,2,1,3,9] [102,101,0,50] rfl rfl
   exact ⟨((i+1),_,_),F,⟨by omega,(by rw [Zt hil,List.filter_append,← hq];simp [hBq])⟩,hS,by omega⟩
  have hBq:(Go.Gm.nth t.ops i).read=true:=by simpa using hc1
  refine wp_skip (Zi (Za ?_))
  refine Zb hS (qp r1 (qM rfl rfl qZ)) hB [9,8,7,3,2,1] [103,102,101,50,0] rfl rfl fun a w F hS=>Za ?_
  replace hS:=hS.ent (i:=9) (s':=.pv (.int .i64 ((i+1:Nat):Int))) rfl (.int (Ze (by omega)))
  obtain ⟨F,hS⟩:=hS.nm [8,7,2,1,3,9] [102,101,0,50] rfl rfl
  exact ⟨((i+1),_,_),F,⟨by omega,(by rw [Zt hil,List.filter_append,← hq];simp [hBq])⟩,hS,by omega⟩
 have hil:i=t.ops.length:=by simp at hc0;omega
 have hqq:out=t.ops.filter fun o=>!o.read:=by rw [hq,hil,List.take_length]
 subst hqq
 refine wp_exit (Zk (Zk (Zq (Za (wp_seq ?_)))))
 refine Zb hS (qM rfl rfl (qg 2 101 r1 r1 (qf (ZlR 101 .adr .t Zod (by kernel_rfl) (by kernel_rfl)) r2 r1 qZ))) hB [2,1] [102,101,50,0] rfl rfl fun a w F hS=>?_
 obtain ⟨F,hS⟩:=hS.giveCell 50 101 2 rfl rfl rfl rfl rfl
 try dsimp only [List.set] at hS
 obtain ⟨F,hS⟩:=hS.nm [2,1] [102,101,0] rfl rfl
 refine Za (wp_seq ?_)
 refine Zb hS (qe 3 101 r1 r1 (qs 3 102 r2 r1 qZ)) hB [2] [102,101,0] rfl rfl fun a w F hS=>Za (wp_ret ?_)
 refine ZA hfr hS rfl (.cl 102 true 3 rfl rfl .nil) (.one (.aggU rfl rfl))
theorem Zns (l : List OpD) (p : OpD → Bool) (f : FuncId) (fn : Func) (cps : List PV) (hf : Tryz.prog.funcs[f]? = some fn) (hb : fn.body.isSome = true) (hnn : (fn.name == "runtime.NumGoroutine") = false) (hw : ∀ x, FnP Tryz.prog f (.agg (rOp x) :: cps) (.bool (p x))) : FnP Tryz.prog 107 [.sl rOp l, .clos f cps] (.bool (l.any p)) := by
 refine FnP.mk Tryz.func107 rfl Tryz.ntmps107 rfl ?_
 intro B a w F hB hfr hS
 refine wp_seq ?_
 refine Zb hS qB hB [4,1,0] [0] rfl rfl fun a w F hS=>Za (wp_seq ?_)
 refine Zb hS (qM rfl rfl (qM rfl rfl (qf (oP (Zki l p f fn cps hf hb hnn hw) Tryz.func166 (Args.two .t .t)) r2 qz (qf (ZbF .t qi) r1 qz (qN rfl rfl qZ))))) hB [4] [0] rfl rfl fun a w F hS=>Za (wp_ret ?_)
 refine Zr hfr hS rfl rfl rfl (.bool (by rw [ZhA]))
theorem Zmg (o:OpD):FnP Tryz.prog 143 [.agg (rOp o)] (.bool o.read):=by
 refine FnP.mk Tryz.func143 rfl Tryz.ntmps143 rfl ?_
 intro B a w F hB hfr hS
 refine wp_seq ?_
 refine Zc hS (qx 101 r1 qB) hB [2,1] [101,0] (fun _=>rfl) (fun _=>rfl) fun τ a w F hS=>?_
 try dsimp only [RS.sub,SF.sub,CF.sub,csub,Anc.sub,List.map,zCF,rOp] at hS
 generalize τ 1=v1 at hS
 refine Za (wp_seq ?_)
 refine Zb hS (qg 0 101 r1 r1 (qa 101 r1 r1 (qN rfl rfl qZ))) hB [2] [0] rfl rfl fun a w F hS=>Za (wp_ret ?_)
 refine Zr hfr hS rfl rfl rfl .refl
theorem Zlt (g o:Zn) (hs:Zai g.txs) (hso:Zai o.txs):FnP Tryz.prog 79 [.agg (Zj g),.agg (Zj o)] (.sl ZH (Zp g o)):=by
 refine FnP.mk Tryz.func79 rfl Tryz.ntmps79 rfl ?_
 intro B a w F hB hfr hS
 have hsl:=hs.1
 refine wp_seq ?_
 refine Zc hS (qx 101 r1 (qx 102 r1 (qC qZ))) hB [4,3,2] [102,101,0] (fun _=>rfl) (fun _=>rfl) fun τ a w F hS=>?_
 try dsimp only [RS.sub,SF.sub,CF.sub,csub,Anc.sub,List.map,zCF,Zj,rTx,Zs,Zv,rInt,rOp,rCmd,ZC,Zaj,ZH,Zu] at hS
 generalize τ 2=v2 at hS
 generalize τ 3=v3 at hS
 refine Za (wp_seq ?_)
 refine Zb hS (qC qZ) hB [5,4,3,2] [102,101,0] rfl rfl fun a w F hS=>Za (wp_seq (wp_seq ?_))
 refine Zb hS (qg 0 101 r1 r1 (qa 101 r1 r1 (qu Tryz.underlying22 r1 (qJ qZ)))) hB [13,12,11,5,4,3] [102,101,0] rfl rfl fun a w F hS=>Za (wp_block ?_)
 replace hS:=hS.fresh 50 rfl
 replace hS:=hS.turn 50 rfl (Zaf (T:=104) (sz:=6) (R:=ZH))
 refine Zl (σ:=(Nat)×(Value)×(List Z1)) [3,4,11,12] [0,101,102] (fun s=>[(13,.pv (.int .i64 (s.1:Int))),(5,.pv (.is s.2.1))]) (fun s=>[(50,.ob (.val s.2.1) (Zw 104 6 ZH s.2.2))]) (fun s=>s.1≤g.txs.length∧(s.2.2=(g.txs.take s.1).map (Zb1 o))) (fun s=>g.txs.length - s.1) ((0),(.slice none 0 0),([])) hS ⟨rfl,rfl,rfl,rfl,rfl,rfl,trivial⟩ ⟨rfl,rfl,rfl,rfl,trivial⟩ ⟨Nat.zero_le _,rfl⟩ ?_
 clear hS;intro s a w F hC hS
 obtain ⟨i,v,out⟩:=s
 try dsimp only at hC
 obtain ⟨F,hS⟩:=hS.nm [13,12,11,5,4,3] [102,101,50,0] rfl rfl
 try dsimp only at hS
 obtain ⟨hi,hq⟩:=hC
 have hol:out.length≤i:=by rw [hq,List.length_map,List.length_take];omega
 refine wp_seq ?_
 refine Zb hS (qL r2) hB [14,13,12,11,5,4,3] [102,101,50,0] rfl rfl fun a w F hS=>Za (wp_seq ?_)
 refine Zd hS rfl (fun hc0=>?_) (fun hc0=>?_)
 ·skip
  have hil:i<g.txs.length:=by simp at hc0;omega
  have hio:=hil
  refine wp_skip (Za (wp_seq (wp_block (wp_seq ?_))))
  refine Zc hS (qy 3 Tryz.underlying22 r2 (qf (oR true 3 .t) r1 qz (qf (oH [.int .i64 0,.bool false,.slice none 0 0] 103) trivial qz (qS 3 103 r2 r1 qZ)))) hB [13,12,11,7,5,4,3] [103,102,101,50,0] (fun _=>rfl) (fun _=>rfl) fun τ a w F hS=>?_
  try dsimp only [RS.sub,SF.sub,CF.sub,csub,Anc.sub,List.map,Zf,xL,xM,Nat.reduceAdd,xD,xE,xT,xU,xC,xN,zCF,ldSF,Zj,rTx,Zs,Zv,rInt,rOp,rCmd,ZC,Zaj,ZH,Zu] at hS
  generalize τ 7=v7 at hS
  try simp only [Int.toNat_natCast] at hS
  refine Za (wp_seq ?_)
  refine Zc hS (qe 2 102 r1 r1 (qg 0 103 r1 r1 (qa 103 r1 r1 (qf (oP (ZmO o (Go.Gm.nth g.txs i).id hso) Tryz.func27 (Args.two (.pagg .t) .t)) r2 qz (qM rfl rfl (qf (o_extract .t rfl) r1 qz (qf (o_extract .t rfl) r1 qz (qf (oH [.int .i64 0,.bool false,.slice none 0 0] 104) trivial qz (qf (oA 3 104 .same (.conv .t .agg)) r2 r1 (qN rfl rfl qZ)))))))))) hB [13,12,11,9,8,7,5,4,3] [104,103,102,101,50,0] (fun _=>rfl) (fun _=>rfl) fun τ a w F hS=>?_
  try dsimp only [RS.sub,SF.sub,CF.sub,csub,Anc.sub,List.map,Zf,xL,xM,Nat.reduceAdd,xD,xE,xT,xU,xC,xN,zCF,ldSF,Zj,rTx,Zs,Zv,rInt,rOp,rCmd,ZC,Zaj,ZH,Zu] at hS
  generalize τ 8=v8 at hS
  refine Za ?_
  refine Zdp hS (qM rfl rfl (qe 3 103 r1 r1 (qM rfl rfl (qM rfl rfl (qM rfl rfl (qk rfl (fun h=>oL true 3 103 .is) r2 r1 (qk rfl (fun h=>oL true 3 104 .is) r2 r1 (qk rfl (fun h=>oP (Zmf (Go.Gm.nth g.txs i) ((Zas o.txs (Go.Gm.nth g.txs i).id).getD zeroT)) Tryz.func75 (Args.two (.pagg (.w h)) (.pagg (.w h)))) r3 qz (qf (Zy .t .t) r2 qz (qg 2 103 r1 r1 (qa 103 r1 r1 (qf (oP (Zns (Go.Gm.nth g.txs i).ops (fun o=>o.read) 143 Tryz.f143 [] Tryz.func143 rfl (by kernel_rfl) Zmg) Tryz.func107 (Args.two .t (.conv .f (Ent.fnClos)))) r1 qz (qf (oB [(0,.tmp 25),(1,.tmp 26),(2,.tmp 32),(3,.tmp 35)] [.int .i64 0,.bool false,.slice none 0 0,.bool false,.bool false,.bool false] [(0,3),(3,1),(4,1),(5,1)] (.agg rfl .t (by kernel_rfl) (by kernel_rfl) (.one rfl .t Zbx (by kernel_rfl) (.one rfl .t Zbx (by kernel_rfl) (.one rfl .t Zbx (by kernel_rfl) .nil))))) r4 qz (qf (Zh (sz:=6) (zs:=[.int .i64 0,.bool false,.slice none 0 0,.bool false,.bool false,.bool false]) (r:=[(0,.tmp 36)]) (l:=[_,_,_,_,_,_]) Tryz.underlying101 (by kernel_rfl) (by kernel_rfl) (by kernel_rfl) (by kernel_rfl) rfl rfl (.agg rfl .t (by kernel_rfl) (by kernel_rfl) .nil) rfl) r1 qz (qf (o_append (sz:=6) (bs:=48) 50 (.mk' Tryz.underlying101 (by kernel_rfl) (by kernel_rfl)) (by intro x;rfl) .is (.arr (l':=[Zb1 o (Go.Gm.nth g.txs i)]) .t) (by simp only [List.length_append,List.length_cons,List.length_nil];omega) (by decide)) ⟨rfl,rfl,trivial⟩ ⟨rfl,trivial⟩ (qN rfl rfl qZ)))))))))))))))) hB [13,12,11,5,4,3] [104,103,102,101,50,0] (fun _=>rfl) (fun _=>rfl) fun τ a w F hS=>?_
  try dsimp only [RS.sub,SF.sub,CF.sub,csub,Anc.sub,List.map,Zf,xL,xM,Nat.reduceAdd,xD,xE,xT,xU,xC,xN,zCF,ldSF,Zj,rTx,Zs,Zv,rInt,rOp,rCmd,ZC,Zaj,ZH,Zu] at hS
  generalize τ 38=v38 at hS
  refine Zi (Za ?_)
  refine Zb hS (qp r1 (qM rfl rfl qZ)) hB [13,12,11,5,4,3] [104,103,102,101,50,0] rfl rfl fun a w F hS=>Za ?_
  replace hS:=hS.ent (i:=13) (s':=.pv (.int .i64 ((i+1:Nat):Int))) rfl (.int (Ze (by omega)))
  obtain ⟨F,hS⟩:=hS.nm [12,11,4,3,5,13] [102,101,0,50] rfl rfl
  exact ⟨((i+1),_,_),F,⟨by omega,(by rw [Zdd hio,hq])⟩,hS,by omega⟩
 have hil:i=g.txs.length:=by simp at hc0;omega
 refine wp_exit (Zk (Zk (Zq (Za (wp_seq ?_)))))
 refine Zb hS (qM rfl rfl (qN rfl rfl qZ)) hB [4] [102,101,50,0] rfl rfl fun a w F hS=>Za (wp_ret ?_)
 obtain ⟨F,hS⟩:=hS.give 50 4 rfl rfl
 refine Zr hfr hS rfl rfl rfl (.sl (by rw [hq,hil,List.take_length];rfl))
theorem Ze0 {α β:Type} [Inhabited α] {f:α→Bool} {m:α→β} {l:List α} {i:Nat} {out:List β} (hq:out=((l.take i).filter f).map m) (hi:i<l.length) (hf:f (Go.Gm.nth l i)=true):out ++ [m (Go.Gm.nth l i)] = ((l.take (i+1)).filter f).map m:=by rw [ZbC hi true hf,hq];rfl
theorem ZfE {α β:Type} [Inhabited α] {f:α→Bool} {m:α→β} {l:List α} {i:Nat} {out:List β} (hq:out=((l.take i).filter f).map m) (hi:i<l.length) (hf:f (Go.Gm.nth l i)=false):out=((l.take (i+1)).filter f).map m:=by rw [ZbC hi false hf,hq];simp
theorem Zhy (g o:Zn):(Zp g o).length=g.txs.length:=by unfold Zp;rw [List.length_map]
theorem ZmV (g o:Zn) (hs:Zai g.txs) (ho:Zai o.txs):FnP Tryz.prog 31 [.agg (Zj g),.agg (Zj o)] (.sl ZC (Zao g o).flatten):=by
 refine FnP.mk Tryz.func31 rfl Tryz.ntmps31 rfl ?_
 intro B a w F hB hfr hS
 have hsl:=hs.1
 have hol:=ho.1
 have hsn:=Zhy g o
 have hon:=Zhy o g
 refine wp_seq ?_
 refine Zc hS (qx 101 r1 (qx 102 r1 (qC qZ))) hB [4,3,2] [102,101,0] (fun _=>rfl) (fun _=>rfl) fun τ a w F hS=>?_
 try dsimp only [RS.sub,SF.sub,CF.sub,csub,Anc.sub,List.map,zCF,Zj,rTx,Zs,Zv,rInt,rOp,rCmd,ZC,Zaj,ZH,Zu] at hS
 generalize τ 2=v2 at hS
 generalize τ 3=v3 at hS
 refine Za (wp_seq ?_)
 refine Zb hS (qC (qC (qC (qC (qC qZ))))) hB [9,8,7,6,5,4,3,2] [102,101,0] rfl rfl fun a w F hS=>Za (wp_seq (wp_seq ?_))
 refine Zb hS (qe 2 101 r1 r1 (qe 2 102 r1 r1 (qf (oP (Zlt g o hs ho) Tryz.func79 (Args.two (.pagg .t) (.pagg .t))) r2 qz (qu Tryz.underlying101 r1 (qJ qZ))))) hB [18,17,16,9,8,7,6,5,4,3,2] [102,101,0] rfl rfl fun a w F hS=>Za (wp_block ?_)
 replace hS:=hS.fresh 50 rfl
 replace hS:=hS.turn 50 rfl (Zaf (T:=63) (sz:=1) (R:=ZC))
 replace hS:=hS.fresh 51 rfl
 replace hS:=hS.turn 51 rfl (Zaf (T:=63) (sz:=1) (R:=ZC))
 refine Zl (σ:=(Nat)×(Value)×(List ZO)×(Value)×(List ZO)) [2,3,4,7,8,9,16,17] [0,101,102] (fun s=>[(18,.pv (.int .i64 (s.1:Int))),(5,.pv (.is s.2.1)),(6,.pv (.is s.2.2.2.1))]) (fun s=>[(50,.ob (.val s.2.1) (Zw 63 1 ZC s.2.2.1)),(51,.ob (.val s.2.2.2.1) (Zw 63 1 ZC s.2.2.2.2))]) (fun s=>s.1≤(Zp g o).length∧(s.2.2.1=Zcp ((Zp g o).take s.1)∧s.2.2.2.2=ZdV ((Zp g o).take s.1))) (fun s=>(Zp g o).length - s.1) ((0),(.slice none 0 0),([]),(.slice none 0 0),([])) hS ⟨rfl,rfl,rfl,rfl,rfl,rfl,rfl,rfl,rfl,rfl,rfl,trivial⟩ ⟨rfl,rfl,rfl,rfl,rfl,trivial⟩ ⟨Nat.zero_le _,⟨rfl,rfl⟩⟩ ?_
 clear hS;intro s a w F hC hS
 obtain ⟨i,va,oa,vb,ob⟩:=s
 try dsimp only at hC
 obtain ⟨F,hS⟩:=hS.nm [18,17,16,9,8,7,6,5,4,3,2] [102,101,51,50,0] rfl rfl
 try dsimp only at hS
 obtain ⟨hi,hq⟩:=hC
 obtain ⟨hoa,hob⟩:=hq
 have hloa:oa.length≤i:=by rw [hoa];exact Nat.le_trans (Zad _ _ _) (by rw [List.length_take];omega)
 have hlob:ob.length≤i:=by rw [hob];exact Nat.le_trans (Zad _ _ _) (by rw [List.length_take];omega)
 refine wp_seq ?_
 refine Zb hS (qL r2) hB [19,18,17,16,9,8,7,6,5,4,3,2] [102,101,51,50,0] rfl rfl fun a w F hS=>Za (wp_seq ?_)
 refine Zd hS rfl (fun hc0=>?_) (fun hc0=>?_)
 ·skip
  have hil:i<(Zp g o).length:=by simp at hc0;omega
  have hio:=hil
  refine wp_skip (Za (wp_seq (wp_block (wp_seq ?_))))
  refine Zc hS (qy 6 Tryz.underlying101 r2 (qf (oR true 6 .t) r1 qz (qf (oH [.int .i64 0,.bool false,.slice none 0 0,.bool false,.bool false,.bool false] 103) trivial qz (qS 6 103 r2 r1 qZ)))) hB [18,17,16,11,9,8,7,6,5,4,3,2] [103,102,101,51,50,0] (fun _=>rfl) (fun _=>rfl) fun τ a w F hS=>?_
  try dsimp only [RS.sub,SF.sub,CF.sub,csub,Anc.sub,List.map,Zf,xL,xM,Nat.reduceAdd,xD,xE,xT,xU,xC,xN,zCF,ldSF,Zj,rTx,Zs,Zv,rInt,rOp,rCmd,ZC,Zaj,ZH,Zu] at hS
  generalize τ 11=v11 at hS
  try simp only [Int.toNat_natCast] at hS
  refine Za (wp_seq (wp_seq ?_))
  refine Zb hS (qg 4 103 r1 r1 (qa 103 r1 r1 (qf (o_not .t) r1 qz (qM rfl rfl (qv 5 103 rfl r2 r1 (qw 103 rfl r2 r1 (qf (Zy .t .t) r2 qz qZ))))))) hB [28,18,17,16,11,9,8,7,6,5,4,3,2] [103,102,101,51,50,0] rfl rfl fun a w F hS=>Za ?_
  refine Zd hS rfl (fun hc1=>?_) (fun hc1=>?_)
  ·skip
   have kA:oa ++ [(fun s:Z1=>ZO.plain s.t true) (Go.Gm.nth (Zp g o) i)] = Zcp ((Zp g o).take (i+1)):=Ze0 (f:=fun s:Z1=>!s.just && s.reads) (m:=fun s:Z1=>ZO.plain s.t true) hoa hio (by simpa using hc1)
   refine Zc hS (qM rfl rfl (qg 0 103 r1 r1 (qf (oL true 3 103 .adr) r1 r1 (qf (oB [(0,.tmp 31),(1,_)] [.int .i64 0,.bool false,.slice none 0 0,.bool false] [(0,3),(3,1)] (.agg rfl .t (by kernel_rfl) (by kernel_rfl) (.one rfl .cb Zbx (by kernel_rfl) .nil))) r1 qz (qf (Zc2 (p:=.agg [.int .i64 (Go.Gm.nth (Zp g o) i).t.id,.bool (Go.Gm.nth (Zp g o) i).t.done,.sl rOp (Go.Gm.nth (Zp g o) i).t.ops,.bool true]) Tryz.underlying106 (.pagg .t)) r1 qz (qf (Zh (sz:=1) (zs:=[.nilIface]) (r:=[(0,.tmp 33)]) (l:=[_]) Tryz.underlying60 (by kernel_rfl) (by kernel_rfl) (by kernel_rfl) (by kernel_rfl) rfl rfl (.one rfl .t ZcS (by kernel_rfl) .nil) rfl) r1 qz (qf (o_append (sz:=1) (bs:=16) 50 (.mk' Tryz.underlying60 (by kernel_rfl) (by kernel_rfl)) (by intro x;rfl) .is (.arr (l':=[ZO.plain (Go.Gm.nth (Zp g o) i).t true]) .t) (by simp only [List.length_append,List.length_cons,List.length_nil];omega) (by decide)) ⟨rfl,rfl,trivial⟩ ⟨rfl,trivial⟩ (qN rfl rfl qZ)))))))) hB [18,17,16,11,9,8,7,6,5,4,3,2] [103,102,101,51,50,0] (fun _=>rfl) (fun _=>rfl) fun τ a w F hS=>?_
   try dsimp only [RS.sub,SF.sub,CF.sub,csub,Anc.sub,List.map,Zf,xL,xM,Nat.reduceAdd,xD,xE,xT,xU,xC,xN,zCF,ldSF,Zj,rTx,Zs,Zv,rInt,rOp,rCmd,ZC,Zaj,ZH,Zu] at hS
   generalize τ 35=v35 at hS
   refine Za (wp_seq ?_)
   refine Zb hS (qg 3 103 r1 r1 (qa 103 r1 r1 (qf (o_not .t) r1 qz qZ))) hB [38,18,17,16,11,9,8,7,6,5,4,3,2] [103,102,101,51,50,0] rfl rfl fun a w F hS=>Za ?_
   refine Zd hS rfl (fun hc2=>?_) (fun hc2=>?_)
   ·skip
    have kB:ob ++ [(fun s:Z1=>ZO.away s.t) (Go.Gm.nth (Zp g o) i)] = ZdV ((Zp g o).take (i+1)):=Ze0 (f:=fun s:Z1=>!s.there) (m:=fun s:Z1=>ZO.away s.t) hob hio (by simpa using hc2)
    refine Zc hS (qM rfl rfl (qg 0 103 r1 r1 (qf (oL true 3 103 .adr) r1 r1 (qf (oB [(0,.tmp 41)] [.int .i64 0,.bool false,.slice none 0 0] [(0,3)] (.agg rfl .t (by kernel_rfl) (by kernel_rfl) .nil)) r1 qz (qf (Zc2 (p:=.agg [.int .i64 (Go.Gm.nth (Zp g o) i).t.id,.bool (Go.Gm.nth (Zp g o) i).t.done,.sl rOp (Go.Gm.nth (Zp g o) i).t.ops]) Tryz.underlying108 (.pagg .t)) r1 qz (qf (Zh (sz:=1) (zs:=[.nilIface]) (r:=[(0,.tmp 43)]) (l:=[_]) Tryz.underlying60 (by kernel_rfl) (by kernel_rfl) (by kernel_rfl) (by kernel_rfl) rfl rfl (.one rfl .t ZcS (by kernel_rfl) .nil) rfl) r1 qz (qf (o_append (sz:=1) (bs:=16) 51 (.mk' Tryz.underlying60 (by kernel_rfl) (by kernel_rfl)) (by intro x;rfl) .is (.arr (l':=[ZO.away (Go.Gm.nth (Zp g o) i).t]) .t) (by simp only [List.length_append,List.length_cons,List.length_nil];omega) (by decide)) ⟨rfl,rfl,trivial⟩ ⟨rfl,trivial⟩ (qN rfl rfl qZ)))))))) hB [18,17,16,9,8,7,6,5,4,3,2] [103,102,101,51,50,0] (fun _=>rfl) (fun _=>rfl) fun τ a w F hS=>?_
    try dsimp only [RS.sub,SF.sub,CF.sub,csub,Anc.sub,List.map,Zf,xL,xM,Nat.reduceAdd,xD,xE,xT,xU,xC,xN,zCF,ldSF,Zj,rTx,Zs,Zv,rInt,rOp,rCmd,ZC,Zaj,ZH,Zu] at hS
    generalize τ 45=v45 at hS
    refine Zi (Za ?_)
    refine Zb hS (qp r1 (qM rfl rfl qZ)) hB [18,17,16,9,8,7,6,5,4,3,2] [103,102,101,51,50,0] rfl rfl fun a w F hS=>Za ?_
    replace hS:=hS.ent (i:=18) (s':=.pv (.int .i64 ((i+1:Nat):Int))) rfl (.int (Ze (by omega)))
    obtain ⟨F,hS⟩:=hS.nm [17,16,9,8,7,4,3,2,6,5,18] [102,101,0,51,50] rfl rfl
    exact ⟨((i+1),_,_,_,_),F,⟨by omega,⟨kA,kB⟩⟩,hS,by omega⟩
   have kB:ob=ZdV ((Zp g o).take (i+1)):=ZfE (f:=fun s:Z1=>!s.there) (m:=fun s:Z1=>ZO.away s.t) hob hio (by simpa using hc2)
   refine wp_skip (Zi (Za ?_))
   refine Zb hS (qp r1 (qM rfl rfl qZ)) hB [18,17,16,9,8,7,6,5,4,3,2] [103,102,101,51,50,0] rfl rfl fun a w F hS=>Za ?_
   replace hS:=hS.ent (i:=18) (s':=.pv (.int .i64 ((i+1:Nat):Int))) rfl (.int (Ze (by omega)))
   obtain ⟨F,hS⟩:=hS.nm [17,16,9,8,7,4,3,2,6,5,18] [102,101,0,51,50] rfl rfl
   exact ⟨((i+1),_,_,_,_),F,⟨by omega,⟨kA,kB⟩⟩,hS,by omega⟩
  have kA:oa=Zcp ((Zp g o).take (i+1)):=ZfE (f:=fun s:Z1=>!s.just && s.reads) (m:=fun s:Z1=>ZO.plain s.t true) hoa hio (by simpa using hc1)
  refine wp_skip (Za (wp_seq ?_))
  refine Zb hS (qg 3 103 r1 r1 (qa 103 r1 r1 (qf (o_not .t) r1 qz qZ))) hB [38,18,17,16,11,9,8,7,6,5,4,3,2] [103,102,101,51,50,0] rfl rfl fun a w F hS=>Za ?_
  refine Zd hS rfl (fun hc3=>?_) (fun hc3=>?_)
  ·skip
   have kB:ob ++ [(fun s:Z1=>ZO.away s.t) (Go.Gm.nth (Zp g o) i)] = ZdV ((Zp g o).take (i+1)):=Ze0 (f:=fun s:Z1=>!s.there) (m:=fun s:Z1=>ZO.away s.t) hob hio (by simpa using hc3)
   refine Zc hS (qM rfl rfl (qg 0 103 r1 r1 (qf (oL true 3 103 .adr) r1 r1 (qf (oB [(0,.tmp 41)] [.int .i64 0,.bool false,.slice none 0 0] [(0,3)] (.agg rfl .t (by kernel_rfl) (by kernel_rfl) .nil)) r1 qz (qf (Zc2 (p:=.agg [.int .i64 (Go.Gm.nth (Zp g o) i).t.id,.bool (Go.Gm.nth (Zp g o) i).t.done,.sl rOp (Go.Gm.nth (Zp g o) i).t.ops]) Tryz.underlying108 (.pagg .t)) r1 qz (qf (Zh (sz:=1) (zs:=[.nilIface]) (r:=[(0,.tmp 43)]) (l:=[_]) Tryz.underlying60 (by kernel_rfl) (by kernel_rfl) (by kernel_rfl) (by kernel_rfl) rfl rfl (.one rfl .t ZcS (by kernel_rfl) .nil) rfl) r1 qz (qf (o_append (sz:=1) (bs:=16) 51 (.mk' Tryz.underlying60 (by kernel_rfl) (by kernel_rfl)) (by intro x;rfl) .is (.arr (l':=[ZO.away (Go.Gm.nth (Zp g o) i).t]) .t) (by simp only [List.length_append,List.length_cons,List.length_nil];omega) (by decide)) ⟨rfl,rfl,trivial⟩ ⟨rfl,trivial⟩ (qN rfl rfl qZ)))))))) hB [18,17,16,9,8,7,6,5,4,3,2] [103,102,101,51,50,0] (fun _=>rfl) (fun _=>rfl) fun τ a w F hS=>?_
   try dsimp only [RS.sub,SF.sub,CF.sub,csub,Anc.sub,List.map,Zf,xL,xM,Nat.reduceAdd,xD,xE,xT,xU,xC,xN,zCF,ldSF,Zj,rTx,Zs,Zv,rInt,rOp,rCmd,ZC,Zaj,ZH,Zu] at hS
   generalize τ 45=v45 at hS
   refine Zi (Za ?_)
   refine Zb hS (qp r1 (qM rfl rfl qZ)) hB [18,17,16,9,8,7,6,5,4,3,2] [103,102,101,51,50,0] rfl rfl fun a w F hS=>Za ?_
   replace hS:=hS.ent (i:=18) (s':=.pv (.int .i64 ((i+1:Nat):Int))) rfl (.int (Ze (by omega)))
   obtain ⟨F,hS⟩:=hS.nm [17,16,9,8,7,4,3,2,6,5,18] [102,101,0,51,50] rfl rfl
   exact ⟨((i+1),_,_,_,_),F,⟨by omega,⟨kA,kB⟩⟩,hS,by omega⟩
  have kB:ob=ZdV ((Zp g o).take (i+1)):=ZfE (f:=fun s:Z1=>!s.there) (m:=fun s:Z1=>ZO.away s.t) hob hio (by simpa using hc3)
  refine wp_skip (Zi (Za ?_))
  refine Zb hS (qp r1 (qM rfl rfl qZ)) hB [18,17,16,9,8,7,6,5,4,3,2] [103,102,101,51,50,0] rfl rfl fun a w F hS=>Za ?_
  replace hS:=hS.ent (i:=18) (s':=.pv (.int .i64 ((i+1:Nat):Int))) rfl (.int (Ze (by omega)))
  obtain ⟨F,hS⟩:=hS.nm [17,16,9,8,7,4,3,2,6,5,18] [102,101,0,51,50] rfl rfl
  exact ⟨((i+1),_,_,_,_),F,⟨by omega,⟨kA,kB⟩⟩,hS,by omega⟩
 have hil:i=(Zp g o).length:=by simp at hc0;omega
 have hqa:oa=Zcp (Zp g o):=by rw [hoa,hil,List.take_length]
 have hqb:ob=ZdV (Zp g o):=by rw [hob,hil,List.take_length]
 subst hqa
 subst hqb
 refine wp_exit (Zk (Zk (Zq (Za (wp_seq (wp_seq ?_))))))
 refine Zb hS (qe 2 102 r1 r1 (qe 2 101 r1 r1 (qf (oP (Zlt o g ho hs) Tryz.func79 (Args.two (.pagg .t) (.pagg .t))) r2 qz (qu Tryz.underlying101 r1 (qJ qZ))))) hB [51,50,49,9,8,7,6,5,4] [102,101,51,50,0] rfl rfl fun a w F hS=>Za (wp_block ?_)
 replace hS:=hS.fresh 52 rfl
 replace hS:=hS.turn 52 rfl (Zaf (T:=63) (sz:=1) (R:=ZC))
 replace hS:=hS.fresh 53 rfl
 replace hS:=hS.turn 53 rfl (Zaf (T:=63) (sz:=1) (R:=ZC))
 replace hS:=hS.fresh 54 rfl
 replace hS:=hS.turn 54 rfl (Zaf (T:=63) (sz:=1) (R:=ZC))
 refine Zl (σ:=(Nat)×(Value)×(List ZO)×(Value)×(List ZO)×(Value)×(List ZO)) [4,5,6,49,50] [0,50,51,101,102] (fun s=>[(51,.pv (.int .i64 (s.1:Int))),(7,.pv (.is s.2.1)),(8,.pv (.is s.2.2.2.1)),(9,.pv (.is s.2.2.2.2.2.1))]) (fun s=>[(52,.ob (.val s.2.1) (Zw 63 1 ZC s.2.2.1)),(53,.ob (.val s.2.2.2.1) (Zw 63 1 ZC s.2.2.2.2.1)),(54,.ob (.val s.2.2.2.2.2.1) (Zw 63 1 ZC s.2.2.2.2.2.2))]) (fun s=>s.1≤(Zp o g).length∧(s.2.2.1=Zee ((Zp o g).take s.1)∧s.2.2.2.2.1=Zei ((Zp o g).take s.1)∧s.2.2.2.2.2.2=ZdF ((Zp o g).take s.1))) (fun s=>(Zp o g).length - s.1) ((0),(.slice none 0 0),([]),(.slice none 0 0),([]),(.slice none 0 0),([])) hS ⟨rfl,rfl,rfl,rfl,rfl,rfl,rfl,rfl,rfl,trivial⟩ ⟨rfl,rfl,rfl,rfl,rfl,rfl,rfl,rfl,trivial⟩ ⟨Nat.zero_le _,⟨rfl,rfl,rfl⟩⟩ ?_
 clear hS;intro s a w F hC hS
 obtain ⟨i,vc,oc,vd,od,ve,oe⟩:=s
 try dsimp only at hC
 obtain ⟨F,hS⟩:=hS.nm [51,50,49,9,8,7,6,5,4] [102,101,54,53,52,51,50,0] rfl rfl
 try dsimp only at hS
 obtain ⟨hi,hq⟩:=hC
 obtain ⟨hoc,hod,hoe⟩:=hq
 have hloc:oc.length≤i:=by rw [hoc];exact Nat.le_trans (Zad _ _ _) (by rw [List.length_take];omega)
 have hlod:od.length≤i:=by rw [hod];exact Nat.le_trans (Zad _ _ _) (by rw [List.length_take];omega)
 have hloe:oe.length≤i:=by rw [hoe];exact Nat.le_trans (Zad _ _ _) (by rw [List.length_take];omega)
 refine wp_seq ?_
 refine Zb hS (qL r2) hB [52,51,50,49,9,8,7,6,5,4] [102,101,54,53,52,51,50,0] rfl rfl fun a w F hS=>Za (wp_seq ?_)
 refine Zd hS rfl (fun hc4=>?_) (fun hc4=>?_)
 ·skip
  have hil:i<(Zp o g).length:=by simp at hc4;omega
  have hio:=hil
  refine wp_skip (Za (wp_seq (wp_block (wp_seq ?_))))
  refine Zc hS (qy 6 Tryz.underlying101 r2 (qf (oR true 6 .t) r1 qz (qf (oH [.int .i64 0,.bool false,.slice none 0 0,.bool false,.bool false,.bool false] 104) trivial qz (qS 6 104 r2 r1 qZ)))) hB [51,50,49,13,9,8,7,6,5,4] [104,102,101,54,53,52,51,50,0] (fun _=>rfl) (fun _=>rfl) fun τ a w F hS=>?_
  try dsimp only [RS.sub,SF.sub,CF.sub,csub,Anc.sub,List.map,Zf,xL,xM,Nat.reduceAdd,xD,xE,xT,xU,xC,xN,zCF,ldSF,Zj,rTx,Zs,Zv,rInt,rOp,rCmd,ZC,Zaj,ZH,Zu] at hS
  generalize τ 13=v13 at hS
  try simp only [Int.toNat_natCast] at hS
  refine Za (wp_seq (wp_block (wp_seq ?_)))
  refine Zb hS (qg 4 104 r1 r1 (qa 104 r1 r1 (qN rfl rfl qZ))) hB [62,51,50,49,13,9,8,7,6,5,4] [104,102,101,54,53,52,51,50,0] rfl rfl fun a w F hS=>Za ?_
  refine Zd hS rfl (fun hc5=>?_) (fun hc5=>?_)
  ·skip
   have hj:(Go.Gm.nth (Zp o g) i).just=true:=hc5
   have kC:oc=Zee ((Zp o g).take (i+1)):=ZfE (f:=fun s:Z1=>!s.just && s.there) (m:=fun s:Z1=>ZO.plain s.t true) hoc hio (by simp [hj])
   have kD:od=Zei ((Zp o g).take (i+1)):=ZfE (f:=fun s:Z1=>!s.just && !s.there) (m:=fun s:Z1=>ZO.plain s.t false) hod hio (by simp [hj])
   have kE:oe=ZdF ((Zp o g).take (i+1)):=ZfE (f:=fun s:Z1=>!s.just && s.reads) (m:=fun s:Z1=>ZO.whole s.t) hoe hio (by simp [hj])
   refine wp_exit ?_
   refine ZnA (by decide) ?_
   refine Zk (Zq (Za ?_))
   refine Zb hS (qp r1 (qM rfl rfl qZ)) hB [51,50,49,9,8,7,6,5,4] [104,102,101,54,53,52,51,50,0] rfl rfl fun a w F hS=>Za ?_
   replace hS:=hS.ent (i:=51) (s':=.pv (.int .i64 ((i+1:Nat):Int))) rfl (.int (Ze (by omega)))
   obtain ⟨F,hS⟩:=hS.nm [50,49,6,5,4,9,8,7,51] [102,101,51,50,0,54,53,52] rfl rfl
   exact ⟨((i+1),_,_,_,_,_,_),F,⟨by omega,⟨kC,kD,kE⟩⟩,hS,by omega⟩
  have hj:(Go.Gm.nth (Zp o g) i).just=false:=hc5
  refine wp_seq ?_
  refine Zb hS (qg 3 104 r1 r1 (qa 104 r1 r1 (qN rfl rfl qZ))) hB [65,51,50,49,13,9,8,7,6,5,4] [104,102,101,54,53,52,51,50,0] rfl rfl fun a w F hS=>Za ?_
  refine Zd hS rfl (fun hc6=>?_) (fun hc6=>?_)
  ·skip
   have ht:(Go.Gm.nth (Zp o g) i).there=true:=hc6
   have kC:oc ++ [(fun s:Z1=>ZO.plain s.t true) (Go.Gm.nth (Zp o g) i)] = Zee ((Zp o g).take (i+1)):=Ze0 (f:=fun s:Z1=>!s.just && s.there) (m:=fun s:Z1=>ZO.plain s.t true) hoc hio (by simp [hj,ht])
   have kD:od=Zei ((Zp o g).take (i+1)):=ZfE (f:=fun s:Z1=>!s.just && !s.there) (m:=fun s:Z1=>ZO.plain s.t false) hod hio (by simp [hj,ht])
   refine Zc hS (qM rfl rfl (qg 0 104 r1 r1 (qf (oL true 3 104 .adr) r1 r1 (qf (oB [(0,.tmp 70),(1,_)] [.int .i64 0,.bool false,.slice none 0 0,.bool false] [(0,3),(3,1)] (.agg rfl .t (by kernel_rfl) (by kernel_rfl) (.one rfl .cb Zbx (by kernel_rfl) .nil))) r1 qz (qf (Zc2 (p:=.agg [.int .i64 (Go.Gm.nth (Zp o g) i).t.id,.bool (Go.Gm.nth (Zp o g) i).t.done,.sl rOp (Go.Gm.nth (Zp o g) i).t.ops,.bool true]) Tryz.underlying106 (.pagg .t)) r1 qz (qf (Zh (sz:=1) (zs:=[.nilIface]) (r:=[(0,.tmp 72)]) (l:=[_]) Tryz.underlying60 (by kernel_rfl) (by kernel_rfl) (by kernel_rfl) (by kernel_rfl) rfl rfl (.one rfl .t ZcS (by kernel_rfl) .nil) rfl) r1 qz (qf (o_append (sz:=1) (bs:=16) 52 (.mk' Tryz.underlying60 (by kernel_rfl) (by kernel_rfl)) (by intro x;rfl) .is (.arr (l':=[ZO.plain (Go.Gm.nth (Zp o g) i).t true]) .t) (by simp only [List.length_append,List.length_cons,List.length_nil];omega) (by decide)) ⟨rfl,rfl,trivial⟩ ⟨rfl,trivial⟩ (qN rfl rfl qZ)))))))) hB [51,50,49,13,9,8,7,6,5,4] [104,102,101,54,53,52,51,50,0] (fun _=>rfl) (fun _=>rfl) fun τ a w F hS=>?_
   try dsimp only [RS.sub,SF.sub,CF.sub,csub,Anc.sub,List.map,Zf,xL,xM,Nat.reduceAdd,xD,xE,xT,xU,xC,xN,zCF,ldSF,Zj,rTx,Zs,Zv,rInt,rOp,rCmd,ZC,Zaj,ZH,Zu] at hS
   generalize τ 74=v74 at hS
   refine Zi (Za (wp_seq ?_))
   refine Zb hS (qg 5 104 r1 r1 (qa 104 r1 r1 qZ)) hB [76,51,50,49,13,9,8,7,6,5,4] [104,102,101,54,53,52,51,50,0] rfl rfl fun a w F hS=>Za ?_
   refine Zd hS rfl (fun hc7=>?_) (fun hc7=>?_)
   ·skip
    have hrd:(Go.Gm.nth (Zp o g) i).reads=true:=hc7
    have kE:oe ++ [(fun s:Z1=>ZO.whole s.t) (Go.Gm.nth (Zp o g) i)] = ZdF ((Zp o g).take (i+1)):=Ze0 (f:=fun s:Z1=>!s.just && s.reads) (m:=fun s:Z1=>ZO.whole s.t) hoe hio (by simp [hj,hrd])
    refine Zc hS (qM rfl rfl (qg 0 104 r1 r1 (qf (oL true 3 104 .adr) r1 r1 (qf (oB [(0,.tmp 79)] [.int .i64 0,.bool false,.slice none 0 0] [(0,3)] (.agg rfl .t (by kernel_rfl) (by kernel_rfl) .nil)) r1 qz (qf (Zc2 (p:=.agg [.int .i64 (Go.Gm.nth (Zp o g) i).t.id,.bool (Go.Gm.nth (Zp o g) i).t.done,.sl rOp (Go.Gm.nth (Zp o g) i).t.ops]) Tryz.underlying109 (.pagg .t)) r1 qz (qf (Zh (sz:=1) (zs:=[.nilIface]) (r:=[(0,.tmp 81)]) (l:=[_]) Tryz.underlying60 (by kernel_rfl) (by kernel_rfl) (by kernel_rfl) (by kernel_rfl) rfl rfl (.one rfl .t ZcS (by kernel_rfl) .nil) rfl) r1 qz (qf (o_append (sz:=1) (bs:=16) 54 (.mk' Tryz.underlying60 (by kernel_rfl) (by kernel_rfl)) (by intro x;rfl) .is (.arr (l':=[ZO.whole (Go.Gm.nth (Zp o g) i).t]) .t) (by simp only [List.length_append,List.length_cons,List.length_nil];omega) (by decide)) ⟨rfl,rfl,trivial⟩ ⟨rfl,trivial⟩ (qN rfl rfl qZ)))))))) hB [51,50,49,9,8,7,6,5,4] [104,102,101,54,53,52,51,50,0] (fun _=>rfl) (fun _=>rfl) fun τ a w F hS=>?_
    try dsimp only [RS.sub,SF.sub,CF.sub,csub,Anc.sub,List.map,Zf,xL,xM,Nat.reduceAdd,xD,xE,xT,xU,xC,xN,zCF,ldSF,Zj,rTx,Zs,Zv,rInt,rOp,rCmd,ZC,Zaj,ZH,Zu] at hS
    generalize τ 83=v83 at hS
    refine Zi (Za ?_)
    refine Zb hS (qp r1 (qM rfl rfl qZ)) hB [51,50,49,9,8,7,6,5,4] [104,102,101,54,53,52,51,50,0] rfl rfl fun a w F hS=>Za ?_
    replace hS:=hS.ent (i:=51) (s':=.pv (.int .i64 ((i+1:Nat):Int))) rfl (.int (Ze (by omega)))
    obtain ⟨F,hS⟩:=hS.nm [50,49,6,5,4,9,8,7,51] [102,101,51,50,0,54,53,52] rfl rfl
    exact ⟨((i+1),_,_,_,_,_,_),F,⟨by omega,⟨kC,kD,kE⟩⟩,hS,by omega⟩
   have hrd:(Go.Gm.nth (Zp o g) i).reads=false:=hc7
   have kE:oe=ZdF ((Zp o g).take (i+1)):=ZfE (f:=fun s:Z1=>!s.just && s.reads) (m:=fun s:Z1=>ZO.whole s.t) hoe hio (by simp [hj,hrd])
   refine wp_skip (Zi (Za ?_))
   refine Zb hS (qp r1 (qM rfl rfl qZ)) hB [51,50,49,9,8,7,6,5,4] [104,102,101,54,53,52,51,50,0] rfl rfl fun a w F hS=>Za ?_
   replace hS:=hS.ent (i:=51) (s':=.pv (.int .i64 ((i+1:Nat):Int))) rfl (.int (Ze (by omega)))
   obtain ⟨F,hS⟩:=hS.nm [50,49,6,5,4,9,8,7,51] [102,101,51,50,0,54,53,52] rfl rfl
   exact ⟨((i+1),_,_,_,_,_,_),F,⟨by omega,⟨kC,kD,kE⟩⟩,hS,by omega⟩
  have ht:(Go.Gm.nth (Zp o g) i).there=false:=hc6
  have kC:oc=Zee ((Zp o g).take (i+1)):=ZfE (f:=fun s:Z1=>!s.just && s.there) (m:=fun s:Z1=>ZO.plain s.t true) hoc hio (by simp [hj,ht])
  have kD:od ++ [(fun s:Z1=>ZO.plain s.t false) (Go.Gm.nth (Zp o g) i)] = Zei ((Zp o g).take (i+1)):=Ze0 (f:=fun s:Z1=>!s.just && !s.there) (m:=fun s:Z1=>ZO.plain s.t false) hod hio (by simp [hj,ht])
  refine Zc hS (qM rfl rfl (qg 0 104 r1 r1 (qf (oL true 3 104 .adr) r1 r1 (qf (oB [(0,.tmp 57),(1,_)] [.int .i64 0,.bool false,.slice none 0 0,.bool false] [(0,3),(3,1)] (.agg rfl .t (by kernel_rfl) (by kernel_rfl) (.one rfl .cb Zbx (by kernel_rfl) .nil))) r1 qz (qf (Zc2 (p:=.agg [.int .i64 (Go.Gm.nth (Zp o g) i).t.id,.bool (Go.Gm.nth (Zp o g) i).t.done,.sl rOp (Go.Gm.nth (Zp o g) i).t.ops,.bool false]) Tryz.underlying106 (.pagg .t)) r1 qz (qf (Zh (sz:=1) (zs:=[.nilIface]) (r:=[(0,.tmp 59)]) (l:=[_]) Tryz.underlying60 (by kernel_rfl) (by kernel_rfl) (by kernel_rfl) (by kernel_rfl) rfl rfl (.one rfl .t ZcS (by kernel_rfl) .nil) rfl) r1 qz (qf (o_append (sz:=1) (bs:=16) 53 (.mk' Tryz.underlying60 (by kernel_rfl) (by kernel_rfl)) (by intro x;rfl) .is (.arr (l':=[ZO.plain (Go.Gm.nth (Zp o g) i).t false]) .t) (by simp only [List.length_append,List.length_cons,List.length_nil];omega) (by decide)) ⟨rfl,rfl,trivial⟩ ⟨rfl,trivial⟩ (qN rfl rfl qZ)))))))) hB [51,50,49,13,9,8,7,6,5,4] [104,102,101,54,53,52,51,50,0] (fun _=>rfl) (fun _=>rfl) fun τ a w F hS=>?_
  try dsimp only [RS.sub,SF.sub,CF.sub,csub,Anc.sub,List.map,Zf,xL,xM,Nat.reduceAdd,xD,xE,xT,xU,xC,xN,zCF,ldSF,Zj,rTx,Zs,Zv,rInt,rOp,rCmd,ZC,Zaj,ZH,Zu] at hS
  generalize τ 61=v61 at hS
  refine Zi (Za (wp_seq ?_))
  refine Zb hS (qg 5 104 r1 r1 (qa 104 r1 r1 qZ)) hB [76,51,50,49,13,9,8,7,6,5,4] [104,102,101,54,53,52,51,50,0] rfl rfl fun a w F hS=>Za ?_
  refine Zd hS rfl (fun hc8=>?_) (fun hc8=>?_)
  ·skip
   have hrd:(Go.Gm.nth (Zp o g) i).reads=true:=hc8
   have kE:oe ++ [(fun s:Z1=>ZO.whole s.t) (Go.Gm.nth (Zp o g) i)] = ZdF ((Zp o g).take (i+1)):=Ze0 (f:=fun s:Z1=>!s.just && s.reads) (m:=fun s:Z1=>ZO.whole s.t) hoe hio (by simp [hj,hrd])
   refine Zc hS (qM rfl rfl (qg 0 104 r1 r1 (qf (oL true 3 104 .adr) r1 r1 (qf (oB [(0,.tmp 79)] [.int .i64 0,.bool false,.slice none 0 0] [(0,3)] (.agg rfl .t (by kernel_rfl) (by kernel_rfl) .nil)) r1 qz (qf (Zc2 (p:=.agg [.int .i64 (Go.Gm.nth (Zp o g) i).t.id,.bool (Go.Gm.nth (Zp o g) i).t.done,.sl rOp (Go.Gm.nth (Zp o g) i).t.ops]) Tryz.underlying109 (.pagg .t)) r1 qz (qf (Zh (sz:=1) (zs:=[.nilIface]) (r:=[(0,.tmp 81)]) (l:=[_]) Tryz.underlying60 (by kernel_rfl) (by kernel_rfl) (by kernel_rfl) (by kernel_rfl) rfl rfl (.one rfl .t ZcS (by kernel_rfl) .nil) rfl) r1 qz (qf (o_append (sz:=1) (bs:=16) 54 (.mk' Tryz.underlying60 (by kernel_rfl) (by kernel_rfl)) (by intro x;rfl) .is (.arr (l':=[ZO.whole (Go.Gm.nth (Zp o g) i).t]) .t) (by simp only [List.length_append,List.length_cons,List.length_nil];omega) (by decide)) ⟨rfl,rfl,trivial⟩ ⟨rfl,trivial⟩ (qN rfl rfl qZ)))))))) hB [51,50,49,9,8,7,6,5,4] [104,102,101,54,53,52,51,50,0] (fun _=>rfl) (fun _=>rfl) fun τ a w F hS=>?_
   try dsimp only [RS.sub,SF.sub,CF.sub,csub,Anc.sub,List.map,Zf,xL,xM,Nat.reduceAdd,xD,xE,xT,xU,xC,xN,zCF,ldSF,Zj,rTx,Zs,Zv,rInt,rOp,rCmd,ZC,Zaj,ZH,Zu] at hS
   generalize τ 83=v83 at hS
   refine Zi (Za ?_)
   refine Zb hS (qp r1 (qM rfl rfl qZ)) hB [51,50,49,9,8,7,6,5,4] [104,102,101,54,53,52,51,50,0] rfl rfl fun a w F hS=>Za ?_
   replace hS:=hS.ent (i:=51) (s':=.pv (.int .i64 ((i+1:Nat):Int))) rfl (.int (Ze (by omega)))
   obtain ⟨F,hS⟩:=hS.nm [50,49,6,5,4,9,8,7,51] [102,101,51,50,0,54,53,52] rfl rfl
   exact ⟨((i+1),_,_,_,_,_,_),F,⟨by omega,⟨kC,kD,kE⟩⟩,hS,by omega⟩
  have hrd:(Go.Gm.nth (Zp o g) i).reads=false:=hc8
  have kE:oe=ZdF ((Zp o g).take (i+1)):=ZfE (f:=fun s:Z1=>!s.just && s.reads) (m:=fun s:Z1=>ZO.whole s.t) hoe hio (by simp [hj,hrd])
  refine wp_skip (Zi (Za ?_))
  refine Zb hS (qp r1 (qM rfl rfl qZ)) hB [51,50,49,9,8,7,6,5,4] [104,102,101,54,53,52,51,50,0] rfl rfl fun a w F hS=>Za ?_
  replace hS:=hS.ent (i:=51) (s':=.pv (.int .i64 ((i+1:Nat):Int))) rfl (.int (Ze (by omega)))
  obtain ⟨F,hS⟩:=hS.nm [50,49,6,5,4,9,8,7,51] [102,101,51,50,0,54,53,52] rfl rfl
  exact ⟨((i+1),_,_,_,_,_,_),F,⟨by omega,⟨kC,kD,kE⟩⟩,hS,by omega⟩
 have hil:i=(Zp o g).length:=by simp at hc4;omega
 have hqc:oc=Zee (Zp o g):=by rw [hoc,hil,List.take_length]
 have hqd:od=Zei (Zp o g):=by rw [hod,hil,List.take_length]
 have hqe:oe=ZdF (Zp o g):=by rw [hoe,hil,List.take_length]
 subst hqc
 subst hqd
 subst hqe
 refine wp_exit (Zk (Zk (Zq (Za (wp_seq ?_)))))
 obtain ⟨F,hS⟩:=hS.give 50 5 rfl rfl
 obtain ⟨F,hS⟩:=hS.nm [52,51,50,49,9,8,7,6,5,4] [102,101,54,53,52,51,0] rfl rfl
 obtain ⟨F,hS⟩:=hS.give 51 6 rfl rfl
 obtain ⟨F,hS⟩:=hS.nm [52,51,50,49,9,8,7,6,5,4] [102,101,54,53,52,0] rfl rfl
 obtain ⟨F,hS⟩:=hS.give 52 7 rfl rfl
 obtain ⟨F,hS⟩:=hS.nm [52,51,50,49,9,8,7,6,5,4] [102,101,54,53,0] rfl rfl
 obtain ⟨F,hS⟩:=hS.give 53 8 rfl rfl
 obtain ⟨F,hS⟩:=hS.nm [52,51,50,49,9,8,7,6,5,4] [102,101,54,0] rfl rfl
 obtain ⟨F,hS⟩:=hS.give 54 9 rfl rfl
 obtain ⟨F,hS⟩:=hS.nm [52,51,50,49,9,8,7,6,5,4] [102,101,0] rfl rfl
 refine Zb hS (qM rfl rfl (qM rfl rfl (qM rfl rfl (qM rfl rfl (qM rfl rfl (qf (Zh (sz:=1) (zs:=[.slice none 0 0]) (r:=[(0,.tmp 85),(1,.tmp 86),(2,.tmp 87),(3,.tmp 88),(4,.tmp 89)]) (l:=[_,_,_,_,_]) Tryz.underlying171 (by kernel_rfl) (by kernel_rfl) (by kernel_rfl) (by kernel_rfl) rfl rfl (.one rfl .t one_sl (by kernel_rfl) (.one rfl .t one_sl (by kernel_rfl) (.one rfl .t one_sl (by kernel_rfl) (.one rfl .t one_sl (by kernel_rfl) (.one rfl .t one_sl (by kernel_rfl) .nil))))) rfl) r5 qz (qf (oP (Zmw [Zcp (Zp g o),ZdV (Zp g o),Zee (Zp o g),Zei (Zp o g),ZdF (Zp o g)] (by have h9:=Zc7 g o;unfold Zao at h9;omega) (by simp)) Tryz.func80 (Args.one (.conv .t (Ent.arrSl (R:=Zaj) (l:=[Zcp (Zp g o),ZdV (Zp g o),Zee (Zp o g),Zei (Zp o g),ZdF (Zp o g)]) rfl)))) r1 qz (qN rfl rfl qZ)))))))) hB [4] [102,101,0] rfl rfl fun a w F hS=>Za (wp_ret ?_)
 refine Zr hfr hS rfl rfl rfl .refl
theorem Zl8 (t:TxD):FnP Tryz.prog 242 [.agg (rTx t)] (.agg (rTx t)):=by
 refine FnP.mk Tryz.func242 rfl Tryz.ntmps242 rfl ?_
 intro B a w F hB hfr hS
 refine wp_seq ?_
 refine Zc hS (qx 101 r1 (qf (oH [.int .i64 0,.bool false,.slice none 0 0] 102) trivial qz qZ)) hB [2,1] [102,101,0] (fun _=>rfl) (fun _=>rfl) fun τ a w F hS=>?_
 try dsimp only [RS.sub,SF.sub,CF.sub,csub,Anc.sub,List.map,zCF,Zj,rTx,Zs,Zv,rInt,rOp,rCmd,ZC,Zaj,ZH,Zu] at hS
 generalize τ 1=v1 at hS
 generalize τ 2=v2 at hS
 refine Za (wp_seq ?_)
 refine Zb hS (qg 0 101 r1 r1 (qf (oL true 3 101 .adr) r1 r1 (qs 3 102 r2 r1 qZ))) hB [2] [102,101,0] rfl rfl fun a w F hS=>Za (wp_ret ?_)
 refine ZA hfr hS rfl (.cl 102 true 3 rfl rfl .nil) (.one (.aggU rfl rfl))
theorem ZlM (t:TxD) (b:Bool):FnP Tryz.prog 241 [.agg [.int .i64 t.id,.bool t.done,.sl rOp t.ops,.bool b]] (.agg (rTx t)):=by
 refine FnP.mk Tryz.func241 rfl Tryz.ntmps241 rfl ?_
 intro B a w F hB hfr hS
 refine wp_seq ?_
 refine Zc hS (qx 101 r1 (qf (oH [.int .i64 0,.bool false,.slice none 0 0] 102) trivial qz qZ)) hB [2,1] [102,101,0] (fun _=>rfl) (fun _=>rfl) fun τ a w F hS=>?_
 try dsimp only [RS.sub,SF.sub,CF.sub,csub,Anc.sub,List.map,zCF,Zj,rTx,Zs,Zv,rInt,rOp,rCmd,ZC,Zaj,ZH,Zu] at hS
 generalize τ 1=v1 at hS
 generalize τ 2=v2 at hS
 refine Za (wp_seq ?_)
 refine Zb hS (qg 0 101 r1 r1 (qf (oL true 3 101 .adr) r1 r1 (qs 3 102 r2 r1 qZ))) hB [2] [102,101,0] rfl rfl fun a w F hS=>Za (wp_ret ?_)
 refine ZA hfr hS rfl (.cl 102 true 3 rfl rfl .nil) (.one (.aggU rfl rfl))
theorem Zmm (t:TxD):FnP Tryz.prog 243 [.agg (rTx t)] (.agg (rTx t)):=by
 refine FnP.mk Tryz.func243 rfl Tryz.ntmps243 rfl ?_
 intro B a w F hB hfr hS
 refine wp_seq ?_
 refine Zc hS (qx 101 r1 (qf (oH [.int .i64 0,.bool false,.slice none 0 0] 102) trivial qz qZ)) hB [2,1] [102,101,0] (fun _=>rfl) (fun _=>rfl) fun τ a w F hS=>?_
 try dsimp only [RS.sub,SF.sub,CF.sub,csub,Anc.sub,List.map,zCF,Zj,rTx,Zs,Zv,rInt,rOp,rCmd,ZC,Zaj,ZH,Zu] at hS
 generalize τ 1=v1 at hS
 generalize τ 2=v2 at hS
 refine Za (wp_seq ?_)
 refine Zb hS (qg 0 101 r1 r1 (qf (oL true 3 101 .adr) r1 r1 (qs 3 102 r2 r1 qZ))) hB [2] [102,101,0] rfl rfl fun a w F hS=>Za (wp_ret ?_)
 refine ZA hfr hS rfl (.cl 102 true 3 rfl rfl .nil) (.one (.aggU rfl rfl))
theorem Zj7 (t:TxD) (hl:t.ops.length≤1000):FnP Tryz.prog 32 [.ifc 108 (.agg (rTx t))] (.agg (rCmd (Zb6 (.away t)))):=by
 refine FnP.mk Tryz.func32 rfl Tryz.ntmps32 rfl ?_
 intro B a w F hB hfr hS
 refine wp_seq ?_
 refine Zc hS (qf (oH [.int .i64 0,.int .i64 0,.bool false,.slice none 0 0,.int .i64 0,.slice none 0 0,.int .i64 0,.int .i64 0,.int .i64 0,.int .i64 0] 101) trivial qz qZ) hB [2,0] [101,0] (fun _=>rfl) (fun _=>rfl) fun τ a w F hS=>?_
 try dsimp only [RS.sub,SF.sub,CF.sub,csub,Anc.sub,List.map,zCF,Zj,rTx,Zs,Zv,rInt,rOp,rCmd,ZC,Zaj,ZH,Zu,Zb6,Zeu,Zem,ZbV,bareT,zeroC,zeroT,rCmd] at hS
 generalize τ 2=v2 at hS
 refine Za (wp_seq ?_)
 refine Zc hS (qM rfl rfl (qf (Zgu .t (Zl8 t) Tryz.underlying108 (by kernel_rfl) Tryz.func242 rfl (by kernel_rfl)) r1 qz (qf (oH [.int .i64 0,.bool false,.slice none 0 0] 102) trivial qz (qf (oA 3 102 .same (.conv .t .agg)) r2 r1 qZ)))) hB [3,2,0] [102,101,0] (fun _=>rfl) (fun _=>rfl) fun τ a w F hS=>?_
 try dsimp only [RS.sub,SF.sub,CF.sub,csub,Anc.sub,List.map,Zf,xL,xM,Nat.reduceAdd,xD,xE,xT,xU,xC,xN,zCF,Zj,rTx,Zs,Zv,rInt,rOp,rCmd,ZC,Zaj,ZH,Zu,Zb6,Zeu,Zem,ZbV,bareT,zeroC,zeroT,rCmd] at hS
 generalize τ 3=v3 at hS
 refine Za (wp_seq ?_)
 replace hS:=hS.fresh 103 rfl
 refine Zc hS (qg 2 102 r1 r1 (qa 102 r1 r1 (qf (ZaM 103 (Zcw t.ops (by omega)) Tryz.func49 rfl (by kernel_rfl) (Args.one .t) ZaF) r1 r1 (qg 2 102 r1 r1 (qf (Zau 102 .adr (by kernel_rfl) (by kernel_rfl)) r2 r1 qZ))))) hB [3,2,0] [103,102,101,0] (fun _=>rfl) (fun _=>rfl) fun τ a w F hS=>?_
 try dsimp only [RS.sub,SF.sub,CF.sub,csub,Anc.sub,List.map,Zf,xL,xM,Nat.reduceAdd,xD,xE,xT,xU,xC,xN,zCF,ldSF,Zj,rTx,Zs,Zv,rInt,rOp,rCmd,ZC,Zaj,ZH,Zu,Zb6,Zeu,Zem,ZbV,bareT,zeroC,zeroT,rCmd] at hS
 generalize τ 10=v10 at hS
 obtain ⟨F,hS⟩:=hS.giveCell 103 102 2 rfl rfl rfl rfl rfl
 try dsimp only [List.set] at hS
 obtain ⟨F,hS⟩:=hS.nm [3,2,0] [102,101,0] rfl rfl
 refine Za (wp_seq (wp_seq ?_))
 refine Zb hS (qM rfl rfl qZ) hB [12,3,2] [102,101,0] rfl rfl fun a w F hS=>Za (wp_block (wp_seq ?_))
 refine Zb hS (qf (Ze6 Tryz.underlying108 .t) r1 qz (qf (o_extract .t rfl) r1 qz (qf (o_extract .t rfl) r1 qz qZ))) hB [15,14,12,3,2] [102,101,0] rfl rfl fun a w F hS=>Za ?_
 refine Zd hS rfl (fun hc0=>?_) (fun hc0=>?_)
 ·skip
  refine wp_seq ?_
  refine Zc hS (qf (oH [.int .i64 0,.bool false,.slice none 0 0] 104) trivial qz (qf (oA 3 104 .same (.conv .t .agg)) r2 r1 qZ)) hB [3,2] [104,102,101,0] (fun _=>rfl) (fun _=>rfl) fun τ a w F hS=>?_
  try dsimp only [RS.sub,SF.sub,CF.sub,csub,Anc.sub,List.map,Zf,xL,xM,Nat.reduceAdd,xD,xE,xT,xU,xC,xN,zCF,Zj,rTx,Zs,Zv,rInt,rOp,rCmd,ZC,Zaj,ZH,Zu,Zb6,Zeu,Zem,ZbV,bareT,zeroC,zeroT,rCmd] at hS
  generalize τ 4=v4 at hS
  refine Za (wp_seq ?_)
  refine Zb hS (qg 0 102 r1 r1 (qa 102 r1 r1 (qf (oB [(0,_),(4,.tmp 17)] [.int .i64 0,.int .i64 0,.bool false,.slice none 0 0,.int .i64 0,.slice none 0 0,.int .i64 0,.int .i64 0,.int .i64 0,.int .i64 0] [(0,1),(1,3),(4,2),(6,1),(7,1),(8,1),(9,1)] (.one rfl qi one_int (by kernel_rfl) (.one rfl .t one_int (by kernel_rfl) .nil))) r1 qz (qs 10 101 r2 r1 qZ)))) hB [3,2] [104,102,101,0] rfl rfl fun a w F hS=>Za (wp_ret (Zm (Zg ?_)))
  refine ZA hfr hS rfl (.cl 101 true 10 rfl rfl .nil) (.one (.aggLe rfl (by refine ⟨?_,?_,?_,?_,?_,?_,?_,?_,?_,?_,trivial⟩ <;> first | exact PVLe.refl | exact PVLe.nilSl)))
 cases hc0
theorem ZjA (t:TxD) (b:Bool) (hl:t.ops.length≤1000):FnP Tryz.prog 32 [.ifc 106 (.agg [.int .i64 t.id,.bool t.done,.sl rOp t.ops,.bool b])] (.agg (rCmd (Zb6 (.plain t b)))):=by
 refine FnP.mk Tryz.func32 rfl Tryz.ntmps32 rfl ?_
 intro B a w F hB hfr hS
 refine wp_seq ?_
 refine Zc hS (qf (oH [.int .i64 0,.int .i64 0,.bool false,.slice none 0 0,.int .i64 0,.slice none 0 0,.int .i64 0,.int .i64 0,.int .i64 0,.int .i64 0] 101) trivial qz qZ) hB [2,0] [101,0] (fun _=>rfl) (fun _=>rfl) fun τ a w F hS=>?_
 try dsimp only [RS.sub,SF.sub,CF.sub,csub,Anc.sub,List.map,zCF,Zj,rTx,Zs,Zv,rInt,rOp,rCmd,ZC,Zaj,ZH,Zu,Zb6,Zeu,Zem,ZbV,bareT,zeroC,zeroT,rCmd] at hS
 generalize τ 2=v2 at hS
 refine Za (wp_seq ?_)
 refine Zc hS (qM rfl rfl (qf (Zgu .t (ZlM t b) Tryz.underlying106 (by kernel_rfl) Tryz.func241 rfl (by kernel_rfl)) r1 qz (qf (oH [.int .i64 0,.bool false,.slice none 0 0] 102) trivial qz (qf (oA 3 102 .same (.conv .t .agg)) r2 r1 qZ)))) hB [3,2,0] [102,101,0] (fun _=>rfl) (fun _=>rfl) fun τ a w F hS=>?_
 try dsimp only [RS.sub,SF.sub,CF.sub,csub,Anc.sub,List.map,Zf,xL,xM,Nat.reduceAdd,xD,xE,xT,xU,xC,xN,zCF,Zj,rTx,Zs,Zv,rInt,rOp,rCmd,ZC,Zaj,ZH,Zu,Zb6,Zeu,Zem,ZbV,bareT,zeroC,zeroT,rCmd] at hS
 generalize τ 3=v3 at hS
 refine Za (wp_seq ?_)
 replace hS:=hS.fresh 103 rfl
 refine Zc hS (qg 2 102 r1 r1 (qa 102 r1 r1 (qf (ZaM 103 (Zcw t.ops (by omega)) Tryz.func49 rfl (by kernel_rfl) (Args.one .t) ZaF) r1 r1 (qg 2 102 r1 r1 (qf (Zau 102 .adr (by kernel_rfl) (by kernel_rfl)) r2 r1 qZ))))) hB [3,2,0] [103,102,101,0] (fun _=>rfl) (fun _=>rfl) fun τ a w F hS=>?_
 try dsimp only [RS.sub,SF.sub,CF.sub,csub,Anc.sub,List.map,Zf,xL,xM,Nat.reduceAdd,xD,xE,xT,xU,xC,xN,zCF,ldSF,Zj,rTx,Zs,Zv,rInt,rOp,rCmd,ZC,Zaj,ZH,Zu,Zb6,Zeu,Zem,ZbV,bareT,zeroC,zeroT,rCmd] at hS
 generalize τ 10=v10 at hS
 obtain ⟨F,hS⟩:=hS.giveCell 103 102 2 rfl rfl rfl rfl rfl
 try dsimp only [List.set] at hS
 obtain ⟨F,hS⟩:=hS.nm [3,2,0] [102,101,0] rfl rfl
 refine Za (wp_seq (wp_seq ?_))
 refine Zb hS (qM rfl rfl qZ) hB [12,3,2] [102,101,0] rfl rfl fun a w F hS=>Za (wp_block (wp_seq ?_))
 refine Zb hS (qf (Zca (zs:=[.int .i64 0,.bool false,.slice none 0 0]) Tryz.underlying108 (by kernel_rfl) (by rfl) .t) r1 qz (qf (o_extract .t rfl) r1 qz (qf (o_extract .t rfl) r1 qz qZ))) hB [15,14,12,3,2] [102,101,0] rfl rfl fun a w F hS=>Za ?_
 refine Zd hS rfl (fun hc0=>?_) (fun hc0=>?_)
 ·skip
  cases hc0
 refine wp_seq ?_
 refine Zb hS (qf (Ze6 Tryz.underlying106 .t) r1 qz (qf (o_extract .t rfl) r1 qz (qf (o_extract .t rfl) r1 qz qZ))) hB [21,20,3,2] [102,101,0] rfl rfl fun a w F hS=>Za ?_
 refine Zd hS rfl (fun hc1=>?_) (fun hc1=>?_)
 ·skip
  refine wp_seq ?_
  refine Zc hS (qf (oH [.int .i64 0,.bool false,.slice none 0 0,.bool false] 104) trivial qz (qf (oA 4 104 .same (.conv .t .agg)) r2 r1 qZ)) hB [5,3,2] [104,102,101,0] (fun _=>rfl) (fun _=>rfl) fun τ a w F hS=>?_
  try dsimp only [RS.sub,SF.sub,CF.sub,csub,Anc.sub,List.map,Zf,xL,xM,Nat.reduceAdd,xD,xE,xT,xU,xC,xN,zCF,Zj,rTx,Zs,Zv,rInt,rOp,rCmd,ZC,Zaj,ZH,Zu,Zb6,Zeu,Zem,ZbV,bareT,zeroC,zeroT,rCmd] at hS
  generalize τ 5=v5 at hS
  refine Za (wp_seq (wp_seq ?_))
  refine Zb hS (qg 3 104 r1 r1 (qa 104 r1 r1 (qf (o_not .t) r1 qz qZ))) hB [24,3,2] [104,102,101,0] rfl rfl fun a w F hS=>Za ?_
  refine Zd hS rfl (fun hc2=>?_) (fun hc2=>?_)
  ·skip
   have hbb:b=false:=by simpa using hc2
   subst hbb
   refine wp_seq ?_
   refine Zb hS (qe 3 102 r1 r1 (qf (oP (Zis t (by omega)) Tryz.func47 (Args.one (.pagg .t))) r1 qz (qf (oB [(0,_),(1,.tmp 26)] [.int .i64 0,.int .i64 0,.bool false,.slice none 0 0,.int .i64 0,.slice none 0 0,.int .i64 0,.int .i64 0,.int .i64 0,.int .i64 0] [(0,1),(1,3),(4,2),(6,1),(7,1),(8,1),(9,1)] (.one rfl qi one_int (by kernel_rfl) (.agg rfl (.conv .t .agg) (by kernel_rfl) (by kernel_rfl) .nil))) r1 qz (qs 10 101 r2 r1 qZ)))) hB [3,2] [104,102,101,0] rfl rfl fun a w F hS=>Za (wp_ret (Zg (Zm (Zg ?_))))
   refine ZA hfr hS rfl (.cl 101 true 10 rfl rfl .nil) (.one (.aggLe rfl (by refine ⟨?_,?_,?_,?_,?_,?_,?_,?_,?_,?_,trivial⟩ <;> first | exact PVLe.refl | exact PVLe.nilSl)))
  have hbb:b=true:=by simpa using hc2
  subst hbb
  refine wp_skip (Za (wp_seq ?_))
  refine Zb hS (qe 3 102 r1 r1 (qf (oP (Zis t (by omega)) Tryz.func47 (Args.one (.pagg .t))) r1 qz (qf (oB [(0,_),(1,.tmp 29)] [.int .i64 0,.int .i64 0,.bool false,.slice none 0 0,.int .i64 0,.slice none 0 0,.int .i64 0,.int .i64 0,.int .i64 0,.int .i64 0] [(0,1),(1,3),(4,2),(6,1),(7,1),(8,1),(9,1)] (.one rfl qi one_int (by kernel_rfl) (.agg rfl (.conv .t .agg) (by kernel_rfl) (by kernel_rfl) .nil))) r1 qz (qs 10 101 r2 r1 qZ)))) hB [3,2] [104,102,101,0] rfl rfl fun a w F hS=>Za (wp_ret (Zm (Zg ?_)))
  refine ZA hfr hS rfl (.cl 101 true 10 rfl rfl .nil) (.one (.aggLe rfl (by refine ⟨?_,?_,?_,?_,?_,?_,?_,?_,?_,?_,trivial⟩ <;> first | exact PVLe.refl | exact PVLe.nilSl)))
 cases hc1
theorem ZjL (t:TxD) (hl:t.ops.length≤1000):FnP Tryz.prog 32 [.ifc 109 (.agg (rTx t))] (.agg (rCmd (Zb6 (.whole t)))):=by
 refine FnP.mk Tryz.func32 rfl Tryz.ntmps32 rfl ?_
 intro B a w F hB hfr hS
 refine wp_seq ?_
 refine Zc hS (qf (oH [.int .i64 0,.int .i64 0,.bool false,.slice none 0 0,.int .i64 0,.slice none 0 0,.int .i64 0,.int .i64 0,.int .i64 0,.int .i64 0] 101) trivial qz qZ) hB [2,0] [101,0] (fun _=>rfl) (fun _=>rfl) fun τ a w F hS=>?_
 try dsimp only [RS.sub,SF.sub,CF.sub,csub,Anc.sub,List.map,zCF,Zj,rTx,Zs,Zv,rInt,rOp,rCmd,ZC,Zaj,ZH,Zu,Zb6,Zeu,Zem,ZbV,bareT,zeroC,zeroT,rCmd] at hS
 generalize τ 2=v2 at hS
 refine Za (wp_seq ?_)
 refine Zc hS (qM rfl rfl (qf (Zgu .t (Zmm t) Tryz.underlying109 (by kernel_rfl) Tryz.func243 rfl (by kernel_rfl)) r1 qz (qf (oH [.int .i64 0,.bool false,.slice none 0 0] 102) trivial qz (qf (oA 3 102 .same (.conv .t .agg)) r2 r1 qZ)))) hB [3,2,0] [102,101,0] (fun _=>rfl) (fun _=>rfl) fun τ a w F hS=>?_
 try dsimp only [RS.sub,SF.sub,CF.sub,csub,Anc.sub,List.map,Zf,xL,xM,Nat.reduceAdd,xD,xE,xT,xU,xC,xN,zCF,Zj,rTx,Zs,Zv,rInt,rOp,rCmd,ZC,Zaj,ZH,Zu,Zb6,Zeu,Zem,ZbV,bareT,zeroC,zeroT,rCmd] at hS
 generalize τ 3=v3 at hS
 refine Za (wp_seq ?_)
 replace hS:=hS.fresh 103 rfl
 refine Zc hS (qg 2 102 r1 r1 (qa 102 r1 r1 (qf (ZaM 103 (Zcw t.ops (by omega)) Tryz.func49 rfl (by kernel_rfl) (Args.one .t) ZaF) r1 r1 (qg 2 102 r1 r1 (qf (Zau 102 .adr (by kernel_rfl) (by kernel_rfl)) r2 r1 qZ))))) hB [3,2,0] [103,102,101,0] (fun _=>rfl) (fun _=>rfl) fun τ a w F hS=>?_
 try dsimp only [RS.sub,SF.sub,CF.sub,csub,Anc.sub,List.map,Zf,xL,xM,Nat.reduceAdd,xD,xE,xT,xU,xC,xN,zCF,ldSF,Zj,rTx,Zs,Zv,rInt,rOp,rCmd,ZC,Zaj,ZH,Zu,Zb6,Zeu,Zem,ZbV,bareT,zeroC,zeroT,rCmd] at hS
 generalize τ 10=v10 at hS
 obtain ⟨F,hS⟩:=hS.giveCell 103 102 2 rfl rfl rfl rfl rfl
 try dsimp only [List.set] at hS
 obtain ⟨F,hS⟩:=hS.nm [3,2,0] [102,101,0] rfl rfl
 refine Za (wp_seq (wp_seq ?_))
 refine Zb hS (qM rfl rfl qZ) hB [12,3,2] [102,101,0] rfl rfl fun a w F hS=>Za (wp_block (wp_seq ?_))
 refine Zb hS (qf (Zca (zs:=[.int .i64 0,.bool false,.slice none 0 0]) Tryz.underlying108 (by kernel_rfl) (by rfl) .t) r1 qz (qf (o_extract .t rfl) r1 qz (qf (o_extract .t rfl) r1 qz qZ))) hB [15,14,12,3,2] [102,101,0] rfl rfl fun a w F hS=>Za ?_
 refine Zd hS rfl (fun hc0=>?_) (fun hc0=>?_)
 ·skip
  cases hc0
 refine wp_seq ?_
 refine Zb hS (qf (Zca (zs:=[.int .i64 0,.bool false,.slice none 0 0,.bool false]) Tryz.underlying106 (by kernel_rfl) (by rfl) .t) r1 qz (qf (o_extract .t rfl) r1 qz (qf (o_extract .t rfl) r1 qz qZ))) hB [21,20,3,2] [102,101,0] rfl rfl fun a w F hS=>Za ?_
 refine Zd hS rfl (fun hc1=>?_) (fun hc1=>?_)
 ·skip
  cases hc1
 refine wp_skip (Zi (Za (wp_seq ?_)))
 refine Zb hS (qe 3 102 r1 r1 (qf (oB [(0,_),(1,.tmp 31)] [.int .i64 0,.int .i64 0,.bool false,.slice none 0 0,.int .i64 0,.slice none 0 0,.int .i64 0,.int .i64 0,.int .i64 0,.int .i64 0] [(0,1),(1,3),(4,2),(6,1),(7,1),(8,1),(9,1)] (.one rfl qi one_int (by kernel_rfl) (.agg rfl .t (by kernel_rfl) (by kernel_rfl) .nil))) r1 qz (qs 10 101 r2 r1 qZ))) hB [2] [102,101,0] rfl rfl fun a w F hS=>Za (wp_ret ?_)
 refine ZA hfr hS rfl (.cl 101 true 10 rfl rfl .nil) (.one (.aggLe rfl (by refine ⟨?_,?_,?_,?_,?_,?_,?_,?_,?_,?_,trivial⟩ <;> first | exact PVLe.refl | exact PVLe.nilSl)))
def ZoQ:ZO→List OpD
 | .none=>[]
 | .away t=>t.ops
 | .plain t _=>t.ops
 | .whole t=>t.ops
theorem ZkB (s:ZO) (hn:s ≠ .none) (hl:(ZoQ s).length≤1000):FnP Tryz.prog 32 [Zu s] (.agg (rCmd (Zb6 s))):=by
 cases s with
 | none=>exact absurd rfl hn
 | away t=>exact Zj7 t hl
 | plain t b=>exact ZjA t b hl
 | whole t=>exact ZjL t hl
theorem ZiH (g:Zn) (hs:ZaK g):FnP Tryz.prog 39 [.agg (Zj g)] (.agg (Zj g)):=by
 refine FnP.mk Tryz.func39 rfl Tryz.ntmps39 rfl ?_
 intro B a w F hB hfr hS
 have hsl:=hs.1.1
 have hso:=hs.2.1
 refine wp_seq ?_
 refine Zc hS (qx 101 r1 (qf (oH [.slice none 0 0,.slice none 0 0] 102) trivial qz qZ)) hB [2,1] [102,101,0] (fun _=>rfl) (fun _=>rfl) fun τ a w F hS=>?_
 try dsimp only [RS.sub,SF.sub,CF.sub,csub,Anc.sub,List.map,zCF,Zj,rTx,Zs,Zv,rInt,rOp,rCmd,ZC,Zaj,ZH,Zu] at hS
 generalize τ 1=v1 at hS
 generalize τ 2=v2 at hS
 refine Za (wp_seq ?_)
 refine Zc hS (qf (oH [.slice none 0 0,.slice none 0 0] 103) trivial qz qZ) hB [3,2,1] [103,102,101,0] (fun _=>rfl) (fun _=>rfl) fun τ a w F hS=>?_
 try dsimp only [RS.sub,SF.sub,CF.sub,csub,Anc.sub,List.map,zCF,Zj,rTx,Zs,Zv,rInt,rOp,rCmd,ZC,Zaj,ZH,Zu] at hS
 generalize τ 3=v3 at hS
 refine Za (wp_seq (wp_seq ?_))
 refine Zb hS (qg 0 101 r1 r1 (qa 101 r1 r1 (qu Tryz.underlying22 r1 (qJ qZ)))) hB [11,10,9,3,2,1] [103,102,101,0] rfl rfl fun a w F hS=>Za (wp_block ?_)
 replace hS:=hS.fresh 50 rfl
 replace hS:=hS.turn 50 rfl (Zaf (T:=40) (sz:=3) (R:=rTx))
 refine Zl (σ:=(Nat)×(Value)×(List TxD)) [1,2,3,9,10] [0,101,102] (fun s=>[(11,.pv (.int .i64 (s.1:Int)))]) (fun s=>[(103,.pt (.val v3) 25 [.pv (.is s.2.1),.pv (.is (.slice none 0 0))]),(50,.ob (.val s.2.1) (Zw 40 3 rTx s.2.2))]) (fun s=>s.1≤g.txs.length∧(s.2.2=g.txs.take s.1)) (fun s=>g.txs.length - s.1) ((0),(.slice none 0 0),([])) hS ⟨rfl,rfl,rfl,rfl,rfl,rfl,trivial⟩ ⟨rfl,rfl,rfl,rfl,rfl,trivial⟩ ⟨Nat.zero_le _,rfl⟩ ?_
 clear hS;intro s a w F hC hS
 obtain ⟨i,va,oa⟩:=s
 try dsimp only at hC
 obtain ⟨F,hS⟩:=hS.nm [11,10,9,3,2,1] [103,102,101,50,0] rfl rfl
 try dsimp only at hS
 obtain ⟨hi,hq⟩:=hC
 have hol:oa.length≤i:=by rw [hq,List.length_take];omega
 refine wp_seq ?_
 refine Zb hS (qL r2) hB [12,11,10,9,3,2,1] [103,102,101,50,0] rfl rfl fun a w F hS=>Za (wp_seq ?_)
 refine Zd hS rfl (fun hc0=>?_) (fun hc0=>?_)
 ·skip
  have hil:i<g.txs.length:=by simp at hc0;omega
  have hio:=hil
  refine wp_skip (Za (wp_seq (wp_block (wp_seq ?_))))
  refine Zc hS (qy 3 Tryz.underlying22 r2 (qf (oR true 3 .t) r1 qz (qf (oH [.int .i64 0,.bool false,.slice none 0 0] 104) trivial qz (qS 3 104 r2 r1 qZ)))) hB [11,10,9,5,3,2,1] [104,103,102,101,50,0] (fun _=>rfl) (fun _=>rfl) fun τ a w F hS=>?_
  try dsimp only [RS.sub,SF.sub,CF.sub,csub,Anc.sub,List.map,Zf,xL,xM,Nat.reduceAdd,xD,xE,xT,xU,xC,xN,zCF,ldSF,Zj,rTx,Zs,Zv,rInt,rOp,rCmd,ZC,Zaj,ZH,Zu] at hS
  generalize τ 5=v5 at hS
  try simp only [Int.toNat_natCast] at hS
  refine Za (wp_seq ?_)
  replace hS:=hS.fresh 105 rfl
  refine Zc hS (qg 2 104 r1 r1 (qa 104 r1 r1 (qf (ZaM 105 (Zcw (Go.Gm.nth g.txs i).ops (by have:=hs.1.at hio;omega)) Tryz.func49 rfl (by kernel_rfl) (Args.one .t) ZaF) r1 r1 (qg 2 104 r1 r1 (qf (Zau 104 .adr (by kernel_rfl) (by kernel_rfl)) r2 r1 qZ))))) hB [11,10,9,5,3,2,1] [105,104,103,102,101,50,0] (fun _=>rfl) (fun _=>rfl) fun τ a w F hS=>?_
  try dsimp only [RS.sub,SF.sub,CF.sub,csub,Anc.sub,List.map,Zf,xL,xM,Nat.reduceAdd,xD,xE,xT,xU,xC,xN,zCF,ldSF,Zj,rTx,Zs,Zv,rInt,rOp,rCmd,ZC,Zaj,ZH,Zu] at hS
  generalize τ 17=v17 at hS
  obtain ⟨F,hS⟩:=hS.giveCell 105 104 2 rfl rfl rfl rfl rfl
  try dsimp only [List.set] at hS
  obtain ⟨F,hS⟩:=hS.nm [11,10,9,5,3,2,1] [104,103,102,101,50,0] rfl rfl
  refine Za ?_
  refine Zc hS (qg 0 103 r1 r1 (qa 103 r1 r1 (qe 3 104 r1 r1 (qf (Zh (sz:=3) (zs:=[.int .i64 0,.bool false,.slice none 0 0]) (r:=[(0,.tmp 21)]) (l:=[_,_,_]) Tryz.underlying22 (by kernel_rfl) (by kernel_rfl) (by kernel_rfl) (by kernel_rfl) rfl rfl (.agg rfl .t (by kernel_rfl) (by kernel_rfl) .nil) rfl) r1 qz (qf (o_append (sz:=3) (bs:=40) 50 (.mk' Tryz.underlying22 (by kernel_rfl) (by kernel_rfl)) (by intro x;rfl) .is (.arr (l':=[(Go.Gm.nth g.txs i)]) .t) (by simp only [List.length_append,List.length_cons,List.length_nil];omega) (by decide)) ⟨rfl,rfl,trivial⟩ ⟨rfl,trivial⟩ (qg 0 103 r1 r1 (qf (Zau 103 .adr (by kernel_rfl) (by kernel_rfl)) r2 r1 qZ))))))) hB [11,10,9,3,2,1] [104,103,102,101,50,0] (fun _=>rfl) (fun _=>rfl) fun τ a w F hS=>?_
  try dsimp only [RS.sub,SF.sub,CF.sub,csub,Anc.sub,List.map,Zf,xL,xM,Nat.reduceAdd,xD,xE,xT,xU,xC,xN,zCF,ldSF,Zj,rTx,Zs,Zv,rInt,rOp,rCmd,ZC,Zaj,ZH,Zu] at hS
  generalize τ 23=v23 at hS
  refine Zi (Za ?_)
  refine Zb hS (qp r1 (qM rfl rfl qZ)) hB [11,10,9,3,2,1] [104,103,102,101,50,0] rfl rfl fun a w F hS=>Za ?_
  replace hS:=hS.ent (i:=11) (s':=.pv (.int .i64 ((i+1:Nat):Int))) rfl (.int (Ze (by omega)))
  obtain ⟨F,hS⟩:=hS.nm [10,9,3,2,1,11] [102,101,0,50,103] rfl rfl
  exact ⟨((i+1),_,_),F,⟨by omega,(by rw [Zt hil,← hq])⟩,hS,by omega⟩
 have hil:i=g.txs.length:=by simp at hc0;omega
 have hqa:oa=g.txs:=by rw [hq,hil,List.take_length]
 subst hqa
 refine wp_exit (Zk (Zk (Zq (Za (wp_seq (wp_seq ?_))))))
 refine Zb hS (qg 1 101 r1 r1 (qa 101 r1 r1 (qu Tryz.underlying23 r1 (qJ qZ)))) hB [29,28,27,3,2] [103,102,101,50,0] rfl rfl fun a w F hS=>Za (wp_block ?_)
 replace hS:=hS.fresh 51 rfl
 replace hS:=hS.turn 51 rfl (Zaf (T:=43) (sz:=2) (R:=Zs))
 refine Zl (σ:=(Nat)×(Value)×(List OrdD)) [2,3,27,28] [0,50,101,102] (fun s=>[(29,.pv (.int .i64 (s.1:Int)))]) (fun s=>[(103,.pt (.val v3) 25 [.pv (.is va),.pv (.is s.2.1)]),(51,.ob (.val s.2.1) (Zw 43 2 Zs s.2.2))]) (fun s=>s.1≤g.orders.length∧(s.2.2=g.orders.take s.1)) (fun s=>g.orders.length - s.1) ((0),(.slice none 0 0),([])) hS ⟨rfl,rfl,rfl,rfl,rfl,trivial⟩ ⟨rfl,rfl,rfl,rfl,rfl,rfl,trivial⟩ ⟨Nat.zero_le _,rfl⟩ ?_
 clear hS;intro s a w F hC hS
 obtain ⟨i,vb,ob⟩:=s
 try dsimp only at hC
 obtain ⟨F,hS⟩:=hS.nm [29,28,27,3,2] [103,102,101,51,50,0] rfl rfl
 try dsimp only at hS
 obtain ⟨hi,hq⟩:=hC
 have hol:ob.length≤i:=by rw [hq,List.length_take];omega
 refine wp_seq ?_
 refine Zb hS (qL r2) hB [30,29,28,27,3,2] [103,102,101,51,50,0] rfl rfl fun a w F hS=>Za (wp_seq ?_)
 refine Zd hS rfl (fun hc1=>?_) (fun hc1=>?_)
 ·skip
  have hil:i<g.orders.length:=by simp at hc1;omega
  have hio:=hil
  refine wp_skip (Za (wp_seq (wp_block (wp_seq ?_))))
  refine Zc hS (qy 2 Tryz.underlying23 r2 (qf (oR true 2 .t) r1 qz (qf (oH [.int .i64 0,.slice none 0 0] 106) trivial qz (qS 2 106 r2 r1 qZ)))) hB [29,28,27,7,3,2] [106,103,102,101,51,50,0] (fun _=>rfl) (fun _=>rfl) fun τ a w F hS=>?_
  try dsimp only [RS.sub,SF.sub,CF.sub,csub,Anc.sub,List.map,Zf,xL,xM,Nat.reduceAdd,xD,xE,xT,xU,xC,xN,zCF,ldSF,Zj,rTx,Zs,Zv,rInt,rOp,rCmd,ZC,Zaj,ZH,Zu] at hS
  generalize τ 7=v7 at hS
  try simp only [Int.toNat_natCast] at hS
  refine Za ?_
  refine Zdp hS (qg 1 103 r1 r1 (qa 103 r1 r1 (qg 0 106 r1 r1 (qa 106 r1 r1 (qg 1 106 r1 r1 (qa 106 r1 r1 (qf (oP (cloneIP_c (Go.Gm.nth g.orders i).txs (by have:=hs.2.at hio;omega)) Tryz.func82 (Args.one .t)) r1 qz (qf (oB [(0,.tmp 36),(1,.tmp 39)] [.int .i64 0,.slice none 0 0] [(0,1),(1,1)] (.one rfl .t one_int (by kernel_rfl) (.one rfl .t one_sl (by kernel_rfl) .nil))) r2 qz (qf (Zh (sz:=2) (zs:=[.int .i64 0,.slice none 0 0]) (r:=[(0,.tmp 40)]) (l:=[_,_]) Tryz.underlying23 (by kernel_rfl) (by kernel_rfl) (by kernel_rfl) (by kernel_rfl) rfl rfl (.agg rfl .t (by kernel_rfl) (by kernel_rfl) .nil) rfl) r1 qz (qf (o_append (sz:=2) (bs:=32) 51 (.mk' Tryz.underlying23 (by kernel_rfl) (by kernel_rfl)) (by intro x;rfl) .is (.arr (l':=[(Go.Gm.nth g.orders i)]) .t) (by simp only [List.length_append,List.length_cons,List.length_nil];omega) (by decide)) ⟨rfl,rfl,trivial⟩ ⟨rfl,trivial⟩ (qg 1 103 r1 r1 (qf (Zau 103 .adr (by kernel_rfl) (by kernel_rfl)) r2 r1 qZ)))))))))))) hB [29,28,27,3,2] [106,103,102,101,51,50,0] (fun _=>rfl) (fun _=>rfl) fun τ a w F hS=>?_
  try dsimp only [RS.sub,SF.sub,CF.sub,csub,Anc.sub,List.map,Zf,xL,xM,Nat.reduceAdd,xD,xE,xT,xU,xC,xN,zCF,ldSF,Zj,rTx,Zs,Zv,rInt,rOp,rCmd,ZC,Zaj,ZH,Zu] at hS
  generalize τ 42=v42 at hS
  refine Zi (Za ?_)
  refine Zb hS (qp r1 (qM rfl rfl qZ)) hB [29,28,27,3,2] [106,103,102,101,51,50,0] rfl rfl fun a w F hS=>Za ?_
  replace hS:=hS.ent (i:=29) (s':=.pv (.int .i64 ((i+1:Nat):Int))) rfl (.int (Ze (by omega)))
  obtain ⟨F,hS⟩:=hS.nm [28,27,3,2,29] [102,101,50,0,51,103] rfl rfl
  exact ⟨((i+1),_,_),F,⟨by omega,(by rw [Zt hil,← hq])⟩,hS,by omega⟩
 have hil:i=g.orders.length:=by simp at hc1;omega
 have hqb:ob=g.orders:=by rw [hq,hil,List.take_length]
 subst hqb
 refine wp_exit (Zk (Zk (Zq (Za (wp_seq ?_)))))
 obtain ⟨F,hS⟩:=hS.giveCell 50 103 0 rfl rfl rfl rfl rfl
 try dsimp only [List.set] at hS
 obtain ⟨F,hS⟩:=hS.nm [30,29,28,27,3,2] [103,102,101,51,0] rfl rfl
 obtain ⟨F,hS⟩:=hS.giveCell 51 103 1 rfl rfl rfl rfl rfl
 try dsimp only [List.set] at hS
 obtain ⟨F,hS⟩:=hS.nm [30,29,28,27,3,2] [103,102,101,0] rfl rfl
 refine Zb hS (qe 2 103 r1 r1 (qs 2 102 r2 r1 qZ)) hB [2] [103,102,101,0] rfl rfl fun a w F hS=>Za (wp_ret ?_)
 refine ZA hfr hS rfl (.cl 102 true 2 rfl rfl .nil) (.one (.aggU rfl rfl))
end Go.Proofs.YtjhapicamnijnaaGreat
