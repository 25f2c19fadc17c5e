/- Texts put together. No condition beyond those that each theorem says. -/
import Derived.Test.YtdpkkdigojkpaaaGreatJ0
import Derived.Test.YtdpkkdigojkpaaaGreatLibG
namespace Go.Proofs.YtdpkkdigojkpaaaGreat
open Go Go.Gm
set_option linter.unusedVariables false
set_option linter.unusedSimpArgs false
set_option maxHeartbeats 4000000
set_option maxRecDepth 8000
theorem Zhk (l:List Int):(ZcL l).length≤l.length:=by
 have key:∀ (l acc:List Int),(l.foldl ZkZ acc).length≤acc.length+l.length:=fun l=>by
   induction l with
   | nil=>intro acc;simp
   | cons x l ih=>
     intro acc
     have h1:=ih (ZkZ acc x)
     have h2:(ZkZ acc x).length≤acc.length+1:=Zhr acc false
     rw [List.foldl_cons,List.length_cons];omega
 have:=key l []
 simpa [ZcL] using this
theorem Ent.fnClos {f:FuncId} : Ent (.pv (.is (.func (.func f) #[] #[]))) (.pv (.clos f [])):=fun τ w y v h=>⟨[],h.1,trivial⟩
theorem ZqU (o:OpD):FnP Tryz.prog 118 [.agg (rOp o)] (.bool (!o.read)):=by
 refine FnP.mk Tryz.func118 rfl Tryz.ntmps118 rfl ?_
 intro B a w F hB hfr hS
 refine wp_seq ?_
 refine Zc hS (qx 101 r1 qB) hB [2,1] [101,0] (fun _=>rfl) (fun _=>rfl) fun τ a w F hS=>?_
 try dsimp only [RS.sub,SF.sub,CF.sub,csub,Anc.sub,List.map,zCF,rOp] at hS
 generalize τ 1=v1 at hS
 refine Za (wp_seq ?_)
 refine Zb hS (qg 0 101 r1 r1 (qa 101 r1 r1 (qf (o_not .t) r1 qz (qN rfl rfl qZ)))) hB [2] [0] rfl rfl fun a w F hS=>Za (wp_ret ?_)
 refine Zw hfr hS rfl rfl rfl (.bool rfl)
theorem ZmX (t:TxD) (hl:t.ops.length≤1000000):FnP Tryz.prog 55 [.agg (rTx t)] (.sl Zo (ZcL ((t.ops.filter fun o=>!o.read).map OpD.key))):=by
 refine FnP.mk Tryz.func55 rfl Tryz.ntmps55 rfl ?_
 intro B a w F hB hfr hS
 refine wp_seq ?_
 refine Zc hS (qx 101 r1 (qC qZ)) hB [2,1] [101,0] (fun _=>rfl) (fun _=>rfl) fun τ a w F hS=>?_
 try dsimp only [RS.sub,SF.sub,CF.sub,csub,Anc.sub,List.map,zCF,rTx,Zo] at hS
 generalize τ 1=v1 at hS
 refine Za (wp_seq ?_)
 refine Zb hS (qe 3 101 r1 r1 (qf (oP (ZpF t hl (fun o=>!o.read) 118 Tryz.f118 [] Tryz.func118 rfl (by kernel_rfl) (fun o=>ZqU o)) Tryz.func117 (Args.two (.pagg .t) (.conv .f (Ent.fnClos)))) r1 qz (qN rfl rfl qZ))) hB [2] [0] rfl rfl fun a w F hS=>Za (wp_ret ?_)
 refine Zw hfr hS rfl rfl rfl (.sl rfl)
theorem Zc6 (t:TxD) (n:Int) (hl:t.ops.length≤1000000):FnP Tryz.prog 60 [.agg (rTx t),.int .i64 n] (.int .i64 (((t.ops.filter fun o=>!o.read && decide (o.key=n)).length:Nat):Int)):=by
 refine FnP.mk Tryz.func60 rfl Tryz.ntmps60 rfl ?_
 intro B a w F hB hfr hS
 have hll:t.ops.length≤1000000:=hl
 refine wp_seq ?_
 refine Zc hS (qx 101 r1 (qI qZ)) hB [4,2,1] [101,0] (fun _=>rfl) (fun _=>rfl) fun τ a w F hS=>?_
 try dsimp only [RS.sub,SF.sub,CF.sub,csub,Anc.sub,List.map,zCF,Zo,rOp,rTx] at hS
 generalize τ 2=v2 at hS
 refine Za (wp_seq ?_)
 refine Zb hS (qI qZ) hB [5,4,2,1] [101,0] rfl rfl fun a w F hS=>Za (wp_seq (wp_seq ?_))
 refine Zb hS (qg 2 101 r1 r1 (qa 101 r1 r1 (qu Tryz.underlying31 r1 (qJ qZ)))) hB [11,10,9,5,4,1] [0] rfl rfl fun a w F hS=>Za (wp_block ?_)
 refine Zl (σ:=(Nat)) [1,4,9,10] [0] (fun s=>[(11,.pv (.int .i64 (s:Int))),(5,.pv (.int .i64 ((((t.ops.take s).filter fun o=>!o.read && decide (o.key=n)).length:Nat):Int)))]) (fun s=>[]) (fun s=>s≤t.ops.length∧(True)) (fun s=>t.ops.length - s) (0) hS ⟨rfl,rfl,rfl,rfl,rfl,rfl,trivial⟩ ⟨rfl,trivial⟩ ⟨Nat.zero_le _,trivial⟩ ?_
 clear hS;intro i a w F hC hS
 try dsimp only at hC
 obtain ⟨F,hS⟩:=hS.nm [11,10,9,5,4,1] [0] rfl rfl
 try dsimp only at hS
 obtain ⟨hi,hq⟩:=hC
 refine wp_seq ?_
 refine Zb hS (qL r2) hB [12,11,10,9,5,4,1] [0] rfl rfl fun a w F hS=>Za (wp_seq ?_)
 refine Zd hS rfl (fun hc0=>?_) (fun hc0=>?_)
 ·skip
  have hil:i<t.ops.length:=by simp at hc0;omega
  refine wp_skip (Za (wp_seq (wp_block (wp_seq ?_))))
  refine Zc hS (qy 4 Tryz.underlying31 r2 (qf (oR true 4 .t) r1 qz (qf (oH [.bool false,.int .i64 0,.int .i64 0,.int .i64 0] 102) trivial qz (qS 4 102 r2 r1 qZ)))) hB [11,10,9,7,5,4,1] [102,0] (fun _=>rfl) (fun _=>rfl) fun τ a w F hS=>?_
  try dsimp only [RS.sub,SF.sub,CF.sub,csub,Anc.sub,List.map,Zf,xL,xM,Nat.reduceAdd,xD,xE,xT,xU,xC,xN,zCF,ldSF,Zo,rOp,rTx] at hS
  generalize τ 7=v7 at hS
  try simp only [Int.toNat_natCast] at hS
  refine Za (wp_seq ?_)
  refine Zb hS (qg 0 102 r1 r1 (qa 102 r1 r1 (qf (o_not .t) r1 qz (qM rfl rfl (qv 1 102 rfl r2 r1 (qw 102 rfl r2 r1 (qm rfl rfl rfl rfl (qk rfl (fun h=>o_eql (.w h) (.w h)) r3 qz (qf (ZN .t .t) r2 qz qZ))))))))) hB [23,11,10,9,5,4,1] [0] rfl rfl fun a w F hS=>Za ?_
  refine Zd hS rfl (fun hc1=>?_) (fun hc1=>?_)
  ·skip
   have hstp:((t.ops.take (i+1)).filter fun o=>!o.read && decide (o.key=n))=((t.ops.take i).filter fun o=>!o.read && decide (o.key=n))++(if (!(Go.Gm.nth t.ops i).read && decide ((Go.Gm.nth t.ops i).key=n))=true then [(Go.Gm.nth t.ops i)] else []):=by rw [Zv hil,List.filter_append];simp only [List.filter_cons,List.filter_nil]
   have hle:((t.ops.take i).filter fun o=>!o.read && decide (o.key=n)).length≤i:=Nat.le_trans (List.length_filter_le _ _) (by rw [List.length_take];omega)
   have hBq:(!(Go.Gm.nth t.ops i).read && decide ((Go.Gm.nth t.ops i).key=n))=true:=hc1
   have hcc:IntKind.wrap .i64 (((((t.ops.take i).filter fun o=>!o.read && decide (o.key=n)).length:Nat):Int)+1)=((((t.ops.take (i+1)).filter fun o=>!o.read && decide (o.key=n)).length:Nat):Int):=by rw [hstp,if_pos hBq,List.length_append,ZJ (by omega)];simp
   refine Zb hS (qM rfl rfl (qp r1 (qN rfl rfl qZ))) hB [11,10,9,5,4,1] [0] rfl rfl fun a w F hS=>Zj (Za ?_)
   refine Zb hS (qp r1 (qM rfl rfl qZ)) hB [11,10,9,5,4,1] [0] rfl rfl fun a w F hS=>Za ?_
   replace hS:=hS.ent (i:=11) (s':=.pv (.int .i64 ((i+1:Nat):Int))) rfl (.int (Ze (by omega)))
   replace hS:=hS.ent (i:=5) (s':=.pv (.int .i64 ((((t.ops.take (i+1)).filter fun o=>!o.read && decide (o.key=n)).length:Nat):Int))) rfl (.int hcc)
   obtain ⟨F,hS⟩:=hS.nm [10,9,4,1,5,11] [0] rfl rfl
   exact ⟨(i+1),F,⟨by omega,trivial⟩,hS,by omega⟩
  have hstp:((t.ops.take (i+1)).filter fun o=>!o.read && decide (o.key=n))=((t.ops.take i).filter fun o=>!o.read && decide (o.key=n))++(if (!(Go.Gm.nth t.ops i).read && decide ((Go.Gm.nth t.ops i).key=n))=true then [(Go.Gm.nth t.ops i)] else []):=by rw [Zv hil,List.filter_append];simp only [List.filter_cons,List.filter_nil]
  have hle:((t.ops.take i).filter fun o=>!o.read && decide (o.key=n)).length≤i:=Nat.le_trans (List.length_filter_le _ _) (by rw [List.length_take];omega)
  have hBq:(!(Go.Gm.nth t.ops i).read && decide ((Go.Gm.nth t.ops i).key=n))=false:=hc1
  have hcc:((((t.ops.take i).filter fun o=>!o.read && decide (o.key=n)).length:Nat):Int)=((((t.ops.take (i+1)).filter fun o=>!o.read && decide (o.key=n)).length:Nat):Int):=by rw [hstp,if_neg (by rw [hBq];simp),List.append_nil]
  refine wp_skip (Zj (Za ?_))
  refine Zb hS (qp r1 (qM rfl rfl qZ)) hB [11,10,9,5,4,1] [0] rfl rfl fun a w F hS=>Za ?_
  replace hS:=hS.ent (i:=11) (s':=.pv (.int .i64 ((i+1:Nat):Int))) rfl (.int (Ze (by omega)))
  replace hS:=hS.ent (i:=5) (s':=.pv (.int .i64 ((((t.ops.take (i+1)).filter fun o=>!o.read && decide (o.key=n)).length:Nat):Int))) rfl (.int hcc)
  obtain ⟨F,hS⟩:=hS.nm [10,9,4,1,5,11] [0] rfl rfl
  exact ⟨(i+1),F,⟨by omega,trivial⟩,hS,by omega⟩
 have hil:i=t.ops.length:=by simp at hc0;omega
 refine wp_exit (Zh (Zh (Zp (Za (wp_seq ?_)))))
 refine Zb hS (qM rfl rfl (qN rfl rfl qZ)) hB [4] [0] rfl rfl fun a w F hS=>Za (wp_ret ?_)
 refine Zw hfr hS rfl rfl rfl (.int (by rw [hil,List.take_length]))
def wcnt (l:List OpD) (k:Int):Nat:=(l.filter fun o=>!o.read && decide (o.key=k)).length
theorem Zhw {l:List OpD} {i:Nat} (h:i<l.length) (k:Int):wcnt (l.take (i+1)) k=wcnt (l.take i) k+if (Go.Gm.nth l i).read=false∧(Go.Gm.nth l i).key=k then 1 else 0:=by
 unfold wcnt
 rw [Zv h,List.filter_append,List.length_append]
 congr 1
 by_cases h1:(Go.Gm.nth l i).read=false∧(Go.Gm.nth l i).key=k
 · rw [if_pos h1];simp [h1.1,h1.2]
 · rw [if_neg h1]
   have:(!(Go.Gm.nth l i).read && decide ((Go.Gm.nth l i).key=k))=false:=by
     cases hr:(Go.Gm.nth l i).read with
     | true=>rfl
     | false=>simp;exact fun e=>h1 ⟨hr,e⟩
   simp [this]
theorem Zp1 (l:List OpD) (i:Nat) (k:Int):wcnt (l.take i) k≤i:=Nat.le_trans (List.length_filter_le _ _) (by rw [List.length_take];omega)
def ZaO (id:Int):List OpD→List OpD→Int
 | _,[]=>0
 | s,o :: r=>if Zb5 o=false then 1 else if o.read=true∧o.tx=id∧(wcnt s o.key:Int)<o.nth then 6 else ZaO id (s ++ [o]) r
def Zai (t:TxD):Int:=if ¬ (1≤t.id∧t.id≤1048575) then 1 else if 4095<t.ops.length then 9 else ZaO t.id [] t.ops
theorem Zcv {id:Int} {l:List OpD} {i:Nat} (h:i<l.length):ZaO id (l.take i) (l.drop i)=if Zb5 (Go.Gm.nth l i)=false then 1 else if (Go.Gm.nth l i).read=true∧(Go.Gm.nth l i).tx=id∧(wcnt (l.take i) (Go.Gm.nth l i).key:Int)<(Go.Gm.nth l i).nth then 6 else ZaO id (l.take (i+1)) (l.drop (i+1)):=by
 rw [Zo8 h,ZaO,Zv h]
theorem ZiO {id:Int} {l:List OpD} {i:Nat} (h:i=l.length):ZaO id (l.take i) (l.drop i)=0:=by rw [h,List.drop_length];rfl
def ZbU (id:Int) (o:OpD):Bool:=(o.read && !decide (o.tx=0)) && !decide (o.tx=id)
def Z9 (id:Int) (out:List ZbB) (o:OpD):List ZbB:=if ZbU id o=true∧ofO o ∉ out then out ++ [ofO o] else out
def ZcP (id:Int) (l:List OpD):List ZbB:=l.foldl (Z9 id) []
def ZaE (t:TxD):List ZbB:=ZcP t.id t.ops
theorem ZiT {id:Int} {l:List OpD} {i:Nat} (h:i<l.length):ZcP id (l.take (i+1))=Z9 id (ZcP id (l.take i)) (Go.Gm.nth l i):=by
 unfold ZcP
 rw [Zv h,List.foldl_append]
 rfl
theorem ZhH (id:Int) (out:List ZbB) (o:OpD):(Z9 id out o).length≤out.length+1:=by
 unfold Z9
 split <;> simp
theorem ZfR (id:Int) (l:List OpD) (i:Nat):(ZcP id (l.take i)).length≤i:=by
 have key:∀ (l:List OpD) (out:List ZbB),(l.foldl (Z9 id) out).length≤out.length+l.length:=by
   intro l
   induction l with
   | nil=>intro out;simp
   | cons x l ih=>
     intro out
     have h1:=ih (Z9 id out x)
     have h2:=ZhH id out x
     rw [List.foldl_cons,List.length_cons];omega
 have:=key (l.take i) []
 rw [List.length_take] at this
 unfold ZcP
 simp at this ⊢
 omega
structure ZaU where
 key:Int
 nth:Int
 deriving DecidableEq,Inhabited
def ZaZ (p:ZaU):List Int:=[p.key,p.nth]
def ZcN (v:ZbB):List Int:=[v.tx,v.key,v.nth]
def Zb1 (es:List (GE ZaU Int)) (s:List OpD):Prop:=∀ k n,0≤n→(gGet (⟨k,n⟩:ZaU) es).getD 0=if n=0 then (wcnt s k:Int) else if n≤wcnt s k then 1 else 0
theorem ZmS:Zb1 [] []:=fun k n h=>by
 show (0:Int)=_
 have:wcnt [] k=0:=rfl
 rw [this]
 split
 · rfl
 · rw [if_neg (by simp;omega)]
theorem Zmq {es:List (GE ZaU Int)} {l:List OpD} {i:Nat} (h:Zb1 es (l.take i)) (hi:i<l.length) (hr:(Go.Gm.nth l i).read=true):Zb1 es (l.take (i+1)):=fun k n hn=>by
 rw [h k n hn,Zhw hi,if_neg (c:=(Go.Gm.nth l i).read=false∧(Go.Gm.nth l i).key=k) (by simp [hr]),Nat.add_zero]
theorem Zlu {es es2:List (GE ZaU Int)} {l:List OpD} {i:Nat} {c:Int} (h:Zb1 es (l.take i)) (hi:i<l.length) (hr:(Go.Gm.nth l i).read=false) (hc:c=(wcnt (l.take i) (Go.Gm.nth l i).key:Int)+1)
   (he:∀ p,(gGet p es2).getD 0=if p = ⟨(Go.Gm.nth l i).key,c⟩ then 1 else if p = ⟨(Go.Gm.nth l i).key,0⟩ then c else (gGet p es).getD 0):Zb1 es2 (l.take (i+1)):=fun k n hn=>by
 have hk:=h k n hn
 rw [he,hk,Zhw hi]
 by_cases e:(Go.Gm.nth l i).key=k
 · rw [if_pos (c:=(Go.Gm.nth l i).read=false∧_) ⟨hr,e⟩]
   rw [e] at hc
   rw [e]
   by_cases e2:n=c
   · subst e2
     rw [if_pos rfl,if_neg (by omega),if_pos (by omega)]
   · rw [if_neg (by simp [e2])]
     by_cases e3:n=0
     · subst e3
       rw [if_pos rfl,if_pos rfl,hc];simp
     · rw [if_neg (by simp [e3]),if_neg e3,if_neg e3]
       by_cases e4:n≤(wcnt (l.take i) k:Int)
       · rw [if_pos e4,if_pos (by omega)]
       · rw [if_neg e4,if_neg (by omega)]
 · rw [if_neg (c:=(Go.Gm.nth l i).read=false∧_) (by simp [e]),Nat.add_zero,if_neg (by simp;exact fun h=>absurd h.symm e),if_neg (by simp;exact fun h=>absurd h.symm e)]
def ZdC (es:List (GE ZbB Int)) (i:Nat) (out:List ZbB):Prop:=∀ v,0≤(gGet v es).getD 0∧(gGet v es).getD 0≤i∧(0<(gGet v es).getD 0 ↔ v ∈ out)
theorem Zn7:ZdC [] 0 []:=fun v=>⟨Int.le_refl _,Int.le_refl _,by show (0:Int)<0 ↔ _;simp⟩
theorem Zov {es:List (GE ZbB Int)} {i:Nat} {out:List ZbB} (h:ZdC es i out):ZdC es (i+1) out:=fun v=>⟨(h v).1,by have:=(h v).2.1;omega,(h v).2.2⟩
theorem ZoF {es es2:List (GE ZbB Int)} {i:Nat} {out:List ZbB} {v:ZbB} (h:ZdC es i out) (he:∀ u,(gGet u es2).getD 0=if u=v then (gGet v es).getD 0+1 else (gGet u es).getD 0):ZdC es2 (i+1) (if v ∈ out then out else out ++ [v]):=fun u=>by
 have h1:=h u
 have h2:=h v
 rw [he u]
 by_cases e:u=v
 · subst e
   rw [if_pos rfl]
   refine ⟨by omega,by omega,?_⟩
   constructor
   · intro _;split <;> simp_all
   · intro _;omega
 · rw [if_neg e]
   refine ⟨by omega,by omega,?_⟩
   rw [h1.2.2]
   split
   · rfl
   · simp [e]
theorem ZfU {κ:Type} [DecidableEq κ] {k p:κ} {x:Int} (s:List (GE κ Int)×Nat):(gGet p (gSet k x (gEns 0 k s).1)).getD 0=if p=k then x else (gGet p s.1).getD 0:=by
 rw [ZcG];split <;> rfl
theorem Zox {κ:Type} [DecidableEq κ] {k p:κ} {x:Int} (s:List (GE κ Int)×Nat):(gGet p (gPut k x s).1).getD 0=if p=k then x else (gGet p s.1).getD 0:=by
 rw [Zcw];split <;> rfl
theorem ZeS:Zld Tryz.prog 170 (fun k=>∀ x ∈ ZaZ k,inR .i64 x) (kvS ZaZ):=Zc0 (n:=2) (fun _=>rfl) (fun a b h=>by cases a;cases b;simpa [ZaZ] using h) (by kernel_rfl)
theorem Znk:Zld Tryz.prog 98 (fun k=>∀ x ∈ ZcN k,inR .i64 x) (kvS ZcN):=Zc0 (n:=3) (fun _=>rfl) (fun a b h=>by cases a;cases b;simpa [ZcN] using h) (by kernel_rfl)
theorem ZhJ {es:List (GE ZaU Int)} {s:List OpD} {o:OpD} {id:Int} (h:Zb1 es s) (hk:Zb5 o=true) (hr:o.read=true) (hid:1≤id):(o.tx=id∧(gGet (⟨o.key,o.nth⟩:ZaU) es).getD 0=0) ↔ (o.read=true∧o.tx=id∧(wcnt s o.key:Int)<o.nth):=by
 have hb:=Zm2 hk
 have h1:=h o.key o.nth (by omega)
 constructor
 · rintro ⟨e1,e2⟩
   refine ⟨hr,e1,?_⟩
   have hn:1≤o.nth:=by
     rw [ZfY hr] at hk
     unfold ofO at hk
     rw [if_pos hr] at hk
     unfold Zb4 at hk
     rw [if_neg (show ¬ o.tx=0 by omega)] at hk
     simp at hk
     omega
   rw [e2,if_neg (by omega)] at h1
   split at h1
   · cases h1
   · omega
 · rintro ⟨_,e1,e2⟩
   refine ⟨e1,?_⟩
   rw [h1,if_neg (by omega),if_neg (by omega)]
theorem Zg7 (t:TxD):FnP Tryz.prog 58 [.agg (rTx t)] (.int .i64 (Zai t)):=by
 refine FnP.mk Tryz.func58 rfl Tryz.ntmps58 rfl ?_
 intro B a w F hB hfr hS
 refine wp_seq ?_
 refine Zc hS (qx 101 r1 (qI qZ)) hB [2,1] [101,0] (fun _=>rfl) (fun _=>rfl) fun τ a w F hS=>?_
 try dsimp only [RS.sub,SF.sub,CF.sub,csub,Anc.sub,List.map,zCF,Zo,rOp,rTx] at hS
 generalize τ 1=v1 at hS
 refine Za (wp_seq (wp_block (wp_seq ?_)))
 refine Zb hS (qg 0 101 r1 r1 (qa 101 r1 r1 (qf (ZbC .t qi) r1 qz (qM rfl rfl (qv 0 101 rfl r2 r1 (qw 101 rfl r2 r1 (qk rfl (fun h=>Zbi (.w h) qi) r2 qz (qf (Zbc .t .t) r2 qz (qN rfl rfl qZ))))))))) hB [7,2,1] [101,0] rfl rfl fun a w F hS=>Za ?_
 refine Zd hS rfl (fun hc0=>?_) (fun hc0=>?_)
 ·skip
  have hg:1=Zai t:=by unfold Zai;rw [if_pos (by simp at hc0;omega)]
  refine wp_seq ?_
  refine Zb hS (qI qZ) hB [2,1] [101,0] rfl rfl fun a w F hS=>Za (wp_ret (Zs (Zi ?_)))
  refine Zw hfr hS rfl rfl rfl (.int hg)
 have hid:1≤t.id∧t.id≤1048575:=by simp at hc0;omega
 refine wp_seq ?_
 refine Zb hS (qg 2 101 r1 r1 (qa 101 r1 r1 (qu Tryz.underlying31 r1 (qf (Zbi .t qi) r1 qz (qN rfl rfl qZ))))) hB [16,2,1] [101,0] rfl rfl fun a w F hS=>Za ?_
 refine Zd hS rfl (fun hc1=>?_) (fun hc1=>?_)
 ·skip
  have hg:9=Zai t:=by unfold Zai;rw [if_neg (by omega),if_pos (by simp at hc1;omega)]
  refine wp_seq ?_
  refine Zb hS (qI qZ) hB [2,1] [101,0] rfl rfl fun a w F hS=>Za (wp_ret (Zs (Zi ?_)))
  refine Zw hfr hS rfl rfl rfl (.int hg)
 have hlen:t.ops.length≤4095:=by simp at hc1;omega
 have hT:Zai t=ZaO t.id [] t.ops:=by unfold Zai;rw [if_neg (by omega),if_neg (by omega)]
 refine wp_skip (Zj (Za (wp_seq ?_)))
 refine Zc hS (qf (ZaA (ek:=(fun n:Int=>PV.int .i64 n)) (ok:=(fun k=>∀ x ∈ ZaZ k,inR .i64 x)) (kv:=(kvS ZaZ)) 102) trivial qz (qN rfl rfl qZ)) hB [3,2,1] [102,101,0] (fun _=>rfl) (fun _=>rfl) fun τ a w F hS=>?_
 try dsimp only [RS.sub,SF.sub,CF.sub,csub,Anc.sub,List.map,Zf,xL,xM,Nat.reduceAdd,xD,xE,xT,xU,xC,xN,zCF,Zo,rOp,rTx] at hS
 generalize τ 21=v21 at hS
 refine Za (wp_seq (wp_seq ?_))
 refine Zb hS (qg 2 101 r1 r1 (qa 101 r1 r1 (qu Tryz.underlying31 r1 (qJ qZ)))) hB [25,24,23,3,2,1] [102,101,0] rfl rfl fun a w F hS=>Za (wp_block ?_)
 refine Zl (σ:=(Nat)×(List (GE ZaU Int))×(Nat)) [1,2,3,23,24] [0,101] (fun s=>[(25,.pv (.int .i64 (s.1:Int)))]) (fun s=>[(102,.ob (.val v21) (Zbd (fun n:Int=>PV.int .i64 n) (fun k=>∀ x ∈ ZaZ k,inR .i64 x) (kvS ZaZ) s.2.1 s.2.2))]) (fun s=>s.1≤t.ops.length∧(ZaO t.id [] t.ops=ZaO t.id (t.ops.take s.1) (t.ops.drop s.1)∧Zb1 s.2.1 (t.ops.take s.1))) (fun s=>t.ops.length - s.1) ((0),([]),(0)) hS ⟨rfl,rfl,rfl,rfl,rfl,rfl,trivial⟩ ⟨rfl,rfl,rfl,trivial⟩ ⟨Nat.zero_le _,⟨rfl,ZmS⟩⟩ ?_
 clear hS;intro s a w F hC hS
 obtain ⟨i,es,ck⟩:=s
 try dsimp only at hC
 obtain ⟨F,hS⟩:=hS.nm [25,24,23,3,2,1] [102,101,0] rfl rfl
 try dsimp only at hS
 obtain ⟨hi,hq⟩:=hC
 obtain ⟨hrt,hsp⟩:=hq
 have hwl:=fun k=>Zp1 t.ops i k
 refine wp_seq ?_
 refine Zb hS (qL r2) hB [26,25,24,23,3,2,1] [102,101,0] rfl rfl fun a w F hS=>Za (wp_seq ?_)
 refine Zd hS rfl (fun hc2=>?_) (fun hc2=>?_)
 ·skip
  have hil:i<t.ops.length:=by simp at hc2;omega
  refine wp_skip (Za (wp_seq (wp_block (wp_seq ?_))))
  refine Zc hS (qy 4 Tryz.underlying31 r2 (qf (oR true 4 .t) r1 qz (qf (oH [.bool false,.int .i64 0,.int .i64 0,.int .i64 0] 103) trivial qz (qS 4 103 r2 r1 qZ)))) hB [25,24,23,5,3,2,1] [103,102,101,0] (fun _=>rfl) (fun _=>rfl) fun τ a w F hS=>?_
  try dsimp only [RS.sub,SF.sub,CF.sub,csub,Anc.sub,List.map,Zf,xL,xM,Nat.reduceAdd,xD,xE,xT,xU,xC,xN,zCF,ldSF,Zo,rOp,rTx] at hS
  generalize τ 5=v5 at hS
  try simp only [Int.toNat_natCast] at hS
  refine Za (wp_seq (wp_seq ?_))
  refine Zb hS (qe 4 103 r1 r1 (qf (oP (Zlw (Go.Gm.nth t.ops i)) Tryz.func122 (Args.one (.pagg .t))) r1 qz (qN rfl rfl qZ))) hB [25,24,23,6,5,3,2,1] [103,102,101,0] rfl rfl fun a w F hS=>Za (wp_seq ?_)
  refine Zb hS (qM rfl rfl (qf (o_neq .t qi) r1 qz qZ)) hB [32,25,24,23,6,5,3,2,1] [103,102,101,0] rfl rfl fun a w F hS=>Za ?_
  refine Zd hS rfl (fun hc3=>?_) (fun hc3=>?_)
  ·skip
   have hk:Zb5 (Go.Gm.nth t.ops i)=false:=by unfold Zci at hc3;simpa using hc3
   have hg:Zci (Go.Gm.nth t.ops i)=Zai t:=by rw [hT,hrt,Zcv hil,if_pos hk];unfold Zci;rw [hk];rfl
   refine wp_seq ?_
   refine Zb hS (qM rfl rfl (qN rfl rfl qZ)) hB [25,24,23,5,3,2,1] [103,102,101,0] rfl rfl fun a w F hS=>Za (wp_ret (Zi (Zs (Zi (Zi (Zs (Zi ?_)))))))
   refine Zw hfr hS rfl rfl rfl (.int hg)
  have hk:Zb5 (Go.Gm.nth t.ops i)=true:=by unfold Zci at hc3;simpa using hc3
  refine wp_skip (Za (wp_seq (wp_seq ?_)))
  refine Zb hS (qg 0 103 r1 r1 (qa 103 r1 r1 (qf (o_not .t) r1 qz qZ))) hB [36,25,24,23,5,3,2,1] [103,102,101,0] rfl rfl fun a w F hS=>Za ?_
  refine Zd hS rfl (fun hc4=>?_) (fun hc4=>?_)
  ·skip
   have hr:(Go.Gm.nth t.ops i).read=false:=by simpa using hc4
   have hm0:=hsp (Go.Gm.nth t.ops i).key 0 (Int.le_refl _)
   rw [if_pos rfl] at hm0
   have hwc:IntKind.wrap .i64 (((gGet (⟨(Go.Gm.nth t.ops i).key,0⟩:ZaU) es).getD 0)+1)=(wcnt (t.ops.take i) (Go.Gm.nth t.ops i).key:Int)+1:=by rw [hm0];exact ZJ (by have:=hwl (Go.Gm.nth t.ops i).key;omega)
   refine wp_seq ?_
   replace hS:=hS.turnZ 102 (0) (⟨(Go.Gm.nth t.ops i).key,0⟩:ZaU) rfl
   refine ZaM 102 8 (m1:=1) (m2:=2) (by kernel_rfl) hS (by kernel_rfl) (qM rfl rfl (qg 1 103 r1 r1 (qa 103 r1 r1 (qf (oB [(0,.tmp 39),(1,_)] [.int .i64 0,.int .i64 0] [(0,1),(1,1)] (.one rfl .t one_int (by kernel_rfl) (.one rfl qi one_int (by kernel_rfl) .nil))) r1 qz (qf (ZbJ (ek:=(fun n:Int=>PV.int .i64 n)) (z0:=(0)) 102 Tryz.underlying167 ZeS (by kernel_rfl) (fun _ _=>⟨rfl,Zc4⟩) .is (ZD.agg (enc:=ZaZ) (k:=(⟨(Go.Gm.nth t.ops i).key,0⟩:ZaU)) (.pagg .t) rfl)) r2 r1 (qp r1 (qf (ZaL (ek:=(fun n:Int=>PV.int .i64 n)) (z0:=(0)) 102 Tryz.underlying167 ZeS (by kernel_rfl) (fun _ _=>⟨rfl,Zc4⟩) .is (ZD.agg (enc:=ZaZ) (k:=(⟨(Go.Gm.nth t.ops i).key,0⟩:ZaU)) (.pagg .t) rfl) (by intros;first | rfl | simp [Anc.v,upd])) r2 r1 (qf (Zq .t rfl) r1 qz (qf (Zak 102 (Zbl _ _ _) .is .t .t) r3 r1 qZ))))))))) (by kernel_rfl) (by kernel_rfl) (by kernel_rfl) rfl rfl rfl (fun _ _ _ _ h=>.inr h) (by rw [hB];kernel_rfl) fun a w F hS=>?_
   obtain ⟨F,hS⟩:=hS.nm [25,24,23,5,3,2,1] [103,102,101,0] rfl rfl
   try dsimp only [List.map,Zf,xL,xM,Nat.reduceAdd,xD,xE,xT,xU,xC,xN,zCF,ldSF,Zo,rOp,rTx] at hS
   obtain ⟨es1,he1⟩:∃ z,z=gSet (⟨(Go.Gm.nth t.ops i).key,0⟩:ZaU) (IntKind.wrap .i64 (((gGet (⟨(Go.Gm.nth t.ops i).key,0⟩:ZaU) es).getD 0)+1)) (gEns 0 (⟨(Go.Gm.nth t.ops i).key,0⟩:ZaU) (es,ck)).1:=⟨_,rfl⟩
   obtain ⟨ck1,hc1⟩:∃ z,z=(gEns 0 (⟨(Go.Gm.nth t.ops i).key,0⟩:ZaU) (es,ck)).2:=⟨_,rfl⟩
   rw [← he1,← hc1] at hS
   refine Za (wp_seq ?_)
   refine Zy hS (qM rfl rfl (qg 1 103 r1 r1 (qa 103 r1 r1 (qM rfl rfl (qg 1 103 r1 r1 (qa 103 r1 r1 (qf (oB [(0,.tmp 50),(1,_)] [.int .i64 0,.int .i64 0] [(0,1),(1,1)] (.one rfl .t one_int (by kernel_rfl) (.one rfl qi one_int (by kernel_rfl) .nil))) r1 qz (qf (Zab (ek:=(fun n:Int=>PV.int .i64 n)) (z0:=(0)) 102 Tryz.underlying167 ZeS (by kernel_rfl) (fun _ _=>⟨rfl,Zc4⟩) .is (ZD.agg (enc:=ZaZ) (k:=(⟨(Go.Gm.nth t.ops i).key,0⟩:ZaU)) (.pagg .t) rfl)) r2 r1 (qf (oB [(0,.tmp 47),(1,.tmp 52)] [.int .i64 0,.int .i64 0] [(0,1),(1,1)] (.one rfl .t one_int (by kernel_rfl) (.one rfl .t one_int (by kernel_rfl) .nil))) r2 qz (qf (o_mapUpdateG (ek:=(fun n:Int=>PV.int .i64 n)) 102 Tryz.underlying167 ZeS .is (ZD.agg (enc:=ZaZ) (k:=(⟨(Go.Gm.nth t.ops i).key,(gGet (⟨(Go.Gm.nth t.ops i).key,0⟩:ZaU) es1).getD 0⟩:ZaU)) (.pagg .t) rfl) qi) r2 r1 qZ)))))))))) hB [25,24,23,5,3,2,1] [103,102,101,0] rfl rfl fun a w F hS=>?_
   try dsimp only [List.map,Zf,xL,xM,Nat.reduceAdd,xD,xE,xT,xU,xC,xN,zCF,ldSF,Zo,rOp,rTx] at hS
   have hv1:∀ p,(gGet p es1).getD 0=if p=(⟨(Go.Gm.nth t.ops i).key,0⟩:ZaU) then (wcnt (t.ops.take i) (Go.Gm.nth t.ops i).key:Int)+1 else (gGet p es).getD 0:=fun p=>by rw [he1,ZfU,hwc]
   obtain ⟨es2,he2⟩:∃ z,z=(gPut (⟨(Go.Gm.nth t.ops i).key,(gGet (⟨(Go.Gm.nth t.ops i).key,0⟩:ZaU) es1).getD 0⟩:ZaU) 1 (es1,ck1)).1:=⟨_,rfl⟩
   obtain ⟨ck2,hc2⟩:∃ z,z=(gPut (⟨(Go.Gm.nth t.ops i).key,(gGet (⟨(Go.Gm.nth t.ops i).key,0⟩:ZaU) es1).getD 0⟩:ZaU) 1 (es1,ck1)).2:=⟨_,rfl⟩
   rw [← he2,← hc2] at hS
   have hR2:ZaO t.id [] t.ops=ZaO t.id (t.ops.take (i+1)) (t.ops.drop (i+1))∧Zb1 es2 (t.ops.take (i+1)):=⟨by rw [hrt,Zcv hil,if_neg (by rw [hk];decide),if_neg (by rw [hr];simp)],Zlu hsp hil hr rfl (fun p=>by rw [he2,Zox];dsimp only;rw [hv1,hv1,if_pos rfl])⟩
   refine Za (wp_exit (Zh (Zp (Za ?_))))
   refine Zb hS (qp r1 (qM rfl rfl qZ)) hB [25,24,23,3,2,1] [103,102,101,0] rfl rfl fun a w F hS=>Za ?_
   replace hS:=hS.ent (i:=25) (s':=.pv (.int .i64 ((i+1:Nat):Int))) rfl (.int (Ze (by omega)))
   obtain ⟨F,hS⟩:=hS.nm [24,23,3,2,1,25] [101,0,102] rfl rfl
   exact ⟨((i+1),(es2),(ck2)),F,⟨by omega,hR2⟩,hS,by omega⟩
  have hr:(Go.Gm.nth t.ops i).read=true:=by simpa using hc4
  refine wp_skip (Za (wp_seq ?_))
  refine Zb hS (qg 2 103 r1 r1 (qa 103 r1 r1 (qg 0 101 r1 r1 (qa 101 r1 r1 (qf (o_eql .t .t) r2 qz (qM rfl rfl (qm rfl rfl rfl rfl (qv 1 103 rfl r2 r1 (qw 103 rfl r2 r1 (qv 3 103 rfl r2 r1 (qw 103 rfl r2 r1 (qk rfl (fun h=>Zms (r:=[(0,.tmp 62),(1,.tmp 64)]) (zs:=[.int .i64 0,.int .i64 0]) (pl:=[(0,1),(1,1)]) (by kernel_rfl) (by kernel_rfl) (.one rfl (.w h) one_int (by kernel_rfl) (.one rfl (.w h) one_int (by kernel_rfl) .nil)) (by rfl)) r3 qz (qk rfl (fun h=>Zab (ek:=(fun n:Int=>PV.int .i64 n)) (z0:=(0)) 102 Tryz.underlying167 ZeS (by kernel_rfl) (fun _ _=>⟨rfl,Zc4⟩) (.w h .is) (ZD.agg (enc:=ZaZ) (k:=(⟨(Go.Gm.nth t.ops i).key,(Go.Gm.nth t.ops i).nth⟩:ZaU)) (.pagg (.w h)) rfl)) r3 r1 (qk rfl (fun h=>o_eql (.w h) qi) r2 qz (qf (ZN .t .t) r2 qz qZ))))))))))))))) hB [68,25,24,23,3,2,1] [103,102,101,0] rfl rfl fun a w F hS=>Za ?_
  refine Zd hS rfl (fun hc5=>?_) (fun hc5=>?_)
  ·skip
   have hg:6=Zai t:=by rw [hT,hrt,Zcv hil,if_neg (by rw [hk];decide),if_pos ((ZhJ hsp hk hr hid.1).1 (by simpa using hc5))]
   refine wp_seq ?_
   refine Zb hS (qI qZ) hB [25,24,23,3,2,1] [103,102,101,0] rfl rfl fun a w F hS=>Za (wp_ret (Zs (Zi (Zi (Zs (Zi ?_))))))
   refine Zw hfr hS rfl rfl rfl (.int hg)
  have hno:=fun h9=>(by simpa using hc5:¬ ((Go.Gm.nth t.ops i).tx=t.id∧(gGet (⟨(Go.Gm.nth t.ops i).key,(Go.Gm.nth t.ops i).nth⟩:ZaU) es).getD 0=0)) ((ZhJ hsp hk hr hid.1).2 h9)
  obtain ⟨es2,he2⟩:∃ z,z=es:=⟨_,rfl⟩
  obtain ⟨ck2,hc2⟩:∃ z,z=ck:=⟨_,rfl⟩
  have hR2:ZaO t.id [] t.ops=ZaO t.id (t.ops.take (i+1)) (t.ops.drop (i+1))∧Zb1 es2 (t.ops.take (i+1)):=⟨by rw [hrt,Zcv hil,if_neg (by rw [hk];decide),if_neg hno],by rw [he2];exact Zmq hsp hil hr⟩
  rw [← he2,← hc2] at hS
  refine wp_skip (Zj (Za ?_))
  refine Zb hS (qp r1 (qM rfl rfl qZ)) hB [25,24,23,3,2,1] [103,102,101,0] rfl rfl fun a w F hS=>Za ?_
  replace hS:=hS.ent (i:=25) (s':=.pv (.int .i64 ((i+1:Nat):Int))) rfl (.int (Ze (by omega)))
  obtain ⟨F,hS⟩:=hS.nm [24,23,3,2,1,25] [101,0,102] rfl rfl
  exact ⟨((i+1),(es2),(ck2)),F,⟨by omega,hR2⟩,hS,by omega⟩
 have hil:i=t.ops.length:=by simp at hc2;omega
 have hg:0=Zai t:=by rw [hT,hrt,ZiO hil]
 refine wp_exit (Zh (Zh (Zp (Za (wp_seq ?_)))))
 refine Zb hS (qI qZ) hB [2] [102,101,0] rfl rfl fun a w F hS=>Za (wp_ret ?_)
 refine Zw hfr hS rfl rfl rfl (.int hg)
theorem Zh2 (t:TxD) (hl:t.ops.length≤1000000):FnP Tryz.prog 57 [.agg (rTx t)] (.sl ZS (ZaE t)):=by
 refine FnP.mk Tryz.func57 rfl Tryz.ntmps57 rfl ?_
 intro B a w F hB hfr hS
 refine wp_seq ?_
 refine Zc hS (qx 101 r1 (qC qZ)) hB [2,1] [101,0] (fun _=>rfl) (fun _=>rfl) fun τ a w F hS=>?_
 try dsimp only [RS.sub,SF.sub,CF.sub,csub,Anc.sub,List.map,zCF,Zo,rOp,rTx,ZS] at hS
 generalize τ 1=v1 at hS
 refine Za (wp_seq ?_)
 refine Zb hS (qC qZ) hB [3,2,1] [101,0] rfl rfl fun a w F hS=>Za (wp_seq ?_)
 refine Zc hS (qf (ZaA (ek:=(fun n:Int=>PV.int .i64 n)) (ok:=(fun k=>∀ x ∈ ZcN k,inR .i64 x)) (kv:=(kvS ZcN)) 102) trivial qz (qN rfl rfl qZ)) hB [4,3,2,1] [102,101,0] (fun _=>rfl) (fun _=>rfl) fun τ a w F hS=>?_
 try dsimp only [RS.sub,SF.sub,CF.sub,csub,Anc.sub,List.map,Zf,xL,xM,Nat.reduceAdd,xD,xE,xT,xU,xC,xN,zCF,Zo,rOp,rTx,ZS] at hS
 generalize τ 8=v8 at hS
 refine Za (wp_seq (wp_seq ?_))
 refine Zb hS (qg 2 101 r1 r1 (qa 101 r1 r1 (qu Tryz.underlying31 r1 (qJ qZ)))) hB [12,11,10,4,3,2,1] [102,101,0] rfl rfl fun a w F hS=>Za (wp_block ?_)
 replace hS:=hS.fresh 50 rfl
 replace hS:=hS.turn 50 rfl (Zbj (T:=98) (sz:=3) (R:=ZS))
 refine Zl (σ:=(Nat)×(List (GE ZbB Int))×(Nat)×(Value)×(List ZbB)) [1,2,4,10,11] [0,101] (fun s=>[(12,.pv (.int .i64 (s.1:Int))),(3,.pv (.is s.2.2.2.1))]) (fun s=>[(102,.ob (.val v8) (Zbd (fun n:Int=>PV.int .i64 n) (fun k=>∀ x ∈ ZcN k,inR .i64 x) (kvS ZcN) s.2.1 s.2.2.1)),(50,.ob (.val s.2.2.2.1) (Zu 98 3 ZS s.2.2.2.2))]) (fun s=>s.1≤t.ops.length∧(s.2.2.2.2=ZcP t.id (t.ops.take s.1)∧ZdC s.2.1 s.1 s.2.2.2.2)) (fun s=>t.ops.length - s.1) ((0),([]),(0),(.slice none 0 0),([])) hS ⟨rfl,rfl,rfl,rfl,rfl,rfl,rfl,trivial⟩ ⟨rfl,rfl,rfl,rfl,trivial⟩ ⟨Nat.zero_le _,⟨rfl,Zn7⟩⟩ ?_
 clear hS;intro s a w F hC hS
 obtain ⟨i,es,ck,v,out⟩:=s
 try dsimp only at hC
 obtain ⟨F,hS⟩:=hS.nm [12,11,10,4,3,2,1] [102,101,50,0] rfl rfl
 try dsimp only at hS
 obtain ⟨hi,hq⟩:=hC
 obtain ⟨hou,hvi⟩:=hq
 have hol:out.length≤i:=by rw [hou];exact ZfR _ _ _
 have hst:=fun hil:i<t.ops.length=>ZiT (id:=t.id) hil
 refine wp_seq ?_
 refine Zb hS (qL r2) hB [13,12,11,10,4,3,2,1] [102,101,50,0] rfl rfl fun a w F hS=>Za (wp_seq ?_)
 refine Zd hS rfl (fun hc0=>?_) (fun hc0=>?_)
 ·skip
  have hil:i<t.ops.length:=by simp at hc0;omega
  refine wp_skip (Za (wp_seq (wp_block (wp_seq ?_))))
  refine Zc hS (qy 4 Tryz.underlying31 r2 (qf (oR true 4 .t) r1 qz (qf (oH [.bool false,.int .i64 0,.int .i64 0,.int .i64 0] 103) trivial qz (qS 4 103 r2 r1 qZ)))) hB [12,11,10,6,4,3,2,1] [103,102,101,50,0] (fun _=>rfl) (fun _=>rfl) fun τ a w F hS=>?_
  try dsimp only [RS.sub,SF.sub,CF.sub,csub,Anc.sub,List.map,Zf,xL,xM,Nat.reduceAdd,xD,xE,xT,xU,xC,xN,zCF,ldSF,Zo,rOp,rTx,ZS] at hS
  generalize τ 6=v6 at hS
  try simp only [Int.toNat_natCast] at hS
  refine Za (wp_seq ?_)
  refine Zc hS (qe 4 103 r1 r1 (qf (oP (Zlm (Go.Gm.nth t.ops i)) Tryz.func121 (Args.one (.pagg .t))) r1 qz (qf (oH [.int .i64 0,.int .i64 0,.int .i64 0] 104) trivial qz (qf (oA 3 104 .same (.conv .t .agg)) r2 r1 qZ)))) hB [12,11,10,7,6,4,3,2,1] [104,103,102,101,50,0] (fun _=>rfl) (fun _=>rfl) fun τ a w F hS=>?_
  try dsimp only [RS.sub,SF.sub,CF.sub,csub,Anc.sub,List.map,Zf,xL,xM,Nat.reduceAdd,xD,xE,xT,xU,xC,xN,zCF,ldSF,Zo,rOp,rTx,ZS] at hS
  generalize τ 7=v7 at hS
  refine Za (wp_seq (wp_seq ?_))
  refine Zb hS (qg 0 103 r1 r1 (qa 103 r1 r1 (qf (o_not .t) r1 qz (qM rfl rfl (qv 0 104 rfl r2 r1 (qw 104 rfl r2 r1 (qk rfl (fun h=>o_eql (.w h) qi) r2 qz (qf (Zbc .t .t) r2 qz (qM rfl rfl (qv 0 104 rfl r2 r1 (qw 104 rfl r2 r1 (qv 0 101 rfl r2 r1 (qw 101 rfl r2 r1 (qk rfl (fun h=>o_eql (.w h) (.w h)) r3 qz (qf (Zbc .t .t) r2 qz qZ))))))))))))))) hB [32,12,11,10,7,4,3,2,1] [104,103,102,101,50,0] rfl rfl fun a w F hS=>Za ?_
  refine Zd hS rfl (fun hc1=>?_) (fun hc1=>?_)
  ·skip
   have hno:ZbU t.id (Go.Gm.nth t.ops i)=false:=by unfold ZbU;unfold ofO at hc1;cases hr:(Go.Gm.nth t.ops i).read <;> simp [hr] at hc1 ⊢;omega
   obtain ⟨es2,he2⟩:∃ z,z=es:=⟨_,rfl⟩
   obtain ⟨ck2,hc2⟩:∃ z,z=ck:=⟨_,rfl⟩
   obtain ⟨out2,ho2⟩:∃ z,z=out:=⟨_,rfl⟩
   have hR2:out2=ZcP t.id (t.ops.take (i+1))∧ZdC es2 (i+1) out2:=⟨by rw [ho2,hou,hst hil];unfold Z9;rw [if_neg (by rw [hno];simp)],by rw [he2,ho2];exact Zov hvi⟩
   rw [← he2,← hc2,← ho2] at hS
   refine wp_exit (Zh (Zp (Za ?_)))
   refine Zb hS (qp r1 (qM rfl rfl qZ)) hB [12,11,10,4,3,2,1] [103,102,101,50,0] rfl rfl fun a w F hS=>Za ?_
   replace hS:=hS.ent (i:=12) (s':=.pv (.int .i64 ((i+1:Nat):Int))) rfl (.int (Ze (by omega)))
   obtain ⟨F,hS⟩:=hS.nm [11,10,4,2,1,3,12] [101,0,50,102] rfl rfl
   exact ⟨((i+1),(es2),(ck2),_,(out2)),F,⟨by omega,hR2⟩,hS,by omega⟩
  have hyes:ZbU t.id (Go.Gm.nth t.ops i)=true:=by unfold ZbU;unfold ofO at hc1;cases hr:(Go.Gm.nth t.ops i).read <;> simp [hr] at hc1 ⊢;exact hc1
  have hvr:=hvi (ofO (Go.Gm.nth t.ops i))
  have hw1:IntKind.wrap .i64 (((gGet (ofO (Go.Gm.nth t.ops i)) es).getD 0)+1)=((gGet (ofO (Go.Gm.nth t.ops i)) es).getD 0)+1:=ZJ (by have:=Sat.lenSl hS (i:=10) rfl;omega)
  refine wp_skip (Za (wp_seq ?_))
  replace hS:=hS.turnZ 102 (0) (ofO (Go.Gm.nth t.ops i)) rfl
  refine ZaM 102 6 (m1:=1) (m2:=2) (by kernel_rfl) hS (by kernel_rfl) (qM rfl rfl (qe 3 104 r1 r1 (qf (ZbJ (ek:=(fun n:Int=>PV.int .i64 n)) (z0:=(0)) 102 Tryz.underlying165 Znk (by kernel_rfl) (fun _ _=>⟨rfl,Zc4⟩) .is (ZD.agg (enc:=ZcN) (k:=(ofO (Go.Gm.nth t.ops i))) (.pagg .t) rfl)) r2 r1 (qp r1 (qf (ZaL (ek:=(fun n:Int=>PV.int .i64 n)) (z0:=(0)) 102 Tryz.underlying165 Znk (by kernel_rfl) (fun _ _=>⟨rfl,Zc4⟩) .is (ZD.agg (enc:=ZcN) (k:=(ofO (Go.Gm.nth t.ops i))) (.pagg .t) rfl) (by intros;first | rfl | simp [Anc.v,upd])) r2 r1 (qf (Zq .t rfl) r1 qz (qf (Zak 102 (Zbl _ _ _) .is .t .t) r3 r1 qZ))))))) (by kernel_rfl) (by kernel_rfl) (by kernel_rfl) rfl rfl rfl (fun _ _ _ _ h=>.inr h) (by rw [hB];kernel_rfl) fun a w F hS=>?_
  obtain ⟨F,hS⟩:=hS.nm [12,11,10,7,4,3,2,1] [104,103,102,101,50,0] rfl rfl
  try dsimp only [List.map,xD,xE,xT,xU,ldSF,Zo,rOp,rTx,ZS] at hS
  obtain ⟨es2,he2⟩:∃ z,z=gSet (ofO (Go.Gm.nth t.ops i)) (IntKind.wrap .i64 (((gGet (ofO (Go.Gm.nth t.ops i)) es).getD 0)+1)) (gEns 0 (ofO (Go.Gm.nth t.ops i)) (es,ck)).1:=⟨_,rfl⟩
  obtain ⟨ck2,hc2⟩:∃ z,z=(gEns 0 (ofO (Go.Gm.nth t.ops i)) (es,ck)).2:=⟨_,rfl⟩
  rw [← he2,← hc2] at hS
  have hvv:∀ u,(gGet u es2).getD 0=if u=(ofO (Go.Gm.nth t.ops i)) then ((gGet (ofO (Go.Gm.nth t.ops i)) es).getD 0)+1 else (gGet u es).getD 0:=fun u=>by rw [he2,ZfU,hw1]
  have hmv:(gGet (ofO (Go.Gm.nth t.ops i)) es2).getD 0=((gGet (ofO (Go.Gm.nth t.ops i)) es).getD 0)+1:=by rw [hvv,if_pos rfl]
  have hvs:=ZoF hvi hvv
  refine Za (wp_seq ?_)
  refine Zb hS (qM rfl rfl (qe 3 104 r1 r1 (qf (Zab (ek:=(fun n:Int=>PV.int .i64 n)) (z0:=(0)) 102 Tryz.underlying165 Znk (by kernel_rfl) (fun _ _=>⟨rfl,Zc4⟩) .is (ZD.agg (enc:=ZcN) (k:=(ofO (Go.Gm.nth t.ops i))) (.pagg .t) rfl)) r2 r1 (qf (o_eql .t qi) r1 qz qZ)))) hB [42,12,11,10,7,4,3,2,1] [104,103,102,101,50,0] rfl rfl fun a w F hS=>Za ?_
  refine Zd hS rfl (fun hc2=>?_) (fun hc2=>?_)
  ·skip
   have hnm:(ofO (Go.Gm.nth t.ops i)) ∉ out:=by rw [← hvr.2.2];rw [hmv] at hc2;simp at hc2;omega
   obtain ⟨out2,ho2⟩:∃ z,z=out ++ [(ofO (Go.Gm.nth t.ops i))]:=⟨_,rfl⟩
   have hR2:out2=ZcP t.id (t.ops.take (i+1))∧ZdC es2 (i+1) out2:=⟨by rw [ho2,hst hil];unfold Z9;rw [if_pos ⟨hyes,by rw [← hou];exact hnm⟩,← hou],by have:=hvs;rw [if_neg hnm] at this;rw [ho2];exact this⟩
   refine Zc hS (qM rfl rfl (qe 3 104 r1 r1 (qf (Zt (sz:=3) (zs:=[.int .i64 0,.int .i64 0,.int .i64 0]) (r:=[(0,.tmp 44)]) (l:=[_,_,_]) Tryz.underlying48 (by kernel_rfl) (by kernel_rfl) (by kernel_rfl) (by kernel_rfl) rfl rfl (.agg rfl .t (by kernel_rfl) (by kernel_rfl) .nil) rfl) r1 qz (qf (ZV (sz:=3) (bs:=24) 50 (.mk' Tryz.underlying48 (by kernel_rfl) (by kernel_rfl)) (by intro x;rfl) .is (.arr (l':=[_]) .t) (by simp only [List.length_append,List.length_cons,List.length_nil,List.length_take,List.length_drop];omega) (by decide)) ⟨rfl,rfl,trivial⟩ ⟨rfl,trivial⟩ (qN rfl rfl qZ))))) hB [12,11,10,4,3,2,1] [103,102,101,50,0] (fun _=>rfl) (fun _=>rfl) fun τ a w F hS=>?_
   try dsimp only [RS.sub,SF.sub,CF.sub,csub,Anc.sub,List.map,Zf,xL,xM,Nat.reduceAdd,xD,xE,xT,xU,xC,xN,zCF,ldSF,Zo,rOp,rTx,ZS] at hS
   generalize τ 46=v46 at hS
   rw [← ho2] at hS
   refine Zj (Za ?_)
   refine Zb hS (qp r1 (qM rfl rfl qZ)) hB [12,11,10,4,3,2,1] [103,102,101,50,0] rfl rfl fun a w F hS=>Za ?_
   replace hS:=hS.ent (i:=12) (s':=.pv (.int .i64 ((i+1:Nat):Int))) rfl (.int (Ze (by omega)))
   obtain ⟨F,hS⟩:=hS.nm [11,10,4,2,1,3,12] [101,0,50,102] rfl rfl
   exact ⟨((i+1),(es2),(ck2),_,(out2)),F,⟨by omega,hR2⟩,hS,by omega⟩
  have hnm:(ofO (Go.Gm.nth t.ops i)) ∈ out:=by rw [← hvr.2.2];rw [hmv] at hc2;simp at hc2;omega
  obtain ⟨out2,ho2⟩:∃ z,z=out:=⟨_,rfl⟩
  have hR2:out2=ZcP t.id (t.ops.take (i+1))∧ZdC es2 (i+1) out2:=⟨by rw [ho2,hst hil];unfold Z9;rw [if_neg (by rw [← hou];simp [hnm])];exact hou,by have:=hvs;rw [if_pos hnm] at this;rw [ho2];exact this⟩
  rw [← ho2] at hS
  refine wp_skip (Zj (Za ?_))
  refine Zb hS (qp r1 (qM rfl rfl qZ)) hB [12,11,10,4,3,2,1] [103,102,101,50,0] rfl rfl fun a w F hS=>Za ?_
  replace hS:=hS.ent (i:=12) (s':=.pv (.int .i64 ((i+1:Nat):Int))) rfl (.int (Ze (by omega)))
  obtain ⟨F,hS⟩:=hS.nm [11,10,4,2,1,3,12] [101,0,50,102] rfl rfl
  exact ⟨((i+1),(es2),(ck2),_,(out2)),F,⟨by omega,hR2⟩,hS,by omega⟩
 have hil:i=t.ops.length:=by simp at hc0;omega
 refine wp_exit (Zh (Zh (Zp (Za (wp_seq ?_)))))
 refine Zb hS (qM rfl rfl (qN rfl rfl qZ)) hB [2] [102,101,50,0] rfl rfl fun a w F hS=>Za (wp_ret ?_)
 obtain ⟨F,hS⟩:=hS.give 50 2 rfl rfl
 refine Zw hfr hS rfl rfl rfl (.sl (by rw [hou,hil,List.take_length];rfl))
theorem ZqD (l:List Int) (v:Int):FnP Tryz.prog 151 [.sl Zo l,.int .i64 v] (.int .i64 (Zax v l)):=by
 refine FnP.mk Tryz.func151 rfl Tryz.ntmps151 rfl ?_
 intro B a w F hB hfr hS
 have hll:=Sat.lenSl hS (i:=0) rfl
 refine wp_seq ?_
 refine Zb hS (qI qZ) hB [4,1,0] [0] rfl rfl fun a w F hS=>Za (wp_seq (wp_seq ?_))
 refine Zb hS (qM rfl rfl (qu Tryz.underlying34 r1 (qJ qZ))) hB [8,7,4,1,0] [0] rfl rfl fun a w F hS=>Za (wp_block ?_)
 refine Zl (σ:=(Nat)) [0,1,4,7] [0] (fun s=>[(8,.pv (.int .i64 (s:Int)))]) (fun s=>[]) (fun s=>s≤l.length∧(∀ k,k<s→Go.Gm.nth l k≠v)) (fun s=>l.length - s) (0) hS ⟨rfl,rfl,rfl,rfl,rfl,trivial⟩ ⟨rfl,trivial⟩ ⟨Nat.zero_le _,fun k hk=>absurd hk (Nat.not_lt_zero k)⟩ ?_
 clear hS;intro i a w F hC hS
 try dsimp only at hC
 obtain ⟨F,hS⟩:=hS.nm [8,7,4,1,0] [0] rfl rfl
 try dsimp only at hS
 obtain ⟨hi,hq⟩:=hC
 refine wp_seq ?_
 refine Zb hS (qL r2) hB [9,8,7,4,1,0] [0] rfl rfl fun a w F hS=>Za (wp_seq ?_)
 refine Zd hS rfl (fun hc0=>?_) (fun hc0=>?_)
 ·skip
  have hil:i<l.length:=by simp at hc0;omega
  refine wp_skip (Za (wp_seq (wp_block (wp_seq ?_))))
  refine Zb hS (qM rfl rfl (qN rfl rfl qZ)) hB [8,7,5,4,1,0] [0] rfl rfl fun a w F hS=>Za (wp_seq ?_)
  refine Zb hS (qM rfl rfl (qM rfl rfl (qM rfl rfl (qy 1 Tryz.underlying34 r2 (qf (oR false 1 .t) r1 qz (qf (o_eql .t .t) r2 qz qZ)))))) hB [16,8,7,5,4,1,0] [0] rfl rfl fun a w F hS=>?_
  try simp only [Int.toNat_natCast] at hS
  refine Za ?_
  refine Zd hS rfl (fun hc1=>?_) (fun hc1=>?_)
  ·skip
   have hg:(i:Int)=Zax v l:=(ZlD hil (by simp at hc1;omega) hq).symm
   refine wp_seq ?_
   refine Zb hS (qM rfl rfl (qN rfl rfl qZ)) hB [8,7,4,1,0] [0] rfl rfl fun a w F hS=>Za (wp_ret (Zs (Zi (Zi (Zs (Zi ?_))))))
   refine Zw hfr hS rfl rfl rfl (.int hg)
  have hne:Go.Gm.nth l i≠v:=by simp at hc1;omega
  refine wp_skip (Zj (Za ?_))
  refine Zb hS (qp r1 (qM rfl rfl qZ)) hB [8,7,4,1,0] [0] rfl rfl fun a w F hS=>Za ?_
  replace hS:=hS.ent (i:=8) (s':=.pv (.int .i64 ((i+1:Nat):Int))) rfl (.int (Ze (by omega)))
  obtain ⟨F,hS⟩:=hS.nm [7,4,1,0,8] [0] rfl rfl
  exact ⟨(i+1),F,⟨by omega,(fun k hk=>by rcases Nat.lt_or_eq_of_le (Nat.le_of_lt_succ hk) with h | h;exact hq k h;rw [h];exact hne)⟩,hS,by omega⟩
 have hil:i=l.length:=by simp at hc0;omega
 have hg : -1=Zax v l:=(Zft fun k hk=>hq k (by simp at hc0;omega)).symm
 refine wp_exit (Zh (Zh (Zp (Za (wp_seq ?_)))))
 refine Zb hS (qI qZ) hB [4] [0] rfl rfl fun a w F hS=>Za (wp_ret ?_)
 refine Zw hfr hS rfl rfl rfl (.int hg)
theorem ZkD (l:List Int) (v:Int):FnP Tryz.prog 212 [.sl Zo l,.int .i64 v] (.bool (decide (v ∈ l))):=by
 refine FnP.mk Tryz.func212 rfl Tryz.ntmps212 rfl ?_
 intro B a w F hB hfr hS
 refine wp_seq ?_
 refine Zb hS qB hB [4,1,0] [0] rfl rfl fun a w F hS=>Za (wp_seq ?_)
 refine Zb hS (qM rfl rfl (qM rfl rfl (qf (oP (ZqD l v) Tryz.func151 (Args.two .t .t)) r2 qz (qf (ZbW .t qi) r1 qz (qN rfl rfl qZ))))) hB [4] [0] rfl rfl fun a w F hS=>Za (wp_ret ?_)
 refine Zw hfr hS rfl rfl rfl (.bool (by rw [decide_eq_decide];exact Zoh))
theorem ZqJ (x y:List Int):FnP Tryz.prog 66 [.sl Zo x,.sl Zo y] (.bool (decide (x=y))):=by
 refine FnP.mk Tryz.func66 rfl Tryz.ntmps66 rfl ?_
 intro B a w F hB hfr hS
 have hxl:=Sat.lenSl hS (i:=0) rfl
 refine wp_seq ?_
 refine Zb hS qB hB [4,1,0] [0] rfl rfl fun a w F hS=>Za (wp_seq (wp_seq ?_))
 refine Zb hS (qM rfl rfl (qu Tryz.underlying34 r1 (qM rfl rfl (qu Tryz.underlying34 r1 (qf (o_neq .t .t) r2 qz qZ))))) hB [10,4,1,0] [0] rfl rfl fun a w F hS=>Za ?_
 refine Zd hS rfl (fun hc0=>?_) (fun hc0=>?_)
 ·skip
  have hg:false=decide (x=y):=by
    rw [eq_comm,decide_eq_false_iff_not]
    intro h
    subst h
    simp at hc0
  refine wp_seq ?_
  refine Zb hS qB hB [4,1,0] [0] rfl rfl fun a w F hS=>Za (wp_ret (Zi ?_))
  refine Zw hfr hS rfl rfl rfl (.bool hg)
 have hl:x.length=y.length:=by simp at hc0;omega
 refine wp_skip (Za (wp_seq (wp_seq ?_)))
 refine Zb hS (qM rfl rfl (qu Tryz.underlying34 r1 (qJ qZ))) hB [13,12,4,1,0] [0] rfl rfl fun a w F hS=>Za (wp_block ?_)
 obtain ⟨F,hS⟩:=hS.nm [13,12,1,0] [0] rfl rfl
 refine Zbt (σ:=Nat) (fun s=>(⟨[(0,.pv (.sl Zo x)),(1,.pv (.sl Zo y)),(12,.pv (.int .i64 x.length)),(13,.pv (.int .i64 s))],[(0,frame B)]⟩:En)) (fun s=>s≤x.length ∧ ∀ j,j<s→Go.Gm.nth x j=Go.Gm.nth y j) (fun s=>x.length - s) 0 hS ⟨Nat.zero_le _,fun j hj=>absurd hj (Nat.not_lt_zero j)⟩ ?_
 clear hS;intro i a w F hC hS
 try dsimp only at hC
 try dsimp only at hS
 obtain ⟨hi,hq⟩:=hC
 refine wp_seq ?_
 refine Zb hS (qL r2) hB [14,13,12,1,0] [0] rfl rfl fun a w F hS=>Za (wp_seq ?_)
 refine Zd hS rfl (fun hc1=>?_) (fun hc1=>?_)
 ·skip
  have hil:i<x.length:=by simp at hc1;omega
  refine wp_skip (Za (wp_seq (wp_block (wp_seq ?_))))
  refine Zb hS (qM rfl rfl (qN rfl rfl qZ)) hB [13,12,5,1,0] [0] rfl rfl fun a w F hS=>Za (wp_seq ?_)
  refine Zy hS (qM rfl rfl (qM rfl rfl (qy 1 Tryz.underlying34 r2 (qf (oR false 1 .t) r1 qz (qM rfl rfl (qM rfl rfl (qy 1 Tryz.underlying34 r2 (qf (oR false 1 .t) r1 qz (qf (o_neq .t .t) r2 qz qZ))))))))) hB [24,13,12,1,0] [0] rfl rfl fun a w F hS=>?_
  try dsimp only [List.map,xD,xE,xT,xU,ldSF] at hS
  refine Za ?_
  refine Zd hS rfl (fun hc2=>?_) (fun hc2=>?_)
  ·skip
   have hg:false=decide (x=y):=by
     rw [eq_comm,decide_eq_false_iff_not]
     intro h
     subst h
     simp at hc2
   refine wp_seq ?_
   refine Zb hS qB hB [13,12,4,1,0] [0] rfl rfl fun a w F hS=>Za (wp_ret (Zs (Zi (Zi (Zs (Zi ?_))))))
   refine Zw hfr hS rfl rfl rfl (.bool hg)
  rw [Int.toNat_natCast] at hc2
  have hqi:Go.Gm.nth x i=Go.Gm.nth y i:=by simpa using hc2
  refine wp_skip (Zj (Za ?_))
  refine Zb hS (qp r1 (qM rfl rfl qZ)) hB [13,12,1,0] [0] rfl rfl fun a w F hS=>Za ?_
  replace hS:=hS.ent (i:=13) (s':=.pv (.int .i64 ((i+1:Nat):Int))) rfl (.int (Ze (by omega)))
  obtain ⟨F,hS⟩:=hS.nm [13,12,1,0] [0] rfl rfl
  exact ⟨i+1,F,⟨by omega,fun j hj=>by rcases Nat.lt_or_eq_of_le (Nat.le_of_lt_succ hj) with h | h;exact hq j h;rw [h];exact hqi⟩,hS,by omega⟩
 have hg:true=decide (x=y):=by
   rw [eq_comm,decide_eq_true_eq]
   exact Zig hl fun j hj=>hq j (by simp at hc1;omega)
 refine wp_exit (Zh (Zh (Zp (Za (wp_seq ?_)))))
 refine Zb hS qB hB [4] [0] rfl rfl fun a w F hS=>Za (wp_ret ?_)
 refine Zw hfr hS rfl rfl rfl (.bool hg)
theorem Zrp (x y:List Int) (hx:x.length≤1000000) (hy:y.length≤1000000):FnP Tryz.prog 19 [.sl Zo x,.sl Zo y] (.bool (decide (x.Perm y))):=by
 refine FnP.mk Tryz.func19 rfl Tryz.ntmps19 rfl ?_
 intro B a w F hB hfr hS
 refine wp_seq ?_
 refine Zb hS qB hB [4,1,0] [0] rfl rfl fun a w F hS=>Za (wp_seq ?_)
 replace hS:=hS.fresh 101 rfl
 replace hS:=hS.fresh 102 rfl
 refine Zc hS (qM rfl rfl (qf (Za1 101 (Zeu x hx) Tryz.func64 rfl (by kernel_rfl) (Args.one .t) pvOne1) r1 r1 (qM rfl rfl (qf (Za1 102 (Zeu y hy) Tryz.func64 rfl (by kernel_rfl) (Args.one .t) pvOne1) r1 r1 (qN rfl rfl (qN rfl rfl qZ)))))) hB [6,5,4] [102,101,0] (fun _=>rfl) (fun _=>rfl) fun τ a w F hS=>?_
 try dsimp only [RS.sub,SF.sub,CF.sub,csub,Anc.sub,List.map,Zo] at hS
 generalize τ 8=v8 at hS
 generalize τ 10=v10 at hS
 refine Za (wp_seq ?_)
 refine Zb hS (qM rfl rfl (qf (Zbe 101 (Zjz _ x hx) Tryz.func65 rfl (by kernel_rfl) (Args.one .t)) r1 r1 qZ)) hB [6,5,4] [102,101,0] rfl rfl fun a w F hS=>Za (wp_seq ?_)
 refine Zb hS (qM rfl rfl (qf (Zbe 102 (Zjz _ y hy) Tryz.func65 rfl (by kernel_rfl) (Args.one .t)) r1 r1 qZ)) hB [6,5,4] [102,101,0] rfl rfl fun a w F hS=>Za (wp_seq ?_)
 refine Zb hS (qM rfl rfl (qM rfl rfl (qf (OpC.lendRow 102 [16] (OpC.lendRow 101 [15] (oP (ZqJ _ _) Tryz.func66 (Args.two .t .t)) ⟨rfl,trivial,trivial⟩ (.pv (fun _ _ _ _ h=>h)) trivial (by rfl)) ⟨trivial,rfl,trivial⟩ (.pv (fun _ _ _ _ h=>h)) trivial (by rfl)) r2 r2 (qN rfl rfl qZ)))) hB [4] [102,101,0] rfl rfl fun a w F hS=>Za (wp_ret ?_)
 refine Zw hfr hS rfl rfl rfl (.bool (by rw [decide_eq_decide];exact Zlj))
def zeroT:TxD:=⟨0,false,[]⟩
def ZaH (l:List TxD):Prop:=l.length≤1000 ∧ ∀ t ∈ l,t.ops.length≤1000
def Zdz (l:List OrdD):Prop:=l.length≤4000 ∧ ∀ o ∈ l,o.txs.length≤1000
def Za0 (h:Zn):Prop:=ZaH h.txs∧Zdz h.orders
theorem ZaH.at {l:List TxD} (h:ZaH l) {i:Nat} (hi:i<l.length):(Go.Gm.nth l i).ops.length≤1000:=h.2 _ (nth_mem hi)
theorem Zdz.at {l:List OrdD} (h:Zdz l) {i:Nat} (hi:i<l.length):(Go.Gm.nth l i).txs.length≤1000:=h.2 _ (nth_mem hi)
def Z7 (l:List TxD) (id:Int):Option TxD:=l.find? fun t=>decide (t.id=id)
theorem ZnE {l:List TxD} {id:Int} {i:Nat} (hi:i<l.length) (h:(Go.Gm.nth l i).id=id) (hq:∀ k,k<i→(Go.Gm.nth l k).id≠id):Z7 l id=some (Go.Gm.nth l i):=by
 unfold Z7
 rw [List.find?_eq_some_iff_getElem]
 refine ⟨by simpa using h,i,hi,(nth_eq hi).symm,fun j hj=>?_⟩
 have:=hq j hj
 rw [nth_eq (by omega)] at this
 simpa using this
theorem Zk2 {l:List TxD} {id:Int} (hq:∀ k,k<l.length→(Go.Gm.nth l k).id≠id):Z7 l id=none:=by
 unfold Z7
 rw [List.find?_eq_none]
 intro x hx
 obtain ⟨k,hk,e⟩:=List.getElem_of_mem hx
 have:=hq k hk
 rw [nth_eq hk,e] at this
 simpa using this
theorem findT_mem {l:List TxD} {id:Int} {t:TxD} (h:Z7 l id=some t):t ∈ l∧t.id=id:=⟨List.mem_of_find?_eq_some h,by have:=List.find?_some h;simpa using this⟩
def Zio (h:Zn) (v:ZbB):Bool:=if v.tx=0∧v.nth=0 then decide (1≤v.key∧v.key≤1048575) else (Z7 h.txs v.tx).isSome && (decide (1≤v.nth) && decide (v.nth≤(wcnt ((Z7 h.txs v.tx).getD zeroT).ops v.key:Int)))
def Zdf (h:Zn) (t:TxD):Bool:=(ZaE t).all (Zio h)
def ZY (t:TxD):List Int:=ZcL ((t.ops.filter fun o=>!o.read).map OpD.key)
theorem Zcc {t:TxD} {k:Int} : k ∈ ZY t ↔ 0<wcnt t.ops k:=by
 unfold ZY
 rw [(Zar _).2,List.mem_map]
 unfold wcnt
 rw [List.length_pos_iff_exists_mem]
 constructor
 · rintro ⟨o,ho,e⟩
   rw [List.mem_filter] at ho
   exact ⟨o,by rw [List.mem_filter];exact ⟨ho.1,by simp [e];simpa using ho.2⟩⟩
 · rintro ⟨o,ho⟩
   rw [List.mem_filter] at ho
   simp at ho
   exact ⟨o,by rw [List.mem_filter];simp [ho.1,ho.2.1],ho.2.2⟩
theorem Zde (t:TxD):(ZY t).length≤t.ops.length:=Nat.le_trans (Zhk _) (by rw [List.length_map];exact List.length_filter_le _ _)
def ZT (l:List TxD) (k:Int):List Int:=(l.filter fun t=>t.done && decide (0<wcnt t.ops k)).map TxD.id
theorem Zd5 (l:List TxD) (k:Int):(ZT l k).length≤l.length:=by unfold ZT;rw [List.length_map];exact List.length_filter_le _ _
theorem Zdo {l:List TxD} {i:Nat} (hi:i<l.length) (k:Int):ZT (l.take (i+1)) k=ZT (l.take i) k++if (Go.Gm.nth l i).done=true∧0<wcnt (Go.Gm.nth l i).ops k then [(Go.Gm.nth l i).id] else []:=by
 unfold ZT
 rw [Zv hi,List.filter_append,List.map_append]
 congr 1
 by_cases h:(Go.Gm.nth l i).done=true∧0<wcnt (Go.Gm.nth l i).ops k
 · rw [if_pos h,List.filter_cons_of_pos (by simp [h.1,h.2])];rfl
 · rw [if_neg h,List.filter_cons_of_neg (by simp;intro e;exact Nat.eq_zero_of_not_pos fun e2=>h ⟨e,e2⟩)];rfl
def ZbT (l:List TxD):List Int:=ZcL ((l.filter fun t=>t.done).flatMap ZY)
theorem Zon {l:List TxD} (h:ZaH l) (i:Nat):(ZbT (l.take i)).length≤1000*i:=by
 unfold ZbT
 refine Nat.le_trans (Zhk _) ?_
 have key:∀ l:List TxD,(∀ t ∈ l,t.ops.length≤1000)→((l.filter fun t=>t.done).flatMap ZY).length≤1000*l.length:=by
   intro l
   induction l with
   | nil=>intro _;simp
   | cons t l ih=>
     intro h
     have h1:=ih fun x hx=>h x (by simp [hx])
     have h2:=h t (by simp)
     have h3:=Zde t
     by_cases hd:t.done=true
     · rw [List.filter_cons_of_pos (by simpa using hd),List.flatMap_cons,List.length_append,List.length_cons]
       omega
     · rw [List.filter_cons_of_neg (by simpa using hd),List.length_cons]
       omega
 have h1:=key (l.take i) fun t ht=>h.2 t (List.mem_of_mem_take ht)
 have h2:(l.take i).length≤i:=by rw [List.length_take];omega
 exact Nat.le_trans h1 (Nat.mul_le_mul_left _ h2)
theorem ZmG {l:List TxD} (h:ZaH l):(ZbT l).length≤1000000:=by
 have h1:=Zon h l.length
 rw [List.take_length] at h1
 have:=h.1
 omega
theorem Zcm {l:List TxD} {k:Int} : k ∈ ZbT l ↔ ZT l k≠[]:=by
 unfold ZbT
 rw [(Zar _).2,List.mem_flatMap]
 unfold ZT
 rw [ne_eq,List.map_eq_nil_iff,List.filter_eq_nil_iff]
 constructor
 · rintro ⟨t,ht,hk⟩ hn
   rw [List.mem_filter] at ht
   have:=hn t ht.1
   simp [ht.2] at this
   have:=Zcc.1 hk
   simp_all
 · intro hn
   simp only [Classical.not_forall] at hn
   obtain ⟨t,ht,h2⟩:=hn
   simp at h2
   exact ⟨t,by rw [List.mem_filter];exact ⟨ht,by simpa using h2.1⟩,Zcc.2 (Nat.pos_of_ne_zero h2.2)⟩
def Zlc (h:Zn) (i:Nat):Prop:=(0<i→(Go.Gm.nth h.txs (i - 1)).id<(Go.Gm.nth h.txs i).id)∧Zai (Go.Gm.nth h.txs i)=0∧Zdf h (Go.Gm.nth h.txs i)=true
instance (h:Zn) (i:Nat):Decidable (Zlc h i):=by unfold Zlc;exact inferInstance
def ZoE (h:Zn) (i:Nat):Prop:=(Go.Gm.nth h.orders i).key=Go.Gm.nth (ZbT h.txs) i∧(Go.Gm.nth h.orders i).txs.Perm (ZT h.txs (Go.Gm.nth h.orders i).key)
instance (h:Zn) (i:Nat):Decidable (ZoE h i):=by unfold ZoE;exact inferInstance
def ZG (h:Zn):Prop:=h.txs.length≤4096∧(∀ i,i<h.txs.length→Zlc h i)∧h.orders.length=(ZbT h.txs).length ∧ ∀ i,i<h.orders.length→ZoE h i
instance (h:Zn):Decidable (ZG h):=by unfold ZG;exact inferInstance
def ZeH (h:Zn) (i:Nat):Prop:=(0<i→(Go.Gm.nth h.orders (i - 1)).key<(Go.Gm.nth h.orders i).key)∧(Go.Gm.nth h.orders i).txs≠[]∧(Go.Gm.nth h.orders i).txs.Perm (ZT h.txs (Go.Gm.nth h.orders i).key)
theorem Ze8:∀ {l:List Int},(∀ i,i<l.length→0<i→Go.Gm.nth l (i - 1)<Go.Gm.nth l i)→Zg5 l
 | [],_=>List.Pairwise.nil
 | [x],_=>by simp
 | x :: y :: l,h=>by
   have ih:=Ze8 (l:=y :: l) fun i hi h0=>by
     have:=h (i+1) (by simpa using hi) (by omega)
     obtain ⟨j,rfl⟩:∃ j,i=j+1:=⟨i - 1,by omega⟩
     have hj:j<l.length:=by simpa using hi
     rw [nth_eq (l:=x :: y :: l) (by simp;omega),nth_eq (l:=x :: y :: l) (by simp;omega)] at this
     rw [nth_eq (l:=y :: l) (by simp;omega),nth_eq (l:=y :: l) (by simp;omega)]
     exact this
   have h1:=h 1 (by simp) (by omega)
   rw [nth_eq (by simp),nth_eq (by simp)] at h1
   simp at h1
   have ih2:=List.pairwise_cons.1 ih
   refine List.pairwise_cons.2 ⟨fun z hz=>?_,ih⟩
   rcases List.mem_cons.1 hz with rfl | hz
   · exact h1
   · have:=ih2.1 z hz;omega
theorem ZqX {l:List Int} (h:Zg5 l) {i:Nat} (hi:i<l.length) (h0:0<i):Go.Gm.nth l (i - 1)<Go.Gm.nth l i:=by
 rw [nth_eq hi,nth_eq (by omega)]
 exact List.pairwise_iff_getElem.1 h (i - 1) i (by omega) hi (by omega)
theorem ZiZ:∀ {b a:List Int},Zg5 a→Zg5 b→(∀ x ∈ a,x ∈ b)→a.length≤b.length∧(a.length=b.length→a=b)
 | [],a,_,_,h=>by
   have:a = []:=List.eq_nil_iff_forall_not_mem.2 fun x hx=>by cases h x hx
   subst this;simp
 | y :: b,[],_,_,_=>⟨by simp,fun h=>by simp at h⟩
 | y :: b,x :: a,ha,hb,h=>by
   have ha':=List.pairwise_cons.1 ha
   have hb':=List.pairwise_cons.1 hb
   by_cases e:x=y
   · subst e
     have ih:=ZiZ (b:=b) (a:=a) ha'.2 hb'.2 fun z hz=>by
       rcases List.mem_cons.1 (h z (by simp [hz])) with e | e
       · have:=ha'.1 z hz;omega
       · exact e
     exact ⟨by simp;exact ih.1,fun hl=>by rw [ih.2 (by simpa using hl)]⟩
   · have hx:y<x:=by
       rcases List.mem_cons.1 (h x (by simp)) with e2 | e2
       · exact absurd e2 e
       · exact hb'.1 x e2
     have ih:=ZiZ (b:=b) (a:=x :: a) ha hb'.2 fun z hz=>by
       rcases List.mem_cons.1 (h z hz) with e2 | e2
       · rcases List.mem_cons.1 hz with e3 | e3
         · omega
         · have:=ha'.1 z e3;omega
       · exact e2
     exact ⟨by have:=ih.1;simp at this ⊢;omega,fun hl=>by have:=ih.1;simp at this hl;omega⟩
theorem ZbR {α β:Type} [Inhabited α] [Inhabited β] {f:α→β} {l:List α} {i:Nat} (h:i<l.length):Go.Gm.nth (l.map f) i=f (Go.Gm.nth l i):=by
 rw [nth_eq (by simpa using h),nth_eq h];simp
theorem Zcz (h:Zn):(h.orders.length=(ZbT h.txs).length ∧ ∀ i,i<h.orders.length→ZeH h i) ↔ (h.orders.length=(ZbT h.txs).length ∧ ∀ i,i<h.orders.length→ZoE h i):=by
 have hK:Zg5 (ZbT h.txs):=(Zar _).1
 constructor
 · rintro ⟨hl,hq⟩
   refine ⟨hl,?_⟩
   have hO:Zg5 (h.orders.map OrdD.key):=Ze8 fun i hi h0=>by
     have hi':i<h.orders.length:=by simpa using hi
     rw [ZbR (by omega),ZbR hi']
     exact (hq i hi').1 h0
   have hsub:∀ x ∈ h.orders.map OrdD.key,x ∈ ZbT h.txs:=fun x hx=>by
     obtain ⟨o,ho,rfl⟩:=List.mem_map.1 hx
     obtain ⟨k,hk,e⟩:=List.getElem_of_mem ho
     have:=hq k hk
     unfold ZeH at this
     rw [nth_eq hk,e] at this
     rw [Zcm]
     intro e2
     rw [e2] at this
     exact this.2.1 (List.Perm.eq_nil this.2.2)
   have he:=(ZiZ hO hK hsub).2 (by simpa using hl)
   intro i hi
   refine ⟨?_,(hq i hi).2.2⟩
   rw [← he,ZbR hi]
 · rintro ⟨hl,hq⟩
   refine ⟨hl,fun i hi=>?_⟩
   have hin:(Go.Gm.nth h.orders i).key ∈ ZbT h.txs:=by rw [(hq i hi).1];exact nth_mem (by omega)
   refine ⟨fun h0=>?_,fun e=>?_,(hq i hi).2⟩
   · rw [(hq i hi).1,(hq (i - 1) (by omega)).1]
     exact ZqX hK (by omega) h0
   · have:=(hq i hi).2
     rw [e] at this
     exact Zcm.1 hin this.symm.eq_nil
theorem ZfH {h:Zn} (hb:4096<h.txs.length):false=decide (ZG h):=(decide_eq_false fun hr=>by have:=hr.1;omega).symm
theorem Zht {h:Zn} {i:Nat} (hi:i<h.txs.length) (hb:¬ Zlc h i):false=decide (ZG h):=(decide_eq_false fun hr=>hb (hr.2.1 i hi)).symm
theorem ZgA {h:Zn} (hb:h.orders.length≠(ZbT h.txs).length):false=decide (ZG h):=(decide_eq_false fun hr=>hb hr.2.2.1).symm
theorem ZfA {h:Zn} {i:Nat} (hi:i<h.orders.length) (hb:¬ ZeH h i):false=decide (ZG h):=(decide_eq_false fun hr=>hb (((Zcz h).2 hr.2.2).2 i hi)).symm
theorem ZiA {h:Zn} (h1:h.txs.length≤4096) (h2:∀ i,i<h.txs.length→Zlc h i) (h3:h.orders.length=(ZbT h.txs).length) (h4:∀ i,i<h.orders.length→ZeH h i):true=decide (ZG h):=(decide_eq_true ⟨h1,h2,(Zcz h).1 ⟨h3,h4⟩⟩).symm
def Zqz (l:List Int):Option (List Int):=if l = [] then none else some l
theorem ZjG (l:List Int):(Zqz l).getD [] = l:=by
 unfold Zqz
 split
 · rename_i h;rw [h];rfl
 · rfl
def WrL (es:List (GE Int (List Int))) (l:List TxD):Prop:=GNd es ∧ ∀ k,gGet k es=Zqz (ZT l k)
def WrV (es:List (GE Int (Value×List Int))) (l:List TxD) (id:Int) (ks:List Int):Prop:=GNd es ∧ ∀ k,(gGet k es).map (·.2)=Zqz (ZT l k++if k ∈ ks then [id] else [])
theorem Zqb {id:Int} : WrV [] [] id []:=⟨by simp [GNd],fun k=>by simp [gGet,ZT,Zqz]⟩
theorem Zn5 {es:List (GE Int (Value×List Int))} {l:List TxD} {id:Int} (h:WrV es l id []):WrL (Zd3 es) l:=⟨by unfold GNd;rw [Zix];exact h.1,fun k=>by rw [ZfQ,h.2];simp⟩
theorem Zpg {es:List (GE Int (Value×List Int))} {l:List TxD} {id id':Int} (h:WrV es l id []):WrV es l id' []:=⟨h.1,fun k=>by rw [h.2];simp⟩
theorem ZqW {es:List (GE Int (Value×List Int))} {l:List TxD} {i:Nat} {id:Int} (h:WrV es (l.take i) id []) (hi:i<l.length) (hd:(Go.Gm.nth l i).done=false):WrV es (l.take (i+1)) id []:=⟨h.1,fun k=>by rw [h.2,Zdo hi];simp [hd]⟩
theorem ZpU {es:List (GE Int (Value×List Int))} {l:List TxD} {i:Nat} {id:Int} (h:WrV es (l.take i) (Go.Gm.nth l i).id (ZY (Go.Gm.nth l i))) (hi:i<l.length) (hd:(Go.Gm.nth l i).done=true):WrV es (l.take (i+1)) id []:=⟨h.1,fun k=>by
 rw [h.2,Zdo hi]
 congr 1
 simp only [List.not_mem_nil,if_false,List.append_nil]
 congr 1
 by_cases hk:k ∈ ZY (Go.Gm.nth l i)
 · rw [if_pos hk,if_pos ⟨hd,Zcc.1 hk⟩]
 · rw [if_neg hk,if_neg fun h9=>hk (Zcc.2 h9.2)]⟩
theorem Zpl {es:List (GE Int (Value×List Int))} {l:List TxD} {id:Int} {ks:List Int} {j:Nat} (h:WrV es l id (ks.take j)) (hn:ks.Nodup) (hj:j<ks.length):((gGet (Go.Gm.nth ks j) es).getD Zg4).2=ZT l (Go.Gm.nth ks j):=by
 have h1:=h.2 (Go.Gm.nth ks j)
 have hni:Go.Gm.nth ks j ∉ ks.take j:=fun hm=>by
   rw [nth_eq hj] at hm
   obtain ⟨k,hk,e⟩:=List.getElem_of_mem hm
   rw [List.length_take] at hk
   rw [List.getElem_take] at e
   have h3:=List.pairwise_iff_getElem.1 hn k j (by omega) hj (by omega)
   exact h3 e
 rw [if_neg hni,List.append_nil] at h1
 have h2:=ZjG (ZT l (Go.Gm.nth ks j))
 rw [← h1] at h2
 rw [← h2]
 cases gGet (Go.Gm.nth ks j) es <;> rfl
theorem Zqu {es:List (GE Int (Value×List Int))} {l:List TxD} {id:Int} {ks:List Int} {j ck:Nat} {v:Value} (h:WrV es l id (ks.take j)) (hn:ks.Nodup) (hj:j<ks.length):WrV (gPut (Go.Gm.nth ks j) (v,((gGet (Go.Gm.nth ks j) es).getD Zg4).2 ++ [id]) (es,ck)).1 l id (ks.take (j+1)):=⟨GNd.put h.1,fun k=>by
 rw [Zcw,Zpl h hn hj,Zv hj]
 by_cases e:k=Go.Gm.nth ks j
 · subst e
   rw [if_pos rfl,if_pos (by simp)]
   simp [Zqz]
 · rw [if_neg e,h.2]
   simp [e]⟩
theorem ZrJ {es:List (GE Int (List Int))} {l:List TxD} (h:WrL es l) (k:Int):(gGet k es).getD [] = ZT l k:=by rw [h.2,ZjG]
theorem ZrM {es:List (GE Int (List Int))} {l:List TxD} (h:WrL es l):es.length=(ZbT l).length:=by
 have h1:(es.map (·.key)).Perm (ZbT l):=by
   refine (List.perm_ext_iff_of_nodup h.1 ((Zar _).1.imp fun h=>Int.ne_of_lt h)).2 fun k=>?_
   rw [← Zeq,h.2,show (k ∈ ZcL ((l.filter fun t=>t.done).flatMap ZY)) ↔ ZT l k≠[] from Zcm]
   unfold Zqz
   split <;> simp_all
 simpa using h1.length_eq
theorem Ze1 (t:TxD):(ZY t).Nodup:=(Zar _).1.imp fun h=>Int.ne_of_lt h
theorem Zh8 {α:Type} {R:α→List PV} {w:World} {y:Ys} : (PV.sl R ([]:List α)).p (.slice none 0 0) w y:=⟨none,0,rfl,Nat.le_refl _,by unfold maxLen;omega,.inl rfl⟩
theorem Zgy (t:TxD) (hl:t.ops.length≤1000000):FnP Tryz.prog 81 [.agg (rTx t)] (.agg (rTx t)):=by
 refine FnP.mk Tryz.func81 rfl Tryz.ntmps81 rfl ?_
 intro B a w F hB hfr hS
 refine wp_seq ?_
 refine Zc hS (qx 101 r1 (qf (oH [.int .i64 0,.bool false,.slice none 0 0] 102) trivial qz qZ)) hB [2,1] [102,101,0] (fun _=>rfl) (fun _=>rfl) fun τ a w F hS=>?_
 try dsimp only [RS.sub,SF.sub,CF.sub,csub,Anc.sub,List.map,zCF,Zr,rTx,ZF,ZS,Zo,rOp] at hS
 generalize τ 1=v1 at hS
 generalize τ 2=v2 at hS
 refine Za (wp_seq ?_)
 replace hS:=hS.fresh 103 rfl
 refine Zc hS (qg 2 101 r1 r1 (qa 101 r1 r1 (qf (Za1 103 (Zn0 t.ops hl) Tryz.func59 rfl (by kernel_rfl) (Args.one .t) pvOne1) r1 r1 (qg 2 101 r1 r1 (qf (o_storeS 101 .adr (by kernel_rfl) (by kernel_rfl)) r2 r1 qZ))))) hB [2,1] [103,102,101,0] (fun _=>rfl) (fun _=>rfl) fun τ a w F hS=>?_
 try dsimp only [RS.sub,SF.sub,CF.sub,csub,Anc.sub,List.map,Zf,xL,xM,Nat.reduceAdd,xD,xE,xT,xU,xC,xN,zCF,ldSF,Zr,rTx,ZF,ZS,Zo,rOp] at hS
 generalize τ 5=v5 at hS
 obtain ⟨F,hS⟩:=hS.giveCell 103 101 2 rfl rfl rfl rfl rfl
 try dsimp only [List.set] at hS
 obtain ⟨F,hS⟩:=hS.nm [2,1] [102,101,0] rfl rfl
 refine Za (wp_seq ?_)
 refine Zb hS (qe 3 101 r1 r1 (qs 3 102 r2 r1 qZ)) hB [2] [102,101,0] rfl rfl fun a w F hS=>Za (wp_ret ?_)
 refine Zao hfr hS rfl (.cl 102 true 3 rfl rfl .nil) (.one (.aggU rfl rfl))
theorem ZpB (g:Zn) (id:Int) (hs:ZaH g.txs):FnP Tryz.prog 30 [.agg (Zr g),.int .i64 id] (.tup [.agg (rTx ((Z7 g.txs id).getD zeroT)),.bool (Z7 g.txs id).isSome]):=by
 refine FnP.mk Tryz.func30 rfl Tryz.ntmps30 rfl ?_
 intro B a w F hB hfr hS
 have hsl:=hs.1
 refine wp_seq ?_
 refine Zc hS (qx 101 r1 (qf (oH [.int .i64 0,.bool false,.slice none 0 0] 102) trivial qz qB)) hB [5,4,2,1] [102,101,0] (fun _=>rfl) (fun _=>rfl) fun τ a w F hS=>?_
 try dsimp only [RS.sub,SF.sub,CF.sub,csub,Anc.sub,List.map,zCF,Zr,rTx,ZF,ZS,Zo,rOp] at hS
 generalize τ 2=v2 at hS
 generalize τ 4=v4 at hS
 refine Za (wp_seq (wp_seq ?_))
 refine Zb hS (qg 0 101 r1 r1 (qa 101 r1 r1 (qu Tryz.underlying27 r1 (qJ qZ)))) hB [11,10,9,5,4,1] [102,101,0] rfl rfl fun a w F hS=>Za (wp_block ?_)
 refine Zl (σ:=(Nat)) [1,4,5,9,10] [0,101,102] (fun s=>[(11,.pv (.int .i64 (s:Int)))]) (fun s=>[]) (fun s=>s≤g.txs.length∧(∀ k,k<s→(Go.Gm.nth g.txs k).id≠id)) (fun s=>g.txs.length - s) (0) hS ⟨rfl,rfl,rfl,rfl,rfl,rfl,trivial⟩ ⟨rfl,rfl,rfl,trivial⟩ ⟨Nat.zero_le _,fun k hk=>absurd hk (Nat.not_lt_zero k)⟩ ?_
 clear hS;intro i a w F hC hS
 try dsimp only at hC
 obtain ⟨F,hS⟩:=hS.nm [11,10,9,5,4,1] [102,101,0] rfl rfl
 try dsimp only at hS
 obtain ⟨hi,hq⟩:=hC
 refine wp_seq ?_
 refine Zb hS (qL r2) hB [12,11,10,9,5,4,1] [102,101,0] rfl rfl fun a w F hS=>Za (wp_seq ?_)
 refine Zd hS rfl (fun hc0=>?_) (fun hc0=>?_)
 ·skip
  have hil:i<g.txs.length:=by simp at hc0;omega
  refine wp_skip (Za (wp_seq (wp_block (wp_seq ?_))))
  refine Zc hS (qy 3 Tryz.underlying27 r2 (qf (oR true 3 .t) r1 qz (qf (oH [.int .i64 0,.bool false,.slice none 0 0] 103) trivial qz (qS 3 103 r2 r1 qZ)))) hB [11,10,9,7,5,4,1] [103,102,101,0] (fun _=>rfl) (fun _=>rfl) fun τ a w F hS=>?_
  try dsimp only [RS.sub,SF.sub,CF.sub,csub,Anc.sub,List.map,Zf,xL,xM,Nat.reduceAdd,xD,xE,xT,xU,xC,xN,zCF,ldSF,Zr,rTx,ZF,ZS,Zo,rOp] at hS
  generalize τ 7=v7 at hS
  try simp only [Int.toNat_natCast] at hS
  refine Za (wp_seq ?_)
  refine Zb hS (qg 0 103 r1 r1 (qa 103 r1 r1 (qM rfl rfl (qf (o_eql .t .t) r2 qz qZ)))) hB [18,11,10,9,7,5,4,1] [103,102,101,0] rfl rfl fun a w F hS=>Za ?_
  refine Zd hS rfl (fun hc1=>?_) (fun hc1=>?_)
  ·skip
   have hg:Z7 g.txs id=some (Go.Gm.nth g.txs i):=ZnE hil (by simpa using hc1) hq
   refine wp_seq ?_
   refine Zb hS (qe 3 103 r1 r1 (qf (oP (Zgy (Go.Gm.nth g.txs i) (by have:=hs.at hil;omega)) Tryz.func81 (Args.one (.pagg .t))) r1 qz (qf (oA 3 102 .is (.conv .t .agg)) r2 r1 qB))) hB [11,10,9,5,4,1] [103,102,101,0] rfl rfl fun a w F hS=>Za (wp_ret (Zs (Zi (Zi (Zs (Zi ?_))))))
   refine Zao hfr hS rfl (.cl 102 true 3 rfl rfl (.tmp rfl .nil)) (.two (by rw [hg];first | exact .aggU rfl rfl | exact .aggLe rfl ⟨.refl,.refl,.nilSl,trivial⟩) (.bool (by rw [hg];rfl)))
  have hne:(Go.Gm.nth g.txs i).id≠id:=by simpa using hc1
  refine wp_skip (Zj (Za ?_))
  refine Zb hS (qp r1 (qM rfl rfl qZ)) hB [11,10,9,5,4,1] [103,102,101,0] rfl rfl fun a w F hS=>Za ?_
  replace hS:=hS.ent (i:=11) (s':=.pv (.int .i64 ((i+1:Nat):Int))) rfl (.int (Ze (by omega)))
  obtain ⟨F,hS⟩:=hS.nm [10,9,5,4,1,11] [102,101,0] rfl rfl
  exact ⟨(i+1),F,⟨by omega,(fun k hk=>by rcases Nat.lt_or_eq_of_le (Nat.le_of_lt_succ hk) with h9 | h9;exact hq k h9;rw [h9];exact hne)⟩,hS,by omega⟩
 have hil:i=g.txs.length:=by simp at hc0;omega
 have hg:Z7 g.txs id=none:=Zk2 (by rw [← hil];exact hq)
 refine wp_exit (Zh (Zh (Zp (Za (wp_seq ?_)))))
 refine Zb hS (qf (oB [] [.int .i64 0,.bool false,.slice none 0 0] [(0,1),(1,1),(2,1)] .nil) trivial qz (qs 3 102 r2 r1 qB)) hB [5,4] [102,101,0] rfl rfl fun a w F hS=>Za (wp_ret ?_)
 refine Zao hfr hS rfl (.cl 102 true 3 rfl rfl (.tmp rfl .nil)) (.two (by rw [hg];first | exact .aggU rfl rfl | exact .aggLe rfl ⟨.refl,.refl,.nilSl,trivial⟩) (.bool (by rw [hg];rfl)))
theorem Zr1 (g:Zn) (v:ZbB) (hs:ZaH g.txs):FnP Tryz.prog 184 [.agg (Zr g),.agg (ZS v)] (.bool (Zio g v)):=by
 refine FnP.mk Tryz.func184 rfl Tryz.ntmps184 rfl ?_
 intro B a w F hB hfr hS
 refine wp_seq ?_
 refine Zc hS (qx 101 r1 (qx 102 r1 qB)) hB [4,3,2] [102,101,0] (fun _=>rfl) (fun _=>rfl) fun τ a w F hS=>?_
 try dsimp only [RS.sub,SF.sub,CF.sub,csub,Anc.sub,List.map,zCF,Zr,rTx,ZF,ZS,Zo,rOp] at hS
 generalize τ 2=v2 at hS
 generalize τ 3=v3 at hS
 refine Za (wp_seq (wp_seq ?_))
 refine Zb hS (qg 0 102 r1 r1 (qa 102 r1 r1 (qf (o_eql .t qi) r1 qz (qM rfl rfl (qv 2 102 rfl r2 r1 (qw 102 rfl r2 r1 (qk rfl (fun h=>o_eql (.w h) qi) r2 qz (qf (ZN .t .t) r2 qz qZ)))))))) hB [14,4,3,2] [102,101,0] rfl rfl fun a w F hS=>Za ?_
 refine Zd hS rfl (fun hc0=>?_) (fun hc0=>?_)
 ·skip
  have h0:(v.tx=0∧v.nth=0):=by simpa using hc0
  have hu:Zio g v=decide (1≤v.key∧v.key≤1048575):=by unfold Zio;rw [if_pos h0]
  refine wp_seq ?_
  refine Zb hS (qg 1 102 r1 r1 (qa 102 r1 r1 (qf (ZbW .t qi) r1 qz (qM rfl rfl (qv 1 102 rfl r2 r1 (qw 102 rfl r2 r1 (qk rfl (fun h=>Zk0 (.w h) qi) r2 qz (qf (ZN .t .t) r2 qz (qN rfl rfl qZ))))))))) hB [4,3,2] [102,101,0] rfl rfl fun a w F hS=>Za (wp_ret (Zi ?_))
  refine Zw hfr hS rfl rfl rfl (.bool (by first | (rw [hu,Bool.decide_and];done) | (rw [hu];unfold idB;rw [Bool.decide_and];done) | (unfold Zio wcnt;rw [if_neg h0,Bool.and_assoc])))
 have h0:¬ (v.tx=0∧v.nth=0):=by simpa using hc0
 have hfl:((Z7 g.txs v.tx).getD zeroT).ops.length≤1000:=by cases hf:Z7 g.txs v.tx with | none=>simp [zeroT] | some t=>exact hs.2 _ (findT_mem hf).1
 refine wp_skip (Za (wp_seq ?_))
 refine Zc hS (qe 2 101 r1 r1 (qg 0 102 r1 r1 (qa 102 r1 r1 (qf (oP (ZpB g v.tx hs) Tryz.func30 (Args.two (.pagg .t) .t)) r2 qz (qM rfl rfl (qf (Zq .t rfl) r1 qz (qf (Zq .t rfl) r1 qz (qf (oH [.int .i64 0,.bool false,.slice none 0 0] 103) trivial qz (qf (oA 3 103 .same (.conv .t .agg)) r2 r1 (qN rfl rfl qZ)))))))))) hB [6,5,4,3] [103,102,101,0] (fun _=>rfl) (fun _=>rfl) fun τ a w F hS=>?_
 try dsimp only [RS.sub,SF.sub,CF.sub,csub,Anc.sub,List.map,Zf,xL,xM,Nat.reduceAdd,xD,xE,xT,xU,xC,xN,zCF,ldSF,Zr,rTx,ZF,ZS,Zo,rOp] at hS
 generalize τ 5=v5 at hS
 refine Za (wp_seq ?_)
 refine Zy hS (qM rfl rfl (qM rfl rfl (qv 2 102 rfl r2 r1 (qw 102 rfl r2 r1 (qk rfl (fun h=>ZbW (.w h) qi) r2 qz (qf (ZN .t .t) r2 qz (qM rfl rfl (qk rfl (fun h=>oL true 3 103 .is) r2 r1 (qv 1 102 rfl r2 r1 (qw 102 rfl r2 r1 (qk rfl (fun h=>oP (Zc6 ((Z7 g.txs v.tx).getD zeroT) v.key (by omega)) Tryz.func60 (Args.two (.pagg (.w h)) (.w h))) r3 qz (qv 2 102 rfl r2 r1 (qw 102 rfl r2 r1 (qk rfl (fun h=>ZbW (.w h) (.w h)) r3 qz (qf (ZN .t .t) r2 qz (qN rfl rfl qZ)))))))))))))))) hB [4] [103,102,101,0] rfl rfl fun a w F hS=>?_
 try dsimp only [List.map,xD,xE,xT,xU,ldSF,Zr,rTx,ZF,ZS,Zo,rOp] at hS
 refine Za (wp_ret ?_)
 refine Zw hfr hS rfl rfl rfl (.bool (by first | (rw [hu,Bool.decide_and];done) | (rw [hu];unfold idB;rw [Bool.decide_and];done) | (unfold Zio wcnt;rw [if_neg h0,Bool.and_assoc])))
theorem Zhv {α:Type} [Inhabited α] {p:α→Bool} {l:List α} : decide (0≤Z6 p l)=l.any p:=by
 rcases ZaT p l with ⟨h1,h2⟩ | ⟨i,h1,h2,h3,h4⟩
 · rw [h1,eq_comm,show decide ((0:Int) ≤ -1)=false by decide,List.any_eq_false]
   intro x hx
   obtain ⟨k,hk,e⟩:=List.getElem_of_mem hx
   have:=h2 k hk
   rw [nth_eq hk,e] at this
   simp [this]
 · rw [h1,show decide ((0:Int)≤(i:Int))=true by simp,eq_comm,List.any_eq_true]
   exact ⟨_,nth_mem h2,h3⟩
theorem ZqE {α:Type} {p:α→Bool} {l:List α} : (!l.any fun v=>!p v)=l.all p:=by
 induction l with
 | nil=>rfl
 | cons x l ih=>rw [List.any_cons,List.all_cons,← ih];cases p x <;> simp
theorem Zqx (l : List ZbB) (p : ZbB → Bool) (f : FuncId) (fn : Func) (cps : List PV) (hf : Tryz.prog.funcs[f]? = some fn) (hb : fn.body.isSome = true) (hnn : (fn.name == "runtime.NumGoroutine") = false) (hw : ∀ x, FnP Tryz.prog f (.agg (ZS x) :: cps) (.bool (p x))) : FnP Tryz.prog 250 [.sl ZS l, .clos f cps] (.int .i64 (Z6 p l)) := by
 refine FnP.mk Tryz.func250 rfl Tryz.ntmps250 rfl ?_
 intro B a w F hB hfr hS
 have hll:=Sat.lenSl hS (i:=0) rfl
 refine wp_seq ?_
 refine Zb hS (qI qZ) hB [4,1,0] [0] rfl rfl fun a w F hS=>Za (wp_seq (wp_seq ?_))
 refine Zb hS (qM rfl rfl (qu Tryz.underlying48 r1 (qJ qZ))) hB [8,7,4,1,0] [0] rfl rfl fun a w F hS=>Za (wp_block ?_)
 refine Zl (σ:=(Nat)) [0,1,4,7] [0] (fun s=>[(8,.pv (.int .i64 (s:Int)))]) (fun s=>[]) (fun s=>s≤l.length∧(∀ k,k<s→p (Go.Gm.nth l k)=false)) (fun s=>l.length - s) (0) hS ⟨rfl,rfl,rfl,rfl,rfl,trivial⟩ ⟨rfl,trivial⟩ ⟨Nat.zero_le _,fun k hk=>absurd hk (Nat.not_lt_zero k)⟩ ?_
 clear hS;intro i a w F hC hS
 try dsimp only at hC
 obtain ⟨F,hS⟩:=hS.nm [8,7,4,1,0] [0] rfl rfl
 try dsimp only at hS
 obtain ⟨hi,hq⟩:=hC
 refine wp_seq ?_
 refine Zb hS (qL r2) hB [9,8,7,4,1,0] [0] rfl rfl fun a w F hS=>Za (wp_seq ?_)
 refine Zd hS rfl (fun hc0=>?_) (fun hc0=>?_)
 ·skip
  have hil:i<l.length:=by simp at hc0;omega
  refine wp_skip (Za (wp_seq (wp_block (wp_seq ?_))))
  refine Zb hS (qM rfl rfl (qN rfl rfl qZ)) hB [8,7,5,4,1,0] [0] rfl rfl fun a w F hS=>Za (wp_seq ?_)
  refine Zb hS (qM rfl rfl (qM rfl rfl (qM rfl rfl (qy 3 Tryz.underlying48 r2 (qf (oR true 3 .t) r1 qz (qf (ZK (avs:=[.agg (ZS (Go.Gm.nth l i))]) .t (hw (Go.Gm.nth l i)) hf hb hnn (Args.one (.pagg .t))) r2 qz qZ)))))) hB [16,8,7,5,4,1,0] [0] rfl rfl fun a w F hS=>?_
  try simp only [Int.toNat_natCast] at hS
  refine Za ?_
  refine Zd hS rfl (fun hc1=>?_) (fun hc1=>?_)
  ·skip
   have hg:(i:Int)=Z6 p l:=(Zcx hil hc1 hq).symm
   refine wp_seq ?_
   refine Zb hS (qM rfl rfl (qN rfl rfl qZ)) hB [8,7,4,1,0] [0] rfl rfl fun a w F hS=>Za (wp_ret (Zs (Zi (Zi (Zs (Zi ?_))))))
   refine Zw hfr hS rfl rfl rfl (.int hg)
  have hne:p (Go.Gm.nth l i)=false:=hc1
  refine wp_skip (Zj (Za ?_))
  refine Zb hS (qp r1 (qM rfl rfl qZ)) hB [8,7,4,1,0] [0] rfl rfl fun a w F hS=>Za ?_
  replace hS:=hS.ent (i:=8) (s':=.pv (.int .i64 ((i+1:Nat):Int))) rfl (.int (Ze (by omega)))
  obtain ⟨F,hS⟩:=hS.nm [7,4,1,0,8] [0] rfl rfl
  exact ⟨(i+1),F,⟨by omega,(fun k hk=>by rcases Nat.lt_or_eq_of_le (Nat.le_of_lt_succ hk) with h | h;exact hq k h;rw [h];exact hne)⟩,hS,by omega⟩
 have hil:i=l.length:=by simp at hc0;omega
 have hg : -1=Z6 p l:=(Zbp fun k hk=>hq k (by simp at hc0;omega)).symm
 refine wp_exit (Zh (Zh (Zp (Za (wp_seq ?_)))))
 refine Zb hS (qI qZ) hB [4] [0] rfl rfl fun a w F hS=>Za (wp_ret ?_)
 refine Zw hfr hS rfl rfl rfl (.int hg)
theorem ZpQ (l : List ZbB) (p : ZbB → Bool) (f : FuncId) (fn : Func) (cps : List PV) (hf : Tryz.prog.funcs[f]? = some fn) (hb : fn.body.isSome = true) (hnn : (fn.name == "runtime.NumGoroutine") = false) (hw : ∀ x, FnP Tryz.prog f (.agg (ZS x) :: cps) (.bool (p x))) : FnP Tryz.prog 182 [.sl ZS l, .clos f cps] (.bool (l.any p)) := by
 refine FnP.mk Tryz.func182 rfl Tryz.ntmps182 rfl ?_
 intro B a w F hB hfr hS
 refine wp_seq ?_
 refine Zb hS qB hB [4,1,0] [0] rfl rfl fun a w F hS=>Za (wp_seq ?_)
 refine Zb hS (qM rfl rfl (qM rfl rfl (qf (oP (Zqx l p f fn cps hf hb hnn hw) Tryz.func250 (Args.two .t .t)) r2 qz (qf (ZbW .t qi) r1 qz (qN rfl rfl qZ))))) hB [4] [0] rfl rfl fun a w F hS=>Za (wp_ret ?_)
 refine Zw hfr hS rfl rfl rfl (.bool (by rw [Zhv]))
theorem Znh (v:ZbB) (g:Zn) (hs:ZaH g.txs):FnP Tryz.prog 183 [.agg (ZS v),.ref (Zr g)] (.bool (!Zio g v)):=by
 refine FnP.mk Tryz.func183 rfl Tryz.ntmps183 rfl ?_
 intro B a w F hB hfr hS
 refine wp_seq ?_
 refine Zc hS (qx 101 r1 qB) hB [3,2,1] [101,0] (fun _=>rfl) (fun _=>rfl) fun τ a w F hS=>?_
 try dsimp only [RS.sub,SF.sub,CF.sub,csub,Anc.sub,List.map,zCF,Zr,rTx,ZF,ZS,Zo,rOp] at hS
 generalize τ 2=v2 at hS
 refine Za (wp_seq ?_)
 refine Zb hS (qf (oR true 2 .t) r1 qz (qe 3 101 r1 r1 (qf (oP (Zr1 g v hs) Tryz.func184 (Args.two (.pagg .t) (.pagg .t))) r2 qz (qf (o_not .t) r1 qz (qN rfl rfl qZ))))) hB [3] [101,0] rfl rfl fun a w F hS=>Za (wp_ret ?_)
 refine Zw hfr hS rfl rfl rfl .refl
theorem ZjC (g:Zn) (t:TxD) (hs:ZaH g.txs) (ht:t.ops.length≤1000):FnP Tryz.prog 111 [.agg (Zr g),.agg (rTx t)] (.bool (Zdf g t)):=by
 refine FnP.mk Tryz.func111 rfl Tryz.ntmps111 rfl ?_
 intro B a w F hB hfr hS
 refine wp_seq ?_
 refine Zc hS (qx 101 r1 (qx 102 r1 qB)) hB [4,3,2] [102,101,0] (fun _=>rfl) (fun _=>rfl) fun τ a w F hS=>?_
 try dsimp only [RS.sub,SF.sub,CF.sub,csub,Anc.sub,List.map,zCF,Zr,rTx,ZF,ZS,Zo,rOp] at hS
 generalize τ 2=v2 at hS
 generalize τ 3=v3 at hS
 refine Za (wp_seq ?_)
 refine Zah 2 hS (by kernel_rfl) (cG rfl (oL true 3 102 .is) r1 r1 (cG rfl (oP (Zh2 t (by omega)) Tryz.func57 (Args.one (.pagg .t))) r1 trivial ChainN.nil)) (by kernel_rfl) (by rw [hB];kernel_rfl) fun a w F hS=>?_
 obtain ⟨F,hS⟩:=hS.nm [6,4,2] [102,101,0] rfl rfl
 try dsimp only [List.map,xD,xE,xT,xU,ldSF,Zr,rTx,ZF,ZS,Zo,rOp] at hS
 obtain ⟨F,hS⟩:=hS.giveRef 101 2 rfl rfl rfl
 obtain ⟨F,hS⟩:=hS.nm [6,4,2] [102,0] rfl rfl
 try dsimp only [Go.Gm.unCF] at hS
 refine Zav hS (by kernel_rfl) (cG rfl (ZbL (Args.one .t)) r1 trivial (cG rfl (oP (ZpQ (ZaE t) (fun v=>!Zio g v) 183 Tryz.f183 [.ref (Zr g)] Tryz.func183 rfl (by kernel_rfl) (fun v=>Znh v g hs)) Tryz.func182 (Args.two .t .t)) r2 trivial (cG rfl (o_not .t) r1 trivial (cG rfl (oN .t) r1 trivial ChainN.nil)))) (by kernel_rfl) (by rw [hB];kernel_rfl) fun a w F hS=>?_
 obtain ⟨F,hS⟩:=hS.nm [4] [102,0] rfl rfl
 try dsimp only [Zr,rTx,ZF,ZS,Zo,rOp] at hS
 refine Za (wp_ret ?_)
 refine Zw hfr hS rfl rfl rfl (.bool (by rw [ZqE];rfl))
theorem Zm7 (g:Zn) (hs:ZaH g.txs):FnG Tryz.prog 112 1 [.agg (Zr g)] [.star []] (PV.one) (fun v=>[HP.ex fun s:List (GE Int (List Int))×Nat=>HP.and (WrL s.1 g.txs) (Zbd (fun l:List Int=>PV.sl Zo l) (fun _=>True) (fun n:Int=>Value.int .i64 n) s.1 s.2 v)]):=by
 refine FnG.mk Tryz.func112 rfl Tryz.ntmps112 rfl (by kernel_rfl) ?_
 intro B F0 a w F hB hG hS
 have hsl:=hs.1
 obtain ⟨F,hS⟩:=hS.nm [0] [0] rfl rfl
 refine wp_seq ?_
 refine Zc hS (qx 101 r1 (qC qZ)) hB [2,1] [101,0] (fun _=>rfl) (fun _=>rfl) fun τ a w F hS=>?_
 try dsimp only [RS.sub,SF.sub,CF.sub,csub,Anc.sub,List.map,zCF,Zr,rTx,ZF,ZS,Zo,rOp] at hS
 generalize τ 1=v1 at hS
 refine Za (wp_seq ?_)
 refine Zc hS (qf (ZaA (ek:=(fun p:Value×List Int=>PV.is p.1)) (ok:=(fun _=>True)) (kv:=(fun n:Int=>Value.int .i64 n)) 102) trivial qz (qN rfl rfl qZ)) hB [3,2,1] [102,101,0] (fun _=>rfl) (fun _=>rfl) fun τ a w F hS=>?_
 try dsimp only [RS.sub,SF.sub,CF.sub,csub,Anc.sub,List.map,Zf,xL,xM,Nat.reduceAdd,xD,xE,xT,xU,xC,xN,zCF,Zr,rTx,ZF,ZS,Zo,rOp] at hS
 generalize τ 8=v8 at hS
 replace hS:=hS.fresh 60 rfl
 replace hS:=hS.turn 60 rfl (r':=Znw 3 1 Zo ([]:List (GE Int (Value×List Int)))) (fun _ _ _ _ h=>h)
 obtain ⟨F,hS⟩:=hS.nm [3,2,1] [102,101,60,0] rfl rfl
 refine Za (wp_seq (wp_seq ?_))
 refine Zb hS (qg 0 101 r1 r1 (qa 101 r1 r1 (qu Tryz.underlying27 r1 (qJ qZ)))) hB [12,11,10,3,2] [102,101,60,0] rfl rfl fun a w F hS=>Za (wp_block ?_)
 refine Zl (σ:=(Nat)×(List (GE Int (Value×List Int)))×(Nat)) [2,3,10,11] [0,101] (fun s=>[(12,.pv (.int .i64 (s.1:Int)))]) (fun s=>[(102,.ob (.val v8) (Zbd (fun p:Value×List Int=>PV.is p.1) (fun _=>True) (fun n:Int=>Value.int .i64 n) s.2.1 s.2.2)),(60,Znw 3 1 Zo s.2.1)]) (fun s=>s.1≤g.txs.length∧(WrV s.2.1 (g.txs.take s.1) 0 [])) (fun s=>g.txs.length - s.1) ((0),([]),(0)) hS ⟨rfl,rfl,rfl,rfl,rfl,trivial⟩ ⟨rfl,rfl,rfl,rfl,trivial⟩ ⟨Nat.zero_le _,Zqb⟩ ?_
 clear hS;intro s a w F hC hS
 obtain ⟨i,es,ck⟩:=s
 try dsimp only at hC
 obtain ⟨F,hS⟩:=hS.nm [12,11,10,3,2] [102,101,60,0] rfl rfl
 try dsimp only at hS
 obtain ⟨hi,hq⟩:=hC
 have hxl:=fun hil:i<g.txs.length=>hs.at hil
 refine wp_seq ?_
 refine Zb hS (qL r2) hB [13,12,11,10,3,2] [102,101,60,0] rfl rfl fun a w F hS=>Za (wp_seq ?_)
 refine Zd hS rfl (fun hc0=>?_) (fun hc0=>?_)
 ·skip
  have hil:i<g.txs.length:=by simp at hc0;omega
  have hio:=hil
  have hw0:=hq
  have htl:=hxl hil
  have hkt:=Zde (Go.Gm.nth g.txs i)
  have hsl:=hs.1
  refine wp_skip (Za (wp_seq (wp_block (wp_seq ?_))))
  refine Zc hS (qy 3 Tryz.underlying27 r2 (qf (oR true 3 .t) r1 qz (qf (oH [.int .i64 0,.bool false,.slice none 0 0] 103) trivial qz (qS 3 103 r2 r1 qZ)))) hB [12,11,10,5,3,2] [103,102,101,60,0] (fun _=>rfl) (fun _=>rfl) fun τ a w F hS=>?_
  try dsimp only [RS.sub,SF.sub,CF.sub,csub,Anc.sub,List.map,Zf,xL,xM,Nat.reduceAdd,xD,xE,xT,xU,xC,xN,zCF,ldSF,Zr,rTx,ZF,ZS,Zo,rOp] at hS
  generalize τ 5=v5 at hS
  try simp only [Int.toNat_natCast] at hS
  refine Za (wp_seq (wp_seq ?_))
  refine Zb hS (qg 1 103 r1 r1 (qa 103 r1 r1 (qf (o_not .t) r1 qz qZ))) hB [18,12,11,10,5,3,2] [103,102,101,60,0] rfl rfl fun a w F hS=>Za ?_
  refine Zd hS rfl (fun hc1=>?_) (fun hc1=>?_)
  ·skip
   have hdn:(Go.Gm.nth g.txs i).done=false:=by simpa using hc1
   obtain ⟨es2,he2⟩:∃ z,z=es:=⟨_,rfl⟩
   obtain ⟨ck2,hc2⟩:∃ z,z=ck:=⟨_,rfl⟩
   have hR2:WrV es2 (g.txs.take (i+1)) 0 []:=by rw [he2];exact ZqW hw0 hio hdn
   rw [← he2,← hc2] at hS
   refine wp_exit (Zh (Zp (Za ?_)))
   refine Zb hS (qp r1 (qM rfl rfl qZ)) hB [12,11,10,3,2] [103,102,101,60,0] rfl rfl fun a w F hS=>Za ?_
   replace hS:=hS.ent (i:=12) (s':=.pv (.int .i64 ((i+1:Nat):Int))) rfl (.int (Ze (by omega)))
   obtain ⟨F,hS⟩:=hS.nm [11,10,3,2,12] [101,0,60,102] rfl rfl
   exact ⟨((i+1),(es2),(ck2)),F,⟨by omega,hR2⟩,hS,by omega⟩
  have hdn:(Go.Gm.nth g.txs i).done=true:=by simpa using hc1
  refine wp_skip (Za (wp_seq ?_))
  refine Zb hS (qe 3 103 r1 r1 (qf (oP (ZmX (Go.Gm.nth g.txs i) (by have:=hxl hio;omega)) Tryz.func55 (Args.one (.pagg .t))) r1 qz (qu Tryz.underlying34 r1 (qJ qZ)))) hB [22,21,20,12,11,10,5,3,2] [103,102,101,60,0] rfl rfl fun a w F hS=>?_
  rw [show ZcL (((Go.Gm.nth g.txs i).ops.filter fun o=>!o.read).map OpD.key)=ZY (Go.Gm.nth g.txs i) from rfl] at hS
  refine Za (wp_block ?_)
  refine Zl (σ:=(Nat)×(List (GE Int (Value×List Int)))×(Nat)) [2,3,5,10,11,12,20,21] [0,101,103] (fun s=>[(22,.pv (.int .i64 (s.1:Int)))]) (fun s=>[(102,.ob (.val v8) (Zbd (fun p:Value×List Int=>PV.is p.1) (fun _=>True) (fun n:Int=>Value.int .i64 n) s.2.1 s.2.2)),(60,Znw 3 1 Zo s.2.1)]) (fun s=>s.1≤(ZY (Go.Gm.nth g.txs i)).length∧(WrV s.2.1 (g.txs.take i) (Go.Gm.nth g.txs i).id ((ZY (Go.Gm.nth g.txs i)).take s.1))) (fun s=>(ZY (Go.Gm.nth g.txs i)).length - s.1) ((0),(es),(ck)) hS ⟨rfl,rfl,rfl,rfl,rfl,rfl,rfl,rfl,rfl,trivial⟩ ⟨rfl,rfl,rfl,rfl,rfl,trivial⟩ ⟨Nat.zero_le _,(by simpa using Zpg hw0)⟩ ?_
  clear hS;intro s a w F hC hS
  obtain ⟨j,es,ck⟩:=s
  try dsimp only at hC
  obtain ⟨F,hS⟩:=hS.nm [22,21,20,12,11,10,5,3,2] [103,102,101,60,0] rfl rfl
  try dsimp only at hS
  obtain ⟨hi,hq⟩:=hC
  refine wp_seq ?_
  refine Zb hS (qL r2) hB [23,22,21,20,12,11,10,5,3,2] [103,102,101,60,0] rfl rfl fun a w F hS=>Za (wp_seq ?_)
  refine Zd hS rfl (fun hc2=>?_) (fun hc2=>?_)
  ·skip
   have hil:j<(ZY (Go.Gm.nth g.txs i)).length:=by simp at hc2;omega
   have hwo:=Zpl hq (Ze1 _) hil
   have hwn:=Zd5 (g.txs.take i) (Go.Gm.nth (ZY (Go.Gm.nth g.txs i)) j)
   rw [List.length_take] at hwn
   rw [← hwo] at hwn
   refine wp_skip (Za (wp_seq (wp_block (wp_seq ?_))))
   refine Zb hS (qy 1 Tryz.underlying34 r2 (qf (oR false 1 .t) r1 qz (qN rfl rfl qZ))) hB [22,21,20,12,11,10,7,5,3,2] [103,102,101,60,0] rfl rfl fun a w F hS=>?_
   try simp only [Int.toNat_natCast] at hS
   refine Za ?_
   refine Zah 5 hS (by kernel_rfl) (cG rfl (oM .t) r1 trivial (cG rfl (oM .t) r1 trivial (cG rfl (oM .t) r1 trivial (cG rfl (oM .t) r1 trivial (cG rfl (Zab (ek:=(fun p:Value×List Int=>PV.is p.1)) (z0:=Zg4) 102 Tryz.underlying79 (ZbP Tryz.underlying3) (by kernel_rfl) (fun _ _=>⟨rfl,rfl⟩) .is (ZD.int .t rfl)) r2 r1 ChainN.nil))))) (by kernel_rfl) (by rw [hB];kernel_rfl) fun a w F hS=>?_
   obtain ⟨F,hS⟩:=hS.nm [30,27,26,22,21,20,12,11,10,5,3,2] [103,102,101,60,0] rfl rfl
   try dsimp only [Zr,rTx,ZF,ZS,Zo,rOp] at hS
   obtain ⟨F,hS⟩:=hS.takeKey (T:=3) (sz:=1) (R:=Zo) 60 61 (Go.Gm.nth (ZY (Go.Gm.nth g.txs i)) j) rfl rfl
   obtain ⟨F,hS⟩:=hS.nm [30,27,26,22,21,20,12,11,10,5,3,2] [103,102,101,61,60,0] rfl rfl
   refine ZhZ 4 hS (by kernel_rfl) (cG rfl (oF 0 103 .is) r1 r1 (cG rfl (oL false 1 103 .adr) r1 r1 (cG rfl (Zt (sz:=1) (zs:=[.int .i64 0]) (r:=[(0,.tmp 32)]) (l:=[_]) Tryz.underlying34 (by kernel_rfl) (by kernel_rfl) (by kernel_rfl) (by kernel_rfl) rfl rfl (.one rfl .t one_int (by kernel_rfl) .nil) rfl) r1 trivial (cG rfl (ZV (sz:=1) (bs:=8) 61 (.mk' Tryz.underlying34 (by kernel_rfl) (by kernel_rfl)) (by intro x;rfl) .is (.arr (l':=[_]) .t) (by simp only [List.length_append,List.length_cons,List.length_nil];omega) (by decide)) ⟨rfl,rfl,trivial⟩ ⟨rfl,trivial⟩ ChainN.nil)))) (by kernel_rfl) (by rw [hB];kernel_rfl) fun a w F hS=>?_
   replace hS:=hS.sub
   obtain ⟨F,hS⟩:=hS.nm [34,27,26,22,21,20,12,11,10,5,3,2] [103,102,101,61,60,0] rfl rfl
   try dsimp only [RS.sub,SF.sub,CF.sub,csub,Anc.sub,List.map,Zf,xL,xM,Nat.reduceAdd,xD,xE,xT,xU,xC,xN,zCF,ldSF,Zr,rTx,ZF,ZS,Zo,rOp] at hS
   generalize Act.tau a 34=v34 at hS
   refine Zav hS (by kernel_rfl) (cG rfl (o_mapUpdateG (ek:=(fun p:Value×List Int=>PV.is p.1)) (v:=((v34,((gGet (Go.Gm.nth (ZY (Go.Gm.nth g.txs i)) j) es).getD Zg4).2 ++ [(Go.Gm.nth g.txs i).id]):Value×List Int)) 102 Tryz.underlying79 (ZbP Tryz.underlying3) .is (ZD.int .t rfl) .t) r3 r1 ChainN.nil) (by kernel_rfl) (by rw [hB];kernel_rfl) fun a w F hS=>?_
   obtain ⟨F,hS⟩:=hS.nm [22,21,20,12,11,10,5,3,2] [103,102,101,61,60,0] rfl rfl
   try dsimp only [Zr,rTx,ZF,ZS,Zo,rOp] at hS
   refine Zj (Za ?_)
   refine Zb hS (qp r1 (qM rfl rfl qZ)) hB [22,21,20,12,11,10,5,3,2] [103,102,101,61,60,0] rfl rfl fun a w F hS=>Za ?_
   obtain ⟨F,hS⟩:=hS.putKey (T:=3) (sz:=1) (R:=Zo) 60 61 (Go.Gm.nth (ZY (Go.Gm.nth g.txs i)) j) ck rfl rfl rfl
   replace hS:=hS.ent (i:=22) (s':=.pv (.int .i64 ((j+1:Nat):Int))) rfl (.int (Ze (by omega)))
   obtain ⟨F,hS⟩:=hS.nm [21,20,12,11,10,5,3,2,22] [103,101,0,60,102] rfl rfl
   exact ⟨((j+1),((gPut (Go.Gm.nth (ZY (Go.Gm.nth g.txs i)) j) (v34,((gGet (Go.Gm.nth (ZY (Go.Gm.nth g.txs i)) j) es).getD Zg4).2 ++ [(Go.Gm.nth g.txs i).id]) (es,ck)).1),((gPut (Go.Gm.nth (ZY (Go.Gm.nth g.txs i)) j) (v34,((gGet (Go.Gm.nth (ZY (Go.Gm.nth g.txs i)) j) es).getD Zg4).2 ++ [(Go.Gm.nth g.txs i).id]) (es,ck)).2)),F,⟨by omega,Zqu hq (Ze1 _) hil⟩,hS,by omega⟩
  have hil:j=(ZY (Go.Gm.nth g.txs i)).length:=by simp at hc2;omega
  obtain ⟨es2,he2⟩:∃ z,z=es:=⟨_,rfl⟩
  obtain ⟨ck2,hc2⟩:∃ z,z=ck:=⟨_,rfl⟩
  rw [hil,List.take_length] at hq
  have hR2:WrV es2 (g.txs.take (i+1)) 0 []:=by rw [he2];exact ZpU hq hio hdn
  rw [← he2,← hc2] at hS
  refine wp_exit (Zh (Zh (Zp (Zj (Za ?_)))))
  refine Zb hS (qp r1 (qM rfl rfl qZ)) hB [12,11,10,3,2] [103,102,101,60,0] rfl rfl fun a w F hS=>Za ?_
  replace hS:=hS.ent (i:=12) (s':=.pv (.int .i64 ((i+1:Nat):Int))) rfl (.int (Ze (by omega)))
  obtain ⟨F,hS⟩:=hS.nm [11,10,3,2,12] [101,0,60,102] rfl rfl
  exact ⟨((i+1),(es2),(ck2)),F,⟨by omega,hR2⟩,hS,by omega⟩
 have hil:i=g.txs.length:=by simp at hc0;omega
 have hwl:=Zn5 hq
 rw [hil,List.take_length] at hwl
 refine wp_exit (Zh (Zh (Zp (Za (wp_seq ?_)))))
 refine Zb hS (qM rfl rfl (qN rfl rfl qZ)) hB [2] [102,101,60,0] rfl rfl fun a w F hS=>Za (wp_ret ?_)
 obtain ⟨F,hS⟩:=hS.giveMap 102 60 rfl rfl rfl
 obtain ⟨F,hS⟩:=hS.rename 102 1 rfl rfl
 have hS:=hS.turn 1 rfl (r':=RS.hp (HP.ex fun s:List (GE Int (List Int))×Nat=>HP.and (WrL s.1 g.txs) (Zbd (fun l:List Int=>PV.sl Zo l) (fun _=>True) (fun n:Int=>Value.int .i64 n) s.1 s.2 v8))) (fun _ _ _ _ h=>⟨(Zd3 es,ck),hwl,h⟩)
 refine Z2 (h':=fun v=>HP.ex fun s:List (GE Int (List Int))×Nat=>HP.and (WrL s.1 g.txs) (Zbd (fun l:List Int=>PV.sl Zo l) (fun _=>True) (fun n:Int=>Value.int .i64 n) s.1 s.2 v)) hG hS rfl (.tmp rfl .nil) (.one .one) rfl
theorem Zqm (l:List Int) (tx:Int) (hl:l.length≤1000000):FnP Tryz.prog 134 [.sl Zo l,.int .i64 tx] (.sl Zo (withO l tx)):=by
 refine FnP.mk Tryz.func134 rfl Tryz.ntmps134 rfl ?_
 intro B a w F hB hfr hS
 have hll:=Sat.lenSl hS (i:=0) rfl
 refine wp_seq ?_
 refine Zb hS (qC qZ) hB [4,1,0] [0] rfl rfl fun a w F hS=>Za (wp_seq ?_)
 replace hS:=hS.fresh 101 rfl
 refine Zc hS (qM rfl rfl (qf (Za1 101 (Zeu l hl) Tryz.func64 rfl (by kernel_rfl) (Args.one .t) pvOne1) r1 r1 (qN rfl rfl qZ))) hB [5,4,1,0] [101,0] (fun _=>rfl) (fun _=>rfl) fun τ a w F hS=>?_
 try dsimp only [RS.sub,SF.sub,CF.sub,csub,Anc.sub,List.map,Zo] at hS
 generalize τ 7=v7 at hS
 refine Za (wp_seq (wp_seq ?_))
 refine Zb hS (qM rfl rfl (qM rfl rfl (qf (oP (ZkD l tx) Tryz.func212 (Args.two .t .t)) r2 qz qZ))) hB [10,5,4,1] [101,0] rfl rfl fun a w F hS=>Za ?_
 refine Zd hS rfl (fun hc0=>?_) (fun hc0=>?_)
 ·skip
  have hm:tx ∈ l:=by simpa using hc0
  have hg:l=withO l tx:=(if_pos hm).symm
  refine wp_seq ?_
  refine Zb hS (qM rfl rfl (qN rfl rfl qZ)) hB [5,4,1] [101,0] rfl rfl fun a w F hS=>Za (wp_ret (Zi ?_))
  obtain ⟨F,hS⟩:=hS.give 101 4 rfl rfl
  refine Zw hfr hS rfl rfl rfl (.sl hg)
 have hm:¬ tx ∈ l:=by simpa using hc0
 have hg:l ++ [tx] = withO l tx:=(if_neg hm).symm
 refine wp_skip (Za (wp_seq ?_))
 refine Zc hS (qM rfl rfl (qM rfl rfl (qf (Zt (sz:=1) (zs:=[.int .i64 0]) (r:=[(0,.tmp 13)]) (l:=[_]) Tryz.underlying34 (by kernel_rfl) (by kernel_rfl) (by kernel_rfl) (by kernel_rfl) rfl rfl (.one rfl .t one_int (by kernel_rfl) .nil) rfl) r1 qz (qf (ZV (sz:=1) (bs:=8) 101 (.mk' Tryz.underlying34 (by kernel_rfl) (by kernel_rfl)) (by intro x;rfl) .is (.arr (l':=[_]) .t) (by simp only [List.length_append,List.length_cons,List.length_nil,List.length_take,List.length_drop];omega) (by decide)) ⟨rfl,rfl,trivial⟩ ⟨rfl,trivial⟩ (qN rfl rfl qZ))))) hB [4] [101,0] (fun _=>rfl) (fun _=>rfl) fun τ a w F hS=>?_
 try dsimp only [RS.sub,SF.sub,CF.sub,csub,Anc.sub,List.map,Zf,xL,xM,Nat.reduceAdd,xD,xE,xT,xU,xC,xN,zCF,Zo] at hS
 generalize τ 15=v15 at hS
 refine Za (wp_ret ?_)
 obtain ⟨F,hS⟩:=hS.give 101 4 rfl rfl
 refine Zw hfr hS rfl rfl rfl (.sl hg)
theorem ZkH (x tx:Int):FnP Tryz.prog 214 [.int .i64 x,.ref [.int .i64 tx]] (.bool (decide (x=tx))):=by
 refine FnP.mk Tryz.func214 rfl Tryz.ntmps214 rfl ?_
 intro B a w F hB hfr hS
 refine wp_seq ?_
 refine Zb hS qB hB [3,1,0] [0] rfl rfl fun a w F hS=>Za (wp_seq ?_)
 refine Zb hS (qM rfl rfl (qf (oR false 1 .t) r1 qz (qf (o_eql .t .t) r2 qz (qN rfl rfl qZ)))) hB [3] [0] rfl rfl fun a w F hS=>Za (wp_ret ?_)
 refine Zw hfr hS rfl rfl rfl .refl
theorem Zkz (l:List Int) (tx:Int) (hl:l.length≤1000000):FnP Tryz.prog 135 [.sl Zo l,.int .i64 tx] (.sl Zo (withoutO l tx)):=by
 refine FnP.mk Tryz.func135 rfl Tryz.ntmps135 rfl ?_
 intro B a w F hB hfr hS
 have hll:=Sat.lenSl hS (i:=0) rfl
 refine wp_seq ?_
 refine Zc hS (qf (ZhQ 101 .t one_int) r1 qz (qC qZ)) hB [4,3,0] [101,0] (fun _=>rfl) (fun _=>rfl) fun τ a w F hS=>?_
 try dsimp only [RS.sub,SF.sub,CF.sub,csub,Anc.sub,List.map,zCF,Zo] at hS
 generalize τ 3=v3 at hS
 obtain ⟨F,hS⟩:=hS.giveRef 101 3 rfl rfl rfl
 obtain ⟨F,hS⟩:=hS.nm [4,3,0] [0] rfl rfl
 try dsimp only [Go.Gm.unCF] at hS
 refine Za (wp_seq ?_)
 replace hS:=hS.fresh 102 rfl
 refine ZiP hS (by kernel_rfl) (nM rfl rfl (nf (Za1 102 (Zeu l hl) Tryz.func64 rfl (by kernel_rfl) (Args.one .t) pvOne1) r1 r1 (nn [6,4,3] [102,0] rfl rfl (nf (ZbL (Args.one .t)) r1 trivial (nf (Zn3 6 102 (fun v=>Zqk _ l hl (fun x=>decide (x=tx)) 214 Tryz.f214 [.ref [.int .i64 tx]] Tryz.func214 rfl (by kernel_rfl) (fun x=>ZkH x tx)) Tryz.func213 rfl (by kernel_rfl) (Zii.two .same (.of .t)) pvOne1) r2 r1 (nn [8,4] [102,0] rfl rfl (nN rfl rfl ChainN.nil))))))) (by kernel_rfl) (by rw [hB];kernel_rfl) fun a w F hS=>?_
 replace hS:=hS.sub
 obtain ⟨F,hS⟩:=hS.nm [4] [102,0] rfl rfl
 try dsimp only [RS.sub,SF.sub,CF.sub,csub,Anc.sub,List.map,Zo] at hS
 generalize Act.tau a 8=v8 at hS
 refine Za (wp_ret ?_)
 obtain ⟨F,hS⟩:=hS.give 102 4 rfl rfl
 refine Zw hfr hS rfl rfl rfl (.sl (by simp [withoutO]))
end Go.Proofs.YtdpkkdigojkpaaaGreat
