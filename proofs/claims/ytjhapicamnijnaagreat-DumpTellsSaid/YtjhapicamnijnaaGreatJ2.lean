/- Texts put together. No condition beyond those that each theorem says. -/
import Derived.Test.YtjhapicamnijnaaGreatJ1
import Derived.Test.YtjhapicamnijnaaGreatLibG
import Derived.Test.YtjhapicamnijnaaGreatJ0
import Derived.Test.YtjhapicamnijnaaGreatLibX
namespace Go.Proofs.YtjhapicamnijnaaGreat
open Go Go.Gm
set_option linter.unusedVariables false
set_option linter.unusedSimpArgs false
set_option maxHeartbeats 4000000
set_option maxRecDepth 8000
theorem Ent.fnClos {f:FuncId} : Ent (.pv (.is (.func (.func f) #[] #[]))) (.pv (.clos f [])):=fun τ w y v h=>⟨[],h.1,trivial⟩
theorem Zpn (o:OpD):FnP Tryz.prog 163 [.agg (rOp o)] (.bool (!o.read)):=by
 refine FnP.mk Tryz.func163 rfl Tryz.ntmps163 rfl ?_
 intro B a w F hB hfr hS
 refine wp_seq ?_
 refine Zc hS (qx 101 r1 qB) hB [2,1] [101,0] (fun _=>rfl) (fun _=>rfl) fun τ a w F hS=>?_
 try dsimp only [RS.sub,SF.sub,CF.sub,csub,Anc.sub,List.map,zCF,rOp] at hS
 generalize τ 1=v1 at hS
 refine Zb (wp_seq ?_)
 refine Za hS (qg 0 101 r1 r1 (qa 101 r1 r1 (qf (o_not .t) r1 qz (qN rfl rfl qZ)))) hB [2] [0] rfl rfl fun a w F hS=>Zb (wp_ret ?_)
 refine Zn hfr hS rfl rfl rfl (.bool rfl)
theorem ZlE (t:TxD) (hl:t.ops.length≤1000000):FnP Tryz.prog 102 [.agg (rTx t)] (.sl rInt (ZaO ((t.ops.filter fun o=>!o.read).map OpD.key))):=by
 refine FnP.mk Tryz.func102 rfl Tryz.ntmps102 rfl ?_
 intro B a w F hB hfr hS
 refine wp_seq ?_
 refine Zc hS (qx 101 r1 (qC qZ)) hB [2,1] [101,0] (fun _=>rfl) (fun _=>rfl) fun τ a w F hS=>?_
 try dsimp only [RS.sub,SF.sub,CF.sub,csub,Anc.sub,List.map,zCF,rTx,rInt] at hS
 generalize τ 1=v1 at hS
 refine Zb (wp_seq ?_)
 refine Za hS (qe 3 101 r1 r1 (qf (oP (ZoR t hl (fun o=>!o.read) 163 Tryz.f163 [] Tryz.func163 rfl (by kernel_rfl) (fun o=>Zpn o)) Tryz.func162 (Args.two (.pagg .t) (.conv .f (Ent.fnClos)))) r1 qz (qN rfl rfl qZ))) hB [2] [0] rfl rfl fun a w F hS=>Zb (wp_ret ?_)
 refine Zn hfr hS rfl rfl rfl (.sl rfl)
theorem Zf4 (t:TxD) (n:Int) (hl:t.ops.length≤1000000):FnP Tryz.prog 161 [.agg (rTx t),.int .i64 n] (.int .i64 (((t.ops.filter fun o=>!o.read && decide (o.key=n)).length:Nat):Int)):=by
 refine FnP.mk Tryz.func161 rfl Tryz.ntmps161 rfl ?_
 intro B a w F hB hfr hS
 have hll:t.ops.length≤1000000:=hl
 refine wp_seq ?_
 refine Zc hS (qx 101 r1 (qI qZ)) hB [4,2,1] [101,0] (fun _=>rfl) (fun _=>rfl) fun τ a w F hS=>?_
 try dsimp only [RS.sub,SF.sub,CF.sub,csub,Anc.sub,List.map,zCF,rInt,rOp,rTx] at hS
 generalize τ 2=v2 at hS
 refine Zb (wp_seq ?_)
 refine Za hS (qI qZ) hB [5,4,2,1] [101,0] rfl rfl fun a w F hS=>Zb (wp_seq (wp_seq ?_))
 refine Za hS (qg 2 101 r1 r1 (qa 101 r1 r1 (qu Tryz.underlying38 r1 (qJ qZ)))) hB [11,10,9,5,4,1] [0] rfl rfl fun a w F hS=>Zb (wp_block ?_)
 refine Zl (σ:=(Nat)) [1,4,9,10] [0] (fun s=>[(11,.pv (.int .i64 (s:Int))),(5,.pv (.int .i64 ((((t.ops.take s).filter fun o=>!o.read && decide (o.key=n)).length:Nat):Int)))]) (fun s=>[]) (fun s=>s≤t.ops.length∧(True)) (fun s=>t.ops.length - s) (0) hS ⟨rfl,rfl,rfl,rfl,rfl,rfl,trivial⟩ ⟨rfl,trivial⟩ ⟨Nat.zero_le _,trivial⟩ ?_
 clear hS;intro i a w F hC hS
 try dsimp only at hC
 obtain ⟨F,hS⟩:=hS.nm [11,10,9,5,4,1] [0] rfl rfl
 try dsimp only at hS
 obtain ⟨hi,hq⟩:=hC
 refine wp_seq ?_
 refine Za hS (qL r2) hB [12,11,10,9,5,4,1] [0] rfl rfl fun a w F hS=>Zb (wp_seq ?_)
 refine Zd hS rfl (fun hc0=>?_) (fun hc0=>?_)
 ·skip
  have hil:i<t.ops.length:=by simp at hc0;omega
  refine wp_skip (Zb (wp_seq (wp_block (wp_seq ?_))))
  refine Zc hS (qy 4 Tryz.underlying38 r2 (qf (oR true 4 .t) r1 qz (qf (oH [.bool false,.int .i64 0,.int .i64 0,.int .i64 0] 102) trivial qz (qS 4 102 r2 r1 qZ)))) hB [11,10,9,7,5,4,1] [102,0] (fun _=>rfl) (fun _=>rfl) fun τ a w F hS=>?_
  try dsimp only [RS.sub,SF.sub,CF.sub,csub,Anc.sub,List.map,Zg,xL,xM,Nat.reduceAdd,xD,xE,xT,xU,xC,xN,zCF,ldSF,rInt,rOp,rTx] at hS
  generalize τ 7=v7 at hS
  try simp only [Int.toNat_natCast] at hS
  refine Zb (wp_seq ?_)
  refine Za hS (qg 0 102 r1 r1 (qa 102 r1 r1 (qf (o_not .t) r1 qz (qM rfl rfl (qv 1 102 rfl r2 r1 (qw 102 rfl r2 r1 (qm rfl rfl rfl rfl (qk rfl (fun h=>o_eql (.w h) (.w h)) r3 qz (qf (ZA .t .t) r2 qz qZ))))))))) hB [23,11,10,9,5,4,1] [0] rfl rfl fun a w F hS=>Zb ?_
  refine Zd hS rfl (fun hc1=>?_) (fun hc1=>?_)
  ·skip
   have hstp:((t.ops.take (i+1)).filter fun o=>!o.read && decide (o.key=n))=((t.ops.take i).filter fun o=>!o.read && decide (o.key=n))++(if (!(Go.Gm.nth t.ops i).read && decide ((Go.Gm.nth t.ops i).key=n))=true then [(Go.Gm.nth t.ops i)] else []):=by rw [Zt hil,List.filter_append];simp only [List.filter_cons,List.filter_nil]
   have hle:((t.ops.take i).filter fun o=>!o.read && decide (o.key=n)).length≤i:=Nat.le_trans (List.length_filter_le _ _) (by rw [List.length_take];omega)
   have hBq:(!(Go.Gm.nth t.ops i).read && decide ((Go.Gm.nth t.ops i).key=n))=true:=hc1
   have hcc:IntKind.wrap .i64 (((((t.ops.take i).filter fun o=>!o.read && decide (o.key=n)).length:Nat):Int)+1)=((((t.ops.take (i+1)).filter fun o=>!o.read && decide (o.key=n)).length:Nat):Int):=by rw [hstp,if_pos hBq,List.length_append,ZH (by omega)];simp
   refine Za hS (qM rfl rfl (qp r1 (qN rfl rfl qZ))) hB [11,10,9,5,4,1] [0] rfl rfl fun a w F hS=>Zh (Zb ?_)
   refine Za hS (qp r1 (qM rfl rfl qZ)) hB [11,10,9,5,4,1] [0] rfl rfl fun a w F hS=>Zb ?_
   replace hS:=hS.ent (i:=11) (s':=.pv (.int .i64 ((i+1:Nat):Int))) rfl (.int (Ze (by omega)))
   replace hS:=hS.ent (i:=5) (s':=.pv (.int .i64 ((((t.ops.take (i+1)).filter fun o=>!o.read && decide (o.key=n)).length:Nat):Int))) rfl (.int hcc)
   obtain ⟨F,hS⟩:=hS.nm [10,9,4,1,5,11] [0] rfl rfl
   exact ⟨(i+1),F,⟨by omega,trivial⟩,hS,by omega⟩
  have hstp:((t.ops.take (i+1)).filter fun o=>!o.read && decide (o.key=n))=((t.ops.take i).filter fun o=>!o.read && decide (o.key=n))++(if (!(Go.Gm.nth t.ops i).read && decide ((Go.Gm.nth t.ops i).key=n))=true then [(Go.Gm.nth t.ops i)] else []):=by rw [Zt hil,List.filter_append];simp only [List.filter_cons,List.filter_nil]
  have hle:((t.ops.take i).filter fun o=>!o.read && decide (o.key=n)).length≤i:=Nat.le_trans (List.length_filter_le _ _) (by rw [List.length_take];omega)
  have hBq:(!(Go.Gm.nth t.ops i).read && decide ((Go.Gm.nth t.ops i).key=n))=false:=hc1
  have hcc:((((t.ops.take i).filter fun o=>!o.read && decide (o.key=n)).length:Nat):Int)=((((t.ops.take (i+1)).filter fun o=>!o.read && decide (o.key=n)).length:Nat):Int):=by rw [hstp,if_neg (by rw [hBq];simp),List.append_nil]
  refine wp_skip (Zh (Zb ?_))
  refine Za hS (qp r1 (qM rfl rfl qZ)) hB [11,10,9,5,4,1] [0] rfl rfl fun a w F hS=>Zb ?_
  replace hS:=hS.ent (i:=11) (s':=.pv (.int .i64 ((i+1:Nat):Int))) rfl (.int (Ze (by omega)))
  replace hS:=hS.ent (i:=5) (s':=.pv (.int .i64 ((((t.ops.take (i+1)).filter fun o=>!o.read && decide (o.key=n)).length:Nat):Int))) rfl (.int hcc)
  obtain ⟨F,hS⟩:=hS.nm [10,9,4,1,5,11] [0] rfl rfl
  exact ⟨(i+1),F,⟨by omega,trivial⟩,hS,by omega⟩
 have hil:i=t.ops.length:=by simp at hc0;omega
 refine wp_exit (Zi (Zi (Zo (Zb (wp_seq ?_)))))
 refine Za hS (qM rfl rfl (qN rfl rfl qZ)) hB [4] [0] rfl rfl fun a w F hS=>Zb (wp_ret ?_)
 refine Zn hfr hS rfl rfl rfl (.int (by rw [hil,List.take_length]))
theorem ZcC (l:List OpD) (n:Int) (hl:l.length≤1000000):FnP Tryz.prog 148 [.sl rOp l,.int .i64 n] (.int .i64 (((l.filter fun o=>!o.read && decide (o.key=n)).length:Nat):Int)):=by
 refine FnP.mk Tryz.func148 rfl Tryz.ntmps148 rfl ?_
 intro B a w F hB hfr hS
 have hll:l.length≤1000000:=hl
 refine wp_seq ?_
 refine Za hS (qI qZ) hB [4,1,0] [0] rfl rfl fun a w F hS=>Zb (wp_seq ?_)
 refine Za hS (qI qZ) hB [5,4,1,0] [0] rfl rfl fun a w F hS=>Zb (wp_seq (wp_seq ?_))
 refine Za hS (qM rfl rfl (qu Tryz.underlying38 r1 (qJ qZ))) hB [10,9,8,5,4,1] [0] rfl rfl fun a w F hS=>Zb (wp_block ?_)
 refine Zl (σ:=(Nat)) [1,4,8,9] [0] (fun s=>[(10,.pv (.int .i64 (s:Int))),(5,.pv (.int .i64 ((((l.take s).filter fun o=>!o.read && decide (o.key=n)).length:Nat):Int)))]) (fun s=>[]) (fun s=>s≤l.length∧(True)) (fun s=>l.length - s) (0) hS ⟨rfl,rfl,rfl,rfl,rfl,rfl,trivial⟩ ⟨rfl,trivial⟩ ⟨Nat.zero_le _,trivial⟩ ?_
 clear hS;intro i a w F hC hS
 try dsimp only at hC
 obtain ⟨F,hS⟩:=hS.nm [10,9,8,5,4,1] [0] rfl rfl
 try dsimp only at hS
 obtain ⟨hi,hq⟩:=hC
 refine wp_seq ?_
 refine Za hS (qL r2) hB [11,10,9,8,5,4,1] [0] rfl rfl fun a w F hS=>Zb (wp_seq ?_)
 refine Zd hS rfl (fun hc0=>?_) (fun hc0=>?_)
 ·skip
  have hil:i<l.length:=by simp at hc0;omega
  refine wp_skip (Zb (wp_seq (wp_block (wp_seq ?_))))
  refine Zc hS (qy 4 Tryz.underlying38 r2 (qf (oR true 4 .t) r1 qz (qf (oH [.bool false,.int .i64 0,.int .i64 0,.int .i64 0] 101) trivial qz (qS 4 101 r2 r1 qZ)))) hB [10,9,8,7,5,4,1] [101,0] (fun _=>rfl) (fun _=>rfl) fun τ a w F hS=>?_
  try dsimp only [RS.sub,SF.sub,CF.sub,csub,Anc.sub,List.map,Zg,xL,xM,Nat.reduceAdd,xD,xE,xT,xU,xC,xN,zCF,ldSF,rInt,rOp,rTx] at hS
  generalize τ 7=v7 at hS
  try simp only [Int.toNat_natCast] at hS
  refine Zb (wp_seq ?_)
  refine Za hS (qg 0 101 r1 r1 (qa 101 r1 r1 (qf (o_not .t) r1 qz (qM rfl rfl (qv 1 101 rfl r2 r1 (qw 101 rfl r2 r1 (qm rfl rfl rfl rfl (qk rfl (fun h=>o_eql (.w h) (.w h)) r3 qz (qf (ZA .t .t) r2 qz qZ))))))))) hB [22,10,9,8,5,4,1] [0] rfl rfl fun a w F hS=>Zb ?_
  refine Zd hS rfl (fun hc1=>?_) (fun hc1=>?_)
  ·skip
   have hstp:((l.take (i+1)).filter fun o=>!o.read && decide (o.key=n))=((l.take i).filter fun o=>!o.read && decide (o.key=n))++(if (!(Go.Gm.nth l i).read && decide ((Go.Gm.nth l i).key=n))=true then [(Go.Gm.nth l i)] else []):=by rw [Zt hil,List.filter_append];simp only [List.filter_cons,List.filter_nil]
   have hle:((l.take i).filter fun o=>!o.read && decide (o.key=n)).length≤i:=Nat.le_trans (List.length_filter_le _ _) (by rw [List.length_take];omega)
   have hBq:(!(Go.Gm.nth l i).read && decide ((Go.Gm.nth l i).key=n))=true:=hc1
   have hcc:IntKind.wrap .i64 (((((l.take i).filter fun o=>!o.read && decide (o.key=n)).length:Nat):Int)+1)=((((l.take (i+1)).filter fun o=>!o.read && decide (o.key=n)).length:Nat):Int):=by rw [hstp,if_pos hBq,List.length_append,ZH (by omega)];simp
   refine Za hS (qM rfl rfl (qp r1 (qN rfl rfl qZ))) hB [10,9,8,5,4,1] [0] rfl rfl fun a w F hS=>Zh (Zb ?_)
   refine Za hS (qp r1 (qM rfl rfl qZ)) hB [10,9,8,5,4,1] [0] rfl rfl fun a w F hS=>Zb ?_
   replace hS:=hS.ent (i:=10) (s':=.pv (.int .i64 ((i+1:Nat):Int))) rfl (.int (Ze (by omega)))
   replace hS:=hS.ent (i:=5) (s':=.pv (.int .i64 ((((l.take (i+1)).filter fun o=>!o.read && decide (o.key=n)).length:Nat):Int))) rfl (.int hcc)
   obtain ⟨F,hS⟩:=hS.nm [9,8,4,1,5,10] [0] rfl rfl
   exact ⟨(i+1),F,⟨by omega,trivial⟩,hS,by omega⟩
  have hstp:((l.take (i+1)).filter fun o=>!o.read && decide (o.key=n))=((l.take i).filter fun o=>!o.read && decide (o.key=n))++(if (!(Go.Gm.nth l i).read && decide ((Go.Gm.nth l i).key=n))=true then [(Go.Gm.nth l i)] else []):=by rw [Zt hil,List.filter_append];simp only [List.filter_cons,List.filter_nil]
  have hle:((l.take i).filter fun o=>!o.read && decide (o.key=n)).length≤i:=Nat.le_trans (List.length_filter_le _ _) (by rw [List.length_take];omega)
  have hBq:(!(Go.Gm.nth l i).read && decide ((Go.Gm.nth l i).key=n))=false:=hc1
  have hcc:((((l.take i).filter fun o=>!o.read && decide (o.key=n)).length:Nat):Int)=((((l.take (i+1)).filter fun o=>!o.read && decide (o.key=n)).length:Nat):Int):=by rw [hstp,if_neg (by rw [hBq];simp),List.append_nil]
  refine wp_skip (Zh (Zb ?_))
  refine Za hS (qp r1 (qM rfl rfl qZ)) hB [10,9,8,5,4,1] [0] rfl rfl fun a w F hS=>Zb ?_
  replace hS:=hS.ent (i:=10) (s':=.pv (.int .i64 ((i+1:Nat):Int))) rfl (.int (Ze (by omega)))
  replace hS:=hS.ent (i:=5) (s':=.pv (.int .i64 ((((l.take (i+1)).filter fun o=>!o.read && decide (o.key=n)).length:Nat):Int))) rfl (.int hcc)
  obtain ⟨F,hS⟩:=hS.nm [9,8,4,1,5,10] [0] rfl rfl
  exact ⟨(i+1),F,⟨by omega,trivial⟩,hS,by omega⟩
 have hil:i=l.length:=by simp at hc0;omega
 refine wp_exit (Zi (Zi (Zo (Zb (wp_seq ?_)))))
 refine Za hS (qM rfl rfl (qN rfl rfl qZ)) hB [4] [0] rfl rfl fun a w F hS=>Zb (wp_ret ?_)
 refine Zn hfr hS rfl rfl rfl (.int (by rw [hil,List.take_length]))
def wcnt (l:List OpD) (k:Int):Nat:=(l.filter fun o=>!o.read && decide (o.key=k)).length
theorem ZhX {l:List OpD} {i:Nat} (h:i<l.length) (k:Int):wcnt (l.take (i+1)) k=wcnt (l.take i) k+if (Go.Gm.nth l i).read=false∧(Go.Gm.nth l i).key=k then 1 else 0:=by
 unfold wcnt
 rw [Zt h,List.filter_append,List.length_append]
 congr 1
 by_cases h1:(Go.Gm.nth l i).read=false∧(Go.Gm.nth l i).key=k
 · rw [if_pos h1];simp [h1.1,h1.2]
 · rw [if_neg h1]
   have:(!(Go.Gm.nth l i).read && decide ((Go.Gm.nth l i).key=k))=false:=by
     cases hr:(Go.Gm.nth l i).read with
     | true=>rfl
     | false=>simp;exact fun e=>h1 ⟨hr,e⟩
   simp [this]
theorem Zpp (l:List OpD) (i:Nat) (k:Int):wcnt (l.take i) k≤i:=Nat.le_trans (List.length_filter_le _ _) (by rw [List.length_take];omega)
def ZaP (id:Int):List OpD→List OpD→Int
 | _,[]=>0
 | s,o :: r=>if Z0 o=false then 1 else if o.read=true∧o.tx=id∧(wcnt s o.key:Int)<o.nth then 6 else ZaP id (s ++ [o]) r
def ZT (t:TxD):Int:=if ¬ (1≤t.id∧t.id≤1048575) then 1 else if 4095<t.ops.length then 9 else ZaP t.id [] t.ops
theorem Za6 {id:Int} {l:List OpD} {i:Nat} (h:i<l.length):ZaP id (l.take i) (l.drop i)=if Z0 (Go.Gm.nth l i)=false then 1 else if (Go.Gm.nth l i).read=true∧(Go.Gm.nth l i).tx=id∧(wcnt (l.take i) (Go.Gm.nth l i).key:Int)<(Go.Gm.nth l i).nth then 6 else ZaP id (l.take (i+1)) (l.drop (i+1)):=by
 rw [ZZ h,ZaP,Zt h]
theorem Zfe {id:Int} {l:List OpD} {i:Nat} (h:i=l.length):ZaP id (l.take i) (l.drop i)=0:=by rw [h,List.drop_length];rfl
def Zga (id:Int) (o:OpD):Bool:=(o.read && !decide (o.tx=0)) && !decide (o.tx=id)
def ZaM (id:Int) (out:List ZbP) (o:OpD):List ZbP:=if Zga id o=true∧ofO o ∉ out then out ++ [ofO o] else out
def Zb9 (id:Int) (l:List OpD):List ZbP:=l.foldl (ZaM id) []
def ZV (t:TxD):List ZbP:=Zb9 t.id t.ops
theorem Ze6 {id:Int} {l:List OpD} {i:Nat} (h:i<l.length):Zb9 id (l.take (i+1))=ZaM id (Zb9 id (l.take i)) (Go.Gm.nth l i):=by
 unfold Zb9
 rw [Zt h,List.foldl_append]
 rfl
theorem Zie (id:Int) (out:List ZbP) (o:OpD):(ZaM id out o).length≤out.length+1:=by
 unfold ZaM
 split <;> simp
theorem Zb8 (id:Int) (l:List OpD) (i:Nat):(Zb9 id (l.take i)).length≤i:=by
 have key:∀ (l:List OpD) (out:List ZbP),(l.foldl (ZaM id) out).length≤out.length+l.length:=by
   intro l
   induction l with
   | nil=>intro out;simp
   | cons x l ih=>
     intro out
     have h1:=ih (ZaM id out x)
     have h2:=Zie id out x
     rw [List.foldl_cons,List.length_cons];omega
 have:=key (l.take i) []
 rw [List.length_take] at this
 unfold Zb9
 simp at this ⊢
 omega
def bareT (t:TxD):TxD:={ t with ops:=t.ops.filter fun o=>!o.read }
structure Zbe where
 key:Int
 nth:Int
 deriving DecidableEq,Inhabited
def Zbk (p:Zbe):List Int:=[p.key,p.nth]
def Zda (v:ZbP):List Int:=[v.tx,v.key,v.nth]
def Zcq (es:List (GE Zbe Int)) (s:List OpD):Prop:=∀ k n,0≤n→(gGet (⟨k,n⟩:Zbe) es).getD 0=if n=0 then (wcnt s k:Int) else if n≤wcnt s k then 1 else 0
theorem ZmL:Zcq [] []:=fun k n h=>by
 show (0:Int)=_
 have:wcnt [] k=0:=rfl
 rw [this]
 split
 · rfl
 · rw [if_neg (by simp;omega)]
theorem Zmk {es:List (GE Zbe Int)} {l:List OpD} {i:Nat} (h:Zcq es (l.take i)) (hi:i<l.length) (hr:(Go.Gm.nth l i).read=true):Zcq es (l.take (i+1)):=fun k n hn=>by
 rw [h k n hn,ZhX hi,if_neg (c:=(Go.Gm.nth l i).read=false∧(Go.Gm.nth l i).key=k) (by simp [hr]),Nat.add_zero]
theorem ZmF {es es2:List (GE Zbe Int)} {l:List OpD} {i:Nat} {c:Int} (h:Zcq es (l.take i)) (hi:i<l.length) (hr:(Go.Gm.nth l i).read=false) (hc:c=(wcnt (l.take i) (Go.Gm.nth l i).key:Int)+1)
   (he:∀ p,(gGet p es2).getD 0=if p = ⟨(Go.Gm.nth l i).key,c⟩ then 1 else if p = ⟨(Go.Gm.nth l i).key,0⟩ then c else (gGet p es).getD 0):Zcq es2 (l.take (i+1)):=fun k n hn=>by
 have hk:=h k n hn
 rw [he,hk,ZhX hi]
 by_cases e:(Go.Gm.nth l i).key=k
 · rw [if_pos (c:=(Go.Gm.nth l i).read=false∧_) ⟨hr,e⟩]
   rw [e] at hc
   rw [e]
   by_cases e2:n=c
   · subst e2
     rw [if_pos rfl,if_neg (by omega),if_pos (by omega)]
   · rw [if_neg (by simp [e2])]
     by_cases e3:n=0
     · subst e3
       rw [if_pos rfl,if_pos rfl,hc];simp
     · rw [if_neg (by simp [e3]),if_neg e3,if_neg e3]
       by_cases e4:n≤(wcnt (l.take i) k:Int)
       · rw [if_pos e4,if_pos (by omega)]
       · rw [if_neg e4,if_neg (by omega)]
 · rw [if_neg (c:=(Go.Gm.nth l i).read=false∧_) (by simp [e]),Nat.add_zero,if_neg (by simp;exact fun h=>absurd h.symm e),if_neg (by simp;exact fun h=>absurd h.symm e)]
def ZdV (es:List (GE ZbP Int)) (i:Nat) (out:List ZbP):Prop:=∀ v,0≤(gGet v es).getD 0∧(gGet v es).getD 0≤i∧(0<(gGet v es).getD 0 ↔ v ∈ out)
theorem Znj:ZdV [] 0 []:=fun v=>⟨Int.le_refl _,Int.le_refl _,by show (0:Int)<0 ↔ _;simp⟩
theorem ZnA {es:List (GE ZbP Int)} {i:Nat} {out:List ZbP} (h:ZdV es i out):ZdV es (i+1) out:=fun v=>⟨(h v).1,by have:=(h v).2.1;omega,(h v).2.2⟩
theorem ZnU {es es2:List (GE ZbP Int)} {i:Nat} {out:List ZbP} {v:ZbP} (h:ZdV es i out) (he:∀ u,(gGet u es2).getD 0=if u=v then (gGet v es).getD 0+1 else (gGet u es).getD 0):ZdV es2 (i+1) (if v ∈ out then out else out ++ [v]):=fun u=>by
 have h1:=h u
 have h2:=h v
 rw [he u]
 by_cases e:u=v
 · subst e
   rw [if_pos rfl]
   refine ⟨by omega,by omega,?_⟩
   constructor
   · intro _;split <;> simp_all
   · intro _;omega
 · rw [if_neg e]
   refine ⟨by omega,by omega,?_⟩
   rw [h1.2.2]
   split
   · rfl
   · simp [e]
theorem Zgq {κ:Type} [DecidableEq κ] {k p:κ} {x:Int} (s:List (GE κ Int)×Nat):(gGet p (gSet k x (gEns 0 k s).1)).getD 0=if p=k then x else (gGet p s.1).getD 0:=by
 rw [Zk1];split <;> rfl
theorem Znw {κ:Type} [DecidableEq κ] {k p:κ} {x:Int} (s:List (GE κ Int)×Nat):(gGet p (gPut k x s).1).getD 0=if p=k then x else (gGet p s.1).getD 0:=by
 rw [Zj2];split <;> rfl
theorem Zfm:Znh Tryz.prog 124 (fun k=>∀ x ∈ Zbk k,inR .i64 x) (kvS Zbk):=ZfU (n:=2) (fun _=>rfl) (fun a b h=>by cases a;cases b;simpa [Zbk] using h) (by kernel_rfl)
theorem Zmt:Znh Tryz.prog 128 (fun k=>∀ x ∈ Zda k,inR .i64 x) (kvS Zda):=ZfU (n:=3) (fun _=>rfl) (fun a b h=>by cases a;cases b;simpa [Zda] using h) (by kernel_rfl)
theorem Zic {es:List (GE Zbe Int)} {s:List OpD} {o:OpD} {id:Int} (h:Zcq es s) (hk:Z0 o=true) (hr:o.read=true) (hid:1≤id):(o.tx=id∧(gGet (⟨o.key,o.nth⟩:Zbe) es).getD 0=0) ↔ (o.read=true∧o.tx=id∧(wcnt s o.key:Int)<o.nth):=by
 have hb:=ZdW hk
 have h1:=h o.key o.nth (by omega)
 constructor
 · rintro ⟨e1,e2⟩
   refine ⟨hr,e1,?_⟩
   have hn:1≤o.nth:=by
     rw [Zd5 hr] at hk
     unfold ofO at hk
     rw [if_pos hr] at hk
     unfold Zbp at hk
     rw [if_neg (show ¬ o.tx=0 by omega)] at hk
     simp at hk
     omega
   rw [e2,if_neg (by omega)] at h1
   split at h1
   · cases h1
   · omega
 · rintro ⟨_,e1,e2⟩
   refine ⟨e1,?_⟩
   rw [h1,if_neg (by omega),if_neg (by omega)]
theorem Zip (t:TxD):FnP Tryz.prog 43 [.agg (rTx t)] (.int .i64 (ZT t)):=by
 refine FnP.mk Tryz.func43 rfl Tryz.ntmps43 rfl ?_
 intro B a w F hB hfr hS
 refine wp_seq ?_
 refine Zc hS (qx 101 r1 (qI qZ)) hB [2,1] [101,0] (fun _=>rfl) (fun _=>rfl) fun τ a w F hS=>?_
 try dsimp only [RS.sub,SF.sub,CF.sub,csub,Anc.sub,List.map,zCF,rInt,rOp,rTx] at hS
 generalize τ 1=v1 at hS
 refine Zb (wp_seq (wp_block (wp_seq ?_)))
 refine Za hS (qg 0 101 r1 r1 (qa 101 r1 r1 (qf (Zbu .t qi) r1 qz (qM rfl rfl (qv 0 101 rfl r2 r1 (qw 101 rfl r2 r1 (qk rfl (fun h=>Zal (.w h) qi) r2 qz (qf (Z4 .t .t) r2 qz (qN rfl rfl qZ))))))))) hB [7,2,1] [101,0] rfl rfl fun a w F hS=>Zb ?_
 refine Zd hS rfl (fun hc0=>?_) (fun hc0=>?_)
 ·skip
  have hg:1=ZT t:=by unfold ZT;rw [if_pos (by simp at hc0;omega)]
  refine wp_seq ?_
  refine Za hS (qI qZ) hB [2,1] [101,0] rfl rfl fun a w F hS=>Zb (wp_ret (Zk (Zf ?_)))
  refine Zn hfr hS rfl rfl rfl (.int hg)
 have hid:1≤t.id∧t.id≤1048575:=by simp at hc0;omega
 refine wp_seq ?_
 refine Za hS (qg 2 101 r1 r1 (qa 101 r1 r1 (qu Tryz.underlying38 r1 (qf (Zal .t qi) r1 qz (qN rfl rfl qZ))))) hB [16,2,1] [101,0] rfl rfl fun a w F hS=>Zb ?_
 refine Zd hS rfl (fun hc1=>?_) (fun hc1=>?_)
 ·skip
  have hg:9=ZT t:=by unfold ZT;rw [if_neg (by omega),if_pos (by simp at hc1;omega)]
  refine wp_seq ?_
  refine Za hS (qI qZ) hB [2,1] [101,0] rfl rfl fun a w F hS=>Zb (wp_ret (Zk (Zf ?_)))
  refine Zn hfr hS rfl rfl rfl (.int hg)
 have hlen:t.ops.length≤4095:=by simp at hc1;omega
 have hT:ZT t=ZaP t.id [] t.ops:=by unfold ZT;rw [if_neg (by omega),if_neg (by omega)]
 refine wp_skip (Zh (Zb (wp_seq ?_)))
 refine Zc hS (qf (Zel (ek:=(fun n:Int=>PV.int .i64 n)) (ok:=(fun k=>∀ x ∈ Zbk k,inR .i64 x)) (kv:=(kvS Zbk)) 102) trivial qz (qN rfl rfl qZ)) hB [3,2,1] [102,101,0] (fun _=>rfl) (fun _=>rfl) fun τ a w F hS=>?_
 try dsimp only [RS.sub,SF.sub,CF.sub,csub,Anc.sub,List.map,Zg,xL,xM,Nat.reduceAdd,xD,xE,xT,xU,xC,xN,zCF,rInt,rOp,rTx] at hS
 generalize τ 21=v21 at hS
 refine Zb (wp_seq (wp_seq ?_))
 refine Za hS (qg 2 101 r1 r1 (qa 101 r1 r1 (qu Tryz.underlying38 r1 (qJ qZ)))) hB [25,24,23,3,2,1] [102,101,0] rfl rfl fun a w F hS=>Zb (wp_block ?_)
 refine Zl (σ:=(Nat)×(List (GE Zbe Int))×(Nat)) [1,2,3,23,24] [0,101] (fun s=>[(25,.pv (.int .i64 (s.1:Int)))]) (fun s=>[(102,.ob (.val v21) (ZdH (fun n:Int=>PV.int .i64 n) (fun k=>∀ x ∈ Zbk k,inR .i64 x) (kvS Zbk) s.2.1 s.2.2))]) (fun s=>s.1≤t.ops.length∧(ZaP t.id [] t.ops=ZaP t.id (t.ops.take s.1) (t.ops.drop s.1)∧Zcq s.2.1 (t.ops.take s.1))) (fun s=>t.ops.length - s.1) ((0),([]),(0)) hS ⟨rfl,rfl,rfl,rfl,rfl,rfl,trivial⟩ ⟨rfl,rfl,rfl,trivial⟩ ⟨Nat.zero_le _,⟨rfl,ZmL⟩⟩ ?_
 clear hS;intro s a w F hC hS
 obtain ⟨i,es,ck⟩:=s
 try dsimp only at hC
 obtain ⟨F,hS⟩:=hS.nm [25,24,23,3,2,1] [102,101,0] rfl rfl
 try dsimp only at hS
 obtain ⟨hi,hq⟩:=hC
 obtain ⟨hrt,hsp⟩:=hq
 have hwl:=fun k=>Zpp t.ops i k
 refine wp_seq ?_
 refine Za hS (qL r2) hB [26,25,24,23,3,2,1] [102,101,0] rfl rfl fun a w F hS=>Zb (wp_seq ?_)
 refine Zd hS rfl (fun hc2=>?_) (fun hc2=>?_)
 ·skip
  have hil:i<t.ops.length:=by simp at hc2;omega
  refine wp_skip (Zb (wp_seq (wp_block (wp_seq ?_))))
  refine Zc hS (qy 4 Tryz.underlying38 r2 (qf (oR true 4 .t) r1 qz (qf (oH [.bool false,.int .i64 0,.int .i64 0,.int .i64 0] 103) trivial qz (qS 4 103 r2 r1 qZ)))) hB [25,24,23,5,3,2,1] [103,102,101,0] (fun _=>rfl) (fun _=>rfl) fun τ a w F hS=>?_
  try dsimp only [RS.sub,SF.sub,CF.sub,csub,Anc.sub,List.map,Zg,xL,xM,Nat.reduceAdd,xD,xE,xT,xU,xC,xN,zCF,ldSF,rInt,rOp,rTx] at hS
  generalize τ 5=v5 at hS
  try simp only [Int.toNat_natCast] at hS
  refine Zb (wp_seq (wp_seq ?_))
  refine Za hS (qe 4 103 r1 r1 (qf (oP (ZfJ (Go.Gm.nth t.ops i)) Tryz.func97 (Args.one (.pagg .t))) r1 qz (qN rfl rfl qZ))) hB [25,24,23,6,5,3,2,1] [103,102,101,0] rfl rfl fun a w F hS=>Zb (wp_seq ?_)
  refine Za hS (qM rfl rfl (qf (o_neq .t qi) r1 qz qZ)) hB [32,25,24,23,6,5,3,2,1] [103,102,101,0] rfl rfl fun a w F hS=>Zb ?_
  refine Zd hS rfl (fun hc3=>?_) (fun hc3=>?_)
  ·skip
   have hk:Z0 (Go.Gm.nth t.ops i)=false:=by unfold ZbE at hc3;simpa using hc3
   have hg:ZbE (Go.Gm.nth t.ops i)=ZT t:=by rw [hT,hrt,Za6 hil,if_pos hk];unfold ZbE;rw [hk];rfl
   refine wp_seq ?_
   refine Za hS (qM rfl rfl (qN rfl rfl qZ)) hB [25,24,23,5,3,2,1] [103,102,101,0] rfl rfl fun a w F hS=>Zb (wp_ret (Zf (Zk (Zf (Zf (Zk (Zf ?_)))))))
   refine Zn hfr hS rfl rfl rfl (.int hg)
  have hk:Z0 (Go.Gm.nth t.ops i)=true:=by unfold ZbE at hc3;simpa using hc3
  refine wp_skip (Zb (wp_seq (wp_seq ?_)))
  refine Za hS (qg 0 103 r1 r1 (qa 103 r1 r1 (qf (o_not .t) r1 qz qZ))) hB [36,25,24,23,5,3,2,1] [103,102,101,0] rfl rfl fun a w F hS=>Zb ?_
  refine Zd hS rfl (fun hc4=>?_) (fun hc4=>?_)
  ·skip
   have hr:(Go.Gm.nth t.ops i).read=false:=by simpa using hc4
   have hm0:=hsp (Go.Gm.nth t.ops i).key 0 (Int.le_refl _)
   rw [if_pos rfl] at hm0
   have hwc:IntKind.wrap .i64 (((gGet (⟨(Go.Gm.nth t.ops i).key,0⟩:Zbe) es).getD 0)+1)=(wcnt (t.ops.take i) (Go.Gm.nth t.ops i).key:Int)+1:=by rw [hm0];exact ZH (by have:=hwl (Go.Gm.nth t.ops i).key;omega)
   refine wp_seq ?_
   replace hS:=hS.turnZ 102 (0) (⟨(Go.Gm.nth t.ops i).key,0⟩:Zbe) rfl
   refine Zft 102 8 (m1:=1) (m2:=2) (by kernel_rfl) hS (by kernel_rfl) (qM rfl rfl (qg 1 103 r1 r1 (qa 103 r1 r1 (qf (oB [(0,.tmp 39),(1,_)] [.int .i64 0,.int .i64 0] [(0,1),(1,1)] (.one rfl .t one_int (by kernel_rfl) (.one rfl qi one_int (by kernel_rfl) .nil))) r1 qz (qf (ZhU (ek:=(fun n:Int=>PV.int .i64 n)) (z0:=(0)) 102 Tryz.underlying121 Zfm (by kernel_rfl) (fun _ _=>⟨rfl,ZiP⟩) .is (Z5.agg (enc:=Zbk) (k:=(⟨(Go.Gm.nth t.ops i).key,0⟩:Zbe)) (.pagg .t) rfl)) r2 r1 (qp r1 (qf (ZfM (ek:=(fun n:Int=>PV.int .i64 n)) (z0:=(0)) 102 Tryz.underlying121 Zfm (by kernel_rfl) (fun _ _=>⟨rfl,ZiP⟩) .is (Z5.agg (enc:=Zbk) (k:=(⟨(Go.Gm.nth t.ops i).key,0⟩:Zbe)) (.pagg .t) rfl) (by intros;first | rfl | simp [Anc.v,upd])) r2 r1 (qf (o_extract .t rfl) r1 qz (qf (ZdC 102 (Ze7 _ _ _) .is .t .t) r3 r1 qZ))))))))) (by kernel_rfl) (by kernel_rfl) (by kernel_rfl) rfl rfl rfl (fun _ _ _ _ h=>.inr h) (by rw [hB];kernel_rfl) fun a w F hS=>?_
   obtain ⟨F,hS⟩:=hS.nm [25,24,23,5,3,2,1] [103,102,101,0] rfl rfl
   try dsimp only [List.map,Zg,xL,xM,Nat.reduceAdd,xD,xE,xT,xU,xC,xN,zCF,ldSF,rInt,rOp,rTx] at hS
   obtain ⟨es1,he1⟩:∃ z,z=gSet (⟨(Go.Gm.nth t.ops i).key,0⟩:Zbe) (IntKind.wrap .i64 (((gGet (⟨(Go.Gm.nth t.ops i).key,0⟩:Zbe) es).getD 0)+1)) (gEns 0 (⟨(Go.Gm.nth t.ops i).key,0⟩:Zbe) (es,ck)).1:=⟨_,rfl⟩
   obtain ⟨ck1,hc1⟩:∃ z,z=(gEns 0 (⟨(Go.Gm.nth t.ops i).key,0⟩:Zbe) (es,ck)).2:=⟨_,rfl⟩
   rw [← he1,← hc1] at hS
   refine Zb (wp_seq ?_)
   refine Zu hS (qM rfl rfl (qg 1 103 r1 r1 (qa 103 r1 r1 (qM rfl rfl (qg 1 103 r1 r1 (qa 103 r1 r1 (qf (oB [(0,.tmp 50),(1,_)] [.int .i64 0,.int .i64 0] [(0,1),(1,1)] (.one rfl .t one_int (by kernel_rfl) (.one rfl qi one_int (by kernel_rfl) .nil))) r1 qz (qf (ZbC (ek:=(fun n:Int=>PV.int .i64 n)) (z0:=(0)) 102 Tryz.underlying121 Zfm (by kernel_rfl) (fun _ _=>⟨rfl,ZiP⟩) .is (Z5.agg (enc:=Zbk) (k:=(⟨(Go.Gm.nth t.ops i).key,0⟩:Zbe)) (.pagg .t) rfl)) r2 r1 (qf (oB [(0,.tmp 47),(1,.tmp 52)] [.int .i64 0,.int .i64 0] [(0,1),(1,1)] (.one rfl .t one_int (by kernel_rfl) (.one rfl .t one_int (by kernel_rfl) .nil))) r2 qz (qf (Zey (ek:=(fun n:Int=>PV.int .i64 n)) 102 Tryz.underlying121 Zfm .is (Z5.agg (enc:=Zbk) (k:=(⟨(Go.Gm.nth t.ops i).key,(gGet (⟨(Go.Gm.nth t.ops i).key,0⟩:Zbe) es1).getD 0⟩:Zbe)) (.pagg .t) rfl) qi) r2 r1 qZ)))))))))) hB [25,24,23,5,3,2,1] [103,102,101,0] rfl rfl fun a w F hS=>?_
   try dsimp only [List.map,Zg,xL,xM,Nat.reduceAdd,xD,xE,xT,xU,xC,xN,zCF,ldSF,rInt,rOp,rTx] at hS
   have hv1:∀ p,(gGet p es1).getD 0=if p=(⟨(Go.Gm.nth t.ops i).key,0⟩:Zbe) then (wcnt (t.ops.take i) (Go.Gm.nth t.ops i).key:Int)+1 else (gGet p es).getD 0:=fun p=>by rw [he1,Zgq,hwc]
   obtain ⟨es2,he2⟩:∃ z,z=(gPut (⟨(Go.Gm.nth t.ops i).key,(gGet (⟨(Go.Gm.nth t.ops i).key,0⟩:Zbe) es1).getD 0⟩:Zbe) 1 (es1,ck1)).1:=⟨_,rfl⟩
   obtain ⟨ck2,hc2⟩:∃ z,z=(gPut (⟨(Go.Gm.nth t.ops i).key,(gGet (⟨(Go.Gm.nth t.ops i).key,0⟩:Zbe) es1).getD 0⟩:Zbe) 1 (es1,ck1)).2:=⟨_,rfl⟩
   rw [← he2,← hc2] at hS
   have hR2:ZaP t.id [] t.ops=ZaP t.id (t.ops.take (i+1)) (t.ops.drop (i+1))∧Zcq es2 (t.ops.take (i+1)):=⟨by rw [hrt,Za6 hil,if_neg (by rw [hk];decide),if_neg (by rw [hr];simp)],ZmF hsp hil hr rfl (fun p=>by rw [he2,Znw];dsimp only;rw [hv1,hv1,if_pos rfl])⟩
   refine Zb (wp_exit (Zi (Zo (Zb ?_))))
   refine Za hS (qp r1 (qM rfl rfl qZ)) hB [25,24,23,3,2,1] [103,102,101,0] rfl rfl fun a w F hS=>Zb ?_
   replace hS:=hS.ent (i:=25) (s':=.pv (.int .i64 ((i+1:Nat):Int))) rfl (.int (Ze (by omega)))
   obtain ⟨F,hS⟩:=hS.nm [24,23,3,2,1,25] [101,0,102] rfl rfl
   exact ⟨((i+1),(es2),(ck2)),F,⟨by omega,hR2⟩,hS,by omega⟩
  have hr:(Go.Gm.nth t.ops i).read=true:=by simpa using hc4
  refine wp_skip (Zb (wp_seq ?_))
  refine Za hS (qg 2 103 r1 r1 (qa 103 r1 r1 (qg 0 101 r1 r1 (qa 101 r1 r1 (qf (o_eql .t .t) r2 qz (qM rfl rfl (qm rfl rfl rfl rfl (qv 1 103 rfl r2 r1 (qw 103 rfl r2 r1 (qv 3 103 rfl r2 r1 (qw 103 rfl r2 r1 (qk rfl (fun h=>ZhE (r:=[(0,.tmp 62),(1,.tmp 64)]) (zs:=[.int .i64 0,.int .i64 0]) (pl:=[(0,1),(1,1)]) (by kernel_rfl) (by kernel_rfl) (.one rfl (.w h) one_int (by kernel_rfl) (.one rfl (.w h) one_int (by kernel_rfl) .nil)) (by rfl)) r3 qz (qk rfl (fun h=>ZbC (ek:=(fun n:Int=>PV.int .i64 n)) (z0:=(0)) 102 Tryz.underlying121 Zfm (by kernel_rfl) (fun _ _=>⟨rfl,ZiP⟩) (.w h .is) (Z5.agg (enc:=Zbk) (k:=(⟨(Go.Gm.nth t.ops i).key,(Go.Gm.nth t.ops i).nth⟩:Zbe)) (.pagg (.w h)) rfl)) r3 r1 (qk rfl (fun h=>o_eql (.w h) qi) r2 qz (qf (ZA .t .t) r2 qz qZ))))))))))))))) hB [68,25,24,23,3,2,1] [103,102,101,0] rfl rfl fun a w F hS=>Zb ?_
  refine Zd hS rfl (fun hc5=>?_) (fun hc5=>?_)
  ·skip
   have hg:6=ZT t:=by rw [hT,hrt,Za6 hil,if_neg (by rw [hk];decide),if_pos ((Zic hsp hk hr hid.1).1 (by simpa using hc5))]
   refine wp_seq ?_
   refine Za hS (qI qZ) hB [25,24,23,3,2,1] [103,102,101,0] rfl rfl fun a w F hS=>Zb (wp_ret (Zk (Zf (Zf (Zk (Zf ?_))))))
   refine Zn hfr hS rfl rfl rfl (.int hg)
  have hno:=fun h9=>(by simpa using hc5:¬ ((Go.Gm.nth t.ops i).tx=t.id∧(gGet (⟨(Go.Gm.nth t.ops i).key,(Go.Gm.nth t.ops i).nth⟩:Zbe) es).getD 0=0)) ((Zic hsp hk hr hid.1).2 h9)
  obtain ⟨es2,he2⟩:∃ z,z=es:=⟨_,rfl⟩
  obtain ⟨ck2,hc2⟩:∃ z,z=ck:=⟨_,rfl⟩
  have hR2:ZaP t.id [] t.ops=ZaP t.id (t.ops.take (i+1)) (t.ops.drop (i+1))∧Zcq es2 (t.ops.take (i+1)):=⟨by rw [hrt,Za6 hil,if_neg (by rw [hk];decide),if_neg hno],by rw [he2];exact Zmk hsp hil hr⟩
  rw [← he2,← hc2] at hS
  refine wp_skip (Zh (Zb ?_))
  refine Za hS (qp r1 (qM rfl rfl qZ)) hB [25,24,23,3,2,1] [103,102,101,0] rfl rfl fun a w F hS=>Zb ?_
  replace hS:=hS.ent (i:=25) (s':=.pv (.int .i64 ((i+1:Nat):Int))) rfl (.int (Ze (by omega)))
  obtain ⟨F,hS⟩:=hS.nm [24,23,3,2,1,25] [101,0,102] rfl rfl
  exact ⟨((i+1),(es2),(ck2)),F,⟨by omega,hR2⟩,hS,by omega⟩
 have hil:i=t.ops.length:=by simp at hc2;omega
 have hg:0=ZT t:=by rw [hT,hrt,Zfe hil]
 refine wp_exit (Zi (Zi (Zo (Zb (wp_seq ?_)))))
 refine Za hS (qI qZ) hB [2] [102,101,0] rfl rfl fun a w F hS=>Zb (wp_ret ?_)
 refine Zn hfr hS rfl rfl rfl (.int hg)
theorem Zcz (t:TxD):FnP Tryz.prog 86 [.agg (rTx t)] (.int .i64 (ZT t)):=by
 refine FnP.mk Tryz.func86 rfl Tryz.ntmps86 rfl ?_
 intro B a w F hB hfr hS
 refine wp_seq ?_
 refine Zc hS (qx 101 r1 (qI qZ)) hB [2,1] [101,0] (fun _=>rfl) (fun _=>rfl) fun τ a w F hS=>?_
 try dsimp only [RS.sub,SF.sub,CF.sub,csub,Anc.sub,List.map,zCF,rInt,rOp,rTx] at hS
 generalize τ 1=v1 at hS
 refine Zb (wp_seq (wp_seq ?_))
 refine Za hS (qg 0 101 r1 r1 (qa 101 r1 r1 (qf (oP (Zd4 t.id) Tryz.func146 (Args.one .t)) r1 qz (qf (o_not .t) r1 qz qZ)))) hB [8,2,1] [101,0] rfl rfl fun a w F hS=>Zb ?_
 refine Zd hS rfl (fun hc0=>?_) (fun hc0=>?_)
 ·skip
  have hg:1=ZT t:=by unfold ZT;rw [if_pos (by rw [← ZfR];simpa using hc0)]
  refine wp_seq ?_
  refine Za hS (qI qZ) hB [2,1] [101,0] rfl rfl fun a w F hS=>Zb (wp_ret (Zf ?_))
  refine Zn hfr hS rfl rfl rfl (.int hg)
 have hid:1≤t.id∧t.id≤1048575:=by rw [← ZfR];simpa using hc0
 refine wp_skip (Zb (wp_seq (wp_seq ?_)))
 refine Za hS (qg 2 101 r1 r1 (qa 101 r1 r1 (qu Tryz.underlying38 r1 (qf (Zal .t qi) r1 qz qZ)))) hB [12,2,1] [101,0] rfl rfl fun a w F hS=>Zb ?_
 refine Zd hS rfl (fun hc1=>?_) (fun hc1=>?_)
 ·skip
  have hg:9=ZT t:=by unfold ZT;rw [if_neg (by omega),if_pos (by simp at hc1;omega)]
  refine wp_seq ?_
  refine Za hS (qI qZ) hB [2,1] [101,0] rfl rfl fun a w F hS=>Zb (wp_ret (Zf ?_))
  refine Zn hfr hS rfl rfl rfl (.int hg)
 have hlen:t.ops.length≤4095:=by simp at hc1;omega
 have hT:ZT t=ZaP t.id [] t.ops:=by unfold ZT;rw [if_neg (by omega),if_neg (by omega)]
 refine wp_skip (Zb (wp_seq (wp_seq ?_)))
 refine Za hS (qg 2 101 r1 r1 (qa 101 r1 r1 (qu Tryz.underlying38 r1 (qJ qZ)))) hB [16,15,14,2,1] [101,0] rfl rfl fun a w F hS=>Zb (wp_block ?_)
 refine Zl (σ:=(Nat)) [1,2,14,15] [0,101] (fun s=>[(16,.pv (.int .i64 (s:Int)))]) (fun s=>[]) (fun s=>s≤t.ops.length∧(ZaP t.id [] t.ops=ZaP t.id (t.ops.take s) (t.ops.drop s))) (fun s=>t.ops.length - s) (0) hS ⟨rfl,rfl,rfl,rfl,rfl,trivial⟩ ⟨rfl,rfl,trivial⟩ ⟨Nat.zero_le _,rfl⟩ ?_
 clear hS;intro i a w F hC hS
 try dsimp only at hC
 obtain ⟨F,hS⟩:=hS.nm [16,15,14,2,1] [101,0] rfl rfl
 try dsimp only at hS
 obtain ⟨hi,hq⟩:=hC
 have hrt:=hq
 refine wp_seq ?_
 refine Za hS (qL r2) hB [17,16,15,14,2,1] [101,0] rfl rfl fun a w F hS=>Zb (wp_seq ?_)
 refine Zd hS rfl (fun hc2=>?_) (fun hc2=>?_)
 ·skip
  have hil:i<t.ops.length:=by simp at hc2;omega
  refine wp_skip (Zb (wp_seq (wp_block (wp_seq ?_))))
  refine Zc hS (qM rfl rfl (qy 4 Tryz.underlying38 r2 (qf (oR true 4 .t) r1 qz (qf (oH [.bool false,.int .i64 0,.int .i64 0,.int .i64 0] 102) trivial qz (qN rfl rfl (qS 4 102 r2 r1 qZ)))))) hB [16,15,14,4,3,2,1] [102,101,0] (fun _=>rfl) (fun _=>rfl) fun τ a w F hS=>?_
  try dsimp only [RS.sub,SF.sub,CF.sub,csub,Anc.sub,List.map,Zg,xL,xM,Nat.reduceAdd,xD,xE,xT,xU,xC,xN,zCF,ldSF,rInt,rOp,rTx] at hS
  generalize τ 4=v4 at hS
  try simp only [Int.toNat_natCast] at hS
  refine Zb (wp_seq (wp_seq ?_))
  refine Za hS (qe 4 102 r1 r1 (qf (oP (ZcA (Go.Gm.nth t.ops i)) Tryz.func147 (Args.one (.pagg .t))) r1 qz (qf (o_not .t) r1 qz qZ))) hB [23,16,15,14,4,3,2,1] [102,101,0] rfl rfl fun a w F hS=>Zb ?_
  refine Zd hS rfl (fun hc3=>?_) (fun hc3=>?_)
  ·skip
   have hk:Z0 (Go.Gm.nth t.ops i)=false:=by simpa using hc3
   have hg:1=ZT t:=by rw [hT,hrt,Za6 hil,if_pos hk]
   refine wp_seq ?_
   refine Za hS (qI qZ) hB [16,15,14,4,3,2,1] [102,101,0] rfl rfl fun a w F hS=>Zb (wp_ret (Zf (Zk (Zf (Zf (Zk (Zf ?_)))))))
   refine Zn hfr hS rfl rfl rfl (.int hg)
  have hk:Z0 (Go.Gm.nth t.ops i)=true:=by simpa using hc3
  refine wp_skip (Zb (wp_seq ?_))
  refine Zu hS (qg 0 102 r1 r1 (qa 102 r1 r1 (qM rfl rfl (qv 2 102 rfl r2 r1 (qw 102 rfl r2 r1 (qv 0 101 rfl r2 r1 (qw 101 rfl r2 r1 (qk rfl (fun h=>o_eql (.w h) (.w h)) r3 qz (qf (ZA .t .t) r2 qz (qM rfl rfl (qv 3 102 rfl r2 r1 (qw 102 rfl r2 r1 (qv 2 101 rfl r2 r1 (qw 101 rfl r2 r1 (qm rfl rfl rfl rfl (qk rfl (fun h=>ZcW (sz:=4) (.mk Tryz.underlying38 (by kernel_rfl)) (by intro x;rfl) (.w h) (.w h) (by omega) (by omega)) r3 qz (qv 1 102 rfl r2 r1 (qw 102 rfl r2 r1 (qk rfl (fun h=>oP (ZcC (t.ops.take i) (Go.Gm.nth t.ops i).key (by rw [List.length_take];omega)) Tryz.func148 (Args.two (.w h) (.w h))) r3 qz (qk rfl (fun h=>Zal (.w h) (.w h)) r3 qz (qf (ZA .t .t) r2 qz qZ))))))))))))))))))))) hB [44,16,15,14,2,1] [102,101,0] rfl rfl fun a w F hS=>?_
  try dsimp only [List.map,xD,xE,xT,xU,ldSF,rInt,rOp,rTx] at hS
  refine Zb ?_
  refine Zd hS rfl (fun hc4=>?_) (fun hc4=>?_)
  ·skip
   have hyes:(Go.Gm.nth t.ops i).read=true∧(Go.Gm.nth t.ops i).tx=t.id∧(wcnt (t.ops.take i) (Go.Gm.nth t.ops i).key:Int)<(Go.Gm.nth t.ops i).nth:=by unfold wcnt;simpa [and_assoc] using hc4
   have hg:6=ZT t:=by rw [hT,hrt,Za6 hil,if_neg (by rw [hk];decide),if_pos hyes]
   refine wp_seq ?_
   refine Za hS (qI qZ) hB [16,15,14,2,1] [102,101,0] rfl rfl fun a w F hS=>Zb (wp_ret (Zk (Zf (Zf (Zk (Zf ?_))))))
   refine Zn hfr hS rfl rfl rfl (.int hg)
  have hno:¬ ((Go.Gm.nth t.ops i).read=true∧(Go.Gm.nth t.ops i).tx=t.id∧(wcnt (t.ops.take i) (Go.Gm.nth t.ops i).key:Int)<(Go.Gm.nth t.ops i).nth):=by unfold wcnt;intro h9;have h8:=hc4;simp [h9.1,h9.2.1] at h8;omega
  refine wp_skip (Zh (Zb ?_))
  refine Za hS (qp r1 (qM rfl rfl qZ)) hB [16,15,14,2,1] [102,101,0] rfl rfl fun a w F hS=>Zb ?_
  replace hS:=hS.ent (i:=16) (s':=.pv (.int .i64 ((i+1:Nat):Int))) rfl (.int (Ze (by omega)))
  obtain ⟨F,hS⟩:=hS.nm [15,14,2,1,16] [101,0] rfl rfl
  exact ⟨(i+1),F,⟨by omega,(by rw [hrt,Za6 hil,if_neg (by rw [hk];decide),if_neg hno])⟩,hS,by omega⟩
 have hil:i=t.ops.length:=by simp at hc2;omega
 have hg:0=ZT t:=by rw [hT,hrt,Zfe hil]
 refine wp_exit (Zi (Zi (Zo (Zb (wp_seq ?_)))))
 refine Za hS (qI qZ) hB [2] [101,0] rfl rfl fun a w F hS=>Zb (wp_ret ?_)
 refine Zn hfr hS rfl rfl rfl (.int hg)
theorem ZlO {u v:ZbP} {r:Bool} (h:(decide (u.tx=v.tx) && (decide (u.key=v.key) && (decide (u.nth=v.nth) && true)))=r):r=decide (u=v):=by
 cases u;cases v
 rw [← h,Bool.eq_iff_iff]
 simp
theorem Zn3 (l:List ZbP) (v:ZbP):FnP Tryz.prog 191 [.sl ZC l,.agg (ZC v)] (.bool (decide (v ∈ l))):=by
 refine FnP.mk Tryz.func191 rfl Tryz.ntmps191 rfl ?_
 intro B a w F hB hfr hS
 have hll:=Sat.lenSl hS (i:=0) rfl
 refine wp_seq ?_
 refine Zc hS (qx 101 r1 qB) hB [4,3,0] [101,0] (fun _=>rfl) (fun _=>rfl) fun τ a w F hS=>?_
 try dsimp only [RS.sub,SF.sub,CF.sub,csub,Anc.sub,List.map,zCF,ZC] at hS
 generalize τ 3=v3 at hS
 refine Zb (wp_seq (wp_seq ?_))
 refine Za hS (qM rfl rfl (qu Tryz.underlying126 r1 (qJ qZ))) hB [9,8,7,4,3] [101,0] rfl rfl fun a w F hS=>Zb (wp_block ?_)
 refine Zl (σ:=(Nat)) [3,4,7,8] [0,101] (fun s=>[(9,.pv (.int .i64 (s:Int)))]) (fun s=>[]) (fun s=>s≤l.length∧(∀ k,k<s→Go.Gm.nth l k≠v)) (fun s=>l.length - s) (0) hS ⟨rfl,rfl,rfl,rfl,rfl,trivial⟩ ⟨rfl,rfl,trivial⟩ ⟨Nat.zero_le _,fun k hk=>absurd hk (Nat.not_lt_zero k)⟩ ?_
 clear hS;intro i a w F hC hS
 try dsimp only at hC
 obtain ⟨F,hS⟩:=hS.nm [9,8,7,4,3] [101,0] rfl rfl
 try dsimp only at hS
 obtain ⟨hi,hq⟩:=hC
 refine wp_seq ?_
 refine Za hS (qL r2) hB [10,9,8,7,4,3] [101,0] rfl rfl fun a w F hS=>Zb (wp_seq ?_)
 refine Zd hS rfl (fun hc0=>?_) (fun hc0=>?_)
 ·skip
  have hil:i<l.length:=by simp at hc0;omega
  refine wp_skip (Zb (wp_seq (wp_block (wp_seq ?_))))
  refine Zc hS (qy 3 Tryz.underlying126 r2 (qf (oR true 3 .t) r1 qz (qf (oH [.int .i64 0,.int .i64 0,.int .i64 0] 102) trivial qz (qS 3 102 r2 r1 qZ)))) hB [9,8,7,6,4,3] [102,101,0] (fun _=>rfl) (fun _=>rfl) fun τ a w F hS=>?_
  try dsimp only [RS.sub,SF.sub,CF.sub,csub,Anc.sub,List.map,Zg,xL,xM,Nat.reduceAdd,xD,xE,xT,xU,xC,xN,zCF,ldSF,ZC] at hS
  generalize τ 6=v6 at hS
  try simp only [Int.toNat_natCast] at hS
  refine Zb (wp_seq ?_)
  refine Za hS (qe 3 102 r1 r1 (qe 3 101 r1 r1 (qf (ZpX (ks:=[true,true,true]) (by kernel_rfl) .t .t (.int (.int (.int .nil)))) r2 qz qZ))) hB [15,9,8,7,4,3] [101,0] rfl rfl fun a w F hS=>Zb ?_
  refine Zd hS rfl (fun hc1=>?_) (fun hc1=>?_)
  ·skip
   have hg:true=decide (v ∈ l):=(decide_eq_true (by have h9:=(ZlO hc1).symm;rw [decide_eq_true_eq] at h9;rw [← h9];exact ZP hil)).symm
   refine wp_seq ?_
   refine Za hS qB hB [9,8,7,4,3] [101,0] rfl rfl fun a w F hS=>Zb (wp_ret (Zk (Zf (Zf (Zk (Zf ?_))))))
   refine Zn hfr hS rfl rfl rfl (.bool hg)
  have hne:Go.Gm.nth l i≠v:=by have h9:=(ZlO hc1).symm;rwa [decide_eq_false_iff_not] at h9
  refine wp_skip (Zh (Zb ?_))
  refine Za hS (qp r1 (qM rfl rfl qZ)) hB [9,8,7,4,3] [101,0] rfl rfl fun a w F hS=>Zb ?_
  replace hS:=hS.ent (i:=9) (s':=.pv (.int .i64 ((i+1:Nat):Int))) rfl (.int (Ze (by omega)))
  obtain ⟨F,hS⟩:=hS.nm [8,7,4,3,9] [101,0] rfl rfl
  exact ⟨(i+1),F,⟨by omega,(fun k hk=>by rcases Nat.lt_or_eq_of_le (Nat.le_of_lt_succ hk) with h | h;exact hq k h;rw [h];exact hne)⟩,hS,by omega⟩
 have hil:i=l.length:=by simp at hc0;omega
 have hg:false=decide (v ∈ l):=by
   rw [eq_comm,decide_eq_false_iff_not]
   intro hv
   obtain ⟨k,hk,e⟩:=List.getElem_of_mem hv
   exact hq k (by simp at hc0;omega) (by rw [Zq hk];exact e)
 refine wp_exit (Zi (Zi (Zo (Zb (wp_seq ?_)))))
 refine Za hS qB hB [4] [101,0] rfl rfl fun a w F hS=>Zb (wp_ret ?_)
 refine Zn hfr hS rfl rfl rfl (.bool hg)
theorem ZiG (t:TxD) (hl:t.ops.length≤1000000):FnP Tryz.prog 99 [.agg (rTx t)] (.sl ZC (ZV t)):=by
 refine FnP.mk Tryz.func99 rfl Tryz.ntmps99 rfl ?_
 intro B a w F hB hfr hS
 refine wp_seq ?_
 refine Zc hS (qx 101 r1 (qC qZ)) hB [2,1] [101,0] (fun _=>rfl) (fun _=>rfl) fun τ a w F hS=>?_
 try dsimp only [RS.sub,SF.sub,CF.sub,csub,Anc.sub,List.map,zCF,rInt,rOp,rTx,ZC] at hS
 generalize τ 1=v1 at hS
 refine Zb (wp_seq ?_)
 refine Za hS (qC qZ) hB [3,2,1] [101,0] rfl rfl fun a w F hS=>Zb (wp_seq ?_)
 refine Zc hS (qf (Zel (ek:=(fun n:Int=>PV.int .i64 n)) (ok:=(fun k=>∀ x ∈ Zda k,inR .i64 x)) (kv:=(kvS Zda)) 102) trivial qz (qN rfl rfl qZ)) hB [4,3,2,1] [102,101,0] (fun _=>rfl) (fun _=>rfl) fun τ a w F hS=>?_
 try dsimp only [RS.sub,SF.sub,CF.sub,csub,Anc.sub,List.map,Zg,xL,xM,Nat.reduceAdd,xD,xE,xT,xU,xC,xN,zCF,rInt,rOp,rTx,ZC] at hS
 generalize τ 8=v8 at hS
 refine Zb (wp_seq (wp_seq ?_))
 refine Za hS (qg 2 101 r1 r1 (qa 101 r1 r1 (qu Tryz.underlying38 r1 (qJ qZ)))) hB [12,11,10,4,3,2,1] [102,101,0] rfl rfl fun a w F hS=>Zb (wp_block ?_)
 replace hS:=hS.fresh 50 rfl
 replace hS:=hS.turn 50 rfl (Zav (T:=128) (sz:=3) (R:=ZC))
 refine Zl (σ:=(Nat)×(List (GE ZbP Int))×(Nat)×(Value)×(List ZbP)) [1,2,4,10,11] [0,101] (fun s=>[(12,.pv (.int .i64 (s.1:Int))),(3,.pv (.is s.2.2.2.1))]) (fun s=>[(102,.ob (.val v8) (ZdH (fun n:Int=>PV.int .i64 n) (fun k=>∀ x ∈ Zda k,inR .i64 x) (kvS Zda) s.2.1 s.2.2.1)),(50,.ob (.val s.2.2.2.1) (Zy 128 3 ZC s.2.2.2.2))]) (fun s=>s.1≤t.ops.length∧(s.2.2.2.2=Zb9 t.id (t.ops.take s.1)∧ZdV s.2.1 s.1 s.2.2.2.2)) (fun s=>t.ops.length - s.1) ((0),([]),(0),(.slice none 0 0),([])) hS ⟨rfl,rfl,rfl,rfl,rfl,rfl,rfl,trivial⟩ ⟨rfl,rfl,rfl,rfl,trivial⟩ ⟨Nat.zero_le _,⟨rfl,Znj⟩⟩ ?_
 clear hS;intro s a w F hC hS
 obtain ⟨i,es,ck,v,out⟩:=s
 try dsimp only at hC
 obtain ⟨F,hS⟩:=hS.nm [12,11,10,4,3,2,1] [102,101,50,0] rfl rfl
 try dsimp only at hS
 obtain ⟨hi,hq⟩:=hC
 obtain ⟨hou,hvi⟩:=hq
 have hol:out.length≤i:=by rw [hou];exact Zb8 _ _ _
 have hst:=fun hil:i<t.ops.length=>Ze6 (id:=t.id) hil
 refine wp_seq ?_
 refine Za hS (qL r2) hB [13,12,11,10,4,3,2,1] [102,101,50,0] rfl rfl fun a w F hS=>Zb (wp_seq ?_)
 refine Zd hS rfl (fun hc0=>?_) (fun hc0=>?_)
 ·skip
  have hil:i<t.ops.length:=by simp at hc0;omega
  refine wp_skip (Zb (wp_seq (wp_block (wp_seq ?_))))
  refine Zc hS (qy 4 Tryz.underlying38 r2 (qf (oR true 4 .t) r1 qz (qf (oH [.bool false,.int .i64 0,.int .i64 0,.int .i64 0] 103) trivial qz (qS 4 103 r2 r1 qZ)))) hB [12,11,10,6,4,3,2,1] [103,102,101,50,0] (fun _=>rfl) (fun _=>rfl) fun τ a w F hS=>?_
  try dsimp only [RS.sub,SF.sub,CF.sub,csub,Anc.sub,List.map,Zg,xL,xM,Nat.reduceAdd,xD,xE,xT,xU,xC,xN,zCF,ldSF,rInt,rOp,rTx,ZC] at hS
  generalize τ 6=v6 at hS
  try simp only [Int.toNat_natCast] at hS
  refine Zb (wp_seq ?_)
  refine Zc hS (qe 4 103 r1 r1 (qf (oP (Zoh (Go.Gm.nth t.ops i)) Tryz.func159 (Args.one (.pagg .t))) r1 qz (qf (oH [.int .i64 0,.int .i64 0,.int .i64 0] 104) trivial qz (qf (oA 3 104 .same (.conv .t .agg)) r2 r1 qZ)))) hB [12,11,10,7,6,4,3,2,1] [104,103,102,101,50,0] (fun _=>rfl) (fun _=>rfl) fun τ a w F hS=>?_
  try dsimp only [RS.sub,SF.sub,CF.sub,csub,Anc.sub,List.map,Zg,xL,xM,Nat.reduceAdd,xD,xE,xT,xU,xC,xN,zCF,ldSF,rInt,rOp,rTx,ZC] at hS
  generalize τ 7=v7 at hS
  refine Zb (wp_seq (wp_seq ?_))
  refine Za hS (qg 0 103 r1 r1 (qa 103 r1 r1 (qf (o_not .t) r1 qz (qM rfl rfl (qv 0 104 rfl r2 r1 (qw 104 rfl r2 r1 (qk rfl (fun h=>o_eql (.w h) qi) r2 qz (qf (Z4 .t .t) r2 qz (qM rfl rfl (qv 0 104 rfl r2 r1 (qw 104 rfl r2 r1 (qv 0 101 rfl r2 r1 (qw 101 rfl r2 r1 (qk rfl (fun h=>o_eql (.w h) (.w h)) r3 qz (qf (Z4 .t .t) r2 qz qZ))))))))))))))) hB [32,12,11,10,7,4,3,2,1] [104,103,102,101,50,0] rfl rfl fun a w F hS=>Zb ?_
  refine Zd hS rfl (fun hc1=>?_) (fun hc1=>?_)
  ·skip
   have hno:Zga t.id (Go.Gm.nth t.ops i)=false:=by unfold Zga;unfold ofO at hc1;cases hr:(Go.Gm.nth t.ops i).read <;> simp [hr] at hc1 ⊢;omega
   obtain ⟨es2,he2⟩:∃ z,z=es:=⟨_,rfl⟩
   obtain ⟨ck2,hc2⟩:∃ z,z=ck:=⟨_,rfl⟩
   obtain ⟨out2,ho2⟩:∃ z,z=out:=⟨_,rfl⟩
   have hR2:out2=Zb9 t.id (t.ops.take (i+1))∧ZdV es2 (i+1) out2:=⟨by rw [ho2,hou,hst hil];unfold ZaM;rw [if_neg (by rw [hno];simp)],by rw [he2,ho2];exact ZnA hvi⟩
   rw [← he2,← hc2,← ho2] at hS
   refine wp_exit (Zi (Zo (Zb ?_)))
   refine Za hS (qp r1 (qM rfl rfl qZ)) hB [12,11,10,4,3,2,1] [103,102,101,50,0] rfl rfl fun a w F hS=>Zb ?_
   replace hS:=hS.ent (i:=12) (s':=.pv (.int .i64 ((i+1:Nat):Int))) rfl (.int (Ze (by omega)))
   obtain ⟨F,hS⟩:=hS.nm [11,10,4,2,1,3,12] [101,0,50,102] rfl rfl
   exact ⟨((i+1),(es2),(ck2),_,(out2)),F,⟨by omega,hR2⟩,hS,by omega⟩
  have hyes:Zga t.id (Go.Gm.nth t.ops i)=true:=by unfold Zga;unfold ofO at hc1;cases hr:(Go.Gm.nth t.ops i).read <;> simp [hr] at hc1 ⊢;exact hc1
  have hvr:=hvi (ofO (Go.Gm.nth t.ops i))
  have hw1:IntKind.wrap .i64 (((gGet (ofO (Go.Gm.nth t.ops i)) es).getD 0)+1)=((gGet (ofO (Go.Gm.nth t.ops i)) es).getD 0)+1:=ZH (by have:=Sat.lenSl hS (i:=10) rfl;omega)
  refine wp_skip (Zb (wp_seq ?_))
  replace hS:=hS.turnZ 102 (0) (ofO (Go.Gm.nth t.ops i)) rfl
  refine Zft 102 6 (m1:=1) (m2:=2) (by kernel_rfl) hS (by kernel_rfl) (qM rfl rfl (qe 3 104 r1 r1 (qf (ZhU (ek:=(fun n:Int=>PV.int .i64 n)) (z0:=(0)) 102 Tryz.underlying185 Zmt (by kernel_rfl) (fun _ _=>⟨rfl,ZiP⟩) .is (Z5.agg (enc:=Zda) (k:=(ofO (Go.Gm.nth t.ops i))) (.pagg .t) rfl)) r2 r1 (qp r1 (qf (ZfM (ek:=(fun n:Int=>PV.int .i64 n)) (z0:=(0)) 102 Tryz.underlying185 Zmt (by kernel_rfl) (fun _ _=>⟨rfl,ZiP⟩) .is (Z5.agg (enc:=Zda) (k:=(ofO (Go.Gm.nth t.ops i))) (.pagg .t) rfl) (by intros;first | rfl | simp [Anc.v,upd])) r2 r1 (qf (o_extract .t rfl) r1 qz (qf (ZdC 102 (Ze7 _ _ _) .is .t .t) r3 r1 qZ))))))) (by kernel_rfl) (by kernel_rfl) (by kernel_rfl) rfl rfl rfl (fun _ _ _ _ h=>.inr h) (by rw [hB];kernel_rfl) fun a w F hS=>?_
  obtain ⟨F,hS⟩:=hS.nm [12,11,10,7,4,3,2,1] [104,103,102,101,50,0] rfl rfl
  try dsimp only [List.map,xD,xE,xT,xU,ldSF,rInt,rOp,rTx,ZC] at hS
  obtain ⟨es2,he2⟩:∃ z,z=gSet (ofO (Go.Gm.nth t.ops i)) (IntKind.wrap .i64 (((gGet (ofO (Go.Gm.nth t.ops i)) es).getD 0)+1)) (gEns 0 (ofO (Go.Gm.nth t.ops i)) (es,ck)).1:=⟨_,rfl⟩
  obtain ⟨ck2,hc2⟩:∃ z,z=(gEns 0 (ofO (Go.Gm.nth t.ops i)) (es,ck)).2:=⟨_,rfl⟩
  rw [← he2,← hc2] at hS
  have hvv:∀ u,(gGet u es2).getD 0=if u=(ofO (Go.Gm.nth t.ops i)) then ((gGet (ofO (Go.Gm.nth t.ops i)) es).getD 0)+1 else (gGet u es).getD 0:=fun u=>by rw [he2,Zgq,hw1]
  have hmv:(gGet (ofO (Go.Gm.nth t.ops i)) es2).getD 0=((gGet (ofO (Go.Gm.nth t.ops i)) es).getD 0)+1:=by rw [hvv,if_pos rfl]
  have hvs:=ZnU hvi hvv
  refine Zb (wp_seq ?_)
  refine Za hS (qM rfl rfl (qe 3 104 r1 r1 (qf (ZbC (ek:=(fun n:Int=>PV.int .i64 n)) (z0:=(0)) 102 Tryz.underlying185 Zmt (by kernel_rfl) (fun _ _=>⟨rfl,ZiP⟩) .is (Z5.agg (enc:=Zda) (k:=(ofO (Go.Gm.nth t.ops i))) (.pagg .t) rfl)) r2 r1 (qf (o_eql .t qi) r1 qz qZ)))) hB [42,12,11,10,7,4,3,2,1] [104,103,102,101,50,0] rfl rfl fun a w F hS=>Zb ?_
  refine Zd hS rfl (fun hc2=>?_) (fun hc2=>?_)
  ·skip
   have hnm:(ofO (Go.Gm.nth t.ops i)) ∉ out:=by rw [← hvr.2.2];rw [hmv] at hc2;simp at hc2;omega
   obtain ⟨out2,ho2⟩:∃ z,z=out ++ [(ofO (Go.Gm.nth t.ops i))]:=⟨_,rfl⟩
   have hR2:out2=Zb9 t.id (t.ops.take (i+1))∧ZdV es2 (i+1) out2:=⟨by rw [ho2,hst hil];unfold ZaM;rw [if_pos ⟨hyes,by rw [← hou];exact hnm⟩,← hou],by have:=hvs;rw [if_neg hnm] at this;rw [ho2];exact this⟩
   refine Zc hS (qM rfl rfl (qe 3 104 r1 r1 (qf (Zj (sz:=3) (zs:=[.int .i64 0,.int .i64 0,.int .i64 0]) (r:=[(0,.tmp 44)]) (l:=[_,_,_]) Tryz.underlying126 (by kernel_rfl) (by kernel_rfl) (by kernel_rfl) (by kernel_rfl) rfl rfl (.agg rfl .t (by kernel_rfl) (by kernel_rfl) .nil) rfl) r1 qz (qf (o_append (sz:=3) (bs:=24) 50 (.mk' Tryz.underlying126 (by kernel_rfl) (by kernel_rfl)) (by intro x;rfl) .is (.arr (l':=[_]) .t) (by simp only [List.length_append,List.length_cons,List.length_nil,List.length_take,List.length_drop];omega) (by decide)) ⟨rfl,rfl,trivial⟩ ⟨rfl,trivial⟩ (qN rfl rfl qZ))))) hB [12,11,10,4,3,2,1] [103,102,101,50,0] (fun _=>rfl) (fun _=>rfl) fun τ a w F hS=>?_
   try dsimp only [RS.sub,SF.sub,CF.sub,csub,Anc.sub,List.map,Zg,xL,xM,Nat.reduceAdd,xD,xE,xT,xU,xC,xN,zCF,ldSF,rInt,rOp,rTx,ZC] at hS
   generalize τ 46=v46 at hS
   rw [← ho2] at hS
   refine Zh (Zb ?_)
   refine Za hS (qp r1 (qM rfl rfl qZ)) hB [12,11,10,4,3,2,1] [103,102,101,50,0] rfl rfl fun a w F hS=>Zb ?_
   replace hS:=hS.ent (i:=12) (s':=.pv (.int .i64 ((i+1:Nat):Int))) rfl (.int (Ze (by omega)))
   obtain ⟨F,hS⟩:=hS.nm [11,10,4,2,1,3,12] [101,0,50,102] rfl rfl
   exact ⟨((i+1),(es2),(ck2),_,(out2)),F,⟨by omega,hR2⟩,hS,by omega⟩
  have hnm:(ofO (Go.Gm.nth t.ops i)) ∈ out:=by rw [← hvr.2.2];rw [hmv] at hc2;simp at hc2;omega
  obtain ⟨out2,ho2⟩:∃ z,z=out:=⟨_,rfl⟩
  have hR2:out2=Zb9 t.id (t.ops.take (i+1))∧ZdV es2 (i+1) out2:=⟨by rw [ho2,hst hil];unfold ZaM;rw [if_neg (by rw [← hou];simp [hnm])];exact hou,by have:=hvs;rw [if_pos hnm] at this;rw [ho2];exact this⟩
  rw [← ho2] at hS
  refine wp_skip (Zh (Zb ?_))
  refine Za hS (qp r1 (qM rfl rfl qZ)) hB [12,11,10,4,3,2,1] [103,102,101,50,0] rfl rfl fun a w F hS=>Zb ?_
  replace hS:=hS.ent (i:=12) (s':=.pv (.int .i64 ((i+1:Nat):Int))) rfl (.int (Ze (by omega)))
  obtain ⟨F,hS⟩:=hS.nm [11,10,4,2,1,3,12] [101,0,50,102] rfl rfl
  exact ⟨((i+1),(es2),(ck2),_,(out2)),F,⟨by omega,hR2⟩,hS,by omega⟩
 have hil:i=t.ops.length:=by simp at hc0;omega
 refine wp_exit (Zi (Zi (Zo (Zb (wp_seq ?_)))))
 refine Za hS (qM rfl rfl (qN rfl rfl qZ)) hB [2] [102,101,50,0] rfl rfl fun a w F hS=>Zb (wp_ret ?_)
 obtain ⟨F,hS⟩:=hS.give 50 2 rfl rfl
 refine Zn hfr hS rfl rfl rfl (.sl (by rw [hou,hil,List.take_length];rfl))
theorem ZgE (t:TxD) (hl:t.ops.length≤1000000):FnP Tryz.prog 149 [.agg (rTx t)] (.sl ZC (ZV t)):=by
 refine FnP.mk Tryz.func149 rfl Tryz.ntmps149 rfl ?_
 intro B a w F hB hfr hS
 refine wp_seq ?_
 refine Zc hS (qx 101 r1 (qC qZ)) hB [2,1] [101,0] (fun _=>rfl) (fun _=>rfl) fun τ a w F hS=>?_
 try dsimp only [RS.sub,SF.sub,CF.sub,csub,Anc.sub,List.map,zCF,rInt,rOp,rTx,ZC] at hS
 generalize τ 1=v1 at hS
 refine Zb (wp_seq ?_)
 refine Za hS (qC qZ) hB [3,2,1] [101,0] rfl rfl fun a w F hS=>Zb (wp_seq (wp_seq ?_))
 refine Za hS (qg 2 101 r1 r1 (qa 101 r1 r1 (qu Tryz.underlying38 r1 (qJ qZ)))) hB [10,9,8,3,2,1] [101,0] rfl rfl fun a w F hS=>Zb (wp_block ?_)
 replace hS:=hS.fresh 50 rfl
 replace hS:=hS.turn 50 rfl (Zav (T:=128) (sz:=3) (R:=ZC))
 refine Zl (σ:=(Nat)×(Value)×(List ZbP)) [1,2,8,9] [0,101] (fun s=>[(10,.pv (.int .i64 (s.1:Int))),(3,.pv (.is s.2.1))]) (fun s=>[(50,.ob (.val s.2.1) (Zy 128 3 ZC s.2.2))]) (fun s=>s.1≤t.ops.length∧(s.2.2=Zb9 t.id (t.ops.take s.1))) (fun s=>t.ops.length - s.1) ((0),(.slice none 0 0),([])) hS ⟨rfl,rfl,rfl,rfl,rfl,rfl,trivial⟩ ⟨rfl,rfl,rfl,trivial⟩ ⟨Nat.zero_le _,rfl⟩ ?_
 clear hS;intro s a w F hC hS
 obtain ⟨i,v,out⟩:=s
 try dsimp only at hC
 obtain ⟨F,hS⟩:=hS.nm [10,9,8,3,2,1] [101,50,0] rfl rfl
 try dsimp only at hS
 obtain ⟨hi,hq⟩:=hC
 have hol:out.length≤i:=by rw [hq];exact Zb8 _ _ _
 have hst:=fun hil:i<t.ops.length=>Ze6 (id:=t.id) hil
 refine wp_seq ?_
 refine Za hS (qL r2) hB [11,10,9,8,3,2,1] [101,50,0] rfl rfl fun a w F hS=>Zb (wp_seq ?_)
 refine Zd hS rfl (fun hc0=>?_) (fun hc0=>?_)
 ·skip
  have hil:i<t.ops.length:=by simp at hc0;omega
  refine wp_skip (Zb (wp_seq (wp_block (wp_seq ?_))))
  refine Zc hS (qy 4 Tryz.underlying38 r2 (qf (oR true 4 .t) r1 qz (qf (oH [.bool false,.int .i64 0,.int .i64 0,.int .i64 0] 102) trivial qz (qS 4 102 r2 r1 qZ)))) hB [10,9,8,5,3,2,1] [102,101,50,0] (fun _=>rfl) (fun _=>rfl) fun τ a w F hS=>?_
  try dsimp only [RS.sub,SF.sub,CF.sub,csub,Anc.sub,List.map,Zg,xL,xM,Nat.reduceAdd,xD,xE,xT,xU,xC,xN,zCF,ldSF,rInt,rOp,rTx,ZC] at hS
  generalize τ 5=v5 at hS
  try simp only [Int.toNat_natCast] at hS
  refine Zb (wp_seq ?_)
  refine Zc hS (qe 4 102 r1 r1 (qf (oP (ZlM (Go.Gm.nth t.ops i)) Tryz.func190 (Args.one (.pagg .t))) r1 qz (qf (oH [.int .i64 0,.int .i64 0,.int .i64 0] 103) trivial qz (qf (oA 3 103 .same (.conv .t .agg)) r2 r1 qZ)))) hB [10,9,8,6,5,3,2,1] [103,102,101,50,0] (fun _=>rfl) (fun _=>rfl) fun τ a w F hS=>?_
  try dsimp only [RS.sub,SF.sub,CF.sub,csub,Anc.sub,List.map,Zg,xL,xM,Nat.reduceAdd,xD,xE,xT,xU,xC,xN,zCF,ldSF,rInt,rOp,rTx,ZC] at hS
  generalize τ 6=v6 at hS
  refine Zb (wp_seq ?_)
  refine Za hS (qg 0 102 r1 r1 (qa 102 r1 r1 (qM rfl rfl (qv 2 102 rfl r2 r1 (qw 102 rfl r2 r1 (qk rfl (fun h=>o_neq (.w h) qi) r2 qz (qf (ZA .t .t) r2 qz (qM rfl rfl (qv 2 102 rfl r2 r1 (qw 102 rfl r2 r1 (qv 0 101 rfl r2 r1 (qw 101 rfl r2 r1 (qk rfl (fun h=>o_neq (.w h) (.w h)) r3 qz (qf (ZA .t .t) r2 qz (qM rfl rfl (qm rfl rfl rfl rfl (qk rfl (fun h=>oL true 3 103 .is) r2 r1 (qk rfl (fun h=>OpC.lendRow 50 [31] (oP (Zn3 out (ofO (Go.Gm.nth t.ops i))) Tryz.func191 (Args.two (.w h) (.pagg (.w h)))) ⟨rfl,trivial,trivial⟩ (.pv (fun _ _ _ _ h=>h)) trivial (by rfl)) r3 r1 (qk rfl (fun h=>o_not (.w h)) r2 qz (qf (ZA .t .t) r2 qz qZ)))))))))))))))))))) hB [35,10,9,8,6,3,2,1] [103,102,101,50,0] rfl rfl fun a w F hS=>Zb ?_
  refine Zd hS rfl (fun hc1=>?_) (fun hc1=>?_)
  ·skip
   have hBq:(Zga t.id (Go.Gm.nth t.ops i)=true∧(ofO (Go.Gm.nth t.ops i)) ∉ Zb9 t.id (t.ops.take i)):=by rw [← hq];unfold Zga;simpa [and_assoc] using hc1
   refine Zc hS (qM rfl rfl (qe 3 103 r1 r1 (qf (Zj (sz:=3) (zs:=[.int .i64 0,.int .i64 0,.int .i64 0]) (r:=[(0,.tmp 37)]) (l:=[_,_,_]) Tryz.underlying126 (by kernel_rfl) (by kernel_rfl) (by kernel_rfl) (by kernel_rfl) rfl rfl (.agg rfl .t (by kernel_rfl) (by kernel_rfl) .nil) rfl) r1 qz (qf (o_append (sz:=3) (bs:=24) 50 (.mk' Tryz.underlying126 (by kernel_rfl) (by kernel_rfl)) (by intro x;rfl) .is (.arr (l':=[_]) .t) (by simp only [List.length_append,List.length_cons,List.length_nil,List.length_take,List.length_drop];omega) (by decide)) ⟨rfl,rfl,trivial⟩ ⟨rfl,trivial⟩ (qN rfl rfl qZ))))) hB [10,9,8,3,2,1] [103,102,101,50,0] (fun _=>rfl) (fun _=>rfl) fun τ a w F hS=>?_
   try dsimp only [RS.sub,SF.sub,CF.sub,csub,Anc.sub,List.map,Zg,xL,xM,Nat.reduceAdd,xD,xE,xT,xU,xC,xN,zCF,ldSF,rInt,rOp,rTx,ZC] at hS
   generalize τ 39=v39 at hS
   refine Zh (Zb ?_)
   refine Za hS (qp r1 (qM rfl rfl qZ)) hB [10,9,8,3,2,1] [103,102,101,50,0] rfl rfl fun a w F hS=>Zb ?_
   replace hS:=hS.ent (i:=10) (s':=.pv (.int .i64 ((i+1:Nat):Int))) rfl (.int (Ze (by omega)))
   obtain ⟨F,hS⟩:=hS.nm [9,8,2,1,3,10] [101,0,50] rfl rfl
   exact ⟨((i+1),_,_),F,⟨by omega,(by rw [hst hil];unfold ZaM;first | (rw [if_pos hBq,← hq];done) | (rw [if_neg hBq,← hq]))⟩,hS,by omega⟩
  have hBq:¬ (Zga t.id (Go.Gm.nth t.ops i)=true∧(ofO (Go.Gm.nth t.ops i)) ∉ Zb9 t.id (t.ops.take i)):=by rw [← hq];unfold Zga;intro h9;have h8:=hc1;simp at h8 h9;simp [h9] at h8
  refine wp_skip (Zh (Zb ?_))
  refine Za hS (qp r1 (qM rfl rfl qZ)) hB [10,9,8,3,2,1] [103,102,101,50,0] rfl rfl fun a w F hS=>Zb ?_
  replace hS:=hS.ent (i:=10) (s':=.pv (.int .i64 ((i+1:Nat):Int))) rfl (.int (Ze (by omega)))
  obtain ⟨F,hS⟩:=hS.nm [9,8,2,1,3,10] [101,0,50] rfl rfl
  exact ⟨((i+1),_,_),F,⟨by omega,(by rw [hst hil];unfold ZaM;first | (rw [if_pos hBq,← hq];done) | (rw [if_neg hBq,← hq]))⟩,hS,by omega⟩
 have hil:i=t.ops.length:=by simp at hc0;omega
 refine wp_exit (Zi (Zi (Zo (Zb (wp_seq ?_)))))
 refine Za hS (qM rfl rfl (qN rfl rfl qZ)) hB [2] [101,50,0] rfl rfl fun a w F hS=>Zb (wp_ret ?_)
 obtain ⟨F,hS⟩:=hS.give 50 2 rfl rfl
 refine Zn hfr hS rfl rfl rfl (.sl (by rw [hq,hil,List.take_length];rfl))
theorem ZmO (l:List Int) (v:Int):FnP Tryz.prog 145 [.sl rInt l,.int .i64 v] (.int .i64 (Za2 v l)):=by
 refine FnP.mk Tryz.func145 rfl Tryz.ntmps145 rfl ?_
 intro B a w F hB hfr hS
 have hll:=Sat.lenSl hS (i:=0) rfl
 refine wp_seq ?_
 refine Za hS (qI qZ) hB [4,1,0] [0] rfl rfl fun a w F hS=>Zb (wp_seq (wp_seq ?_))
 refine Za hS (qM rfl rfl (qu Tryz.underlying41 r1 (qJ qZ))) hB [8,7,4,1,0] [0] rfl rfl fun a w F hS=>Zb (wp_block ?_)
 refine Zl (σ:=(Nat)) [0,1,4,7] [0] (fun s=>[(8,.pv (.int .i64 (s:Int)))]) (fun s=>[]) (fun s=>s≤l.length∧(∀ k,k<s→Go.Gm.nth l k≠v)) (fun s=>l.length - s) (0) hS ⟨rfl,rfl,rfl,rfl,rfl,trivial⟩ ⟨rfl,trivial⟩ ⟨Nat.zero_le _,fun k hk=>absurd hk (Nat.not_lt_zero k)⟩ ?_
 clear hS;intro i a w F hC hS
 try dsimp only at hC
 obtain ⟨F,hS⟩:=hS.nm [8,7,4,1,0] [0] rfl rfl
 try dsimp only at hS
 obtain ⟨hi,hq⟩:=hC
 refine wp_seq ?_
 refine Za hS (qL r2) hB [9,8,7,4,1,0] [0] rfl rfl fun a w F hS=>Zb (wp_seq ?_)
 refine Zd hS rfl (fun hc0=>?_) (fun hc0=>?_)
 ·skip
  have hil:i<l.length:=by simp at hc0;omega
  refine wp_skip (Zb (wp_seq (wp_block (wp_seq ?_))))
  refine Za hS (qM rfl rfl (qN rfl rfl qZ)) hB [8,7,5,4,1,0] [0] rfl rfl fun a w F hS=>Zb (wp_seq ?_)
  refine Za hS (qM rfl rfl (qM rfl rfl (qM rfl rfl (qy 1 Tryz.underlying41 r2 (qf (oR false 1 .t) r1 qz (qf (o_eql .t .t) r2 qz qZ)))))) hB [16,8,7,5,4,1,0] [0] rfl rfl fun a w F hS=>?_
  try simp only [Int.toNat_natCast] at hS
  refine Zb ?_
  refine Zd hS rfl (fun hc1=>?_) (fun hc1=>?_)
  ·skip
   have hg:(i:Int)=Za2 v l:=(Zi6 hil (by simp at hc1;omega) hq).symm
   refine wp_seq ?_
   refine Za hS (qM rfl rfl (qN rfl rfl qZ)) hB [8,7,4,1,0] [0] rfl rfl fun a w F hS=>Zb (wp_ret (Zk (Zf (Zf (Zk (Zf ?_))))))
   refine Zn hfr hS rfl rfl rfl (.int hg)
  have hne:Go.Gm.nth l i≠v:=by simp at hc1;omega
  refine wp_skip (Zh (Zb ?_))
  refine Za hS (qp r1 (qM rfl rfl qZ)) hB [8,7,4,1,0] [0] rfl rfl fun a w F hS=>Zb ?_
  replace hS:=hS.ent (i:=8) (s':=.pv (.int .i64 ((i+1:Nat):Int))) rfl (.int (Ze (by omega)))
  obtain ⟨F,hS⟩:=hS.nm [7,4,1,0,8] [0] rfl rfl
  exact ⟨(i+1),F,⟨by omega,(fun k hk=>by rcases Nat.lt_or_eq_of_le (Nat.le_of_lt_succ hk) with h | h;exact hq k h;rw [h];exact hne)⟩,hS,by omega⟩
 have hil:i=l.length:=by simp at hc0;omega
 have hg : -1=Za2 v l:=(ZdI fun k hk=>hq k (by simp at hc0;omega)).symm
 refine wp_exit (Zi (Zi (Zo (Zb (wp_seq ?_)))))
 refine Za hS (qI qZ) hB [4] [0] rfl rfl fun a w F hS=>Zb (wp_ret ?_)
 refine Zn hfr hS rfl rfl rfl (.int hg)
theorem Zmc (l:List Int) (v:Int):FnP Tryz.prog 154 [.sl rInt l,.int .i64 v] (.int .i64 (Za2 v l)):=by
 refine FnP.mk Tryz.func154 rfl Tryz.ntmps154 rfl ?_
 intro B a w F hB hfr hS
 have hll:=Sat.lenSl hS (i:=0) rfl
 refine wp_seq ?_
 refine Za hS (qI qZ) hB [4,1,0] [0] rfl rfl fun a w F hS=>Zb (wp_seq (wp_seq ?_))
 refine Za hS (qM rfl rfl (qu Tryz.underlying41 r1 (qJ qZ))) hB [9,8,7,4,1] [0] rfl rfl fun a w F hS=>Zb (wp_block ?_)
 refine Zl (σ:=(Nat)) [1,4,7,8] [0] (fun s=>[(9,.pv (.int .i64 (s:Int)))]) (fun s=>[]) (fun s=>s≤l.length∧(∀ k,k<s→Go.Gm.nth l k≠v)) (fun s=>l.length - s) (0) hS ⟨rfl,rfl,rfl,rfl,rfl,trivial⟩ ⟨rfl,trivial⟩ ⟨Nat.zero_le _,fun k hk=>absurd hk (Nat.not_lt_zero k)⟩ ?_
 clear hS;intro i a w F hC hS
 try dsimp only at hC
 obtain ⟨F,hS⟩:=hS.nm [9,8,7,4,1] [0] rfl rfl
 try dsimp only at hS
 obtain ⟨hi,hq⟩:=hC
 refine wp_seq ?_
 refine Za hS (qL r2) hB [10,9,8,7,4,1] [0] rfl rfl fun a w F hS=>Zb (wp_seq ?_)
 refine Zd hS rfl (fun hc0=>?_) (fun hc0=>?_)
 ·skip
  have hil:i<l.length:=by simp at hc0;omega
  refine wp_skip (Zb (wp_seq (wp_block (wp_seq ?_))))
  refine Za hS (qM rfl rfl (qy 1 Tryz.underlying41 r2 (qf (oR false 1 .t) r1 qz (qN rfl rfl (qN rfl rfl qZ))))) hB [9,8,7,6,5,4,1] [0] rfl rfl fun a w F hS=>?_
  try simp only [Int.toNat_natCast] at hS
  refine Zb (wp_seq ?_)
  refine Za hS (qM rfl rfl (qM rfl rfl (qf (o_eql .t .t) r2 qz qZ))) hB [16,9,8,7,5,4,1] [0] rfl rfl fun a w F hS=>Zb ?_
  refine Zd hS rfl (fun hc1=>?_) (fun hc1=>?_)
  ·skip
   have hg:(i:Int)=Za2 v l:=(Zi6 hil (by simp at hc1;omega) hq).symm
   refine wp_seq ?_
   refine Za hS (qM rfl rfl (qN rfl rfl qZ)) hB [9,8,7,4,1] [0] rfl rfl fun a w F hS=>Zb (wp_ret (Zk (Zf (Zf (Zk (Zf ?_))))))
   refine Zn hfr hS rfl rfl rfl (.int hg)
  have hne:Go.Gm.nth l i≠v:=by simp at hc1;omega
  refine wp_skip (Zh (Zb ?_))
  refine Za hS (qp r1 (qM rfl rfl qZ)) hB [9,8,7,4,1] [0] rfl rfl fun a w F hS=>Zb ?_
  replace hS:=hS.ent (i:=9) (s':=.pv (.int .i64 ((i+1:Nat):Int))) rfl (.int (Ze (by omega)))
  obtain ⟨F,hS⟩:=hS.nm [8,7,4,1,9] [0] rfl rfl
  exact ⟨(i+1),F,⟨by omega,(fun k hk=>by rcases Nat.lt_or_eq_of_le (Nat.le_of_lt_succ hk) with h | h;exact hq k h;rw [h];exact hne)⟩,hS,by omega⟩
 have hil:i=l.length:=by simp at hc0;omega
 have hg : -1=Za2 v l:=(ZdI fun k hk=>hq k (by simp at hc0;omega)).symm
 refine wp_exit (Zi (Zi (Zo (Zb (wp_seq ?_)))))
 refine Za hS (qI qZ) hB [4] [0] rfl rfl fun a w F hS=>Zb (wp_ret ?_)
 refine Zn hfr hS rfl rfl rfl (.int hg)
theorem Zlk (l:List Int) (v:Int):FnP Tryz.prog 209 [.sl rInt l,.int .i64 v] (.bool (decide (v ∈ l))):=by
 refine FnP.mk Tryz.func209 rfl Tryz.ntmps209 rfl ?_
 intro B a w F hB hfr hS
 refine wp_seq ?_
 refine Za hS qB hB [4,1,0] [0] rfl rfl fun a w F hS=>Zb (wp_seq ?_)
 refine Za hS (qM rfl rfl (qM rfl rfl (qf (oP (ZmO l v) Tryz.func145 (Args.two .t .t)) r2 qz (qf (ZbF .t qi) r1 qz (qN rfl rfl qZ))))) hB [4] [0] rfl rfl fun a w F hS=>Zb (wp_ret ?_)
 refine Zn hfr hS rfl rfl rfl (.bool (by rw [decide_eq_decide];exact Zj4))
theorem Zpi (x y:List Int):FnP Tryz.prog 104 [.sl rInt x,.sl rInt y] (.bool (decide (x=y))):=by
 refine FnP.mk Tryz.func104 rfl Tryz.ntmps104 rfl ?_
 intro B a w F hB hfr hS
 have hxl:=Sat.lenSl hS (i:=0) rfl
 refine wp_seq ?_
 refine Za hS qB hB [4,1,0] [0] rfl rfl fun a w F hS=>Zb (wp_seq (wp_seq ?_))
 refine Za hS (qM rfl rfl (qu Tryz.underlying41 r1 (qM rfl rfl (qu Tryz.underlying41 r1 (qf (o_neq .t .t) r2 qz qZ))))) hB [10,4,1,0] [0] rfl rfl fun a w F hS=>Zb ?_
 refine Zd hS rfl (fun hc0=>?_) (fun hc0=>?_)
 ·skip
  have hg:false=decide (x=y):=by
    rw [eq_comm,decide_eq_false_iff_not]
    intro h
    subst h
    simp at hc0
  refine wp_seq ?_
  refine Za hS qB hB [4,1,0] [0] rfl rfl fun a w F hS=>Zb (wp_ret (Zf ?_))
  refine Zn hfr hS rfl rfl rfl (.bool hg)
 have hl:x.length=y.length:=by simp at hc0;omega
 refine wp_skip (Zb (wp_seq (wp_seq ?_)))
 refine Za hS (qM rfl rfl (qu Tryz.underlying41 r1 (qJ qZ))) hB [13,12,4,1,0] [0] rfl rfl fun a w F hS=>Zb (wp_block ?_)
 obtain ⟨F,hS⟩:=hS.nm [13,12,1,0] [0] rfl rfl
 refine ZQ (σ:=Nat) (fun s=>(⟨[(0,.pv (.sl rInt x)),(1,.pv (.sl rInt y)),(12,.pv (.int .i64 x.length)),(13,.pv (.int .i64 s))],[(0,frame B)]⟩:En)) (fun s=>s≤x.length ∧ ∀ j,j<s→Go.Gm.nth x j=Go.Gm.nth y j) (fun s=>x.length - s) 0 hS ⟨Nat.zero_le _,fun j hj=>absurd hj (Nat.not_lt_zero j)⟩ ?_
 clear hS;intro i a w F hC hS
 try dsimp only at hC
 try dsimp only at hS
 obtain ⟨hi,hq⟩:=hC
 refine wp_seq ?_
 refine Za hS (qL r2) hB [14,13,12,1,0] [0] rfl rfl fun a w F hS=>Zb (wp_seq ?_)
 refine Zd hS rfl (fun hc1=>?_) (fun hc1=>?_)
 ·skip
  have hil:i<x.length:=by simp at hc1;omega
  refine wp_skip (Zb (wp_seq (wp_block (wp_seq ?_))))
  refine Za hS (qM rfl rfl (qN rfl rfl qZ)) hB [13,12,5,1,0] [0] rfl rfl fun a w F hS=>Zb (wp_seq ?_)
  refine Zu hS (qM rfl rfl (qM rfl rfl (qy 1 Tryz.underlying41 r2 (qf (oR false 1 .t) r1 qz (qM rfl rfl (qM rfl rfl (qy 1 Tryz.underlying41 r2 (qf (oR false 1 .t) r1 qz (qf (o_neq .t .t) r2 qz qZ))))))))) hB [24,13,12,1,0] [0] rfl rfl fun a w F hS=>?_
  try dsimp only [List.map,xD,xE,xT,xU,ldSF] at hS
  refine Zb ?_
  refine Zd hS rfl (fun hc2=>?_) (fun hc2=>?_)
  ·skip
   have hg:false=decide (x=y):=by
     rw [eq_comm,decide_eq_false_iff_not]
     intro h
     subst h
     simp at hc2
   refine wp_seq ?_
   refine Za hS qB hB [13,12,4,1,0] [0] rfl rfl fun a w F hS=>Zb (wp_ret (Zk (Zf (Zf (Zk (Zf ?_))))))
   refine Zn hfr hS rfl rfl rfl (.bool hg)
  rw [Int.toNat_natCast] at hc2
  have hqi:Go.Gm.nth x i=Go.Gm.nth y i:=by simpa using hc2
  refine wp_skip (Zh (Zb ?_))
  refine Za hS (qp r1 (qM rfl rfl qZ)) hB [13,12,1,0] [0] rfl rfl fun a w F hS=>Zb ?_
  replace hS:=hS.ent (i:=13) (s':=.pv (.int .i64 ((i+1:Nat):Int))) rfl (.int (Ze (by omega)))
  obtain ⟨F,hS⟩:=hS.nm [13,12,1,0] [0] rfl rfl
  exact ⟨i+1,F,⟨by omega,fun j hj=>by rcases Nat.lt_or_eq_of_le (Nat.le_of_lt_succ hj) with h | h;exact hq j h;rw [h];exact hqi⟩,hS,by omega⟩
 have hg:true=decide (x=y):=by
   rw [eq_comm,decide_eq_true_eq]
   exact Zbi hl fun j hj=>hq j (by simp at hc1;omega)
 refine wp_exit (Zi (Zi (Zo (Zb (wp_seq ?_)))))
 refine Za hS qB hB [4] [0] rfl rfl fun a w F hS=>Zb (wp_ret ?_)
 refine Zn hfr hS rfl rfl rfl (.bool hg)
theorem Zml (x y:List Int) (hx:x.length≤1000000) (hy:y.length≤1000000):FnP Tryz.prog 46 [.sl rInt x,.sl rInt y] (.bool (decide (x.Perm y))):=by
 refine FnP.mk Tryz.func46 rfl Tryz.ntmps46 rfl ?_
 intro B a w F hB hfr hS
 refine wp_seq ?_
 refine Za hS qB hB [4,1,0] [0] rfl rfl fun a w F hS=>Zb (wp_seq ?_)
 replace hS:=hS.fresh 101 rfl
 replace hS:=hS.fresh 102 rfl
 refine Zc hS (qM rfl rfl (qf (Zby 101 (Zc1 x hx) Tryz.func82 rfl (by kernel_rfl) (Args.one .t) Za4) r1 r1 (qM rfl rfl (qf (Zby 102 (Zc1 y hy) Tryz.func82 rfl (by kernel_rfl) (Args.one .t) Za4) r1 r1 (qN rfl rfl (qN rfl rfl qZ)))))) hB [6,5,4] [102,101,0] (fun _=>rfl) (fun _=>rfl) fun τ a w F hS=>?_
 try dsimp only [RS.sub,SF.sub,CF.sub,csub,Anc.sub,List.map,rInt] at hS
 generalize τ 8=v8 at hS
 generalize τ 10=v10 at hS
 refine Zb (wp_seq ?_)
 refine Za hS (qM rfl rfl (qf (Zd0 101 (Zkq _ x hx) Tryz.func103 rfl (by kernel_rfl) (Args.one .t)) r1 r1 qZ)) hB [6,5,4] [102,101,0] rfl rfl fun a w F hS=>Zb (wp_seq ?_)
 refine Za hS (qM rfl rfl (qf (Zd0 102 (Zkq _ y hy) Tryz.func103 rfl (by kernel_rfl) (Args.one .t)) r1 r1 qZ)) hB [6,5,4] [102,101,0] rfl rfl fun a w F hS=>Zb (wp_seq ?_)
 refine Za hS (qM rfl rfl (qM rfl rfl (qf (OpC.lendRow 102 [16] (OpC.lendRow 101 [15] (oP (Zpi _ _) Tryz.func104 (Args.two .t .t)) ⟨rfl,trivial,trivial⟩ (.pv (fun _ _ _ _ h=>h)) trivial (by rfl)) ⟨trivial,rfl,trivial⟩ (.pv (fun _ _ _ _ h=>h)) trivial (by rfl)) r2 r2 (qN rfl rfl qZ)))) hB [4] [102,101,0] rfl rfl fun a w F hS=>Zb (wp_ret ?_)
 refine Zn hfr hS rfl rfl rfl (.bool (by rw [decide_eq_decide];exact ZlT))
theorem ZoD (x y:List OpD):FnP Tryz.prog 188 [.sl rOp x,.sl rOp y] (.bool (decide (x=y))):=by
 refine FnP.mk Tryz.func188 rfl Tryz.ntmps188 rfl ?_
 intro B a w F hB hfr hS
 have hxl:=Sat.lenSl hS (i:=0) rfl
 refine wp_seq ?_
 refine Za hS qB hB [4,1,0] [0] rfl rfl fun a w F hS=>Zb (wp_seq (wp_seq ?_))
 refine Za hS (qM rfl rfl (qu Tryz.underlying38 r1 (qM rfl rfl (qu Tryz.underlying38 r1 (qf (o_neq .t .t) r2 qz qZ))))) hB [10,4,1,0] [0] rfl rfl fun a w F hS=>Zb ?_
 refine Zd hS rfl (fun hc0=>?_) (fun hc0=>?_)
 ·skip
  have hg:false=decide (x=y):=by
    rw [eq_comm,decide_eq_false_iff_not]
    intro h
    subst h
    simp at hc0
  refine wp_seq ?_
  refine Za hS qB hB [4,1,0] [0] rfl rfl fun a w F hS=>Zb (wp_ret (Zf ?_))
  refine Zn hfr hS rfl rfl rfl (.bool hg)
 have hl:x.length=y.length:=by simp at hc0;omega
 refine wp_skip (Zb (wp_seq (wp_seq ?_)))
 refine Za hS (qM rfl rfl (qu Tryz.underlying38 r1 (qJ qZ))) hB [13,12,4,1,0] [0] rfl rfl fun a w F hS=>Zb (wp_block ?_)
 obtain ⟨F,hS⟩:=hS.nm [13,12,1,0] [0] rfl rfl
 refine ZQ (σ:=Nat) (fun s=>(⟨[(0,.pv (.sl rOp x)),(1,.pv (.sl rOp y)),(12,.pv (.int .i64 x.length)),(13,.pv (.int .i64 s))],[(0,frame B)]⟩:En)) (fun s=>s≤x.length ∧ ∀ j,j<s→Go.Gm.nth x j=Go.Gm.nth y j) (fun s=>x.length - s) 0 hS ⟨Nat.zero_le _,fun j hj=>absurd hj (Nat.not_lt_zero j)⟩ ?_
 clear hS;intro i a w F hC hS
 try dsimp only at hC
 try dsimp only at hS
 obtain ⟨hi,hq⟩:=hC
 refine wp_seq ?_
 refine Za hS (qL r2) hB [14,13,12,1,0] [0] rfl rfl fun a w F hS=>Zb (wp_seq ?_)
 refine Zd hS rfl (fun hc1=>?_) (fun hc1=>?_)
 ·skip
  have hil:i<x.length:=by simp at hc1;omega
  refine wp_skip (Zb (wp_seq (wp_block (wp_seq ?_))))
  refine Za hS (qM rfl rfl (qN rfl rfl qZ)) hB [13,12,5,1,0] [0] rfl rfl fun a w F hS=>Zb (wp_seq ?_)
  refine Zu hS (qM rfl rfl (qM rfl rfl (qy 4 Tryz.underlying38 r2 (qf (oR true 4 .t) r1 qz (qM rfl rfl (qM rfl rfl (qy 4 Tryz.underlying38 r2 (qf (oR true 4 .t) r1 qz (qf (Zl6 (ks:=[false,true,true,true]) (by kernel_rfl) .t .t (.bool (.int (.int (.int .nil))))) r2 qz qZ))))))))) hB [24,13,12,1,0] [0] rfl rfl fun a w F hS=>?_
  try dsimp only [List.map,xD,xE,xT,xU,ldSF] at hS
  refine Zb ?_
  refine Zd hS rfl (fun hc2=>?_) (fun hc2=>?_)
  ·skip
   have hg:false=decide (x=y):=by
     rw [eq_comm,decide_eq_false_iff_not]
     intro h
     subst h
     simp at hc2
   refine wp_seq ?_
   refine Za hS qB hB [13,12,4,1,0] [0] rfl rfl fun a w F hS=>Zb (wp_ret (Zk (Zf (Zf (Zk (Zf ?_))))))
   refine Zn hfr hS rfl rfl rfl (.bool hg)
  rw [Int.toNat_natCast] at hc2
  have hqi:Go.Gm.nth x i=Go.Gm.nth y i:=Zoo hc2
  refine wp_skip (Zh (Zb ?_))
  refine Za hS (qp r1 (qM rfl rfl qZ)) hB [13,12,1,0] [0] rfl rfl fun a w F hS=>Zb ?_
  replace hS:=hS.ent (i:=13) (s':=.pv (.int .i64 ((i+1:Nat):Int))) rfl (.int (Ze (by omega)))
  obtain ⟨F,hS⟩:=hS.nm [13,12,1,0] [0] rfl rfl
  exact ⟨i+1,F,⟨by omega,fun j hj=>by rcases Nat.lt_or_eq_of_le (Nat.le_of_lt_succ hj) with h | h;exact hq j h;rw [h];exact hqi⟩,hS,by omega⟩
 have hg:true=decide (x=y):=by
   rw [eq_comm,decide_eq_true_eq]
   exact Zbi hl fun j hj=>hq j (by simp at hc1;omega)
 refine wp_exit (Zi (Zi (Zo (Zb (wp_seq ?_)))))
 refine Za hS qB hB [4] [0] rfl rfl fun a w F hS=>Zb (wp_ret ?_)
 refine Zn hfr hS rfl rfl rfl (.bool hg)
theorem ZnB (x y:List OpD):FnP Tryz.prog 142 [.sl rOp x,.sl rOp y] (.bool (decide (x=y))):=by
 refine FnP.mk Tryz.func142 rfl Tryz.ntmps142 rfl ?_
 intro B a w F hB hfr hS
 refine wp_seq ?_
 refine Za hS qB hB [4,1,0] [0] rfl rfl fun a w F hS=>Zb (wp_seq ?_)
 refine Za hS (qM rfl rfl (qM rfl rfl (qf (oP (ZoD x y) Tryz.func188 (Args.two .t .t)) r2 qz (qN rfl rfl qZ)))) hB [4] [0] rfl rfl fun a w F hS=>Zb (wp_ret ?_)
 refine Zn hfr hS rfl rfl rfl .refl
def ZpJ (w:List UInt8):Prop:=w≠[] ∧ ∀ k,k<w.length→32<(nth w k).toNat∧(nth w k).toNat<127
structure CmdD where
 kind:Int
 tx:TxD
 order:OrdD
 key:Int
 id:Int
 place:Int
 phen:Int
 deriving DecidableEq,Inhabited
structure Zp1 where
 s:List UInt8
 least:Int
 most:Int
def rCmd (c:CmdD):List PV:=[.int .i64 c.kind,.int .i64 c.tx.id,.bool c.tx.done,.sl rOp c.tx.ops,.int .i64 c.order.key,.sl rInt c.order.txs,.int .i64 c.key,.int .i64 c.id,.int .i64 c.place,.int .i64 c.phen]
def rWd (d:Zp1):List PV:=[.bs d.s,.int .i64 d.least,.int .i64 d.most]
def zeroT:TxD:=⟨0,false,[]⟩
def zeroC (k:Int):CmdD:=⟨k,zeroT,⟨0,[]⟩,0,0,0,0⟩
def ZqG:List UInt8:=[97,100,100]
def ZqE:List UInt8:=[115,101,116]
def ZqF:List UInt8:=[100,101,108]
def ZqH:List UInt8:=[111,114,100]
def ZqL:List UInt8:=[109,111,118]
def Zqv:List UInt8:=[117,110,100,111]
def Zqw:List UInt8:=[114,101,100,111]
def ZqI:List UInt8:=[97,115,107]
def ZqJ:List UInt8:=[119,104,121]
def Zqc:List UInt8:=[116,101,108,108]
def Zp9:List UInt8:=[115,105,122,101]
def Zqe:List UInt8:=[100,117,109,112]
def ZO (k:Int):Zp1:=
 if k=1 then ⟨ZqG,3,1073741824⟩ else if k=2 then ⟨ZqE,3,1073741824⟩ else if k=3 then ⟨ZqF,2,2⟩ else if k=4 then ⟨ZqH,2,1073741824⟩
 else if k=5 then ⟨ZqL,4,4⟩ else if k=6 then ⟨Zqv,1,1⟩ else if k=7 then ⟨Zqw,1,1⟩ else if k=8 then ⟨ZqI,1,1⟩
 else if k=9 then ⟨ZqJ,2,2⟩ else if k=10 then ⟨Zqc,2,2⟩ else if k=11 then ⟨Zp9,1,1⟩ else if k=12 then ⟨Zqe,1,1⟩ else ⟨[],0,0⟩
def ZnQ (w:List UInt8):Nat→Nat→Int
 | _,0=>0
 | i,n+1=>if (ZO (i:Int)).s=w then (i:Int) else ZnQ w (i+1) n
def Za1 (p:Int):List UInt8:=if p=1 then [103,48] else if p=2 then [103,49,97] else if p=3 then [103,49,98] else if p=4 then [103,49,99] else if p=5 then [103,50] else []
def Zi1 (p:Int):List UInt8:=if p=1 then [71,48] else if p=2 then [71,49,97] else if p=3 then [71,49,98] else if p=4 then [71,49,99] else if p=5 then [71,50,45,105,116,101,109] else []
def Zj3 (w:List UInt8):Nat→Nat→Int
 | _,0=>0
 | i,n+1=>if Za1 (i:Int)=w then (i:Int) else Zj3 w (i+1) n
def Zqi (w:List UInt8):Int:=Zj3 w 1 5
def usedR (c:CmdD):CmdD:=
 if c.kind=1∨c.kind=2 then {zeroC c.kind with tx:=c.tx} else if c.kind=3∨c.kind=10 then {zeroC c.kind with id:=c.id} else if c.kind=4 then {zeroC c.kind with order:=c.order}
 else if c.kind=5 then {zeroC c.kind with key:=c.key,id:=c.id,place:=c.place} else if c.kind=9 then {zeroC c.kind with phen:=c.phen} else zeroC c.kind
def Zfs (n:Int):Bool:=decide (0≤n) && decide (n≤2147483647)
def Za7 (c:CmdD):List Int:=[c.tx.id,c.id,c.order.key,c.key,c.place] ++ c.order.txs
def Zi5 (c:CmdD):Prop:=(ZO c.kind).s≠[]∧c=usedR c∧c.tx.ops.length≤4095∧¬ (c.kind=9∧Za1 c.phen = [])
instance (c:CmdD):Decidable (Zi5 c):=by unfold Zi5;exact inferInstance
def Zaj (c:CmdD):Bool:=decide (Zi5 c) && ((Za7 c).all Zfs && c.tx.ops.all Z0)
def Zc3 (l:List OpD):List UInt8:=l.flatMap fun o=>32 :: Zay o
def Za3 (t:TxD):List UInt8:=textL t.id++(if t.done=true then [32,99] else [32,97])
def ZcI (t:TxD):List UInt8:=Za3 t++Zc3 t.ops
def Zah (c:CmdD):List (List UInt8):=
 if c.kind=1∨c.kind=2 then [ZcI c.tx] else if c.kind=3∨c.kind=10 then [textL c.id] else if c.kind=4 then [ZbQ (c.order.key :: c.order.txs)]
 else if c.kind=5 then [ZbQ [c.key,c.id,c.place]] else if c.kind=9 then [Za1 c.phen] else []
def ZaN (c:CmdD):List UInt8:=if Zaj c=false then [] else Zau ((ZO c.kind).s :: Zah c)
theorem Zo7 (u v:CmdD):(((((((decide (u.kind=v.kind) && decide (u.tx=v.tx)) && decide (u.order.key=v.order.key)) && decide (u.order.txs=v.order.txs)) && decide (u.key=v.key)) && decide (u.id=v.id)) && decide (u.place=v.place)) && decide (u.phen=v.phen))=decide (u=v):=by
 obtain ⟨a1,a2,⟨a3,a4⟩,a5,a6,a7,a8⟩:=u
 obtain ⟨b1,b2,⟨b3,b4⟩,b5,b6,b7,b8⟩:=v
 rw [Bool.eq_iff_iff]
 simp [and_assoc]
theorem kinds {k:Int} (h:1≤k∧k≤12):k=1∨k=2∨k=3∨k=4∨k=5∨k=6∨k=7∨k=8∨k=9∨k=10∨k=11∨k=12:=by omega
theorem Zf2 {k:Int} (h:(ZO k).s≠[]):1≤k∧k≤12:=by
 rcases Classical.em (1≤k∧k≤12) with hk | hk
 · exact hk
 · exfalso
   apply h
   unfold ZO
   rw [if_neg (by omega),if_neg (by omega),if_neg (by omega),if_neg (by omega),if_neg (by omega),if_neg (by omega),if_neg (by omega),if_neg (by omega),if_neg (by omega),if_neg (by omega),if_neg (by omega),if_neg (by omega)]
theorem ZiH {p:Int} (h:Za1 p≠[]):(1≤p∧p≤5)∧Zqi (Za1 p)=p:=by
 have hp:1≤p∧p≤5:=by
   rcases Classical.em (1≤p∧p≤5) with hk | hk
   · exact hk
   · exfalso
     apply h
     unfold Za1
     rw [if_neg (by omega),if_neg (by omega),if_neg (by omega),if_neg (by omega),if_neg (by omega)]
 refine ⟨hp,?_⟩
 have:p=1∨p=2∨p=3∨p=4∨p=5:=by omega
 rcases this with rfl | rfl | rfl | rfl | rfl <;> decide +kernel
theorem ZcY:∀ l:List OpD,(Zc3 l).length≤101*l.length
 | []=>by simp [Zc3]
 | o :: l=>by
   have h1:=ZcY l
   have h2:(Zay o).length≤100:=by
     by_cases hk:Z0 o=true
     · exact Zil hk
     · unfold Zay;rw [if_pos (by simpa using hk)];simp
   unfold Zc3 at h1 ⊢
   rw [List.flatMap_cons,List.length_append,List.length_cons,List.length_cons,Nat.mul_add]
   omega
theorem ZdO {l:List OpD} {i:Nat} (h:i<l.length):Zc3 (l.take (i+1))=Zc3 (l.take i)++32 :: Zay (nth l i):=by
 unfold Zc3
 rw [List.take_succ_eq_append_getElem h,List.flatMap_append,Zq h]
 simp
theorem Zhd {n:Int} : Zfs n=true ↔ 0≤n∧n≤2147483647:=by unfold Zfs;rw [Bool.and_eq_true,decide_eq_true_eq,decide_eq_true_eq]
def ZaX (l:List TxD):Prop:=l.length≤1000 ∧ ∀ t ∈ l,t.ops.length≤1000
def Zbq (l:List OrdD):Prop:=l.length≤1000 ∧ ∀ o ∈ l,o.txs.length≤1000
def ZaR (h:HistD):Prop:=ZaX h.txs∧Zbq h.orders
theorem ZaX.at {l:List TxD} (h:ZaX l) {i:Nat} (hi:i<l.length):(Go.Gm.nth l i).ops.length≤1000:=h.2 _ (ZP hi)
theorem Zbq.at {l:List OrdD} (h:Zbq l) {i:Nat} (hi:i<l.length):(Go.Gm.nth l i).txs.length≤1000:=h.2 _ (ZP hi)
def ZaW (l:List TxD) (id:Int):Option TxD:=l.find? fun t=>decide (t.id=id)
theorem Zkn {l:List TxD} {id:Int} {i:Nat} (hi:i<l.length) (h:(Go.Gm.nth l i).id=id) (hq:∀ k,k<i→(Go.Gm.nth l k).id≠id):ZaW l id=some (Go.Gm.nth l i):=by
 unfold ZaW
 rw [List.find?_eq_some_iff_getElem]
 refine ⟨by simpa using h,i,hi,(Zq hi).symm,fun j hj=>?_⟩
 have:=hq j hj
 rw [Zq (by omega)] at this
 simpa using this
theorem Zgk {l:List TxD} {id:Int} (hq:∀ k,k<l.length→(Go.Gm.nth l k).id≠id):ZaW l id=none:=by
 unfold ZaW
 rw [List.find?_eq_none]
 intro x hx
 obtain ⟨k,hk,e⟩:=List.getElem_of_mem hx
 have:=hq k hk
 rw [Zq hk,e] at this
 simpa using this
theorem findT_mem {l:List TxD} {id:Int} {t:TxD} (h:ZaW l id=some t):t ∈ l∧t.id=id:=⟨List.mem_of_find?_eq_some h,by have:=List.find?_some h;simpa using this⟩
def ZeS (h:HistD) (v:ZbP):Bool:=if v.tx=0∧v.nth=0 then decide (1≤v.key∧v.key≤1048575) else (ZaW h.txs v.tx).isSome && (decide (1≤v.nth) && decide (v.nth≤(wcnt ((ZaW h.txs v.tx).getD zeroT).ops v.key:Int)))
def ZaH (h:HistD) (t:TxD):Bool:=(ZV t).all (ZeS h)
theorem Zjm {h:HistD} {t:TxD} (hq:∀ k,k<(ZV t).length→ZeS h (Go.Gm.nth (ZV t) k)=true):ZaH h t=true:=by
 unfold ZaH
 rw [List.all_eq_true]
 intro x hx
 obtain ⟨k,hk,e⟩:=List.getElem_of_mem hx
 have:=hq k hk
 rwa [Zq hk,e] at this
theorem Zis {h:HistD} {t:TxD} {i:Nat} (hi:i<(ZV t).length) (hn:ZeS h (Go.Gm.nth (ZV t) i)=false):ZaH h t=false:=by
 unfold ZaH
 rw [List.all_eq_false]
 exact ⟨_,ZP hi,by simp [hn]⟩
def ZJ (t:TxD):List Int:=ZaO ((t.ops.filter fun o=>!o.read).map OpD.key)
theorem Zb2 {t:TxD} {k:Int} : k ∈ ZJ t ↔ 0<wcnt t.ops k:=by
 unfold ZJ
 rw [(ZaF _).2,List.mem_map]
 unfold wcnt
 rw [List.length_pos_iff_exists_mem]
 constructor
 · rintro ⟨o,ho,e⟩
   rw [List.mem_filter] at ho
   exact ⟨o,by rw [List.mem_filter];exact ⟨ho.1,by simp [e];simpa using ho.2⟩⟩
 · rintro ⟨o,ho⟩
   rw [List.mem_filter] at ho
   simp at ho
   exact ⟨o,by rw [List.mem_filter];simp [ho.1,ho.2.1],ho.2.2⟩
theorem ZbG (t:TxD):(ZJ t).length≤t.ops.length:=Nat.le_trans (Zcv _) (by rw [List.length_map];exact List.length_filter_le _ _)
def ZU (l:List TxD) (k:Int):List Int:=(l.filter fun t=>t.done && decide (0<wcnt t.ops k)).map TxD.id
theorem Zbh (l:List TxD) (k:Int):(ZU l k).length≤l.length:=by unfold ZU;rw [List.length_map];exact List.length_filter_le _ _
theorem Zbt {l:List TxD} {i:Nat} (hi:i<l.length) (k:Int):ZU (l.take (i+1)) k=ZU (l.take i) k++if (Go.Gm.nth l i).done=true∧0<wcnt (Go.Gm.nth l i).ops k then [(Go.Gm.nth l i).id] else []:=by
 unfold ZU
 rw [Zt hi,List.filter_append,List.map_append]
 congr 1
 by_cases h:(Go.Gm.nth l i).done=true∧0<wcnt (Go.Gm.nth l i).ops k
 · rw [if_pos h,List.filter_cons_of_pos (by simp [h.1,h.2])];rfl
 · rw [if_neg h,List.filter_cons_of_neg (by simp;intro e;exact Nat.eq_zero_of_not_pos fun e2=>h ⟨e,e2⟩)];rfl
def Zaw (l:List TxD):List Int:=ZaO ((l.filter fun t=>t.done).flatMap ZJ)
theorem Zgj {l:List TxD} {i:Nat} (hi:i<l.length):Zaw (l.take (i+1))=if (Go.Gm.nth l i).done=true then (ZJ (Go.Gm.nth l i)).foldl ZbY (Zaw (l.take i)) else Zaw (l.take i):=by
 unfold Zaw
 rw [Zt hi,List.filter_append,List.flatMap_append]
 split
 · rename_i h
   rw [List.filter_cons_of_pos (by simpa using h)]
   unfold ZaO
   rw [List.foldl_append]
   simp
 · rename_i h
   rw [List.filter_cons_of_neg (by simpa using h)]
   simp
theorem Zku {l:List TxD} (h:ZaX l) (i:Nat):(Zaw (l.take i)).length≤1000*i:=by
 unfold Zaw
 refine Nat.le_trans (Zcv _) ?_
 have key:∀ l:List TxD,(∀ t ∈ l,t.ops.length≤1000)→((l.filter fun t=>t.done).flatMap ZJ).length≤1000*l.length:=by
   intro l
   induction l with
   | nil=>intro _;simp
   | cons t l ih=>
     intro h
     have h1:=ih fun x hx=>h x (by simp [hx])
     have h2:=h t (by simp)
     have h3:=ZbG t
     by_cases hd:t.done=true
     · rw [List.filter_cons_of_pos (by simpa using hd),List.flatMap_cons,List.length_append,List.length_cons]
       omega
     · rw [List.filter_cons_of_neg (by simpa using hd),List.length_cons]
       omega
 have h1:=key (l.take i) fun t ht=>h.2 t (List.mem_of_mem_take ht)
 have h2:(l.take i).length≤i:=by rw [List.length_take];omega
 exact Nat.le_trans h1 (Nat.mul_le_mul_left _ h2)
theorem Zh8 {l:List TxD} (h:ZaX l):(Zaw l).length≤1000000:=by
 have h1:=Zku h l.length
 rw [List.take_length] at h1
 have:=h.1
 omega
theorem ZcE (a:List Int):∀ b:List Int,(b.foldl ZbY a).length≤a.length+b.length:=by
 intro b
 induction b generalizing a with
 | nil=>simp
 | cons x b ih=>
   have h1:=ih (ZbY a x)
   have h2:(ZbY a x).length≤a.length+1:=Zdw a false
   rw [List.foldl_cons,List.length_cons];omega
theorem ZcD {l:List TxD} {k:Int} : k ∈ Zaw l ↔ ZU l k≠[]:=by
 unfold Zaw
 rw [(ZaF _).2,List.mem_flatMap]
 unfold ZU
 rw [ne_eq,List.map_eq_nil_iff,List.filter_eq_nil_iff]
 constructor
 · rintro ⟨t,ht,hk⟩ hn
   rw [List.mem_filter] at ht
   have:=hn t ht.1
   simp [ht.2] at this
   have:=Zb2.1 hk
   simp_all
 · intro hn
   simp only [Classical.not_forall] at hn
   obtain ⟨t,ht,h2⟩:=hn
   simp at h2
   exact ⟨t,by rw [List.mem_filter];exact ⟨ht,by simpa using h2.1⟩,Zb2.2 (Nat.pos_of_ne_zero h2.2)⟩
def ZjP (h:HistD) (i:Nat):Prop:=(0<i→(Go.Gm.nth h.txs (i - 1)).id<(Go.Gm.nth h.txs i).id)∧ZT (Go.Gm.nth h.txs i)=0∧ZaH h (Go.Gm.nth h.txs i)=true
instance (h:HistD) (i:Nat):Decidable (ZjP h i):=by unfold ZjP;exact inferInstance
def ZgX (h:HistD) (i:Nat):Prop:=(Go.Gm.nth h.orders i).key=Go.Gm.nth (Zaw h.txs) i∧(Go.Gm.nth h.orders i).txs.Perm (ZU h.txs (Go.Gm.nth h.orders i).key)
instance (h:HistD) (i:Nat):Decidable (ZgX h i):=by unfold ZgX;exact inferInstance
def ZB (h:HistD):Prop:=h.txs.length≤4096∧(∀ i,i<h.txs.length→ZjP h i)∧h.orders.length=(Zaw h.txs).length ∧ ∀ i,i<h.orders.length→ZgX h i
instance (h:HistD):Decidable (ZB h):=by unfold ZB;exact inferInstance
def Ze0 (h:HistD) (i:Nat):Prop:=(0<i→(Go.Gm.nth h.orders (i - 1)).key<(Go.Gm.nth h.orders i).key)∧(Go.Gm.nth h.orders i).txs≠[]∧(Go.Gm.nth h.orders i).txs.Perm (ZU h.txs (Go.Gm.nth h.orders i).key)
theorem ZgQ:∀ {l:List Int},(∀ i,i<l.length→0<i→Go.Gm.nth l (i - 1)<Go.Gm.nth l i)→Zht l
 | [],_=>List.Pairwise.nil
 | [x],_=>by simp
 | x :: y :: l,h=>by
   have ih:=ZgQ (l:=y :: l) fun i hi h0=>by
     have:=h (i+1) (by simpa using hi) (by omega)
     obtain ⟨j,rfl⟩:∃ j,i=j+1:=⟨i - 1,by omega⟩
     have hj:j<l.length:=by simpa using hi
     rw [Zq (l:=x :: y :: l) (by simp;omega),Zq (l:=x :: y :: l) (by simp;omega)] at this
     rw [Zq (l:=y :: l) (by simp;omega),Zq (l:=y :: l) (by simp;omega)]
     exact this
   have h1:=h 1 (by simp) (by omega)
   rw [Zq (by simp),Zq (by simp)] at h1
   simp at h1
   have ih2:=List.pairwise_cons.1 ih
   refine List.pairwise_cons.2 ⟨fun z hz=>?_,ih⟩
   rcases List.mem_cons.1 hz with rfl | hz
   · exact h1
   · have:=ih2.1 z hz;omega
theorem ZoQ {l:List Int} (h:Zht l) {i:Nat} (hi:i<l.length) (h0:0<i):Go.Gm.nth l (i - 1)<Go.Gm.nth l i:=by
 rw [Zq hi,Zq (by omega)]
 exact List.pairwise_iff_getElem.1 h (i - 1) i (by omega) hi (by omega)
theorem ZfF:∀ {b a:List Int},Zht a→Zht b→(∀ x ∈ a,x ∈ b)→a.length≤b.length∧(a.length=b.length→a=b)
 | [],a,_,_,h=>by
   have:a = []:=List.eq_nil_iff_forall_not_mem.2 fun x hx=>by cases h x hx
   subst this;simp
 | y :: b,[],_,_,_=>⟨by simp,fun h=>by simp at h⟩
 | y :: b,x :: a,ha,hb,h=>by
   have ha':=List.pairwise_cons.1 ha
   have hb':=List.pairwise_cons.1 hb
   by_cases e:x=y
   · subst e
     have ih:=ZfF (b:=b) (a:=a) ha'.2 hb'.2 fun z hz=>by
       rcases List.mem_cons.1 (h z (by simp [hz])) with e | e
       · have:=ha'.1 z hz;omega
       · exact e
     exact ⟨by simp;exact ih.1,fun hl=>by rw [ih.2 (by simpa using hl)]⟩
   · have hx:y<x:=by
       rcases List.mem_cons.1 (h x (by simp)) with e2 | e2
       · exact absurd e2 e
       · exact hb'.1 x e2
     have ih:=ZfF (b:=b) (a:=x :: a) ha hb'.2 fun z hz=>by
       rcases List.mem_cons.1 (h z hz) with e2 | e2
       · rcases List.mem_cons.1 hz with e3 | e3
         · omega
         · have:=ha'.1 z e3;omega
       · exact e2
     exact ⟨by have:=ih.1;simp at this ⊢;omega,fun hl=>by have:=ih.1;simp at this hl;omega⟩
theorem ZbL {α β:Type} [Inhabited α] [Inhabited β] {f:α→β} {l:List α} {i:Nat} (h:i<l.length):Go.Gm.nth (l.map f) i=f (Go.Gm.nth l i):=by
 rw [Zq (by simpa using h),Zq h];simp
theorem ZcR (h:HistD):(h.orders.length=(Zaw h.txs).length ∧ ∀ i,i<h.orders.length→Ze0 h i) ↔ (h.orders.length=(Zaw h.txs).length ∧ ∀ i,i<h.orders.length→ZgX h i):=by
 have hK:Zht (Zaw h.txs):=(ZaF _).1
 constructor
 · rintro ⟨hl,hq⟩
   refine ⟨hl,?_⟩
   have hO:Zht (h.orders.map OrdD.key):=ZgQ fun i hi h0=>by
     have hi':i<h.orders.length:=by simpa using hi
     rw [ZbL (by omega),ZbL hi']
     exact (hq i hi').1 h0
   have hsub:∀ x ∈ h.orders.map OrdD.key,x ∈ Zaw h.txs:=fun x hx=>by
     obtain ⟨o,ho,rfl⟩:=List.mem_map.1 hx
     obtain ⟨k,hk,e⟩:=List.getElem_of_mem ho
     have:=hq k hk
     unfold Ze0 at this
     rw [Zq hk,e] at this
     rw [ZcD]
     intro e2
     rw [e2] at this
     exact this.2.1 (List.Perm.eq_nil this.2.2)
   have he:=(ZfF hO hK hsub).2 (by simpa using hl)
   intro i hi
   refine ⟨?_,(hq i hi).2.2⟩
   rw [← he,ZbL hi]
 · rintro ⟨hl,hq⟩
   refine ⟨hl,fun i hi=>?_⟩
   have hin:(Go.Gm.nth h.orders i).key ∈ Zaw h.txs:=by rw [(hq i hi).1];exact ZP (by omega)
   refine ⟨fun h0=>?_,fun e=>?_,(hq i hi).2⟩
   · rw [(hq i hi).1,(hq (i - 1) (by omega)).1]
     exact ZoQ hK (by omega) h0
   · have:=(hq i hi).2
     rw [e] at this
     exact ZcD.1 hin this.symm.eq_nil
theorem Zdb {h:HistD} (hb:4096<h.txs.length):false=decide (ZB h):=(decide_eq_false fun hr=>by have:=hr.1;omega).symm
theorem Zew {h:HistD} {i:Nat} (hi:i<h.txs.length) (hb:¬ ZjP h i):false=decide (ZB h):=(decide_eq_false fun hr=>hb (hr.2.1 i hi)).symm
theorem ZdQ {h:HistD} (hb:h.orders.length≠(Zaw h.txs).length):false=decide (ZB h):=(decide_eq_false fun hr=>hb hr.2.2.1).symm
theorem ZgN {h:HistD} {i:Nat} (hi:i<h.orders.length) (hb:¬ ZgX h i):false=decide (ZB h):=(decide_eq_false fun hr=>hb (hr.2.2.2 i hi)).symm
theorem Zgb {h:HistD} {i:Nat} (hi:i<h.orders.length) (hb:¬ Ze0 h i):false=decide (ZB h):=(decide_eq_false fun hr=>hb (((ZcR h).2 hr.2.2).2 i hi)).symm
theorem Zld {h:HistD} (h1:h.txs.length≤4096) (h2:∀ i,i<h.txs.length→ZjP h i) (h3:h.orders.length=(Zaw h.txs).length) (h4:∀ i,i<h.orders.length→ZgX h i):true=decide (ZB h):=(decide_eq_true ⟨h1,h2,h3,h4⟩).symm
theorem Zi8 {h:HistD} (h1:h.txs.length≤4096) (h2:∀ i,i<h.txs.length→ZjP h i) (h3:h.orders.length=(Zaw h.txs).length) (h4:∀ i,i<h.orders.length→Ze0 h i):true=decide (ZB h):=(decide_eq_true ⟨h1,h2,(ZcR h).1 ⟨h3,h4⟩⟩).symm
def Zpe (l:List Int):Option (List Int):=if l = [] then none else some l
theorem ZjD (l:List Int):(Zpe l).getD [] = l:=by
 unfold Zpe
 split
 · rename_i h;rw [h];rfl
 · rfl
def WrL (es:List (GE Int (List Int))) (l:List TxD):Prop:=GNd es ∧ ∀ k,gGet k es=Zpe (ZU l k)
def WrV (es:List (GE Int (Value×List Int))) (l:List TxD) (id:Int) (ks:List Int):Prop:=GNd es ∧ ∀ k,(gGet k es).map (·.2)=Zpe (ZU l k++if k ∈ ks then [id] else [])
theorem ZoH {id:Int} : WrV [] [] id []:=⟨by simp [GNd],fun k=>by simp [gGet,ZU,Zpe]⟩
theorem ZnI {es:List (GE Int (Value×List Int))} {l:List TxD} {id:Int} (h:WrV es l id []):WrL (Zeu es) l:=⟨by unfold GNd;rw [ZiX];exact h.1,fun k=>by rw [Zgi,h.2];simp⟩
theorem Znm {es:List (GE Int (Value×List Int))} {l:List TxD} {id id':Int} (h:WrV es l id []):WrV es l id' []:=⟨h.1,fun k=>by rw [h.2];simp⟩
theorem Zpv {es:List (GE Int (Value×List Int))} {l:List TxD} {i:Nat} {id:Int} (h:WrV es (l.take i) id []) (hi:i<l.length) (hd:(Go.Gm.nth l i).done=false):WrV es (l.take (i+1)) id []:=⟨h.1,fun k=>by rw [h.2,Zbt hi];simp [hd]⟩
theorem Zps {es:List (GE Int (Value×List Int))} {l:List TxD} {i:Nat} {id:Int} (h:WrV es (l.take i) (Go.Gm.nth l i).id (ZJ (Go.Gm.nth l i))) (hi:i<l.length) (hd:(Go.Gm.nth l i).done=true):WrV es (l.take (i+1)) id []:=⟨h.1,fun k=>by
 rw [h.2,Zbt hi]
 congr 1
 simp only [List.not_mem_nil,if_false,List.append_nil]
 congr 1
 by_cases hk:k ∈ ZJ (Go.Gm.nth l i)
 · rw [if_pos hk,if_pos ⟨hd,Zb2.1 hk⟩]
 · rw [if_neg hk,if_neg fun h9=>hk (Zb2.2 h9.2)]⟩
theorem Zoe {es:List (GE Int (Value×List Int))} {l:List TxD} {id:Int} {ks:List Int} {j:Nat} (h:WrV es l id (ks.take j)) (hn:ks.Nodup) (hj:j<ks.length):((gGet (Go.Gm.nth ks j) es).getD Zhl).2=ZU l (Go.Gm.nth ks j):=by
 have h1:=h.2 (Go.Gm.nth ks j)
 have hni:Go.Gm.nth ks j ∉ ks.take j:=fun hm=>by
   rw [Zq hj] at hm
   obtain ⟨k,hk,e⟩:=List.getElem_of_mem hm
   rw [List.length_take] at hk
   rw [List.getElem_take] at e
   have h3:=List.pairwise_iff_getElem.1 hn k j (by omega) hj (by omega)
   exact h3 e
 rw [if_neg hni,List.append_nil] at h1
 have h2:=ZjD (ZU l (Go.Gm.nth ks j))
 rw [← h1] at h2
 rw [← h2]
 cases gGet (Go.Gm.nth ks j) es <;> rfl
theorem ZoI {es:List (GE Int (Value×List Int))} {l:List TxD} {id:Int} {ks:List Int} {j ck:Nat} {v:Value} (h:WrV es l id (ks.take j)) (hn:ks.Nodup) (hj:j<ks.length):WrV (gPut (Go.Gm.nth ks j) (v,((gGet (Go.Gm.nth ks j) es).getD Zhl).2 ++ [id]) (es,ck)).1 l id (ks.take (j+1)):=⟨GNd.put h.1,fun k=>by
 rw [Zj2,Zoe h hn hj,Zt hj]
 by_cases e:k=Go.Gm.nth ks j
 · subst e
   rw [if_pos rfl,if_pos (by simp)]
   simp [Zpe]
 · rw [if_neg e,h.2]
   simp [e]⟩
theorem ZpA {es:List (GE Int (List Int))} {l:List TxD} (h:WrL es l) (k:Int):(gGet k es).getD [] = ZU l k:=by rw [h.2,ZjD]
theorem ZpW {es:List (GE Int (List Int))} {l:List TxD} (h:WrL es l):es.length=(Zaw l).length:=by
 have h1:(es.map (·.key)).Perm (Zaw l):=by
   refine (List.perm_ext_iff_of_nodup h.1 ((ZaF _).1.imp fun h=>Int.ne_of_lt h)).2 fun k=>?_
   rw [← ZgT,h.2,show (k ∈ ZaO ((l.filter fun t=>t.done).flatMap ZJ)) ↔ ZU l k≠[] from ZcD]
   unfold Zpe
   split <;> simp_all
 simpa using h1.length_eq
theorem Zff (t:TxD):(ZJ t).Nodup:=(ZaF _).1.imp fun h=>Int.ne_of_lt h
theorem Zii {α:Type} {R:α→List PV} {w:World} {y:Ys} : (PV.sl R ([]:List α)).p (.slice none 0 0) w y:=⟨none,0,rfl,Nat.le_refl _,by unfold maxLen;omega,.inl rfl⟩
end Go.Proofs.YtjhapicamnijnaaGreat
