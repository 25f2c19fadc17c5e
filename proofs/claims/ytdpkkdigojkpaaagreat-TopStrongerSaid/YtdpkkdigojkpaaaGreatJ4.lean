/- Texts put together. No condition beyond those that each theorem says. -/
import Derived.Test.YtdpkkdigojkpaaaGreatJ3
import Derived.Test.YtdpkkdigojkpaaaGreatJ1
import Derived.Test.YtdpkkdigojkpaaaGreatJ0
import Derived.Test.YtdpkkdigojkpaaaGreatJ2
import Derived.Test.YtdpkkdigojkpaaaGreatLibP
namespace Go.Proofs.YtdpkkdigojkpaaaGreat
open Go Go.Gm
set_option linter.unusedVariables false
set_option linter.unusedSimpArgs false
set_option maxHeartbeats 4000000
set_option maxRecDepth 8000
def Zef (os:List OrdD) (k:Int):List OrdD:=if isK OrdD.key k os=true then os else os.take (lowK OrdD.key k os) ++ [⟨k,[]⟩] ++ os.drop (lowK OrdD.key k os)
def Zin (k:Int):List OrdD→List OrdD
 | []=>[⟨k,[]⟩]
 | o :: os=>if o.key<k then o :: Zin k os else if o.key=k then o :: os else ⟨k,[]⟩ :: o :: os
theorem ZgP {α:Type} {κ:α→Int} {k:Int} (l:List α):lowK κ k l≤l.length:=by
 unfold lowK
 exact (List.takeWhile_sublist _).length_le
theorem ZE {α:Type} [Inhabited α] {κ:α→Int} {l:List α} : Zb8 κ l ↔ l.Pairwise fun a b=>κ a<κ b:=by
 rw [List.pairwise_iff_getElem]
 constructor
 · intro h i j hi hj hij
   have:=h i j hij hj
   rwa [nth_eq hi,nth_eq hj] at this
 · intro h a b hab hb
   rw [nth_eq (by omega),nth_eq hb]
   exact h a b (by omega) hb hab
theorem ZgE (k:Int):∀ {os:List OrdD},Zb8 OrdD.key os→Zef os k=Zin k os
 | [],_=>rfl
 | o :: os,h=>by
   rw [ZE,List.pairwise_cons] at h
   have ih:=ZgE k (os:=os) (ZE.2 h.2)
   have e1:lowK OrdD.key k (o :: os)=if o.key<k then lowK OrdD.key k os+1 else 0:=by
     unfold lowK
     split
     · rename_i h1
       rw [List.takeWhile_cons_of_pos (by simpa using h1),List.length_cons]
     · rename_i h1
       rw [List.takeWhile_cons_of_neg (by simpa using h1)];rfl
   have e2:isK OrdD.key k (o :: os)=(decide (o.key=k) || isK OrdD.key k os):=by unfold isK;rw [List.any_cons]
   by_cases h1:o.key<k
   · rw [if_pos h1] at e1
     have e3:isK OrdD.key k (o :: os)=isK OrdD.key k os:=by rw [e2,decide_eq_false (by omega),Bool.false_or]
     unfold Zef at ih ⊢
     unfold Zin
     rw [if_pos h1,e3,e1]
     split
     · rename_i h2;rw [if_pos h2] at ih;exact congrArg (o :: ·) ih
     · rename_i h2;rw [if_neg h2] at ih;rw [← ih];simp
   · rw [if_neg h1] at e1
     unfold Zef Zin
     rw [if_neg h1,e1]
     by_cases h3:o.key=k
     · rw [if_pos h3,if_pos (by rw [e2,decide_eq_true h3,Bool.true_or])]
     · rw [if_neg h3,if_neg]
       · simp
       · rw [e2,decide_eq_false h3,Bool.false_or]
         unfold isK
         rw [List.any_eq_true]
         rintro ⟨x,hx,hk⟩
         have:=h.1 x hx
         simp at hk
         omega
theorem Zjm {k:Int} {o:OrdD} : ∀ {os:List OrdD},o ∈ Zin k os→o ∈ os∨o = ⟨k,[]⟩
 | [],h=>by simp [Zin] at h;exact .inr h
 | x :: os,h=>by
   unfold Zin at h
   split at h
   · rcases List.mem_cons.1 h with h | h
     · exact .inl (by simp [h])
     · rcases Zjm h with h | h
       · exact .inl (by simp [h])
       · exact .inr h
   · split at h
     · exact .inl h
     · rcases List.mem_cons.1 h with h | h
       · exact .inr h
       · exact .inl h
theorem Zib {k:Int} : ∀ {os:List OrdD},(os.Pairwise fun a b=>a.key<b.key)→(Zin k os).Pairwise fun a b=>a.key<b.key
 | [],_=>by simp [Zin]
 | x :: os,h=>by
   rw [List.pairwise_cons] at h
   unfold Zin
   split
   · rename_i h1
     rw [List.pairwise_cons]
     refine ⟨fun o ho=>?_,Zib h.2⟩
     rcases Zjm ho with h3 | h3
     · exact h.1 o h3
     · rw [h3];exact h1
   · split
     · rw [List.pairwise_cons];exact h
     · rw [List.pairwise_cons,List.pairwise_cons]
       refine ⟨fun o ho=>?_,h⟩
       rcases List.mem_cons.1 ho with h3 | h3
       · rw [h3];show k<x.key;omega
       · have:=h.1 o h3;show k<o.key;omega
theorem insK_rise {os:List OrdD} (k:Int) (h:Zb8 OrdD.key os):Zb8 OrdD.key (Zef os k):=by
 rw [ZgE k h,ZE]
 exact Zib (ZE.1 h)
theorem Zi2 (os:List OrdD) (k:Int):(Zef os k).length≤os.length+1:=by
 unfold Zef
 split
 · omega
 · rw [List.length_append,List.length_append,List.length_take,List.length_drop];simp;omega
theorem Zj7 {os:List OrdD} {k:Int} {o:OrdD} (h:o ∈ Zef os k):o ∈ os∨o = ⟨k,[]⟩:=by
 unfold Zef at h
 split at h
 · exact .inl h
 · rw [List.mem_append,List.mem_append] at h
   rcases h with (h | h) | h
   · exact .inl (List.mem_of_mem_take h)
   · exact .inr (by simpa using h)
   · exact .inl (List.mem_of_mem_drop h)
def ZcT (t:TxD) (os:List OrdD) (ks:List Int):List OrdD:=if t.done=true then ks.foldl Zef os else os
theorem Zgg {t:TxD} {os:List OrdD} (h:Zb8 OrdD.key os) (hs:Zdz os) (ks:List Int):Zb8 OrdD.key (ZcT t os ks)∧(ZcT t os ks).length≤os.length+ks.length ∧ ∀ o ∈ ZcT t os ks,o.txs.length≤1000:=by
 unfold ZcT
 split
 · have key:∀ (ks:List Int) (os:List OrdD),Zb8 OrdD.key os→(∀ o ∈ os,o.txs.length≤1000)→Zb8 OrdD.key (ks.foldl Zef os)∧(ks.foldl Zef os).length≤os.length+ks.length ∧ ∀ o ∈ ks.foldl Zef os,o.txs.length≤1000:=by
     intro ks
     induction ks with
     | nil=>intro os h1 h2;exact ⟨h1,by simp,h2⟩
     | cons k ks ih=>
       intro os h1 h2
       obtain ⟨g1,g2,g3⟩:=ih (Zef os k) (insK_rise k h1) (fun o ho=>by
         rcases Zj7 ho with h | h
         · exact h2 o h
         · rw [h];simp)
       have:=Zi2 os k
       exact ⟨g1,by rw [List.foldl_cons,List.length_cons];omega,g3⟩
   exact key ks os h hs.2
 · exact ⟨h,by omega,hs.2⟩
theorem Zmo {t:TxD} {os:List OrdD} {ks:List Int} {i:Nat} (hi:i<ks.length) (hc:t.done=true∧isK OrdD.key (Go.Gm.nth ks i) (ZcT t os (ks.take i))=false) :
   (ZcT t os (ks.take i)).take (lowK OrdD.key (Go.Gm.nth ks i) (ZcT t os (ks.take i))) ++ [⟨Go.Gm.nth ks i,[]⟩] ++ (ZcT t os (ks.take i)).drop (lowK OrdD.key (Go.Gm.nth ks i) (ZcT t os (ks.take i)))=ZcT t os (ks.take (i+1)):=by
 have e:ZcT t os (ks.take (i+1))=Zef (ZcT t os (ks.take i)) (Go.Gm.nth ks i):=by
   unfold ZcT
   rw [if_pos hc.1,if_pos hc.1,Zv hi,List.foldl_append];rfl
 rw [e];unfold Zef;rw [if_neg (by rw [hc.2];simp)]
theorem ZlH {t:TxD} {os:List OrdD} {ks:List Int} {i:Nat} (hi:i<ks.length) (hc:¬ (t.done=true∧isK OrdD.key (Go.Gm.nth ks i) (ZcT t os (ks.take i))=false)):ZcT t os (ks.take i)=ZcT t os (ks.take (i+1)):=by
 unfold ZcT at hc ⊢
 by_cases hd:t.done=true
 · rw [if_pos hd] at hc
   rw [if_pos hd,if_pos hd,Zv hi,List.foldl_append]
   have hx:∀ X k,isK OrdD.key k X=true→Zef X k=X:=fun X k h=>by unfold Zef;rw [if_pos h]
   show _=Zef _ _
   rw [hx]
   cases h:isK OrdD.key (Go.Gm.nth ks i) ((ks.take i).foldl Zef os) with
   | true=>rfl
   | false=>exact absurd ⟨hd,h⟩ hc
 · rw [if_neg hd,if_neg hd]
def ZiL (t:TxD) (o:OrdD):OrdD:=⟨o.key,if t.done=true∧0<wcnt t.ops o.key then withO o.txs t.id else withoutO o.txs t.id⟩
def settleO (t:TxD) (os:List OrdD):List OrdD:=((ZcT t os (ZY t)).map (ZiL t)).filter fun o=>!decide (o.txs = [])
theorem Zrw {α:Type} [Inhabited α] {f:α→α} {l l2:List α} {i:Nat} (hi:i<l.length) (h:l2=(l.take i).map f++l.drop i):Go.Gm.nth l2 i=Go.Gm.nth l i∧l2.length=l.length:=by
 have h2:l2.length=l.length:=by rw [h,List.length_append,List.length_map,List.length_take,List.length_drop];omega
 refine ⟨?_,h2⟩
 rw [nth_eq (by omega),nth_eq hi]
 subst h
 rw [List.getElem_append_right (by rw [List.length_map,List.length_take];omega)]
 simp only [List.length_map,List.length_take,List.getElem_drop]
 congr 1
 omega
theorem ZqS {α:Type} [Inhabited α] {f:α→α} {l l2:List α} {i:Nat} (hi:i<l.length) (h:l2=(l.take i).map f++l.drop i):l2.set i (f (Go.Gm.nth l i))=(l.take (i+1)).map f++l.drop (i+1):=by
 have hd:l.drop i=Go.Gm.nth l i :: l.drop (i+1):=by rw [nth_eq hi];exact List.drop_eq_getElem_cons hi
 rw [h,Zv hi,List.map_append,List.append_assoc,List.set_append_right _ _ (by rw [List.length_map,List.length_take];omega)]
 congr 1
 have:i - ((l.take i).map f).length=0:=by rw [List.length_map,List.length_take];omega
 rw [this,hd];rfl
abbrev Zmt (T TR:TypeId) (p va:Value) (os:List OrdD):HP:=HP.ex fun vb:Value=>HP.star [.pt (.val p) T [.pv (.is va),.pv (.is vb)],.ob (.val vb) (Zu TR 2 ZF os)]
theorem ZlL {k:IntKind} {a:Int} {b:Bool} (v:Value) (w:World) (y y':Ys) (h:(PV.tup [.int k a,.bool b]).p v w y):(PV.tup [.int k a,.bool b]).p v w y':=by
 obtain ⟨vs,e,h⟩:=h
 match vs,h with
 | [_,_],h=>exact ⟨_,e,h⟩
theorem Zq9 {α:Type} {R:α→List PV} {l:List PV} {l':List α} (h:Nat.ble l'.length maxLen=true) (e:ZdF l (l'.flatMap R)):Ent (.pv (.arr l'.length l)) (.pv (.sl R l')):=fun _ w y v k=>Zcu.arrSl h e v w y k
theorem ZmM (o:OrdD):FnP Tryz.prog 137 [.agg (ZF o)] (.bool (decide (o.txs = []))):=by
 refine FnP.mk Tryz.func137 rfl Tryz.ntmps137 rfl ?_
 intro B a w F hB hfr hS
 refine wp_seq ?_
 refine Zc hS (qx 101 r1 qB) hB [2,1] [101,0] (fun _=>rfl) (fun _=>rfl) fun τ a w F hS=>?_
 try dsimp only [RS.sub,SF.sub,CF.sub,csub,Anc.sub,List.map,zCF,ZF,Zo] at hS
 generalize τ 1=v1 at hS
 refine Za (wp_seq ?_)
 refine Zb hS (qg 1 101 r1 r1 (qa 101 r1 r1 (qu Tryz.underlying34 r1 (qf (o_eql .t qi) r1 qz (qN rfl rfl qZ))))) hB [2] [0] rfl rfl fun a w F hS=>Za (wp_ret ?_)
 refine Zw hfr hS rfl rfl rfl (.bool (by rw [Bool.eq_iff_iff];simp))
theorem Zja (p va:Value) (os:List OrdD) (t:TxD) (hs:Zdz os) (hr:Zb8 OrdD.key os) (ht:t.ops.length≤1000):FnG Tryz.prog 73 1 [.is p,.agg (rTx t)] [Zmt 30 36 p va os] (.tup []) (fun _=>[Zmt 30 36 p va (settleO t os)]):=by
 refine FnG.mk Tryz.func73 rfl Tryz.ntmps73 rfl (by kernel_rfl) ?_
 intro B F0 a w F hB hG hS
 have hso:=hs.1
 have hkl:=Zde t
 replace hS:=hS.turn 1 rfl (r':=RS.hp (HP.ex fun vb:Value=>HP.star [.pt (.val p) 30 [.pv (.is va),.pv (.is vb)],.ob (.val vb) (Zu 36 2 ZF os)])) (fun _ _ _ _ h=>h)
 obtain ⟨vb0,hS⟩:=hS.open_ex 1 rfl
 obtain ⟨F,hS⟩:=hS.peel 1 61 rfl rfl
 obtain ⟨F,hS⟩:=hS.peel 1 62 rfl rfl
 obtain ⟨F,hS⟩:=hS.nm [1,0] [62,61,1,0] rfl rfl
 refine wp_seq ?_
 refine Zc hS (qx 101 r1 qZ) hB [3,0] [101,62,61,1,0] (fun _=>rfl) (fun _=>rfl) fun τ a w F hS=>?_
 try dsimp only [RS.sub,SF.sub,CF.sub,csub,Anc.sub,List.map,zCF,Zr,rTx,ZF,ZS,Zo,rOp] at hS
 generalize τ 3=v3 at hS
 refine Za (wp_seq (wp_seq ?_))
 refine Zb hS (qe 3 101 r1 r1 (qf (oP (ZmX t (by omega)) Tryz.func55 (Args.one (.pagg .t))) r1 qz (qu Tryz.underlying34 r1 (qJ qZ)))) hB [13,12,11,3,0] [101,62,61,1,0] rfl rfl fun a w F hS=>?_
 rw [show ZcL ((t.ops.filter fun o=>!o.read).map OpD.key)=ZY t from rfl] at hS
 refine Za (wp_block ?_)
 refine Zl (σ:=(Nat)×(Value)×(List OrdD)) [0,3,11,12] [0,1,101] (fun s=>[(13,.pv (.int .i64 (s.1:Int)))]) (fun s=>[(61,.pt (.val p) 30 [.pv (.is va),.pv (.is s.2.1)]),(62,.ob (.val s.2.1) (Zu 36 2 ZF s.2.2))]) (fun s=>s.1≤(ZY t).length∧(s.2.2=ZcT t os ((ZY t).take s.1))) (fun s=>(ZY t).length - s.1) ((0),(vb0),(os)) hS ⟨rfl,rfl,rfl,rfl,rfl,trivial⟩ ⟨rfl,rfl,rfl,rfl,rfl,trivial⟩ ⟨Nat.zero_le _,(by unfold ZcT;split <;> rfl)⟩ ?_
 clear hS;intro s a w F hC hS
 obtain ⟨i,vb,ol⟩:=s
 try dsimp only at hC
 obtain ⟨F,hS⟩:=hS.nm [13,12,11,3,0] [101,62,61,1,0] rfl rfl
 try dsimp only at hS
 obtain ⟨hi,hq⟩:=hC
 obtain ⟨hf1,hf2,hf3⟩:=Zgg (t:=t) hr hs ((ZY t).take i)
 rw [List.length_take,← hq] at hf2
 rw [← hq] at hf1 hf3
 have hst:=fun h=>Zmo (t:=t) (os:=os) (ks:=(ZY t)) (i:=i) h
 have hsk:=fun h=>ZlH (t:=t) (os:=os) (ks:=(ZY t)) (i:=i) h
 rw [← hq] at hst hsk
 have hlk:=ZgP (κ:=OrdD.key) (k:=(Go.Gm.nth (ZY t) i)) ol
 refine wp_seq ?_
 refine Zb hS (qL r2) hB [14,13,12,11,3,0] [101,62,61,1,0] rfl rfl fun a w F hS=>Za (wp_seq ?_)
 refine Zd hS rfl (fun hc0=>?_) (fun hc0=>?_)
 ·skip
  have hil:i<(ZY t).length:=by simp at hc0;omega
  have hio:=hil
  refine wp_skip (Za (wp_seq (wp_block (wp_seq ?_))))
  refine Zb hS (qy 1 Tryz.underlying34 r2 (qf (oR false 1 .t) r1 qz (qN rfl rfl qZ))) hB [13,12,11,5,3,0] [101,62,61,1,0] rfl rfl fun a w F hS=>?_
  try simp only [Int.toNat_natCast] at hS
  refine Za (wp_seq ?_)
  refine Zb hS (qM rfl rfl (qf (o_nilCheck 61 .is (by rfl)) r1 r1 (qf (oF 1 61 .adr) r1 r1 (qa 61 r1 r1 (qM rfl rfl (qf (OpC.lendRow 62 [21] (oP (Zr2 ol (Go.Gm.nth (ZY t) i) (by omega) hf1 132 Tryz.f132 [] Tryz.func132 rfl (by kernel_rfl) (fun x=>Zqh x (Go.Gm.nth (ZY t) i))) Tryz.func131 (Args.three .t .t (.conv .f (Ent.fnClos)))) ⟨rfl,trivial,trivial⟩ (.pv ZlL) trivial (by rfl)) r2 r1 (qM rfl rfl (qf (Zq .t rfl) r1 qz (qf (Zq .t rfl) r1 qz (qN rfl rfl (qN rfl rfl qZ))))))))))) hB [13,12,11,7,6,5,3,0] [101,62,61,1,0] rfl rfl fun a w F hS=>Za (wp_seq ?_)
  refine Zb hS (qg 1 101 r1 r1 (qa 101 r1 r1 (qM rfl rfl (qm rfl rfl rfl rfl (qk rfl (fun h=>o_not (.w h)) r2 qz (qf (ZN .t .t) r2 qz qZ)))))) hB [31,13,12,11,6,5,3,0] [101,62,61,1,0] rfl rfl fun a w F hS=>Za ?_
  refine Zd hS rfl (fun hc1=>?_) (fun hc1=>?_)
  ·skip
   have hq9:=hst hio (by simpa using hc1)
   refine Zc hS (qM rfl rfl (qM rfl rfl (qf (o_nilCheck 61 .is (by rfl)) r1 r1 (qf (oF 1 61 .adr) r1 r1 (qa 61 r1 r1 (qM rfl rfl (qM rfl rfl (qf (oB [(0,.tmp 38)] [.int .i64 0,.slice none 0 0] [(0,1),(1,1)] (.one rfl .t one_int (by kernel_rfl) .nil)) r1 qz (qf (Zt (sz:=2) (zs:=[.int .i64 0,.slice none 0 0]) (r:=[(0,.tmp 39)]) (l:=[_,_]) Tryz.underlying28 (by kernel_rfl) (by kernel_rfl) (by kernel_rfl) (by kernel_rfl) rfl rfl (.agg rfl .t (by kernel_rfl) (by kernel_rfl) .nil) rfl) r1 qz (qf (o_callRowN 62 (Zrr vb ol (lowK OrdD.key (Go.Gm.nth (ZY t) i) ol) ⟨(Go.Gm.nth (ZY t) i),[]⟩ (by omega) hlk) Tryz.func133 rfl (by kernel_rfl) (Args.three .t .t (.conv .t (Zq9 (l:=[.int .i64 (Go.Gm.nth (ZY t) i),.is (.slice none 0 0)]) (R:=ZF) (l':=[⟨(Go.Gm.nth (ZY t) i),[]⟩]) rfl ⟨Zcu.refl,Zcu.nilSl,trivial⟩))) pvOne1) r3 r1 (qf (o_nilCheck 61 .is (by rfl)) r1 r1 (qf (oF 1 61 .adr) r1 r1 (qf (o_storeS 61 .adr (by kernel_rfl) (by kernel_rfl)) r2 r1 qZ))))))))))))) hB [13,12,11,3,0] [101,62,61,1,0] (fun _=>rfl) (fun _=>rfl) fun τ a w F hS=>?_
   try dsimp only [RS.sub,SF.sub,CF.sub,csub,Anc.sub,List.map,Zf,xL,xM,Nat.reduceAdd,xD,xE,xT,xU,xC,xN,zCF,ldSF,Zr,rTx,ZF,ZS,Zo,rOp] at hS
   generalize τ 41=v41 at hS
   refine Zj (Za ?_)
   refine Zb hS (qp r1 (qM rfl rfl qZ)) hB [13,12,11,3,0] [101,62,61,1,0] rfl rfl fun a w F hS=>Za ?_
   replace hS:=hS.ent (i:=13) (s':=.pv (.int .i64 ((i+1:Nat):Int))) rfl (.int (Ze (by omega)))
   obtain ⟨F,hS⟩:=hS.nm [12,11,3,0,13] [101,1,0,62,61] rfl rfl
   exact ⟨((i+1),_,_),F,⟨by omega,hq9⟩,hS,by omega⟩
  have hq9:=hsk hio (by intro e;simp [e.1,e.2] at hc1)
  refine wp_skip (Zj (Za ?_))
  refine Zb hS (qp r1 (qM rfl rfl qZ)) hB [13,12,11,3,0] [101,62,61,1,0] rfl rfl fun a w F hS=>Za ?_
  replace hS:=hS.ent (i:=13) (s':=.pv (.int .i64 ((i+1:Nat):Int))) rfl (.int (Ze (by omega)))
  obtain ⟨F,hS⟩:=hS.nm [12,11,3,0,13] [101,1,0,62,61] rfl rfl
  exact ⟨((i+1),_,_),F,⟨by omega,hq9⟩,hS,by omega⟩
 have hil:i=(ZY t).length:=by simp at hc0;omega
 have hq0:ol=ZcT t os (ZY t):=by rw [hq,hil,List.take_length]
 refine wp_exit (Zh (Zh (Zp (Za (wp_seq (wp_seq ?_))))))
 refine Zb hS (qM rfl rfl (qf (o_nilCheck 61 .is (by rfl)) r1 r1 (qf (oF 1 61 .adr) r1 r1 (qa 61 r1 r1 (qf (ZQ 62 Tryz.underlying28 .is) r1 r1 (qJ qZ)))))) hB [50,49,3,0] [101,62,61,1,0] rfl rfl fun a w F hS=>Za (wp_block ?_)
 refine Zl (σ:=(Nat)×(List OrdD)) [0,3,49] [0,1,61,101] (fun s=>[(50,.pv (.int .i64 (s.1:Int)))]) (fun s=>[(62,.ob (.val vb) (Zu 36 2 ZF s.2))]) (fun s=>s.1≤ol.length∧(s.2=(ol.take s.1).map (ZiL t)++ol.drop s.1)) (fun s=>ol.length - s.1) ((0),(ol)) hS ⟨rfl,rfl,rfl,rfl,trivial⟩ ⟨rfl,rfl,rfl,rfl,rfl,trivial⟩ ⟨Nat.zero_le _,(by simp)⟩ ?_
 clear hS;intro s a w F hC hS
 obtain ⟨i,o2⟩:=s
 try dsimp only at hC
 obtain ⟨F,hS⟩:=hS.nm [50,49,3,0] [101,62,61,1,0] rfl rfl
 try dsimp only at hS
 obtain ⟨hi,hq⟩:=hC
 have hm:=fun h=>Zrw (f:=ZiL t) (l:=ol) (i:=i) h hq
 have hms:=fun h=>ZqS (f:=ZiL t) (l:=ol) (i:=i) h hq
 refine wp_seq ?_
 refine Zb hS (qL r2) hB [51,50,49,3,0] [101,62,61,1,0] rfl rfl fun a w F hS=>Za (wp_seq ?_)
 refine Zd hS rfl (fun hc2=>?_) (fun hc2=>?_)
 ·skip
  have hil:i<ol.length:=by simp at hc2;omega
  have hio:=hil
  have hol:=hf3 _ (nth_mem hio)
  have hmn:=(hm hio).1
  have hms2:=hms hio
  have hol2:(Go.Gm.nth o2 i).txs.length≤1000:=by rw [hmn];exact hol
  refine wp_skip (Za (wp_seq (wp_block (wp_seq ?_))))
  refine Zb hS (qM rfl rfl (qN rfl rfl qZ)) hB [50,49,8,3,0] [101,62,61,1,0] rfl rfl fun a w F hS=>Za (wp_seq ?_)
  refine Zb hS (qM rfl rfl (qf (o_nilCheck 61 .is (by rfl)) r1 r1 (qf (oF 1 61 .adr) r1 r1 (qa 61 r1 r1 (qM rfl rfl (qf (o_indexAddr_row (sz:=2) 62 (.mk Tryz.underlying28 (by kernel_rfl)) .is .t (by omega) (by omega) (by rfl)) r2 r1 (qN rfl rfl qZ))))))) hB [50,49,9,3,0] [101,62,61,1,0] rfl rfl fun a w F hS=>?_
  try simp only [Int.toNat_natCast] at hS
  refine Za (wp_seq ?_)
  refine Zy hS (qg 1 101 r1 r1 (qa 101 r1 r1 (qM rfl rfl (qk rfl (fun h=>oL true 3 101 .is) r2 r1 (qm rfl rfl rfl rfl (qk rfl (fun h=>o_nilCheck_row0 (sz:=2) 62 (.w h) (by intro x;rfl) (by have:=(hm hil).2;omega)) r2 r1 (qk rfl (fun h=>o_fieldAddr_row (off:=0) (sz:=2) 62 (.w h) (by have:=(hm hil).2;omega) (by kernel_rfl) (by rfl)) r2 r1 (qk rfl (fun h=>Z4 (ag:=false) (sz':=1) (sz:=2) 62 (.w h) (by intro x;rfl) (by have:=(hm hil).2;omega) (by kernel_rfl) (by kernel_rfl) (by kernel_rfl)) r2 r1 (qk rfl (fun h=>oP (Zc6 t (Go.Gm.nth o2 i).key (by omega)) Tryz.func60 (Args.two (.pagg (.w h)) (.w h))) r3 qz (qk rfl (fun h=>Zbi (.w h) qi) r2 qz (qf (ZN .t .t) r2 qz qZ))))))))))) hB [69,50,49,9,3,0] [101,62,61,1,0] rfl rfl fun a w F hS=>?_
  try dsimp only [List.map,xD,xE,xT,xU,ldSF,Zr,rTx,ZF,ZS,Zo,rOp] at hS
  refine Za ?_
  refine Zd hS rfl (fun hc3=>?_) (fun hc3=>?_)
  ·skip
   have hq9:o2.set i ⟨(Go.Gm.nth o2 i).key,withO (Go.Gm.nth o2 i).txs t.id⟩ = (ol.take (i+1)).map (ZiL t)++ol.drop (i+1):=by rw [← hms2,hmn];unfold ZiL;rw [if_pos (by have h9:=hc3;unfold wcnt;simpa [hmn] using h9)]
   refine Zy hS (qM rfl rfl (qM rfl rfl (qf (o_nilCheck_row0 (sz:=2) 62 .t (by intro x;rfl) (by have:=(hm hil).2;omega)) r1 r1 (qf (o_fieldAddr_row (off:=1) (sz:=2) 62 .t (by have:=(hm hil).2;omega) (by kernel_rfl) (by rfl)) r1 r1 (qf (Z4 (ag:=false) (sz':=1) (sz:=2) 62 .t (by intro x;rfl) (by have:=(hm hil).2;omega) (by kernel_rfl) (by kernel_rfl) (by kernel_rfl)) r1 r1 (qg 0 101 r1 r1 (qa 101 r1 r1 (qf (oP (Zqm (Go.Gm.nth o2 i).txs t.id (by omega)) Tryz.func134 (Args.two .t .t)) r2 qz (qf (o_nilCheck_row0 (sz:=2) 62 .t (by intro x;rfl) (by have:=(hm hil).2;omega)) r1 r1 (qf (o_fieldAddr_row (off:=1) (sz:=2) 62 .t (by have:=(hm hil).2;omega) (by kernel_rfl) (by rfl)) r1 r1 (qf (Zcl (R:=ZF) (sz:=2) (off:=1) (v':=(⟨(Go.Gm.nth o2 i).key,withO (Go.Gm.nth o2 i).txs t.id⟩:OrdD)) 62 .t (by intro x;rfl) (by have:=(hm hil).2;omega) (by decide) .t one_sl rfl (by kernel_rfl)) r2 r1 qZ))))))))))) hB [50,49,3,0] [101,62,61,1,0] rfl rfl fun a w F hS=>?_
   try dsimp only [List.map,Zf,xL,xM,Nat.reduceAdd,xD,xE,xT,xU,xC,xN,zCF,ldSF,Zr,rTx,ZF,ZS,Zo,rOp] at hS
   refine Zj (Za ?_)
   refine Zb hS (qp r1 (qM rfl rfl qZ)) hB [50,49,3,0] [101,62,61,1,0] rfl rfl fun a w F hS=>Za ?_
   replace hS:=hS.ent (i:=50) (s':=.pv (.int .i64 ((i+1:Nat):Int))) rfl (.int (Ze (by omega)))
   obtain ⟨F,hS⟩:=hS.nm [49,3,0,50] [101,61,1,0,62] rfl rfl
   exact ⟨((i+1),_),F,⟨by omega,hq9⟩,hS,by omega⟩
  have hq9:o2.set i ⟨(Go.Gm.nth o2 i).key,withoutO (Go.Gm.nth o2 i).txs t.id⟩ = (ol.take (i+1)).map (ZiL t)++ol.drop (i+1):=by rw [← hms2,hmn];unfold ZiL;rw [if_neg (by have h9:=hc3;unfold wcnt;intro e;rw [← hmn] at e;simp [e.1,e.2] at h9)]
  refine Zy hS (qM rfl rfl (qM rfl rfl (qf (o_nilCheck_row0 (sz:=2) 62 .t (by intro x;rfl) (by have:=(hm hil).2;omega)) r1 r1 (qf (o_fieldAddr_row (off:=1) (sz:=2) 62 .t (by have:=(hm hil).2;omega) (by kernel_rfl) (by rfl)) r1 r1 (qf (Z4 (ag:=false) (sz':=1) (sz:=2) 62 .t (by intro x;rfl) (by have:=(hm hil).2;omega) (by kernel_rfl) (by kernel_rfl) (by kernel_rfl)) r1 r1 (qg 0 101 r1 r1 (qa 101 r1 r1 (qf (oP (Zkz (Go.Gm.nth o2 i).txs t.id (by omega)) Tryz.func135 (Args.two .t .t)) r2 qz (qf (o_nilCheck_row0 (sz:=2) 62 .t (by intro x;rfl) (by have:=(hm hil).2;omega)) r1 r1 (qf (o_fieldAddr_row (off:=1) (sz:=2) 62 .t (by have:=(hm hil).2;omega) (by kernel_rfl) (by rfl)) r1 r1 (qf (Zcl (R:=ZF) (sz:=2) (off:=1) (v':=(⟨(Go.Gm.nth o2 i).key,withoutO (Go.Gm.nth o2 i).txs t.id⟩:OrdD)) 62 .t (by intro x;rfl) (by have:=(hm hil).2;omega) (by decide) .t one_sl rfl (by kernel_rfl)) r2 r1 qZ))))))))))) hB [50,49,3,0] [101,62,61,1,0] rfl rfl fun a w F hS=>?_
  try dsimp only [List.map,Zf,xL,xM,Nat.reduceAdd,xD,xE,xT,xU,xC,xN,zCF,ldSF,Zr,rTx,ZF,ZS,Zo,rOp] at hS
  refine Zj (Za ?_)
  refine Zb hS (qp r1 (qM rfl rfl qZ)) hB [50,49,3,0] [101,62,61,1,0] rfl rfl fun a w F hS=>Za ?_
  replace hS:=hS.ent (i:=50) (s':=.pv (.int .i64 ((i+1:Nat):Int))) rfl (.int (Ze (by omega)))
  obtain ⟨F,hS⟩:=hS.nm [49,3,0,50] [101,61,1,0,62] rfl rfl
  exact ⟨((i+1),_),F,⟨by omega,hq9⟩,hS,by omega⟩
 have hil:i=ol.length:=by simp at hc2;omega
 have hfin:(o2.filter fun o=>!decide (o.txs = []))=settleO t os:=by rw [hq,hil,List.take_length,List.drop_length,List.append_nil,hq0];rfl
 have ho2:o2.length=ol.length:=by rw [hq,hil];simp
 refine wp_exit (Zh (Zh (Zp (Za ?_))))
 refine Zc hS (qM rfl rfl (qM rfl rfl (qf (o_nilCheck 61 .is (by rfl)) r1 r1 (qf (oF 1 61 .adr) r1 r1 (qa 61 r1 r1 (qf (o_callRowN 62 (Zqq vb o2 (by omega) (fun o=>decide (o.txs = [])) 137 Tryz.f137 [] Tryz.func137 rfl (by kernel_rfl) (fun o=>ZmM o)) Tryz.func136 rfl (by kernel_rfl) (Args.two .t (.conv .f (Ent.fnClos))) pvOne1) r1 r1 (qf (o_nilCheck 61 .is (by rfl)) r1 r1 (qf (oF 1 61 .adr) r1 r1 (qf (o_storeS 61 .adr (by kernel_rfl) (by kernel_rfl)) r2 r1 qZ))))))))) hB [] [101,62,61,1,0] (fun _=>rfl) (fun _=>rfl) fun τ a w F hS=>?_
 try dsimp only [RS.sub,SF.sub,CF.sub,csub,Anc.sub,List.map,Zf,xL,xM,Nat.reduceAdd,xD,xE,xT,xU,xC,xN,zCF,ldSF,Zr,rTx,ZF,ZS,Zo,rOp] at hS
 generalize τ 96=v96 at hS
 obtain ⟨F,hS⟩:=hS.push 1 62 rfl rfl rfl rfl
 obtain ⟨F,hS⟩:=hS.push 1 61 rfl rfl rfl rfl
 have hS:=hS.turn 1 rfl (r':=RS.hp (Zmt 30 36 p va (settleO t os))) (fun _ _ _ _ h=>⟨v96,by rw [hfin] at h;exact h⟩)
 refine Zas hG hS rfl .nil .none rfl
def insE (l:List Zae) (e:Zae):List Zae:=l.take (lowK ZaC (ZaC e) l) ++ [e] ++ l.drop (lowK ZaC (ZaC e) l)
theorem putE_c (v:Value) (l:List Zae) (e:Zae) (hll:l.length≤1000000) (hs:Zb8 ZaC l) (hl:∀ x ∈ l,okE x) (he:okE e):FnG Tryz.prog 232 1 [.is v,.agg (Zaq e)] [Zu 270 3 Zaq l v] (PV.one) (fun v=>[Zu 270 3 Zaq (insE l e) v]):=by
 refine FnG.mk Tryz.func232 rfl Tryz.ntmps232 rfl (by kernel_rfl) ?_
 intro B F0 a w F hB hG hS
 replace hS:=hS.turn 1 rfl (r':=.ob (.val v) (Zu 270 3 Zaq l)) (fun _ _ _ _ h=>h)
 refine wp_seq ?_
 refine Zc hS (qx 101 r1 (qC qZ)) hB [4,3,0] [101,1,0] (fun _=>rfl) (fun _=>rfl) fun τ a w F hS=>?_
 try dsimp only [RS.sub,SF.sub,CF.sub,csub,Anc.sub,List.map,zCF,Zaq,ZaV,Zo,ZbE] at hS
 generalize τ 3=v3 at hS
 refine Za (wp_seq ?_)
 refine Zb hS (qM rfl rfl (qe 3 101 r1 r1 (qf (OpC.lendRow 1 [8] (oP (ZrD l e (ZaC e) hll hs 277 Tryz.f277 [] Tryz.func277 rfl (by kernel_rfl) (fun x hx=>ZpC x e (hl x hx) he)) Tryz.func276 (Args.three .t (.pagg .t) (.conv .f (Ent.fnClos)))) ⟨rfl,trivial,trivial⟩ (.pv ZlL) trivial (by rfl)) r2 r1 (qM rfl rfl (qf (Zq .t rfl) r1 qz (qf (Zq .t rfl) r1 qz (qN rfl rfl (qN rfl rfl qZ)))))))) hB [5,4,3,0] [101,1,0] rfl rfl fun a w F hS=>Za (wp_seq ?_)
 refine Zc hS (qM rfl rfl (qM rfl rfl (qe 3 101 r1 r1 (qf (Zt (sz:=3) (zs:=[.int .i64 0,.int .i64 0,.int .i64 0]) (r:=[(0,.tmp 15)]) (l:=[_,_,_]) Tryz.underlying273 (by kernel_rfl) (by kernel_rfl) (by kernel_rfl) (by kernel_rfl) rfl rfl (.agg rfl .t (by kernel_rfl) (by kernel_rfl) .nil) rfl) r1 qz (qf (o_callRowN 1 (Zrb v l (lowK ZaC (ZaC e) l) e hll (ZgP l)) Tryz.func278 rfl (by kernel_rfl) (Args.three .t .t (.conv .t (Ent.arrSl (R:=Zaq) (l:=[e]) rfl))) pvOne1) r3 r1 (qN rfl rfl qZ)))))) hB [4] [1,0] (fun _=>rfl) (fun _=>rfl) fun τ a w F hS=>?_
 try dsimp only [RS.sub,SF.sub,CF.sub,csub,Anc.sub,List.map,Zf,xL,xM,Nat.reduceAdd,xD,xE,xT,xU,xC,xN,zCF,ldSF,Zaq,ZaV,Zo,ZbE] at hS
 generalize τ 17=v17 at hS
 have hg:insE l e=l.take (lowK ZaC (ZaC e) l) ++ [e] ++ l.drop (lowK ZaC (ZaC e) l):=rfl
 refine Za (wp_ret ?_)
 have hS:=hS.turn 1 rfl (r':=RS.hp (Zu 270 3 Zaq (insE l e) v17)) (fun _ _ _ _ h=>by rw [hg];exact h)
 refine Z2 (h':=fun v=>Zu 270 3 Zaq (insE l e) v) hG hS rfl (.tmp rfl .nil) (.one .one) rfl
def ZrW (L:List (List Zae)):Prop:=∀ l ∈ L,l.length≤1000000∧Zb8 ZaC l ∧ ∀ e ∈ l,okE e
def Zns (O:List (List Zae)) (x:ZaG):Bool:=Zam O.length x && isK ZaC (ZaC (endO x)) (Go.Gm.nth O x.src.toNat)
theorem ZW {n:Nat} {x:ZaG} : Zam n x=true ↔ (0≤x.src∧x.src<n)∧(0≤x.dst∧x.dst<n)∧(1≤x.kind∧x.kind≤3)∧0≤x.label∧x.label≤1048575:=by
 unfold Zam
 simp only [Bool.and_eq_true,decide_eq_true_eq]
 constructor
 · rintro ⟨⟨⟨⟨⟨a,b⟩,c⟩,d⟩,e⟩,f⟩;exact ⟨a,b,⟨c,d⟩,e,f⟩
 · rintro ⟨a,b,⟨c,d⟩,e,f⟩;exact ⟨⟨⟨⟨⟨a,b⟩,c⟩,d⟩,e⟩,f⟩
theorem endO_ok {n:Nat} {x:ZaG} (h:Zam n x=true) (hn:n≤4096):okE (endO x):=by
 obtain ⟨h1,h2,h3,h4,h5⟩:=ZW.1 h
 exact ⟨⟨h4,h5⟩,h2.1,show x.dst≤4095 by omega⟩
theorem endI_ok {n:Nat} {x:ZaG} (h:Zam n x=true) (hn:n≤4096):okE (endI x):=by
 obtain ⟨h1,h2,h3,h4,h5⟩:=ZW.1 h
 exact ⟨⟨h4,h5⟩,h1.1,show x.src≤4095 by omega⟩
theorem Zqd (O I:List (List Zae)) (m:Nat) (x:ZaG) (hO:ZrW O) (hn:O.length≤4096):FnP Tryz.prog 230 [Zjw O I m,.agg (ZbE x)] (.bool (Zns O x)):=by
 refine FnP.mk Tryz.func230 rfl Tryz.ntmps230 rfl ?_
 intro B a w F hB hfr hS
 refine wp_seq ?_
 refine Zc hS (qx 101 r1 qB) hB [4,3,0] [101,0] (fun _=>rfl) (fun _=>rfl) fun τ a w F hS=>?_
 try dsimp only [RS.sub,SF.sub,CF.sub,csub,Anc.sub,List.map,zCF,Zaq,ZaV,Zo,ZbE] at hS
 generalize τ 3=v3 at hS
 refine Za (wp_seq (wp_seq ?_))
 refine Zb hS (qM rfl rfl (qe 4 101 r1 r1 (qf (oP (Zhz O I m x) Tryz.func229 (Args.two .t (.pagg .t))) r2 qz (qf (o_not .t) r1 qz qZ)))) hB [12,4,3,0] [101,0] rfl rfl fun a w F hS=>Za ?_
 refine Zd hS rfl (fun hc0=>?_) (fun hc0=>?_)
 ·skip
  have hrf:Zam O.length x=false:=by simpa using hc0
  have hg:false=Zns O x:=by unfold Zns;rw [hrf];rfl
  refine wp_seq ?_
  refine Zb hS qB hB [4,3,0] [101,0] rfl rfl fun a w F hS=>Za (wp_ret (Zi ?_))
  refine Zw hfr hS rfl rfl rfl (.bool hg)
 have hrt:Zam O.length x=true:=by simpa using hc0
 obtain ⟨hs1,hs2⟩:=(ZW.1 hrt).1
 have hg:isK ZaC (ZaC (endO x)) (Go.Gm.nth O x.src.toNat)=Zns O x:=by unfold Zns;rw [hrt,Bool.true_and]
 refine wp_skip (Za (wp_seq ?_))
 refine Zc hS (qe 4 101 r1 r1 (qf (oP (ZjS x) Tryz.func231 (Args.one (.pagg .t))) r1 qz (qM rfl rfl (qf (Zq .t rfl) r1 qz (qf (Zq .t rfl) r1 qz (qf (oH [.int .i64 0,.int .i64 0,.int .i64 0] 102) trivial qz (qf (oH [.int .i64 0,.int .i64 0,.int .i64 0] 103) trivial qz (qf (oA 3 102 .same (.conv .t .agg)) r2 r1 (qf (oA 3 103 .same (.conv .t .agg)) r2 r1 qZ))))))))) hB [5,4,3,0] [102,101,0] (fun _=>rfl) (fun _=>rfl) fun τ a w F hS=>?_
 try dsimp only [RS.sub,SF.sub,CF.sub,csub,Anc.sub,List.map,Zf,xL,xM,Nat.reduceAdd,xD,xE,xT,xU,xC,xN,zCF,ldSF,Zaq,ZaV,Zo,ZbE] at hS
 generalize τ 5=v5 at hS
 generalize τ 6=v6 at hS
 refine Za (wp_seq ?_)
 refine Zy hS (qM rfl rfl (qf (ZP .t) r1 qz (qf (oG 0 .t) r1 qz (qf (oR false 1 .t) r1 qz (qg 0 101 r1 r1 (qa 101 r1 r1 (qy 1 Tryz.underlying266 r2 (qf (oR false 1 .t) r1 qz (qe 3 102 r1 r1 (qf (oP (ZrD (Go.Gm.nth O x.src.toNat) (endO x) (ZaC (endO x)) (hO _ (nth_mem (by omega))).1 (hO _ (nth_mem (by omega))).2.1 277 Tryz.f277 [] Tryz.func277 rfl (by kernel_rfl) (fun z hz=>ZpC z (endO x) ((hO _ (nth_mem (by omega))).2.2 z hz) (endO_ok hrt hn))) Tryz.func276 (Args.three .t (.pagg .t) (.conv .f (Ent.fnClos)))) r2 qz (qM rfl rfl (qf (Zq .t rfl) r1 qz (qf (Zq .t rfl) r1 qz (qN rfl rfl (qN rfl rfl qZ))))))))))))))) hB [8,4] [0] rfl rfl fun a w F hS=>?_
 try dsimp only [List.map,xD,xE,xT,xU,ldSF,Zaq,ZaV,Zo,ZbE] at hS
 try simp only [Int.toNat_natCast] at hS
 refine Za (wp_seq ?_)
 refine Zb hS (qM rfl rfl (qN rfl rfl qZ)) hB [4] [0] rfl rfl fun a w F hS=>Za (wp_ret ?_)
 refine Zw hfr hS rfl rfl rfl (.bool hg)
theorem Zse {α:Type} [Inhabited α] {l:List α} {k j:Nat} {v:α} (h:j<l.length):Go.Gm.nth (l.set k v) j=if k=j then v else Go.Gm.nth l j:=by
 rw [nth_eq (by simpa using h),List.getElem_set]
 split
 · rfl
 · exact (nth_eq h).symm
theorem Zjj {hs:List Value} {L:List (List Zae)} {k:Nat} {v:Value} {l:List Zae} (h2:hs.length=L.length):Zee (hs.set k v) (L.set k l)=(Zee hs L).set k (v,l):=by
 apply List.ext_getElem (by simp [Zee])
 intro j h3 h4
 have hj:j<hs.length:=by simpa [Zee] using h3
 simp only [Zee,List.getElem_map,List.getElem_range,List.getElem_set]
 rw [Zse hj,Zse (by omega)]
 split <;> rfl
def Zid (O I:List (List Zae)) (m:Nat) (x:ZaG):List (List Zae)×List (List Zae)×Nat×Int:=
 if Zam O.length x then if Zns O x then (O,I,m,4) else (O.set x.src.toNat (insE (Go.Gm.nth O x.src.toNat) (endO x)),I.set x.dst.toNat (insE (Go.Gm.nth I x.dst.toNat) (endI x)),m+1,0) else (O,I,m,1)
theorem ZpS (b:Nat) (O I:List (List Zae)) (m:Nat) (x:ZaG) (hO:ZrW O) (hI:ZrW I) (hOI:I.length=O.length) (hn:O.length≤4096) (hm:m<1000000):FnG Tryz.prog 160 1 [.is (Value.pointer (some { block:=b,off:=0 })),.agg (ZbE x)] [Znq O I m (Value.pointer (some { block:=b,off:=0 }))] (.int .i64 (Zid O I m x).2.2.2) (fun _=>[Znq (Zid O I m x).1 (Zid O I m x).2.1 (Zid O I m x).2.2.1 (Value.pointer (some { block:=b,off:=0 }))]):=by
 refine FnG.mk Tryz.func160 rfl Tryz.ntmps160 rfl (by kernel_rfl) ?_
 intro B F0 a w F hB hG hS
 refine wp_seq ?_
 refine Zc hS (qx 101 r1 (qI qZ)) hB [4,3,0] [101,1,0] (fun _=>rfl) (fun _=>rfl) fun τ a w F hS=>?_
 try dsimp only [RS.sub,SF.sub,CF.sub,csub,Anc.sub,List.map,zCF,Zaq,ZaV,Zo,ZbE] at hS
 generalize τ 3=v3 at hS
 refine Za (wp_seq (wp_block (wp_seq ?_)))
 refine Zb hS (qM rfl rfl (qe 4 101 r1 r1 (qf (OpC.lend 1 [8] ZgZ (oP (Zhz O I m x) Tryz.func229 (Args.two .t (.pagg .t))) ⟨rfl,trivial,trivial⟩ (.pv (fun _ _ _ _ h=>h)) trivial (by rfl)) r2 r1 (qf (o_not .t) r1 qz (qN rfl rfl qZ))))) hB [7,4,3,0] [101,1,0] rfl rfl fun a w F hS=>Za ?_
 refine Zd hS rfl (fun hc0=>?_) (fun hc0=>?_)
 ·skip
  have hrf:Zam O.length x=false:=by simpa using hc0
  have hg:Zid O I m x=(O,I,m,1):=by unfold Zid;rw [hrf];rfl
  refine wp_seq ?_
  refine Zb hS (qI qZ) hB [4,3,0] [101,1,0] rfl rfl fun a w F hS=>Za (wp_ret (Zs (Zi ?_)))
  rw [hg]
  refine Zas hG hS rfl (.tmp rfl .nil) (.one .refl) rfl
 have hrt:Zam O.length x=true:=by simpa using hc0
 obtain ⟨⟨hs1,hs2⟩,⟨hd1,hd2⟩,_⟩:=ZW.1 hrt
 refine wp_seq ?_
 refine Zb hS (qM rfl rfl (qe 4 101 r1 r1 (qf (OpC.lend 1 [13] ZgZ (oP (Zqd O I m x hO hn) Tryz.func230 (Args.two .t (.pagg .t))) ⟨rfl,trivial,trivial⟩ (.pv (fun _ _ _ _ h=>h)) trivial (by rfl)) r2 r1 (qN rfl rfl qZ)))) hB [12,4,3,0] [101,1,0] rfl rfl fun a w F hS=>Za ?_
 refine Zd hS rfl (fun hc1=>?_) (fun hc1=>?_)
 ·skip
  have hht:Zns O x=true:=hc1
  have hg:Zid O I m x=(O,I,m,4):=by unfold Zid;rw [hrt,hht];rfl
  refine wp_seq ?_
  refine Zb hS (qI qZ) hB [4,3,0] [101,1,0] rfl rfl fun a w F hS=>Za (wp_ret (Zs (Zi ?_)))
  rw [hg]
  refine Zas hG hS rfl (.tmp rfl .nil) (.one .refl) rfl
 have hhf:Zns O x=false:=hc1
 have hg:Zid O I m x=(O.set x.src.toNat (insE (Go.Gm.nth O x.src.toNat) (endO x)),I.set x.dst.toNat (insE (Go.Gm.nth I x.dst.toNat) (endI x)),m+1,0):=by unfold Zid;rw [hrt,hhf];rfl
 refine wp_skip (Zj (Za (wp_seq ?_)))
 refine Zc hS (qe 4 101 r1 r1 (qf (oP (ZjS x) Tryz.func231 (Args.one (.pagg .t))) r1 qz (qM rfl rfl (qf (Zq .t rfl) r1 qz (qf (Zq .t rfl) r1 qz (qf (oH [.int .i64 0,.int .i64 0,.int .i64 0] 102) trivial qz (qf (oH [.int .i64 0,.int .i64 0,.int .i64 0] 103) trivial qz (qf (oA 3 102 .same (.conv .t .agg)) r2 r1 (qf (oA 3 103 .same (.conv .t .agg)) r2 r1 qZ))))))))) hB [6,5,4,3,0] [103,102,101,1,0] (fun _=>rfl) (fun _=>rfl) fun τ a w F hS=>?_
 try dsimp only [RS.sub,SF.sub,CF.sub,csub,Anc.sub,List.map,Zf,xL,xM,Nat.reduceAdd,xD,xE,xT,xU,xC,xN,zCF,ldSF,Zaq,ZaV,Zo,ZbE] at hS
 generalize τ 5=v5 at hS
 generalize τ 6=v6 at hS
 obtain ⟨ov,hS⟩:=hS.open_ex 1 rfl
 obtain ⟨iv,hS⟩:=hS.open_ex 1 rfl
 obtain ⟨F,hS⟩:=hS.peel 1 2 rfl rfl
 obtain ⟨F,hS⟩:=hS.peel 1 3 rfl rfl
 obtain ⟨F,hS⟩:=hS.peel 1 4 rfl rfl
 obtain ⟨hs,hS⟩:=hS.open_ex 3 rfl
 obtain ⟨hl1,hS⟩:=hS.open_and 3 rfl
 obtain ⟨F,hS⟩:=hS.peel 3 5 rfl rfl
 obtain ⟨F,hS⟩:=hS.peel 3 6 rfl rfl
 obtain ⟨js,hS⟩:=hS.open_ex 4 rfl
 obtain ⟨hl2,hS⟩:=hS.open_and 4 rfl
 obtain ⟨F,hS⟩:=hS.peel 4 7 rfl rfl
 obtain ⟨F,hS⟩:=hS.peel 4 8 rfl rfl
 obtain ⟨F,hS⟩:=hS.nm [6,5,4,3,0] [103,102,101,8,7,6,5,2,0] rfl rfl
 obtain ⟨F,hS⟩:=hS.takeAt Zk6 6 61 (x.src.toNat) rfl rfl (ZmY (by omega))
 replace hS:=hS.turn 61 rfl (r':=.ob (.val (Go.Gm.nth hs x.src.toNat)) (Zu 270 3 Zaq (Go.Gm.nth O x.src.toNat))) (fun _ _ _ _ h=>h)
 obtain ⟨F,hS⟩:=hS.nm [6,5,4,3,0] [103,102,101,61,8,7,6,5,2,0] rfl rfl
 obtain ⟨F,hS⟩:=hS.takeAt Zk6 8 62 (x.dst.toNat) rfl rfl (ZmY (by omega))
 replace hS:=hS.turn 62 rfl (r':=.ob (.val (Go.Gm.nth js x.dst.toNat)) (Zu 270 3 Zaq (Go.Gm.nth I x.dst.toNat))) (fun _ _ _ _ h=>h)
 obtain ⟨F,hS⟩:=hS.nm [6,5,4,3,0] [103,102,101,62,61,8,7,6,5,2,0] rfl rfl
 refine Za (wp_seq ?_)
 refine ZaP hS (qM rfl rfl (qf (o_nilCheck 2 .is (by rfl)) r1 r1 (qf (oF 0 2 .adr) r1 r1 (qa 2 r1 r1 (qg 0 101 r1 r1 (qa 101 r1 r1 (qM rfl rfl (qf (o_nilCheck 2 .is (by rfl)) r1 r1 (qf (oF 0 2 .adr) r1 r1 (qa 2 r1 r1 (qg 0 101 r1 r1 (qa 101 r1 r1 (qf (o_indexAddr_row (sz:=1) 5 (.mk Tryz.underlying266 (by kernel_rfl)) .is .t (by omega) (by omega) (by rfl)) r2 r1 (qf (Zz (ag:=false) (sz':=1) (sz:=1) 5 .t (by intro x;rfl) (by omega) (by kernel_rfl) (by kernel_rfl) (by kernel_rfl)) r1 r1 (qe 3 102 r1 r1 (qf (o_callRowN 61 (putE_c _ (Go.Gm.nth O x.src.toNat) (endO x) (hO _ (nth_mem (by omega))).1 (hO _ (nth_mem (by omega))).2.1 (hO _ (nth_mem (by omega))).2.2 (endO_ok hrt hn)) Tryz.func232 rfl (by kernel_rfl) (Args.two .t (.pagg .t)) pvOne1) r2 r1 (qf (o_indexAddr_row (sz:=1) 5 (.mk Tryz.underlying266 (by kernel_rfl)) .is .t (by omega) (by omega) (by rfl)) r2 r1 (qf (Zkd (i:=36) (j:=36) (by rfl) (fun z=>ZZ (R:=rV) (sz:=1) (v:=z) 5 .t (by intro x;rfl) (by omega) .t rfl one_is (by kernel_rfl))) r2 r1 qZ)))))))))))))))))) hB [6,4,3,0] [103,101,62,61,8,7,6,5,2,0] (fun _=>rfl) (fun _=>rfl) fun τ a w F hS=>?_
 try dsimp only [RS.sub,SF.sub,CF.sub,csub,Anc.sub,List.map,Zf,xL,xM,Nat.reduceAdd,xD,xE,xT,xU,xC,xN,zCF,ldSF,Zaq,ZaV,Zo,ZbE] at hS
 generalize τ 36=v36 at hS
 try simp only [Int.toNat_natCast] at hS
 replace hS:=hS.turn 61 rfl (r':=RS.hp (Zk6 (v36,insE (Go.Gm.nth O x.src.toNat) (endO x)))) (fun _ _ _ _ h=>h)
 obtain ⟨F,hS⟩:=hS.putAt Zk6 (L:=Zee hs O) (x:=(v36,insE (Go.Gm.nth O x.src.toNat) (endO x))) 6 61 (x.src.toNat) (by rw [Zki];omega) rfl rfl rfl
 rw [← Zjj (by omega)] at hS
 obtain ⟨F,hS⟩:=hS.nm [6,4,3,0] [103,101,62,8,7,6,5,2,0] rfl rfl
 refine Za (wp_seq ?_)
 refine ZaP hS (qM rfl rfl (qf (o_nilCheck 2 .is (by rfl)) r1 r1 (qf (oF 1 2 .adr) r1 r1 (qa 2 r1 r1 (qg 1 101 r1 r1 (qa 101 r1 r1 (qM rfl rfl (qf (o_nilCheck 2 .is (by rfl)) r1 r1 (qf (oF 1 2 .adr) r1 r1 (qa 2 r1 r1 (qg 1 101 r1 r1 (qa 101 r1 r1 (qf (o_indexAddr_row (sz:=1) 7 (.mk Tryz.underlying266 (by kernel_rfl)) .is .t (by omega) (by omega) (by rfl)) r2 r1 (qf (Zz (ag:=false) (sz':=1) (sz:=1) 7 .t (by intro x;rfl) (by omega) (by kernel_rfl) (by kernel_rfl) (by kernel_rfl)) r1 r1 (qe 3 103 r1 r1 (qf (o_callRowN 62 (putE_c _ (Go.Gm.nth I x.dst.toNat) (endI x) (hI _ (nth_mem (by omega))).1 (hI _ (nth_mem (by omega))).2.1 (hI _ (nth_mem (by omega))).2.2 (endI_ok hrt hn)) Tryz.func232 rfl (by kernel_rfl) (Args.two .t (.pagg .t)) pvOne1) r2 r1 (qf (o_indexAddr_row (sz:=1) 7 (.mk Tryz.underlying266 (by kernel_rfl)) .is .t (by omega) (by omega) (by rfl)) r2 r1 (qf (Zkd (i:=53) (j:=53) (by rfl) (fun z=>ZZ (R:=rV) (sz:=1) (v:=z) 7 .t (by intro x;rfl) (by omega) .t rfl one_is (by kernel_rfl))) r2 r1 qZ)))))))))))))))))) hB [4,0] [62,8,7,6,5,2,0] (fun _=>rfl) (fun _=>rfl) fun τ a w F hS=>?_
 try dsimp only [RS.sub,SF.sub,CF.sub,csub,Anc.sub,List.map,Zf,xL,xM,Nat.reduceAdd,xD,xE,xT,xU,xC,xN,zCF,ldSF,Zaq,ZaV,Zo,ZbE] at hS
 generalize τ 53=v53 at hS
 try simp only [Int.toNat_natCast] at hS
 replace hS:=hS.turn 62 rfl (r':=RS.hp (Zk6 (v53,insE (Go.Gm.nth I x.dst.toNat) (endI x)))) (fun _ _ _ _ h=>h)
 obtain ⟨F,hS⟩:=hS.putAt Zk6 (L:=Zee js I) (x:=(v53,insE (Go.Gm.nth I x.dst.toNat) (endI x))) 8 62 (x.dst.toNat) (by rw [Zki];omega) rfl rfl rfl
 rw [← Zjj (by omega)] at hS
 obtain ⟨F,hS⟩:=hS.nm [4,0] [8,7,6,5,2,0] rfl rfl
 refine Za (wp_seq ?_)
 refine Zb hS (qM rfl rfl (qf (o_nilCheck 2 .is (by rfl)) r1 r1 (qf (oF 2 2 .adr) r1 r1 (qa 2 r1 r1 (qp r1 (qf (o_nilCheck 2 .is (by rfl)) r1 r1 (qf (oF 2 2 .adr) r1 r1 (qf (Zdn 2 .adr .t one_int (by kernel_rfl) (by kernel_rfl)) r2 r1 qZ)))))))) hB [4] [8,7,6,5,2,0] rfl rfl fun a w F hS=>Za (wp_seq ?_)
 refine Zb hS (qI qZ) hB [4] [8,7,6,5,2,0] rfl rfl fun a w F hS=>Za (wp_ret ?_)
 rw [Ze (by omega)] at hS
 have hl3:(hs.set x.src.toNat v36).length=(O.set x.src.toNat (insE (Go.Gm.nth O x.src.toNat) (endO x))).length:=by simp [hl1]
 have hl4:(js.set x.dst.toNat v53).length=(I.set x.dst.toNat (insE (Go.Gm.nth I x.dst.toNat) (endI x))).length:=by simp [hl2]
 have hS:=hS.fresh 3 rfl
 have hS:=hS.fresh 4 rfl
 have hS:=hS.fresh 1 rfl
 obtain ⟨F,hS⟩:=hS.push 3 6 rfl rfl rfl (by kernel_rfl)
 obtain ⟨F,hS⟩:=hS.push 3 5 rfl rfl rfl (by kernel_rfl)
 obtain ⟨F,hS⟩:=hS.push 4 8 rfl rfl rfl (by kernel_rfl)
 obtain ⟨F,hS⟩:=hS.push 4 7 rfl rfl rfl (by kernel_rfl)
 have hS:=hS.turn 3 rfl (r':=RS.hp (Zha _ ov)) (fun _ _ _ _ h=>⟨_,hl3,h⟩)
 have hS:=hS.turn 4 rfl (r':=RS.hp (Zha _ iv)) (fun _ _ _ _ h=>⟨_,hl4,h⟩)
 obtain ⟨F,hS⟩:=hS.push 1 4 rfl rfl rfl (by kernel_rfl)
 obtain ⟨F,hS⟩:=hS.push 1 3 rfl rfl rfl (by kernel_rfl)
 obtain ⟨F,hS⟩:=hS.push 1 2 rfl rfl rfl (by kernel_rfl)
 have hS:=hS.turn 1 rfl (r':=RS.hp (Znq (Zid O I m x).1 (Zid O I m x).2.1 (Zid O I m x).2.2.1 (Value.pointer (some { block:=b,off:=0 })))) (fun _ _ _ _ h=>by rw [hg];exact ⟨_,_,h⟩)
 refine Zas hG hS rfl (.tmp rfl .nil) (.one (.int (by rw [hg]))) rfl
def Zfy (O:List (List Zae)) (mask u:Int):List Int:=if 0≤u∧u<O.length then ZcL (((Go.Gm.nth O u.toNat).filter fun e=>ofB mask e.kind).map Zae.node) else []
theorem dgNodesOf_c (l:List Zae) (mask:Int) (hl:l.length≤1000000):FnP Tryz.prog 279 [.sl Zaq l,.int .i64 mask] (.sl Zo (ZcL ((l.filter fun e=>ofB mask e.kind).map Zae.node))):=by
 refine FnP.mk Tryz.func279 rfl Tryz.ntmps279 rfl ?_
 intro B a w F hB hfr hS
 refine wp_seq ?_
 refine Zb hS (qC qZ) hB [4,1,0] [0] rfl rfl fun a w F hS=>Za (wp_seq ?_)
 refine Zb hS (qC qZ) hB [5,4,1,0] [0] rfl rfl fun a w F hS=>Za (wp_seq (wp_seq ?_))
 refine Zb hS (qM rfl rfl (qu Tryz.underlying273 r1 (qJ qZ))) hB [10,9,8,5,4,1] [0] rfl rfl fun a w F hS=>Za (wp_block ?_)
 replace hS:=hS.fresh 50 rfl
 replace hS:=hS.turn 50 rfl (Zbj (T:=3) (sz:=1) (R:=Zo))
 refine Zl (σ:=(Nat)×(Value)×(List Int)) [1,4,8,9] [0] (fun s=>[(10,.pv (.int .i64 (s.1:Int))),(5,.pv (.is s.2.1))]) (fun s=>[(50,.ob (.val s.2.1) (Zu 3 1 Zo s.2.2))]) (fun s=>s.1≤l.length∧(s.2.2=(((l.take s.1).filter fun e=>ofB mask e.kind).map Zae.node))) (fun s=>l.length - s.1) ((0),(.slice none 0 0),([])) hS ⟨rfl,rfl,rfl,rfl,rfl,rfl,trivial⟩ ⟨rfl,rfl,trivial⟩ ⟨Nat.zero_le _,rfl⟩ ?_
 clear hS;intro s a w F hC hS
 obtain ⟨i,v,out⟩:=s
 try dsimp only at hC
 obtain ⟨F,hS⟩:=hS.nm [10,9,8,5,4,1] [50,0] rfl rfl
 try dsimp only at hS
 obtain ⟨hi,hq⟩:=hC
 have hol:out.length≤i:=by rw [hq,List.length_map];exact Nat.le_trans (List.length_filter_le _ _) (by rw [List.length_take];omega)
 refine wp_seq ?_
 refine Zb hS (qL r2) hB [11,10,9,8,5,4,1] [50,0] rfl rfl fun a w F hS=>Za (wp_seq ?_)
 refine Zd hS rfl (fun hc0=>?_) (fun hc0=>?_)
 ·skip
  have hil:i<l.length:=by simp at hc0;omega
  refine wp_skip (Za (wp_seq (wp_block (wp_seq ?_))))
  refine Zc hS (qy 3 Tryz.underlying273 r2 (qf (oR true 3 .t) r1 qz (qf (oH [.int .i64 0,.int .i64 0,.int .i64 0] 101) trivial qz (qS 3 101 r2 r1 qZ)))) hB [10,9,8,7,5,4,1] [101,50,0] (fun _=>rfl) (fun _=>rfl) fun τ a w F hS=>?_
  try dsimp only [RS.sub,SF.sub,CF.sub,csub,Anc.sub,List.map,Zf,xL,xM,Nat.reduceAdd,xD,xE,xT,xU,xC,xN,zCF,ldSF,Zaq,ZaV,Zo,ZbE] at hS
  generalize τ 7=v7 at hS
  try simp only [Int.toNat_natCast] at hS
  refine Za (wp_seq ?_)
  refine Zb hS (qM rfl rfl (qg 0 101 r1 r1 (qa 101 r1 r1 (qf (oP (Zrn mask (Go.Gm.nth l i).kind) Tryz.func302 (Args.two .t .t)) r2 qz qZ)))) hB [17,10,9,8,7,5,4,1] [101,50,0] rfl rfl fun a w F hS=>Za ?_
  refine Zd hS rfl (fun hc1=>?_) (fun hc1=>?_)
  ·skip
   have hBq:ofB mask (Go.Gm.nth l i).kind=true:=by simpa using hc1
   refine Zc hS (qM rfl rfl (qg 2 101 r1 r1 (qa 101 r1 r1 (qf (Zt (sz:=1) (zs:=[.int .i64 0]) (r:=[(0,.tmp 20)]) (l:=[_]) Tryz.underlying34 (by kernel_rfl) (by kernel_rfl) (by kernel_rfl) (by kernel_rfl) rfl rfl (.one rfl .t one_int (by kernel_rfl) .nil) rfl) r1 qz (qf (ZV (sz:=1) (bs:=8) 50 (.mk' Tryz.underlying34 (by kernel_rfl) (by kernel_rfl)) (by intro x;rfl) .is (.arr (l':=[_]) .t) (by simp only [List.length_append,List.length_cons,List.length_nil,List.length_take,List.length_drop];omega) (by decide)) ⟨rfl,rfl,trivial⟩ ⟨rfl,trivial⟩ (qN rfl rfl qZ)))))) hB [10,9,8,5,4,1] [101,50,0] (fun _=>rfl) (fun _=>rfl) fun τ a w F hS=>?_
   try dsimp only [RS.sub,SF.sub,CF.sub,csub,Anc.sub,List.map,Zf,xL,xM,Nat.reduceAdd,xD,xE,xT,xU,xC,xN,zCF,ldSF,Zaq,ZaV,Zo,ZbE] at hS
   generalize τ 22=v22 at hS
   refine Zj (Za ?_)
   refine Zb hS (qp r1 (qM rfl rfl qZ)) hB [10,9,8,5,4,1] [101,50,0] rfl rfl fun a w F hS=>Za ?_
   replace hS:=hS.ent (i:=10) (s':=.pv (.int .i64 ((i+1:Nat):Int))) rfl (.int (Ze (by omega)))
   obtain ⟨F,hS⟩:=hS.nm [9,8,4,1,5,10] [0,50] rfl rfl
   exact ⟨((i+1),_,_),F,⟨by omega,(by rw [Zv hil,List.filter_append,List.map_append,← hq];simp [hBq])⟩,hS,by omega⟩
  have hBq:ofB mask (Go.Gm.nth l i).kind=false:=by simpa using hc1
  refine wp_skip (Zj (Za ?_))
  refine Zb hS (qp r1 (qM rfl rfl qZ)) hB [10,9,8,5,4,1] [101,50,0] rfl rfl fun a w F hS=>Za ?_
  replace hS:=hS.ent (i:=10) (s':=.pv (.int .i64 ((i+1:Nat):Int))) rfl (.int (Ze (by omega)))
  obtain ⟨F,hS⟩:=hS.nm [9,8,4,1,5,10] [0,50] rfl rfl
  exact ⟨((i+1),_,_),F,⟨by omega,(by rw [Zv hil,List.filter_append,List.map_append,← hq];simp [hBq])⟩,hS,by omega⟩
 have hil:i=l.length:=by simp at hc0;omega
 refine wp_exit (Zh (Zh (Zp (Za (wp_seq ?_)))))
 refine Zb hS (qM rfl rfl (qf (Zbe 50 (Zjz _ out (by omega)) Tryz.func65 rfl (by kernel_rfl) (Args.one .t)) r1 r1 qZ)) hB [5,4] [50,0] rfl rfl fun a w F hS=>Za (wp_seq ?_)
 refine Zc hS (qM rfl rfl (qf (o_callRowN 50 (ZmC _ _ (by rw [List.length_mergeSort];omega)) Tryz.func185 rfl (by kernel_rfl) (Args.one .t) pvOne1) r1 r1 (qN rfl rfl qZ))) hB [4] [50,0] (fun _=>rfl) (fun _=>rfl) fun τ a w F hS=>?_
 try dsimp only [RS.sub,SF.sub,CF.sub,csub,Anc.sub,List.map,Zaq,ZaV,Zo,ZbE] at hS
 generalize τ 27=v27 at hS
 refine Za (wp_ret ?_)
 obtain ⟨F,hS⟩:=hS.give 50 4 rfl rfl
 refine Zw hfr hS rfl rfl rfl (.sl (by rw [ZdU,ZeI,hq,hil,List.take_length]))
theorem ZoO (O I:List (List Zae)) (m:Nat) (u mask:Int) (hO:∀ l ∈ O,l.length≤1000000):FnP Tryz.prog 235 [Zjw O I m,.int .i64 u,.int .i64 mask] (.sl Zo (Zfy O mask u)):=by
 refine FnP.mk Tryz.func235 rfl Tryz.ntmps235 rfl ?_
 intro B a w F hB hfr hS
 refine wp_seq ?_
 refine Zb hS (qC qZ) hB [6,2,1,0] [0] rfl rfl fun a w F hS=>Za (wp_seq (wp_seq ?_))
 refine Zb hS (qM rfl rfl (qM rfl rfl (qf (oP (ZgW O I m u) Tryz.func275 (Args.two .t .t)) r2 qz (qf (o_not .t) r1 qz qZ)))) hB [10,6,2,1,0] [0] rfl rfl fun a w F hS=>Za ?_
 refine Zd hS rfl (fun hc0=>?_) (fun hc0=>?_)
 ·skip
  have hg:[] = Zfy O mask u:=by unfold Zfy;rw [if_neg (by have h9:=hc0;simp at h9;omega)]
  refine wp_seq ?_
  refine Zb hS (qC qZ) hB [6,2,1,0] [0] rfl rfl fun a w F hS=>Za (wp_ret (Zi ?_))
  refine Zw hfr hS rfl rfl rfl (.trans .nilSl (.sl hg))
 have hth:0≤u∧u<O.length:=by simpa using hc0
 have hg:(ZcL (((Go.Gm.nth O u.toNat).filter fun e=>ofB mask e.kind).map Zae.node))=Zfy O mask u:=by unfold Zfy;rw [if_pos hth]
 refine wp_skip (Za (wp_seq ?_))
 refine Zb hS (qM rfl rfl (qf (ZP .t) r1 qz (qf (oG 0 .t) r1 qz (qf (oR false 1 .t) r1 qz (qM rfl rfl (qf (o_indexAddr_sl (sz:=1) (.mk Tryz.underlying266 (by kernel_rfl)) (by intro x;rfl) .t .t (by exact hth.1) (by exact hth.2)) r2 qz (qf (oR false 1 .t) r1 qz (qM rfl rfl (qf (oP (dgNodesOf_c (Go.Gm.nth O u.toNat) mask (hO _ (nth_mem (by omega)))) Tryz.func279 (Args.two .t .t)) r2 qz (qN rfl rfl qZ)))))))))) hB [6] [0] rfl rfl fun a w F hS=>?_
 try simp only [Int.toNat_natCast] at hS
 refine Za (wp_ret ?_)
 refine Zw hfr hS rfl rfl rfl (.sl hg)
def Zbn:Zn:=⟨[],[]⟩
theorem ZR {g:Zn} (h:ZG g):Zb8 TxD.id g.txs∧Zb8 OrdD.key g.orders:=by
 constructor
 · have hi:Zg5 (g.txs.map TxD.id):=Ze8 fun i hi h0=>by
     have hi':i<g.txs.length:=by simpa using hi
     rw [ZbR (by omega),ZbR hi']
     exact (h.2.1 i hi').1 h0
   rw [ZE]
   exact List.pairwise_map.1 hi
 · have h2:=(Zcz g).2 h.2.2
   have hi:Zg5 (g.orders.map OrdD.key):=Ze8 fun i hi h0=>by
     have hi':i<g.orders.length:=by simpa using hi
     rw [ZbR (by omega),ZbR hi']
     exact (h2.2 i hi').1 h0
   rw [ZE]
   exact List.pairwise_map.1 hi
def Zia (t:TxD) (v:ZbB):Bool:=decide (v.tx=t.id) && decide ((wcnt t.ops v.key:Int)<v.nth)
def ZiE (t x:TxD):Bool:=decide (x.id≠t.id) && (ZaE x).any (Zia t)
def Zeh (g:Zn) (t:TxD):Bool:=g.txs.any (ZiE t)
theorem Zjx {α:Type} [Inhabited α] {p:α→Bool} {l:List α} (h:∀ q,q<l.length→p (Go.Gm.nth l q)=false):l.any p=false:=by
 rw [List.any_eq_false]
 intro x hx
 obtain ⟨k,hk,e⟩:=List.getElem_of_mem hx
 have:=h k hk
 rw [nth_eq hk,e] at this
 simp [this]
theorem Zjn {α:Type} [Inhabited α] {p:α→Bool} {l:List α} {i:Nat} (hi:i<l.length) (h:p (Go.Gm.nth l i)=true):l.any p=true:=by
 rw [List.any_eq_true]
 exact ⟨_,nth_mem hi,h⟩
def mayH (g:Zn) (t:TxD) (there:Int) (wanted:Bool):Int×Int:=if ¬ ZG g then (0,5) else if Zai t≠0 then (0,Zai t) else if isK TxD.id t.id g.txs≠wanted then (0,there) else if Zdf g t=false then (0,6) else (lowK TxD.id t.id g.txs,0)
def Zm8 (g:Zn) (t:TxD):Zn×Int:=if (mayH g t 4 false).2≠0 then (Zbn,(mayH g t 4 false).2) else if g.txs.length=4096 then (Zbn,2) else (⟨g.txs.take (lowK TxD.id t.id g.txs) ++ [t] ++ g.txs.drop (lowK TxD.id t.id g.txs),settleO t g.orders⟩,0)
def Zbx (id:Int):TxD:=⟨id,false,[]⟩
def ZO (g:Zn) (id:Int):Zn×Int:=if ¬ ZG g then (Zbn,5) else if isK TxD.id id g.txs=false then (Zbn,3) else if Zeh g (Zbx id)=true then (Zbn,7) else (⟨g.txs.take (lowK TxD.id id g.txs)++g.txs.drop (lowK TxD.id id g.txs+1),settleO (Zbx id) g.orders⟩,0)
def Zan (g:Zn) (t:TxD):Zn×Int:=if (mayH g t 3 true).2≠0 then (Zbn,(mayH g t 3 true).2) else if Zeh g t=true then (Zbn,7) else (⟨g.txs.set (lowK TxD.id t.id g.txs) t,settleO t g.orders⟩,0)
theorem ZpA {g:Zn} {t:TxD} {there:Int} {wanted:Bool} (ht:there≠0) (h:(mayH g t there wanted).2=0):ZG g∧Zai t=0∧isK TxD.id t.id g.txs=wanted∧Zdf g t=true∧(mayH g t there wanted).1=lowK TxD.id t.id g.txs:=by
 unfold mayH at h ⊢
 split at h
 · simp at h
 · rename_i h1
   split at h
   · rename_i h2;exact absurd h h2
   · rename_i h2
     split at h
     · exact absurd h ht
     · rename_i h3
       split at h
       · simp at h
       · rename_i h4
         rw [if_neg h1,if_neg h2,if_neg h3,if_neg h4]
         exact ⟨Decidable.not_not.1 h1,Decidable.not_not.1 h2,Decidable.not_not.1 h3,by simpa using h4,rfl⟩
theorem Zit {α:Type} [Inhabited α] {κ:α→Int} {k:Int} {l:List α} (hs:Zb8 κ l) (h:isK κ k l=true):lowK κ k l<l.length∧κ (Go.Gm.nth l (lowK κ k l))=k:=by
 obtain ⟨x,hx,hk⟩:=List.any_eq_true.1 h
 obtain ⟨q,hq,e⟩:=List.getElem_of_mem hx
 have hk':κ (Go.Gm.nth l q)=k:=by rw [nth_eq hq,e];simpa using hk
 have hl:=ZeF (κ:=κ) (k:=k) (l:=l) (i:=q) (Nat.le_of_lt hq) (fun p hp=>by have:=hs p q hp hq;omega) (fun p hp hp2=>by have:=ZcV hs hp hp2;omega)
 rw [hl]
 exact ⟨hq,hk'⟩
theorem Zpy (g:Zn) (t:TxD) (hs:ZaH g.txs) (ht:t.ops.length≤1000):FnP Tryz.prog 70 [.agg (Zr g),.agg (rTx t)] (.bool (Zeh g t)):=by
 refine FnP.mk Tryz.func70 rfl Tryz.ntmps70 rfl ?_
 intro B a w F hB hfr hS
 have hsl:=hs.1
 have hnl:∀ x:TxD,x.ops.length≤1000→(ZaE x).length≤1000:=fun x hx=>by have:=ZfR x.id x.ops x.ops.length;rw [List.take_length] at this;unfold ZaE;omega
 refine wp_seq ?_
 refine Zc hS (qx 101 r1 (qx 102 r1 qB)) hB [4,3,2] [102,101,0] (fun _=>rfl) (fun _=>rfl) fun τ a w F hS=>?_
 try dsimp only [RS.sub,SF.sub,CF.sub,csub,Anc.sub,List.map,zCF,Zr,rTx,ZF,ZS,Zo,rOp] at hS
 generalize τ 2=v2 at hS
 generalize τ 3=v3 at hS
 refine Za (wp_seq (wp_seq ?_))
 refine Zb hS (qg 0 101 r1 r1 (qa 101 r1 r1 (qu Tryz.underlying27 r1 (qJ qZ)))) hB [12,11,10,4,3] [102,101,0] rfl rfl fun a w F hS=>Za (wp_block ?_)
 refine Zl (σ:=(Nat)) [3,4,10,11] [0,101,102] (fun s=>[(12,.pv (.int .i64 (s:Int)))]) (fun s=>[]) (fun s=>s≤g.txs.length∧(∀ q,q<s→ZiE t (Go.Gm.nth g.txs q)=false)) (fun s=>g.txs.length - s) (0) hS ⟨rfl,rfl,rfl,rfl,rfl,trivial⟩ ⟨rfl,rfl,rfl,trivial⟩ ⟨Nat.zero_le _,fun q hq=>absurd hq (Nat.not_lt_zero q)⟩ ?_
 clear hS;intro i a w F hC hS
 try dsimp only at hC
 obtain ⟨F,hS⟩:=hS.nm [12,11,10,4,3] [102,101,0] rfl rfl
 try dsimp only at hS
 obtain ⟨hi,hq⟩:=hC
 refine wp_seq ?_
 refine Zb hS (qL r2) hB [13,12,11,10,4,3] [102,101,0] rfl rfl fun a w F hS=>Za (wp_seq ?_)
 refine Zd hS rfl (fun hc0=>?_) (fun hc0=>?_)
 ·skip
  have hil:i<g.txs.length:=by simp at hc0;omega
  have hio:=hil
  have hqo:=hq
  have hnl2:=hnl (Go.Gm.nth g.txs i) (by have:=hs.at hio;omega)
  refine wp_skip (Za (wp_seq (wp_block (wp_seq ?_))))
  refine Zc hS (qy 3 Tryz.underlying27 r2 (qf (oR true 3 .t) r1 qz (qf (oH [.int .i64 0,.bool false,.slice none 0 0] 103) trivial qz (qS 3 103 r2 r1 qZ)))) hB [12,11,10,6,4,3] [103,102,101,0] (fun _=>rfl) (fun _=>rfl) fun τ a w F hS=>?_
  try dsimp only [RS.sub,SF.sub,CF.sub,csub,Anc.sub,List.map,Zf,xL,xM,Nat.reduceAdd,xD,xE,xT,xU,xC,xN,zCF,ldSF,Zr,rTx,ZF,ZS,Zo,rOp] at hS
  generalize τ 6=v6 at hS
  try simp only [Int.toNat_natCast] at hS
  refine Za (wp_seq ?_)
  refine Zb hS (qe 3 103 r1 r1 (qf (oP (Zh2 (Go.Gm.nth g.txs i) (by have:=hs.at hio;omega)) Tryz.func57 (Args.one (.pagg .t))) r1 qz (qu Tryz.underlying48 r1 (qJ qZ)))) hB [19,18,17,12,11,10,6,4,3] [103,102,101,0] rfl rfl fun a w F hS=>Za (wp_block ?_)
  refine Zl (σ:=(Nat)) [3,4,6,10,11,12,17,18] [0,101,102,103] (fun s=>[(19,.pv (.int .i64 (s:Int)))]) (fun s=>[]) (fun s=>s≤(ZaE (Go.Gm.nth g.txs i)).length∧((Go.Gm.nth g.txs i).id≠t.id → ∀ q,q<s→Zia t (Go.Gm.nth (ZaE (Go.Gm.nth g.txs i)) q)=false)) (fun s=>(ZaE (Go.Gm.nth g.txs i)).length - s) (0) hS ⟨rfl,rfl,rfl,rfl,rfl,rfl,rfl,rfl,rfl,trivial⟩ ⟨rfl,rfl,rfl,rfl,trivial⟩ ⟨Nat.zero_le _,fun _ q hq=>absurd hq (Nat.not_lt_zero q)⟩ ?_
  clear hS;intro j a w F hC hS
  try dsimp only at hC
  obtain ⟨F,hS⟩:=hS.nm [19,18,17,12,11,10,6,4,3] [103,102,101,0] rfl rfl
  try dsimp only at hS
  obtain ⟨hi,hq⟩:=hC
  have hq2:=hq
  refine wp_seq ?_
  refine Zb hS (qL r2) hB [20,19,18,17,12,11,10,6,4,3] [103,102,101,0] rfl rfl fun a w F hS=>Za (wp_seq ?_)
  refine Zd hS rfl (fun hc1=>?_) (fun hc1=>?_)
  ·skip
   have hil:j<(ZaE (Go.Gm.nth g.txs i)).length:=by simp at hc1;omega
   have hjo:=hil
   refine wp_skip (Za (wp_seq (wp_block (wp_seq ?_))))
   refine Zc hS (qy 3 Tryz.underlying48 r2 (qf (oR true 3 .t) r1 qz (qf (oH [.int .i64 0,.int .i64 0,.int .i64 0] 104) trivial qz (qS 3 104 r2 r1 qZ)))) hB [19,18,17,12,11,10,8,6,4,3] [104,103,102,101,0] (fun _=>rfl) (fun _=>rfl) fun τ a w F hS=>?_
   try dsimp only [RS.sub,SF.sub,CF.sub,csub,Anc.sub,List.map,Zf,xL,xM,Nat.reduceAdd,xD,xE,xT,xU,xC,xN,zCF,ldSF,Zr,rTx,ZF,ZS,Zo,rOp] at hS
   generalize τ 8=v8 at hS
   try simp only [Int.toNat_natCast] at hS
   refine Za (wp_seq ?_)
   refine Zy hS (qg 0 103 r1 r1 (qa 103 r1 r1 (qg 0 102 r1 r1 (qa 102 r1 r1 (qf (o_neq .t .t) r2 qz (qM rfl rfl (qv 0 104 rfl r2 r1 (qw 104 rfl r2 r1 (qv 0 102 rfl r2 r1 (qw 102 rfl r2 r1 (qk rfl (fun h=>o_eql (.w h) (.w h)) r3 qz (qf (ZN .t .t) r2 qz (qM rfl rfl (qv 2 104 rfl r2 r1 (qw 104 rfl r2 r1 (qk rfl (fun h=>oL true 3 102 .is) r2 r1 (qv 1 104 rfl r2 r1 (qw 104 rfl r2 r1 (qk rfl (fun h=>oP (Zc6 t (Go.Gm.nth (ZaE (Go.Gm.nth g.txs i)) j).key (by omega)) Tryz.func60 (Args.two (.pagg (.w h)) (.w h))) r3 qz (qk rfl (fun h=>Zbi (.w h) (.w h)) r3 qz (qf (ZN .t .t) r2 qz qZ))))))))))))))))))))) hB [43,19,18,17,12,11,10,6,4,3] [104,103,102,101,0] rfl rfl fun a w F hS=>?_
   try dsimp only [List.map,xD,xE,xT,xU,ldSF,Zr,rTx,ZF,ZS,Zo,rOp] at hS
   refine Za ?_
   refine Zd hS rfl (fun hc2=>?_) (fun hc2=>?_)
   ·skip
    have hg:true=Zeh g t:=(Zjn hio (by
      have h9:=hc2
      simp at h9
      unfold ZiE
      rw [decide_eq_true h9.1.1,Bool.true_and]
      refine Zjn hjo ?_
      unfold Zia wcnt
      simp [h9.1.2]
      first | exact h9.2 | (have:=h9.2;omega))).symm
    refine wp_seq ?_
    refine Zb hS qB hB [19,18,17,12,11,10,6,4,3] [104,103,102,101,0] rfl rfl fun a w F hS=>Za (wp_ret (Zs (Zi (Zi (Zs (Zs (Zi (Zi (Zs (Zi ?_))))))))))
    refine Zw hfr hS rfl rfl rfl (.bool hg)
   have hnv:(Go.Gm.nth g.txs i).id≠t.id→Zia t (Go.Gm.nth (ZaE (Go.Gm.nth g.txs i)) j)=false:=by
     intro hne
     have h9:=hc2
     unfold Zia wcnt
     simp [hne] at h9 ⊢
     first | exact h9 | (intro e;have:=h9 e;omega)
   refine wp_skip (Zj (Za ?_))
   refine Zb hS (qp r1 (qM rfl rfl qZ)) hB [19,18,17,12,11,10,6,4,3] [104,103,102,101,0] rfl rfl fun a w F hS=>Za ?_
   replace hS:=hS.ent (i:=19) (s':=.pv (.int .i64 ((j+1:Nat):Int))) rfl (.int (Ze (by omega)))
   obtain ⟨F,hS⟩:=hS.nm [18,17,12,11,10,6,4,3,19] [103,102,101,0] rfl rfl
   exact ⟨(j+1),F,⟨by omega,(fun hne q h9=>by rcases Nat.lt_or_eq_of_le (Nat.le_of_lt_succ h9) with h8 | h8;exact hq2 hne q h8;rw [h8];exact hnv hne)⟩,hS,by omega⟩
  have hil:j=(ZaE (Go.Gm.nth g.txs i)).length:=by simp at hc1;omega
  have hno:ZiE t (Go.Gm.nth g.txs i)=false:=by
    unfold ZiE
    by_cases hne:(Go.Gm.nth g.txs i).id≠t.id
    · rw [Zjx (by rw [← hil];exact hq2 hne),Bool.and_false]
    · rw [decide_eq_false hne,Bool.false_and]
  refine wp_exit (Zh (Zh (Zp (Zj (Za ?_)))))
  refine Zb hS (qp r1 (qM rfl rfl qZ)) hB [12,11,10,4,3] [103,102,101,0] rfl rfl fun a w F hS=>Za ?_
  replace hS:=hS.ent (i:=12) (s':=.pv (.int .i64 ((i+1:Nat):Int))) rfl (.int (Ze (by omega)))
  obtain ⟨F,hS⟩:=hS.nm [11,10,4,3,12] [102,101,0] rfl rfl
  exact ⟨(i+1),F,⟨by omega,(fun q h9=>by rcases Nat.lt_or_eq_of_le (Nat.le_of_lt_succ h9) with h8 | h8;exact hqo q h8;rw [h8];exact hno)⟩,hS,by omega⟩
 have hil:i=g.txs.length:=by simp at hc0;omega
 have hg:false=Zeh g t:=(Zjx (by rw [← hil];exact hq)).symm
 refine wp_exit (Zh (Zh (Zp (Za (wp_seq ?_)))))
 refine Zb hS qB hB [4] [102,101,0] rfl rfl fun a w F hS=>Za (wp_ret ?_)
 refine Zw hfr hS rfl rfl rfl (.bool hg)
theorem Zr7 (g:Zn) (t:TxD) (there:Int) (wanted:Bool) (hs:Za0 g) (ht:t.ops.length≤1000):FnP Tryz.prog 82 [.agg (Zr g),.agg (rTx t),.int .i64 there,.bool wanted] (.tup [.int .i64 (mayH g t there wanted).1,.int .i64 (mayH g t there wanted).2]):=by
 refine FnP.mk Tryz.func82 rfl Tryz.ntmps82 rfl ?_
 intro B a w F hB hfr hS
 have hsl:=hs.1.1
 refine wp_seq ?_
 refine Zc hS (qx 101 r1 (qx 102 r1 (qI (qI qZ)))) hB [9,8,5,4,3,2] [102,101,0] (fun _=>rfl) (fun _=>rfl) fun τ a w F hS=>?_
 try dsimp only [RS.sub,SF.sub,CF.sub,csub,Anc.sub,List.map,zCF,Zr,rTx,ZF,ZS,Zo,rOp] at hS
 generalize τ 4=v4 at hS
 generalize τ 5=v5 at hS
 refine Za (wp_seq (wp_seq ?_))
 refine Zb hS (qe 2 101 r1 r1 (qf (oP (Zek g hs) Tryz.func47 (Args.one (.pagg .t))) r1 qz (qf (o_not .t) r1 qz qZ))) hB [15,9,8,5,4,3,2] [102,101,0] rfl rfl fun a w F hS=>Za ?_
 refine Zd hS rfl (fun hc0=>?_) (fun hc0=>?_)
 ·skip
  have hr:¬ ZG g:=by simpa using hc0
  have hg:mayH g t there wanted=(0,5):=by unfold mayH;rw [if_pos hr]
  refine wp_seq ?_
  refine Zb hS (qI (qI qZ)) hB [9,8,5,4,3,2] [102,101,0] rfl rfl fun a w F hS=>Za (wp_ret (Zi ?_))
  refine Zao hfr hS rfl (.tmp rfl (.tmp rfl .nil)) (.two (.int (by rw [hg])) (.int (by rw [hg])))
 have hr:ZG g:=by simpa using hc0
 have hrr:=ZR hr
 refine wp_skip (Za (wp_seq (wp_seq ?_)))
 refine Zb hS (qe 3 102 r1 r1 (qf (oP (Zg7 t) Tryz.func58 (Args.one (.pagg .t))) r1 qz (qN rfl rfl qZ))) hB [10,9,8,5,4,3,2] [102,101,0] rfl rfl fun a w F hS=>Za (wp_seq ?_)
 refine Zb hS (qM rfl rfl (qf (o_neq .t qi) r1 qz qZ)) hB [19,10,9,8,5,4,3,2] [102,101,0] rfl rfl fun a w F hS=>Za ?_
 refine Zd hS rfl (fun hc1=>?_) (fun hc1=>?_)
 ·skip
  have hrt:Zai t≠0:=by simpa using hc1
  have hg:mayH g t there wanted=(0,Zai t):=by unfold mayH;rw [if_neg (Decidable.not_not.2 hr),if_pos hrt]
  refine wp_seq ?_
  refine Zb hS (qM rfl rfl (qI (qN rfl rfl qZ))) hB [9,8,5,4,3,2] [102,101,0] rfl rfl fun a w F hS=>Za (wp_ret (Zi ?_))
  refine Zao hfr hS rfl (.tmp rfl (.tmp rfl .nil)) (.two (.int (by rw [hg])) (.int (by rw [hg])))
 have hrt:¬ Zai t≠0:=by simpa using hc1
 refine wp_skip (Za (wp_seq ?_))
 refine Zb hS (qe 2 101 r1 r1 (qg 0 102 r1 r1 (qa 102 r1 r1 (qf (oP (Zl7 g t.id hs.1 hrr.1) Tryz.func69 (Args.two (.pagg .t) .t)) r2 qz (qM rfl rfl (qf (Zq .t rfl) r1 qz (qf (Zq .t rfl) r1 qz (qN rfl rfl (qN rfl rfl qZ))))))))) hB [12,11,9,8,5,4,3,2] [102,101,0] rfl rfl fun a w F hS=>Za (wp_seq (wp_block (wp_seq ?_)))
 refine Zb hS (qM rfl rfl (qM rfl rfl (qf (Zro Tryz.underlying4 .t .t) r2 qz (qN rfl rfl qZ)))) hB [28,11,9,8,5,4,2] [102,101,0] rfl rfl fun a w F hS=>Za ?_
 refine Zd hS rfl (fun hc2=>?_) (fun hc2=>?_)
 ·skip
  have hwt:isK TxD.id t.id g.txs≠wanted:=by simpa using hc2
  have hg:mayH g t there wanted=(0,there):=by unfold mayH;rw [if_neg (Decidable.not_not.2 hr),if_neg hrt,if_pos hwt]
  refine wp_seq ?_
  refine Zb hS (qM rfl rfl (qI (qN rfl rfl qZ))) hB [11,9,8] [102,101,0] rfl rfl fun a w F hS=>Za (wp_ret (Zs (Zi ?_)))
  refine Zao hfr hS rfl (.tmp rfl (.tmp rfl .nil)) (.two (.int (by rw [hg])) (.int (by rw [hg])))
 have hwt:¬ isK TxD.id t.id g.txs≠wanted:=by simpa using hc2
 refine wp_seq ?_
 refine Zb hS (qe 2 101 r1 r1 (qe 3 102 r1 r1 (qf (oP (ZjC g t hs.1 ht) Tryz.func111 (Args.two (.pagg .t) (.pagg .t))) r2 qz (qf (o_not .t) r1 qz (qN rfl rfl qZ))))) hB [33,11,9,8] [102,101,0] rfl rfl fun a w F hS=>Za ?_
 refine Zd hS rfl (fun hc3=>?_) (fun hc3=>?_)
 ·skip
  have hg:mayH g t there wanted=(0,6):=by unfold mayH;rw [if_neg (Decidable.not_not.2 hr),if_neg hrt,if_neg hwt,if_pos (by simpa using hc3)]
  refine wp_seq ?_
  refine Zb hS (qI (qI qZ)) hB [11,9,8] [102,101,0] rfl rfl fun a w F hS=>Za (wp_ret (Zs (Zi ?_)))
  refine Zao hfr hS rfl (.tmp rfl (.tmp rfl .nil)) (.two (.int (by rw [hg])) (.int (by rw [hg])))
 have hg:mayH g t there wanted=(((lowK TxD.id t.id g.txs:Nat):Int),0):=by unfold mayH;rw [if_neg (Decidable.not_not.2 hr),if_neg hrt,if_neg hwt,if_neg (by simpa using hc3)]
 refine wp_skip (Zj (Za (wp_seq ?_)))
 refine Zb hS (qM rfl rfl (qN rfl rfl (qI qZ))) hB [9,8] [102,101,0] rfl rfl fun a w F hS=>Za (wp_ret ?_)
 refine Zao hfr hS rfl (.tmp rfl (.tmp rfl .nil)) (.two (.int (by rw [hg])) (.int (by rw [hg])))
theorem Znp (g:Zn) (id:Int) (hs:Za0 g):FnP Tryz.prog 23 [.agg (Zr g),.int .i64 id] (.tup [.agg (Zr (ZO g id).1),.int .i64 (ZO g id).2]):=by
 refine FnP.mk Tryz.func23 rfl Tryz.ntmps23 rfl ?_
 intro B a w F hB hfr hS
 have hsl:=hs.1.1
 refine wp_seq ?_
 refine Zc hS (qx 101 r1 (qf (oH [.slice none 0 0,.slice none 0 0] 102) trivial qz (qI qZ))) hB [5,4,2,1] [102,101,0] (fun _=>rfl) (fun _=>rfl) fun τ a w F hS=>?_
 try dsimp only [RS.sub,SF.sub,CF.sub,csub,Anc.sub,List.map,zCF,Zr,rTx,ZF,ZS,Zo,rOp] at hS
 generalize τ 2=v2 at hS
 generalize τ 4=v4 at hS
 refine Za (wp_seq (wp_seq ?_))
 refine Zb hS (qe 2 101 r1 r1 (qf (oP (Zek g hs) Tryz.func47 (Args.one (.pagg .t))) r1 qz (qf (o_not .t) r1 qz qZ))) hB [11,5,4,2,1] [102,101,0] rfl rfl fun a w F hS=>Za ?_
 refine Zd hS rfl (fun hc0=>?_) (fun hc0=>?_)
 ·skip
  have hr:¬ ZG g:=by simpa using hc0
  have hg:ZO g id=(Zbn,5):=by unfold ZO;rw [if_pos hr]
  refine wp_seq ?_
  refine Zb hS (qf (oB [] [.slice none 0 0,.slice none 0 0] [(0,1),(1,1)] .nil) trivial qz (qs 2 102 r2 r1 (qI qZ))) hB [5,4,2,1] [102,101,0] rfl rfl fun a w F hS=>Za (wp_ret (Zi ?_))
  refine Zao hfr hS rfl (.cl 102 true 2 rfl rfl (.tmp rfl .nil)) (.two (by rw [hg];first | exact .aggU rfl rfl | exact .aggLe rfl ⟨Zcu.nilSl,Zcu.nilSl,trivial⟩) (.int (by rw [hg])))
 have hr:ZG g:=by simpa using hc0
 have hrr:=ZR hr
 refine wp_skip (Za (wp_seq ?_))
 refine Zb hS (qe 2 101 r1 r1 (qM rfl rfl (qf (oP (Zl7 g id hs.1 hrr.1) Tryz.func69 (Args.two (.pagg .t) .t)) r2 qz (qM rfl rfl (qf (Zq .t rfl) r1 qz (qf (Zq .t rfl) r1 qz (qN rfl rfl (qN rfl rfl qZ)))))))) hB [7,6,5,4,2,1] [102,101,0] rfl rfl fun a w F hS=>Za (wp_seq (wp_block (wp_seq ?_)))
 refine Zb hS (qM rfl rfl (qf (o_not .t) r1 qz (qN rfl rfl qZ))) hB [19,6,5,4,2,1] [102,101,0] rfl rfl fun a w F hS=>Za ?_
 refine Zd hS rfl (fun hc1=>?_) (fun hc1=>?_)
 ·skip
  have hik:isK TxD.id id g.txs=false:=by simpa using hc1
  have hg:ZO g id=(Zbn,3):=by unfold ZO;rw [if_neg (Decidable.not_not.2 hr),if_pos hik]
  refine wp_seq ?_
  refine Zb hS (qf (oB [] [.slice none 0 0,.slice none 0 0] [(0,1),(1,1)] .nil) trivial qz (qs 2 102 r2 r1 (qI qZ))) hB [6,5,4,2,1] [102,101,0] rfl rfl fun a w F hS=>Za (wp_ret (Zs (Zi ?_)))
  refine Zao hfr hS rfl (.cl 102 true 2 rfl rfl (.tmp rfl .nil)) (.two (by rw [hg];first | exact .aggU rfl rfl | exact .aggLe rfl ⟨Zcu.nilSl,Zcu.nilSl,trivial⟩) (.int (by rw [hg])))
 have hik:isK TxD.id id g.txs=true:=by simpa using hc1
 have hlk:=(Zit hrr.1 hik).1
 refine wp_seq ?_
 refine Zb hS (qe 2 101 r1 r1 (qM rfl rfl (qf (oB [(0,.tmp 25)] [.int .i64 0,.bool false,.slice none 0 0] [(0,1),(1,1),(2,1)] (.one rfl .t one_int (by kernel_rfl) .nil)) r1 qz (qf (oP (Zpy g (Zbx id) hs.1 (by simp [Zbx])) Tryz.func70 (Args.two (.pagg .t) (.conv (.pagg .t) (Ent.paggLe (l:=[.int .i64 id,.bool false,.is (.slice none 0 0)]) (l':=[.int .i64 id,.bool false,.sl rOp []]) ⟨Zcu.refl,Zcu.refl,Zcu.nilSl,trivial⟩)))) r2 qz (qN rfl rfl qZ))))) hB [23,6,5,4,2,1] [102,101,0] rfl rfl fun a w F hS=>Za ?_
 refine Zd hS rfl (fun hc2=>?_) (fun hc2=>?_)
 ·skip
  have hg:ZO g id=(Zbn,7):=by unfold ZO;rw [if_neg (Decidable.not_not.2 hr),if_neg (by rw [hik];simp),if_pos (by simpa using hc2)]
  refine wp_seq ?_
  refine Zb hS (qf (oB [] [.slice none 0 0,.slice none 0 0] [(0,1),(1,1)] .nil) trivial qz (qs 2 102 r2 r1 (qI qZ))) hB [6,5,4,2,1] [102,101,0] rfl rfl fun a w F hS=>Za (wp_ret (Zs (Zi ?_)))
  refine Zao hfr hS rfl (.cl 102 true 2 rfl rfl (.tmp rfl .nil)) (.two (by rw [hg];first | exact .aggU rfl rfl | exact .aggLe rfl ⟨Zcu.nilSl,Zcu.nilSl,trivial⟩) (.int (by rw [hg])))
 have hg:ZO g id=(⟨g.txs.take (lowK TxD.id id g.txs)++g.txs.drop (lowK TxD.id id g.txs+1),settleO (Zbx id) g.orders⟩,0):=by unfold ZO;rw [if_neg (Decidable.not_not.2 hr),if_neg (by rw [hik];simp),if_neg (by simpa using hc2)]
 refine wp_skip (Zj (Za (wp_seq ?_)))
 replace hS:=hS.fresh 103 rfl
 refine Zc hS (qe 2 101 r1 r1 (qf (Zkc 103 (Zlf g hs) Tryz.func71 rfl (by kernel_rfl) (Args.one (.pagg .t))) r1 r1 (qf (oH [.slice none 0 0,.slice none 0 0] 104) trivial qz (qf (oA 2 104 .same (.conv .t (Ent.fnAgg (.fn (.fn .nil))))) r2 r1 qZ)))) hB [8,6,5,4,1] [104,103,102,101,0] (fun _=>rfl) (fun _=>rfl) fun τ a w F hS=>?_
 try dsimp only [RS.sub,SF.sub,CF.sub,csub,Anc.sub,List.map,Zf,xL,xM,Nat.reduceAdd,xD,xE,xT,xU,xC,xN,zCF,ldSF,Zr,rTx,ZF,ZS,Zo,rOp] at hS
 generalize τ 8=v8 at hS
 generalize τ 30=v30 at hS
 replace hS:=hS.turn 103 rfl (r':=RS.hp (HP.star [.ob (.val (cellN 0 v30)) (Zu 33 3 rTx g.txs),.ob (.val (cellN 1 v30)) (Zu 36 2 ZF g.orders)])) (fun _ _ _ _ h=>h)
 obtain ⟨F,hS⟩:=hS.peel 103 70 rfl rfl
 obtain ⟨F,hS⟩:=hS.peel 103 71 rfl rfl
 obtain ⟨F,hS⟩:=hS.nm [8,6,5,4,1] [104,102,101,71,70,0] rfl rfl
 generalize cellN 0 v30=va at hS
 generalize cellN 1 v30=vb at hS
 refine Za (wp_seq ?_)
 refine Zc hS (qg 0 104 r1 r1 (qa 104 r1 r1 (qM rfl rfl (qM rfl rfl (qp r1 (qf (o_callRowN 70 (ZrG va g.txs (lowK TxD.id id g.txs) (by omega) hlk) Tryz.func72 rfl (by kernel_rfl) (Args.three .t .t (.conv .t (.int (Ze (by omega))))) pvOne1) r3 r1 (qg 0 104 r1 r1 (qf (o_storeS 104 .adr (by kernel_rfl) (by kernel_rfl)) r2 r1 qZ)))))))) hB [8,5,4,1] [104,102,101,71,70,0] (fun _=>rfl) (fun _=>rfl) fun τ a w F hS=>?_
 try dsimp only [RS.sub,SF.sub,CF.sub,csub,Anc.sub,List.map,Zf,xL,xM,Nat.reduceAdd,xD,xE,xT,xU,xC,xN,zCF,ldSF,Zr,rTx,ZF,ZS,Zo,rOp] at hS
 generalize τ 36=v36 at hS
 refine Za (wp_seq ?_)
 replace hS:=hS.fresh 72 rfl
 obtain ⟨F,hS⟩:=hS.push 72 71 rfl rfl rfl rfl
 obtain ⟨F,hS⟩:=hS.push 72 104 rfl rfl rfl rfl
 replace hS:=hS.turn 72 rfl (r':=RS.hp (Zmt 30 36 v8 v36 g.orders)) (fun _ _ _ _ h=>⟨vb,h⟩)
 obtain ⟨F,hS⟩:=hS.nm [8,5,4,1] [102,101,72,70,0] rfl rfl
 refine Zb hS (qM rfl rfl (qf (oB [(0,.tmp 38)] [.int .i64 0,.bool false,.slice none 0 0] [(0,1),(1,1),(2,1)] (.one rfl .t one_int (by kernel_rfl) .nil)) r1 qz (qf (Z5 72 (Zja v8 v36 g.orders (Zbx id) hs.2 hrr.2 (by simp [Zbx])) Tryz.func73 rfl (by kernel_rfl) (Args.two .t (.conv (.pagg .t) (Ent.paggLe (l:=[.int .i64 id,.bool false,.is (.slice none 0 0)]) (l':=[.int .i64 id,.bool false,.sl rOp []]) ⟨Zcu.refl,Zcu.refl,Zcu.nilSl,trivial⟩)))) r2 r1 qZ))) hB [8,5,4] [102,101,72,70,0] rfl rfl fun a w F hS=>?_
 replace hS:=hS.turn 72 rfl (r':=RS.hp (HP.ex fun vb:Value=>HP.star [.pt (.val v8) 30 [.pv (.is v36),.pv (.is vb)],.ob (.val vb) (Zu 36 2 ZF (settleO (Zbx id) g.orders))])) (fun _ _ _ _ h=>h)
 obtain ⟨vb2,hS⟩:=hS.open_ex 72 rfl
 obtain ⟨F,hS⟩:=hS.peel 72 73 rfl rfl
 obtain ⟨F,hS⟩:=hS.peel 72 74 rfl rfl
 obtain ⟨F,hS⟩:=hS.nm [8,5,4] [102,101,74,73,70,0] rfl rfl
 obtain ⟨F,hS⟩:=hS.giveCell 70 73 0 rfl rfl rfl rfl rfl
 try dsimp only [List.set] at hS
 obtain ⟨F,hS⟩:=hS.nm [8,5,4] [102,101,74,73,0] rfl rfl
 obtain ⟨F,hS⟩:=hS.giveCell 74 73 1 rfl rfl rfl rfl rfl
 try dsimp only [List.set] at hS
 obtain ⟨F,hS⟩:=hS.nm [8,5,4] [102,101,73,0] rfl rfl
 refine Za (wp_seq ?_)
 refine Zb hS (qe 2 73 r1 r1 (qs 2 102 r2 r1 (qI qZ))) hB [5,4] [102,101,73,0] rfl rfl fun a w F hS=>Za (wp_ret ?_)
 refine Zao hfr hS rfl (.cl 102 true 2 rfl rfl (.tmp rfl .nil)) (.two (by rw [hg];first | exact .aggU rfl rfl | exact .aggLe rfl ⟨Zcu.nilSl,Zcu.nilSl,trivial⟩) (.int (by rw [hg])))
theorem Zoj (g:Zn) (t:TxD) (hs:Za0 g) (ht:t.ops.length≤1000):FnP Tryz.prog 31 [.agg (Zr g),.agg (rTx t)] (.tup [.agg (Zr (Zan g t).1),.int .i64 (Zan g t).2]):=by
 refine FnP.mk Tryz.func31 rfl Tryz.ntmps31 rfl ?_
 intro B a w F hB hfr hS
 have hsl:=hs.1.1
 refine wp_seq ?_
 refine Zc hS (qx 101 r1 (qx 102 r1 (qf (oH [.slice none 0 0,.slice none 0 0] 103) trivial qz (qI qZ)))) hB [5,4,3,2] [103,102,101,0] (fun _=>rfl) (fun _=>rfl) fun τ a w F hS=>?_
 try dsimp only [RS.sub,SF.sub,CF.sub,csub,Anc.sub,List.map,zCF,Zr,rTx,ZF,ZS,Zo,rOp] at hS
 generalize τ 2=v2 at hS
 generalize τ 3=v3 at hS
 generalize τ 4=v4 at hS
 refine Za (wp_seq ?_)
 refine Zb hS (qe 2 101 r1 r1 (qe 3 102 r1 r1 (qf (oP (Zr7 g t 3 true hs ht) Tryz.func82 (Args.four (.pagg .t) (.pagg .t) qi .cb)) r2 qz (qM rfl rfl (qf (Zq .t rfl) r1 qz (qf (Zq .t rfl) r1 qz (qN rfl rfl (qN rfl rfl qZ)))))))) hB [7,6,5,4,3,2] [103,102,101,0] rfl rfl fun a w F hS=>Za (wp_seq (wp_block (wp_seq ?_)))
 refine Zb hS (qM rfl rfl (qf (o_neq .t qi) r1 qz (qN rfl rfl qZ))) hB [15,7,6,5,4,3,2] [103,102,101,0] rfl rfl fun a w F hS=>Za ?_
 refine Zd hS rfl (fun hc0=>?_) (fun hc0=>?_)
 ·skip
  have hm:(mayH g t 3 true).2≠0:=by simpa using hc0
  have hg:Zan g t=(Zbn,(mayH g t 3 true).2):=by unfold Zan;rw [if_pos hm]
  refine wp_seq ?_
  refine Zb hS (qf (oB [] [.slice none 0 0,.slice none 0 0] [(0,1),(1,1)] .nil) trivial qz (qM rfl rfl (qs 2 103 r2 r1 (qN rfl rfl qZ)))) hB [6,5,4,3,2] [103,102,101,0] rfl rfl fun a w F hS=>Za (wp_ret (Zs (Zi ?_)))
  refine Zao hfr hS rfl (.cl 103 true 2 rfl rfl (.tmp rfl .nil)) (.two (by rw [hg];first | exact .aggU rfl rfl | exact .aggLe rfl ⟨Zcu.nilSl,Zcu.nilSl,trivial⟩) (.int (by rw [hg])))
 have hm:¬ (mayH g t 3 true).2≠0:=by simpa using hc0
 obtain ⟨hr,hrt,hik,hnd,hlo⟩:=ZpA (by decide) (Decidable.not_not.1 hm)
 have hrr:=ZR hr
 have hlk:=ZgP (κ:=TxD.id) (k:=t.id) g.txs
 refine wp_seq ?_
 refine Zb hS (qe 2 101 r1 r1 (qe 3 102 r1 r1 (qf (oP (Zpy g t hs.1 ht) Tryz.func70 (Args.two (.pagg .t) (.pagg .t))) r2 qz (qN rfl rfl qZ)))) hB [20,6,5,4,3,2] [103,102,101,0] rfl rfl fun a w F hS=>Za ?_
 refine Zd hS rfl (fun hc1=>?_) (fun hc1=>?_)
 ·skip
  have hg:Zan g t=(Zbn,7):=by unfold Zan;rw [if_neg hm,if_pos (by simpa using hc1)]
  refine wp_seq ?_
  refine Zb hS (qf (oB [] [.slice none 0 0,.slice none 0 0] [(0,1),(1,1)] .nil) trivial qz (qs 2 103 r2 r1 (qI qZ))) hB [6,5,4,3,2] [103,102,101,0] rfl rfl fun a w F hS=>Za (wp_ret (Zs (Zi ?_)))
  refine Zao hfr hS rfl (.cl 103 true 2 rfl rfl (.tmp rfl .nil)) (.two (by rw [hg];first | exact .aggU rfl rfl | exact .aggLe rfl ⟨Zcu.nilSl,Zcu.nilSl,trivial⟩) (.int (by rw [hg])))
 have hlt:=(Zit hrr.1 hik).1
 have hg:Zan g t=(⟨g.txs.set (((mayH g t 3 true).1).toNat) t,settleO t g.orders⟩,0):=by unfold Zan;rw [if_neg hm,if_neg (by simpa using hc1),hlo,Int.toNat_natCast]
 refine wp_skip (Zj (Za (wp_seq ?_)))
 replace hS:=hS.fresh 104 rfl
 refine Zc hS (qe 2 101 r1 r1 (qf (Zkc 104 (Zlf g hs) Tryz.func71 rfl (by kernel_rfl) (Args.one (.pagg .t))) r1 r1 (qf (oH [.slice none 0 0,.slice none 0 0] 105) trivial qz (qf (oA 2 105 .same (.conv .t (Ent.fnAgg (.fn (.fn .nil))))) r2 r1 qZ)))) hB [8,6,5,4,3] [105,104,103,102,101,0] (fun _=>rfl) (fun _=>rfl) fun τ a w F hS=>?_
 try dsimp only [RS.sub,SF.sub,CF.sub,csub,Anc.sub,List.map,Zf,xL,xM,Nat.reduceAdd,xD,xE,xT,xU,xC,xN,zCF,ldSF,Zr,rTx,ZF,ZS,Zo,rOp] at hS
 generalize τ 8=v8 at hS
 generalize τ 26=v26 at hS
 replace hS:=hS.turn 104 rfl (r':=RS.hp (HP.star [.ob (.val (cellN 0 v26)) (Zu 33 3 rTx g.txs),.ob (.val (cellN 1 v26)) (Zu 36 2 ZF g.orders)])) (fun _ _ _ _ h=>h)
 obtain ⟨F,hS⟩:=hS.peel 104 70 rfl rfl
 obtain ⟨F,hS⟩:=hS.peel 104 71 rfl rfl
 obtain ⟨F,hS⟩:=hS.nm [8,6,5,4,3] [105,103,102,101,71,70,0] rfl rfl
 generalize cellN 0 v26=va at hS
 generalize cellN 1 v26=vb at hS
 refine Za (wp_seq ?_)
 refine Zy hS (qg 0 105 r1 r1 (qa 105 r1 r1 (qM rfl rfl (qe 3 102 r1 r1 (qf (oP (Zgy t (by omega)) Tryz.func81 (Args.one (.pagg .t))) r1 qz (qf (o_indexAddr_row (sz:=3) 70 (.mk Tryz.underlying27 (by kernel_rfl)) .is .t (by rw [hlo];omega) (by rw [hlo];omega) (by rfl)) r2 r1 (qf (ZcX (sz:=3) 70 .t (by intro x;rfl) (by rw [hlo];omega) .t (by kernel_rfl)) r2 r1 qZ))))))) hB [8,5,4,3] [105,103,102,101,71,70,0] rfl rfl fun a w F hS=>?_
 try dsimp only [List.map,Zf,xL,xM,Nat.reduceAdd,xD,xE,xT,xU,xC,xN,zCF,ldSF,Zr,rTx,ZF,ZS,Zo,rOp] at hS
 try simp only [Int.toNat_natCast] at hS
 refine Za (wp_seq ?_)
 replace hS:=hS.fresh 72 rfl
 obtain ⟨F,hS⟩:=hS.push 72 71 rfl rfl rfl rfl
 obtain ⟨F,hS⟩:=hS.push 72 105 rfl rfl rfl rfl
 replace hS:=hS.turn 72 rfl (r':=RS.hp (Zmt 30 36 v8 va g.orders)) (fun _ _ _ _ h=>⟨vb,h⟩)
 obtain ⟨F,hS⟩:=hS.nm [8,5,4,3] [103,102,101,72,70,0] rfl rfl
 refine Zb hS (qe 3 102 r1 r1 (qf (Z5 72 (Zja v8 va g.orders t hs.2 hrr.2 ht) Tryz.func73 rfl (by kernel_rfl) (Args.two .t (.pagg .t))) r2 r1 qZ)) hB [8,5,4] [103,102,101,72,70,0] rfl rfl fun a w F hS=>?_
 replace hS:=hS.turn 72 rfl (r':=RS.hp (HP.ex fun vb:Value=>HP.star [.pt (.val v8) 30 [.pv (.is va),.pv (.is vb)],.ob (.val vb) (Zu 36 2 ZF (settleO t g.orders))])) (fun _ _ _ _ h=>h)
 obtain ⟨vb2,hS⟩:=hS.open_ex 72 rfl
 obtain ⟨F,hS⟩:=hS.peel 72 73 rfl rfl
 obtain ⟨F,hS⟩:=hS.peel 72 74 rfl rfl
 obtain ⟨F,hS⟩:=hS.nm [8,5,4] [103,102,101,74,73,70,0] rfl rfl
 obtain ⟨F,hS⟩:=hS.giveCell 70 73 0 rfl rfl rfl rfl rfl
 try dsimp only [List.set] at hS
 obtain ⟨F,hS⟩:=hS.nm [8,5,4] [103,102,101,74,73,0] rfl rfl
 obtain ⟨F,hS⟩:=hS.giveCell 74 73 1 rfl rfl rfl rfl rfl
 try dsimp only [List.set] at hS
 obtain ⟨F,hS⟩:=hS.nm [8,5,4] [103,102,101,73,0] rfl rfl
 refine Za (wp_seq ?_)
 refine Zb hS (qe 2 73 r1 r1 (qs 2 103 r2 r1 (qI qZ))) hB [5,4] [103,102,101,73,0] rfl rfl fun a w F hS=>Za (wp_ret ?_)
 refine Zao hfr hS rfl (.cl 103 true 2 rfl rfl (.tmp rfl .nil)) (.two (by rw [hg];first | exact .aggU rfl rfl | exact .aggLe rfl ⟨Zcu.nilSl,Zcu.nilSl,trivial⟩) (.int (by rw [hg])))
theorem ZmI (l:List Int) (tx place:Int):(Zo1 l tx place).1.length≤l.length:=by
 unfold Zo1
 split
 · simp
 · split
   · simp
   · rename_i h1 h2
     have hr:=Zkl tx l
     have h3:(l.eraseIdx (Zax tx l).toNat).length=l.length - 1:=by rw [List.length_eraseIdx,if_pos (by omega)]
     show (ZrZ _ _ _).length≤_
     unfold ZrZ
     split
     · rw [List.length_append,List.length_cons,List.length_take,List.length_drop];omega
     · omega
def ZgJ (g:Zn) (key:Int) (rule:List Int→List Int×Int):Zn×Int:=if ¬ ZG g then (Zbn,5) else if isK OrdD.key key g.orders=false then (Zbn,3) else if (rule (Go.Gm.nth g.orders (lowK OrdD.key key g.orders)).txs).2≠0 then (Zbn,(rule (Go.Gm.nth g.orders (lowK OrdD.key key g.orders)).txs).2) else (⟨g.txs,g.orders.set (lowK OrdD.key key g.orders) ⟨(Go.Gm.nth g.orders (lowK OrdD.key key g.orders)).key,(rule (Go.Gm.nth g.orders (lowK OrdD.key key g.orders)).txs).1⟩⟩,0)
def ZrQ (o:OrdD) (l:List Int):List Int×Int:=if l.Perm o.txs then (o.txs,0) else ([],8)
def ZoI (g:Zn) (o:OrdD):Zn×Int:=ZgJ g o.key (ZrQ o)
def Zsh (g:Zn) (key id place:Int):Zn×Int:=ZgJ g key fun l=>Zo1 l id place
section
set_option linter.unusedSectionVars false
variable {α:Type} {κ:α→Int} {t x:α} {l out r:List α} {d:Bool}
def ZcK (κ:α→Int) (t:α):List α→Bool→List α
 | [],d=>if d=true then [] else [t]
 | x :: l,d=>(if d=false∧κ t≤κ x then [t] else [])++(if κ x=κ t then [] else [x])++ZcK κ t l (d || decide (κ t≤κ x))
theorem ZcA:∀ l:List α,ZcK κ t l true=l.filter fun x=>!decide (κ x=κ t)
 | []=>rfl
 | x :: l=>by
   rw [ZcK,if_neg (by simp),List.nil_append,Bool.true_or,ZcA l]
   split
   · rename_i h;rw [List.filter_cons_of_neg (by simpa using h)];rfl
   · rename_i h;rw [List.filter_cons_of_pos (by simpa using h)];rfl
theorem ZcW {k:Int} (h:∀ x ∈ l,k<κ x):(l.filter fun x=>!decide (κ x=k))=l:=by
 rw [List.filter_eq_self]
 intro x hx
 have:=h x hx
 simp;omega
theorem Zfg {k:Int} : lowK κ k (x :: l)=if κ x<k then lowK κ k l+1 else 0:=by
 unfold lowK
 split
 · rename_i h1;rw [List.takeWhile_cons_of_pos (by simpa using h1),List.length_cons]
 · rename_i h1;rw [List.takeWhile_cons_of_neg (by simpa using h1)];rfl
theorem ZaR {k:Int} : isK κ k (x :: l)=(decide (κ x=k) || isK κ k l):=by unfold isK;rw [List.any_cons]
theorem Zjr {k:Int} (h:∀ x ∈ l,k<κ x):isK κ k l=false:=by
 unfold isK
 rw [List.any_eq_false]
 intro x hx
 have:=h x hx
 simp;omega
theorem Zll (hs:l.Pairwise fun a b=>κ a<κ b) (hk:isK κ (κ t) l=false):ZcK κ t l false=l.take (lowK κ (κ t) l) ++ [t] ++ l.drop (lowK κ (κ t) l):=by
 induction l with
 | nil=>rfl
 | cons x l ih=>
   rw [List.pairwise_cons] at hs
   rw [ZaR,Bool.or_eq_false_iff,decide_eq_false_iff_not] at hk
   rw [ZcK,if_neg hk.1,Zfg]
   by_cases h:κ x<κ t
   · rw [if_neg (by omega),if_pos h,show (false || decide (κ t≤κ x))=false by simp;omega,ih hs.2 hk.2];simp
   · rw [if_pos ⟨rfl,by omega⟩,if_neg h,show (false || decide (κ t≤κ x))=true by simp;omega,ZcA,ZcW fun y hy=>by have:=hs.1 y hy;omega];simp
theorem Zl9 (hs:l.Pairwise fun a b=>κ a<κ b) (hk:isK κ (κ t) l=true):ZcK κ t l false=l.set (lowK κ (κ t) l) t:=by
 induction l with
 | nil=>simp [isK] at hk
 | cons x l ih=>
   rw [List.pairwise_cons] at hs
   rw [ZcK,Zfg]
   by_cases h:κ x<κ t
   · rw [ZaR,decide_eq_false (by omega),Bool.false_or] at hk
     rw [if_neg (by omega),if_neg (by omega),if_pos h,show (false || decide (κ t≤κ x))=false by simp;omega,ih hs.2 hk];rfl
   · rw [if_pos ⟨rfl,by omega⟩,if_neg h,show (false || decide (κ t≤κ x))=true by simp;omega,ZcA,ZcW fun y hy=>by have:=hs.1 y hy;omega]
     have hx:κ x=κ t:=by
       refine Decidable.byContradiction fun h9=>?_
       rw [ZaR,decide_eq_false h9,Bool.false_or,Zjr fun y hy=>by have:=hs.1 y hy;omega] at hk
       cases hk
     rw [if_pos hx];rfl
theorem ZcH {k:Int} (hs:l.Pairwise fun a b=>κ a<κ b) (hk:isK κ k l=true):(l.filter fun x=>!decide (κ x=k))=l.take (lowK κ k l)++l.drop (lowK κ k l+1):=by
 induction l with
 | nil=>simp [isK] at hk
 | cons x l ih=>
   rw [List.pairwise_cons] at hs
   rw [Zfg]
   by_cases h:κ x<k
   · rw [ZaR,decide_eq_false (by omega),Bool.false_or] at hk
     rw [List.filter_cons_of_pos (by simp;omega),if_pos h,ih hs.2 hk];rfl
   · have hx:κ x=k:=by
       refine Decidable.byContradiction fun h9=>?_
       rw [ZaR,decide_eq_false h9,Bool.false_or,Zjr fun y hy=>by have:=hs.1 y hy;omega] at hk
       cases hk
     rw [List.filter_cons_of_neg (by simpa using hx),if_neg h,ZcW fun y hy=>by have:=hs.1 y hy;omega];simp
theorem ZhX {y:α} (h:y ∈ ZcK κ t l d):(y=t∧d=false)∨(y ∈ l∧κ y≠κ t):=by
 induction l generalizing d with
 | nil=>cases d <;> simp [ZcK] at h;exact .inl ⟨h,rfl⟩
 | cons x l ih=>
   rw [ZcK,List.mem_append,List.mem_append] at h
   rcases h with (h | h) | h
   · split at h
     · rename_i h1;exact .inl ⟨by simpa using h,h1.1⟩
     · cases h
   · split at h
     · cases h
     · rename_i h1
       have e:y=x:=by simpa using h
       subst e
       exact .inr ⟨by simp,h1⟩
   · rcases ih h with ⟨h1,h2⟩ | ⟨h1,h2⟩
     · rw [Bool.or_eq_false_iff] at h2;exact .inl ⟨h1,h2.1⟩
     · exact .inr ⟨by simp [h1],h2⟩
theorem ZfV (hs:l.Pairwise fun a b=>κ a<κ b):(ZcK κ t l d).Pairwise fun a b=>κ a<κ b:=by
 induction l generalizing d with
 | nil=>cases d <;> simp [ZcK]
 | cons x l ih=>
   rw [List.pairwise_cons] at hs
   have hf:=hs.2.filter fun x=>!decide (κ x=κ t)
   rw [ZcK]
   by_cases hA:d=false∧κ t≤κ x
   · rw [if_pos hA,show (d || decide (κ t≤κ x))=true by simp [hA.2],ZcA]
     have h1:∀ y ∈ l.filter (fun x=>!decide (κ x=κ t)),κ x<κ y:=fun y hy=>hs.1 y (List.mem_filter.1 hy).1
     split
     · rw [List.append_nil,List.singleton_append,List.pairwise_cons]
       exact ⟨fun y hy=>by have:=h1 y hy;omega,hf⟩
     · rename_i h2
       rw [List.append_assoc,List.singleton_append,List.singleton_append,List.pairwise_cons,List.pairwise_cons]
       refine ⟨fun y hy=>?_,h1,hf⟩
       rcases List.mem_cons.1 hy with rfl | hy
       · omega
       · have:=h1 y hy;omega
   · rw [if_neg hA,List.nil_append]
     have ih2:=ih (d:=d || decide (κ t≤κ x)) hs.2
     split
     · simpa using ih2
     · rename_i h2
       rw [List.singleton_append,List.pairwise_cons]
       refine ⟨fun y hy=>?_,ih2⟩
       rcases ZhX hy with ⟨rfl,h3⟩ | ⟨h3,_⟩
       · rw [Bool.or_eq_false_iff] at h3
         have:=of_decide_eq_false h3.2
         omega
       · exact hs.1 y h3
end
def getO (os:List OrdD) (k:Int):List Int:=((os.find? fun o=>decide (o.key=k)).map OrdD.txs).getD []
theorem Zat {o:OrdD} {os:List OrdD} {k:Int} : getO (o :: os) k=if o.key=k then o.txs else getO os k:=by
 unfold getO
 rw [List.find?_cons]
 by_cases h:o.key=k <;> simp [h]
theorem ZeZ {os:List OrdD} {k:Int} (h:∀ o ∈ os,o.key≠k):getO os k = []:=by
 unfold getO
 rw [List.find?_eq_none.2 fun o ho=>by simpa using h o ho];rfl
theorem Zc9 {os:List OrdD} {o:OrdD} (hs:os.Pairwise fun a b=>a.key<b.key) (h:o ∈ os):getO os o.key=o.txs:=by
 induction os with
 | nil=>cases h
 | cons x os ih=>
   rw [List.pairwise_cons] at hs
   rw [Zat]
   rcases List.mem_cons.1 h with rfl | h
   · rw [if_pos rfl]
   · have:=hs.1 o h
     rw [if_neg (by omega),ih hs.2 h]
theorem Zgu {os:List OrdD} {k:Int} (h:getO os k≠[]):(⟨k,getO os k⟩:OrdD) ∈ os:=by
 induction os with
 | nil=>exact absurd rfl h
 | cons x os ih=>
   rw [Zat] at h ⊢
   by_cases e:x.key=k
   · rw [if_pos e];subst e;simp
   · rw [if_neg e] at h ⊢;simp [ih h]
def NE (os:List OrdD):Prop:=∀ o ∈ os,o.txs≠[]
def Zex (t:TxD) (l:List Int) (k:Int):List Int:=if t.done=true∧0<wcnt t.ops k then withO l t.id else withoutO l t.id
theorem ZiN {os:List OrdD} (hs:os.Pairwise fun a b=>a.key<b.key) (k:Int):getO (os.filter fun o=>!decide (o.txs = [])) k=getO os k:=by
 induction os with
 | nil=>rfl
 | cons x os ih=>
   rw [List.pairwise_cons] at hs
   rw [Zat]
   by_cases e:x.txs = []
   · rw [List.filter_cons_of_neg (by simpa using e),ih hs.2]
     split
     · rename_i hk
       rw [e,ZeZ fun o ho=>by have:=hs.1 o ho;omega]
     · rfl
   · rw [List.filter_cons_of_pos (by simpa using e),Zat,ih hs.2]
theorem ZoT {t:TxD} {os:List OrdD} {k:Int} : getO (os.map (ZiL t)) k=if isK OrdD.key k os=true then Zex t (getO os k) k else []:=by
 induction os with
 | nil=>simp [getO,isK]
 | cons x os ih=>
   rw [List.map_cons,Zat,Zat,ZaR,ih]
   by_cases e:x.key=k
   · subst e
     rw [if_pos (show (ZiL t x).key=x.key from rfl),if_pos rfl]
     simp [ZiL,Zex]
   · rw [if_neg (show ¬ (ZiL t x).key=k from e),if_neg e,decide_eq_false e,Bool.false_or]
theorem Zif {k' k:Int} : ∀ {os:List OrdD},(os.Pairwise fun a b=>a.key<b.key)→getO (Zin k' os) k=getO os k
 | [],_=>by unfold Zin;rw [Zat];split <;> rfl
 | x :: os,h=>by
   rw [List.pairwise_cons] at h
   unfold Zin
   split
   · rw [Zat,Zat,Zif h.2]
   · split
     · rfl
     · rw [Zat]
       split
       · rename_i h1 h2 h3
         have h3:k' = k:=h3
         subst h3
         refine (ZeZ fun o ho=>?_).symm
         rcases List.mem_cons.1 ho with rfl | ho
         · exact h2
         · have:=h.1 o ho;omega
       · rfl
theorem Zjd {k' k:Int} : ∀ {os:List OrdD},isK OrdD.key k (Zin k' os)=(isK OrdD.key k os || decide (k' = k))
 | []=>by simp [Zin,isK]
 | x :: os=>by
   unfold Zin
   split
   · rw [ZaR,ZaR,Zjd,Bool.or_assoc]
   · split
     · rename_i h2
       rw [ZaR]
       by_cases e:k' = k
       · simp [h2,e]
       · simp [e]
     · rw [ZaR,Bool.or_comm]
theorem ZjT:∀ (ks:List Int) {os:List OrdD} (k:Int),Zb8 OrdD.key os→getO (ks.foldl Zef os) k=getO os k∧isK OrdD.key k (ks.foldl Zef os)=(isK OrdD.key k os || decide (k ∈ ks))
 | [],os,k,_=>by simp
 | k' :: ks,os,k,h=>by
   obtain ⟨h1,h2⟩:=ZjT ks k (insK_rise k' h)
   rw [List.foldl_cons,h1,h2,ZgE k' h,Zif (ZE.1 h),Zjd]
   refine ⟨rfl,?_⟩
   rw [Bool.or_assoc]
   congr 1
   rw [Bool.eq_iff_iff]
   simp only [Bool.or_eq_true,decide_eq_true_eq,List.mem_cons]
   exact ⟨fun h=>h.elim (fun h=>.inl h.symm) .inr,fun h=>h.elim (fun h=>.inl h.symm) .inr⟩
theorem Zqj {os:List OrdD} {k:Int} (h:isK OrdD.key k os=false):getO os k = []:=by
 refine ZeZ fun o ho e=>?_
 unfold isK at h
 rw [List.any_eq_false] at h
 exact h o ho (by simpa using e)
theorem ZcB {t:TxD} {os:List OrdD} (h:Zb8 OrdD.key os) (k:Int):getO (settleO t os) k=Zex t (getO os k) k:=by
 unfold settleO
 have hins:getO (ZcT t os (ZY t)) k=getO os k∧isK OrdD.key k (ZcT t os (ZY t))=(isK OrdD.key k os || (t.done && decide (k ∈ ZY t)))∧Zb8 OrdD.key (ZcT t os (ZY t)):=by
   unfold ZcT
   split
   · rename_i hd
     obtain ⟨h1,h2⟩:=ZjT (ZY t) k h
     refine ⟨h1,by rw [h2,hd,Bool.true_and],?_⟩
     have key:∀ (ks:List Int) (os:List OrdD),Zb8 OrdD.key os→Zb8 OrdD.key (ks.foldl Zef os):=by
       intro ks
       induction ks with
       | nil=>intro os h;exact h
       | cons k ks ih=>intro os h;exact ih _ (insK_rise k h)
     exact key _ _ h
   · rename_i hd
     exact ⟨rfl,by simp [hd],h⟩
 obtain ⟨h1,h2,h3⟩:=hins
 have hm:((ZcT t os (ZY t)).map (ZiL t)).Pairwise fun a b=>a.key<b.key:=List.pairwise_map.2 ((ZE.1 h3).imp fun h=>h)
 rw [ZiN hm,ZoT,h1,h2]
 split
 · rfl
 · rename_i hk
   simp only [Bool.or_eq_true,not_or,Bool.and_eq_true,decide_eq_true_eq] at hk
   have hk1:isK OrdD.key k os=false:=by simpa using hk.1
   rw [Zqj hk1]
   unfold Zex
   rw [if_neg fun h9=>hk.2 ⟨h9.1,Zcc.2 h9.2⟩];rfl
theorem ZiU {t:TxD} {os:List OrdD} (h:Zb8 OrdD.key os) (hs:Zdz os):(settleO t os).Pairwise (fun a b=>a.key<b.key)∧NE (settleO t os):=by
 have h3:=(Zgg (t:=t) h hs (ZY t)).1
 have hm:((ZcT t os (ZY t)).map (ZiL t)).Pairwise fun a b=>a.key<b.key:=List.pairwise_map.2 ((ZE.1 h3).imp fun h=>h)
 refine ⟨hm.filter _,fun o ho=>?_⟩
 have:=(List.mem_filter.1 ho).2
 simpa using this
theorem Zke {l:List Zae} {e:Zae} (h:Zb8 ZaC l) (hk:isK ZaC (ZaC e) l=false):Zb8 ZaC (insE l e)∧(∀ s,s ∈ insE l e ↔ s ∈ l∨s=e)∧(insE l e).length=l.length+1:=by
 have hm:∀ s,s ∈ insE l e ↔ s ∈ l∨s=e:=fun s=>by
   unfold insE
   rw [List.mem_append,List.mem_append,List.mem_singleton]
   constructor
   · rintro ((h1 | h1) | h1)
     · exact .inl (List.mem_of_mem_take h1)
     · exact .inr h1
     · exact .inl (List.mem_of_mem_drop h1)
   · rintro (h1 | h1)
     · rw [← List.take_append_drop (lowK ZaC (ZaC e) l) l,List.mem_append] at h1
       rcases h1 with h1 | h1
       · exact .inl (.inl h1)
       · exact .inr h1
     · exact .inl (.inr h1)
 refine ⟨?_,hm,?_⟩
 · unfold insE
   rw [← Zll (ZE.1 h) hk]
   exact ZE.2 (ZfV (ZE.1 h))
 · have:=ZgP (κ:=ZaC) (k:=ZaC e) l
   unfold insE
   simp only [List.length_append,List.length_take,List.length_drop,List.length_singleton]
   omega
def Zpk (L:List (List Zae)) (m:Nat):Prop:=∀ l ∈ L,l.length≤m∧Zb8 ZaC l ∧ ∀ e ∈ l,okE e
theorem Zpk.r {L:List (List Zae)} {m:Nat} (h:Zpk L m) (hm:m≤1000000):ZrW L:=fun l hl=>⟨Nat.le_trans (h l hl).1 hm,(h l hl).2⟩
theorem Zpk.set {L:List (List Zae)} {m k:Nat} {e:Zae} (h:Zpk L m) (hk:k<L.length) (he:okE e) (hn:isK ZaC (ZaC e) (Go.Gm.nth L k)=false):Zpk (L.set k (insE (Go.Gm.nth L k) e)) (m+1):=fun l hl=>by
 rcases List.mem_or_eq_of_mem_set hl with h1 | rfl
 · exact ⟨Nat.le_succ_of_le (h l h1).1,(h l h1).2⟩
 · obtain ⟨a1,a2,a3⟩:=h _ (nth_mem hk)
   obtain ⟨b1,b2,b3⟩:=Zke a2 hn
   exact ⟨by omega,b1,fun s hs=>((b2 s).1 hs).elim (a3 s) fun h9=>h9 ▸ he⟩
theorem Zlr {l:List Zae} {e:Zae} (hl:∀ s ∈ l,okE s) (he:okE e):isK ZaC (ZaC e) l=true ↔ e ∈ l:=by
 unfold isK
 rw [List.any_eq_true]
 constructor
 · rintro ⟨s,h1,h2⟩;exact keyE_inj (hl s h1) he (of_decide_eq_true h2) ▸ h1
 · exact fun h=>⟨e,h,decide_eq_true rfl⟩
structure Zfc (n:Nat) (E:List ZaG) (O I:List (List Zae)):Prop where
 ol:O.length=n
 il:I.length=n
 on:Zpk O E.length
 inn:Zpk I E.length
 ok:∀ x ∈ E,Zam n x=true
 om:∀ u:Nat,u<n → ∀ e,e ∈ Go.Gm.nth O u ↔ ∃ x ∈ E,x.src=(u:Int)∧endO x=e
 im:∀ u:Nat,u<n → ∀ e,e ∈ Go.Gm.nth I u ↔ ∃ x ∈ E,x.dst=(u:Int)∧endI x=e
theorem Zfc.outK {n:Nat} {E:List ZaG} {O I:List (List Zae)} {x:ZaG} (h:Zfc n E O I) (hn:n≤4096) (hx:Zam n x=true):isK ZaC (ZaC (endO x)) (Go.Gm.nth O x.src.toNat)=true ↔ x ∈ E:=by
 obtain ⟨⟨s1,s2⟩,⟨d1,d2⟩,_⟩:=ZW.1 hx
 have hu:x.src.toNat<n:=by omega
 rw [Zlr (h.on _ (nth_mem (by rw [h.ol];exact hu))).2.2 (endO_ok hx hn),h.om _ hu]
 constructor
 · rintro ⟨y,y1,y2,y3⟩
   have e:y=x:=by
     cases y;cases x
     simp only [endO,Zae.mk.injEq] at y3
     simp only at y2 s1
     obtain ⟨a,b,c⟩:=y3
     rw [Int.toNat_of_nonneg s1] at y2
     subst a;subst b;subst c;subst y2;rfl
   exact e ▸ y1
 · exact fun k=>⟨x,k,by rw [Int.toNat_of_nonneg s1],rfl⟩
theorem Zfc.has {n:Nat} {E:List ZaG} {O I:List (List Zae)} {x:ZaG} (h:Zfc n E O I) (hn:n≤4096):Zns O x=true ↔ Zam n x=true∧x ∈ E:=by
 unfold Zns
 rw [h.ol,Bool.and_eq_true]
 exact ⟨fun k=>⟨k.1,(h.outK hn k.1).1 k.2⟩,fun k=>⟨k.1,(h.outK hn k.1).2 k.2⟩⟩
theorem Zfc.inK {n:Nat} {E:List ZaG} {O I:List (List Zae)} {x:ZaG} (h:Zfc n E O I) (hn:n≤4096) (hx:Zam n x=true):isK ZaC (ZaC (endI x)) (Go.Gm.nth I x.dst.toNat)=true ↔ x ∈ E:=by
 obtain ⟨⟨s1,s2⟩,⟨d1,d2⟩,_⟩:=ZW.1 hx
 have hu:x.dst.toNat<n:=by omega
 rw [Zlr (h.inn _ (nth_mem (by rw [h.il];exact hu))).2.2 (endI_ok hx hn),h.im _ hu]
 constructor
 · rintro ⟨y,y1,y2,y3⟩
   have e:y=x:=by
     cases y;cases x
     simp only [endI,Zae.mk.injEq] at y3
     simp only at y2 d1
     obtain ⟨a,b,c⟩:=y3
     rw [Int.toNat_of_nonneg d1] at y2
     subst a;subst b;subst c;subst y2;rfl
   exact e ▸ y1
 · exact fun k=>⟨x,k,by rw [Int.toNat_of_nonneg d1],rfl⟩
theorem Zjk {n:Nat} {E:List ZaG} {L:List (List Zae)} {x:ZaG} {f:ZaG→Int} {g:ZaG→Zae} (hl:L.length=n) (hm:∀ u:Nat,u<n → ∀ e,e ∈ Go.Gm.nth L u ↔ ∃ x ∈ E,f x=(u:Int)∧g x=e) (h0:0≤f x) (hr:Zb8 ZaC (Go.Gm.nth L (f x).toNat)) (hk:isK ZaC (ZaC (g x)) (Go.Gm.nth L (f x).toNat)=false) :
   ∀ u:Nat,u<n → ∀ e,e ∈ Go.Gm.nth (L.set (f x).toNat (insE (Go.Gm.nth L (f x).toNat) (g x))) u ↔ ∃ y ∈ E ++ [x],f y=(u:Int)∧g y=e:=fun u hu e=>by
 rw [Zse (by omega)]
 have hex:(∃ y ∈ E ++ [x],f y=(u:Int)∧g y=e) ↔ (∃ y ∈ E,f y=(u:Int)∧g y=e)∨(f x=(u:Int)∧g x=e):=by
   constructor
   · rintro ⟨y,y1,y2⟩
     rcases List.mem_append.1 y1 with y1 | y1
     · exact .inl ⟨y,y1,y2⟩
     · rw [List.mem_singleton.1 y1] at y2;exact .inr y2
   · rintro (⟨y,y1,y2⟩ | k)
     · exact ⟨y,List.mem_append_left _ y1,y2⟩
     · exact ⟨x,by simp,k⟩
 rw [hex]
 by_cases hc:(f x).toNat=u
 · rw [if_pos hc,(Zke hr hk).2.1,hc,hm u hu]
   constructor
   · rintro (k | k)
     · exact .inl k
     · exact .inr ⟨by omega,k.symm⟩
   · rintro (k | k)
     · exact .inl k
     · exact .inr k.2.symm
 · rw [if_neg hc,hm u hu]
   exact ⟨.inl,fun k=>k.elim id fun k=>absurd (by omega) hc⟩
theorem Zfc.add {n:Nat} {E:List ZaG} {O I:List (List Zae)} {x:ZaG} (h:Zfc n E O I) (hn:n≤4096) (hx:Zam n x=true) (hne:x ∉ E):Zfc n (E ++ [x]) (O.set x.src.toNat (insE (Go.Gm.nth O x.src.toNat) (endO x))) (I.set x.dst.toNat (insE (Go.Gm.nth I x.dst.toNat) (endI x))):=by
 have ko:=Bool.eq_false_iff.2 (fun k=>hne ((h.outK hn hx).1 k))
 have ki:=Bool.eq_false_iff.2 (fun k=>hne ((h.inK hn hx).1 k))
 obtain ⟨⟨s1,s2⟩,⟨d1,d2⟩,_⟩:=ZW.1 hx
 have hl:=h.ol
 have hl2:=h.il
 have so:x.src.toNat<O.length:=by omega
 have si:x.dst.toNat<I.length:=by omega
 refine ⟨by simp [hl],by simp [hl2],?_,?_,fun y hy=>?_,?_,?_⟩
 · rw [List.length_append];exact h.on.set so (endO_ok hx hn) ko
 · rw [List.length_append];exact h.inn.set si (endI_ok hx hn) ki
 · rcases List.mem_append.1 hy with hy | hy
   · exact h.ok y hy
   · rw [List.mem_singleton.1 hy];exact hx
 · exact Zjk (f:=ZaG.src) (g:=endO) hl h.om s1 (h.on _ (nth_mem so)).2.1 ko
 · exact Zjk (f:=ZaG.dst) (g:=endI) hl2 h.im d1 (h.inn _ (nth_mem si)).2.1 ki
theorem Zfc.next {n:Nat} {E:List ZaG} {O I:List (List Zae)} (h:Zfc n E O I) (mask u:Int):Zg5 (Zfy O mask u) ∧ ∀ v,v ∈ Zfy O mask u ↔ ∃ x ∈ E,x.src=u∧ofB mask x.kind=true∧x.dst=v:=by
 by_cases hu:0≤u∧u<O.length
 · unfold Zfy
   rw [if_pos hu]
   refine ⟨(Zar _).1,fun v=>?_⟩
   rw [(Zar _).2,List.mem_map]
   constructor
   · rintro ⟨e,h1,h2⟩
     obtain ⟨h3,h4⟩:=List.mem_filter.1 h1
     obtain ⟨x,x1,x2,rfl⟩:=(h.om u.toNat (by have:=h.ol;omega) e).1 h3
     exact ⟨x,x1,by omega,h4,h2⟩
   · rintro ⟨x,x1,x2,x3,x4⟩
     exact ⟨endO x,List.mem_filter.2 ⟨(h.om u.toNat (by have:=h.ol;omega) _).2 ⟨x,x1,by omega,rfl⟩,x3⟩,x4⟩
 · unfold Zfy
   rw [if_neg hu]
   refine ⟨List.Pairwise.nil,fun v=>⟨fun k=>(by cases k),?_⟩⟩
   rintro ⟨x,x1,x2,_⟩
   have:=(ZW.1 (h.ok x x1)).1
   have:=h.ol
   exact absurd ⟨by omega,by omega⟩ hu
def ZkC (n:Nat) (E:List ZaG) (x:ZaG):List ZaG:=if Zam n x=true∧x ∉ E then E ++ [x] else E
theorem Zo4 {n:Nat} {E:List ZaG} {x y:ZaG} : y ∈ ZkC n E x ↔ y ∈ E∨(y=x∧Zam n y=true):=by
 unfold ZkC
 split
 · rename_i h
   rw [List.mem_append,List.mem_singleton]
   exact ⟨fun k=>k.elim .inl fun e=>.inr ⟨e,e ▸ h.1⟩,fun k=>k.elim .inl fun e=>.inr e.1⟩
 · rename_i h
   refine ⟨.inl,fun k=>k.elim id fun ⟨e,hr⟩=>?_⟩
   subst e
   exact Classical.byContradiction fun hx=>h ⟨hr,hx⟩
theorem Zj2 {n:Nat} : ∀ {L E:List ZaG} {y:ZaG},y ∈ L.foldl (ZkC n) E ↔ y ∈ E∨(y ∈ L∧Zam n y=true)
 | [],E,y=>by simp
 | x :: L,E,y=>by
   rw [List.foldl_cons,Zj2,Zo4,List.mem_cons]
   constructor
   · rintro ((h | ⟨h,k⟩) | ⟨h,k⟩)
     · exact .inl h
     · exact .inr ⟨.inl h,k⟩
     · exact .inr ⟨.inr h,k⟩
   · rintro (h | ⟨h | h,k⟩)
     · exact .inl (.inl h)
     · exact .inl (.inr ⟨h,k⟩)
     · exact .inr ⟨h,k⟩
theorem ZlB {n:Nat} (E:List ZaG) (x:ZaG):(ZkC n E x).length≤E.length+1:=by
 unfold ZkC;split <;> simp
theorem Zgs {n:Nat} : ∀ (L E:List ZaG),(L.foldl (ZkC n) E).length≤E.length+L.length
 | [],E=>Nat.le_refl _
 | x :: L,E=>by
   have h1:=Zgs (n:=n) L (ZkC n E x)
   have h2:=ZlB (n:=n) E x
   rw [List.foldl_cons,List.length_cons];omega
theorem Zfc.new (n:Nat):Zfc n [] (List.replicate n []) (List.replicate n []):=by
 have hn:∀ u:Nat,u<n→Go.Gm.nth (List.replicate n ([]:List Zae)) u = []:=fun u hu=>by
   rw [nth_eq (by simpa using hu)];simp
 have hd:Zpk (List.replicate n []) ([]:List ZaG).length:=fun l hl=>by
   rw [(List.mem_replicate.1 hl).2];exact ⟨Nat.le_refl _,ZE.2 .nil,fun e h=>by cases h⟩
 exact ⟨by simp,by simp,hd,hd,(fun x h=>by cases h),(fun u hu e=>by rw [hn u hu];simp),(fun u hu e=>by rw [hn u hu];simp)⟩
theorem Zfc.step {n:Nat} {E:List ZaG} {O I:List (List Zae)} (h:Zfc n E O I) (hn:n≤4096) (x:ZaG) (m:Nat):Zfc n (ZkC n E x) (Zid O I m x).1 (Zid O I m x).2.1∧(Zid O I m x).2.2.1≤m+1:=by
 unfold Zid ZkC
 rw [h.ol]
 by_cases hr:Zam n x=true
 · rw [if_pos hr]
   by_cases hx:x ∈ E
   · rw [if_pos ((h.has hn).2 ⟨hr,hx⟩),if_neg (fun k=>k.2 hx)];exact ⟨h,Nat.le_succ _⟩
   · rw [if_neg (fun k=>hx ((h.has hn).1 k).2),if_pos ⟨hr,hx⟩];exact ⟨h.add hn hr hx,Nat.le_refl _⟩
 · rw [if_neg hr,if_neg (fun k=>hr k.1)];exact ⟨h,Nat.le_succ _⟩
end Go.Proofs.YtdpkkdigojkpaaaGreat
