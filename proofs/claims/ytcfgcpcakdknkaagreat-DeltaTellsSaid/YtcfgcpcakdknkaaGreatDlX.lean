/- Dl5,Dl7,in one text. -/
import Derived.Test.YtcfgcpcakdknkaaGreatDl3
import Derived.Test.YtcfgcpcakdknkaaGreatLibG
import Derived.Test.YtcfgcpcakdknkaaGreatLibE
namespace Go.Proofs.YtcfgcpcakdknkaaGreat
open Go Go.Gm
set_option linter.unusedVariables false
set_option linter.unusedSimpArgs false
set_option maxHeartbeats 4000000
set_option maxRecDepth 8000
section
variable {α:Type} {κ:α→Int}
def keysK (κ:α→Int) (was now old next:List α):List Int:=keysL ((was++now++old++next).map κ)
theorem mem_keysK {was now old next:List α} {n:Int} : n ∈ keysK κ was now old next ↔ (seekK κ was n).isSome=true∨(seekK κ now n).isSome=true∨(seekK κ old n).isSome=true∨(seekK κ next n).isSome=true:=by
 unfold keysK
 rw [(keysL_inc _).2,List.mem_map,seekK_is,seekK_is,seekK_is,seekK_is]
 constructor
 · rintro ⟨x,hx,e⟩
   simp only [List.mem_append] at hx
   rcases hx with ((hx | hx) | hx) | hx
   · exact .inl ⟨x,hx,e⟩
   · exact .inr (.inl ⟨x,hx,e⟩)
   · exact .inr (.inr (.inl ⟨x,hx,e⟩))
   · exact .inr (.inr (.inr ⟨x,hx,e⟩))
 · rintro (⟨x,hx,e⟩ | ⟨x,hx,e⟩ | ⟨x,hx,e⟩ | ⟨x,hx,e⟩) <;> exact ⟨x,by simp [hx],e⟩
variable [DecidableEq α]
def joinS (κ:α→Int) (was now old next:List α) (n:Int):Option (Option α×Option α):=
 if ((seekK κ was n).isSome || (seekK κ now n).isSome)=true∧((seekK κ old n).isSome || (seekK κ next n).isSome)=true∧seekK κ now n≠seekK κ old n then none
 else some (if ((seekK κ was n).isSome || (seekK κ now n).isSome)=true then seekK κ was n else seekK κ old n,if ((seekK κ old n).isSome || (seekK κ next n).isSome)=true then seekK κ next n else seekK κ now n)
def joinP (p:List α×List α) (q:Option α×Option α):List α×List α:=if q.1=q.2 then p else (p.1++q.1.toList,p.2++q.2.toList)
def joinG (κ:α→Int) (was now old next:List α) (ks:List Int):Option (List α×List α):=ks.foldl (fun o n=>o.bind fun p=>(joinS κ was now old next n).map (joinP p)) (some ([],[]))
def joinK (κ:α→Int) (was now old next:List α):Option (List α×List α):=joinG κ was now old next (keysK κ was now old next)
theorem joinG_step {was now old next:List α} {ks:List Int} {i:Nat} (hi:i<ks.length) {p:List α×List α} (h:joinG κ was now old next (ks.take i)=some p):joinG κ was now old next (ks.take (i+1))=(joinS κ was now old next (Go.Gm.nth ks i)).map (joinP p):=by
 unfold joinG at h ⊢
 rw [take_nth hi,List.foldl_append,h];rfl
theorem joinG_none {was now old next:List α} {ks:List Int} {i:Nat} (h:joinG κ was now old next (ks.take i)=none):joinG κ was now old next ks=none:=by
 unfold joinG at h ⊢
 rw [← List.take_append_drop i ks,List.foldl_append,h]
 generalize ks.drop i=l
 induction l with
 | nil=>rfl
 | cons x l ih=>exact ih
theorem seek_less {u v:List α} (hu:Unl κ u) (hv:Unl κ v) (n:Int):seekK κ (lessK κ u v) n=if seekK κ u n=seekK κ v n then none else seekK κ u n:=by
 have hl:Unl κ (lessK κ u v):=hu.sublist List.filter_sublist
 cases e:seekK κ u n with
 | none=>
   have hno:=seekK_no.1 (show (seekK κ u n).isNone=true by rw [e];rfl)
   have:seekK κ (lessK κ u v) n=none:=by
     have:=seekK_no (κ:=κ) (l:=lessK κ u v) (n:=n) |>.2 fun x hx=>hno x (lessK_sub hx)
     simpa using this
   rw [this];split <;> rfl
 | some x=>
   obtain ⟨h1,h2⟩:=seekK_mem e
   split
   · rename_i h3
     have h4:=(seekK_mem h3.symm).1
     have:=seekK_no (κ:=κ) (l:=lessK κ u v) (n:=n) |>.2 fun y hy e2=>by
       have h5:=(lessK_mem hv).1 hy
       have h6:y=x:=unl_inj hu h5.1 h1 (e2.trans h2.symm)
       exact h5.2 (by rw [h6];exact h4)
     simpa using this
   · rename_i h3
     have h4:x ∈ lessK κ u v:=(lessK_mem hv).2 ⟨h1,fun h=>h3 (by rw [← h2];exact (seekK_some hv h).symm)⟩
     rw [← h2];exact seekK_some hl h4
theorem isSome_ne {x y:Option α} : ((if x=y then none else x).isSome || (if y=x then none else y).isSome)=decide (x≠y):=by
 by_cases h:x=y
 · simp [h]
 · rw [if_neg h,if_neg (Ne.symm h),decide_eq_true h]
   cases x <;> cases y <;> simp at h ⊢
theorem joinS_less {a b c:List α} (ha:Unl κ a) (hb:Unl κ b) (hc:Unl κ c) {n:Int} (h:seekK κ a n≠seekK κ b n∨seekK κ b n≠seekK κ c n):joinS κ (lessK κ a b) (lessK κ b a) (lessK κ b c) (lessK κ c b) n=some (seekK κ a n,seekK κ c n):=by
 unfold joinS
 rw [seek_less ha hb,seek_less hb ha,seek_less hb hc,seek_less hc hb]
 generalize seekK κ a n=A at h ⊢
 generalize seekK κ b n=B at h ⊢
 generalize seekK κ c n=C at h ⊢
 rw [isSome_ne,isSome_ne]
 by_cases h1:A=B
 · subst h1
   have h2:A≠C:=by rcases h with h | h;exact absurd rfl h;exact h
   rw [if_neg (by simp)]
   simp [h2,Ne.symm h2]
 · by_cases h2:B=C
   · subst h2
     rw [if_neg (by simp)]
     simp [h1,Ne.symm h1]
   · rw [if_neg (by simp [h1,Ne.symm h1,h2])]
     simp [h1,Ne.symm h1,h2,Ne.symm h2]
theorem joinG_less {a b c:List α} (ha:Unl κ a) (hb:Unl κ b) (hc:Unl κ c):∀ (ks:List Int),(∀ n ∈ ks,seekK κ a n≠seekK κ b n∨seekK κ b n≠seekK κ c n) → ∀ p:List α×List α,
   ks.foldl (fun o n=>o.bind fun p=>(joinS κ (lessK κ a b) (lessK κ b a) (lessK κ b c) (lessK κ c b) n).map (joinP p)) (some p)=some (p.1++ks.flatMap fun n=>if seekK κ a n=seekK κ c n then [] else (seekK κ a n).toList,p.2++ks.flatMap fun n=>if seekK κ a n=seekK κ c n then [] else (seekK κ c n).toList)
 | [],_,p=>by simp
 | n :: ks,h,p=>by
   have ih:=joinG_less ha hb hc ks fun m hm=>h m (List.mem_cons_of_mem _ hm)
   rw [List.foldl_cons,Option.bind_some,joinS_less ha hb hc (h n List.mem_cons_self),Option.map_some,ih,List.flatMap_cons,List.flatMap_cons]
   unfold joinP
   dsimp only
   split <;> simp
theorem flat_less {a c:List α} (ha:RiseK κ a) (hc:RiseK κ c) {ks:List Int} (hk:IncI ks) (hall:∀ n,seekK κ a n≠seekK κ c n→n ∈ ks):(ks.flatMap fun n=>if seekK κ a n=seekK κ c n then [] else (seekK κ a n).toList)=lessK κ a c:=by
 refine riseK_ext ?_ (less_rise ha) fun x=>?_
 · clear hall
   induction ks with
   | nil=>exact List.Pairwise.nil
   | cons n ks ih=>
     have hk':=List.pairwise_cons.1 hk
     rw [List.flatMap_cons]
     have key:∀ n:Int,∀ x ∈ (if seekK κ a n=seekK κ c n then [] else (seekK κ a n).toList),κ x=n:=fun n x hx=>by
       split at hx
       · cases hx
       · rw [Option.mem_toList] at hx;exact (seekK_mem hx).2
     refine List.pairwise_append.2 ⟨?_,ih hk'.2,fun x hx y hy=>?_⟩
     · split
       · exact List.Pairwise.nil
       · cases seekK κ a n <;> simp
     · obtain ⟨m,hm,hy⟩:=List.mem_flatMap.1 hy
       rw [key n x hx,key m y hy]
       exact hk'.1 m hm
 · rw [List.mem_flatMap,lessK_mem hc.unl]
   constructor
   · rintro ⟨n,hn,hx⟩
     split at hx
     · cases hx
     · rename_i h
       rw [Option.mem_toList] at hx
       have hx:seekK κ a n=some x:=hx
       obtain ⟨h1,h2⟩:=seekK_mem hx
       refine ⟨h1,fun h3=>h ?_⟩
       rw [hx,← h2];exact (seekK_some hc.unl h3).symm
   · rintro ⟨h1,h2⟩
     have h3:=seekK_some ha.unl h1
     have h4:seekK κ a (κ x)≠seekK κ c (κ x):=fun e=>by
       rw [h3] at e
       exact h2 (seekK_mem e.symm).1
     refine ⟨κ x,hall _ h4,?_⟩
     rw [if_neg h4,h3];simp
theorem join_less {a b c:List α} (ha:RiseK κ a) (hb:RiseK κ b) (hc:RiseK κ c):joinK κ (lessK κ a b) (lessK κ b a) (lessK κ b c) (lessK κ c b)=some (lessK κ a c,lessK κ c a):=by
 have hin:∀ n,n ∈ keysK κ (lessK κ a b) (lessK κ b a) (lessK κ b c) (lessK κ c b) ↔ (seekK κ a n≠seekK κ b n∨seekK κ b n≠seekK κ c n):=fun n=>by
   rw [mem_keysK,seek_less ha.unl hb.unl,seek_less hb.unl ha.unl,seek_less hb.unl hc.unl,seek_less hc.unl hb.unl]
   have e1:=isSome_ne (x:=seekK κ a n) (y:=seekK κ b n)
   have e2:=isSome_ne (x:=seekK κ b n) (y:=seekK κ c n)
   rw [← or_assoc,← Bool.or_eq_true,e1,← Bool.or_eq_true,e2,decide_eq_true_eq,decide_eq_true_eq]
 have hk:IncI (keysK κ (lessK κ a b) (lessK κ b a) (lessK κ b c) (lessK κ c b)):=(keysL_inc _).1
 have hall:∀ n,seekK κ a n≠seekK κ c n→n ∈ keysK κ (lessK κ a b) (lessK κ b a) (lessK κ b c) (lessK κ c b):=fun n h=>(hin n).2 (by
   by_cases e:seekK κ a n=seekK κ b n
   · exact .inr (by rw [← e];exact h)
   · exact .inl e)
 unfold joinK joinG
 rw [joinG_less ha.unl hb.unl hc.unl _ (fun n hn=>(hin n).1 hn) ([],[]),List.nil_append,List.nil_append,flat_less ha hc hk hall]
 have h2:=flat_less hc ha hk fun n h=>hall n (Ne.symm h)
 rw [← h2]
 congr 3
 funext n
 by_cases h:seekK κ a n=seekK κ c n
 · rw [if_pos h,if_pos h.symm]
 · rw [if_neg h,if_neg (Ne.symm h)]
theorem joinP_len {p:List α×List α} {q:Option α×Option α} : (joinP p q).1.length≤p.1.length+1∧(joinP p q).2.length≤p.2.length+1:=by
 unfold joinP
 split
 · exact ⟨by omega,by omega⟩
 · constructor <;> (rw [List.length_append];first | (cases q.1 <;> simp <;> omega) | (cases q.2 <;> simp <;> omega))
theorem joinG_len {was now old next:List α} : ∀ (ks:List Int) (p0 p:List α×List α),ks.foldl (fun o n=>o.bind fun p=>(joinS κ was now old next n).map (joinP p)) (some p0)=some p→p.1.length≤p0.1.length+ks.length∧p.2.length≤p0.2.length+ks.length
 | [],p0,p,h=>by
   have e:p0=p:=by simpa using h
   subst e;exact ⟨by simp,by simp⟩
 | n :: ks,p0,p,h=>by
   rw [List.foldl_cons,Option.bind_some] at h
   cases hj:joinS κ was now old next n with
   | none=>
     rw [hj,Option.map_none] at h
     have hn:∀ l:List Int,l.foldl (fun o n=>o.bind fun p=>(joinS κ was now old next n).map (joinP p)) (none:Option (List α×List α))=none:=fun l=>by
       induction l with
       | nil=>rfl
       | cons x l ih=>exact ih
     rw [hn] at h;cases h
   | some q=>
     rw [hj,Option.map_some] at h
     have ih:=joinG_len ks _ _ h
     have h2:=joinP_len (p:=p0) (q:=q)
     rw [List.length_cons]
     exact ⟨by omega,by omega⟩
theorem joinG_mem {was now old next:List α} : ∀ (ks:List Int) (p0 p:List α×List α),ks.foldl (fun o n=>o.bind fun p=>(joinS κ was now old next n).map (joinP p)) (some p0)=some p→(∀ x ∈ p.1,x ∈ p0.1∨x ∈ was∨x ∈ old) ∧ ∀ x ∈ p.2,x ∈ p0.2∨x ∈ now∨x ∈ next
 | [],p0,p,h=>by
   have e:p0=p:=by simpa using h
   subst e;exact ⟨fun x hx=>.inl hx,fun x hx=>.inl hx⟩
 | n :: ks,p0,p,h=>by
   rw [List.foldl_cons,Option.bind_some] at h
   cases hj:joinS κ was now old next n with
   | none=>
     rw [hj,Option.map_none] at h
     have hn:∀ l:List Int,l.foldl (fun o n=>o.bind fun p=>(joinS κ was now old next n).map (joinP p)) (none:Option (List α×List α))=none:=fun l=>by
       induction l with
       | nil=>rfl
       | cons x l ih=>exact ih
     rw [hn] at h;cases h
   | some q=>
     rw [hj,Option.map_some] at h
     have ih:=joinG_mem ks _ _ h
     have hq:(∀ x,q.1=some x→x ∈ was∨x ∈ old) ∧ ∀ x,q.2=some x→x ∈ now∨x ∈ next:=by
       unfold joinS at hj
       split at hj
       · cases hj
       · have e:=(Option.some.inj hj).symm
         rw [e]
         refine ⟨fun x hx=>?_,fun x hx=>?_⟩ <;> dsimp only at hx <;> split at hx
         · exact .inl (seekK_mem hx).1
         · exact .inr (seekK_mem hx).1
         · exact .inr (seekK_mem hx).1
         · exact .inl (seekK_mem hx).1
     refine ⟨fun x hx=>?_,fun x hx=>?_⟩
     · rcases ih.1 x hx with h1 | h1
       · unfold joinP at h1
         split at h1
         · exact .inl h1
         · rcases List.mem_append.1 h1 with h2 | h2
           · exact .inl h2
           · exact .inr (hq.1 x (by simpa using h2))
       · exact .inr h1
     · rcases ih.2 x hx with h1 | h1
       · unfold joinP at h1
         split at h1
         · exact .inl h1
         · rcases List.mem_append.1 h1 with h2 | h2
           · exact .inl h2
           · exact .inr (hq.2 x (by simpa using h2))
       · exact .inr h1
theorem joinK_mem {was now old next:List α} {p:List α×List α} (h:joinK κ was now old next=some p):(∀ x ∈ p.1,x ∈ was∨x ∈ old) ∧ ∀ x ∈ p.2,x ∈ now∨x ∈ next:=by
 have h1:=joinG_mem _ ([],[]) p h
 exact ⟨fun x hx=>(h1.1 x hx).resolve_left (by simp),fun x hx=>(h1.2 x hx).resolve_left (by simp)⟩
theorem joinK_len {was now old next:List α} {p:List α×List α} (h:joinK κ was now old next=some p) (h1:was.length≤1000) (h2:now.length≤1000) (h3:old.length≤1000) (h4:next.length≤1000):p.1.length≤4000∧p.2.length≤4000:=by
 have h5:=joinG_len _ ([],[]) p h
 have h6:=keysL_len ((was++now++old++next).map κ)
 rw [List.length_map] at h6
 simp only [List.length_append] at h6
 simp only [List.length_nil] at h5
 unfold keysK at h5
 omega
def joinR (κ:α→Int) (was now old next:List α):List α×List α×Bool:=match joinK κ was now old next with
 | none=>([],[],false)
 | some p=>(p.1,p.2,true)
theorem opt_ne (z:α) (x y:Option α):((x.isSome != y.isSome) || (x.isSome && !decide (x.getD z=y.getD z)))=decide (x≠y):=by
 cases x <;> cases y <;> simp
theorem opt_eq (z:α) (x y:Option α):((x.isSome == y.isSome) && (!x.isSome || decide (x.getD z=y.getD z)))=decide (x=y):=by
 cases x <;> cases y <;> simp
end
def joinD (d e:DeltaD):DeltaD×Int:=if RightD d∧RightD e then
   match joinK TxD.id d.was d.now e.was e.now,joinK OrdD.key d.old d.new e.old e.new with
   | some p,some q=>(⟨p.1,p.2,q.1,q.2⟩,0)
   | _,_=>(noD,17)
 else (noD,5)
theorem ofD_right {g h:HistD} (h1:RightH g) (h2:RightH h):RightD (ofD g h).1:=by
 unfold ofD
 rw [if_pos ⟨h1,h2⟩]
 exact ⟨less_rise h1.rise.1,less_rise h2.rise.1,less_rise h1.rise.2,less_rise h2.rise.2⟩
theorem joins {g h k:HistD} (h1:RightH g) (h2:RightH h) (h3:RightH k):joinD (ofD g h).1 (ofD h k).1=ofD g k:=by
 unfold joinD
 rw [if_pos ⟨ofD_right h1 h2,ofD_right h2 h3⟩]
 unfold ofD
 rw [if_pos ⟨h1,h2⟩,if_pos ⟨h2,h3⟩,if_pos ⟨h1,h3⟩]
 dsimp only
 rw [join_less h1.rise.1 h2.rise.1 h3.rise.1,join_less h1.rise.2 h2.rise.2 h3.rise.2]
def emptyD (d:DeltaD):Bool:=decide (d.was = []∧d.now = []∧d.old = []∧d.new = [])
def keysD (d:DeltaD):List Int:=keysL (((d.was++d.now).flatMap fun t=>t.ops.map OpD.key)++(d.old++d.new).map OrdD.key)
theorem joinD_ok {d e:DeltaD} (hd:SmallD d) (he:SmallD e) {p:List TxD×List TxD} {q:List OrdD×List OrdD} (h1:joinK TxD.id d.was d.now e.was e.now=some p) (h2:joinK OrdD.key d.old d.new e.old e.new=some q):DOk ⟨p.1,p.2,q.1,q.2⟩:=by
 obtain ⟨⟨⟨a1,a2⟩,a3,a4⟩,⟨a5,a6⟩,a7,a8⟩:=hd
 obtain ⟨⟨⟨b1,b2⟩,b3,b4⟩,⟨b5,b6⟩,b7,b8⟩:=he
 dsimp only at a1 a2 a3 a4 a5 a6 a7 a8 b1 b2 b3 b4 b5 b6 b7 b8
 have l1:=joinK_len h1 a1 a5 b1 b5
 have l2:=joinK_len h2 a3 a7 b3 b7
 have m1:=joinK_mem h1
 have m2:=joinK_mem h2
 refine ⟨⟨by dsimp only;omega,fun t ht=>?_⟩,⟨by dsimp only;omega,fun t ht=>?_⟩,⟨by dsimp only;omega,fun t ht=>?_⟩,⟨by dsimp only;omega,fun t ht=>?_⟩⟩
 · rcases m1.1 t ht with h | h
   · have:=a2 t h;omega
   · have:=b2 t h;omega
 · rcases m1.2 t ht with h | h
   · have:=a6 t h;omega
   · have:=b6 t h;omega
 · rcases m2.1 t ht with h | h
   · have:=a4 t h;omega
   · have:=b4 t h;omega
 · rcases m2.2 t ht with h | h
   · have:=a8 t h;omega
   · have:=b8 t h;omega
end Go.Proofs.YtcfgcpcakdknkaaGreat
namespace Go.Proofs.YtcfgcpcakdknkaaGreat
open Go Go.Gm
set_option linter.unusedVariables false
set_option linter.unusedSimpArgs false
set_option maxHeartbeats 4000000
set_option maxRecDepth 8000
section
variable {P:Program} {d:Option Nat} {ty:TypeId} {pos:String} {af:Array Edge} {g:Option (Nat×Bool)} {x y:Operand} {ps qs:List (Nat×SF)} {t:TypeId} {α:Type}
theorem PVs.pick1 [Inhabited α] {p:α→PV} {w:World} {yy:Ys} : ∀ {l:List α} {vs:List Value} (i:Nat),PVs (l.map p) vs w yy→i<l.length → ∃ v,vs[i]? = some v∧(p (Go.Gm.nth l i)).p v w yy
 | [],_,i,_,h=>by simp at h
 | _ :: _,[],_,h,_=>h.elim
 | z :: l,v :: vs,0,h,_=>⟨v,rfl,h.1.2⟩
 | z :: l,v :: vs,i+1,h,hi=>by
   obtain ⟨u,h1,h2⟩:=PVs.pick1 (l:=l) (vs:=vs) i h.2 (by simpa using hi)
   exact ⟨u,by simpa using h1,by rw [nth_eq hi];rw [nth_eq (by simpa using hi)] at h2;simpa using h2⟩
theorem o_index_one [Inhabited α] {e n:Nat} {l:List α} {p:α→PV} {k:IntKind} {i:Int} (hu:P.underlying t=some (.array n e)) (ha:P.aggB e=some false) (hs:(P.info? e).map (·.size)=some 1) (hx:Opd x ps (.pv (.agg (l.map p)))) (hy:Opd y qs (.pv (.int k i))) (h0:0≤i) (h1:i<n) (hn:l.length=n) :
   OpC P ⟨d,.index t x y,ty,pos,af,g⟩ ⟨ps++qs,[],.pv (p (nth l i.toNat)),[]⟩:=
 OpC.pure fun a w yy hp=>by
   obtain ⟨vs,e1,hv⟩:=hx a w yy hp.left
   have e2:=(hy a w yy hp.right).1
   obtain ⟨v,h2,h3⟩:=PVs.pick1 i.toNat hv (by omega)
   refine ⟨v,?_,fun _ _=>h3⟩
   simp [execOp,Instr.index,e1,e2,asIntOf,asInt,run_underlying hu,if_pos (And.intro h0 h1),part,Go.Gm.run_isAgg ha,Go.Gm.run_sizeOf hs,h2]
theorem key_intR {kt:TypeId} (hk:P.underlying kt=some (.int .i64)):KeyG P kt (fun n:Int=>inR .i64 n) (fun n:Int=>Value.int .i64 n):=
 ⟨fun b k w _=>(key_intG hk).check b k w trivial,fun es k w _ _=>(key_intG hk).find es k w trivial fun _ _=>trivial,(key_intG hk).same⟩
theorem IsKeyOf.intR {n k:Int} (h:Opd x ps (.pv (.int .i64 n))) (e:n=k):IsKeyOf (fun n:Int=>inR .i64 n) (fun n:Int=>Value.int .i64 n) x ps k:=fun a w yy hp=>by
 subst e
 exact h a w yy hp
end
abbrev MPI (es:List (GE Int Int)) (ck:Nat):Value→HP:=mapG (fun c:Int=>PV.int .i64 c) (fun n:Int=>inR .i64 n) (fun n:Int=>Value.int .i64 n) es ck
def KSet (es:List (GE Int Int)) (ks:List Int):Prop:=GNd es ∧ ∀ k,k ∈ es.map (·.key) ↔ k ∈ ks
theorem KSet.nil:KSet [] []:=⟨by simp [GNd],fun k=>by simp⟩
theorem KSet.put {es:List (GE Int Int)} {ks:List Int} {k v:Int} {ck:Nat} (h:KSet es ks):KSet (gPut k v (es,ck)).1 (ks ++ [k]):=by
 refine ⟨GNd.put h.1,fun j=>?_⟩
 rw [gPut_keys,List.mem_append,List.mem_singleton]
 dsimp only
 split
 · rename_i h1
   rw [h.2]
   constructor
   · exact .inl
   · rintro (h2 | h2)
     · exact h2
     · subst h2;exact (h.2 _).1 h1
 · rw [List.mem_append,List.mem_singleton,h.2]
theorem KSet.perm {es:List (GE Int Int)} {ks:List Int} (h:KSet es ks):(es.map (·.key)).Perm (keysL ks):=
 (List.perm_ext_iff_of_nodup h.1 ((keysL_inc ks).1.imp fun h=>Int.ne_of_lt h)).2 fun k=>by rw [h.2,(keysL_inc ks).2]
theorem KSet.len {es:List (GE Int Int)} {ks:List Int} (h:KSet es ks):es.length≤ks.length:=by
 have h1:=h.perm.length_eq
 have h2:=keysL_len ks
 rw [List.length_map] at h1;omega
theorem KSet.sorted {es:List (GE Int Int)} {ks l:List Int} (h:KSet es ks) (hl:l.Perm (es.map (·.key))):l.mergeSort leI=keysL ks:=by
 have hp:(l.mergeSort leI).Perm (keysL ks):=(List.mergeSort_perm l leI).trans (hl.trans h.perm)
 refine List.Perm.eq_of_pairwise (fun x y _ _ h1 h2=>Int.le_antisymm h1 h2) (sort_le l) ((keysL_inc ks).1.imp fun h=>Int.le_of_lt h) hp
end Go.Proofs.YtcfgcpcakdknkaaGreat
