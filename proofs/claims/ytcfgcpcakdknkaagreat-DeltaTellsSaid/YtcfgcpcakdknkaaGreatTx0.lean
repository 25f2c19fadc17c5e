/- Keys: the plain law;put. No condition beyond those that each theorem says. -/
import Derived.Test.YtcfgcpcakdknkaaGreatCp1
namespace Go.Proofs.YtcfgcpcakdknkaaGreat
open Go Go.Gm
set_option linter.unusedVariables false
set_option linter.unusedSimpArgs false
set_option maxHeartbeats 4000000
set_option maxRecDepth 8000
def putIR (n:Int):List Int→Bool→List Int
 | [],d=>if d then [] else [n]
 | x :: l,d=>(if d=false∧n≤x then [n] else [])++(if x=n then [] else [x])++putIR n l (d || decide (n≤x))
def putI (l:List Int) (n:Int):List Int:=putIR n l false
abbrev IncI (l:List Int):Prop:=l.Pairwise fun a b=>a<b
theorem putIR_done {n:Int} : ∀ {l:List Int},(∀ x ∈ l,n<x)→putIR n l true=l
 | [],_=>rfl
 | x :: l,h=>by
   have:=h x (by simp)
   rw [putIR,Bool.true_or,putIR_done fun y hy=>h y (by simp [hy]),if_neg (by simp),if_neg (by omega)]
   rfl
theorem putI_inc {n:Int} : ∀ {l:List Int},IncI l→IncI (putI l n) ∧ ∀ x,x ∈ putI l n ↔ x ∈ l∨x=n
 | [],_=>by simp [putI,putIR]
 | y :: l,h=>by
   have h':=List.pairwise_cons.1 h
   unfold putI
   by_cases h1:y<n
   · have e:putIR n (y :: l) false=y :: putIR n l false:=by
       rw [putIR,if_neg (by omega),if_neg (by omega),show (false || decide (n≤y))=false by simp;omega];rfl
     have ih:=putI_inc (n:=n) h'.2
     rw [e]
     refine ⟨List.pairwise_cons.2 ⟨fun p hp=>?_,ih.1⟩,fun x=>?_⟩
     · rcases (ih.2 p).1 hp with hp | rfl
       · exact h'.1 p hp
       · exact h1
     · have:=ih.2 x
       unfold putI at this
       simp only [List.mem_cons,this]
       constructor
       · rintro (h | h | h)
         · exact .inl (.inl h)
         · exact .inl (.inr h)
         · exact .inr h
       · rintro ((h | h) | h)
         · exact .inl h
         · exact .inr (.inl h)
         · exact .inr (.inr h)
   · by_cases h2:y=n
     · subst h2
       rw [putIR,if_pos ⟨rfl,Int.le_refl _⟩,if_pos rfl,show (false || decide (y≤y))=true by simp,putIR_done h'.1]
       exact ⟨h,fun x=>by simp;intro e;exact .inl e⟩
     · rw [putIR,if_pos ⟨rfl,by omega⟩,if_neg h2,show (false || decide (n≤y))=true by simp;omega,putIR_done fun x hx=>by have:=h'.1 x hx;omega]
       refine ⟨List.pairwise_cons.2 ⟨fun p hp=>?_,h⟩,fun x=>by simp;constructor <;> (rintro (h | h | h) <;> simp [h])⟩
       rcases List.mem_cons.1 hp with rfl | hp
       · omega
       · have:=h'.1 p hp;omega
def keysL (l:List Int):List Int:=l.foldl putI []
theorem keysL_inc (l:List Int):IncI (keysL l) ∧ ∀ x,x ∈ keysL l ↔ x ∈ l:=by
 have key:∀ (l acc:List Int),IncI acc→IncI (l.foldl putI acc) ∧ ∀ x,x ∈ l.foldl putI acc ↔ x ∈ acc∨x ∈ l:=by
   intro l
   induction l with
   | nil=>intro acc h;exact ⟨h,fun x=>by simp⟩
   | cons y l ih=>
     intro acc h
     have h1:=putI_inc (n:=y) h
     have h2:=ih (putI acc y) h1.1
     refine ⟨h2.1,fun x=>?_⟩
     rw [List.foldl_cons,h2.2 x,h1.2 x,List.mem_cons]
     constructor
     · rintro ((h | h) | h)
       · exact .inl h
       · exact .inr (.inl h)
       · exact .inr (.inr h)
     · rintro (h | h | h)
       · exact .inl (.inl h)
       · exact .inl (.inr h)
       · exact .inr h
 have:=key l [] List.Pairwise.nil
 exact ⟨this.1,fun x=>by rw [show keysL l=l.foldl putI [] from rfl,this.2 x];simp⟩
theorem inc_unique:∀ {a b:List Int},IncI a→IncI b→(∀ x,x ∈ a ↔ x ∈ b)→a=b
 | [],[],_,_,_=>rfl
 | [],y :: b,_,_,h=>by have:=(h y).2 (by simp);cases this
 | x :: a,[],_,_,h=>by have:=(h x).1 (by simp);cases this
 | x :: a,y :: b,ha,hb,h=>by
   have ha':=List.pairwise_cons.1 ha
   have hb':=List.pairwise_cons.1 hb
   have e:x=y:=by
     rcases List.mem_cons.1 ((h x).1 (by simp)) with e | e
     · exact e
     · rcases List.mem_cons.1 ((h y).2 (by simp)) with e2 | e2
       · exact e2.symm
       · have:=hb'.1 x e;have:=ha'.1 y e2;omega
   subst e
   congr 1
   refine inc_unique ha'.2 hb'.2 fun z=>⟨fun hz=>?_,fun hz=>?_⟩
   · rcases List.mem_cons.1 ((h z).1 (by simp [hz])) with e | e
     · have:=ha'.1 z hz;omega
     · exact e
   · rcases List.mem_cons.1 ((h z).2 (by simp [hz])) with e | e
     · have:=hb'.1 z hz;omega
     · exact e
def compactL:List Int→List Int
 | []=>[]
 | x :: l=>match compactL l with
   | []=>[x]
   | y :: m=>if x=y then y :: m else x :: y :: m
theorem compactL_head:∀ (x:Int) (l:List Int),∃ m,compactL (x :: l)=x :: m
 | x,[]=>⟨[],rfl⟩
 | x,y :: l=>by
   obtain ⟨m,hm⟩:=compactL_head y l
   unfold compactL
   rw [hm]
   by_cases h:x=y
   · subst h;exact ⟨m,if_pos rfl⟩
   · exact ⟨y :: m,if_neg h⟩
theorem compactL_cons (x y:Int) (l:List Int):compactL (x :: y :: l)=if x=y then compactL (y :: l) else x :: compactL (y :: l):=by
 obtain ⟨m,hm⟩:=compactL_head y l
 conv=>lhs;unfold compactL
 rw [hm]
theorem compactL_inc:∀ {l:List Int},l.Pairwise (fun a b=>a≤b)→IncI (compactL l) ∧ ∀ x,x ∈ compactL l ↔ x ∈ l
 | [],_=>by simp [compactL]
 | [x],_=>by simp [compactL]
 | x :: y :: l,h=>by
   have h':=List.pairwise_cons.1 h
   have ih:=compactL_inc h'.2
   rw [compactL_cons]
   split
   · rename_i e
     subst e
     exact ⟨ih.1,fun z=>by rw [ih.2 z];simp⟩
   · rename_i e
     refine ⟨List.pairwise_cons.2 ⟨fun z hz=>?_,ih.1⟩,fun z=>by rw [List.mem_cons,ih.2 z,← List.mem_cons]⟩
     have h1:=h'.1 y (by simp)
     rcases List.mem_cons.1 ((ih.2 z).1 hz) with rfl | hz2
     · omega
     · have:=(List.pairwise_cons.1 h'.2).1 z hz2
       omega
theorem sort_le (l:List Int):List.Pairwise (fun x y=>x≤y) (l.mergeSort leI):=by
 have:=List.pairwise_mergeSort (le:=leI) (fun a b c h1 h2=>by simp [leI] at *;omega) (fun a b=>by simp [leI];omega) l
 exact this.imp fun h=>by simpa [leI] using h
theorem keys_sorted (l:List Int):compactL (l.mergeSort leI)=keysL l:=
 inc_unique (compactL_inc (sort_le l)).1 (keysL_inc l).1 fun x=>by rw [(compactL_inc (sort_le l)).2,(keysL_inc l).2];exact (List.mergeSort_perm l leI).mem_iff
theorem compactG_L:∀ l:List Int,compactG l=compactL l
 | []=>rfl
 | [x]=>rfl
 | x :: y :: l=>by
   rw [compactL_cons,← compactG_L (y :: l)];rfl
theorem putIR_TT {n x:Int} {l out r:List Int} {d:Bool} (hA:d=false∧n≤x) (hB:¬ x=n) (h:out++putIR n (x :: l) d=r):out ++ [n] ++ [x] ++ putIR n l true=r:=by
 rw [← h,putIR,if_pos hA,if_neg hB];simp [hA.2]
theorem putIR_TF {n x:Int} {l out r:List Int} {d:Bool} (hA:d=false∧n≤x) (hB:x=n) (h:out++putIR n (x :: l) d=r):out ++ [n] ++ putIR n l true=r:=by
 rw [← h,putIR,if_pos hA,if_pos hB];simp [hA.2]
theorem putIR_d {n x:Int} {d:Bool} (hA:¬ (d=false∧n≤x)):(d || decide (n≤x))=d:=by
 cases d
 · simp at hA ⊢;omega
 · rfl
theorem putIR_FT {n x:Int} {l out r:List Int} {d:Bool} (hA:¬ (d=false∧n≤x)) (hB:¬ x=n) (h:out++putIR n (x :: l) d=r):out ++ [x] ++ putIR n l d=r:=by
 rw [← h,putIR,if_neg hA,if_neg hB,putIR_d hA];simp
theorem putIR_FF {n x:Int} {l out r:List Int} {d:Bool} (hA:¬ (d=false∧n≤x)) (hB:x=n) (h:out++putIR n (x :: l) d=r):out++putIR n l d=r:=by
 rw [← h,putIR,if_neg hA,if_pos hB,putIR_d hA];simp
theorem putIR_len {n:Int} : ∀ (l:List Int) (d:Bool),(putIR n l d).length≤l.length+1
 | [],d=>by cases d <;> simp [putIR]
 | x :: l,d=>by
   have h1:=putIR_len (n:=n) l (d || decide (n≤x))
   have h2:∀ l:List Int,(putIR n l true).length≤l.length:=fun l=>by
     induction l with
     | nil=>simp [putIR]
     | cons y l ih=>
       rw [putIR,if_neg (by simp),List.length_append,List.length_append,Bool.true_or]
       split <;> simp <;> omega
   rw [putIR,List.length_append,List.length_append]
   have h3:=h2 l
   by_cases hA:d=false∧n≤x
   · rw [show (d || decide (n≤x))=true by simp [hA.2],if_pos hA]
     split <;> simp <;> omega
   · rw [if_neg hA]
     split <;> simp <;> omega
theorem put10_c (l:List Int) (n:Int) (hl:l.length≤1000000):FnP Tryz.prog 124 [.sl rInt l,.int .i64 n] (.sl rInt (putI l n)):=by
 refine FnP.mk Tryz.func124 rfl Tryz.ntmps124 rfl ?_
 intro B a w F hB hfr hS
 have hll:=Sat.lenSl hS (i:=0) rfl
 refine wp_seq ?_
 refine region_z hS (qf (oN (.c rfl)) trivial qz qZ) hB [4,1,0] [0] rfl rfl ?_
 clear hS;intro a w F hS
 refine then_n (wp_seq ?_)
 refine region_z hS (qf (oN (.c rfl)) trivial qz qZ) hB [5,4,1,0] [0] rfl rfl ?_
 clear hS;intro a w F hS
 refine then_n (wp_seq ?_)
 refine region_z hS (qf (oN .cb) trivial qz qZ) hB [6,5,4,1,0] [0] rfl rfl ?_
 clear hS;intro a w F hS
 refine then_n (wp_seq (wp_seq ?_))
 refine region_z hS (qM rfl rfl (qf (o_len_sl Tryz.underlying35 .t) r1 qz (qf (oM qi) trivial qz qZ))) hB [11,10,9,6,5,4,1] [0] rfl rfl ?_
 clear hS;intro a w F hS
 refine then_n (wp_block ?_)
 replace hS:=hS.fresh 50 rfl
 replace hS:=hS.turn 50 rfl (nilRow (T:=3) (sz:=1) (R:=rInt))
 refine loop_keep (σ:=(Nat)×(Bool)×(Value)×(List Int)) [1,4,9,10] [0] (fun s=>[(11,.pv (.int .i64 (s.1:Int))),(6,.pv (.bool s.2.1)),(5,.pv (.is s.2.2.1))]) (fun s=>[(50,.ob (.val s.2.2.1) (rowH 3 1 rInt s.2.2.2))]) (fun s=>s.1≤l.length∧(s.2.2.2++putIR n (l.drop s.1) s.2.1=putI l n)) (fun s=>l.length - s.1) ((0),_,(.slice none 0 0),([])) hS ⟨rfl,rfl,rfl,rfl,rfl,rfl,rfl,trivial⟩ ⟨rfl,rfl,trivial⟩ ⟨Nat.zero_le _,rfl⟩ ?_
 clear hS;intro s a w F hC hS
 obtain ⟨i,d,v,out⟩:=s
 try dsimp only at hC
 obtain ⟨F,hS⟩:=hS.nm [11,10,9,6,5,4,1] [50,0] rfl rfl
 try dsimp only at hS
 obtain ⟨hi,hq⟩:=hC
 have hol:=congrArg List.length hq
 rw [List.length_append] at hol
 have htl:(putI l n).length≤l.length+1:=putIR_len l false
 refine wp_seq ?_
 refine region_z hS (qf (o_lss .t .t) r2 qz qZ) hB [12,11,10,9,6,5,4,1] [50,0] rfl rfl ?_
 clear hS;intro a w F hS
 refine then_n (wp_seq ?_)
 refine cond_b hS rfl (fun hc0=>?_) (fun hc0=>?_)
 ·skip
  have hil:i<l.length:=by simp at hc0;omega
  refine wp_skip (then_n (wp_seq (wp_block (wp_seq ?_))))
  refine region_z hS (qf (o_indexAddr_sl (sz:=1) (.mk Tryz.underlying35 (by kernel_rfl)) (by intro x;rfl) .t .t (by omega) (by omega)) r2 qz (qf (oR false 1 .t) r1 qz (qN rfl rfl qZ))) hB [14,13,12,11,10,9,8,6,5,4,1] [50,0] rfl rfl ?_
  clear hS;intro a w F hS
  try simp only [Int.toNat_natCast] at hS
  refine then_n (wp_seq (wp_seq ?_))
  refine region_z hS (qM rfl rfl (qf (o_not .t) r1 qz (qM rfl rfl (qm rfl rfl rfl rfl (qm rfl rfl rfl rfl (qk rfl (fun h=>o_geq (.w h) (.w h)) r3 qz (qf (o_and2 .t .t) r2 qz qZ))))))) hB [21,20,19,18,17,16,15,14,13,12,11,10,9,8,6,5,4,1] [50,0] rfl rfl ?_
  clear hS;intro a w F hS
  refine then_n ?_
  refine cond_b hS rfl (fun hc1=>?_) (fun hc1=>?_)
  ·skip
   have hA:d=false∧n≤Go.Gm.nth l i:=by simpa using hc1
   refine wp_seq ?_
   refine region_q hS (qM rfl rfl (qM rfl rfl (qf (o_buildSliceE (sz:=1) (zs:=[.int .i64 0]) (r:=[(0,.tmp 23)]) (l:=[_]) Tryz.underlying35 (by kernel_rfl) (by kernel_rfl) (by kernel_rfl) (by kernel_rfl) rfl rfl (.one rfl .t one_int (by kernel_rfl) .nil) rfl) r1 qz (qf (o_append (sz:=1) (bs:=8) 50 (.mk' Tryz.underlying35 (by kernel_rfl) (by kernel_rfl)) (by intro x;rfl) .is (.arr (l':=[n]) .t) (by simp only [List.length_append,List.length_cons,List.length_nil];omega) (by decide)) ⟨rfl,rfl,trivial⟩ ⟨rfl,trivial⟩ (qN rfl rfl qZ))))) hB ?_
   clear hS;intro a w F hS
   replace hS:=hS.sub
   obtain ⟨F,hS⟩:=hS.nm [25,24,23,22,21,20,19,18,17,16,15,14,13,12,11,10,9,8,6,5,4,1] [50,0] rfl rfl
   try dsimp only [RS.sub,SF.sub,CF.sub,csub,Anc.sub,List.map,stCells,xL,xM,Nat.reduceAdd,xD,xE,xT,xU,xC,xN,zCF,rInt] at hS
   generalize Act.tau a 25=v25 at hS
   refine then_n ?_
   refine region_z hS (qf (oN .cb) trivial qz qZ) hB [25,24,23,22,21,20,19,18,17,16,15,14,13,12,11,10,9,8,6,5,4,1] [50,0] rfl rfl ?_
   clear hS;intro a w F hS
   refine then_n (wp_seq ?_)
   refine region_z hS (qM rfl rfl (qM rfl rfl (qf (o_neq .t .t) r2 qz qZ))) hB [28,27,26,25,24,23,22,21,20,19,18,17,16,15,14,13,12,11,10,9,8,6,5,4,1] [50,0] rfl rfl ?_
   clear hS;intro a w F hS
   refine then_n ?_
   refine cond_b hS rfl (fun hc2=>?_) (fun hc2=>?_)
   ·skip
    have hBq:¬ Go.Gm.nth l i=n:=by simpa using hc2
    refine region_q hS (qM rfl rfl (qM rfl rfl (qf (o_buildSliceE (sz:=1) (zs:=[.int .i64 0]) (r:=[(0,.tmp 30)]) (l:=[_]) Tryz.underlying35 (by kernel_rfl) (by kernel_rfl) (by kernel_rfl) (by kernel_rfl) rfl rfl (.one rfl .t one_int (by kernel_rfl) .nil) rfl) r1 qz (qf (o_append (sz:=1) (bs:=8) 50 (.mk' Tryz.underlying35 (by kernel_rfl) (by kernel_rfl)) (by intro x;rfl) .is (.arr (l':=[Go.Gm.nth l i]) .t) (by simp only [List.length_append,List.length_cons,List.length_nil];omega) (by decide)) ⟨rfl,rfl,trivial⟩ ⟨rfl,trivial⟩ (qN rfl rfl qZ))))) hB ?_
    clear hS;intro a w F hS
    replace hS:=hS.sub
    obtain ⟨F,hS⟩:=hS.nm [32,31,30,29,28,27,26,25,24,23,22,21,20,19,18,17,16,15,14,13,12,11,10,9,8,6,5,4,1] [50,0] rfl rfl
    try dsimp only [RS.sub,SF.sub,CF.sub,csub,Anc.sub,List.map,stCells,xL,xM,Nat.reduceAdd,xD,xE,xT,xU,xC,xN,zCF,rInt] at hS
    generalize Act.tau a 32=v32 at hS
    refine block_n (then_n ?_)
    refine region_z hS (qf (o_add .t qi) r1 qz (qM rfl rfl qZ)) hB [33,32,31,30,29,28,27,26,25,24,23,22,21,20,19,18,17,16,15,14,13,12,11,10,9,8,6,5,4,1] [50,0] rfl rfl ?_
    clear hS;intro a w F hS
    refine then_n ?_
    replace hS:=hS.ent (i:=11) (s':=.pv (.int .i64 ((i+1:Nat):Int))) rfl (.int (wrap_succ (by omega)))
    obtain ⟨F,hS⟩:=hS.nm [10,9,4,1,5,6,11] [0,50] rfl rfl
    exact ⟨((i+1),_,_,_),F,⟨by omega,(by rw [drop_nth hil] at hq;first | exact putIR_TT hA hBq hq | exact putIR_TF hA hBq hq | exact putIR_FT hA hBq hq | exact putIR_FF hA hBq hq)⟩,hS,by omega⟩
   have hBq:Go.Gm.nth l i=n:=by simpa using hc2
   refine wp_skip (block_n (then_n ?_))
   refine region_z hS (qf (o_add .t qi) r1 qz (qM rfl rfl qZ)) hB [33,28,27,26,25,24,23,22,21,20,19,18,17,16,15,14,13,12,11,10,9,8,6,5,4,1] [50,0] rfl rfl ?_
   clear hS;intro a w F hS
   refine then_n ?_
   replace hS:=hS.ent (i:=11) (s':=.pv (.int .i64 ((i+1:Nat):Int))) rfl (.int (wrap_succ (by omega)))
   obtain ⟨F,hS⟩:=hS.nm [10,9,4,1,5,6,11] [0,50] rfl rfl
   exact ⟨((i+1),_,_,_),F,⟨by omega,(by rw [drop_nth hil] at hq;first | exact putIR_TT hA hBq hq | exact putIR_TF hA hBq hq | exact putIR_FT hA hBq hq | exact putIR_FF hA hBq hq)⟩,hS,by omega⟩
  have hA:¬ (d=false∧n≤Go.Gm.nth l i):=by rintro ⟨h1,h2⟩;subst h1;simp at hc1;omega
  refine wp_skip (then_n (wp_seq ?_))
  refine region_z hS (qM rfl rfl (qM rfl rfl (qf (o_neq .t .t) r2 qz qZ))) hB [28,27,26,21,20,19,18,17,16,15,14,13,12,11,10,9,8,6,5,4,1] [50,0] rfl rfl ?_
  clear hS;intro a w F hS
  refine then_n ?_
  refine cond_b hS rfl (fun hc3=>?_) (fun hc3=>?_)
  ·skip
   have hBq:¬ Go.Gm.nth l i=n:=by simpa using hc3
   refine region_q hS (qM rfl rfl (qM rfl rfl (qf (o_buildSliceE (sz:=1) (zs:=[.int .i64 0]) (r:=[(0,.tmp 30)]) (l:=[_]) Tryz.underlying35 (by kernel_rfl) (by kernel_rfl) (by kernel_rfl) (by kernel_rfl) rfl rfl (.one rfl .t one_int (by kernel_rfl) .nil) rfl) r1 qz (qf (o_append (sz:=1) (bs:=8) 50 (.mk' Tryz.underlying35 (by kernel_rfl) (by kernel_rfl)) (by intro x;rfl) .is (.arr (l':=[Go.Gm.nth l i]) .t) (by simp only [List.length_append,List.length_cons,List.length_nil];omega) (by decide)) ⟨rfl,rfl,trivial⟩ ⟨rfl,trivial⟩ (qN rfl rfl qZ))))) hB ?_
   clear hS;intro a w F hS
   replace hS:=hS.sub
   obtain ⟨F,hS⟩:=hS.nm [32,31,30,29,28,27,26,21,20,19,18,17,16,15,14,13,12,11,10,9,8,6,5,4,1] [50,0] rfl rfl
   try dsimp only [RS.sub,SF.sub,CF.sub,csub,Anc.sub,List.map,stCells,xL,xM,Nat.reduceAdd,xD,xE,xT,xU,xC,xN,zCF,rInt] at hS
   generalize Act.tau a 32=v32 at hS
   refine block_n (then_n ?_)
   refine region_z hS (qf (o_add .t qi) r1 qz (qM rfl rfl qZ)) hB [33,32,31,30,29,28,27,26,21,20,19,18,17,16,15,14,13,12,11,10,9,8,6,5,4,1] [50,0] rfl rfl ?_
   clear hS;intro a w F hS
   refine then_n ?_
   replace hS:=hS.ent (i:=11) (s':=.pv (.int .i64 ((i+1:Nat):Int))) rfl (.int (wrap_succ (by omega)))
   obtain ⟨F,hS⟩:=hS.nm [10,9,4,1,5,6,11] [0,50] rfl rfl
   exact ⟨((i+1),_,_,_),F,⟨by omega,(by rw [drop_nth hil] at hq;first | exact putIR_TT hA hBq hq | exact putIR_TF hA hBq hq | exact putIR_FT hA hBq hq | exact putIR_FF hA hBq hq)⟩,hS,by omega⟩
  have hBq:Go.Gm.nth l i=n:=by simpa using hc3
  refine wp_skip (block_n (then_n ?_))
  refine region_z hS (qf (o_add .t qi) r1 qz (qM rfl rfl qZ)) hB [33,28,27,26,21,20,19,18,17,16,15,14,13,12,11,10,9,8,6,5,4,1] [50,0] rfl rfl ?_
  clear hS;intro a w F hS
  refine then_n ?_
  replace hS:=hS.ent (i:=11) (s':=.pv (.int .i64 ((i+1:Nat):Int))) rfl (.int (wrap_succ (by omega)))
  obtain ⟨F,hS⟩:=hS.nm [10,9,4,1,5,6,11] [0,50] rfl rfl
  exact ⟨((i+1),_,_,_),F,⟨by omega,(by rw [drop_nth hil] at hq;first | exact putIR_TT hA hBq hq | exact putIR_TF hA hBq hq | exact putIR_FT hA hBq hq | exact putIR_FF hA hBq hq)⟩,hS,by omega⟩
 have hil:i=l.length:=by simp at hc0;omega
 refine wp_exit (then_x (then_x (block_x (then_n (wp_seq (wp_seq ?_))))))
 refine region_z hS (qM rfl rfl (qf (o_not .t) r1 qz qZ)) hB [35,5,4,1] [50,0] rfl rfl ?_
 clear hS;intro a w F hS
 refine then_n ?_
 refine cond_b hS rfl (fun hc4=>?_) (fun hc4=>?_)
 ·skip
  have hfin:out ++ [n] = putI l n:=by rw [hil,List.drop_length] at hq;cases d with | true=>simp at hc4 | false=>exact hq
  refine region_q hS (qM rfl rfl (qM rfl rfl (qf (o_buildSliceE (sz:=1) (zs:=[.int .i64 0]) (r:=[(0,.tmp 37)]) (l:=[_]) Tryz.underlying35 (by kernel_rfl) (by kernel_rfl) (by kernel_rfl) (by kernel_rfl) rfl rfl (.one rfl .t one_int (by kernel_rfl) .nil) rfl) r1 qz (qf (o_append (sz:=1) (bs:=8) 50 (.mk' Tryz.underlying35 (by kernel_rfl) (by kernel_rfl)) (by intro x;rfl) .is (.arr (l':=[n]) .t) (by simp only [List.length_append,List.length_cons,List.length_nil];omega) (by decide)) ⟨rfl,rfl,trivial⟩ ⟨rfl,trivial⟩ (qN rfl rfl qZ))))) hB ?_
  clear hS;intro a w F hS
  replace hS:=hS.sub
  obtain ⟨F,hS⟩:=hS.nm [5,4] [50,0] rfl rfl
  try dsimp only [RS.sub,SF.sub,CF.sub,csub,Anc.sub,List.map,stCells,xL,xM,Nat.reduceAdd,xD,xE,xT,xU,xC,xN,zCF,rInt] at hS
  generalize Act.tau a 39=v39 at hS
  refine then_n (wp_seq ?_)
  refine region_z hS (qM rfl rfl (qN rfl rfl qZ)) hB [4] [50,0] rfl rfl ?_
  clear hS;intro a w F hS
  refine then_n (wp_ret ?_)
  obtain ⟨F,hS⟩:=hS.give 50 4 rfl rfl
  refine ret_P hfr hS rfl (.tmp rfl .nil) (.one (.sl hfin))
 have hfin:out=putI l n:=by rw [hil,List.drop_length] at hq;cases d with | false=>simp at hc4 | true=>simpa [putIR] using hq
 refine wp_skip (then_n (wp_seq ?_))
 refine region_z hS (qM rfl rfl (qN rfl rfl qZ)) hB [4] [50,0] rfl rfl ?_
 clear hS;intro a w F hS
 refine then_n (wp_ret ?_)
 obtain ⟨F,hS⟩:=hS.give 50 4 rfl rfl
 refine ret_P hfr hS rfl (.tmp rfl .nil) (.one (.sl hfin))
end Go.Proofs.YtcfgcpcakdknkaaGreat
