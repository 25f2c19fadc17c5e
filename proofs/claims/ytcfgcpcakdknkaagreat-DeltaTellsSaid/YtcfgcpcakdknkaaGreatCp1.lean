/- slices.Compact of ints. No condition beyond those that each theorem says. -/
import Derived.Test.YtcfgcpcakdknkaaGreatOr1
namespace Go.Proofs.YtcfgcpcakdknkaaGreat
open Go Go.Gm
set_option linter.unusedVariables false
set_option linter.unusedSimpArgs false
set_option maxHeartbeats 4000000
set_option maxRecDepth 8000
def compactG {α:Type} [DecidableEq α]:List α→List α
 | []=>[]
 | [x]=>[x]
 | x :: y :: l=>if x=y then compactG (y :: l) else x :: compactG (y :: l)
theorem compactG_snoc {α:Type} [DecidableEq α] (a b:α):∀ l:List α,compactG (l ++ [a,b])=if a=b then compactG (l ++ [a]) else compactG (l ++ [a]) ++ [b]
 | []=>by
   show (if a=b then [b] else a :: [b])=if a=b then [a] else [a] ++ [b]
   split
   · rename_i h;rw [h]
   · rfl
 | [x]=>by
   have ih:=compactG_snoc a b []
   show (if x=a then compactG ([] ++ [a,b]) else x :: compactG ([] ++ [a,b]))=if a=b then (if x=a then compactG ([] ++ [a]) else x :: compactG ([] ++ [a])) else (if x=a then compactG ([] ++ [a]) else x :: compactG ([] ++ [a])) ++ [b]
   rw [ih]
   by_cases h1:x=a <;> by_cases h2:a=b <;> simp [h1,h2]
 | x :: y :: l=>by
   have ih:=compactG_snoc a b (y :: l)
   show (if x=y then compactG (y :: l ++ [a,b]) else x :: compactG (y :: l ++ [a,b]))=if a=b then (if x=y then compactG (y :: l ++ [a]) else x :: compactG (y :: l ++ [a])) else (if x=y then compactG (y :: l ++ [a]) else x :: compactG (y :: l ++ [a])) ++ [b]
   rw [ih]
   by_cases h1:x=y <;> by_cases h2:a=b <;> simp [h1,h2]
theorem compactG_step {α:Type} [DecidableEq α] [Inhabited α] {l:List α} {p:Nat} (h1:1≤p) (h2:p<l.length):compactG (l.take (p+1))=if Go.Gm.nth l (p - 1)=Go.Gm.nth l p then compactG (l.take p) else compactG (l.take p) ++ [Go.Gm.nth l p]:=by
 obtain ⟨q,rfl⟩:∃ q,p=q+1:=⟨p - 1,by omega⟩
 rw [take_nth h2,take_nth (show q<l.length by omega),List.append_assoc]
 exact compactG_snoc _ _ _
theorem compactG_one {α:Type} [DecidableEq α]:∀ {l:List α},l.length≤1→compactG l=l
 | [],_=>rfl
 | [x],_=>rfl
 | x :: y :: l,h=>by simp at h
theorem compI_c (v:Value) (l:List Int) (hll:l.length≤1000000):FnG Tryz.prog 83 1 [.is v] [rowH 3 1 rInt l v] (PV.one) (fun v=>[rowH 3 1 rInt (compactG l) v]):=by
 refine FnG.mk Tryz.func83 rfl Tryz.ntmps83 rfl (by kernel_rfl) ?_
 intro B F0 a w F hB hG hS
 replace hS:=hS.turn 1 rfl (r':=.ob (.val v) (rowH 3 1 rInt l)) (fun _ _ _ _ h=>h)
 refine wp_seq ?_
 refine region_z hS (qf (oN (.c rfl)) trivial qz qZ) hB [2,0] [1,0] rfl rfl ?_
 clear hS;intro a w F hS
 refine then_n (wp_seq (wp_seq ?_))
 refine region_z hS (qM rfl rfl (qf (o_len_row 1 Tryz.underlying35 .is) r1 r1 (qf (o_lss .t qi) r1 qz qZ))) hB [8,2,0] [1,0] rfl rfl ?_
 clear hS;intro a w F hS
 refine then_n ?_
 refine cond_b hS rfl (fun hc0=>?_) (fun hc0=>?_)
 ·skip
  have hg:(compactG l)=l:=compactG_one (by simp at hc0;omega)
  refine wp_seq ?_
  refine region_z hS (qM rfl rfl (qN rfl rfl qZ)) hB [2,0] [1,0] rfl rfl ?_
  clear hS;intro a w F hS
  refine then_n (wp_ret (then_r ?_))
  have hS:=hS.turn 1 rfl (r':=RS.hp (rowH 3 1 rInt (compactG l) v)) (fun _ _ _ _ h=>by rw [hg];exact h)
  refine ret_N1 (h':=fun v=>rowH 3 1 rInt (compactG l) v) hG hS rfl (.tmp rfl .nil) (.one .one) rfl
 have hl2:2≤l.length:=by simp at hc0;omega
 refine wp_skip (then_n (wp_seq (wp_seq ?_)))
 refine region_z hS (qf (oN qi) trivial qz qZ) hB [3,2,0] [1,0] rfl rfl ?_
 clear hS;intro a w F hS
 refine then_n (wp_block ?_)
 refine loop_keep (σ:=Nat) [0,2] [0,1] (fun s=>[(3,.pv (.int .i64 (s:Int)))]) (fun s=>[]) (fun s=>1≤s∧s≤l.length∧compactG (l.take s)=l.take s) (fun s=>l.length - s) (1) hS ⟨rfl,rfl,rfl,trivial⟩ ⟨rfl,rfl,trivial⟩ ⟨by omega,by omega,compactG_one (by rw [List.length_take];omega)⟩ ?_
 clear hS;intro k a w F hC hS
 try dsimp only at hC
 obtain ⟨F,hS⟩:=hS.nm [3,2,0] [1,0] rfl rfl
 try dsimp only at hS
 obtain ⟨hk1,hkl,hkc⟩:=hC
 have hkw:IntKind.wrap .i64 ((k:Int) - 1)=(k:Int) - 1:=wrap_i64 (by omega)
 refine wp_seq (wp_seq ?_)
 refine region_z hS (qM rfl rfl (qM rfl rfl (qf (o_len_row 1 Tryz.underlying35 .is) r1 r1 (qf (o_lss .t .t) r2 qz qZ)))) hB [13,12,11,10,3,2,0] [1,0] rfl rfl ?_
 clear hS;intro a w F hS
 refine then_n ?_
 refine cond_b hS rfl (fun hc1=>?_) (fun hc1=>?_)
 ·skip
  have hil:k<l.length:=by simp at hc1;omega
  have hst:=compactG_step (l:=l) hk1 hil
  have hy0:(IntKind.wrap .i64 ((k:Int) - 1)).toNat=k - 1:=by rw [hkw];omega
  refine wp_skip (then_n (wp_seq (wp_block (wp_seq ?_))))
  refine region_any (by kernel_rfl) hS (by kernel_rfl) (qM rfl rfl (qM rfl rfl (qf (o_indexAddr_row (sz:=1) 1 (.mk Tryz.underlying35 (by kernel_rfl)) .is .t (by omega) (by omega) (by rfl)) r2 r1 (qf (o_load_row0 (ag:=false) (sz':=1) (sz:=1) 1 .t (by intro x;rfl) (by omega) (by kernel_rfl) (by kernel_rfl) (by kernel_rfl)) r1 r1 (qM rfl rfl (qM rfl rfl (qf (o_sub .t qi) r1 qz (qf (o_indexAddr_row (sz:=1) 1 (.mk Tryz.underlying35 (by kernel_rfl)) .is .t (by rw [hkw];omega) (by rw [hkw];omega) (by rfl)) r2 r1 (qf (o_load_row0 (ag:=false) (sz':=1) (sz:=1) 1 .t (by intro x;rfl) (by rw [hkw];omega) (by kernel_rfl) (by kernel_rfl) (by kernel_rfl)) r1 r1 (qf (o_eql .t .t) r2 qz qZ)))))))))) (by kernel_rfl) (by rw [hB];kernel_rfl) ?_
  clear hS;intro a w F hS
  obtain ⟨F,hS⟩:=hS.nm [25,24,23,22,21,20,19,18,17,16,13,12,11,10,3,2,0] [1,0] rfl rfl
  try dsimp only [List.map,xD,xE,xT,xU,ldSF,rInt] at hS
  try simp only [Int.toNat_natCast] at hS
  refine then_n ?_
  refine cond_b hS rfl (fun hc2=>?_) (fun hc2=>?_)
  ·skip
   have heq:Go.Gm.nth l (k - 1)=Go.Gm.nth l k:=by rw [hy0] at hc2;simp at hc2;exact hc2.symm
   rw [if_pos heq,hkc] at hst
   have hst0:=hst.symm
   refine wp_seq ?_
   refine region_z hS (qM rfl rfl (qM rfl rfl (qf (o_sub_row (sz:=1) 1 (.mk Tryz.underlying35 (by kernel_rfl)) .is .t (by omega) (by omega)) r2 r1 (qN rfl rfl qZ)))) hB [28,27,26,25,24,23,22,21,20,19,18,17,16,13,12,11,10,4,3,2,0] [1,0] rfl rfl ?_
   clear hS;intro a w F hS
   refine then_n (wp_seq (wp_seq ?_))
   refine region_z hS (qf (oN qi) trivial qz qZ) hB [28,27,26,25,24,23,22,21,20,19,18,17,16,13,12,11,10,5,4,3,2,0] [1,0] rfl rfl ?_
   clear hS;intro a w F hS
   refine then_n (wp_block ?_)
   have hC0:1≤1∧1≤l.length - k∧k≤k∧k≤k+1 - 1∧l.length=l.length∧l.take k=compactG (l.take (k+1)) ∧ ∀ q,k+1 - 1≤q→q<l.length→Go.Gm.nth l q=Go.Gm.nth l q:=⟨by omega,by omega,by omega,by omega,rfl,hst0,fun q _ _=>rfl⟩
   refine loop_keep (σ:=Nat×Nat×List Int) [0,2,4,10,11,12,13,16,17,18,19,20,21,22,23,24,25,26,27,28] [0] (fun s=>[(3,.pv (.int .i64 (s.1:Int))),(5,.pv (.int .i64 (s.2.1:Int)))]) (fun s=>[(1,.ob (.val v) (rowH 3 1 rInt s.2.2))]) (fun s=>1≤s.2.1∧s.2.1≤l.length - k∧k≤s.1∧s.1≤k+s.2.1 - 1∧s.2.2.length=l.length∧s.2.2.take s.1=compactG (l.take (k+s.2.1)) ∧ ∀ q,k+s.2.1 - 1≤q→q<l.length→Go.Gm.nth s.2.2 q=Go.Gm.nth l q) (fun s=>l.length - s.2.1) ((k),(1),(l)) hS ⟨rfl,rfl,rfl,rfl,rfl,rfl,rfl,rfl,rfl,rfl,rfl,rfl,rfl,rfl,rfl,rfl,rfl,rfl,rfl,rfl,rfl,rfl,trivial⟩ ⟨rfl,rfl,trivial⟩ hC0 ?_
   clear hS;intro s a w F hC hS
   obtain ⟨k1,j,l1⟩:=s
   try dsimp only at hC
   obtain ⟨F,hS⟩:=hS.nm [28,27,26,25,24,23,22,21,20,19,18,17,16,13,12,11,10,5,4,3,2,0] [1,0] rfl rfl
   try dsimp only at hS
   obtain ⟨hj1,hjk,hkk,hkj,hl1,htk,hrest⟩:=hC
   have hjw:IntKind.wrap .i64 ((j:Int) - 1)=(j:Int) - 1:=wrap_i64 (by omega)
   refine wp_seq (wp_seq ?_)
   refine region_z hS (qM rfl rfl (qM rfl rfl (qf (o_len_sub 1 Tryz.underlying35 .t (by omega)) r1 r1 (qf (o_lss .t .t) r2 qz qZ)))) hB [32,31,30,29,28,27,26,25,24,23,22,21,20,19,18,17,16,13,12,11,10,5,4,3,2,0] [1,0] rfl rfl ?_
   clear hS;intro a w F hS
   refine then_n ?_
   refine cond_b hS rfl (fun hc3=>?_) (fun hc3=>?_)
   ·skip
    have hjl:k+j<l.length:=by simp at hc3;omega
    have hx1:(Go.Gm.nth l1 (((k:Int)).toNat+((j:Int)).toNat))=Go.Gm.nth l (k+j):=by rw [Int.toNat_natCast,Int.toNat_natCast];exact hrest _ (by omega) hjl
    have hx0:Go.Gm.nth l1 (((k:Int)).toNat+(IntKind.wrap .i64 ((j:Int) - 1)).toNat)=Go.Gm.nth l (k+j - 1):=by rw [hjw,show ((k:Int)).toNat+((j:Int) - 1).toNat=k+j - 1 by omega];exact hrest _ (by omega) (by omega)
    have hstp:=compactG_step (l:=l) (p:=k+j) (by omega) hjl
    refine wp_skip (then_n (wp_seq (wp_block (wp_seq ?_))))
    refine region_any (by kernel_rfl) hS (by kernel_rfl) (qM rfl rfl (qM rfl rfl (qf (o_indexAddr_sub (sz:=1) 1 (.mk Tryz.underlying35 (by kernel_rfl)) .t .t (by omega) (by omega) (by rfl)) r2 r1 (qf (o_load_row0 (ag:=false) (sz':=1) (sz:=1) 1 .t (by intro x;rfl) (by omega) (by kernel_rfl) (by kernel_rfl) (by kernel_rfl)) r1 r1 (qM rfl rfl (qM rfl rfl (qf (o_sub .t qi) r1 qz (qf (o_indexAddr_sub (sz:=1) 1 (.mk Tryz.underlying35 (by kernel_rfl)) .t .t (by rw [hjw];omega) (by rw [hjw];omega) (by rfl)) r2 r1 (qf (o_load_row0 (ag:=false) (sz':=1) (sz:=1) 1 .t (by intro x;rfl) (by rw [hjw];omega) (by kernel_rfl) (by kernel_rfl) (by kernel_rfl)) r1 r1 (qf (o_neq .t .t) r2 qz qZ)))))))))) (by kernel_rfl) (by rw [hB];kernel_rfl) ?_
    clear hS;intro a w F hS
    obtain ⟨F,hS⟩:=hS.nm [44,43,42,41,40,39,38,37,36,35,32,31,30,29,28,27,26,25,24,23,22,21,20,19,18,17,16,13,12,11,10,5,4,3,2,0] [1,0] rfl rfl
    try dsimp only [List.map,xD,xE,xT,xU,ldSF,rInt] at hS
    try simp only [Int.toNat_natCast] at hS
    refine then_n ?_
    refine cond_b hS rfl (fun hc4=>?_) (fun hc4=>?_)
    ·skip
     have hne:¬ Go.Gm.nth l (k+j - 1)=Go.Gm.nth l (k+j):=by rw [← hx1,← hx0];simp at hc4 ⊢;exact fun e=>hc4 e.symm
     rw [if_neg hne] at hstp
     obtain ⟨i2,hi2e⟩:∃ i2,i2=k1+1:=⟨_,rfl⟩
     have hi2:IntKind.wrap .i64 ((k1:Int)+1)=(i2:Int):=by rw [hi2e];exact wrap_succ (by omega)
     obtain ⟨l2,hl2e⟩:∃ l2,l2=l1.set k1 (Go.Gm.nth l1 (k+j)):=⟨_,rfl⟩
     have hx1b:Go.Gm.nth l1 (k+j)=Go.Gm.nth l (k+j):=hrest _ (by omega) hjl
     have hC2:1≤j+1∧j+1≤l.length - k∧k≤i2∧i2≤k+(j+1) - 1∧l2.length=l.length∧l2.take i2=compactG (l.take (k+(j+1))) ∧ ∀ q,k+(j+1) - 1≤q→q<l.length→Go.Gm.nth l2 q=Go.Gm.nth l q:=⟨by omega,by omega,by omega,by omega,by rw [hl2e,List.length_set];exact hl1,by rw [hl2e,hi2e,take_nth (by rw [List.length_set];omega),List.take_set_of_le (Nat.le_refl _),htk,nth_eq (by rw [List.length_set];omega),List.getElem_set_self,hx1b];exact hstp.symm,fun q hq hq2=>by rw [hl2e,nth_eq (by rw [List.length_set];omega),List.getElem_set_ne (by omega),← nth_eq (by omega)];exact hrest q (by omega) hq2⟩
     refine wp_seq ?_
     refine region_z hS (qM rfl rfl (qM rfl rfl (qM rfl rfl (qM rfl rfl (qf (o_indexAddr_sub (sz:=1) 1 (.mk Tryz.underlying35 (by kernel_rfl)) .t .t (by omega) (by omega) (by rfl)) r2 r1 (qf (o_load_row0 (ag:=false) (sz':=1) (sz:=1) 1 .t (by intro x;rfl) (by omega) (by kernel_rfl) (by kernel_rfl) (by kernel_rfl)) r1 r1 (qf (o_indexAddr_row (sz:=1) 1 (.mk Tryz.underlying35 (by kernel_rfl)) .is .t (by omega) (by omega) (by rfl)) r2 r1 (qf (o_store_row1 (R:=rInt) (sz:=1) (v:=(Go.Gm.nth l1 (((k:Int)).toNat+((j:Int)).toNat))) 1 .t (by intro x;rfl) (by omega) .t rfl one_int (by kernel_rfl)) r2 r1 qZ)))))))) hB [51,50,49,48,47,46,45,44,43,42,41,40,39,38,37,36,35,32,31,30,29,28,27,26,25,24,23,22,21,20,19,18,17,16,13,12,11,10,5,4,3,2,0] [1,0] rfl rfl ?_
     clear hS;intro a w F hS
     try simp only [Int.toNat_natCast] at hS
     rw [← hl2e] at hS
     refine then_n ?_
     refine region_z hS (qM rfl rfl (qf (o_add .t qi) r1 qz (qN rfl rfl qZ))) hB [53,52,51,50,49,48,47,46,45,44,43,42,41,40,39,38,37,36,35,32,31,30,29,28,27,26,25,24,23,22,21,20,19,18,17,16,13,12,11,10,5,4,3,2,0] [1,0] rfl rfl ?_
     clear hS;intro a w F hS
     refine block_n (then_n ?_)
     refine region_z hS (qM rfl rfl (qf (o_add .t qi) r1 qz (qN rfl rfl qZ))) hB [53,52,51,50,49,48,47,46,45,44,43,42,41,40,39,38,37,36,35,34,33,32,31,30,29,28,27,26,25,24,23,22,21,20,19,18,17,16,13,12,11,10,5,4,3,2,0] [1,0] rfl rfl ?_
     clear hS;intro a w F hS
     refine then_n ?_
     have hmu:l.length - (j+1)<l.length - j:=by omega
     replace hS:=hS.ent (i:=3) (s':=.pv (.int .i64 (i2:Int))) rfl (.int hi2)
     replace hS:=hS.ent (i:=5) (s':=.pv (.int .i64 ((j+1:Nat):Int))) rfl (.int (wrap_succ (by omega)))
     obtain ⟨F,hS⟩:=hS.nm [28,27,26,25,24,23,22,21,20,19,18,17,16,13,12,11,10,4,2,0,5,3] [0,1] rfl rfl
     exact ⟨((i2),(j+1),(l2)),F,hC2,hS,hmu⟩
    have heq2:Go.Gm.nth l (k+j - 1)=Go.Gm.nth l (k+j):=by rw [← hx1,← hx0];simp at hc4 ⊢;exact hc4.symm
    rw [if_pos heq2] at hstp
    obtain ⟨i2,hi2e⟩:∃ i2,i2=k1:=⟨_,rfl⟩
    have hi2:(k1:Int)=(i2:Int):=by rw [hi2e]
    obtain ⟨l2,hl2e⟩:∃ l2,l2=l1:=⟨_,rfl⟩
    rw [← hl2e] at hS
    have hC2:1≤j+1∧j+1≤l.length - k∧k≤i2∧i2≤k+(j+1) - 1∧l2.length=l.length∧l2.take i2=compactG (l.take (k+(j+1))) ∧ ∀ q,k+(j+1) - 1≤q→q<l.length→Go.Gm.nth l2 q=Go.Gm.nth l q:=⟨by omega,by omega,by omega,by omega,by rw [hl2e];exact hl1,by rw [hl2e,hi2e,htk];exact hstp.symm,fun q hq hq2=>by rw [hl2e];exact hrest q (by omega) hq2⟩
    refine wp_skip (block_n (then_n ?_))
    refine region_z hS (qM rfl rfl (qf (o_add .t qi) r1 qz (qN rfl rfl qZ))) hB [44,43,42,41,40,39,38,37,36,35,34,33,32,31,30,29,28,27,26,25,24,23,22,21,20,19,18,17,16,13,12,11,10,5,4,3,2,0] [1,0] rfl rfl ?_
    clear hS;intro a w F hS
    refine then_n ?_
    have hmu:l.length - (j+1)<l.length - j:=by omega
    replace hS:=hS.ent (i:=3) (s':=.pv (.int .i64 (i2:Int))) rfl (.int hi2)
    replace hS:=hS.ent (i:=5) (s':=.pv (.int .i64 ((j+1:Nat):Int))) rfl (.int (wrap_succ (by omega)))
    obtain ⟨F,hS⟩:=hS.nm [28,27,26,25,24,23,22,21,20,19,18,17,16,13,12,11,10,4,2,0,5,3] [0,1] rfl rfl
    exact ⟨((i2),(j+1),(l2)),F,hC2,hS,hmu⟩
   have hjl:k+j=l.length:=by simp at hc3;omega
   have hg:(compactG l)=(l1.take k1++List.replicate (l1.length - k1) (0:Int)).take k1:=by rw [List.take_append_of_le_length (by rw [List.length_take];omega),List.take_take,Nat.min_self,htk,hjl,List.take_length]
   refine wp_exit (then_x (then_x (block_x (then_n (wp_seq ?_)))))
   refine region_z hS (qM rfl rfl (qM rfl rfl (qf (o_sub_row (sz:=1) 1 (.mk Tryz.underlying35 (by kernel_rfl)) .is .t (by omega) (by omega)) r2 r1 (qf (o_clear_row (R:=rInt) (z:=(0:Int)) (zs:=[.int .i64 0]) 1 Tryz.underlying35 (by kernel_rfl) rfl rfl (fun _ _=>⟨⟨rfl,rfl,inR0⟩,trivial⟩) (by intro x;rfl) .t (by simp;omega)) r1 r1 qZ)))) hB [56,55,54,32,31,30,29,28,27,26,25,24,23,22,21,20,19,18,17,16,13,12,11,10,5,4,3,2,0] [1,0] rfl rfl ?_
   clear hS;intro a w F hS
   refine then_n (wp_seq ?_)
   refine region_q hS (qM rfl rfl (qM rfl rfl (qf (o_cut_row (sz:=1) 1 (.mk Tryz.underlying35 (by kernel_rfl)) (by intro x;rfl) .is .t (by omega) (by simp;omega)) r2 r1 (qN rfl rfl qZ)))) hB ?_
   clear hS;intro a w F hS
   replace hS:=hS.sub
   obtain ⟨F,hS⟩:=hS.nm [59,58,57,56,55,54,32,31,30,29,28,27,26,25,24,23,22,21,20,19,18,17,16,13,12,11,10,5,4,3,2,0] [1,0] rfl rfl
   try dsimp only [RS.sub,SF.sub,CF.sub,csub,Anc.sub,List.map,rInt] at hS
   generalize Act.tau a 59=v59 at hS
   refine then_n (wp_ret (block_r (then_r (then_r (block_r (then_r ?_))))))
   have hS:=hS.turn 1 rfl (r':=RS.hp (rowH 3 1 rInt (compactG l) v59)) (fun _ _ _ _ h=>by rw [hg];exact h)
   refine ret_N1 (h':=fun v=>rowH 3 1 rInt (compactG l) v) hG hS rfl (.tmp rfl .nil) (.one .one) rfl
  have hne:¬ Go.Gm.nth l (k - 1)=Go.Gm.nth l k:=by rw [hy0] at hc2;simp at hc2;exact fun e=>hc2 e.symm
  rw [if_neg hne] at hst
  refine wp_skip (block_n (then_n ?_))
  refine region_z hS (qM rfl rfl (qf (o_add .t qi) r1 qz (qN rfl rfl qZ))) hB [25,24,23,22,21,20,19,18,17,16,15,14,13,12,11,10,3,2,0] [1,0] rfl rfl ?_
  clear hS;intro a w F hS
  refine then_n ?_
  replace hS:=hS.ent (i:=3) (s':=.pv (.int .i64 ((k+1:Nat):Int))) rfl (.int (wrap_succ (by omega)))
  obtain ⟨F,hS⟩:=hS.nm [2,0,3] [1,0] rfl rfl
  exact ⟨(k+1),F,⟨by omega,by omega,by rw [hst,hkc,← take_nth hil]⟩,hS,by omega⟩
 have hg:(compactG l)=l:=by rw [show k=l.length by simp at hc1;omega,List.take_length] at hkc;exact hkc
 refine wp_exit (then_x (then_x (block_x (then_n (wp_seq ?_)))))
 refine region_z hS (qM rfl rfl (qN rfl rfl qZ)) hB [2] [1,0] rfl rfl ?_
 clear hS;intro a w F hS
 refine then_n (wp_ret ?_)
 have hS:=hS.turn 1 rfl (r':=RS.hp (rowH 3 1 rInt (compactG l) v)) (fun _ _ _ _ h=>by rw [hg];exact h)
 refine ret_N1 (h':=fun v=>rowH 3 1 rInt (compactG l) v) hG hS rfl (.tmp rfl .nil) (.one .one) rfl
end Go.Proofs.YtcfgcpcakdknkaaGreat
