/- Laws and walks. No condition beyond what each says. -/
import Derived.Test.YtfecljadegkmdaaGreatJ5
namespace Go.Proofs.YtfecljadegkmdaaGreat
open Go Go.Gm Tryz
set_option linter.unusedVariables false
set_option linter.unusedSimpArgs false
set_option maxHeartbeats 4000000
set_option maxRecDepth 8000
theorem symST (v : Value) (l : List TxD) (ka km kb : Nat) (hll : l.length ≤ 1000000) (h1 : ka < km) (h2 : km < kb) (h3 : kb ≤ l.length) (hu : Unl TxD.id l) (hx : ZY TxD.id (seg l ka km)) (hy : ZY TxD.id (seg l km kb)) (f : FuncId) (fn : Func) (cps : List PV) (hf : prog.funcs[f]? = some fn) (hbd : fn.body.isSome = true) (hnn : (fn.name == "runtime.NumGoroutine") = false) (hw : ∀ x y : TxD, FnP prog f (.agg (rTx x) :: .agg (rTx y) :: cps) (.int .i64 (Zcw (TxD.id x) (TxD.id y)))) (n : Nat) (ih : ∀ (l : List TxD) (ka km kb : Nat), kb - ka < n → l.length ≤ 1000000 → ka < km → km < kb → kb ≤ l.length → Unl TxD.id l → ZY TxD.id (seg l ka km) → ZY TxD.id (seg l km kb) → FnG prog 273 1 [.is v, .int .i64 (ka : Nat), .int .i64 (km : Nat), .int .i64 (kb : Nat), .clos f cps] [ZJ 36 3 rTx l v] (.tup []) (fun _ => [ZJ 36 3 rTx (Zp TxD.id l ka kb) v])) (hn : kb - ka < n + 1) : FnG prog 273 1 [.is v, .int .i64 ka, .int .i64 km, .int .i64 kb, .clos f cps] [ZJ 36 3 rTx l v] (.tup []) (fun _ => [ZJ 36 3 rTx (Zp TxD.id l ka kb) v]) := by
 refine FnG.mk func273 Z ntmps273 Z kr fun B F0 a w F V hG O=>?_
 replace O:=O.turn 1 Z (r':=.ob (.val v) (ZJ 36 3 rTx l)) (fun _ _ _ _ h=>h)
 obtain ⟨hx9,hy9⟩:(∀ i j,ka≤i→i<j→j<km→TxD.id (Nn l i)<TxD.id (Nn l j)) ∧ ∀ i j,km≤i→i<j→j<kb→TxD.id (Nn l i)<TxD.id (Nn l j):=⟨(Zdr (κ:=TxD.id) ow).1 hx,(Zdr (κ:=TxD.id) ow).1 hy⟩
 refine Ya (Ya (rZ O (qR rr (qR rr (qf (o_sub .t .t) r2 qz (qf (o_eql .t qi) r1 qz qZ)))) V [28,4,3,2,1,0] [1,0] fun O=>?_))
 refine Zd O Z (fun hc0=>?_) (fun hc0=>?_)
 ·skip
  have hm1:km=ka+1:=by have h9:=hc0;rw [Zc ow] at h9;simp at h9;omega
  refine Ya (rZ O (qR rr (qO rr qZ)) V [10,4,3,2,1,0] [1,0] fun O=>Ya ?_)
  refine rZ O (qR rr (qO rr qZ)) V [11,10,4,3,2,1,0] [1,0] fun O=>(Ya (Ye ?_))
  have hc0:km≤km∧km≤kb∧kb≤kb∧(∀ q,km≤q→q<km→TxD.id (Nn l q)<TxD.id (Nn l ka)) ∧ ∀ q,kb≤q→q<kb→TxD.id (Nn l ka)<TxD.id (Nn l q):=⟨Yw _,by omega,Yw _,fun q h1 h2=>by omega,fun q h1 h2=>by omega⟩
  refine Zo (σ:=Nat×Nat) [0,1,2,3,4] [0,1] (fun s=>[(10,.pv (.int .i64 (s.1:Int))),(11,.pv (.int .i64 (s.2:Int)))]) (fun s=>[]) (fun s=>km≤s.1∧s.1≤s.2∧s.2≤kb∧(∀ q,km≤q→q<s.1→TxD.id (Nn l q)<TxD.id (Nn l ka)) ∧ ∀ q,s.2≤q→q<kb→TxD.id (Nn l ka)<TxD.id (Nn l q)) (fun s=>s.2 - s.1) ((km),(kb)) O ⟨rfl,rfl,rfl,rfl,rfl,rfl,rfl,tv⟩ ⟨rfl,rfl,tv⟩ hc0 ?_
  clear O;intro s a w F hC O
  obtain ⟨i,j⟩:=s
  try dsimp only at hC
  obtain ⟨F,O⟩:=O.nM [11,10,4,3,2,1,0] [1,0]
  try dsimp only at O
  obtain ⟨hki,hij,hjk,hlo,hhi⟩:=hC
  refine Ya (Ya (rZ O (qR rr (qR rr (qL r2))) V [33,11,10,4,3,2,1,0] [1,0] fun O=>?_))
  refine Zd O Z (fun hc1=>?_) (fun hc1=>?_)
  ·skip
   have hlt:i<j:=by simp at hc1;omega
   refine Yf (Za (Ye (Ya (Zf O (qR rr (qR rr (qf (o_add .t .t) r2 qz (qf (ZaK YbF kr .t) r1 qz (qf (Zg4 .t qi (by decide)) r1 qz (qf (ZaK YbA kr .t) r1 qz (qO rr qZ))))))) V [12,11,10,4,3,2,1,0] [1,0] Z Z fun a w F O=>?_))))
   obtain ⟨m,hmm⟩:∃ m:Nat,m=(i+j) / 2:=⟨_,rfl⟩
   replace O:=O.ent (i:=12) (s':=.pv (.int .i64 (m:Int))) Z (.int (by rw [hmm];exact ZcE ow))
   obtain ⟨F,O⟩:=O.nM [12,11,10,4,3,2,1,0] [1,0]
   refine Za (Ya (Zq O (qR rr (qR rr (qR rr (qf (o_indexAddr_row (sz:=3) 1 (.mk Ybw kr) .is .t ow ow (by rfl)) r2 r1 (qf (Zn (ag:=true) (sz':=3) (sz:=3) 1 .t (by intro x;rfl) ow kr kr kr) r1 r1 (qR rr (qR rr (qf (o_indexAddr_row (sz:=3) 1 (.mk Ybw kr) .is .t ow ow (by rfl)) r2 r1 (qf (Zn (ag:=true) (sz':=3) (sz:=3) 1 .t (by intro x;rfl) ow kr kr kr) r1 r1 (qf (o_callClosP (avs:=[.agg (rTx (Nn l ((m:Int)).toNat)),.agg (rTx (Nn l ((ka:Int)).toNat))]) .t (hw (Nn l ((m:Int)).toNat) (Nn l ((ka:Int)).toNat)) hf hbd hnn (Args.two (.pagg .t) (.pagg .t))) r3 qz (qf (ZaG .t qi) r1 qz qZ))))))))))) V [50,12,11,10,4,3,2,1,0] [1,0] Z Z fun a w F O=>?_))
   try dsimp only [List.map,xD,xE,xT,xU,ldSF,rTx] at O
   try simp only [Yg] at O
   refine Za (Zd O Z (fun hc2=>?_) (fun hc2=>?_))
   ·skip
    have h9:Zcw (TxD.id (Nn l m)) (TxD.id (Nn l ka))<0:=by simpa using hc2
    have h8:=ZaR.1 h9
    obtain ⟨i2,hi2e⟩:∃ z,z=m+1:=⟨_,rfl⟩
    obtain ⟨j2,hj2e⟩:∃ z,z=j:=⟨_,rfl⟩
    have hi2:IntKind.wrap .i64 ((m:Int)+1)=(i2:Int):=by rw [hi2e];exact Zl ow
    have hj2:(j:Int)=(j2:Int):=by rw [hj2e]
    have hmu:j2 - i2<j - i:=by omega
    have hC2:km≤i2∧i2≤j2∧j2≤kb∧(∀ q,km≤q→q<i2→TxD.id (Nn l q)<TxD.id (Nn l ka)) ∧ ∀ q,j2≤q→q<kb→TxD.id (Nn l ka)<TxD.id (Nn l q):=⟨by omega,by omega,by omega,fun q h1 h2=>by rcases Y5 q m with h | h;exact YaW (hy9 q m h1 h ow) h8;rw [show q=m by omega];exact h8,by rw [hj2e];exact hhi⟩
    refine Zf O (qR rr (qp r1 (qO rr qZ))) V [11,10,4,3,2,1,0] [1,0] Z Z fun a w F O=>Zm (Za ?_)
    replace O:=O.ent (i:=10) (s':=.pv (.int .i64 (i2:Int))) Z (.int hi2)
    replace O:=O.ent (i:=11) (s':=.pv (.int .i64 (j2:Int))) Z (.int hj2)
    obtain ⟨F,O⟩:=O.nM [4,3,2,1,0,11,10] [1,0]
    exact ⟨((i2),(j2)),F,hC2,O,hmu⟩
   have h9:¬ Zcw (TxD.id (Nn l m)) (TxD.id (Nn l ka))<0:=by simpa using hc2
   have h8:=Zex hu (i:=m) (j:=ka) ow ow ow (fun e=>h9 (ZaR.2 e))
   obtain ⟨i2,hi2e⟩:∃ z,z=i:=⟨_,rfl⟩
   obtain ⟨j2,hj2e⟩:∃ z,z=m:=⟨_,rfl⟩
   have hi2:(i:Int)=(i2:Int):=by rw [hi2e]
   have hj2:(m:Int)=(j2:Int):=by rw [hj2e]
   have hmu:j2 - i2<j - i:=by omega
   have hC2:km≤i2∧i2≤j2∧j2≤kb∧(∀ q,km≤q→q<i2→TxD.id (Nn l q)<TxD.id (Nn l ka)) ∧ ∀ q,j2≤q→q<kb→TxD.id (Nn l ka)<TxD.id (Nn l q):=⟨by omega,by omega,by omega,by rw [hi2e];exact hlo,fun q h1 h2=>by rcases Y5 m q with h | h;exact YaW h8 (hy9 m q ow h h2);rw [show q=m by omega];exact h8⟩
   refine Zf O (qR rr (qO rr qZ)) V [11,10,4,3,2,1,0] [1,0] Z Z fun a w F O=>Zm (Za ?_)
   replace O:=O.ent (i:=10) (s':=.pv (.int .i64 (i2:Int))) Z (.int hi2)
   replace O:=O.ent (i:=11) (s':=.pv (.int .i64 (j2:Int))) Z (.int hj2)
   obtain ⟨F,O⟩:=O.nM [4,3,2,1,0,11,10] [1,0]
   exact ⟨((i2),(j2)),F,hC2,O,hmu⟩
  have hjj:i=j:=by simp at hc1;omega
  have hg1:Zil l ka (i - 1)=Zp TxD.id l ka kb:=ZhT ow ow ow (by rw [← hm1];exact hy) (by rw [← hm1];exact hlo) (by rw [hjj];exact hhi)
  refine Yr (Zj (Zj (Zv (Za (Ya (Ya (rZ O (qR rr (qO rr qZ)) V [13,10,4,3,2,1,0] [1,0] fun O=>Ye ?_)))))))
  have hc1:ka≤ka∧ka+1≤i∧l=Zil l ka ka:=⟨Yw _,by omega,(Zh4 ow).symm⟩
  refine Zo (σ:=Nat×List TxD) [0,1,2,3,4,10] [0] (fun s=>[(13,.pv (.int .i64 (s.1:Int)))]) (fun s=>[(1,.ob (.val v) (ZJ 36 3 rTx s.2))]) (fun s=>ka≤s.1∧s.1+1≤i∧s.2=Zil l ka s.1) (fun s=>i - s.1) ((ka),(l)) O ⟨rfl,rfl,rfl,rfl,rfl,rfl,rfl,tv⟩ ⟨rfl,rfl,tv⟩ hc1 ?_
  clear O;intro s a w F hC O
  obtain ⟨k,l1⟩:=s
  try dsimp only at hC
  obtain ⟨F,O⟩:=O.nM [13,10,4,3,2,1,0] [1,0]
  try dsimp only at O
  obtain ⟨hka,hki2,hl1⟩:=hC
  have hn1:l1.length=l.length:=by rw [hl1];exact Zcj hka ow
  have hwk:IntKind.wrap .i64 ((k:Int)+1)=((k+1:Nat):Int):=Zl ow
  have hwi:IntKind.wrap .i64 ((i:Int) - 1)=((i - 1:Nat):Int):=by rw [Zc ow];omega
  refine Ya (Ya (rZ O (qR rr (qR rr (qf (o_sub .t qi) r1 qz (qL r2)))) V [58,13,10,4,3,2,1,0] [1,0] fun O=>?_))
  refine Zd O Z (fun hc3=>?_) (fun hc3=>?_)
  ·skip
   have hlt:k+1<i:=by have h9:=hc3;rw [hwi] at h9;simp at h9;omega
   refine Yf (Za (Ya (Ye (Zq O (qR rr (qR rr (qR rr (qR rr (qp r1 (qR rr (qR rr (qp r1 (qf (o_indexAddr_row (sz:=3) 1 (.mk Ybw kr) .is .t (by rw [hwk];omega) (by rw [hwk];omega) (by rfl)) r2 r1 (qf (Zn (ag:=true) (sz':=3) (sz:=3) 1 .t (by intro x;rfl) (by rw [hwk];omega) kr kr kr) r1 r1 (qR rr (qR rr (qf (o_indexAddr_row (sz:=3) 1 (.mk Ybw kr) .is .t ow ow (by rfl)) r2 r1 (qf (Zn (ag:=true) (sz':=3) (sz:=3) 1 .t (by intro x;rfl) ow kr kr kr) r1 r1 (qf (o_indexAddr_row (sz:=3) 1 (.mk Ybw kr) .is .t ow ow (by rfl)) r2 r1 (qf (ZU (sz:=3) 1 .t (by intro x;rfl) ow (.conv .t (Ent.aggU (l:=rTx (Nn l1 (IntKind.wrap .i64 ((k:Int)+1)).toNat)) Z Z)) kr) r2 r1 (qf (o_indexAddr_row (sz:=3) 1 (.mk Ybw kr) .is .t (by rw [hwk];omega) (by rw [YE,hwk];omega) (by rfl)) r2 r1 (qf (ZU (sz:=3) 1 .t (by intro x;rfl) (by rw [YE,hwk];omega) (.conv .t (Ent.aggU (l:=rTx (Nn l1 ((k:Int)).toNat)) Z Z)) kr) r2 r1 qZ)))))))))))))))))) V [13,10,4,3,2,1,0] [1,0] Z Z fun a w F O=>?_))))
   try dsimp only [List.map,Ze,xL,xM,Nat.reduceAdd,xD,xE,xT,xU,xC,xN,zCF,ldSF,rTx] at O
   try simp only [Yg] at O
   rw [hwk] at O
   simp only [Yg] at O
   obtain ⟨l2,hl2⟩:∃ z,z=Zil l ka (k+1):=⟨_,rfl⟩
   rw [show (l1.set k (Nn l1 (k+1))).set (k+1) (Nn l1 k)=l2 from by rw [hl2,← Zh3 hka ow,← hl1];rfl] at O
   refine Zm (Za (rZ O (qR rr (qp r1 (qO rr qZ))) V [13,10,4,3,2,1,0] [1,0] fun O=>?_))
   replace O:=O.ent (i:=13) (s':=.pv (.int .i64 ((k+1:Nat):Int))) Z (.int hwk)
   obtain ⟨F,O⟩:=O.nM [10,4,3,2,1,0,13] [0,1]
   exact ⟨((k+1),(l2)),F,⟨by omega,by omega,hl2⟩,O,by omega⟩
  have hg:Zp TxD.id l ka kb=l1:=by rw [hl1,← hg1,show k=i - 1 by have h9:=hc3;rw [hwi] at h9;simp at h9;omega]
  refine Yr (Zj (Zj (Zv (Za (Yi (Zk ?_))))))
  have O:=O.turn 1 Z (r':=RS.hp (ZJ 36 3 rTx (Zp TxD.id l ka kb) v)) (fun _ _ _ _ h=>by rw [hg];exact h)
  refine ZA hG O Z .nil .none rfl
 have hm1:ka+1<km:=by have h9:=hc0;rw [Zc ow] at h9;simp at h9;omega
 refine Yf (Za (Ya (Ya (rZ O (qR rr (qR rr (qf (o_sub .t .t) r2 qz (qf (o_eql .t qi) r1 qz qZ)))) V [80,4,3,2,1,0] [1,0] fun O=>?_))))
 refine Zd O Z (fun hc4=>?_) (fun hc4=>?_)
 ·skip
  have hm2:kb=km+1:=by have h9:=hc4;rw [Zc ow] at h9;simp at h9;omega
  refine Ya (rZ O (qR rr (qO rr qZ)) V [14,4,3,2,1,0] [1,0] fun O=>Ya ?_)
  refine rZ O (qR rr (qO rr qZ)) V [15,14,4,3,2,1,0] [1,0] fun O=>(Ya (Ye ?_))
  have hc0:ka≤ka∧ka≤km∧km≤km∧(∀ q,ka≤q→q<ka→TxD.id (Nn l q)<TxD.id (Nn l km)) ∧ ∀ q,km≤q→q<km→TxD.id (Nn l km)<TxD.id (Nn l q):=⟨Yw _,by omega,Yw _,fun q h1 h2=>by omega,fun q h1 h2=>by omega⟩
  refine Zo (σ:=Nat×Nat) [0,1,2,3,4] [0,1] (fun s=>[(14,.pv (.int .i64 (s.1:Int))),(15,.pv (.int .i64 (s.2:Int)))]) (fun s=>[]) (fun s=>ka≤s.1∧s.1≤s.2∧s.2≤km∧(∀ q,ka≤q→q<s.1→TxD.id (Nn l q)<TxD.id (Nn l km)) ∧ ∀ q,s.2≤q→q<km→TxD.id (Nn l km)<TxD.id (Nn l q)) (fun s=>s.2 - s.1) ((ka),(km)) O ⟨rfl,rfl,rfl,rfl,rfl,rfl,rfl,tv⟩ ⟨rfl,rfl,tv⟩ hc0 ?_
  clear O;intro s a w F hC O
  obtain ⟨i,j⟩:=s
  try dsimp only at hC
  obtain ⟨F,O⟩:=O.nM [15,14,4,3,2,1,0] [1,0]
  try dsimp only at O
  obtain ⟨hki,hij,hjk,hlo,hhi⟩:=hC
  refine Ya (Ya (rZ O (qR rr (qR rr (qL r2))) V [85,15,14,4,3,2,1,0] [1,0] fun O=>?_))
  refine Zd O Z (fun hc5=>?_) (fun hc5=>?_)
  ·skip
   have hlt:i<j:=by simp at hc5;omega
   refine Yf (Za (Ye (Ya (Zf O (qR rr (qR rr (qf (o_add .t .t) r2 qz (qf (ZaK YbF kr .t) r1 qz (qf (Zg4 .t qi (by decide)) r1 qz (qf (ZaK YbA kr .t) r1 qz (qO rr qZ))))))) V [16,15,14,4,3,2,1,0] [1,0] Z Z fun a w F O=>?_))))
   obtain ⟨m,hmm⟩:∃ m:Nat,m=(i+j) / 2:=⟨_,rfl⟩
   replace O:=O.ent (i:=16) (s':=.pv (.int .i64 (m:Int))) Z (.int (by rw [hmm];exact ZcE ow))
   obtain ⟨F,O⟩:=O.nM [16,15,14,4,3,2,1,0] [1,0]
   refine Za (Ya (Zq O (qR rr (qR rr (qR rr (qf (o_indexAddr_row (sz:=3) 1 (.mk Ybw kr) .is .t ow ow (by rfl)) r2 r1 (qf (Zn (ag:=true) (sz':=3) (sz:=3) 1 .t (by intro x;rfl) ow kr kr kr) r1 r1 (qR rr (qR rr (qf (o_indexAddr_row (sz:=3) 1 (.mk Ybw kr) .is .t ow ow (by rfl)) r2 r1 (qf (Zn (ag:=true) (sz':=3) (sz:=3) 1 .t (by intro x;rfl) ow kr kr kr) r1 r1 (qf (o_callClosP (avs:=[.agg (rTx (Nn l ((km:Int)).toNat)),.agg (rTx (Nn l ((m:Int)).toNat))]) .t (hw (Nn l ((km:Int)).toNat) (Nn l ((m:Int)).toNat)) hf hbd hnn (Args.two (.pagg .t) (.pagg .t))) r3 qz (qf (ZaG .t qi) r1 qz (qf (ZaA .t) r1 qz qZ)))))))))))) V [103,16,15,14,4,3,2,1,0] [1,0] Z Z fun a w F O=>?_))
   try dsimp only [List.map,xD,xE,xT,xU,ldSF,rTx] at O
   try simp only [Yg] at O
   refine Za (Zd O Z (fun hc6=>?_) (fun hc6=>?_))
   ·skip
    have h9:¬ Zcw (TxD.id (Nn l km)) (TxD.id (Nn l m))<0:=by simpa using hc6
    have h8:=Zex hu (i:=km) (j:=m) ow ow ow (fun e=>h9 (ZaR.2 e))
    obtain ⟨i2,hi2e⟩:∃ z,z=m+1:=⟨_,rfl⟩
    obtain ⟨j2,hj2e⟩:∃ z,z=j:=⟨_,rfl⟩
    have hi2:IntKind.wrap .i64 ((m:Int)+1)=(i2:Int):=by rw [hi2e];exact Zl ow
    have hj2:(j:Int)=(j2:Int):=by rw [hj2e]
    have hmu:j2 - i2<j - i:=by omega
    have hC2:ka≤i2∧i2≤j2∧j2≤km∧(∀ q,ka≤q→q<i2→TxD.id (Nn l q)<TxD.id (Nn l km)) ∧ ∀ q,j2≤q→q<km→TxD.id (Nn l km)<TxD.id (Nn l q):=⟨by omega,by omega,by omega,fun q h1 h2=>by rcases Y5 q m with h | h;exact YaW (hx9 q m h1 h ow) h8;rw [show q=m by omega];exact h8,by rw [hj2e];exact hhi⟩
    refine Zf O (qR rr (qp r1 (qO rr qZ))) V [15,14,4,3,2,1,0] [1,0] Z Z fun a w F O=>Zm (Za ?_)
    replace O:=O.ent (i:=14) (s':=.pv (.int .i64 (i2:Int))) Z (.int hi2)
    replace O:=O.ent (i:=15) (s':=.pv (.int .i64 (j2:Int))) Z (.int hj2)
    obtain ⟨F,O⟩:=O.nM [4,3,2,1,0,15,14] [1,0]
    exact ⟨((i2),(j2)),F,hC2,O,hmu⟩
   have h9:Zcw (TxD.id (Nn l km)) (TxD.id (Nn l m))<0:=by simpa using hc6
   have h8:=ZaR.1 h9
   obtain ⟨i2,hi2e⟩:∃ z,z=i:=⟨_,rfl⟩
   obtain ⟨j2,hj2e⟩:∃ z,z=m:=⟨_,rfl⟩
   have hi2:(i:Int)=(i2:Int):=by rw [hi2e]
   have hj2:(m:Int)=(j2:Int):=by rw [hj2e]
   have hmu:j2 - i2<j - i:=by omega
   have hC2:ka≤i2∧i2≤j2∧j2≤km∧(∀ q,ka≤q→q<i2→TxD.id (Nn l q)<TxD.id (Nn l km)) ∧ ∀ q,j2≤q→q<km→TxD.id (Nn l km)<TxD.id (Nn l q):=⟨by omega,by omega,by omega,by rw [hi2e];exact hlo,fun q h1 h2=>by rcases Y5 m q with h | h;exact YaW h8 (hx9 m q ow h h2);rw [show q=m by omega];exact h8⟩
   refine Zf O (qR rr (qO rr qZ)) V [15,14,4,3,2,1,0] [1,0] Z Z fun a w F O=>Zm (Za ?_)
   replace O:=O.ent (i:=14) (s':=.pv (.int .i64 (i2:Int))) Z (.int hi2)
   replace O:=O.ent (i:=15) (s':=.pv (.int .i64 (j2:Int))) Z (.int hj2)
   obtain ⟨F,O⟩:=O.nM [4,3,2,1,0,15,14] [1,0]
   exact ⟨((i2),(j2)),F,hC2,O,hmu⟩
  have hjj:i=j:=by simp at hc5;omega
  have hg1:ZeL l i km=Zp TxD.id l ka kb:=by rw [hm2];exact Zgb hki ow ow hx hlo (by rw [hjj];exact hhi)
  refine Yr (Zj (Zj (Zv (Za (Ya (Ya (rZ O (qR rr (qO rr qZ)) V [17,14,4,3,2,1,0] [1,0] fun O=>Ye ?_)))))))
  have hc1:i≤km∧km≤km∧l=ZeL l km km:=⟨by omega,Yw _,(ZdP ow).symm⟩
  refine Zo (σ:=Nat×List TxD) [0,1,2,3,4,14] [0] (fun s=>[(17,.pv (.int .i64 (s.1:Int)))]) (fun s=>[(1,.ob (.val v) (ZJ 36 3 rTx s.2))]) (fun s=>i≤s.1∧s.1≤km∧s.2=ZeL l s.1 km) (fun s=>s.1) ((km),(l)) O ⟨rfl,rfl,rfl,rfl,rfl,rfl,rfl,tv⟩ ⟨rfl,rfl,tv⟩ hc1 ?_
  clear O;intro s a w F hC O
  obtain ⟨k,l1⟩:=s
  try dsimp only at hC
  obtain ⟨F,O⟩:=O.nM [17,14,4,3,2,1,0] [1,0]
  try dsimp only at O
  obtain ⟨hka,hki2,hl1⟩:=hC
  have hn1:l1.length=l.length:=by rw [hl1];exact ZbA hki2 ow
  have hwk:i<k→IntKind.wrap .i64 ((k:Int) - 1)=((k - 1:Nat):Int):=fun h=>by rw [Zc ow];omega
  refine Ya (Ya (rZ O (qR rr (qR rr (qf (Zas .t .t) r2 qz qZ))) V [110,17,14,4,3,2,1,0] [1,0] fun O=>?_))
  refine Zd O Z (fun hc7=>?_) (fun hc7=>?_)
  ·skip
   have hlt:i<k:=by simp at hc7;omega
   refine Yf (Za (Ya (Ye (Zq O (qR rr (qR rr (qR rr (qR rr (qf (o_sub .t qi) r1 qz (qR rr (qR rr (qf (o_sub .t qi) r1 qz (qf (o_indexAddr_row (sz:=3) 1 (.mk Ybw kr) .is .t (by rw [hwk hlt];omega) (by rw [hwk hlt];omega) (by rfl)) r2 r1 (qf (Zn (ag:=true) (sz':=3) (sz:=3) 1 .t (by intro x;rfl) (by rw [hwk hlt];omega) kr kr kr) r1 r1 (qR rr (qR rr (qf (o_indexAddr_row (sz:=3) 1 (.mk Ybw kr) .is .t ow ow (by rfl)) r2 r1 (qf (Zn (ag:=true) (sz':=3) (sz:=3) 1 .t (by intro x;rfl) ow kr kr kr) r1 r1 (qf (o_indexAddr_row (sz:=3) 1 (.mk Ybw kr) .is .t ow ow (by rfl)) r2 r1 (qf (ZU (sz:=3) 1 .t (by intro x;rfl) ow (.conv .t (Ent.aggU (l:=rTx (Nn l1 (IntKind.wrap .i64 ((k:Int) - 1)).toNat)) Z Z)) kr) r2 r1 (qf (o_indexAddr_row (sz:=3) 1 (.mk Ybw kr) .is .t (by rw [hwk hlt];omega) (by rw [YE,hwk hlt];omega) (by rfl)) r2 r1 (qf (ZU (sz:=3) 1 .t (by intro x;rfl) (by rw [YE,hwk hlt];omega) (.conv .t (Ent.aggU (l:=rTx (Nn l1 ((k:Int)).toNat)) Z Z)) kr) r2 r1 qZ)))))))))))))))))) V [17,14,4,3,2,1,0] [1,0] Z Z fun a w F O=>?_))))
   try dsimp only [List.map,Ze,xL,xM,Nat.reduceAdd,xD,xE,xT,xU,xC,xN,zCF,ldSF,rTx] at O
   try simp only [Yg] at O
   rw [hwk hlt] at O
   simp only [Yg] at O
   obtain ⟨l2,hl2⟩:∃ z,z=ZeL l (k - 1) km:=⟨_,rfl⟩
   rw [show (l1.set k (Nn l1 (k - 1))).set (k - 1) (Nn l1 k)=l2 from by rw [hl2,← Zdx ow hki2 ow,← hl1];rfl] at O
   refine Zm (Za (rZ O (qR rr (qf (o_sub .t qi) r1 qz (qO rr qZ))) V [17,14,4,3,2,1,0] [1,0] fun O=>?_))
   replace O:=O.ent (i:=17) (s':=.pv (.int .i64 ((k - 1:Nat):Int))) Z (.int (hwk hlt))
   obtain ⟨F,O⟩:=O.nM [14,4,3,2,1,0,17] [0,1]
   exact ⟨((k - 1),(l2)),F,⟨by omega,by omega,hl2⟩,O,by omega⟩
  have hg:Zp TxD.id l ka kb=l1:=by rw [hl1,← hg1,show k=i by simp at hc7;omega]
  refine Yr (Zj (Zj (Zv (Za (Yi (Zk ?_))))))
  have O:=O.turn 1 Z (r':=RS.hp (ZJ 36 3 rTx (Zp TxD.id l ka kb) v)) (fun _ _ _ _ h=>by rw [hg];exact h)
  refine ZA hG O Z .nil .none rfl
 have hm2:km+1<kb:=by have h9:=hc4;rw [Zc ow] at h9;simp at h9;omega
 refine Yf (Za (Ya (Zf O (qR rr (qR rr (qf (o_add .t .t) r2 qz (qf (ZaK YbF kr .t) r1 qz (qf (Zg4 .t qi (by decide)) r1 qz (qf (ZaK YbA kr .t) r1 qz (qO rr qZ))))))) V [18,4,3,2,1,0] [1,0] Z Z fun a w F O=>?_)))
 obtain ⟨mid,hmmid⟩:∃ m:Nat,m=(ka+kb) / 2:=⟨_,rfl⟩
 replace O:=O.ent (i:=18) (s':=.pv (.int .i64 (mid:Int))) Z (.int (by rw [hmmid];exact ZcE ow))
 obtain ⟨F,O⟩:=O.nM [18,4,3,2,1,0] [1,0]
 refine Za (Ya (Zf O (qR rr (qR rr (qf (o_add .t .t) r2 qz (qO rr qZ)))) V [19,18,4,3,2,1,0] [1,0] Z Z fun a w F O=>?_))
 replace O:=O.ent (i:=19) (s':=.pv (.int .i64 ((mid+km:Nat):Int))) Z (.int (by rw [Zc ow];omega))
 obtain ⟨F,O⟩:=O.nM [19,18,4,3,2,1,0] [1,0]
 refine Za (Ya (rZ O (qI (qI qZ)) V [19,18,4,3,2,1,0] [1,0] fun O=>(Ya (Ya ?_))))
 refine rZ O (qR rr (qR rr (qf (Zas .t .t) r2 qz qZ))) V [140,19,18,4,3,2,1,0] [1,0] fun O=>?_
 refine Zb4 (σ:=Nat×Nat) [0,1,2,3,4,18,19] [0,1] (fun s=>[(20,.pv (.int .i64 (s.1:Int))),(21,.pv (.int .i64 (s.2:Int)))]) (fun s=>[]) (fun s=>(mid<km∧s.1+kb=mid+km∧s.2=mid)∨(km≤mid∧s.1=ka∧s.2=km)) O ?_ ?_
 ·skip
  refine Zd O Z (fun hc8=>?_) (fun hc8=>?_)
  ·skip
   have hmm:mid<km:=by simp at hc8;omega
   obtain ⟨s0,s0e⟩:∃ z,z=mid+km - kb:=⟨_,rfl⟩
   obtain ⟨r0,r0e⟩:∃ z,z=mid:=⟨_,rfl⟩
   have hs0:(mid<km∧s0+kb=mid+km∧r0=mid)∨(km≤mid∧s0=ka∧r0=km):=.inl ⟨hmm,by omega,r0e⟩
   have hcs:IntKind.wrap .i64 (((mid+km:Nat):Int) - (kb:Int))=(s0:Int):=by rw [Zc ow];omega
   have hcr:(mid:Int)=(r0:Int):=by rw [r0e]
   refine Ya (rZ O (qR rr (qR rr (qf (o_sub .t .t) r2 qz (qO rr qZ)))) V [20,19,18,4,3,2,1,0] [1,0] fun O=>?_)
   refine rZ O (qR rr (qO rr qZ)) V [21,20,19,18,4,3,2,1,0] [1,0] fun O=>?_
   replace O:=O.ent (i:=20) (s':=.pv (.int .i64 (s0:Int))) Z (.int hcs)
   replace O:=O.ent (i:=21) (s':=.pv (.int .i64 (r0:Int))) Z (.int hcr)
   obtain ⟨F,O⟩:=O.nM [19,18,4,3,2,1,0,21,20] [1,0]
   exact ⟨((s0),(r0)),F,hs0,O⟩
  have hmm:km≤mid:=by simp at hc8;omega
  obtain ⟨s0,s0e⟩:∃ z,z=ka:=⟨_,rfl⟩
  obtain ⟨r0,r0e⟩:∃ z,z=km:=⟨_,rfl⟩
  have hs0:(mid<km∧s0+kb=mid+km∧r0=mid)∨(km≤mid∧s0=ka∧r0=km):=.inr ⟨hmm,s0e,r0e⟩
  have hcs:(ka:Int)=(s0:Int):=by rw [s0e]
  have hcr:(km:Int)=(r0:Int):=by rw [r0e]
  refine Ya (rZ O (qR rr (qO rr qZ)) V [20,19,18,4,3,2,1,0] [1,0] fun O=>?_)
  refine rZ O (qR rr (qO rr qZ)) V [21,20,19,18,4,3,2,1,0] [1,0] fun O=>?_
  replace O:=O.ent (i:=20) (s':=.pv (.int .i64 (s0:Int))) Z (.int hcs)
  replace O:=O.ent (i:=21) (s':=.pv (.int .i64 (r0:Int))) Z (.int hcr)
  obtain ⟨F,O⟩:=O.nM [19,18,4,3,2,1,0,21,20] [1,0]
  exact ⟨((s0),(r0)),F,hs0,O⟩
 clear O;intro s a w F hC O
 obtain ⟨s0,r0⟩:=s
 try dsimp only at hC
 obtain ⟨F,O⟩:=O.nM [21,20,19,18,4,3,2,1,0] [1,0]
 try dsimp only at O
 have hs0:=hC
 refine Ya (Zf O (qR rr (qf (o_sub .t qi) r1 qz (qO rr qZ))) V [22,21,20,19,18,4,3,2,1,0] [1,0] Z Z fun a w F O=>?_)
 replace O:=O.ent (i:=22) (s':=.pv (.int .i64 ((mid+km - 1:Nat):Int))) Z (.int (by rw [Zc ow];omega))
 obtain ⟨F,O⟩:=O.nM [22,21,20,19,18,4,3,2,1,0] [1,0]
 refine Za (Ya (Ye ?_))
 have hsr0:s0≤r0∧ka≤s0∧r0≤km∧r0≤mid:=by omega
 refine Zo (σ:=Nat×Nat) [0,1,2,3,4,18,19,22] [0,1] (fun s=>[(20,.pv (.int .i64 (s.1:Int))),(21,.pv (.int .i64 (s.2:Int)))]) (fun s=>[]) (fun s=>s0≤s.1∧s.1≤s.2∧s.2≤r0∧(s.1=s0∨TxD.id (Nn l (s.1 - 1))<TxD.id (Nn l (mid+km - s.1)))∧(s.2=r0∨TxD.id (Nn l (mid+km - 1 - s.2))<TxD.id (Nn l s.2))) (fun s=>s.2 - s.1) ((s0),(r0)) O ⟨rfl,rfl,rfl,rfl,rfl,rfl,rfl,rfl,rfl,rfl,tv⟩ ⟨rfl,rfl,tv⟩ ⟨Yw _,hsr0.1,Yw _,.inl rfl,.inl rfl⟩ ?_
 clear O;intro s a w F hC O
 obtain ⟨st,r⟩:=s
 try dsimp only at hC
 obtain ⟨F,O⟩:=O.nM [22,21,20,19,18,4,3,2,1,0] [1,0]
 try dsimp only at O
 obtain ⟨hs1,hsr,hr1,hlo,hhi⟩:=hC
 refine Ya (Ya (rZ O (qR rr (qR rr (qL r2))) V [151,22,21,20,19,18,4,3,2,1,0] [1,0] fun O=>?_))
 refine Zd O Z (fun hc9=>?_) (fun hc9=>?_)
 ·skip
  have hlt:st<r:=by simp at hc9;omega
  refine Yf (Za (Ye (Ya (Zf O (qR rr (qR rr (qf (o_add .t .t) r2 qz (qf (ZaK YbF kr .t) r1 qz (qf (Zg4 .t qi (by decide)) r1 qz (qf (ZaK YbA kr .t) r1 qz (qO rr qZ))))))) V [23,22,21,20,19,18,4,3,2,1,0] [1,0] Z Z fun a w F O=>?_))))
  obtain ⟨m,hmm⟩:∃ m:Nat,m=(st+r) / 2:=⟨_,rfl⟩
  replace O:=O.ent (i:=23) (s':=.pv (.int .i64 (m:Int))) Z (.int (by rw [hmm];exact ZcE ow))
  obtain ⟨F,O⟩:=O.nM [23,22,21,20,19,18,4,3,2,1,0] [1,0]
  have hwp:IntKind.wrap .i64 (((mid+km - 1:Nat):Int) - (m:Int))=((mid+km - 1 - m:Nat):Int):=by rw [Zc ow];omega
  refine Za (Ya (Zq O (qR rr (qR rr (qR rr (qR rr (qf (o_sub .t .t) r2 qz (qf (o_indexAddr_row (sz:=3) 1 (.mk Ybw kr) .is .t (by rw [hwp];omega) (by rw [hwp];omega) (by rfl)) r2 r1 (qf (Zn (ag:=true) (sz':=3) (sz:=3) 1 .t (by intro x;rfl) (by rw [hwp];omega) kr kr kr) r1 r1 (qR rr (qR rr (qf (o_indexAddr_row (sz:=3) 1 (.mk Ybw kr) .is .t ow ow (by rfl)) r2 r1 (qf (Zn (ag:=true) (sz':=3) (sz:=3) 1 .t (by intro x;rfl) ow kr kr kr) r1 r1 (qf (o_callClosP (avs:=[.agg (rTx (Nn l (IntKind.wrap .i64 (((mid+km - 1:Nat):Int) - (m:Int))).toNat)),.agg (rTx (Nn l ((m:Int)).toNat))]) .t (hw (Nn l (IntKind.wrap .i64 (((mid+km - 1:Nat):Int) - (m:Int))).toNat) (Nn l ((m:Int)).toNat)) hf hbd hnn (Args.two (.pagg .t) (.pagg .t))) r3 qz (qf (ZaG .t qi) r1 qz (qf (ZaA .t) r1 qz qZ)))))))))))))) V [171,23,22,21,20,19,18,4,3,2,1,0] [1,0] Z Z fun a w F O=>?_))
  try dsimp only [List.map,xD,xE,xT,xU,ldSF,rTx] at O
  try simp only [Yg] at O
  refine Za (Zd O Z (fun hc10=>?_) (fun hc10=>?_))
  ·skip
   have h9:¬ Zcw (TxD.id (Nn l (IntKind.wrap .i64 (((mid+km - 1:Nat):Int) - (m:Int))).toNat)) (TxD.id (Nn l m))<0:=by simpa using hc10
   rw [hwp,Yg] at h9
   have h8:=Zex hu (i:=(mid+km - 1 - m)) (j:=m) ow ow ow (fun e=>h9 (ZaR.2 e))
   obtain ⟨i2,hi2e⟩:∃ z,z=m+1:=⟨_,rfl⟩
   obtain ⟨j2,hj2e⟩:∃ z,z=r:=⟨_,rfl⟩
   have hi2:IntKind.wrap .i64 ((m:Int)+1)=(i2:Int):=by rw [hi2e];exact Zl ow
   have hj2:(r:Int)=(j2:Int):=by rw [hj2e]
   have hmu:j2 - i2<r - st:=by omega
   have hC2:s0≤i2∧i2≤j2∧j2≤r0∧(i2=s0∨TxD.id (Nn l (i2 - 1))<TxD.id (Nn l (mid+km - i2)))∧(j2=r0∨TxD.id (Nn l (mid+km - 1 - j2))<TxD.id (Nn l j2)):=⟨by omega,by omega,by omega,.inr (by rw [show i2 - 1=m by omega,show mid+km - i2=mid+km - 1 - m by omega];exact h8),by rw [hj2e];exact hhi⟩
   refine Zf O (qR rr (qp r1 (qO rr qZ))) V [22,21,20,19,18,4,3,2,1,0] [1,0] Z Z fun a w F O=>Zm (Za ?_)
   replace O:=O.ent (i:=20) (s':=.pv (.int .i64 (i2:Int))) Z (.int hi2)
   replace O:=O.ent (i:=21) (s':=.pv (.int .i64 (j2:Int))) Z (.int hj2)
   obtain ⟨F,O⟩:=O.nM [22,19,18,4,3,2,1,0,21,20] [1,0]
   exact ⟨((i2),(j2)),F,hC2,O,hmu⟩
  have h9:Zcw (TxD.id (Nn l (IntKind.wrap .i64 (((mid+km - 1:Nat):Int) - (m:Int))).toNat)) (TxD.id (Nn l m))<0:=by simpa using hc10
  rw [hwp,Yg] at h9
  have h8:=ZaR.1 h9
  obtain ⟨i2,hi2e⟩:∃ z,z=st:=⟨_,rfl⟩
  obtain ⟨j2,hj2e⟩:∃ z,z=m:=⟨_,rfl⟩
  have hi2:(st:Int)=(i2:Int):=by rw [hi2e]
  have hj2:(m:Int)=(j2:Int):=by rw [hj2e]
  have hmu:j2 - i2<r - st:=by omega
  have hC2:s0≤i2∧i2≤j2∧j2≤r0∧(i2=s0∨TxD.id (Nn l (i2 - 1))<TxD.id (Nn l (mid+km - i2)))∧(j2=r0∨TxD.id (Nn l (mid+km - 1 - j2))<TxD.id (Nn l j2)):=⟨by omega,by omega,by omega,by rw [hi2e];exact hlo,.inr (by rw [hj2e];exact h8)⟩
  refine Zf O (qR rr (qO rr qZ)) V [22,21,20,19,18,4,3,2,1,0] [1,0] Z Z fun a w F O=>Zm (Za ?_)
  replace O:=O.ent (i:=20) (s':=.pv (.int .i64 (i2:Int))) Z (.int hi2)
  replace O:=O.ent (i:=21) (s':=.pv (.int .i64 (j2:Int))) Z (.int hj2)
  obtain ⟨F,O⟩:=O.nM [22,19,18,4,3,2,1,0,21,20] [1,0]
  exact ⟨((i2),(j2)),F,hC2,O,hmu⟩
 have hjj:r=st:=by simp at hc9;omega
 rw [hjj] at hhi hr1
 obtain ⟨⟨k1,k2,k3⟩,kc1,kc2⟩:=ZjI (κ:=TxD.id) (l:=l) (a:=ka) (m:=km) (b:=kb) (mid:=mid) (start:=st) h3 h1 h2 ow ow ow hx hy hs0 hs1 hr1 hlo hhi ow
 obtain ⟨en,ene⟩:∃ z,z=mid+km - st:=⟨_,rfl⟩
 rw [← ene] at k2 k3 kc1 kc2
 obtain ⟨hst1,hr1a,hr1b,hr2a,hr2b,-,-⟩:=ZjS (κ:=TxD.id) (l:=l) (a:=ka) (start:=st) (m:=km) (e:=en) (b:=kb) (mid:=mid) ow k1 k2 k3 h3 ow hx hy (Zek hu _ _) kc1 kc2
 obtain ⟨l1,l1e⟩:∃ z,z=ZV l st km en:=⟨_,rfl⟩
 rw [← l1e] at hst1 hr1a hr1b hr2a hr2b
 obtain ⟨l2,l2e⟩:∃ z,z=Zp TxD.id l1 ka mid:=⟨_,rfl⟩
 rw [← l2e] at hst1 hr2a hr2b
 obtain ⟨l3,l3e⟩:∃ z,z=Zp TxD.id l2 mid kb:=⟨_,rfl⟩
 rw [← l3e] at hst1
 have hg:Zp TxD.id l ka kb=l3:=hst1.symm
 have hn1:l1.length≤1000000:=by rw [l1e,Zhm k1 k2 ow];exact hll
 have hm1l:l1.length=l.length:=by rw [l1e,Zhm k1 k2 ow]
 have hn2:l2.length≤1000000:=by rw [l2e,Z0 ow];exact hn1
 have hm2l:l2.length=l.length:=by rw [l2e,Z0 ow];exact hm1l
 have hu1:Unl TxD.id l1:=by rw [l1e];exact hu.perm (Zjm k1 k2).symm
 have hu2:Unl TxD.id l2:=by rw [l2e];exact Zai ow hu1
 have hce:IntKind.wrap .i64 (((mid+km:Nat):Int) - (st:Int))=(en:Int):=by rw [Zc ow];omega
 refine Yr (Zj (Zj (Zv (Za (Ya (Zf O (qR rr (qR rr (qf (o_sub .t .t) r2 qz (qO rr qZ)))) V [24,20,18,4,3,2,1,0] [1,0] Z Z fun a w F O=>?_))))))
 replace O:=O.ent (i:=24) (s':=.pv (.int .i64 (en:Int))) Z (.int (hce))
 obtain ⟨F,O⟩:=O.nM [24,20,18,4,3,2,1,0] [1,0]
 refine Za (Ya (Ya (rZ O (qR rr (qR rr (qf (ZaG .t .t) r2 qz (qR rr (qm Z Z Z Z (qm Z Z Z Z (qk Z (fun h=>ZaG (.w h) (.w h)) r3 qz (qf (ZT .t .t) r2 qz qZ)))))))) V [185,24,20,18,4,3,2,1,0] [1,0] fun O=>?_)))
 refine Zb4 (σ:=Unit) [0,1,3,4,18,20,24] [0] (fun s=>[]) (fun s=>[(1,.ob (.val v) (ZJ 36 3 rTx l1))]) (fun s=>True) O ?_ ?_
 ·skip
  refine Zd O Z (fun hc11=>?_) (fun hc11=>?_)
  ·skip
   have h9:st<km∧km<en:=by simpa using hc11
   refine Zf O (qR rr (qR rr (qR rr (qR rr (qR rr (qf (ZQ 1 (ZqU v l st km en hll ow ow ow f cps) func280 Z kr (Args.five .t .t .t .t .t)) r5 r1 qZ)))))) V [24,20,18,4,3,1,0] [1,0] Z Z fun a w F O=>?_
   rw [← l1e] at O
   refine Za ?_
   obtain ⟨F,O⟩:=O.nM [24,20,18,4,3,1,0] [0,1]
   exact ⟨(()),F,tv,O⟩
  have h9:¬ (st<km∧km<en):=by simpa using hc11
  have hlr:l=l1:=by rw [l1e];exact (ZjL k1 k2 ow).symm
  rw [hlr] at O
  refine Yf (Za ?_)
  obtain ⟨F,O⟩:=O.nM [24,20,18,4,3,1,0] [0,1]
  exact ⟨(()),F,tv,O⟩
 clear O;intro u a w F hC O
 try dsimp only at hC
 obtain ⟨F,O⟩:=O.nM [24,20,18,4,3,1,0] [1,0]
 try dsimp only at O
 refine Ya (Ya (rZ O (qR rr (qR rr (qf (ZaG .t .t) r2 qz (qR rr (qm Z Z Z Z (qm Z Z Z Z (qk Z (fun h=>ZaG (.w h) (.w h)) r3 qz (qf (ZT .t .t) r2 qz qZ)))))))) V [199,24,20,18,4,3,1,0] [1,0] fun O=>?_))
 refine Zb4 (σ:=Unit) [0,3,4,18,24] [0] (fun s=>[]) (fun s=>[(1,.ob (.val v) (ZJ 36 3 rTx l2))]) (fun s=>True) O ?_ ?_
 ·skip
  refine Zd O Z (fun hc12=>?_) (fun hc12=>?_)
  ·skip
   have h9:ka<st∧st<mid:=by simpa using hc12
   refine Zf O (qR rr (qR rr (qR rr (qR rr (qR rr (qf (ZQ 1 (ih l1 ka st mid ow hn1 ow ow ow hu1 hr1a hr1b) func273 Z kr (Args.five .t .t .t .t .t)) r5 r1 qZ)))))) V [24,18,4,3,0] [1,0] Z Z fun a w F O=>?_
   rw [← l2e] at O
   refine Za ?_
   obtain ⟨F,O⟩:=O.nM [24,18,4,3,0] [0,1]
   exact ⟨(()),F,tv,O⟩
  have h9:¬ (ka<st∧st<mid):=by simpa using hc12
  have hlr:l1=l2:=by rw [l2e];refine (Za2 ow ?_).symm; (rcases Y5 ka st with h | h); (rw [show mid=st by omega];exact hr1a); (rw [show ka=st by omega];exact hr1b)
  rw [hlr] at O
  refine Yf (Za ?_)
  obtain ⟨F,O⟩:=O.nM [24,18,4,3,0] [0,1]
  exact ⟨(()),F,tv,O⟩
 clear O;intro u a w F hC O
 try dsimp only at hC
 obtain ⟨F,O⟩:=O.nM [24,18,4,3,0] [1,0]
 try dsimp only at O
 refine Ya (rZ O (qR rr (qR rr (qf (ZaG .t .t) r2 qz (qR rr (qm Z Z Z Z (qm Z Z Z Z (qk Z (fun h=>ZaG (.w h) (.w h)) r3 qz (qf (ZT .t .t) r2 qz qZ)))))))) V [213,24,18,4,3,0] [1,0] fun O=>?_)
 refine Zd O Z (fun hc13=>?_) (fun hc13=>?_)
 ·skip
  have h9:mid<en∧en<kb:=by simpa using hc13
  refine Zf O (qR rr (qR rr (qR rr (qR rr (qR rr (qf (ZQ 1 (ih l2 mid en kb ow hn2 ow ow ow hu2 hr2a hr2b) func273 Z kr (Args.five .t .t .t .t .t)) r5 r1 qZ)))))) V [] [1,0] Z Z fun a w F O=>?_
  rw [← l3e] at O
  have O:=O.turn 1 Z (r':=RS.hp (ZJ 36 3 rTx (Zp TxD.id l ka kb) v)) (fun _ _ _ _ h=>by rw [hg];exact h)
  refine ZA hG O Z .nil .none rfl
 have h9:¬ (mid<en∧en<kb):=by simpa using hc13
 have hlr:l2=l3:=by rw [l3e];refine (Za2 ow ?_).symm; (rcases Y5 mid en with h | h); (rw [show kb=en by omega];exact hr2a); (rw [show mid=en by omega];exact hr2b)
 rw [hlr] at O
 refine Yf ?_
 have O:=O.turn 1 Z (r':=RS.hp (ZJ 36 3 rTx (Zp TxD.id l ka kb) v)) (fun _ _ _ _ h=>by rw [hg];exact h)
 refine ZA hG O Z .nil .none rfl
theorem ZqK (v : Value) (f : FuncId) (fn : Func) (cps : List PV) (hf : prog.funcs[f]? = some fn) (hbd : fn.body.isSome = true) (hnn : (fn.name == "runtime.NumGoroutine") = false) (hw : ∀ x y : TxD, FnP prog f (.agg (rTx x) :: .agg (rTx y) :: cps) (.int .i64 (Zcw (TxD.id x) (TxD.id y)))) : ∀ (n : Nat) (l : List TxD) (ka km kb : Nat), kb - ka < n → l.length ≤ 1000000 → ka < km → km < kb → kb ≤ l.length → Unl TxD.id l → ZY TxD.id (seg l ka km) → ZY TxD.id (seg l km kb) → FnG prog 273 1 [.is v, .int .i64 (ka : Nat), .int .i64 (km : Nat), .int .i64 (kb : Nat), .clos f cps] [ZJ 36 3 rTx l v] (.tup []) (fun _ => [ZJ 36 3 rTx (Zp TxD.id l ka kb) v]) := fun n => by
 induction n with
 | zero=>intro l ka km kb h;omega
 | succ n ih=>intro l ka km kb hn hll h1 h2 h3 hu hx hy;exact symST v l ka km kb hll h1 h2 h3 hu hx hy f fn cps hf hbd hnn hw n ih hn
theorem Zqu (v : Value) (l : List TxD)  (hll : l.length ≤ 1000000) (hu : Unl TxD.id l) (f : FuncId) (fn : Func) (cps : List PV) (hf : prog.funcs[f]? = some fn) (hbd : fn.body.isSome = true) (hnn : (fn.name == "runtime.NumGoroutine") = false) (hw : ∀ x y : TxD, FnP prog f (.agg (rTx x) :: .agg (rTx y) :: cps) (.int .i64 (Zcw (TxD.id x) (TxD.id y)))) : FnG prog 244 1 [.is v, .int .i64 l.length, .clos f cps] [ZJ 36 3 rTx l v] (.tup []) (fun _ => [ZJ 36 3 rTx (Z7 TxD.id l) v]) := by
 refine FnG.mk func244 Z ntmps244 Z kr fun B F0 a w F V hG O=>?_
 replace O:=O.turn 1 Z (r':=.ob (.val v) (ZJ 36 3 rTx l)) (fun _ _ _ _ h=>h)
 refine Ya (rZ O (qI qZ) V [6,2,1,0] [1,0] fun O=>Ya ?_)
 refine rZ O (qR rr (qI (qO rr qZ))) V [8,7,6,2,1,0] [1,0] fun O=>(Ya (Ye ?_))
 have hc0:Ziz TxD.id l 20 0:=fun t ht=>by omega
 replace O:=O.ent (i:=7) (s':=.pv (.int .i64 ((0:Nat):Int))) Z (.int Z)
 replace O:=O.ent (i:=8) (s':=.pv (.int .i64 ((0+20:Nat):Int))) Z (.int Z)
 refine Zo (σ:=Nat×List TxD) [0,1,2,6] [0] (fun s=>[(7,.pv (.int .i64 (s.1:Int))),(8,.pv (.int .i64 ((s.1+20:Nat):Int)))]) (fun s=>[(1,.ob (.val v) (ZJ 36 3 rTx s.2))]) (fun s=>s.1≤l.length∧(∃ t,s.1=t*20)∧s.2.length=l.length∧Unl TxD.id s.2∧s.2.Perm l∧Ziz TxD.id s.2 20 s.1) (fun s=>l.length - s.1) ((0),(l)) O ⟨rfl,rfl,rfl,rfl,rfl,rfl,tv⟩ ⟨rfl,rfl,tv⟩ ⟨Yz _,⟨0,rfl⟩,rfl,hu,Ybi _,hc0⟩ ?_
 clear O;intro s a w F hC O
 obtain ⟨q,l1⟩:=s
 try dsimp only at hC
 obtain ⟨F,O⟩:=O.nM [8,7,6,2,1,0] [1,0]
 try dsimp only at O
 obtain ⟨hql,⟨t,ht⟩,hn1,hu1,hp1,hB1⟩:=hC
 refine Ya (Ya (rZ O (qR rr (qR rr (qf (ZiO .t .t) r2 qz qZ))) V [13,8,7,6,2,1,0] [1,0] fun O=>?_))
 refine Zd O Z (fun hc0=>?_) (fun hc0=>?_)
 ·skip
  have hlt:q+20≤l.length:=by simp at hc0;omega
  obtain ⟨l2,l2e⟩:∃ z,z=Zp TxD.id l1 q (q+20):=⟨_,rfl⟩
  refine Yf (Za (Ye (Ya (Zf O (qR rr (qR rr (qR rr (qR rr (qf (ZQ 1 (Zp0 v l1 q (q+20) ow ow ow hu1 f fn cps hf hbd hnn hw) func272 Z kr (Args.four .t .t .t .t)) r4 r1 qZ))))) V [8,7,6,2,1,0] [1,0] Z Z fun a w F O=>?_))))
  rw [← l2e] at O
  refine Za (Ya (rZ O (qR rr (qO rr qZ)) V [8,7,6,2,1,0] [1,0] fun O=>?_))
  refine Zf O (qR rr (qR rr (qf (o_add .t .t) r2 qz (qO rr qZ)))) V [8,7,6,2,1,0] [1,0] Z Z fun a w F O=>Zm (Za ?_)
  have hB2:Ziz TxD.id l2 20 (q+20):=by rw [l2e,ht];exact Zdz ow (by rw [← ht];exact hB1) ow hu1
  replace O:=O.ent (i:=8) (s':=.pv (.int .i64 ((q+20+20:Nat):Int))) Z (.int (by rw [Zc ow];omega))
  obtain ⟨F,O⟩:=O.nM [6,2,1,0,8,7] [0,1]
  exact ⟨((q+20),(l2)),F,⟨by omega,⟨t+1,by omega⟩,by rw [l2e,Z0 ow];exact hn1,by rw [l2e];exact Zai ow hu1,by rw [l2e];exact (Zak ow).trans hp1,hB2⟩,O,by omega⟩
 have hlt:l.length<q+20:=by simp at hc0;omega
 obtain ⟨l2,l2e⟩:∃ z,z=Zp TxD.id l1 q l.length:=⟨_,rfl⟩
 have hn2:l2.length=l.length:=by rw [l2e,Z0 ow];exact hn1
 have hu2:Unl TxD.id l2:=by rw [l2e];exact Zai ow hu1
 have hp2:l2.Perm l:=by rw [l2e];exact (Zak ow).trans hp1
 have hB2:Zhp TxD.id l2 20 0:=by rw [l2e,ht,← hn1];exact ZeR ow (by rw [← ht];exact hB1) ow ow hu1
 refine Yr (Zj (Zj (Zv (Za (Ya (Zf O (qR rr (qR rr (qR rr (qR rr (qf (ZQ 1 (Zp0 v l1 q l.length ow ow ow hu1 f fn cps hf hbd hnn hw) func272 Z kr (Args.four .t .t .t .t)) r4 r1 qZ))))) V [6,2,1,0] [1,0] Z Z fun a w F O=>?_))))))
 rw [← l2e] at O
 refine Za (Ye ?_)
 have hc0:0<20∧20≤2000000:=by omega
 replace O:=O.ent (i:=6) (s':=.pv (.int .i64 ((20:Nat):Int))) Z (.int Z)
 refine Zo (σ:=Nat×List TxD) [0,1,2] [0] (fun s=>[(6,.pv (.int .i64 (s.1:Int)))]) (fun s=>[(1,.ob (.val v) (ZJ 36 3 rTx s.2))]) (fun s=>0<s.1∧s.1≤2000000∧s.2.length=l.length∧Unl TxD.id s.2∧s.2.Perm l∧Zhp TxD.id s.2 s.1 0) (fun s=>l.length - s.1) ((20),(l2)) O ⟨rfl,rfl,rfl,rfl,tv⟩ ⟨rfl,rfl,tv⟩ ⟨hc0.1,hc0.2,hn2,hu2,hp2,hB2⟩ ?_
 clear O;intro s a w F hC O
 obtain ⟨bs,l3⟩:=s
 try dsimp only at hC
 obtain ⟨F,O⟩:=O.nM [6,2,1,0] [1,0]
 try dsimp only at O
 obtain ⟨hb0,hb1,hn3,hu3,hp3,hB3⟩:=hC
 have hwb:IntKind.wrap .i64 (2*(bs:Int))=((2*bs:Nat):Int):=by rw [Zc ow];omega
 refine Ya (Ya (rZ O (qR rr (qR rr (qL r2))) V [30,6,2,1,0] [1,0] fun O=>?_))
 refine Zd O Z (fun hc1=>?_) (fun hc1=>?_)
 ·skip
  have hlt:bs<l.length:=by simp at hc1;omega
  refine Yf (Za (Ye (Ya (rZ O (qR rr (qf (ZdI qi .t) r1 qz (qI (qO rr qZ)))) V [8,7,6,2,1,0] [1,0] fun O=>(Ya (Ye ?_))))))
  have hc4:Ziz TxD.id l3 (2*bs) 0:=fun t ht=>by omega
  replace O:=O.ent (i:=7) (s':=.pv (.int .i64 ((0:Nat):Int))) Z (.int Z)
  replace O:=O.ent (i:=8) (s':=.pv (.int .i64 ((0+2*bs:Nat):Int))) Z (.int (by rw [hwb];omega))
  refine Zo (σ:=Nat×List TxD) [0,1,2,6] [0] (fun s=>[(7,.pv (.int .i64 (s.1:Int))),(8,.pv (.int .i64 ((s.1+2*bs:Nat):Int)))]) (fun s=>[(1,.ob (.val v) (ZJ 36 3 rTx s.2))]) (fun s=>s.1≤l.length∧(∃ t,s.1=t*(2*bs))∧s.2.length=l.length∧Unl TxD.id s.2∧s.2.Perm l∧Ziz TxD.id s.2 (2*bs) s.1∧Zhp TxD.id s.2 bs s.1) (fun s=>l.length - s.1) ((0),(l3)) O ⟨rfl,rfl,rfl,rfl,rfl,rfl,tv⟩ ⟨rfl,rfl,tv⟩ ⟨Yz _,⟨0,(Nat.zero_mul _).symm⟩,hn3,hu3,hp3,hc4,hB3⟩ ?_
  clear O;intro s a w F hC O
  obtain ⟨q,l4⟩:=s
  try dsimp only at hC
  obtain ⟨F,O⟩:=O.nM [8,7,6,2,1,0] [1,0]
  try dsimp only at O
  obtain ⟨hql,⟨t,ht⟩,hn4,hu4,hp4,hB4,hC4⟩:=hC
  have hqw:IntKind.wrap .i64 ((q:Int)+(bs:Int))=((q+bs:Nat):Int):=by rw [Zc ow];omega
  refine Ya (Ya (rZ O (qR rr (qR rr (qf (ZiO .t .t) r2 qz qZ))) V [35,8,7,6,2,1,0] [1,0] fun O=>?_))
  refine Zd O Z (fun hc2=>?_) (fun hc2=>?_)
  ·skip
   have hlt2:q+2*bs≤l.length:=by simp at hc2;omega
   obtain ⟨l5,l5e⟩:∃ z,z=Zp TxD.id l4 q (q+2*bs):=⟨_,rfl⟩
   obtain ⟨hra,hrb⟩:=ZjR ow ht hC4 (show q+2*bs≤l4.length by omega)
   refine Yf (Za (Ye (Ya (Zf O (qR rr (qR rr (qR rr (qR rr (qf (o_add .t .t) r2 qz (qR rr (qR rr (qf (ZQ 1 (ZqK v f fn cps hf hbd hnn hw 4000000 l4 q (q+bs) (q+2*bs) ow ow ow ow ow hu4 hra hrb) func273 Z kr (Args.five .t .t (.conv .t (.int hqw)) .t .t)) r5 r1 qZ)))))))) V [8,7,6,2,1,0] [1,0] Z Z fun a w F O=>?_))))
   rw [← l5e] at O
   refine Za (Ya (rZ O (qR rr (qO rr qZ)) V [8,7,6,2,1,0] [1,0] fun O=>?_))
   refine Zf O (qR rr (qR rr (qf (ZdI qi .t) r1 qz (qf (o_add .t .t) r2 qz (qO rr qZ))))) V [8,7,6,2,1,0] [1,0] Z Z fun a w F O=>Zm (Za ?_)
   have ht2:q+2*bs=(t+1)*(2*bs):=by rw [show (t+1)*(2*bs)=t*(2*bs)+2*bs from YaK t (2*bs),← ht]
   have hB5:Ziz TxD.id l5 (2*bs) (q+2*bs):=by rw [l5e,ht];exact Zdz ow (by rw [← ht];exact hB4) ow hu4
   replace O:=O.ent (i:=8) (s':=.pv (.int .i64 ((q+2*bs+2*bs:Nat):Int))) Z (.int (by rw [hwb,Zc ow];omega))
   obtain ⟨F,O⟩:=O.nM [6,2,1,0,8,7] [0,1]
   exact ⟨((q+2*bs),(l5)),F,⟨by omega,⟨t+1,ht2⟩,by rw [l5e,Z0 ow];exact hn4,by rw [l5e];exact Zai ow hu4,by rw [l5e];exact (Zak ow).trans hp4,hB5,by rw [l5e];exact Zgo ow ow hC4⟩,O,by omega⟩
  have hlt2:l.length<q+2*bs:=by simp at hc2;omega
  refine Yr (Zj (Zj (Zv (Za (Ya (Ya (Zf O (qR rr (qR rr (qf (o_add .t .t) r2 qz (qO rr qZ)))) V [9,7,6,2,1,0] [1,0] Z Z fun a w F O=>?_)))))))
  replace O:=O.ent (i:=9) (s':=.pv (.int .i64 ((q+bs:Nat):Int))) Z (.int hqw)
  obtain ⟨F,O⟩:=O.nM [9,7,6,2,1,0] [1,0]
  refine Za (Ya (rZ O (qR rr (qR rr (qL r2))) V [54,9,7,6,2,1,0] [1,0] fun O=>?_))
  refine Zd O Z (fun hc3=>?_) (fun hc3=>?_)
  ·skip
   have hlt3:q+bs<l.length:=by simp at hc3;omega
   obtain ⟨l5,l5e⟩:∃ z,z=Zp TxD.id l4 q l.length:=⟨_,rfl⟩
   obtain ⟨hra,hrb⟩:=Zia ow ht hC4 (show q+bs<l4.length by omega) ow
   rw [hn4] at hrb
   have hn5:l5.length=l.length:=by rw [l5e,Z0 ow];exact hn4
   have hu5:Unl TxD.id l5:=by rw [l5e];exact Zai ow hu4
   have hp5:l5.Perm l:=by rw [l5e];exact (Zak ow).trans hp4
   have hB5:Zhp TxD.id l5 (2*bs) 0:=by rw [l5e,ht,← hn4];exact ZeR ow (by rw [← ht];exact hB4) ow ow hu4
   refine Zf O (qR rr (qR rr (qR rr (qR rr (qR rr (qf (ZQ 1 (ZqK v f fn cps hf hbd hnn hw 4000000 l4 q (q+bs) l.length ow ow ow ow ow hu4 hra hrb) func273 Z kr (Args.five .t .t .t .t .t)) r5 r1 qZ)))))) V [6,2,1,0] [1,0] Z Z fun a w F O=>?_
   rw [← l5e] at O
   refine Za (Zf O (qR rr (qf (ZdI .t qi) r1 qz (qO rr qZ))) V [6,2,1,0] [1,0] Z Z fun a w F O=>Zm (Za ?_))
   replace O:=O.ent (i:=6) (s':=.pv (.int .i64 ((2*bs:Nat):Int))) Z (.int (by rw [Zc ow];omega))
   obtain ⟨F,O⟩:=O.nM [2,1,0,6] [0,1]
   exact ⟨((2*bs),(l5)),F,⟨by omega,by omega,hn5,hu5,hp5,hB5⟩,O,by omega⟩
  have hlt3:l.length≤q+bs:=by simp at hc3;omega
  obtain ⟨l5,l5e⟩:∃ z,z=l4:=⟨_,rfl⟩
  rw [← l5e] at O
  have hn5:l5.length=l.length:=by rw [l5e];exact hn4
  have hu5:Unl TxD.id l5:=by rw [l5e];exact hu4
  have hp5:l5.Perm l:=by rw [l5e];exact hp4
  have hB5:Zhp TxD.id l5 (2*bs) 0:=by rw [l5e];exact ZjH (t:=t) hb0 (by rw [← ht];exact hB4) (by rw [← ht];exact hC4) (by rw [← ht,hn4];exact hlt3)
  refine Yf (Za (Zf O (qR rr (qf (ZdI .t qi) r1 qz (qO rr qZ))) V [6,2,1,0] [1,0] Z Z fun a w F O=>Zm (Za ?_)))
  replace O:=O.ent (i:=6) (s':=.pv (.int .i64 ((2*bs:Nat):Int))) Z (.int (by rw [Zc ow];omega))
  obtain ⟨F,O⟩:=O.nM [2,1,0,6] [0,1]
  exact ⟨((2*bs),(l5)),F,⟨by omega,by omega,hn5,hu5,hp5,hB5⟩,O,by omega⟩
 have hg:Z7 TxD.id l=l3:=(Zcq hp3 (Zmp hB3 (by simp at hc1;omega))).symm
 refine Yr (Zj (Zj (Zv ?_)))
 have O:=O.turn 1 Z (r':=RS.hp (ZJ 36 3 rTx (Z7 TxD.id l) v)) (fun _ _ _ _ h=>by rw [hg];exact h)
 refine ZA hG O Z .nil .none rfl
theorem Zpy (v : Value) (l : List TxD)  (hll : l.length ≤ 1000000) (hu : Unl TxD.id l) (f : FuncId) (fn : Func) (cps : List PV) (hf : prog.funcs[f]? = some fn) (hbd : fn.body.isSome = true) (hnn : (fn.name == "runtime.NumGoroutine") = false) (hw : ∀ x y : TxD, FnP prog f (.agg (rTx x) :: .agg (rTx y) :: cps) (.int .i64 (Zcw (TxD.id x) (TxD.id y)))) : FnG prog 178 1 [.is v, .clos f cps] [ZJ 36 3 rTx l v] (.tup []) (fun _ => [ZJ 36 3 rTx (Z7 TxD.id l) v]) := by
 refine FnG.mk func178 Z ntmps178 Z kr fun B F0 a w F V hG O=>?_
 replace O:=O.turn 1 Z (r':=.ob (.val v) (ZJ 36 3 rTx l)) (fun _ _ _ _ h=>h)
 refine Zf O (qR rr (qR rr (qf (Zae 1 Ybw .is) r1 r1 (qR rr (qf (ZQ 1 (Zqu v l hll hu f fn cps hf hbd hnn hw) func244 Z kr (Args.three .t .t .t)) r3 r1 qZ))))) V [] [1,0] Z Z fun a w F O=>?_
 have hg:Z7 TxD.id l=Z7 TxD.id l:=rfl
 have O:=O.turn 1 Z (r':=RS.hp (ZJ 36 3 rTx (Z7 TxD.id l) v)) (fun _ _ _ _ h=>by rw [hg];exact h)
 refine ZA hG O Z .nil .none rfl
theorem Zqs (v:Value) (l:List Zr) (ka kb kn:Nat) (hll:l.length≤1000000) (h1:ka+kn≤kb) (h2:kb+kn≤l.length) (f:FuncId) (cps:List PV):FnG prog 283 1 [.is v,.int .i64 ka,.int .i64 kb,.int .i64 kn,.clos f cps] [ZJ 39 2 ZB l v] (.tup []) (fun _=>[ZJ 39 2 ZB (Zc5 l ka kb kn) v]):=by
 refine FnG.mk func283 Z ntmps283 Z kr fun B F0 a w F V hG O=>?_
 replace O:=O.turn 1 Z (r':=.ob (.val v) (ZJ 39 2 ZB l)) (fun _ _ _ _ h=>h)
 refine Ya (rZ O (qI qZ) V [10,3,2,1,0] [1,0] fun O=>Ye ?_)
 have hc0:0≤kn∧l=Zc5 l ka kb 0:=⟨Yz _,(Zht ow ow).symm⟩
 refine Zo (σ:=Nat×List Zr) [0,1,2,3] [0] (fun s=>[(10,.pv (.int .i64 (s.1:Int)))]) (fun s=>[(1,.ob (.val v) (ZJ 39 2 ZB s.2))]) (fun s=>s.1≤kn∧s.2=Zc5 l ka kb s.1) (fun s=>kn - s.1) ((0),(l)) O ⟨rfl,rfl,rfl,rfl,rfl,tv⟩ ⟨rfl,rfl,tv⟩ hc0 ?_
 clear O;intro s a w F hC O
 obtain ⟨i,l1⟩:=s
 try dsimp only at hC
 obtain ⟨F,O⟩:=O.nM [10,3,2,1,0] [1,0]
 try dsimp only at O
 obtain ⟨hin,hl1⟩:=hC
 have hn1:l1.length=l.length:=by rw [hl1];exact ZbB ow ow
 have hwa:IntKind.wrap .i64 ((ka:Int)+(i:Int))=((ka+i:Nat):Int):=by rw [Zc ow];omega
 have hwb:IntKind.wrap .i64 ((kb:Int)+(i:Int))=((kb+i:Nat):Int):=by rw [Zc ow];omega
 refine Ya (Ya (rZ O (qR rr (qR rr (qL r2))) V [13,10,3,2,1,0] [1,0] fun O=>?_))
 refine Zd O Z (fun hc0=>?_) (fun hc0=>?_)
 ·have hil:i<kn:=by simp at hc0;omega
  refine Yf (Za (Ya (Ye (Zq O (qR rr (qR rr (qR rr (qf (o_add .t .t) r2 qz (qR rr (qR rr (qR rr (qf (o_add .t .t) r2 qz (qR rr (qR rr (qR rr (qf (o_add .t .t) r2 qz (qf (o_indexAddr_row (sz:=2) 1 (.mk Ybx kr) .is .t (by rw [hwb];omega) (by rw [hwb];omega) (by rfl)) r2 r1 (qf (Zn (ag:=true) (sz':=2) (sz:=2) 1 .t (by intro x;rfl) (by rw [hwb];omega) kr kr kr) r1 r1 (qR rr (qR rr (qR rr (qf (o_add .t .t) r2 qz (qf (o_indexAddr_row (sz:=2) 1 (.mk Ybx kr) .is .t (by rw [hwa];omega) (by rw [hwa];omega) (by rfl)) r2 r1 (qf (Zn (ag:=true) (sz':=2) (sz:=2) 1 .t (by intro x;rfl) (by rw [hwa];omega) kr kr kr) r1 r1 (qf (o_indexAddr_row (sz:=2) 1 (.mk Ybx kr) .is .t (by rw [hwa];omega) (by rw [hwa];omega) (by rfl)) r2 r1 (qf (ZU (sz:=2) 1 .t (by intro x;rfl) (by rw [hwa];omega) (.conv .t (Ent.aggU (l:=ZB (Nn l1 (IntKind.wrap .i64 ((kb:Int)+(i:Int))).toNat)) Z Z)) kr) r2 r1 (qf (o_indexAddr_row (sz:=2) 1 (.mk Ybx kr) .is .t (by rw [hwb];omega) (by rw [YE,hwb];omega) (by rfl)) r2 r1 (qf (ZU (sz:=2) 1 .t (by intro x;rfl) (by rw [YE,hwb];omega) (.conv .t (Ent.aggU (l:=ZB (Nn l1 (IntKind.wrap .i64 ((ka:Int)+(i:Int))).toNat)) Z Z)) kr) r2 r1 qZ)))))))))))))))))))))))) V [10,3,2,1,0] [1,0] Z Z fun a w F O=>?_))))
  try dsimp only [List.map,Ze,xL,xM,Nat.reduceAdd,xD,xE,xT,xU,xC,xN,zCF,ldSF,ZB] at O
  try simp only [Yg] at O
  rw [hwa,hwb] at O
  simp only [Yg] at O
  obtain ⟨l2,hl2⟩:∃ z,z=Zc5 l ka kb (i+1):=⟨_,rfl⟩
  rw [show (l1.set (ka+i) (Nn l1 (kb+i))).set (kb+i) (Nn l1 (ka+i))=l2 from by rw [hl2,← ZhD (n:=kn) hil h1 h2,← hl1];rfl] at O
  refine Zm (Za (rZ O (qR rr (qp r1 (qO rr qZ))) V [10,3,2,1,0] [1,0] fun O=>?_))
  replace O:=O.ent (i:=10) (s':=.pv (.int .i64 ((i+1:Nat):Int))) Z (.int (Zl ow))
  obtain ⟨F,O⟩:=O.nM [3,2,1,0,10] [0,1]
  exact ⟨((i+1),(l2)),F,⟨by omega,hl2⟩,O,by omega⟩
 have hg:Zc5 l ka kb kn=l1:=by rw [hl1,show i=kn by simp at hc0;omega]
 refine Yr (Zj (Zj (Zv ?_)))
 have O:=O.turn 1 Z (r':=RS.hp (ZJ 39 2 ZB (Zc5 l ka kb kn) v)) (fun _ _ _ _ h=>by rw [hg];exact h)
 refine ZA hG O Z .nil .none rfl
theorem ZqC (v : Value) (l : List Zr) (ka kb : Nat) (hll : l.length ≤ 1000000) (h1 : ka ≤ kb) (h2 : kb ≤ l.length) (hu : Unl Zr.key l) (f : FuncId) (fn : Func) (cps : List PV) (hf : prog.funcs[f]? = some fn) (hbd : fn.body.isSome = true) (hnn : (fn.name == "runtime.NumGoroutine") = false) (hw : ∀ x y : Zr, FnP prog f (.agg (ZB x) :: .agg (ZB y) :: cps) (.int .i64 (Zcw (Zr.key x) (Zr.key y)))) : FnG prog 274 1 [.is v, .int .i64 ka, .int .i64 kb, .clos f cps] [ZJ 39 2 ZB l v] (.tup []) (fun _ => [ZJ 39 2 ZB (Zp Zr.key l ka kb) v]) := by
 refine FnG.mk func274 Z ntmps274 Z kr fun B F0 a w F V hG O=>?_
 replace O:=O.turn 1 Z (r':=.ob (.val v) (ZJ 39 2 ZB l)) (fun _ _ _ _ h=>h)
 refine Ya (rZ O (qR rr (qp r1 (qO rr qZ))) V [8,3,2,1,0] [1,0] fun O=>Ye ?_)
 have hc0:ka<ka+1∧(ka+1≤kb∧l=Zp Zr.key l ka (ka+1)∨kb≤ka∧l=l):=⟨by omega,by rcases Y5 ka kb with h | h;exact .inl ⟨h,(sortSeg_one l ow).symm⟩;exact .inr ⟨h,rfl⟩⟩
 replace O:=O.ent (i:=8) (s':=.pv (.int .i64 ((ka+1:Nat):Int))) Z (.int (Zl ow))
 refine Zo (σ:=Nat×List Zr) [0,1,2,3] [0] (fun s=>[(8,.pv (.int .i64 (s.1:Int)))]) (fun s=>[(1,.ob (.val v) (ZJ 39 2 ZB s.2))]) (fun s=>ka<s.1∧(s.1≤kb∧s.2=Zp Zr.key l ka s.1∨kb≤ka∧s.2=l)) (fun s=>kb - s.1) ((ka+1),(l)) O ⟨rfl,rfl,rfl,rfl,rfl,tv⟩ ⟨rfl,rfl,tv⟩ hc0 ?_
 clear O;intro s a w F hC O
 obtain ⟨i,l1⟩:=s
 try dsimp only at hC
 obtain ⟨F,O⟩:=O.nM [8,3,2,1,0] [1,0]
 try dsimp only at O
 obtain ⟨hai,hq⟩:=hC
 refine Ya (Ya (rZ O (qR rr (qR rr (qL r2))) V [14,8,3,2,1,0] [1,0] fun O=>?_))
 refine Zd O Z (fun hc0=>?_) (fun hc0=>?_)
 ·skip
  have hib:i<kb:=by simp at hc0;omega
  have hl1:l1=Zp Zr.key l ka i:=by rcases hq with hq | hq;exact hq.2;omega
  have hn1:l1.length=l.length:=by rw [hl1];exact Z0 ow
  refine Yf (Za (Ya (Ye (Ya (rZ O (qR rr (qO rr qZ)) V [9,8,3,2,1,0] [1,0] fun O=>Ye ?_)))))
  have hc1:ka≤i∧i≤i∧l1=ZeL l1 i i ∧ ∀ q,i≤q→q<i→Zr.key (Nn l1 i)<Zr.key (Nn l1 q):=⟨by omega,Yw _,(ZdP ow).symm,fun q h1 h2=>by omega⟩
  refine Zo (σ:=Nat×List Zr) [0,1,2,3,8] [0] (fun s=>[(9,.pv (.int .i64 (s.1:Int)))]) (fun s=>[(1,.ob (.val v) (ZJ 39 2 ZB s.2))]) (fun s=>ka≤s.1∧s.1≤i∧s.2=ZeL l1 s.1 i ∧ ∀ q,s.1≤q→q<i→Zr.key (Nn l1 i)<Zr.key (Nn l1 q)) (fun s=>s.1) ((i),(l1)) O ⟨rfl,rfl,rfl,rfl,rfl,rfl,tv⟩ ⟨rfl,rfl,tv⟩ hc1 ?_
  clear O;intro s a w F hC O
  obtain ⟨j,l2⟩:=s
  try dsimp only at hC
  obtain ⟨F,O⟩:=O.nM [9,8,3,2,1,0] [1,0]
  try dsimp only at O
  obtain ⟨haj,hji,hl2,hgt⟩:=hC
  have hn2:l2.length=l.length:=by rw [hl2,ZbA hji ow];exact hn1
  have hx0:Nn l2 j=Nn l1 i:=by rw [hl2,Zbw hji ow,Yd rfl]
  have hx1:ka<j→Nn l2 (j - 1)=Nn l1 (j - 1):=fun h=>by rw [hl2,Zbw hji ow,Yc ow,Yc ow]
  have hwj:ka<j→IntKind.wrap .i64 ((j:Int) - 1)=((j - 1:Nat):Int):=fun h=>by rw [Zc ow];omega
  refine Ya (Ya (Zq O (qR rr (qR rr (qf (Zas .t .t) r2 qz (qR rr (qm Z Z Z Z (qm Z Z Z Z (qm Z Z Z Z (qk Z (fun h=>o_indexAddr_row (sz:=2) 1 (.mk Ybx kr) (.w h .is) (.w h) ow ow (by rfl)) r3 r1 (qk Z (fun h=>Zn (ag:=true) (sz':=2) (sz:=2) 1 (.w h) (by intro x;rfl) ow kr kr kr) r2 r1 (qm Z Z Z Z (qm Z Z Z Z (qk Z (fun h=>o_sub (.w h) qi) r2 qz (qk Z (fun h=>o_indexAddr_row (sz:=2) 1 (.mk Ybx kr) (.w h .is) (.w h) (by have h9:=YV h;rw [hwj ow];omega) (by have h9:=YV h;rw [hwj ow];omega) (by rfl)) r3 r1 (qk Z (fun h=>Zn (ag:=true) (sz':=2) (sz:=2) 1 (.w h) (by intro x;rfl) (by have h9:=YV h;rw [hwj ow];omega) kr kr kr) r2 r1 (qk Z (fun h=>o_callClosP (avs:=[.agg (ZB (Nn l2 ((j:Int)).toNat)),.agg (ZB (Nn l2 (IntKind.wrap .i64 ((j:Int) - 1)).toNat))]) (.w h) (hw (Nn l2 ((j:Int)).toNat) (Nn l2 (IntKind.wrap .i64 ((j:Int) - 1)).toNat)) hf hbd hnn (Args.two (.pagg (.w h)) (.pagg (.w h)))) r4 qz (qk Z (fun h=>ZaG (.w h) qi) r2 qz (qf (ZT .t .t) r2 qz qZ))))))))))))))))) V [34,9,8,3,2,1,0] [1,0] Z Z fun a w F O=>?_))
  try dsimp only [List.map,xD,xE,xT,xU,ldSF,ZB] at O
  try simp only [Yg] at O
  refine Za (Zd O Z (fun hc1=>?_) (fun hc1=>?_))
  ·skip
   obtain ⟨haj2,h9⟩:ka<j∧Zcw (Zr.key (Nn l2 j)) (Zr.key (Nn l2 (IntKind.wrap .i64 ((j:Int) - 1)).toNat))<0:=by simpa using hc1
   rw [hwj haj2,Yg,hx0,hx1 haj2] at h9
   have h9:=ZaR.1 h9
   have hgt3:∀ q,j - 1≤q→q<i→Zr.key (Nn l1 i)<Zr.key (Nn l1 q):=fun q h1 h2=>by rcases Y5 q j with h | h;rw [show q=j - 1 by omega];exact h9;exact hgt q h h2
   refine Yf (Za (Ya (Ye (Zq O (qR rr (qR rr (qR rr (qR rr (qf (o_sub .t qi) r1 qz (qR rr (qR rr (qf (o_sub .t qi) r1 qz (qf (o_indexAddr_row (sz:=2) 1 (.mk Ybx kr) .is .t (by rw [hwj haj2];omega) (by rw [hwj haj2];omega) (by rfl)) r2 r1 (qf (Zn (ag:=true) (sz':=2) (sz:=2) 1 .t (by intro x;rfl) (by rw [hwj haj2];omega) kr kr kr) r1 r1 (qR rr (qR rr (qf (o_indexAddr_row (sz:=2) 1 (.mk Ybx kr) .is .t ow ow (by rfl)) r2 r1 (qf (Zn (ag:=true) (sz':=2) (sz:=2) 1 .t (by intro x;rfl) ow kr kr kr) r1 r1 (qf (o_indexAddr_row (sz:=2) 1 (.mk Ybx kr) .is .t ow ow (by rfl)) r2 r1 (qf (ZU (sz:=2) 1 .t (by intro x;rfl) ow (.conv .t (Ent.aggU (l:=ZB (Nn l2 (IntKind.wrap .i64 ((j:Int) - 1)).toNat)) Z Z)) kr) r2 r1 (qf (o_indexAddr_row (sz:=2) 1 (.mk Ybx kr) .is .t (by rw [hwj haj2];omega) (by rw [YE,hwj haj2];omega) (by rfl)) r2 r1 (qf (ZU (sz:=2) 1 .t (by intro x;rfl) (by rw [YE,hwj haj2];omega) (.conv .t (Ent.aggU (l:=ZB (Nn l2 ((j:Int)).toNat)) Z Z)) kr) r2 r1 qZ)))))))))))))))))) V [9,8,3,2,1,0] [1,0] Z Z fun a w F O=>?_))))
   try dsimp only [List.map,Ze,xL,xM,Nat.reduceAdd,xD,xE,xT,xU,xC,xN,zCF,ldSF,ZB] at O
   try simp only [Yg] at O
   rw [hwj haj2] at O
   simp only [Yg] at O
   obtain ⟨l3,hl3⟩:∃ z,z=ZeL l1 (j - 1) i:=⟨_,rfl⟩
   rw [show (l2.set j (Nn l2 (j - 1))).set (j - 1) (Nn l2 j)=l3 from by rw [hl3,← Zdx ow hji ow,← hl2];rfl] at O
   refine Zm (Za (rZ O (qR rr (qf (o_sub .t qi) r1 qz (qO rr qZ))) V [9,8,3,2,1,0] [1,0] fun O=>?_))
   replace O:=O.ent (i:=9) (s':=.pv (.int .i64 ((j - 1:Nat):Int))) Z (.int (hwj haj2))
   obtain ⟨F,O⟩:=O.nM [8,3,2,1,0,9] [0,1]
   exact ⟨((j - 1),(l3)),F,⟨by omega,by omega,hl3,hgt3⟩,O,by omega⟩
  have h9:¬ (ka<j∧Zcw (Zr.key (Nn l2 j)) (Zr.key (Nn l2 (IntKind.wrap .i64 ((j:Int) - 1)).toNat))<0):=by simpa using hc1
  have hend:l2=Zp Zr.key l ka (i+1):=by
    rw [hl2]
    refine ZhZ haj hji ow (Zek hu _ _) hl1 ?_ hgt
    rcases Y5 ka j with h | h
    · refine .inr (Zex (Zai (κ:=Zr.key) (a:=ka) (b:=i) ow hu |> fun z=>(by rw [hl1];exact z:Unl Zr.key l1)) (i:=i) (j:=j - 1) ow ow ow fun h8=>h9 ⟨h,?_⟩)
      rw [hwj h,Yg,hx0,hx1 h]
      exact ZaR.2 h8
    · exact .inl ow
  refine Yr (Zj (Zj (Zv (Zm (Za (rZ O (qR rr (qp r1 (qO rr qZ))) V [8,3,2,1,0] [1,0] fun O=>?_))))))
  replace O:=O.ent (i:=8) (s':=.pv (.int .i64 ((i+1:Nat):Int))) Z (.int (Zl ow))
  obtain ⟨F,O⟩:=O.nM [3,2,1,0,8] [0,1]
  exact ⟨((i+1),(l2)),F,⟨by omega,.inl ⟨by omega,hend⟩⟩,O,by omega⟩
 have hg:Zp Zr.key l ka kb=l1:=by
   rcases hq with hq | hq
   · rw [hq.2,show i=kb by simp at hc0;omega]
   · rw [hq.2,show kb=ka by omega];exact Za2 (Yw _) (by rw [Zej];exact List.Pairwise.nil)
 refine Yr (Zj (Zj (Zv ?_)))
 have O:=O.turn 1 Z (r':=RS.hp (ZJ 39 2 ZB (Zp Zr.key l ka kb) v)) (fun _ _ _ _ h=>by rw [hg];exact h)
 refine ZA hG O Z .nil .none rfl
theorem ZqR (v:Value) (l:List Zr) (ka km kb:Nat) (hll:l.length≤1000000) (h1:ka<km) (h2:km<kb) (h3:kb≤l.length) (f:FuncId) (cps:List PV):FnG prog 281 1 [.is v,.int .i64 ka,.int .i64 km,.int .i64 kb,.clos f cps] [ZJ 39 2 ZB l v] (.tup []) (fun _=>[ZJ 39 2 ZB (ZV l ka km kb) v]):=by
 refine FnG.mk func281 Z ntmps281 Z kr fun B F0 a w F V hG O=>?_
 replace O:=O.turn 1 Z (r':=.ob (.val v) (ZJ 39 2 ZB l)) (fun _ _ _ _ h=>h)
 refine Ya (rZ O (qR rr (qR rr (qf (o_sub .t .t) r2 qz (qO rr qZ)))) V [10,4,3,2,0] [1,0] fun O=>Ya ?_)
 refine rZ O (qR rr (qR rr (qf (o_sub .t .t) r2 qz (qO rr qZ)))) V [11,10,4,2,0] [1,0] fun O=>(Ya (Ye ?_))
 have hc0:0<km - ka∧0<kb - km∧ka+(km - ka)≤km∧km+(kb - km)≤kb∧l.length=l.length∧ZV l (km - (km - ka)) km (km+(kb - km))=ZV l ka km kb:=⟨by omega,by omega,by omega,by omega,rfl,by rw [show km - (km - ka)=ka by omega,show km+(kb - km)=kb by omega]⟩
 replace O:=O.ent (i:=10) (s':=.pv (.int .i64 ((km - ka:Nat):Int))) Z (.int (by rw [Zc ow];omega))
 replace O:=O.ent (i:=11) (s':=.pv (.int .i64 ((kb - km:Nat):Int))) Z (.int (by rw [Zc ow];omega))
 refine Zo (σ:=Nat×Nat×List Zr) [0,2,4] [0] (fun s=>[(10,.pv (.int .i64 (s.1:Int))),(11,.pv (.int .i64 (s.2.1:Int)))]) (fun s=>[(1,.ob (.val v) (ZJ 39 2 ZB s.2.2))]) (fun s=>0<s.1∧0<s.2.1∧ka+s.1≤km∧km+s.2.1≤kb∧s.2.2.length=l.length∧ZV s.2.2 (km - s.1) km (km+s.2.1)=ZV l ka km kb) (fun s=>s.1+s.2.1) ((km - ka),(kb - km),(l)) O ⟨rfl,rfl,rfl,rfl,rfl,tv⟩ ⟨rfl,rfl,tv⟩ hc0 ?_
 clear O;intro s a w F hC O
 obtain ⟨i,j,l1⟩:=s
 try dsimp only at hC
 obtain ⟨F,O⟩:=O.nM [11,10,4,2,0] [1,0]
 try dsimp only at O
 obtain ⟨hi0,hj0,hia,hjb,hn1,hq⟩:=hC
 have hwm:IntKind.wrap .i64 ((km:Int) - (i:Int))=((km - i:Nat):Int):=by rw [Zc ow];omega
 have hwn:i≤km+j→IntKind.wrap .i64 (IntKind.wrap .i64 ((km:Int)+(j:Int)) - (i:Int))=((km+j - i:Nat):Int):=fun h=>by rw [Zc (x:=(km:Int)+(j:Int)) ow,Zc ow];omega
 refine Ya (Ya (rZ O (qR rr (qR rr (qf (o_neq .t .t) r2 qz qZ))) V [20,11,10,4,2,0] [1,0] fun O=>?_))
 refine Zd O Z (fun hc0=>?_) (fun hc0=>?_)
 ·have hij:i≠j:=by simp at hc0;omega
  refine Yf (Za (Ye (Ya (rZ O (qR rr (qR rr (qf (Zas .t .t) r2 qz qZ))) V [23,11,10,4,2,0] [1,0] fun O=>?_))))
  refine Zd O Z (fun hc1=>?_) (fun hc1=>?_)
  ·have hlt:j<i:=by simp at hc1;omega
   obtain ⟨i2,i2e⟩:∃ z,z=i - j:=⟨_,rfl⟩
   obtain ⟨j2,j2e⟩:∃ z,z=j:=⟨_,rfl⟩
   obtain ⟨l2,l2e⟩:∃ z,z=Zc5 l1 (km - i) km j:=⟨_,rfl⟩
   have hi2:IntKind.wrap .i64 ((i:Int) - (j:Int))=(i2:Int):=by rw [Zc ow];omega
   have hj2:(j:Int)=(j2:Int):=by rw [j2e]
   have hmu:i2+j2<i+j:=by omega
   have hC2:0<i2∧0<j2∧ka+i2≤km∧km+j2≤kb∧l2.length=l.length∧ZV l2 (km - i2) km (km+j2)=ZV l ka km kb:=⟨by omega,by omega,by omega,by omega,by rw [l2e,ZbB ow ow,hn1],by rw [← hq,← ZmS (l:=l1) (s:=km - i) (m:=km) (e:=km+j) (j:=j) ow rfl ow,l2e,j2e,show km - i2=km - i+j by omega]⟩
   refine Ya (Zf O (qR rr (qR rr (qR rr (qf (o_sub .t .t) r2 qz (qR rr (qR rr (qR rr (qf (ZQ 1 (Zqs v l1 (km - i) km j ow ow ow f cps) func283 Z kr (Args.five .t (.conv .t (.int hwm)) .t .t .t)) r5 r1 qZ)))))))) V [11,10,4,2,0] [1,0] Z Z fun a w F O=>?_)
   rw [← l2e] at O
   refine Za (Zf O (qR rr (qR rr (qf (o_sub .t .t) r2 qz (qO rr qZ)))) V [11,10,4,2,0] [1,0] Z Z fun a w F O=>Zm (Za ?_))
   replace O:=O.ent (i:=10) (s':=.pv (.int .i64 (i2:Int))) Z (.int hi2)
   replace O:=O.ent (i:=11) (s':=.pv (.int .i64 (j2:Int))) Z (.int hj2)
   obtain ⟨F,O⟩:=O.nM [4,2,0,11,10] [0,1]
   exact ⟨((i2),(j2),(l2)),F,hC2,O,hmu⟩
  have hlt:i<j:=by simp at hc1;omega
  obtain ⟨i2,i2e⟩:∃ z,z=i:=⟨_,rfl⟩
  obtain ⟨j2,j2e⟩:∃ z,z=j - i:=⟨_,rfl⟩
  obtain ⟨l2,l2e⟩:∃ z,z=Zc5 l1 (km - i) (km+j - i) i:=⟨_,rfl⟩
  have hi2:(i:Int)=(i2:Int):=by rw [i2e]
  have hj2:IntKind.wrap .i64 ((j:Int) - (i:Int))=(j2:Int):=by rw [Zc ow];omega
  have hmu:i2+j2<i+j:=by omega
  have hC2:0<i2∧0<j2∧ka+i2≤km∧km+j2≤kb∧l2.length=l.length∧ZV l2 (km - i2) km (km+j2)=ZV l ka km kb:=⟨by omega,by omega,by omega,by omega,by rw [l2e,ZbB ow ow,hn1],by rw [← hq,← ZlR (l:=l1) (s:=km - i) (m:=km) (e:=km+j) (i:=i) ow ow ow,l2e,i2e,show km+j2=km+j - i by omega]⟩
  refine Ya (Zf O (qR rr (qR rr (qR rr (qf (o_sub .t .t) r2 qz (qR rr (qR rr (qf (o_add .t .t) r2 qz (qR rr (qf (o_sub .t .t) r2 qz (qR rr (qR rr (qf (ZQ 1 (Zqs v l1 (km - i) (km+j - i) i ow ow ow f cps) func283 Z kr (Args.five .t (.conv .t (.int hwm)) (.conv .t (.int (hwn ow))) .t .t)) r5 r1 qZ)))))))))))) V [11,10,4,2,0] [1,0] Z Z fun a w F O=>?_)
  rw [← l2e] at O
  refine Za (Zf O (qR rr (qR rr (qf (o_sub .t .t) r2 qz (qO rr qZ)))) V [11,10,4,2,0] [1,0] Z Z fun a w F O=>Zm (Za ?_))
  replace O:=O.ent (i:=10) (s':=.pv (.int .i64 (i2:Int))) Z (.int hi2)
  replace O:=O.ent (i:=11) (s':=.pv (.int .i64 (j2:Int))) Z (.int hj2)
  obtain ⟨F,O⟩:=O.nM [4,2,0,11,10] [0,1]
  exact ⟨((i2),(j2),(l2)),F,hC2,O,hmu⟩
 have hij:i=j:=by simp at hc0;omega
 have hg:ZV l ka km kb=Zc5 l1 (km - i) km i:=by rw [← hq,← hij];exact (Zmq ow rfl ow).symm
 refine Yr (Zj (Zj (Zv (Za (Zf O (qR rr (qR rr (qR rr (qf (o_sub .t .t) r2 qz (qR rr (qR rr (qR rr (qf (ZQ 1 (Zqs v l1 (km - i) km i ow ow ow f cps) func283 Z kr (Args.five .t (.conv .t (.int hwm)) .t .t .t)) r5 r1 qZ)))))))) V [] [1,0] Z Z fun a w F O=>?_)))))
 have O:=O.turn 1 Z (r':=RS.hp (ZJ 39 2 ZB (ZV l ka km kb) v)) (fun _ _ _ _ h=>by rw [hg];exact h)
 refine ZA hG O Z .nil .none rfl
end Go.Proofs.YtfecljadegkmdaaGreat
