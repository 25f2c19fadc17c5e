/- Laws and walks. No condition beyond what each says. -/
import Derived.Test.YtfecljadegkmdaaGreatJ6
namespace Go.Proofs.YtfecljadegkmdaaGreat
open Go Go.Gm Tryz
set_option linter.unusedVariables false
set_option linter.unusedSimpArgs false
set_option maxHeartbeats 4000000
set_option maxRecDepth 8000
theorem symSR (v : Value) (l : List Zr) (ka km kb : Nat) (hll : l.length ≤ 1000000) (h1 : ka < km) (h2 : km < kb) (h3 : kb ≤ l.length) (hu : Unl Zr.key l) (hx : ZY Zr.key (seg l ka km)) (hy : ZY Zr.key (seg l km kb)) (f : FuncId) (fn : Func) (cps : List PV) (hf : prog.funcs[f]? = some fn) (hbd : fn.body.isSome = true) (hnn : (fn.name == "runtime.NumGoroutine") = false) (hw : ∀ x y : Zr, FnP prog f (.agg (ZB x) :: .agg (ZB y) :: cps) (.int .i64 (Zcw (Zr.key x) (Zr.key y)))) (n : Nat) (ih : ∀ (l : List Zr) (ka km kb : Nat), kb - ka < n → l.length ≤ 1000000 → ka < km → km < kb → kb ≤ l.length → Unl Zr.key l → ZY Zr.key (seg l ka km) → ZY Zr.key (seg l km kb) → FnG prog 275 1 [.is v, .int .i64 (ka : Nat), .int .i64 (km : Nat), .int .i64 (kb : Nat), .clos f cps] [ZJ 39 2 ZB l v] (.tup []) (fun _ => [ZJ 39 2 ZB (Zp Zr.key l ka kb) v])) (hn : kb - ka < n + 1) : FnG prog 275 1 [.is v, .int .i64 ka, .int .i64 km, .int .i64 kb, .clos f cps] [ZJ 39 2 ZB l v] (.tup []) (fun _ => [ZJ 39 2 ZB (Zp Zr.key l ka kb) v]) := by
 refine FnG.mk func275 Z ntmps275 Z kr fun B F0 a w F V hG O=>?_
 replace O:=O.turn 1 Z (r':=.ob (.val v) (ZJ 39 2 ZB l)) (fun _ _ _ _ h=>h)
 obtain ⟨hx9,hy9⟩:(∀ i j,ka≤i→i<j→j<km→Zr.key (Nn l i)<Zr.key (Nn l j)) ∧ ∀ i j,km≤i→i<j→j<kb→Zr.key (Nn l i)<Zr.key (Nn l j):=⟨(Zdr (κ:=Zr.key) ow).1 hx,(Zdr (κ:=Zr.key) ow).1 hy⟩
 refine Ya (Ya (rZ O (qR rr (qR rr (qf (o_sub .t .t) r2 qz (qf (o_eql .t qi) r1 qz qZ)))) V [28,4,3,2,1,0] [1,0] fun O=>?_))
 refine Zd O Z (fun hc0=>?_) (fun hc0=>?_)
 ·skip
  have hm1:km=ka+1:=by have h9:=hc0;rw [Zc ow] at h9;simp at h9;omega
  refine Ya (rZ O (qR rr (qO rr qZ)) V [10,4,3,2,1,0] [1,0] fun O=>Ya ?_)
  refine rZ O (qR rr (qO rr qZ)) V [11,10,4,3,2,1,0] [1,0] fun O=>(Ya (Ye ?_))
  have hc0:km≤km∧km≤kb∧kb≤kb∧(∀ q,km≤q→q<km→Zr.key (Nn l q)<Zr.key (Nn l ka)) ∧ ∀ q,kb≤q→q<kb→Zr.key (Nn l ka)<Zr.key (Nn l q):=⟨Yw _,by omega,Yw _,fun q h1 h2=>by omega,fun q h1 h2=>by omega⟩
  refine Zo (σ:=Nat×Nat) [0,1,2,3,4] [0,1] (fun s=>[(10,.pv (.int .i64 (s.1:Int))),(11,.pv (.int .i64 (s.2:Int)))]) (fun s=>[]) (fun s=>km≤s.1∧s.1≤s.2∧s.2≤kb∧(∀ q,km≤q→q<s.1→Zr.key (Nn l q)<Zr.key (Nn l ka)) ∧ ∀ q,s.2≤q→q<kb→Zr.key (Nn l ka)<Zr.key (Nn l q)) (fun s=>s.2 - s.1) ((km),(kb)) O ⟨rfl,rfl,rfl,rfl,rfl,rfl,rfl,tv⟩ ⟨rfl,rfl,tv⟩ hc0 ?_
  clear O;intro s a w F hC O
  obtain ⟨i,j⟩:=s
  try dsimp only at hC
  obtain ⟨F,O⟩:=O.nM [11,10,4,3,2,1,0] [1,0]
  try dsimp only at O
  obtain ⟨hki,hij,hjk,hlo,hhi⟩:=hC
  refine Ya (Ya (rZ O (qR rr (qR rr (qL r2))) V [33,11,10,4,3,2,1,0] [1,0] fun O=>?_))
  refine Zd O Z (fun hc1=>?_) (fun hc1=>?_)
  ·skip
   have hlt:i<j:=by simp at hc1;omega
   refine Yf (Za (Ye (Ya (Zf O (qR rr (qR rr (qf (o_add .t .t) r2 qz (qf (ZaK YbF kr .t) r1 qz (qf (Zg4 .t qi (by decide)) r1 qz (qf (ZaK YbA kr .t) r1 qz (qO rr qZ))))))) V [12,11,10,4,3,2,1,0] [1,0] Z Z fun a w F O=>?_))))
   obtain ⟨m,hmm⟩:∃ m:Nat,m=(i+j) / 2:=⟨_,rfl⟩
   replace O:=O.ent (i:=12) (s':=.pv (.int .i64 (m:Int))) Z (.int (by rw [hmm];exact ZcE ow))
   obtain ⟨F,O⟩:=O.nM [12,11,10,4,3,2,1,0] [1,0]
   refine Za (Ya (Zq O (qR rr (qR rr (qR rr (qf (o_indexAddr_row (sz:=2) 1 (.mk Ybx kr) .is .t ow ow (by rfl)) r2 r1 (qf (Zn (ag:=true) (sz':=2) (sz:=2) 1 .t (by intro x;rfl) ow kr kr kr) r1 r1 (qR rr (qR rr (qf (o_indexAddr_row (sz:=2) 1 (.mk Ybx kr) .is .t ow ow (by rfl)) r2 r1 (qf (Zn (ag:=true) (sz':=2) (sz:=2) 1 .t (by intro x;rfl) ow kr kr kr) r1 r1 (qf (o_callClosP (avs:=[.agg (ZB (Nn l ((m:Int)).toNat)),.agg (ZB (Nn l ((ka:Int)).toNat))]) .t (hw (Nn l ((m:Int)).toNat) (Nn l ((ka:Int)).toNat)) hf hbd hnn (Args.two (.pagg .t) (.pagg .t))) r3 qz (qf (ZaG .t qi) r1 qz qZ))))))))))) V [50,12,11,10,4,3,2,1,0] [1,0] Z Z fun a w F O=>?_))
   try dsimp only [List.map,xD,xE,xT,xU,ldSF,ZB] at O
   try simp only [Yg] at O
   refine Za (Zd O Z (fun hc2=>?_) (fun hc2=>?_))
   ·skip
    have h9:Zcw (Zr.key (Nn l m)) (Zr.key (Nn l ka))<0:=by simpa using hc2
    have h8:=ZaR.1 h9
    obtain ⟨i2,hi2e⟩:∃ z,z=m+1:=⟨_,rfl⟩
    obtain ⟨j2,hj2e⟩:∃ z,z=j:=⟨_,rfl⟩
    have hi2:IntKind.wrap .i64 ((m:Int)+1)=(i2:Int):=by rw [hi2e];exact Zl ow
    have hj2:(j:Int)=(j2:Int):=by rw [hj2e]
    have hmu:j2 - i2<j - i:=by omega
    have hC2:km≤i2∧i2≤j2∧j2≤kb∧(∀ q,km≤q→q<i2→Zr.key (Nn l q)<Zr.key (Nn l ka)) ∧ ∀ q,j2≤q→q<kb→Zr.key (Nn l ka)<Zr.key (Nn l q):=⟨by omega,by omega,by omega,fun q h1 h2=>by rcases Y5 q m with h | h;exact YaW (hy9 q m h1 h ow) h8;rw [show q=m by omega];exact h8,by rw [hj2e];exact hhi⟩
    refine Zf O (qR rr (qp r1 (qO rr qZ))) V [11,10,4,3,2,1,0] [1,0] Z Z fun a w F O=>Zm (Za ?_)
    replace O:=O.ent (i:=10) (s':=.pv (.int .i64 (i2:Int))) Z (.int hi2)
    replace O:=O.ent (i:=11) (s':=.pv (.int .i64 (j2:Int))) Z (.int hj2)
    obtain ⟨F,O⟩:=O.nM [4,3,2,1,0,11,10] [1,0]
    exact ⟨((i2),(j2)),F,hC2,O,hmu⟩
   have h9:¬ Zcw (Zr.key (Nn l m)) (Zr.key (Nn l ka))<0:=by simpa using hc2
   have h8:=Zex hu (i:=m) (j:=ka) ow ow ow (fun e=>h9 (ZaR.2 e))
   obtain ⟨i2,hi2e⟩:∃ z,z=i:=⟨_,rfl⟩
   obtain ⟨j2,hj2e⟩:∃ z,z=m:=⟨_,rfl⟩
   have hi2:(i:Int)=(i2:Int):=by rw [hi2e]
   have hj2:(m:Int)=(j2:Int):=by rw [hj2e]
   have hmu:j2 - i2<j - i:=by omega
   have hC2:km≤i2∧i2≤j2∧j2≤kb∧(∀ q,km≤q→q<i2→Zr.key (Nn l q)<Zr.key (Nn l ka)) ∧ ∀ q,j2≤q→q<kb→Zr.key (Nn l ka)<Zr.key (Nn l q):=⟨by omega,by omega,by omega,by rw [hi2e];exact hlo,fun q h1 h2=>by rcases Y5 m q with h | h;exact YaW h8 (hy9 m q ow h h2);rw [show q=m by omega];exact h8⟩
   refine Zf O (qR rr (qO rr qZ)) V [11,10,4,3,2,1,0] [1,0] Z Z fun a w F O=>Zm (Za ?_)
   replace O:=O.ent (i:=10) (s':=.pv (.int .i64 (i2:Int))) Z (.int hi2)
   replace O:=O.ent (i:=11) (s':=.pv (.int .i64 (j2:Int))) Z (.int hj2)
   obtain ⟨F,O⟩:=O.nM [4,3,2,1,0,11,10] [1,0]
   exact ⟨((i2),(j2)),F,hC2,O,hmu⟩
  have hjj:i=j:=by simp at hc1;omega
  have hg1:Zil l ka (i - 1)=Zp Zr.key l ka kb:=ZhT ow ow ow (by rw [← hm1];exact hy) (by rw [← hm1];exact hlo) (by rw [hjj];exact hhi)
  refine Yr (Zj (Zj (Zv (Za (Ya (Ya (rZ O (qR rr (qO rr qZ)) V [13,10,4,3,2,1,0] [1,0] fun O=>Ye ?_)))))))
  have hc1:ka≤ka∧ka+1≤i∧l=Zil l ka ka:=⟨Yw _,by omega,(Zh4 ow).symm⟩
  refine Zo (σ:=Nat×List Zr) [0,1,2,3,4,10] [0] (fun s=>[(13,.pv (.int .i64 (s.1:Int)))]) (fun s=>[(1,.ob (.val v) (ZJ 39 2 ZB s.2))]) (fun s=>ka≤s.1∧s.1+1≤i∧s.2=Zil l ka s.1) (fun s=>i - s.1) ((ka),(l)) O ⟨rfl,rfl,rfl,rfl,rfl,rfl,rfl,tv⟩ ⟨rfl,rfl,tv⟩ hc1 ?_
  clear O;intro s a w F hC O
  obtain ⟨k,l1⟩:=s
  try dsimp only at hC
  obtain ⟨F,O⟩:=O.nM [13,10,4,3,2,1,0] [1,0]
  try dsimp only at O
  obtain ⟨hka,hki2,hl1⟩:=hC
  have hn1:l1.length=l.length:=by rw [hl1];exact Zcj hka ow
  have hwk:IntKind.wrap .i64 ((k:Int)+1)=((k+1:Nat):Int):=Zl ow
  have hwi:IntKind.wrap .i64 ((i:Int) - 1)=((i - 1:Nat):Int):=by rw [Zc ow];omega
  refine Ya (Ya (rZ O (qR rr (qR rr (qf (o_sub .t qi) r1 qz (qL r2)))) V [58,13,10,4,3,2,1,0] [1,0] fun O=>?_))
  refine Zd O Z (fun hc3=>?_) (fun hc3=>?_)
  ·skip
   have hlt:k+1<i:=by have h9:=hc3;rw [hwi] at h9;simp at h9;omega
   refine Yf (Za (Ya (Ye (Zq O (qR rr (qR rr (qR rr (qR rr (qp r1 (qR rr (qR rr (qp r1 (qf (o_indexAddr_row (sz:=2) 1 (.mk Ybx kr) .is .t (by rw [hwk];omega) (by rw [hwk];omega) (by rfl)) r2 r1 (qf (Zn (ag:=true) (sz':=2) (sz:=2) 1 .t (by intro x;rfl) (by rw [hwk];omega) kr kr kr) r1 r1 (qR rr (qR rr (qf (o_indexAddr_row (sz:=2) 1 (.mk Ybx kr) .is .t ow ow (by rfl)) r2 r1 (qf (Zn (ag:=true) (sz':=2) (sz:=2) 1 .t (by intro x;rfl) ow kr kr kr) r1 r1 (qf (o_indexAddr_row (sz:=2) 1 (.mk Ybx kr) .is .t ow ow (by rfl)) r2 r1 (qf (ZU (sz:=2) 1 .t (by intro x;rfl) ow (.conv .t (Ent.aggU (l:=ZB (Nn l1 (IntKind.wrap .i64 ((k:Int)+1)).toNat)) Z Z)) kr) r2 r1 (qf (o_indexAddr_row (sz:=2) 1 (.mk Ybx kr) .is .t (by rw [hwk];omega) (by rw [YE,hwk];omega) (by rfl)) r2 r1 (qf (ZU (sz:=2) 1 .t (by intro x;rfl) (by rw [YE,hwk];omega) (.conv .t (Ent.aggU (l:=ZB (Nn l1 ((k:Int)).toNat)) Z Z)) kr) r2 r1 qZ)))))))))))))))))) V [13,10,4,3,2,1,0] [1,0] Z Z fun a w F O=>?_))))
   try dsimp only [List.map,Ze,xL,xM,Nat.reduceAdd,xD,xE,xT,xU,xC,xN,zCF,ldSF,ZB] at O
   try simp only [Yg] at O
   rw [hwk] at O
   simp only [Yg] at O
   obtain ⟨l2,hl2⟩:∃ z,z=Zil l ka (k+1):=⟨_,rfl⟩
   rw [show (l1.set k (Nn l1 (k+1))).set (k+1) (Nn l1 k)=l2 from by rw [hl2,← Zh3 hka ow,← hl1];rfl] at O
   refine Zm (Za (rZ O (qR rr (qp r1 (qO rr qZ))) V [13,10,4,3,2,1,0] [1,0] fun O=>?_))
   replace O:=O.ent (i:=13) (s':=.pv (.int .i64 ((k+1:Nat):Int))) Z (.int hwk)
   obtain ⟨F,O⟩:=O.nM [10,4,3,2,1,0,13] [0,1]
   exact ⟨((k+1),(l2)),F,⟨by omega,by omega,hl2⟩,O,by omega⟩
  have hg:Zp Zr.key l ka kb=l1:=by rw [hl1,← hg1,show k=i - 1 by have h9:=hc3;rw [hwi] at h9;simp at h9;omega]
  refine Yr (Zj (Zj (Zv (Za (Yi (Zk ?_))))))
  have O:=O.turn 1 Z (r':=RS.hp (ZJ 39 2 ZB (Zp Zr.key l ka kb) v)) (fun _ _ _ _ h=>by rw [hg];exact h)
  refine ZA hG O Z .nil .none rfl
 have hm1:ka+1<km:=by have h9:=hc0;rw [Zc ow] at h9;simp at h9;omega
 refine Yf (Za (Ya (Ya (rZ O (qR rr (qR rr (qf (o_sub .t .t) r2 qz (qf (o_eql .t qi) r1 qz qZ)))) V [80,4,3,2,1,0] [1,0] fun O=>?_))))
 refine Zd O Z (fun hc4=>?_) (fun hc4=>?_)
 ·skip
  have hm2:kb=km+1:=by have h9:=hc4;rw [Zc ow] at h9;simp at h9;omega
  refine Ya (rZ O (qR rr (qO rr qZ)) V [14,4,3,2,1,0] [1,0] fun O=>Ya ?_)
  refine rZ O (qR rr (qO rr qZ)) V [15,14,4,3,2,1,0] [1,0] fun O=>(Ya (Ye ?_))
  have hc0:ka≤ka∧ka≤km∧km≤km∧(∀ q,ka≤q→q<ka→Zr.key (Nn l q)<Zr.key (Nn l km)) ∧ ∀ q,km≤q→q<km→Zr.key (Nn l km)<Zr.key (Nn l q):=⟨Yw _,by omega,Yw _,fun q h1 h2=>by omega,fun q h1 h2=>by omega⟩
  refine Zo (σ:=Nat×Nat) [0,1,2,3,4] [0,1] (fun s=>[(14,.pv (.int .i64 (s.1:Int))),(15,.pv (.int .i64 (s.2:Int)))]) (fun s=>[]) (fun s=>ka≤s.1∧s.1≤s.2∧s.2≤km∧(∀ q,ka≤q→q<s.1→Zr.key (Nn l q)<Zr.key (Nn l km)) ∧ ∀ q,s.2≤q→q<km→Zr.key (Nn l km)<Zr.key (Nn l q)) (fun s=>s.2 - s.1) ((ka),(km)) O ⟨rfl,rfl,rfl,rfl,rfl,rfl,rfl,tv⟩ ⟨rfl,rfl,tv⟩ hc0 ?_
  clear O;intro s a w F hC O
  obtain ⟨i,j⟩:=s
  try dsimp only at hC
  obtain ⟨F,O⟩:=O.nM [15,14,4,3,2,1,0] [1,0]
  try dsimp only at O
  obtain ⟨hki,hij,hjk,hlo,hhi⟩:=hC
  refine Ya (Ya (rZ O (qR rr (qR rr (qL r2))) V [85,15,14,4,3,2,1,0] [1,0] fun O=>?_))
  refine Zd O Z (fun hc5=>?_) (fun hc5=>?_)
  ·skip
   have hlt:i<j:=by simp at hc5;omega
   refine Yf (Za (Ye (Ya (Zf O (qR rr (qR rr (qf (o_add .t .t) r2 qz (qf (ZaK YbF kr .t) r1 qz (qf (Zg4 .t qi (by decide)) r1 qz (qf (ZaK YbA kr .t) r1 qz (qO rr qZ))))))) V [16,15,14,4,3,2,1,0] [1,0] Z Z fun a w F O=>?_))))
   obtain ⟨m,hmm⟩:∃ m:Nat,m=(i+j) / 2:=⟨_,rfl⟩
   replace O:=O.ent (i:=16) (s':=.pv (.int .i64 (m:Int))) Z (.int (by rw [hmm];exact ZcE ow))
   obtain ⟨F,O⟩:=O.nM [16,15,14,4,3,2,1,0] [1,0]
   refine Za (Ya (Zq O (qR rr (qR rr (qR rr (qf (o_indexAddr_row (sz:=2) 1 (.mk Ybx kr) .is .t ow ow (by rfl)) r2 r1 (qf (Zn (ag:=true) (sz':=2) (sz:=2) 1 .t (by intro x;rfl) ow kr kr kr) r1 r1 (qR rr (qR rr (qf (o_indexAddr_row (sz:=2) 1 (.mk Ybx kr) .is .t ow ow (by rfl)) r2 r1 (qf (Zn (ag:=true) (sz':=2) (sz:=2) 1 .t (by intro x;rfl) ow kr kr kr) r1 r1 (qf (o_callClosP (avs:=[.agg (ZB (Nn l ((km:Int)).toNat)),.agg (ZB (Nn l ((m:Int)).toNat))]) .t (hw (Nn l ((km:Int)).toNat) (Nn l ((m:Int)).toNat)) hf hbd hnn (Args.two (.pagg .t) (.pagg .t))) r3 qz (qf (ZaG .t qi) r1 qz (qf (ZaA .t) r1 qz qZ)))))))))))) V [103,16,15,14,4,3,2,1,0] [1,0] Z Z fun a w F O=>?_))
   try dsimp only [List.map,xD,xE,xT,xU,ldSF,ZB] at O
   try simp only [Yg] at O
   refine Za (Zd O Z (fun hc6=>?_) (fun hc6=>?_))
   ·skip
    have h9:¬ Zcw (Zr.key (Nn l km)) (Zr.key (Nn l m))<0:=by simpa using hc6
    have h8:=Zex hu (i:=km) (j:=m) ow ow ow (fun e=>h9 (ZaR.2 e))
    obtain ⟨i2,hi2e⟩:∃ z,z=m+1:=⟨_,rfl⟩
    obtain ⟨j2,hj2e⟩:∃ z,z=j:=⟨_,rfl⟩
    have hi2:IntKind.wrap .i64 ((m:Int)+1)=(i2:Int):=by rw [hi2e];exact Zl ow
    have hj2:(j:Int)=(j2:Int):=by rw [hj2e]
    have hmu:j2 - i2<j - i:=by omega
    have hC2:ka≤i2∧i2≤j2∧j2≤km∧(∀ q,ka≤q→q<i2→Zr.key (Nn l q)<Zr.key (Nn l km)) ∧ ∀ q,j2≤q→q<km→Zr.key (Nn l km)<Zr.key (Nn l q):=⟨by omega,by omega,by omega,fun q h1 h2=>by rcases Y5 q m with h | h;exact YaW (hx9 q m h1 h ow) h8;rw [show q=m by omega];exact h8,by rw [hj2e];exact hhi⟩
    refine Zf O (qR rr (qp r1 (qO rr qZ))) V [15,14,4,3,2,1,0] [1,0] Z Z fun a w F O=>Zm (Za ?_)
    replace O:=O.ent (i:=14) (s':=.pv (.int .i64 (i2:Int))) Z (.int hi2)
    replace O:=O.ent (i:=15) (s':=.pv (.int .i64 (j2:Int))) Z (.int hj2)
    obtain ⟨F,O⟩:=O.nM [4,3,2,1,0,15,14] [1,0]
    exact ⟨((i2),(j2)),F,hC2,O,hmu⟩
   have h9:Zcw (Zr.key (Nn l km)) (Zr.key (Nn l m))<0:=by simpa using hc6
   have h8:=ZaR.1 h9
   obtain ⟨i2,hi2e⟩:∃ z,z=i:=⟨_,rfl⟩
   obtain ⟨j2,hj2e⟩:∃ z,z=m:=⟨_,rfl⟩
   have hi2:(i:Int)=(i2:Int):=by rw [hi2e]
   have hj2:(m:Int)=(j2:Int):=by rw [hj2e]
   have hmu:j2 - i2<j - i:=by omega
   have hC2:ka≤i2∧i2≤j2∧j2≤km∧(∀ q,ka≤q→q<i2→Zr.key (Nn l q)<Zr.key (Nn l km)) ∧ ∀ q,j2≤q→q<km→Zr.key (Nn l km)<Zr.key (Nn l q):=⟨by omega,by omega,by omega,by rw [hi2e];exact hlo,fun q h1 h2=>by rcases Y5 m q with h | h;exact YaW h8 (hx9 m q ow h h2);rw [show q=m by omega];exact h8⟩
   refine Zf O (qR rr (qO rr qZ)) V [15,14,4,3,2,1,0] [1,0] Z Z fun a w F O=>Zm (Za ?_)
   replace O:=O.ent (i:=14) (s':=.pv (.int .i64 (i2:Int))) Z (.int hi2)
   replace O:=O.ent (i:=15) (s':=.pv (.int .i64 (j2:Int))) Z (.int hj2)
   obtain ⟨F,O⟩:=O.nM [4,3,2,1,0,15,14] [1,0]
   exact ⟨((i2),(j2)),F,hC2,O,hmu⟩
  have hjj:i=j:=by simp at hc5;omega
  have hg1:ZeL l i km=Zp Zr.key l ka kb:=by rw [hm2];exact Zgb hki ow ow hx hlo (by rw [hjj];exact hhi)
  refine Yr (Zj (Zj (Zv (Za (Ya (Ya (rZ O (qR rr (qO rr qZ)) V [17,14,4,3,2,1,0] [1,0] fun O=>Ye ?_)))))))
  have hc1:i≤km∧km≤km∧l=ZeL l km km:=⟨by omega,Yw _,(ZdP ow).symm⟩
  refine Zo (σ:=Nat×List Zr) [0,1,2,3,4,14] [0] (fun s=>[(17,.pv (.int .i64 (s.1:Int)))]) (fun s=>[(1,.ob (.val v) (ZJ 39 2 ZB s.2))]) (fun s=>i≤s.1∧s.1≤km∧s.2=ZeL l s.1 km) (fun s=>s.1) ((km),(l)) O ⟨rfl,rfl,rfl,rfl,rfl,rfl,rfl,tv⟩ ⟨rfl,rfl,tv⟩ hc1 ?_
  clear O;intro s a w F hC O
  obtain ⟨k,l1⟩:=s
  try dsimp only at hC
  obtain ⟨F,O⟩:=O.nM [17,14,4,3,2,1,0] [1,0]
  try dsimp only at O
  obtain ⟨hka,hki2,hl1⟩:=hC
  have hn1:l1.length=l.length:=by rw [hl1];exact ZbA hki2 ow
  have hwk:i<k→IntKind.wrap .i64 ((k:Int) - 1)=((k - 1:Nat):Int):=fun h=>by rw [Zc ow];omega
  refine Ya (Ya (rZ O (qR rr (qR rr (qf (Zas .t .t) r2 qz qZ))) V [110,17,14,4,3,2,1,0] [1,0] fun O=>?_))
  refine Zd O Z (fun hc7=>?_) (fun hc7=>?_)
  ·skip
   have hlt:i<k:=by simp at hc7;omega
   refine Yf (Za (Ya (Ye (Zq O (qR rr (qR rr (qR rr (qR rr (qf (o_sub .t qi) r1 qz (qR rr (qR rr (qf (o_sub .t qi) r1 qz (qf (o_indexAddr_row (sz:=2) 1 (.mk Ybx kr) .is .t (by rw [hwk hlt];omega) (by rw [hwk hlt];omega) (by rfl)) r2 r1 (qf (Zn (ag:=true) (sz':=2) (sz:=2) 1 .t (by intro x;rfl) (by rw [hwk hlt];omega) kr kr kr) r1 r1 (qR rr (qR rr (qf (o_indexAddr_row (sz:=2) 1 (.mk Ybx kr) .is .t ow ow (by rfl)) r2 r1 (qf (Zn (ag:=true) (sz':=2) (sz:=2) 1 .t (by intro x;rfl) ow kr kr kr) r1 r1 (qf (o_indexAddr_row (sz:=2) 1 (.mk Ybx kr) .is .t ow ow (by rfl)) r2 r1 (qf (ZU (sz:=2) 1 .t (by intro x;rfl) ow (.conv .t (Ent.aggU (l:=ZB (Nn l1 (IntKind.wrap .i64 ((k:Int) - 1)).toNat)) Z Z)) kr) r2 r1 (qf (o_indexAddr_row (sz:=2) 1 (.mk Ybx kr) .is .t (by rw [hwk hlt];omega) (by rw [YE,hwk hlt];omega) (by rfl)) r2 r1 (qf (ZU (sz:=2) 1 .t (by intro x;rfl) (by rw [YE,hwk hlt];omega) (.conv .t (Ent.aggU (l:=ZB (Nn l1 ((k:Int)).toNat)) Z Z)) kr) r2 r1 qZ)))))))))))))))))) V [17,14,4,3,2,1,0] [1,0] Z Z fun a w F O=>?_))))
   try dsimp only [List.map,Ze,xL,xM,Nat.reduceAdd,xD,xE,xT,xU,xC,xN,zCF,ldSF,ZB] at O
   try simp only [Yg] at O
   rw [hwk hlt] at O
   simp only [Yg] at O
   obtain ⟨l2,hl2⟩:∃ z,z=ZeL l (k - 1) km:=⟨_,rfl⟩
   rw [show (l1.set k (Nn l1 (k - 1))).set (k - 1) (Nn l1 k)=l2 from by rw [hl2,← Zdx ow hki2 ow,← hl1];rfl] at O
   refine Zm (Za (rZ O (qR rr (qf (o_sub .t qi) r1 qz (qO rr qZ))) V [17,14,4,3,2,1,0] [1,0] fun O=>?_))
   replace O:=O.ent (i:=17) (s':=.pv (.int .i64 ((k - 1:Nat):Int))) Z (.int (hwk hlt))
   obtain ⟨F,O⟩:=O.nM [14,4,3,2,1,0,17] [0,1]
   exact ⟨((k - 1),(l2)),F,⟨by omega,by omega,hl2⟩,O,by omega⟩
  have hg:Zp Zr.key l ka kb=l1:=by rw [hl1,← hg1,show k=i by simp at hc7;omega]
  refine Yr (Zj (Zj (Zv (Za (Yi (Zk ?_))))))
  have O:=O.turn 1 Z (r':=RS.hp (ZJ 39 2 ZB (Zp Zr.key l ka kb) v)) (fun _ _ _ _ h=>by rw [hg];exact h)
  refine ZA hG O Z .nil .none rfl
 have hm2:km+1<kb:=by have h9:=hc4;rw [Zc ow] at h9;simp at h9;omega
 refine Yf (Za (Ya (Zf O (qR rr (qR rr (qf (o_add .t .t) r2 qz (qf (ZaK YbF kr .t) r1 qz (qf (Zg4 .t qi (by decide)) r1 qz (qf (ZaK YbA kr .t) r1 qz (qO rr qZ))))))) V [18,4,3,2,1,0] [1,0] Z Z fun a w F O=>?_)))
 obtain ⟨mid,hmmid⟩:∃ m:Nat,m=(ka+kb) / 2:=⟨_,rfl⟩
 replace O:=O.ent (i:=18) (s':=.pv (.int .i64 (mid:Int))) Z (.int (by rw [hmmid];exact ZcE ow))
 obtain ⟨F,O⟩:=O.nM [18,4,3,2,1,0] [1,0]
 refine Za (Ya (Zf O (qR rr (qR rr (qf (o_add .t .t) r2 qz (qO rr qZ)))) V [19,18,4,3,2,1,0] [1,0] Z Z fun a w F O=>?_))
 replace O:=O.ent (i:=19) (s':=.pv (.int .i64 ((mid+km:Nat):Int))) Z (.int (by rw [Zc ow];omega))
 obtain ⟨F,O⟩:=O.nM [19,18,4,3,2,1,0] [1,0]
 refine Za (Ya (rZ O (qI (qI qZ)) V [19,18,4,3,2,1,0] [1,0] fun O=>(Ya (Ya ?_))))
 refine rZ O (qR rr (qR rr (qf (Zas .t .t) r2 qz qZ))) V [140,19,18,4,3,2,1,0] [1,0] fun O=>?_
 refine Zb4 (σ:=Nat×Nat) [0,1,2,3,4,18,19] [0,1] (fun s=>[(20,.pv (.int .i64 (s.1:Int))),(21,.pv (.int .i64 (s.2:Int)))]) (fun s=>[]) (fun s=>(mid<km∧s.1+kb=mid+km∧s.2=mid)∨(km≤mid∧s.1=ka∧s.2=km)) O ?_ ?_
 ·skip
  refine Zd O Z (fun hc8=>?_) (fun hc8=>?_)
  ·skip
   have hmm:mid<km:=by simp at hc8;omega
   obtain ⟨s0,s0e⟩:∃ z,z=mid+km - kb:=⟨_,rfl⟩
   obtain ⟨r0,r0e⟩:∃ z,z=mid:=⟨_,rfl⟩
   have hs0:(mid<km∧s0+kb=mid+km∧r0=mid)∨(km≤mid∧s0=ka∧r0=km):=.inl ⟨hmm,by omega,r0e⟩
   have hcs:IntKind.wrap .i64 (((mid+km:Nat):Int) - (kb:Int))=(s0:Int):=by rw [Zc ow];omega
   have hcr:(mid:Int)=(r0:Int):=by rw [r0e]
   refine Ya (rZ O (qR rr (qR rr (qf (o_sub .t .t) r2 qz (qO rr qZ)))) V [20,19,18,4,3,2,1,0] [1,0] fun O=>?_)
   refine rZ O (qR rr (qO rr qZ)) V [21,20,19,18,4,3,2,1,0] [1,0] fun O=>?_
   replace O:=O.ent (i:=20) (s':=.pv (.int .i64 (s0:Int))) Z (.int hcs)
   replace O:=O.ent (i:=21) (s':=.pv (.int .i64 (r0:Int))) Z (.int hcr)
   obtain ⟨F,O⟩:=O.nM [19,18,4,3,2,1,0,21,20] [1,0]
   exact ⟨((s0),(r0)),F,hs0,O⟩
  have hmm:km≤mid:=by simp at hc8;omega
  obtain ⟨s0,s0e⟩:∃ z,z=ka:=⟨_,rfl⟩
  obtain ⟨r0,r0e⟩:∃ z,z=km:=⟨_,rfl⟩
  have hs0:(mid<km∧s0+kb=mid+km∧r0=mid)∨(km≤mid∧s0=ka∧r0=km):=.inr ⟨hmm,s0e,r0e⟩
  have hcs:(ka:Int)=(s0:Int):=by rw [s0e]
  have hcr:(km:Int)=(r0:Int):=by rw [r0e]
  refine Ya (rZ O (qR rr (qO rr qZ)) V [20,19,18,4,3,2,1,0] [1,0] fun O=>?_)
  refine rZ O (qR rr (qO rr qZ)) V [21,20,19,18,4,3,2,1,0] [1,0] fun O=>?_
  replace O:=O.ent (i:=20) (s':=.pv (.int .i64 (s0:Int))) Z (.int hcs)
  replace O:=O.ent (i:=21) (s':=.pv (.int .i64 (r0:Int))) Z (.int hcr)
  obtain ⟨F,O⟩:=O.nM [19,18,4,3,2,1,0,21,20] [1,0]
  exact ⟨((s0),(r0)),F,hs0,O⟩
 clear O;intro s a w F hC O
 obtain ⟨s0,r0⟩:=s
 try dsimp only at hC
 obtain ⟨F,O⟩:=O.nM [21,20,19,18,4,3,2,1,0] [1,0]
 try dsimp only at O
 have hs0:=hC
 refine Ya (Zf O (qR rr (qf (o_sub .t qi) r1 qz (qO rr qZ))) V [22,21,20,19,18,4,3,2,1,0] [1,0] Z Z fun a w F O=>?_)
 replace O:=O.ent (i:=22) (s':=.pv (.int .i64 ((mid+km - 1:Nat):Int))) Z (.int (by rw [Zc ow];omega))
 obtain ⟨F,O⟩:=O.nM [22,21,20,19,18,4,3,2,1,0] [1,0]
 refine Za (Ya (Ye ?_))
 have hsr0:s0≤r0∧ka≤s0∧r0≤km∧r0≤mid:=by omega
 refine Zo (σ:=Nat×Nat) [0,1,2,3,4,18,19,22] [0,1] (fun s=>[(20,.pv (.int .i64 (s.1:Int))),(21,.pv (.int .i64 (s.2:Int)))]) (fun s=>[]) (fun s=>s0≤s.1∧s.1≤s.2∧s.2≤r0∧(s.1=s0∨Zr.key (Nn l (s.1 - 1))<Zr.key (Nn l (mid+km - s.1)))∧(s.2=r0∨Zr.key (Nn l (mid+km - 1 - s.2))<Zr.key (Nn l s.2))) (fun s=>s.2 - s.1) ((s0),(r0)) O ⟨rfl,rfl,rfl,rfl,rfl,rfl,rfl,rfl,rfl,rfl,tv⟩ ⟨rfl,rfl,tv⟩ ⟨Yw _,hsr0.1,Yw _,.inl rfl,.inl rfl⟩ ?_
 clear O;intro s a w F hC O
 obtain ⟨st,r⟩:=s
 try dsimp only at hC
 obtain ⟨F,O⟩:=O.nM [22,21,20,19,18,4,3,2,1,0] [1,0]
 try dsimp only at O
 obtain ⟨hs1,hsr,hr1,hlo,hhi⟩:=hC
 refine Ya (Ya (rZ O (qR rr (qR rr (qL r2))) V [151,22,21,20,19,18,4,3,2,1,0] [1,0] fun O=>?_))
 refine Zd O Z (fun hc9=>?_) (fun hc9=>?_)
 ·skip
  have hlt:st<r:=by simp at hc9;omega
  refine Yf (Za (Ye (Ya (Zf O (qR rr (qR rr (qf (o_add .t .t) r2 qz (qf (ZaK YbF kr .t) r1 qz (qf (Zg4 .t qi (by decide)) r1 qz (qf (ZaK YbA kr .t) r1 qz (qO rr qZ))))))) V [23,22,21,20,19,18,4,3,2,1,0] [1,0] Z Z fun a w F O=>?_))))
  obtain ⟨m,hmm⟩:∃ m:Nat,m=(st+r) / 2:=⟨_,rfl⟩
  replace O:=O.ent (i:=23) (s':=.pv (.int .i64 (m:Int))) Z (.int (by rw [hmm];exact ZcE ow))
  obtain ⟨F,O⟩:=O.nM [23,22,21,20,19,18,4,3,2,1,0] [1,0]
  have hwp:IntKind.wrap .i64 (((mid+km - 1:Nat):Int) - (m:Int))=((mid+km - 1 - m:Nat):Int):=by rw [Zc ow];omega
  refine Za (Ya (Zq O (qR rr (qR rr (qR rr (qR rr (qf (o_sub .t .t) r2 qz (qf (o_indexAddr_row (sz:=2) 1 (.mk Ybx kr) .is .t (by rw [hwp];omega) (by rw [hwp];omega) (by rfl)) r2 r1 (qf (Zn (ag:=true) (sz':=2) (sz:=2) 1 .t (by intro x;rfl) (by rw [hwp];omega) kr kr kr) r1 r1 (qR rr (qR rr (qf (o_indexAddr_row (sz:=2) 1 (.mk Ybx kr) .is .t ow ow (by rfl)) r2 r1 (qf (Zn (ag:=true) (sz':=2) (sz:=2) 1 .t (by intro x;rfl) ow kr kr kr) r1 r1 (qf (o_callClosP (avs:=[.agg (ZB (Nn l (IntKind.wrap .i64 (((mid+km - 1:Nat):Int) - (m:Int))).toNat)),.agg (ZB (Nn l ((m:Int)).toNat))]) .t (hw (Nn l (IntKind.wrap .i64 (((mid+km - 1:Nat):Int) - (m:Int))).toNat) (Nn l ((m:Int)).toNat)) hf hbd hnn (Args.two (.pagg .t) (.pagg .t))) r3 qz (qf (ZaG .t qi) r1 qz (qf (ZaA .t) r1 qz qZ)))))))))))))) V [171,23,22,21,20,19,18,4,3,2,1,0] [1,0] Z Z fun a w F O=>?_))
  try dsimp only [List.map,xD,xE,xT,xU,ldSF,ZB] at O
  try simp only [Yg] at O
  refine Za (Zd O Z (fun hc10=>?_) (fun hc10=>?_))
  ·skip
   have h9:¬ Zcw (Zr.key (Nn l (IntKind.wrap .i64 (((mid+km - 1:Nat):Int) - (m:Int))).toNat)) (Zr.key (Nn l m))<0:=by simpa using hc10
   rw [hwp,Yg] at h9
   have h8:=Zex hu (i:=(mid+km - 1 - m)) (j:=m) ow ow ow (fun e=>h9 (ZaR.2 e))
   obtain ⟨i2,hi2e⟩:∃ z,z=m+1:=⟨_,rfl⟩
   obtain ⟨j2,hj2e⟩:∃ z,z=r:=⟨_,rfl⟩
   have hi2:IntKind.wrap .i64 ((m:Int)+1)=(i2:Int):=by rw [hi2e];exact Zl ow
   have hj2:(r:Int)=(j2:Int):=by rw [hj2e]
   have hmu:j2 - i2<r - st:=by omega
   have hC2:s0≤i2∧i2≤j2∧j2≤r0∧(i2=s0∨Zr.key (Nn l (i2 - 1))<Zr.key (Nn l (mid+km - i2)))∧(j2=r0∨Zr.key (Nn l (mid+km - 1 - j2))<Zr.key (Nn l j2)):=⟨by omega,by omega,by omega,.inr (by rw [show i2 - 1=m by omega,show mid+km - i2=mid+km - 1 - m by omega];exact h8),by rw [hj2e];exact hhi⟩
   refine Zf O (qR rr (qp r1 (qO rr qZ))) V [22,21,20,19,18,4,3,2,1,0] [1,0] Z Z fun a w F O=>Zm (Za ?_)
   replace O:=O.ent (i:=20) (s':=.pv (.int .i64 (i2:Int))) Z (.int hi2)
   replace O:=O.ent (i:=21) (s':=.pv (.int .i64 (j2:Int))) Z (.int hj2)
   obtain ⟨F,O⟩:=O.nM [22,19,18,4,3,2,1,0,21,20] [1,0]
   exact ⟨((i2),(j2)),F,hC2,O,hmu⟩
  have h9:Zcw (Zr.key (Nn l (IntKind.wrap .i64 (((mid+km - 1:Nat):Int) - (m:Int))).toNat)) (Zr.key (Nn l m))<0:=by simpa using hc10
  rw [hwp,Yg] at h9
  have h8:=ZaR.1 h9
  obtain ⟨i2,hi2e⟩:∃ z,z=st:=⟨_,rfl⟩
  obtain ⟨j2,hj2e⟩:∃ z,z=m:=⟨_,rfl⟩
  have hi2:(st:Int)=(i2:Int):=by rw [hi2e]
  have hj2:(m:Int)=(j2:Int):=by rw [hj2e]
  have hmu:j2 - i2<r - st:=by omega
  have hC2:s0≤i2∧i2≤j2∧j2≤r0∧(i2=s0∨Zr.key (Nn l (i2 - 1))<Zr.key (Nn l (mid+km - i2)))∧(j2=r0∨Zr.key (Nn l (mid+km - 1 - j2))<Zr.key (Nn l j2)):=⟨by omega,by omega,by omega,by rw [hi2e];exact hlo,.inr (by rw [hj2e];exact h8)⟩
  refine Zf O (qR rr (qO rr qZ)) V [22,21,20,19,18,4,3,2,1,0] [1,0] Z Z fun a w F O=>Zm (Za ?_)
  replace O:=O.ent (i:=20) (s':=.pv (.int .i64 (i2:Int))) Z (.int hi2)
  replace O:=O.ent (i:=21) (s':=.pv (.int .i64 (j2:Int))) Z (.int hj2)
  obtain ⟨F,O⟩:=O.nM [22,19,18,4,3,2,1,0,21,20] [1,0]
  exact ⟨((i2),(j2)),F,hC2,O,hmu⟩
 have hjj:r=st:=by simp at hc9;omega
 rw [hjj] at hhi hr1
 obtain ⟨⟨k1,k2,k3⟩,kc1,kc2⟩:=ZjI (κ:=Zr.key) (l:=l) (a:=ka) (m:=km) (b:=kb) (mid:=mid) (start:=st) h3 h1 h2 ow ow ow hx hy hs0 hs1 hr1 hlo hhi ow
 obtain ⟨en,ene⟩:∃ z,z=mid+km - st:=⟨_,rfl⟩
 rw [← ene] at k2 k3 kc1 kc2
 obtain ⟨hst1,hr1a,hr1b,hr2a,hr2b,-,-⟩:=ZjS (κ:=Zr.key) (l:=l) (a:=ka) (start:=st) (m:=km) (e:=en) (b:=kb) (mid:=mid) ow k1 k2 k3 h3 ow hx hy (Zek hu _ _) kc1 kc2
 obtain ⟨l1,l1e⟩:∃ z,z=ZV l st km en:=⟨_,rfl⟩
 rw [← l1e] at hst1 hr1a hr1b hr2a hr2b
 obtain ⟨l2,l2e⟩:∃ z,z=Zp Zr.key l1 ka mid:=⟨_,rfl⟩
 rw [← l2e] at hst1 hr2a hr2b
 obtain ⟨l3,l3e⟩:∃ z,z=Zp Zr.key l2 mid kb:=⟨_,rfl⟩
 rw [← l3e] at hst1
 have hg:Zp Zr.key l ka kb=l3:=hst1.symm
 have hn1:l1.length≤1000000:=by rw [l1e,Zhm k1 k2 ow];exact hll
 have hm1l:l1.length=l.length:=by rw [l1e,Zhm k1 k2 ow]
 have hn2:l2.length≤1000000:=by rw [l2e,Z0 ow];exact hn1
 have hm2l:l2.length=l.length:=by rw [l2e,Z0 ow];exact hm1l
 have hu1:Unl Zr.key l1:=by rw [l1e];exact hu.perm (Zjm k1 k2).symm
 have hu2:Unl Zr.key l2:=by rw [l2e];exact Zai ow hu1
 have hce:IntKind.wrap .i64 (((mid+km:Nat):Int) - (st:Int))=(en:Int):=by rw [Zc ow];omega
 refine Yr (Zj (Zj (Zv (Za (Ya (Zf O (qR rr (qR rr (qf (o_sub .t .t) r2 qz (qO rr qZ)))) V [24,20,18,4,3,2,1,0] [1,0] Z Z fun a w F O=>?_))))))
 replace O:=O.ent (i:=24) (s':=.pv (.int .i64 (en:Int))) Z (.int (hce))
 obtain ⟨F,O⟩:=O.nM [24,20,18,4,3,2,1,0] [1,0]
 refine Za (Ya (Ya (rZ O (qR rr (qR rr (qf (ZaG .t .t) r2 qz (qR rr (qm Z Z Z Z (qm Z Z Z Z (qk Z (fun h=>ZaG (.w h) (.w h)) r3 qz (qf (ZT .t .t) r2 qz qZ)))))))) V [185,24,20,18,4,3,2,1,0] [1,0] fun O=>?_)))
 refine Zb4 (σ:=Unit) [0,1,3,4,18,20,24] [0] (fun s=>[]) (fun s=>[(1,.ob (.val v) (ZJ 39 2 ZB l1))]) (fun s=>True) O ?_ ?_
 ·skip
  refine Zd O Z (fun hc11=>?_) (fun hc11=>?_)
  ·skip
   have h9:st<km∧km<en:=by simpa using hc11
   refine Zf O (qR rr (qR rr (qR rr (qR rr (qR rr (qf (ZQ 1 (ZqR v l st km en hll ow ow ow f cps) func281 Z kr (Args.five .t .t .t .t .t)) r5 r1 qZ)))))) V [24,20,18,4,3,1,0] [1,0] Z Z fun a w F O=>?_
   rw [← l1e] at O
   refine Za ?_
   obtain ⟨F,O⟩:=O.nM [24,20,18,4,3,1,0] [0,1]
   exact ⟨(()),F,tv,O⟩
  have h9:¬ (st<km∧km<en):=by simpa using hc11
  have hlr:l=l1:=by rw [l1e];exact (ZjL k1 k2 ow).symm
  rw [hlr] at O
  refine Yf (Za ?_)
  obtain ⟨F,O⟩:=O.nM [24,20,18,4,3,1,0] [0,1]
  exact ⟨(()),F,tv,O⟩
 clear O;intro u a w F hC O
 try dsimp only at hC
 obtain ⟨F,O⟩:=O.nM [24,20,18,4,3,1,0] [1,0]
 try dsimp only at O
 refine Ya (Ya (rZ O (qR rr (qR rr (qf (ZaG .t .t) r2 qz (qR rr (qm Z Z Z Z (qm Z Z Z Z (qk Z (fun h=>ZaG (.w h) (.w h)) r3 qz (qf (ZT .t .t) r2 qz qZ)))))))) V [199,24,20,18,4,3,1,0] [1,0] fun O=>?_))
 refine Zb4 (σ:=Unit) [0,3,4,18,24] [0] (fun s=>[]) (fun s=>[(1,.ob (.val v) (ZJ 39 2 ZB l2))]) (fun s=>True) O ?_ ?_
 ·skip
  refine Zd O Z (fun hc12=>?_) (fun hc12=>?_)
  ·skip
   have h9:ka<st∧st<mid:=by simpa using hc12
   refine Zf O (qR rr (qR rr (qR rr (qR rr (qR rr (qf (ZQ 1 (ih l1 ka st mid ow hn1 ow ow ow hu1 hr1a hr1b) func275 Z kr (Args.five .t .t .t .t .t)) r5 r1 qZ)))))) V [24,18,4,3,0] [1,0] Z Z fun a w F O=>?_
   rw [← l2e] at O
   refine Za ?_
   obtain ⟨F,O⟩:=O.nM [24,18,4,3,0] [0,1]
   exact ⟨(()),F,tv,O⟩
  have h9:¬ (ka<st∧st<mid):=by simpa using hc12
  have hlr:l1=l2:=by rw [l2e];refine (Za2 ow ?_).symm; (rcases Y5 ka st with h | h); (rw [show mid=st by omega];exact hr1a); (rw [show ka=st by omega];exact hr1b)
  rw [hlr] at O
  refine Yf (Za ?_)
  obtain ⟨F,O⟩:=O.nM [24,18,4,3,0] [0,1]
  exact ⟨(()),F,tv,O⟩
 clear O;intro u a w F hC O
 try dsimp only at hC
 obtain ⟨F,O⟩:=O.nM [24,18,4,3,0] [1,0]
 try dsimp only at O
 refine Ya (rZ O (qR rr (qR rr (qf (ZaG .t .t) r2 qz (qR rr (qm Z Z Z Z (qm Z Z Z Z (qk Z (fun h=>ZaG (.w h) (.w h)) r3 qz (qf (ZT .t .t) r2 qz qZ)))))))) V [213,24,18,4,3,0] [1,0] fun O=>?_)
 refine Zd O Z (fun hc13=>?_) (fun hc13=>?_)
 ·skip
  have h9:mid<en∧en<kb:=by simpa using hc13
  refine Zf O (qR rr (qR rr (qR rr (qR rr (qR rr (qf (ZQ 1 (ih l2 mid en kb ow hn2 ow ow ow hu2 hr2a hr2b) func275 Z kr (Args.five .t .t .t .t .t)) r5 r1 qZ)))))) V [] [1,0] Z Z fun a w F O=>?_
  rw [← l3e] at O
  have O:=O.turn 1 Z (r':=RS.hp (ZJ 39 2 ZB (Zp Zr.key l ka kb) v)) (fun _ _ _ _ h=>by rw [hg];exact h)
  refine ZA hG O Z .nil .none rfl
 have h9:¬ (mid<en∧en<kb):=by simpa using hc13
 have hlr:l2=l3:=by rw [l3e];refine (Za2 ow ?_).symm; (rcases Y5 mid en with h | h); (rw [show kb=en by omega];exact hr2a); (rw [show mid=en by omega];exact hr2b)
 rw [hlr] at O
 refine Yf ?_
 have O:=O.turn 1 Z (r':=RS.hp (ZJ 39 2 ZB (Zp Zr.key l ka kb) v)) (fun _ _ _ _ h=>by rw [hg];exact h)
 refine ZA hG O Z .nil .none rfl
theorem ZqB (v : Value) (f : FuncId) (fn : Func) (cps : List PV) (hf : prog.funcs[f]? = some fn) (hbd : fn.body.isSome = true) (hnn : (fn.name == "runtime.NumGoroutine") = false) (hw : ∀ x y : Zr, FnP prog f (.agg (ZB x) :: .agg (ZB y) :: cps) (.int .i64 (Zcw (Zr.key x) (Zr.key y)))) : ∀ (n : Nat) (l : List Zr) (ka km kb : Nat), kb - ka < n → l.length ≤ 1000000 → ka < km → km < kb → kb ≤ l.length → Unl Zr.key l → ZY Zr.key (seg l ka km) → ZY Zr.key (seg l km kb) → FnG prog 275 1 [.is v, .int .i64 (ka : Nat), .int .i64 (km : Nat), .int .i64 (kb : Nat), .clos f cps] [ZJ 39 2 ZB l v] (.tup []) (fun _ => [ZJ 39 2 ZB (Zp Zr.key l ka kb) v]) := fun n => by
 induction n with
 | zero=>intro l ka km kb h;omega
 | succ n ih=>intro l ka km kb hn hll h1 h2 h3 hu hx hy;exact symSR v l ka km kb hll h1 h2 h3 hu hx hy f fn cps hf hbd hnn hw n ih hn
theorem Zqk (v : Value) (l : List Zr)  (hll : l.length ≤ 1000000) (hu : Unl Zr.key l) (f : FuncId) (fn : Func) (cps : List PV) (hf : prog.funcs[f]? = some fn) (hbd : fn.body.isSome = true) (hnn : (fn.name == "runtime.NumGoroutine") = false) (hw : ∀ x y : Zr, FnP prog f (.agg (ZB x) :: .agg (ZB y) :: cps) (.int .i64 (Zcw (Zr.key x) (Zr.key y)))) : FnG prog 245 1 [.is v, .int .i64 l.length, .clos f cps] [ZJ 39 2 ZB l v] (.tup []) (fun _ => [ZJ 39 2 ZB (Z7 Zr.key l) v]) := by
 refine FnG.mk func245 Z ntmps245 Z kr fun B F0 a w F V hG O=>?_
 replace O:=O.turn 1 Z (r':=.ob (.val v) (ZJ 39 2 ZB l)) (fun _ _ _ _ h=>h)
 refine Ya (rZ O (qI qZ) V [6,2,1,0] [1,0] fun O=>Ya ?_)
 refine rZ O (qR rr (qI (qO rr qZ))) V [8,7,6,2,1,0] [1,0] fun O=>(Ya (Ye ?_))
 have hc0:Ziz Zr.key l 20 0:=fun t ht=>by omega
 replace O:=O.ent (i:=7) (s':=.pv (.int .i64 ((0:Nat):Int))) Z (.int Z)
 replace O:=O.ent (i:=8) (s':=.pv (.int .i64 ((0+20:Nat):Int))) Z (.int Z)
 refine Zo (σ:=Nat×List Zr) [0,1,2,6] [0] (fun s=>[(7,.pv (.int .i64 (s.1:Int))),(8,.pv (.int .i64 ((s.1+20:Nat):Int)))]) (fun s=>[(1,.ob (.val v) (ZJ 39 2 ZB s.2))]) (fun s=>s.1≤l.length∧(∃ t,s.1=t*20)∧s.2.length=l.length∧Unl Zr.key s.2∧s.2.Perm l∧Ziz Zr.key s.2 20 s.1) (fun s=>l.length - s.1) ((0),(l)) O ⟨rfl,rfl,rfl,rfl,rfl,rfl,tv⟩ ⟨rfl,rfl,tv⟩ ⟨Yz _,⟨0,rfl⟩,rfl,hu,Ybi _,hc0⟩ ?_
 clear O;intro s a w F hC O
 obtain ⟨q,l1⟩:=s
 try dsimp only at hC
 obtain ⟨F,O⟩:=O.nM [8,7,6,2,1,0] [1,0]
 try dsimp only at O
 obtain ⟨hql,⟨t,ht⟩,hn1,hu1,hp1,hB1⟩:=hC
 refine Ya (Ya (rZ O (qR rr (qR rr (qf (ZiO .t .t) r2 qz qZ))) V [13,8,7,6,2,1,0] [1,0] fun O=>?_))
 refine Zd O Z (fun hc0=>?_) (fun hc0=>?_)
 ·skip
  have hlt:q+20≤l.length:=by simp at hc0;omega
  obtain ⟨l2,l2e⟩:∃ z,z=Zp Zr.key l1 q (q+20):=⟨_,rfl⟩
  refine Yf (Za (Ye (Ya (Zf O (qR rr (qR rr (qR rr (qR rr (qf (ZQ 1 (ZqC v l1 q (q+20) ow ow ow hu1 f fn cps hf hbd hnn hw) func274 Z kr (Args.four .t .t .t .t)) r4 r1 qZ))))) V [8,7,6,2,1,0] [1,0] Z Z fun a w F O=>?_))))
  rw [← l2e] at O
  refine Za (Ya (rZ O (qR rr (qO rr qZ)) V [8,7,6,2,1,0] [1,0] fun O=>?_))
  refine Zf O (qR rr (qR rr (qf (o_add .t .t) r2 qz (qO rr qZ)))) V [8,7,6,2,1,0] [1,0] Z Z fun a w F O=>Zm (Za ?_)
  have hB2:Ziz Zr.key l2 20 (q+20):=by rw [l2e,ht];exact Zdz ow (by rw [← ht];exact hB1) ow hu1
  replace O:=O.ent (i:=8) (s':=.pv (.int .i64 ((q+20+20:Nat):Int))) Z (.int (by rw [Zc ow];omega))
  obtain ⟨F,O⟩:=O.nM [6,2,1,0,8,7] [0,1]
  exact ⟨((q+20),(l2)),F,⟨by omega,⟨t+1,by omega⟩,by rw [l2e,Z0 ow];exact hn1,by rw [l2e];exact Zai ow hu1,by rw [l2e];exact (Zak ow).trans hp1,hB2⟩,O,by omega⟩
 have hlt:l.length<q+20:=by simp at hc0;omega
 obtain ⟨l2,l2e⟩:∃ z,z=Zp Zr.key l1 q l.length:=⟨_,rfl⟩
 have hn2:l2.length=l.length:=by rw [l2e,Z0 ow];exact hn1
 have hu2:Unl Zr.key l2:=by rw [l2e];exact Zai ow hu1
 have hp2:l2.Perm l:=by rw [l2e];exact (Zak ow).trans hp1
 have hB2:Zhp Zr.key l2 20 0:=by rw [l2e,ht,← hn1];exact ZeR ow (by rw [← ht];exact hB1) ow ow hu1
 refine Yr (Zj (Zj (Zv (Za (Ya (Zf O (qR rr (qR rr (qR rr (qR rr (qf (ZQ 1 (ZqC v l1 q l.length ow ow ow hu1 f fn cps hf hbd hnn hw) func274 Z kr (Args.four .t .t .t .t)) r4 r1 qZ))))) V [6,2,1,0] [1,0] Z Z fun a w F O=>?_))))))
 rw [← l2e] at O
 refine Za (Ye ?_)
 have hc0:0<20∧20≤2000000:=by omega
 replace O:=O.ent (i:=6) (s':=.pv (.int .i64 ((20:Nat):Int))) Z (.int Z)
 refine Zo (σ:=Nat×List Zr) [0,1,2] [0] (fun s=>[(6,.pv (.int .i64 (s.1:Int)))]) (fun s=>[(1,.ob (.val v) (ZJ 39 2 ZB s.2))]) (fun s=>0<s.1∧s.1≤2000000∧s.2.length=l.length∧Unl Zr.key s.2∧s.2.Perm l∧Zhp Zr.key s.2 s.1 0) (fun s=>l.length - s.1) ((20),(l2)) O ⟨rfl,rfl,rfl,rfl,tv⟩ ⟨rfl,rfl,tv⟩ ⟨hc0.1,hc0.2,hn2,hu2,hp2,hB2⟩ ?_
 clear O;intro s a w F hC O
 obtain ⟨bs,l3⟩:=s
 try dsimp only at hC
 obtain ⟨F,O⟩:=O.nM [6,2,1,0] [1,0]
 try dsimp only at O
 obtain ⟨hb0,hb1,hn3,hu3,hp3,hB3⟩:=hC
 have hwb:IntKind.wrap .i64 (2*(bs:Int))=((2*bs:Nat):Int):=by rw [Zc ow];omega
 refine Ya (Ya (rZ O (qR rr (qR rr (qL r2))) V [30,6,2,1,0] [1,0] fun O=>?_))
 refine Zd O Z (fun hc1=>?_) (fun hc1=>?_)
 ·skip
  have hlt:bs<l.length:=by simp at hc1;omega
  refine Yf (Za (Ye (Ya (rZ O (qR rr (qf (ZdI qi .t) r1 qz (qI (qO rr qZ)))) V [8,7,6,2,1,0] [1,0] fun O=>(Ya (Ye ?_))))))
  have hc4:Ziz Zr.key l3 (2*bs) 0:=fun t ht=>by omega
  replace O:=O.ent (i:=7) (s':=.pv (.int .i64 ((0:Nat):Int))) Z (.int Z)
  replace O:=O.ent (i:=8) (s':=.pv (.int .i64 ((0+2*bs:Nat):Int))) Z (.int (by rw [hwb];omega))
  refine Zo (σ:=Nat×List Zr) [0,1,2,6] [0] (fun s=>[(7,.pv (.int .i64 (s.1:Int))),(8,.pv (.int .i64 ((s.1+2*bs:Nat):Int)))]) (fun s=>[(1,.ob (.val v) (ZJ 39 2 ZB s.2))]) (fun s=>s.1≤l.length∧(∃ t,s.1=t*(2*bs))∧s.2.length=l.length∧Unl Zr.key s.2∧s.2.Perm l∧Ziz Zr.key s.2 (2*bs) s.1∧Zhp Zr.key s.2 bs s.1) (fun s=>l.length - s.1) ((0),(l3)) O ⟨rfl,rfl,rfl,rfl,rfl,rfl,tv⟩ ⟨rfl,rfl,tv⟩ ⟨Yz _,⟨0,(Nat.zero_mul _).symm⟩,hn3,hu3,hp3,hc4,hB3⟩ ?_
  clear O;intro s a w F hC O
  obtain ⟨q,l4⟩:=s
  try dsimp only at hC
  obtain ⟨F,O⟩:=O.nM [8,7,6,2,1,0] [1,0]
  try dsimp only at O
  obtain ⟨hql,⟨t,ht⟩,hn4,hu4,hp4,hB4,hC4⟩:=hC
  have hqw:IntKind.wrap .i64 ((q:Int)+(bs:Int))=((q+bs:Nat):Int):=by rw [Zc ow];omega
  refine Ya (Ya (rZ O (qR rr (qR rr (qf (ZiO .t .t) r2 qz qZ))) V [35,8,7,6,2,1,0] [1,0] fun O=>?_))
  refine Zd O Z (fun hc2=>?_) (fun hc2=>?_)
  ·skip
   have hlt2:q+2*bs≤l.length:=by simp at hc2;omega
   obtain ⟨l5,l5e⟩:∃ z,z=Zp Zr.key l4 q (q+2*bs):=⟨_,rfl⟩
   obtain ⟨hra,hrb⟩:=ZjR ow ht hC4 (show q+2*bs≤l4.length by omega)
   refine Yf (Za (Ye (Ya (Zf O (qR rr (qR rr (qR rr (qR rr (qf (o_add .t .t) r2 qz (qR rr (qR rr (qf (ZQ 1 (ZqB v f fn cps hf hbd hnn hw 4000000 l4 q (q+bs) (q+2*bs) ow ow ow ow ow hu4 hra hrb) func275 Z kr (Args.five .t .t (.conv .t (.int hqw)) .t .t)) r5 r1 qZ)))))))) V [8,7,6,2,1,0] [1,0] Z Z fun a w F O=>?_))))
   rw [← l5e] at O
   refine Za (Ya (rZ O (qR rr (qO rr qZ)) V [8,7,6,2,1,0] [1,0] fun O=>?_))
   refine Zf O (qR rr (qR rr (qf (ZdI qi .t) r1 qz (qf (o_add .t .t) r2 qz (qO rr qZ))))) V [8,7,6,2,1,0] [1,0] Z Z fun a w F O=>Zm (Za ?_)
   have ht2:q+2*bs=(t+1)*(2*bs):=by rw [show (t+1)*(2*bs)=t*(2*bs)+2*bs from YaK t (2*bs),← ht]
   have hB5:Ziz Zr.key l5 (2*bs) (q+2*bs):=by rw [l5e,ht];exact Zdz ow (by rw [← ht];exact hB4) ow hu4
   replace O:=O.ent (i:=8) (s':=.pv (.int .i64 ((q+2*bs+2*bs:Nat):Int))) Z (.int (by rw [hwb,Zc ow];omega))
   obtain ⟨F,O⟩:=O.nM [6,2,1,0,8,7] [0,1]
   exact ⟨((q+2*bs),(l5)),F,⟨by omega,⟨t+1,ht2⟩,by rw [l5e,Z0 ow];exact hn4,by rw [l5e];exact Zai ow hu4,by rw [l5e];exact (Zak ow).trans hp4,hB5,by rw [l5e];exact Zgo ow ow hC4⟩,O,by omega⟩
  have hlt2:l.length<q+2*bs:=by simp at hc2;omega
  refine Yr (Zj (Zj (Zv (Za (Ya (Ya (Zf O (qR rr (qR rr (qf (o_add .t .t) r2 qz (qO rr qZ)))) V [9,7,6,2,1,0] [1,0] Z Z fun a w F O=>?_)))))))
  replace O:=O.ent (i:=9) (s':=.pv (.int .i64 ((q+bs:Nat):Int))) Z (.int hqw)
  obtain ⟨F,O⟩:=O.nM [9,7,6,2,1,0] [1,0]
  refine Za (Ya (rZ O (qR rr (qR rr (qL r2))) V [54,9,7,6,2,1,0] [1,0] fun O=>?_))
  refine Zd O Z (fun hc3=>?_) (fun hc3=>?_)
  ·skip
   have hlt3:q+bs<l.length:=by simp at hc3;omega
   obtain ⟨l5,l5e⟩:∃ z,z=Zp Zr.key l4 q l.length:=⟨_,rfl⟩
   obtain ⟨hra,hrb⟩:=Zia ow ht hC4 (show q+bs<l4.length by omega) ow
   rw [hn4] at hrb
   have hn5:l5.length=l.length:=by rw [l5e,Z0 ow];exact hn4
   have hu5:Unl Zr.key l5:=by rw [l5e];exact Zai ow hu4
   have hp5:l5.Perm l:=by rw [l5e];exact (Zak ow).trans hp4
   have hB5:Zhp Zr.key l5 (2*bs) 0:=by rw [l5e,ht,← hn4];exact ZeR ow (by rw [← ht];exact hB4) ow ow hu4
   refine Zf O (qR rr (qR rr (qR rr (qR rr (qR rr (qf (ZQ 1 (ZqB v f fn cps hf hbd hnn hw 4000000 l4 q (q+bs) l.length ow ow ow ow ow hu4 hra hrb) func275 Z kr (Args.five .t .t .t .t .t)) r5 r1 qZ)))))) V [6,2,1,0] [1,0] Z Z fun a w F O=>?_
   rw [← l5e] at O
   refine Za (Zf O (qR rr (qf (ZdI .t qi) r1 qz (qO rr qZ))) V [6,2,1,0] [1,0] Z Z fun a w F O=>Zm (Za ?_))
   replace O:=O.ent (i:=6) (s':=.pv (.int .i64 ((2*bs:Nat):Int))) Z (.int (by rw [Zc ow];omega))
   obtain ⟨F,O⟩:=O.nM [2,1,0,6] [0,1]
   exact ⟨((2*bs),(l5)),F,⟨by omega,by omega,hn5,hu5,hp5,hB5⟩,O,by omega⟩
  have hlt3:l.length≤q+bs:=by simp at hc3;omega
  obtain ⟨l5,l5e⟩:∃ z,z=l4:=⟨_,rfl⟩
  rw [← l5e] at O
  have hn5:l5.length=l.length:=by rw [l5e];exact hn4
  have hu5:Unl Zr.key l5:=by rw [l5e];exact hu4
  have hp5:l5.Perm l:=by rw [l5e];exact hp4
  have hB5:Zhp Zr.key l5 (2*bs) 0:=by rw [l5e];exact ZjH (t:=t) hb0 (by rw [← ht];exact hB4) (by rw [← ht];exact hC4) (by rw [← ht,hn4];exact hlt3)
  refine Yf (Za (Zf O (qR rr (qf (ZdI .t qi) r1 qz (qO rr qZ))) V [6,2,1,0] [1,0] Z Z fun a w F O=>Zm (Za ?_)))
  replace O:=O.ent (i:=6) (s':=.pv (.int .i64 ((2*bs:Nat):Int))) Z (.int (by rw [Zc ow];omega))
  obtain ⟨F,O⟩:=O.nM [2,1,0,6] [0,1]
  exact ⟨((2*bs),(l5)),F,⟨by omega,by omega,hn5,hu5,hp5,hB5⟩,O,by omega⟩
 have hg:Z7 Zr.key l=l3:=(Zcq hp3 (Zmp hB3 (by simp at hc1;omega))).symm
 refine Yr (Zj (Zj (Zv ?_)))
 have O:=O.turn 1 Z (r':=RS.hp (ZJ 39 2 ZB (Z7 Zr.key l) v)) (fun _ _ _ _ h=>by rw [hg];exact h)
 refine ZA hG O Z .nil .none rfl
theorem Zpr (v : Value) (l : List Zr)  (hll : l.length ≤ 1000000) (hu : Unl Zr.key l) (f : FuncId) (fn : Func) (cps : List PV) (hf : prog.funcs[f]? = some fn) (hbd : fn.body.isSome = true) (hnn : (fn.name == "runtime.NumGoroutine") = false) (hw : ∀ x y : Zr, FnP prog f (.agg (ZB x) :: .agg (ZB y) :: cps) (.int .i64 (Zcw (Zr.key x) (Zr.key y)))) : FnG prog 180 1 [.is v, .clos f cps] [ZJ 39 2 ZB l v] (.tup []) (fun _ => [ZJ 39 2 ZB (Z7 Zr.key l) v]) := by
 refine FnG.mk func180 Z ntmps180 Z kr fun B F0 a w F V hG O=>?_
 replace O:=O.turn 1 Z (r':=.ob (.val v) (ZJ 39 2 ZB l)) (fun _ _ _ _ h=>h)
 refine Zf O (qR rr (qR rr (qf (Zae 1 Ybx .is) r1 r1 (qR rr (qf (ZQ 1 (Zqk v l hll hu f fn cps hf hbd hnn hw) func245 Z kr (Args.three .t .t .t)) r3 r1 qZ))))) V [] [1,0] Z Z fun a w F O=>?_
 have hg:Z7 Zr.key l=Z7 Zr.key l:=rfl
 have O:=O.turn 1 Z (r':=RS.hp (ZJ 39 2 ZB (Z7 Zr.key l) v)) (fun _ _ _ _ h=>by rw [hg];exact h)
 refine ZA hG O Z .nil .none rfl
theorem ZkL (x y:TxD):FnP prog 179 [.agg (rTx x),.agg (rTx y),.ref [.clos 77 []]] (.int .i64 (Zcw (TxD.id x) (TxD.id y))):=by
 refine FnP.mk func179 Z ntmps179 Z fun B a w F V hfr O=>Ya ?_
 refine Zb O (qx 101 r1 (qx 102 r1 (qI qZ))) V [5,4,3,2] [102,101,0] (fun _=>rfl) (fun _=>rfl) fun τ a w F O=>?_
 try dsimp only [RS.sub,SF.sub,CF.sub,csub,Anc.sub,List.map,zCF,Zs,rTx,ZB,Zaq,ZG,rOp] at O
 generalize τ 3=v3,τ 4=v4 at O
 refine Za (Ya (Zq O (qf (oR false 1 .t) r1 qz (qe 3 101 r1 r1 (qf (o_callClosP (avs:=[.agg (rTx x)]) .t (ZgX x) func77 Z kr (Args.one (.pagg .t))) r2 qz (qf (oR false 1 .t) r1 qz (qe 3 102 r1 r1 (qf (o_callClosP (avs:=[.agg (rTx y)]) .t (ZgX y) func77 Z kr (Args.one (.pagg .t))) r2 qz (qf (oP (Zon (TxD.id x) (TxD.id y)) func108 (Args.two .t .t)) r2 qz (qO rr qZ)))))))) V [5] [102,101,0] Z Z fun a w F O=>?_))
 try dsimp only [List.map,xD,xE,xT,xU,ldSF,Zs,rTx,ZB,Zaq,ZG,rOp] at O
 refine Za (Yi (ZP hfr O Z Z Z (.int Z)))
theorem ZlV (l was now:List TxD) (hll:l.length≤1000) (hnl:now.length≤1000) (hu:Unl TxD.id ((l.filter fun x=>(ZO TxD.id was (TxD.id x)).isNone)++now)):FnP prog 113 [.sl rTx l,.sl rTx was,.sl rTx now,.clos 77 []] (.sl rTx (Zeo TxD.id l was now)):=by
 refine FnP.mk func113 Z ntmps113 Z fun B a w F V hfr O=>Ya ?_
 refine Zb O (qf (Zjy 101 .t ZjY) r1 qz (qC qZ)) V [8,7,2,1,0] [101,0] (fun _=>rfl) (fun _=>rfl) fun τ a w F O=>?_
 try dsimp only [RS.sub,SF.sub,CF.sub,csub,Anc.sub,List.map,zCF,Zs,rTx,ZB,Zaq,ZG,rOp] at O
 generalize τ 7=v7 at O
 obtain ⟨F,O⟩:=O.giveRef 101 7 Z Z rfl
 obtain ⟨F,O⟩:=O.nM [8,7,2,1,0] [0]
 try dsimp only [Go.Gm.unCF] at O
 refine Za (Ya (rZ O (qC qZ) V [9,8,7,2,1,0] [0] fun O=>(Ya (Ya ?_))))
 refine rZ O (qR rr (qu Ybw r1 (qJ qZ))) V [16,15,14,9,8,7,2,1] [0] fun O=>Ye ?_
 replace O:=O.fresh 50 rfl
 replace O:=O.turn 50 Z (ZaI (T:=36) (sz:=3) (R:=rTx))
 refine Zo (σ:=(Nat)×(Value)×(List TxD)) [1,2,7,8,14,15] [0] (fun s=>[(16,.pv (.int .i64 (s.1:Int))),(9,.pv (.is s.2.1))]) (fun s=>[(50,.ob (.val s.2.1) (ZJ 36 3 rTx s.2.2))]) (fun s=>s.1≤l.length∧(s.2.2=((l.take s.1).filter fun x=>(ZO TxD.id was (TxD.id x)).isNone))) (fun s=>l.length - s.1) ((0),(.slice none 0 0),([])) O ⟨rfl,rfl,rfl,rfl,rfl,rfl,rfl,rfl,tv⟩ ⟨rfl,rfl,tv⟩ ⟨Yz _,rfl⟩ ?_
 clear O;intro s a w F hC O
 obtain ⟨i,v,out⟩:=s
 try dsimp only at hC
 obtain ⟨F,O⟩:=O.nM [16,15,14,9,8,7,2,1] [50,0]
 try dsimp only at O
 obtain ⟨hi,hq⟩:=hC
 have hol:out.length≤i:=by rw [hq];exact Yac (Yaa _ _) (by rw [Yk];omega)
 refine Ya (rZ O (qL r2) V [17,16,15,14,9,8,7,2,1] [50,0] fun O=>Ya ?_)
 refine Zd O Z (fun hc0=>?_) (fun hc0=>?_)
 ·have hil:i<l.length:=by simp at hc0;omega
  refine Yf (Za (Ya (Ye (Ya (Zb O (qy 3 Ybw r2 (qf (oR true 3 .t) r1 qz (qf (oH [.int .i64 0,.bool false,.slice none 0 0] 102) trivial qz (qS 3 102 r2 r1 qZ)))) V [16,15,14,11,9,8,7,2,1] [102,50,0] (fun _=>rfl) (fun _=>rfl) fun τ a w F O=>?_)))))
  try dsimp only [RS.sub,SF.sub,CF.sub,csub,Anc.sub,List.map,Ze,xL,xM,Nat.reduceAdd,xD,xE,xT,xU,xC,xN,zCF,ldSF,Zs,rTx,ZB,Zaq,ZG,rOp] at O
  generalize τ 11=v11 at O
  try simp only [Yg] at O
  refine Za (Ya (Zau O (qR rr (qf (oR false 1 .t) r1 qz (qe 3 102 r1 r1 (qf (o_callClosP (avs:=[.agg (rTx (Nn l i))]) .t (ZgX (Nn l i)) func77 Z kr (Args.one (.pagg .t))) r2 qz (qf (oR false 1 .t) r1 qz (qf (oP (Zhf was (TxD.id (Nn l i))) func141 (Args.three .t .t .t)) r3 qz (qR rr (qf (o_extract .t Z) r1 qz (qf (o_extract .t Z) r1 qz (qf (oH [.int .i64 0,.bool false,.slice none 0 0] 103) trivial qz (qf (oA 3 103 .same (.conv .t .agg)) r2 r1 (qO rr qZ)))))))))))) V [16,15,14,13,11,9,8,7,2,1] [103,102,50,0] (fun _=>rfl) (fun _=>rfl) fun τ a w F O=>?_))
  try dsimp only [RS.sub,SF.sub,CF.sub,csub,Anc.sub,List.map,Ze,xL,xM,Nat.reduceAdd,xD,xE,xT,xU,xC,xN,zCF,ldSF,Zs,rTx,ZB,Zaq,ZG,rOp] at O
  generalize τ 12=v12 at O
  refine Za (Ya (rZ O (qR rr (qf (ZaA .t) r1 qz qZ)) V [30,16,15,14,11,9,8,7,2,1] [103,102,50,0] fun O=>?_))
  refine Zd O Z (fun hc1=>?_) (fun hc1=>?_)
  ·have h9:(ZO TxD.id was (TxD.id (Nn l i))).isNone=true:=by have h8:(!(ZO TxD.id was (TxD.id (Nn l i))).isSome)=true:=hc1;cases e:(ZO TxD.id was (TxD.id (Nn l i))) with | none=>rfl | some z=>rw [e] at h8;cases h8
   have hst9:out ++ [(Nn l i)] = ((l.take (i+1)).filter fun x=>(ZO TxD.id was (TxD.id x)).isNone):=by rw [hq,ZaM hil,Yd h9]
   refine Zb O (qR rr (qe 3 102 r1 r1 (qf (Zy (sz:=3) (zs:=[.int .i64 0,.bool false,.slice none 0 0]) (r:=[(0,.tmp 32)]) (l:=[_,_,_]) Ybw kr kr kr kr Z Z (.agg Z .t kr kr .nil) Z) r1 qz (qf (Z1 (sz:=3) (bs:=40) 50 (.mk' Ybw kr kr) (by intro x;rfl) .is (.arr (l':=[(Nn l i)]) .t) (by simp only [Yb,Yp,Yx];omega) (by decide)) ⟨rfl,rfl,tv⟩ ⟨rfl,tv⟩ (qO rr qZ))))) V [16,15,14,9,8,7,2,1] [103,102,50,0] (fun _=>rfl) (fun _=>rfl) fun τ a w F O=>?_
   try dsimp only [RS.sub,SF.sub,CF.sub,csub,Anc.sub,List.map,Ze,xL,xM,Nat.reduceAdd,xD,xE,xT,xU,xC,xN,zCF,ldSF,Zs,rTx,ZB,Zaq,ZG,rOp] at O
   generalize τ 34=v34 at O
   refine Zm (Za (rZ O (qp r1 (qR rr qZ)) V [16,15,14,9,8,7,2,1] [103,102,50,0] fun O=>?_))
   replace O:=O.ent (i:=16) (s':=.pv (.int .i64 ((i+1:Nat):Int))) Z (.int (Zl ow))
   obtain ⟨F,O⟩:=O.nM [15,14,8,7,2,1,9,16] [0,50]
   exact ⟨((i+1),_,_),F,⟨by omega,hst9⟩,O,by omega⟩
  have h9:(ZO TxD.id was (TxD.id (Nn l i))).isNone=false:=by have h8:(!(ZO TxD.id was (TxD.id (Nn l i))).isSome)=false:=hc1;cases e:(ZO TxD.id was (TxD.id (Nn l i))) with | none=>rw [e] at h8;cases h8 | some z=>rfl
  have hst9:out=((l.take (i+1)).filter fun x=>(ZO TxD.id was (TxD.id x)).isNone):=by rw [hq,ZaM hil,Yc (by rw [h9];simp),YD]
  refine Yf (Zm (Za (rZ O (qp r1 (qR rr qZ)) V [16,15,14,9,8,7,2,1] [103,102,50,0] fun O=>?_)))
  replace O:=O.ent (i:=16) (s':=.pv (.int .i64 ((i+1:Nat):Int))) Z (.int (Zl ow))
  obtain ⟨F,O⟩:=O.nM [15,14,8,7,2,1,9,16] [0,50]
  exact ⟨((i+1),_,_),F,⟨by omega,hst9⟩,O,by omega⟩
 have hil:i=l.length:=by simp at hc0;omega
 have hq0:out=(l.filter fun x=>(ZO TxD.id was (TxD.id x)).isNone):=by rw [hq,hil,YM]
 have hg:Z7 TxD.id (out++now)=Zeo TxD.id l was now:=by rw [hq0];rfl
 refine Yr (Zj (Zj (Zv (Za (Ya (Zb O (qR rr (qR rr (qf (Z1 (sz:=3) (bs:=40) 50 (.mk' Ybw kr kr) (by intro x;rfl) .is (.sl .t) ow (by decide)) ⟨rfl,rfl,tv⟩ ⟨rfl,tv⟩ (qO rr qZ)))) V [9,8,7] [50,0] (fun _=>rfl) (fun _=>rfl) fun τ a w F O=>?_))))))
 try dsimp only [RS.sub,SF.sub,CF.sub,csub,Anc.sub,List.map,xC,xN,Zs,rTx,ZB,Zaq,ZG,rOp] at O
 generalize τ 38=v38 at O
 refine Za (Ya (rZ O (qR rr (qf (ZbX (Args.one .t)) r1 qz (qf (ZQ 50 (Zpy v38 (out++now) (by rw [Yb];omega) (by rw [hq0];exact hu) 179 f179 [.ref [.clos 77 []]] func179 Z kr (fun x y=>ZkL x y)) func178 Z kr (Args.two .t .t)) r2 r1 qZ))) V [9,8] [50,0] fun O=>Ya ?_))
 refine rZ O (qR rr (qO rr qZ)) V [8] [50,0] fun O=>Yi ?_
 obtain ⟨F,O⟩:=O.give 50 8 Z rfl
 refine ZP hfr O Z Z Z (.sl (by rw [hg]))
theorem ZkU (x y:Zr):FnP prog 181 [.agg (ZB x),.agg (ZB y),.ref [.clos 79 []]] (.int .i64 (Zcw (Zr.key x) (Zr.key y))):=by
 refine FnP.mk func181 Z ntmps181 Z fun B a w F V hfr O=>Ya ?_
 refine Zb O (qx 101 r1 (qx 102 r1 (qI qZ))) V [5,4,3,2] [102,101,0] (fun _=>rfl) (fun _=>rfl) fun τ a w F O=>?_
 try dsimp only [RS.sub,SF.sub,CF.sub,csub,Anc.sub,List.map,zCF,Zs,rTx,ZB,Zaq,ZG,rOp] at O
 generalize τ 3=v3,τ 4=v4 at O
 refine Za (Ya (Zq O (qf (oR false 1 .t) r1 qz (qe 2 101 r1 r1 (qf (o_callClosP (avs:=[.agg (ZB x)]) .t (ZgT x) func79 Z kr (Args.one (.pagg .t))) r2 qz (qf (oR false 1 .t) r1 qz (qe 2 102 r1 r1 (qf (o_callClosP (avs:=[.agg (ZB y)]) .t (ZgT y) func79 Z kr (Args.one (.pagg .t))) r2 qz (qf (oP (Zon (Zr.key x) (Zr.key y)) func108 (Args.two .t .t)) r2 qz (qO rr qZ)))))))) V [5] [102,101,0] Z Z fun a w F O=>?_))
 try dsimp only [List.map,xD,xE,xT,xU,ldSF,Zs,rTx,ZB,Zaq,ZG,rOp] at O
 refine Za (Yi (ZP hfr O Z Z Z (.int Z)))
theorem Zmx (l was now:List Zr) (hll:l.length≤1000) (hnl:now.length≤1000) (hu:Unl Zr.key ((l.filter fun x=>(ZO Zr.key was (Zr.key x)).isNone)++now)):FnP prog 114 [.sl ZB l,.sl ZB was,.sl ZB now,.clos 79 []] (.sl ZB (Zeo Zr.key l was now)):=by
 refine FnP.mk func114 Z ntmps114 Z fun B a w F V hfr O=>Ya ?_
 refine Zb O (qf (Zjy 101 .t ZjY) r1 qz (qC qZ)) V [8,7,2,1,0] [101,0] (fun _=>rfl) (fun _=>rfl) fun τ a w F O=>?_
 try dsimp only [RS.sub,SF.sub,CF.sub,csub,Anc.sub,List.map,zCF,Zs,rTx,ZB,Zaq,ZG,rOp] at O
 generalize τ 7=v7 at O
 obtain ⟨F,O⟩:=O.giveRef 101 7 Z Z rfl
 obtain ⟨F,O⟩:=O.nM [8,7,2,1,0] [0]
 try dsimp only [Go.Gm.unCF] at O
 refine Za (Ya (rZ O (qC qZ) V [9,8,7,2,1,0] [0] fun O=>(Ya (Ya ?_))))
 refine rZ O (qR rr (qu Ybx r1 (qJ qZ))) V [16,15,14,9,8,7,2,1] [0] fun O=>Ye ?_
 replace O:=O.fresh 50 rfl
 replace O:=O.turn 50 Z (ZaI (T:=39) (sz:=2) (R:=ZB))
 refine Zo (σ:=(Nat)×(Value)×(List Zr)) [1,2,7,8,14,15] [0] (fun s=>[(16,.pv (.int .i64 (s.1:Int))),(9,.pv (.is s.2.1))]) (fun s=>[(50,.ob (.val s.2.1) (ZJ 39 2 ZB s.2.2))]) (fun s=>s.1≤l.length∧(s.2.2=((l.take s.1).filter fun x=>(ZO Zr.key was (Zr.key x)).isNone))) (fun s=>l.length - s.1) ((0),(.slice none 0 0),([])) O ⟨rfl,rfl,rfl,rfl,rfl,rfl,rfl,rfl,tv⟩ ⟨rfl,rfl,tv⟩ ⟨Yz _,rfl⟩ ?_
 clear O;intro s a w F hC O
 obtain ⟨i,v,out⟩:=s
 try dsimp only at hC
 obtain ⟨F,O⟩:=O.nM [16,15,14,9,8,7,2,1] [50,0]
 try dsimp only at O
 obtain ⟨hi,hq⟩:=hC
 have hol:out.length≤i:=by rw [hq];exact Yac (Yaa _ _) (by rw [Yk];omega)
 refine Ya (rZ O (qL r2) V [17,16,15,14,9,8,7,2,1] [50,0] fun O=>Ya ?_)
 refine Zd O Z (fun hc0=>?_) (fun hc0=>?_)
 ·have hil:i<l.length:=by simp at hc0;omega
  refine Yf (Za (Ya (Ye (Ya (Zb O (qy 2 Ybx r2 (qf (oR true 2 .t) r1 qz (qf (oH [.int .i64 0,.slice none 0 0] 102) trivial qz (qS 2 102 r2 r1 qZ)))) V [16,15,14,11,9,8,7,2,1] [102,50,0] (fun _=>rfl) (fun _=>rfl) fun τ a w F O=>?_)))))
  try dsimp only [RS.sub,SF.sub,CF.sub,csub,Anc.sub,List.map,Ze,xL,xM,Nat.reduceAdd,xD,xE,xT,xU,xC,xN,zCF,ldSF,Zs,rTx,ZB,Zaq,ZG,rOp] at O
  generalize τ 11=v11 at O
  try simp only [Yg] at O
  refine Za (Ya (Zau O (qR rr (qf (oR false 1 .t) r1 qz (qe 2 102 r1 r1 (qf (o_callClosP (avs:=[.agg (ZB (Nn l i))]) .t (ZgT (Nn l i)) func79 Z kr (Args.one (.pagg .t))) r2 qz (qf (oR false 1 .t) r1 qz (qf (oP (Zg3 was (Zr.key (Nn l i))) func142 (Args.three .t .t .t)) r3 qz (qR rr (qf (o_extract .t Z) r1 qz (qf (o_extract .t Z) r1 qz (qf (oH [.int .i64 0,.slice none 0 0] 103) trivial qz (qf (oA 2 103 .same (.conv .t .agg)) r2 r1 (qO rr qZ)))))))))))) V [16,15,14,13,11,9,8,7,2,1] [103,102,50,0] (fun _=>rfl) (fun _=>rfl) fun τ a w F O=>?_))
  try dsimp only [RS.sub,SF.sub,CF.sub,csub,Anc.sub,List.map,Ze,xL,xM,Nat.reduceAdd,xD,xE,xT,xU,xC,xN,zCF,ldSF,Zs,rTx,ZB,Zaq,ZG,rOp] at O
  generalize τ 12=v12 at O
  refine Za (Ya (rZ O (qR rr (qf (ZaA .t) r1 qz qZ)) V [30,16,15,14,11,9,8,7,2,1] [103,102,50,0] fun O=>?_))
  refine Zd O Z (fun hc1=>?_) (fun hc1=>?_)
  ·have h9:(ZO Zr.key was (Zr.key (Nn l i))).isNone=true:=by have h8:(!(ZO Zr.key was (Zr.key (Nn l i))).isSome)=true:=hc1;cases e:(ZO Zr.key was (Zr.key (Nn l i))) with | none=>rfl | some z=>rw [e] at h8;cases h8
   have hst9:out ++ [(Nn l i)] = ((l.take (i+1)).filter fun x=>(ZO Zr.key was (Zr.key x)).isNone):=by rw [hq,ZaM hil,Yd h9]
   refine Zb O (qR rr (qe 2 102 r1 r1 (qf (Zy (sz:=2) (zs:=[.int .i64 0,.slice none 0 0]) (r:=[(0,.tmp 32)]) (l:=[_,_]) Ybx kr kr kr kr Z Z (.agg Z .t kr kr .nil) Z) r1 qz (qf (Z1 (sz:=2) (bs:=32) 50 (.mk' Ybx kr kr) (by intro x;rfl) .is (.arr (l':=[(Nn l i)]) .t) (by simp only [Yb,Yp,Yx];omega) (by decide)) ⟨rfl,rfl,tv⟩ ⟨rfl,tv⟩ (qO rr qZ))))) V [16,15,14,9,8,7,2,1] [103,102,50,0] (fun _=>rfl) (fun _=>rfl) fun τ a w F O=>?_
   try dsimp only [RS.sub,SF.sub,CF.sub,csub,Anc.sub,List.map,Ze,xL,xM,Nat.reduceAdd,xD,xE,xT,xU,xC,xN,zCF,ldSF,Zs,rTx,ZB,Zaq,ZG,rOp] at O
   generalize τ 34=v34 at O
   refine Zm (Za (rZ O (qp r1 (qR rr qZ)) V [16,15,14,9,8,7,2,1] [103,102,50,0] fun O=>?_))
   replace O:=O.ent (i:=16) (s':=.pv (.int .i64 ((i+1:Nat):Int))) Z (.int (Zl ow))
   obtain ⟨F,O⟩:=O.nM [15,14,8,7,2,1,9,16] [0,50]
   exact ⟨((i+1),_,_),F,⟨by omega,hst9⟩,O,by omega⟩
  have h9:(ZO Zr.key was (Zr.key (Nn l i))).isNone=false:=by have h8:(!(ZO Zr.key was (Zr.key (Nn l i))).isSome)=false:=hc1;cases e:(ZO Zr.key was (Zr.key (Nn l i))) with | none=>rw [e] at h8;cases h8 | some z=>rfl
  have hst9:out=((l.take (i+1)).filter fun x=>(ZO Zr.key was (Zr.key x)).isNone):=by rw [hq,ZaM hil,Yc (by rw [h9];simp),YD]
  refine Yf (Zm (Za (rZ O (qp r1 (qR rr qZ)) V [16,15,14,9,8,7,2,1] [103,102,50,0] fun O=>?_)))
  replace O:=O.ent (i:=16) (s':=.pv (.int .i64 ((i+1:Nat):Int))) Z (.int (Zl ow))
  obtain ⟨F,O⟩:=O.nM [15,14,8,7,2,1,9,16] [0,50]
  exact ⟨((i+1),_,_),F,⟨by omega,hst9⟩,O,by omega⟩
 have hil:i=l.length:=by simp at hc0;omega
 have hq0:out=(l.filter fun x=>(ZO Zr.key was (Zr.key x)).isNone):=by rw [hq,hil,YM]
 have hg:Z7 Zr.key (out++now)=Zeo Zr.key l was now:=by rw [hq0];rfl
 refine Yr (Zj (Zj (Zv (Za (Ya (Zb O (qR rr (qR rr (qf (Z1 (sz:=2) (bs:=32) 50 (.mk' Ybx kr kr) (by intro x;rfl) .is (.sl .t) ow (by decide)) ⟨rfl,rfl,tv⟩ ⟨rfl,tv⟩ (qO rr qZ)))) V [9,8,7] [50,0] (fun _=>rfl) (fun _=>rfl) fun τ a w F O=>?_))))))
 try dsimp only [RS.sub,SF.sub,CF.sub,csub,Anc.sub,List.map,xC,xN,Zs,rTx,ZB,Zaq,ZG,rOp] at O
 generalize τ 38=v38 at O
 refine Za (Ya (rZ O (qR rr (qf (ZbX (Args.one .t)) r1 qz (qf (ZQ 50 (Zpr v38 (out++now) (by rw [Yb];omega) (by rw [hq0];exact hu) 181 f181 [.ref [.clos 79 []]] func181 Z kr (fun x y=>ZkU x y)) func180 Z kr (Args.two .t .t)) r2 r1 qZ))) V [9,8] [50,0] fun O=>Ya ?_))
 refine rZ O (qR rr (qO rr qZ)) V [8] [50,0] fun O=>Yi ?_
 obtain ⟨F,O⟩:=O.give 50 8 Z rfl
 refine ZP hfr O Z Z Z (.sl (by rw [hg]))
theorem ZnT (t:TxD) (hl:t.ops.length≤1000000):FnP prog 157 [.agg (rTx t)] (.agg (rTx t)):=by
 refine FnP.mk func157 Z ntmps157 Z fun B a w F V hfr O=>Ya ?_
 refine Zb O (qx 101 r1 (qf (oH [.int .i64 0,.bool false,.slice none 0 0] 102) trivial qz qZ)) V [2,1] [102,101,0] (fun _=>rfl) (fun _=>rfl) fun τ a w F O=>?_
 try dsimp only [RS.sub,SF.sub,CF.sub,csub,Anc.sub,List.map,zCF,Zs,rTx,ZB,Zaq,ZG,rOp] at O
 generalize τ 1=v1,τ 2=v2 at O
 refine Za (Ya ?_)
 replace O:=O.fresh 103 rfl
 refine Zb O (qg 2 101 r1 r1 (qa 101 r1 r1 (qf (Zck 103 (ZjF t.ops hl) func86 Z kr (Args.one .t) ZeB) r1 r1 (qg 2 101 r1 r1 (qf (ZaU 101 .adr kr kr) r2 r1 qZ))))) V [2,1] [103,102,101,0] (fun _=>rfl) (fun _=>rfl) fun τ a w F O=>?_
 try dsimp only [RS.sub,SF.sub,CF.sub,csub,Anc.sub,List.map,Ze,xL,xM,Nat.reduceAdd,xD,xE,xT,xU,xC,xN,zCF,ldSF,Zs,rTx,ZB,Zaq,ZG,rOp] at O
 generalize τ 5=v5 at O
 obtain ⟨F,O⟩:=O.giveCell 103 101 2 Z Z Z Z rfl
 try dsimp only [List.set] at O
 obtain ⟨F,O⟩:=O.nM [2,1] [102,101,0]
 refine Za (Ya (rZ O (qe 3 101 r1 r1 (qs 3 102 r2 r1 qZ)) V [2] [102,101,0] fun O=>Yi ?_))
 refine Za4 hfr O Z (.cl 102 true 3 Z Z .nil) (.one (.aggU Z Z))
theorem Zp3 (g:ZS) (id:Int) (hs:Zca g.txs):FnP prog 258 [.agg (Zs g),.int .i64 id] (.tup [.agg (rTx ((ZdR g.txs id).getD zeroT)),.bool (ZdR g.txs id).isSome]):=by
 refine FnP.mk func258 Z ntmps258 Z fun B a w F V hfr O=>?_
 have hsl:=hs.1
 refine Ya (Zb O (qx 101 r1 (qf (oH [.int .i64 0,.bool false,.slice none 0 0] 102) trivial qz qB)) V [5,4,2,1] [102,101,0] (fun _=>rfl) (fun _=>rfl) fun τ a w F O=>?_)
 try dsimp only [RS.sub,SF.sub,CF.sub,csub,Anc.sub,List.map,zCF,Zs,rTx,ZB,Zaq,ZG,rOp] at O
 generalize τ 2=v2,τ 4=v4 at O
 refine Za (Ya (Ya (rZ O (qg 0 101 r1 r1 (qa 101 r1 r1 (qu Ybw r1 (qJ qZ)))) V [11,10,9,5,4,1] [102,101,0] fun O=>Ye ?_)))
 refine Zo (σ:=(Nat)) [1,4,5,9,10] [0,101,102] (fun s=>[(11,.pv (.int .i64 (s:Int)))]) (fun s=>[]) (fun s=>s≤g.txs.length∧(∀ k,k<s→(Nn g.txs k).id≠id)) (fun s=>g.txs.length - s) (0) O ⟨rfl,rfl,rfl,rfl,rfl,rfl,tv⟩ ⟨rfl,rfl,rfl,tv⟩ ⟨Yz _,fun k hk=>absurd hk (YR k)⟩ ?_
 clear O;intro i a w F hC O
 try dsimp only at hC
 obtain ⟨F,O⟩:=O.nM [11,10,9,5,4,1] [102,101,0]
 try dsimp only at O
 obtain ⟨hi,hq⟩:=hC
 refine Ya (rZ O (qL r2) V [12,11,10,9,5,4,1] [102,101,0] fun O=>Ya ?_)
 refine Zd O Z (fun hc0=>?_) (fun hc0=>?_)
 ·have hil:i<g.txs.length:=by simp at hc0;omega
  refine Yf (Za (Ya (Ye (Ya (Zb O (qy 3 Ybw r2 (qf (oR true 3 .t) r1 qz (qf (oH [.int .i64 0,.bool false,.slice none 0 0] 103) trivial qz (qS 3 103 r2 r1 qZ)))) V [11,10,9,7,5,4,1] [103,102,101,0] (fun _=>rfl) (fun _=>rfl) fun τ a w F O=>?_)))))
  try dsimp only [RS.sub,SF.sub,CF.sub,csub,Anc.sub,List.map,Ze,xL,xM,Nat.reduceAdd,xD,xE,xT,xU,xC,xN,zCF,ldSF,Zs,rTx,ZB,Zaq,ZG,rOp] at O
  generalize τ 7=v7 at O
  try simp only [Yg] at O
  refine Za (Ya (rZ O (qg 0 103 r1 r1 (qa 103 r1 r1 (qR rr (qf (o_eql .t .t) r2 qz qZ)))) V [18,11,10,9,7,5,4,1] [103,102,101,0] fun O=>?_))
  refine Zd O Z (fun hc1=>?_) (fun hc1=>?_)
  ·have hg:ZdR g.txs id=some (Nn g.txs i):=ZnC hil (by simpa using hc1) hq
   refine Ya (rZ O (qe 3 103 r1 r1 (qf (oP (ZnT (Nn g.txs i) (by have:=hs.at hil;omega)) func157 (Args.one (.pagg .t))) r1 qz (qf (oA 3 102 .is (.conv .t .agg)) r2 r1 qB))) V [11,10,9,5,4,1] [103,102,101,0] fun O=>(Yi (ZC (Zk (Zk (ZC (Zk ?_)))))))
   refine Za4 hfr O Z (.cl 102 true 3 Z Z (.tmp Z .nil)) (.two (by rw [hg];first | exact .aggU Z Z | exact .aggLe Z ⟨.refl,.refl,.nilSl,tv⟩) (.bool (by rw [hg];rfl)))
  have hne:(Nn g.txs i).id≠id:=by simpa using hc1
  refine Yf (Zm (Za (rZ O (qp r1 (qR rr qZ)) V [11,10,9,5,4,1] [103,102,101,0] fun O=>?_)))
  replace O:=O.ent (i:=11) (s':=.pv (.int .i64 ((i+1:Nat):Int))) Z (.int (Zl ow))
  obtain ⟨F,O⟩:=O.nM [10,9,5,4,1,11] [102,101,0]
  exact ⟨(i+1),F,⟨by omega,(fun k hk=>by rcases YG (YN hk) with h9 | h9;exact hq k h9;rw [h9];exact hne)⟩,O,by omega⟩
 have hil:i=g.txs.length:=by simp at hc0;omega
 have hg:ZdR g.txs id=none:=ZkS (by rw [← hil];exact hq)
 refine Yr (Zj (Zj (Zv (Za (Ya (rZ O (qf (oB [] [.int .i64 0,.bool false,.slice none 0 0] [(0,1),(1,1),(2,1)] .nil) trivial qz (qs 3 102 r2 r1 qB)) V [5,4] [102,101,0] fun O=>Yi ?_))))))
 refine Za4 hfr O Z (.cl 102 true 3 Z Z (.tmp Z .nil)) (.two (by rw [hg];first | exact .aggU Z Z | exact .aggLe Z ⟨.refl,.refl,.nilSl,tv⟩) (.bool (by rw [hg];rfl)))
theorem Zqj (g:ZS) (v:Zc9) (hs:Zca g.txs):FnP prog 211 [.agg (Zs g),.agg (Zaq v)] (.bool (Zor g v)):=by
 refine FnP.mk func211 Z ntmps211 Z fun B a w F V hfr O=>Ya ?_
 refine Zb O (qx 101 r1 (qx 102 r1 qB)) V [4,3,2] [102,101,0] (fun _=>rfl) (fun _=>rfl) fun τ a w F O=>?_
 try dsimp only [RS.sub,SF.sub,CF.sub,csub,Anc.sub,List.map,zCF,Zs,rTx,ZB,Zaq,ZG,rOp] at O
 generalize τ 2=v2,τ 3=v3 at O
 refine Za (Ya (Ya (rZ O (qg 0 102 r1 r1 (qa 102 r1 r1 (qf (o_eql .t qi) r1 qz (qR rr (qv 2 102 Z r2 r1 (qw 102 Z r2 r1 (qk Z (fun h=>o_eql (.w h) qi) r2 qz (qf (ZT .t .t) r2 qz qZ)))))))) V [14,4,3,2] [102,101,0] fun O=>?_)))
 refine Zd O Z (fun hc0=>?_) (fun hc0=>?_)
 ·have h0:(v.tx=0∧v.nth=0):=by simpa using hc0
  have hu:Zor g v=decide (1≤v.key∧v.key≤1048575):=by unfold Zor;rw [Yd h0]
  refine Ya (rZ O (qg 1 102 r1 r1 (qa 102 r1 r1 (qf (ZeG .t qi) r1 qz (qR rr (qv 1 102 Z r2 r1 (qw 102 Z r2 r1 (qk Z (fun h=>ZiO (.w h) qi) r2 qz (qf (ZT .t .t) r2 qz (qO rr qZ))))))))) V [4,3,2] [102,101,0] fun O=>(Yi (Zk ?_)))
  refine ZP hfr O Z Z Z (.bool (by first | (rw [hu,Bool.decide_and];done) | (rw [hu];unfold idB;rw [Bool.decide_and];done) | (unfold Zor wcnt;rw [Yc h0,Bool.and_assoc])))
 have h0:¬ (v.tx=0∧v.nth=0):=by simpa using hc0
 have hfl:((ZdR g.txs v.tx).getD zeroT).ops.length≤1000:=by cases hf:ZdR g.txs v.tx with | none=>simp [zeroT] | some t=>exact hs.2 _ (findT_mem hf).1
 refine Yf (Za (Ya (Zb O (qe 2 101 r1 r1 (qg 0 102 r1 r1 (qa 102 r1 r1 (qf (oP (Zp3 g v.tx hs) func258 (Args.two (.pagg .t) .t)) r2 qz (qR rr (qf (o_extract .t Z) r1 qz (qf (o_extract .t Z) r1 qz (qf (oH [.int .i64 0,.bool false,.slice none 0 0] 103) trivial qz (qf (oA 3 103 .same (.conv .t .agg)) r2 r1 (qO rr qZ)))))))))) V [6,5,4,3] [103,102,101,0] (fun _=>rfl) (fun _=>rfl) fun τ a w F O=>?_)))
 try dsimp only [RS.sub,SF.sub,CF.sub,csub,Anc.sub,List.map,Ze,xL,xM,Nat.reduceAdd,xD,xE,xT,xU,xC,xN,zCF,ldSF,Zs,rTx,ZB,Zaq,ZG,rOp] at O
 generalize τ 5=v5 at O
 refine Za (Ya (Zq O (qR rr (qR rr (qv 2 102 Z r2 r1 (qw 102 Z r2 r1 (qk Z (fun h=>ZeG (.w h) qi) r2 qz (qf (ZT .t .t) r2 qz (qR rr (qk Z (fun h=>oL true 3 103 .is) r2 r1 (qv 1 102 Z r2 r1 (qw 102 Z r2 r1 (qk Z (fun h=>oP (Zms ((ZdR g.txs v.tx).getD zeroT) v.key ow) func87 (Args.two (.pagg (.w h)) (.w h))) r3 qz (qv 2 102 Z r2 r1 (qw 102 Z r2 r1 (qk Z (fun h=>ZeG (.w h) (.w h)) r3 qz (qf (ZT .t .t) r2 qz (qO rr qZ)))))))))))))))) V [4] [103,102,101,0] Z Z fun a w F O=>?_))
 try dsimp only [List.map,xD,xE,xT,xU,ldSF,Zs,rTx,ZB,Zaq,ZG,rOp] at O
 refine Za (Yi (ZP hfr O Z Z Z (.bool (by first | (rw [hu,Bool.decide_and];done) | (rw [hu];unfold idB;rw [Bool.decide_and];done) | (unfold Zor wcnt;rw [Yc h0,Bool.and_assoc])))))
theorem ZlY {α:Type} [Inhabited α] {p:α→Bool} {l:List α} : decide (0≤Zbq p l)=l.any p:=by
 rcases Zio p l with ⟨h1,h2⟩ | ⟨i,h1,h2,h3,h4⟩
 ·rw [h1,Yab,show decide ((0:Int) ≤ -1)=false by decide,List.any_eq_false]
  intro x hx
  obtain ⟨k,hk,e⟩:=Y6 hx
  have:=h2 k hk
  rw [ZE hk,e] at this
  simp [this]
 ·rw [h1,show decide ((0:Int)≤(i:Int))=true by simp,Yab,List.any_eq_true]
  exact ⟨_,Z8 h2,h3⟩
theorem ZoG {α:Type} {p:α→Bool} {l:List α} : (!l.any fun v=>!p v)=l.all p:=by
 induction l with
 | nil=>rfl
 | cons x l ih=>rw [List.any_cons,List.all_cons,← ih];cases p x <;> simp
theorem Zpd (l : List Zc9) (p : Zc9 → Bool) (f : FuncId) (fn : Func) (cps : List PV) (hf : prog.funcs[f]? = some fn) (hb : fn.body.isSome = true) (hnn : (fn.name == "runtime.NumGoroutine") = false) (hw : ∀ x, FnP prog f (.agg (Zaq x) :: cps) (.bool (p x))) : FnP prog 257 [.sl Zaq l, .clos f cps] (.int .i64 (Zbq p l)) := by
 refine FnP.mk func257 Z ntmps257 Z fun B a w F V hfr O=>?_
 have hll:=Sat.lenSl O (i:=0) rfl
 refine Ya (rZ O (qI qZ) V [4,1,0] [0] fun O=>(Ya (Ya ?_)))
 refine rZ O (qR rr (qu underlying81 r1 (qJ qZ))) V [8,7,4,1,0] [0] fun O=>Ye ?_
 refine Zo (σ:=(Nat)) [0,1,4,7] [0] (fun s=>[(8,.pv (.int .i64 (s:Int)))]) (fun s=>[]) (fun s=>s≤l.length∧(∀ k,k<s→p (Nn l k)=false)) (fun s=>l.length - s) (0) O ⟨rfl,rfl,rfl,rfl,rfl,tv⟩ ⟨rfl,tv⟩ ⟨Yz _,fun k hk=>absurd hk (YR k)⟩ ?_
 clear O;intro i a w F hC O
 try dsimp only at hC
 obtain ⟨F,O⟩:=O.nM [8,7,4,1,0] [0]
 try dsimp only at O
 obtain ⟨hi,hq⟩:=hC
 refine Ya (rZ O (qL r2) V [9,8,7,4,1,0] [0] fun O=>Ya ?_)
 refine Zd O Z (fun hc0=>?_) (fun hc0=>?_)
 ·skip
  have hil:i<l.length:=by simp at hc0;omega
  refine Yf (Za (Ya (Ye (Ya (rZ O (qR rr (qO rr qZ)) V [8,7,5,4,1,0] [0] fun O=>Ya ?_)))))
  refine Zf O (qR rr (qR rr (qR rr (qy 3 underlying81 r2 (qf (oR true 3 .t) r1 qz (qf (o_callClosP (avs:=[.agg (Zaq (Nn l i))]) .t (hw (Nn l i)) hf hb hnn (Args.one (.pagg .t))) r2 qz qZ)))))) V [16,8,7,5,4,1,0] [0] Z Z fun a w F O=>?_
  try simp only [Yg] at O
  refine Za (Zd O Z (fun hc1=>?_) (fun hc1=>?_))
  ·skip
   have hg:(i:Int)=Zbq p l:=(ZkP hil hc1 hq).symm
   refine Ya (rZ O (qR rr (qO rr qZ)) V [8,7,4,1,0] [0] fun O=>(Yi (ZC (Zk (Zk (ZC (Zk ?_)))))))
   refine ZP hfr O Z Z Z (.int hg)
  have hne:p (Nn l i)=false:=hc1
  refine Yf (Zm (Za (rZ O (qp r1 (qR rr qZ)) V [8,7,4,1,0] [0] fun O=>?_)))
  replace O:=O.ent (i:=8) (s':=.pv (.int .i64 ((i+1:Nat):Int))) Z (.int (Zl ow))
  obtain ⟨F,O⟩:=O.nM [7,4,1,0,8] [0]
  exact ⟨(i+1),F,⟨by omega,(fun k hk=>by rcases YG (YN hk) with h | h;exact hq k h;rw [h];exact hne)⟩,O,by omega⟩
 have hil:i=l.length:=by simp at hc0;omega
 have hg : -1=Zbq p l:=(Zir fun k hk=>hq k (by simp at hc0;omega)).symm
 refine Yr (Zj (Zj (Zv (Za (Ya (rZ O (qI qZ) V [4] [0] fun O=>Yi ?_))))))
 refine ZP hfr O Z Z Z (.int hg)
theorem Zo8 (l : List Zc9) (p : Zc9 → Bool) (f : FuncId) (fn : Func) (cps : List PV) (hf : prog.funcs[f]? = some fn) (hb : fn.body.isSome = true) (hnn : (fn.name == "runtime.NumGoroutine") = false) (hw : ∀ x, FnP prog f (.agg (Zaq x) :: cps) (.bool (p x))) : FnP prog 209 [.sl Zaq l, .clos f cps] (.bool (l.any p)) := by
 refine FnP.mk func209 Z ntmps209 Z fun B a w F V hfr O=>Ya ?_
 refine rZ O qB V [4,1,0] [0] fun O=>Ya ?_
 refine rZ O (qR rr (qR rr (qf (oP (Zpd l p f fn cps hf hb hnn hw) func257 (Args.two .t .t)) r2 qz (qf (ZeG .t qi) r1 qz (qO rr qZ))))) V [4] [0] fun O=>Yi ?_
 refine ZP hfr O Z Z Z (.bool (by rw [ZlY]))
theorem ZmP (v:Zc9) (g:ZS) (hs:Zca g.txs):FnP prog 210 [.agg (Zaq v),.ref (Zs g)] (.bool (!Zor g v)):=by
 refine FnP.mk func210 Z ntmps210 Z fun B a w F V hfr O=>Ya ?_
 refine Zb O (qx 101 r1 qB) V [3,2,1] [101,0] (fun _=>rfl) (fun _=>rfl) fun τ a w F O=>?_
 try dsimp only [RS.sub,SF.sub,CF.sub,csub,Anc.sub,List.map,zCF,Zs,rTx,ZB,Zaq,ZG,rOp] at O
 generalize τ 2=v2 at O
 refine Za (Ya (rZ O (qf (oR true 2 .t) r1 qz (qe 3 101 r1 r1 (qf (oP (Zqj g v hs) func211 (Args.two (.pagg .t) (.pagg .t))) r2 qz (qf (ZaA .t) r1 qz (qO rr qZ))))) V [3] [101,0] fun O=>Yi ?_))
 refine ZP hfr O Z Z Z .refl
theorem ZnF (g:ZS) (t:TxD) (hs:Zca g.txs) (ht:t.ops.length≤1000):FnP prog 139 [.agg (Zs g),.agg (rTx t)] (.bool (Zop g t)):=by
 refine FnP.mk func139 Z ntmps139 Z fun B a w F V hfr O=>Ya ?_
 refine Zb O (qx 101 r1 (qx 102 r1 qB)) V [4,3,2] [102,101,0] (fun _=>rfl) (fun _=>rfl) fun τ a w F O=>?_
 try dsimp only [RS.sub,SF.sub,CF.sub,csub,Anc.sub,List.map,zCF,Zs,rTx,ZB,Zaq,ZG,rOp] at O
 generalize τ 2=v2,τ 3=v3 at O
 refine Za (Ya (Za0 2 O kr (cG Z (oL true 3 102 .is) r1 r1 (cG Z (oP (ZmO t ow) func84 (Args.one (.pagg .t))) r1 trivial Zal.nil)) kr (by rw [V];kernel_rfl) fun a w F O=>?_))
 obtain ⟨F,O⟩:=O.nM [6,4,2] [102,101,0]
 try dsimp only [List.map,xD,xE,xT,xU,ldSF,Zs,rTx,ZB,Zaq,ZG,rOp] at O
 obtain ⟨F,O⟩:=O.giveRef 101 2 Z Z rfl
 obtain ⟨F,O⟩:=O.nM [6,4,2] [102,0]
 try dsimp only [Go.Gm.unCF] at O
 refine Zbn O kr (cG Z (ZbX (Args.one .t)) r1 trivial (cG Z (oP (Zo8 (Zlx t) (fun v=>!Zor g v) 210 f210 [.ref (Zs g)] func210 Z kr (fun v=>ZmP v g hs)) func209 (Args.two .t .t)) r2 trivial (cG Z (ZaA .t) r1 trivial (cG Z (oN .t) r1 trivial Zal.nil)))) kr (by rw [V];kernel_rfl) fun a w F O=>?_
 obtain ⟨F,O⟩:=O.nM [4] [102,0]
 try dsimp only [Zs,rTx,ZB,Zaq,ZG,rOp] at O
 refine Za (Yi (ZP hfr O Z Z Z (.bool (by rw [ZoG];rfl))))
theorem Zlp (g:ZS) (hs:Zca g.txs):FnG prog 140 1 [.agg (Zs g)] [.star []] (PV.one) (fun v=>[HP.ex fun s:List (GE Int (List Int))×Nat=>HP.and (WrL s.1 g.txs) (mapG (fun l:List Int=>PV.sl ZG l) (fun _=>True) (fun n:Int=>Value.int .i64 n) s.1 s.2 v)]):=by
 refine FnG.mk func140 Z ntmps140 Z kr fun B F0 a w F V hG O=>?_
 have hsl:=hs.1
 obtain ⟨F,O⟩:=O.nM [0] [0]
 refine Ya (Zb O (qx 101 r1 (qC qZ)) V [2,1] [101,0] (fun _=>rfl) (fun _=>rfl) fun τ a w F O=>?_)
 try dsimp only [RS.sub,SF.sub,CF.sub,csub,Anc.sub,List.map,zCF,Zs,rTx,ZB,Zaq,ZG,rOp] at O
 generalize τ 1=v1 at O
 refine Za (Ya (Zb O (qf (Zb7 (ek:=(fun p:Value×List Int=>PV.is p.1)) (ok:=(fun _=>True)) (kv:=(fun n:Int=>Value.int .i64 n)) 102) trivial qz (qO rr qZ)) V [3,2,1] [102,101,0] (fun _=>rfl) (fun _=>rfl) fun τ a w F O=>?_))
 try dsimp only [RS.sub,SF.sub,CF.sub,csub,Anc.sub,List.map,Ze,xL,xM,Nat.reduceAdd,xD,xE,xT,xU,xC,xN,zCF,Zs,rTx,ZB,Zaq,ZG,rOp] at O
 generalize τ 8=v8 at O
 replace O:=O.fresh 60 rfl
 replace O:=O.turn 60 Z (r':=ZnQ 3 1 ZG ([]:List (GE Int (Value×List Int)))) (fun _ _ _ _ h=>h)
 obtain ⟨F,O⟩:=O.nM [3,2,1] [102,101,60,0]
 refine Za (Ya (Ya (rZ O (qg 0 101 r1 r1 (qa 101 r1 r1 (qu Ybw r1 (qJ qZ)))) V [12,11,10,3,2] [102,101,60,0] fun O=>Ye ?_)))
 refine Zo (σ:=(Nat)×(List (GE Int (Value×List Int)))×(Nat)) [2,3,10,11] [0,101] (fun s=>[(12,.pv (.int .i64 (s.1:Int)))]) (fun s=>[(102,.ob (.val v8) (mapG (fun p:Value×List Int=>PV.is p.1) (fun _=>True) (fun n:Int=>Value.int .i64 n) s.2.1 s.2.2)),(60,ZnQ 3 1 ZG s.2.1)]) (fun s=>s.1≤g.txs.length∧(WrV s.2.1 (g.txs.take s.1) 0 [])) (fun s=>g.txs.length - s.1) ((0),([]),(0)) O ⟨rfl,rfl,rfl,rfl,rfl,tv⟩ ⟨rfl,rfl,rfl,rfl,tv⟩ ⟨Yz _,ZoZ⟩ ?_
 clear O;intro s a w F hC O
 obtain ⟨i,es,ck⟩:=s
 try dsimp only at hC
 obtain ⟨F,O⟩:=O.nM [12,11,10,3,2] [102,101,60,0]
 try dsimp only at O
 obtain ⟨hi,hq⟩:=hC
 have hxl:=fun hil:i<g.txs.length=>hs.at hil
 refine Ya (rZ O (qL r2) V [13,12,11,10,3,2] [102,101,60,0] fun O=>Ya ?_)
 refine Zd O Z (fun hc0=>?_) (fun hc0=>?_)
 ·have hil:i<g.txs.length:=by simp at hc0;omega
  have hio:=hil
  have hw0:=hq
  have htl:=hxl hil
  have hkt:=Zh9 (Nn g.txs i)
  have hsl:=hs.1
  refine Yf (Za (Ya (Ye (Ya (Zb O (qy 3 Ybw r2 (qf (oR true 3 .t) r1 qz (qf (oH [.int .i64 0,.bool false,.slice none 0 0] 103) trivial qz (qS 3 103 r2 r1 qZ)))) V [12,11,10,5,3,2] [103,102,101,60,0] (fun _=>rfl) (fun _=>rfl) fun τ a w F O=>?_)))))
  try dsimp only [RS.sub,SF.sub,CF.sub,csub,Anc.sub,List.map,Ze,xL,xM,Nat.reduceAdd,xD,xE,xT,xU,xC,xN,zCF,ldSF,Zs,rTx,ZB,Zaq,ZG,rOp] at O
  generalize τ 5=v5 at O
  try simp only [Yg] at O
  refine Za (Ya (Ya (rZ O (qg 1 103 r1 r1 (qa 103 r1 r1 (qf (ZaA .t) r1 qz qZ))) V [18,12,11,10,5,3,2] [103,102,101,60,0] fun O=>?_)))
  refine Zd O Z (fun hc1=>?_) (fun hc1=>?_)
  ·have hdn:(Nn g.txs i).done=false:=by simpa using hc1
   obtain ⟨es2,he2⟩:∃ z,z=es:=⟨_,rfl⟩
   obtain ⟨ck2,hc2⟩:∃ z,z=ck:=⟨_,rfl⟩
   have hR2:WrV es2 (g.txs.take (i+1)) 0 []:=by rw [he2];exact Zpk hw0 hio hdn
   rw [← he2,← hc2] at O
   refine Yr (Zj (Zv (Za (rZ O (qp r1 (qR rr qZ)) V [12,11,10,3,2] [103,102,101,60,0] fun O=>?_))))
   replace O:=O.ent (i:=12) (s':=.pv (.int .i64 ((i+1:Nat):Int))) Z (.int (Zl ow))
   obtain ⟨F,O⟩:=O.nM [11,10,3,2,12] [101,0,60,102]
   exact ⟨((i+1),(es2),(ck2)),F,⟨by omega,hR2⟩,O,by omega⟩
  have hdn:(Nn g.txs i).done=true:=by simpa using hc1
  refine Yf (Za (Ya (Zf O (qe 3 103 r1 r1 (qf (oP (Zo7 (Nn g.txs i) (by have:=hxl hio;omega)) func82 (Args.one (.pagg .t))) r1 qz (qu Yby r1 (qJ qZ)))) V [22,21,20,12,11,10,5,3,2] [103,102,101,60,0] Z Z fun a w F O=>?_)))
  rw [show ZeH (((Nn g.txs i).ops.filter fun o=>!o.read).map OpD.key)=ZbJ (Nn g.txs i) from rfl] at O
  refine Za (Ye (Zo (σ:=(Nat)×(List (GE Int (Value×List Int)))×(Nat)) [2,3,5,10,11,12,20,21] [0,101,103] (fun s=>[(22,.pv (.int .i64 (s.1:Int)))]) (fun s=>[(102,.ob (.val v8) (mapG (fun p:Value×List Int=>PV.is p.1) (fun _=>True) (fun n:Int=>Value.int .i64 n) s.2.1 s.2.2)),(60,ZnQ 3 1 ZG s.2.1)]) (fun s=>s.1≤(ZbJ (Nn g.txs i)).length∧(WrV s.2.1 (g.txs.take i) (Nn g.txs i).id ((ZbJ (Nn g.txs i)).take s.1))) (fun s=>(ZbJ (Nn g.txs i)).length - s.1) ((0),(es),(ck)) O ⟨rfl,rfl,rfl,rfl,rfl,rfl,rfl,rfl,rfl,tv⟩ ⟨rfl,rfl,rfl,rfl,rfl,tv⟩ ⟨Yz _,(by simpa using Znz hw0)⟩ ?_))
  clear O;intro s a w F hC O
  obtain ⟨j,es,ck⟩:=s
  try dsimp only at hC
  obtain ⟨F,O⟩:=O.nM [22,21,20,12,11,10,5,3,2] [103,102,101,60,0]
  try dsimp only at O
  obtain ⟨hi,hq⟩:=hC
  refine Ya (rZ O (qL r2) V [23,22,21,20,12,11,10,5,3,2] [103,102,101,60,0] fun O=>Ya ?_)
  refine Zd O Z (fun hc2=>?_) (fun hc2=>?_)
  ·have hil:j<(ZbJ (Nn g.txs i)).length:=by simp at hc2;omega
   have hwo:=Zox hq (Ze3 _) hil
   have hwn:=Zez (g.txs.take i) (Nn (ZbJ (Nn g.txs i)) j)
   rw [Yk] at hwn
   rw [← hwo] at hwn
   refine Yf (Za (Ya (Ye (Ya (Zf O (qy 1 Yby r2 (qf (oR false 1 .t) r1 qz (qO rr qZ))) V [22,21,20,12,11,10,7,5,3,2] [103,102,101,60,0] Z Z fun a w F O=>?_)))))
   try simp only [Yg] at O
   refine Za (Za0 5 O kr (cG Z (oM .t) r1 trivial (cG Z (oM .t) r1 trivial (cG Z (oM .t) r1 trivial (cG Z (oM .t) r1 trivial (cG Z (Zaw (ek:=(fun p:Value×List Int=>PV.is p.1)) (z0:=ZgW) 102 underlying127 (Zc3 YbA) kr (fun _ _=>⟨rfl,rfl⟩) .is (ZX.int .t Z)) r2 r1 Zal.nil))))) kr (by rw [V];kernel_rfl) fun a w F O=>?_)
   obtain ⟨F,O⟩:=O.nM [30,27,26,22,21,20,12,11,10,5,3,2] [103,102,101,60,0]
   try dsimp only [Zs,rTx,ZB,Zaq,ZG,rOp] at O
   obtain ⟨F,O⟩:=O.takeKey (T:=3) (sz:=1) (R:=ZG) 60 61 (Nn (ZbJ (Nn g.txs i)) j) Z rfl
   obtain ⟨F,O⟩:=O.nM [30,27,26,22,21,20,12,11,10,5,3,2] [103,102,101,61,60,0]
   refine ZhJ 4 O kr (cG Z (oF 0 103 .is) r1 r1 (cG Z (oL false 1 103 .adr) r1 r1 (cG Z (Zy (sz:=1) (zs:=[.int .i64 0]) (r:=[(0,.tmp 32)]) (l:=[_]) Yby kr kr kr kr Z Z (.one Z .t one_int kr .nil) Z) r1 trivial (cG Z (Z1 (sz:=1) (bs:=8) 61 (.mk' Yby kr kr) (by intro x;rfl) .is (.arr (l':=[_]) .t) (by simp only [Yb,Yp,Yx];omega) (by decide)) ⟨rfl,rfl,tv⟩ ⟨rfl,tv⟩ Zal.nil)))) kr (by rw [V];kernel_rfl) fun a w F O=>?_
   replace O:=O.sub
   obtain ⟨F,O⟩:=O.nM [34,27,26,22,21,20,12,11,10,5,3,2] [103,102,101,61,60,0]
   try dsimp only [RS.sub,SF.sub,CF.sub,csub,Anc.sub,List.map,Ze,xL,xM,Nat.reduceAdd,xD,xE,xT,xU,xC,xN,zCF,ldSF,Zs,rTx,ZB,Zaq,ZG,rOp] at O
   generalize Act.tau a 34=v34 at O
   refine Zbn O kr (cG Z (Za3 (ek:=(fun p:Value×List Int=>PV.is p.1)) (v:=((v34,((gGet (Nn (ZbJ (Nn g.txs i)) j) es).getD ZgW).2 ++ [(Nn g.txs i).id]):Value×List Int)) 102 underlying127 (Zc3 YbA) .is (ZX.int .t Z) .t) r3 r1 Zal.nil) kr (by rw [V];kernel_rfl) fun a w F O=>?_
   obtain ⟨F,O⟩:=O.nM [22,21,20,12,11,10,5,3,2] [103,102,101,61,60,0]
   try dsimp only [Zs,rTx,ZB,Zaq,ZG,rOp] at O
   refine Zm (Za (rZ O (qp r1 (qR rr qZ)) V [22,21,20,12,11,10,5,3,2] [103,102,101,61,60,0] fun O=>?_))
   obtain ⟨F,O⟩:=O.putKey (T:=3) (sz:=1) (R:=ZG) 60 61 (Nn (ZbJ (Nn g.txs i)) j) ck Z Z rfl
   replace O:=O.ent (i:=22) (s':=.pv (.int .i64 ((j+1:Nat):Int))) Z (.int (Zl ow))
   obtain ⟨F,O⟩:=O.nM [21,20,12,11,10,5,3,2,22] [103,101,0,60,102]
   exact ⟨((j+1),((gPut (Nn (ZbJ (Nn g.txs i)) j) (v34,((gGet (Nn (ZbJ (Nn g.txs i)) j) es).getD ZgW).2 ++ [(Nn g.txs i).id]) (es,ck)).1),((gPut (Nn (ZbJ (Nn g.txs i)) j) (v34,((gGet (Nn (ZbJ (Nn g.txs i)) j) es).getD ZgW).2 ++ [(Nn g.txs i).id]) (es,ck)).2)),F,⟨by omega,ZoQ hq (Ze3 _) hil⟩,O,by omega⟩
  have hil:j=(ZbJ (Nn g.txs i)).length:=by simp at hc2;omega
  obtain ⟨es2,he2⟩:∃ z,z=es:=⟨_,rfl⟩
  obtain ⟨ck2,hc2⟩:∃ z,z=ck:=⟨_,rfl⟩
  rw [hil,YM] at hq
  have hR2:WrV es2 (g.txs.take (i+1)) 0 []:=by rw [he2];exact ZoY hq hio hdn
  rw [← he2,← hc2] at O
  refine Yr (Zj (Zj (Zv (Zm (Za (rZ O (qp r1 (qR rr qZ)) V [12,11,10,3,2] [103,102,101,60,0] fun O=>?_))))))
  replace O:=O.ent (i:=12) (s':=.pv (.int .i64 ((i+1:Nat):Int))) Z (.int (Zl ow))
  obtain ⟨F,O⟩:=O.nM [11,10,3,2,12] [101,0,60,102]
  exact ⟨((i+1),(es2),(ck2)),F,⟨by omega,hR2⟩,O,by omega⟩
 have hil:i=g.txs.length:=by simp at hc0;omega
 have hwl:=Zny hq
 rw [hil,YM] at hwl
 refine Yr (Zj (Zj (Zv (Za (Ya (rZ O (qR rr (qO rr qZ)) V [2] [102,101,60,0] fun O=>Yi ?_))))))
 obtain ⟨F,O⟩:=O.giveMap 102 60 Z Z rfl
 obtain ⟨F,O⟩:=O.rename 102 1 Z rfl
 have O:=O.turn 1 Z (r':=RS.hp (HP.ex fun s:List (GE Int (List Int))×Nat=>HP.and (WrL s.1 g.txs) (mapG (fun l:List Int=>PV.sl ZG l) (fun _=>True) (fun n:Int=>Value.int .i64 n) s.1 s.2 v8))) (fun _ _ _ _ h=>⟨(ZeF es,ck),hwl,h⟩)
 refine Zdd (h':=fun v=>HP.ex fun s:List (GE Int (List Int))×Nat=>HP.and (WrL s.1 g.txs) (mapG (fun l:List Int=>PV.sl ZG l) (fun _=>True) (fun n:Int=>Value.int .i64 n) s.1 s.2 v)) hG O Z (.tmp Z .nil) (.one .one) rfl
end Go.Proofs.YtfecljadegkmdaaGreat
