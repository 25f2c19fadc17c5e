/- Laws and walks. No condition beyond what each says. -/
import Derived.Test.YtfecljadegkmdaaGreatJ2
namespace Go.Proofs.YtfecljadegkmdaaGreat
open Go Go.Gm Tryz
set_option linter.unusedVariables false
set_option linter.unusedSimpArgs false
set_option maxHeartbeats 4000000
set_option maxRecDepth 8000
theorem Zt2 (v:Value) (l:List OrdD) (ka kb kn:Nat) (hll:l.length≤1000000) (h1:ka+kn≤kb) (h2:kb+kn≤l.length) (f:FuncId) (cps:List PV):FnG prog 283 1 [.is v,.int .i64 ka,.int .i64 kb,.int .i64 kn,.clos f cps] [ZO 39 2 Zv l v] (.tup []) (fun _=>[ZO 39 2 Zv (Zd9 l ka kb kn) v]):=by
 refine FnG.mk func283 Z ntmps283 Z kr fun B F0 a w F V hG O=>?_
 replace O:=O.turn 1 Z (r':=.ob (.val v) (ZO 39 2 Zv l)) (fun _ _ _ _ h=>h)
 refine Ya (rZ O (qI qZ) V [10,3,2,1,0] [1,0] fun O=>Ye ?_)
 have hc0:0≤kn∧l=Zd9 l ka kb 0:=⟨Yt _,(Zkk ow ow).symm⟩
 refine Zk (σ:=Nat×List OrdD) [0,1,2,3] [0] (fun s=>[(10,.pv (.int .i64 (s.1:Int)))]) (fun s=>[(1,.ob (.val v) (ZO 39 2 Zv s.2))]) (fun s=>s.1≤kn∧s.2=Zd9 l ka kb s.1) (fun s=>kn - s.1) ((0),(l)) O ⟨rfl,rfl,rfl,rfl,rfl,tv⟩ ⟨rfl,rfl,tv⟩ hc0 ?_
 clear O;intro s a w F hC O
 obtain ⟨i,l1⟩:=s
 try dsimp only at hC
 obtain ⟨F,O⟩:=O.nM [10,3,2,1,0] [1,0]
 try dsimp only at O
 obtain ⟨hin,hl1⟩:=hC
 have hn1:l1.length=l.length:=by rw [hl1];exact Zcg ow ow
 have hwa:IntKind.wrap .i64 ((ka:Int)+(i:Int))=((ka+i:Nat):Int):=by rw [Zj ow];omega
 have hwb:IntKind.wrap .i64 ((kb:Int)+(i:Int))=((kb+i:Nat):Int):=by rw [Zj ow];omega
 refine Ya (Ya (rZ O (qR rr (qR rr (qL r2))) V [13,10,3,2,1,0] [1,0] fun O=>?_))
 refine Zc O Z (fun hc0=>?_) (fun hc0=>?_)
 ·have hil:i<kn:=by simp at hc0;omega
  refine Yd (Za (Ya (Ye (Zu O (qR rr (qR rr (qR rr (qf (o_add .t .t) r2 qz (qR rr (qR rr (qR rr (qf (o_add .t .t) r2 qz (qR rr (qR rr (qR rr (qf (o_add .t .t) r2 qz (qf (o_indexAddr_row (sz:=2) 1 (.mk YbQ kr) .is .t (by rw [hwb];omega) (by rw [hwb];omega) (by rfl)) r2 r1 (qf (Zt (ag:=true) (sz':=2) (sz:=2) 1 .t (by intro x;rfl) (by rw [hwb];omega) kr kr kr) r1 r1 (qR rr (qR rr (qR rr (qf (o_add .t .t) r2 qz (qf (o_indexAddr_row (sz:=2) 1 (.mk YbQ kr) .is .t (by rw [hwa];omega) (by rw [hwa];omega) (by rfl)) r2 r1 (qf (Zt (ag:=true) (sz':=2) (sz:=2) 1 .t (by intro x;rfl) (by rw [hwa];omega) kr kr kr) r1 r1 (qf (o_indexAddr_row (sz:=2) 1 (.mk YbQ kr) .is .t (by rw [hwa];omega) (by rw [hwa];omega) (by rfl)) r2 r1 (qf (Z0 (sz:=2) 1 .t (by intro x;rfl) (by rw [hwa];omega) (.conv .t (Ent.aggU (l:=Zv (Nn l1 (IntKind.wrap .i64 ((kb:Int)+(i:Int))).toNat)) Z Z)) kr) r2 r1 (qf (o_indexAddr_row (sz:=2) 1 (.mk YbQ kr) .is .t (by rw [hwb];omega) (by rw [YN,hwb];omega) (by rfl)) r2 r1 (qf (Z0 (sz:=2) 1 .t (by intro x;rfl) (by rw [YN,hwb];omega) (.conv .t (Ent.aggU (l:=Zv (Nn l1 (IntKind.wrap .i64 ((ka:Int)+(i:Int))).toNat)) Z Z)) kr) r2 r1 qZ)))))))))))))))))))))))) V [10,3,2,1,0] [1,0] Z Z fun a w F O=>?_))))
  try dsimp only [List.map,Zd,xL,xM,Nat.reduceAdd,xD,xE,xT,xU,xC,xN,zCF,ldSF,Zv] at O
  try simp only [Yg] at O
  rw [hwa,hwb] at O
  simp only [Yg] at O
  obtain ⟨l2,hl2⟩:∃ z,z=Zd9 l ka kb (i+1):=⟨_,rfl⟩
  rw [show (l1.set (ka+i) (Nn l1 (kb+i))).set (kb+i) (Nn l1 (ka+i))=l2 from by rw [hl2,← ZjJ (n:=kn) hil h1 h2,← hl1];rfl] at O
  refine Zi (Za (rZ O (qR rr (qp r1 (qO rr qZ))) V [10,3,2,1,0] [1,0] fun O=>?_))
  replace O:=O.ent (i:=10) (s':=.pv (.int .i64 ((i+1:Nat):Int))) Z (.int (Ze ow))
  obtain ⟨F,O⟩:=O.nM [3,2,1,0,10] [0,1]
  exact ⟨((i+1),(l2)),F,⟨by omega,hl2⟩,O,by omega⟩
 have hg:Zd9 l ka kb kn=l1:=by rw [hl1,show i=kn by simp at hc0;omega]
 refine Ym (Zg (Zg (Zo ?_)))
 have O:=O.turn 1 Z (r':=RS.hp (ZO 39 2 Zv (Zd9 l ka kb kn) v)) (fun _ _ _ _ h=>by rw [hg];exact h)
 refine ZE hG O Z .nil .none rfl
theorem Zua (v : Value) (l : List OrdD) (ka kb : Nat) (hll : l.length ≤ 1000000) (h1 : ka ≤ kb) (h2 : kb ≤ l.length) (hu : Unl OrdD.key l) (f : FuncId) (fn : Func) (cps : List PV) (hf : prog.funcs[f]? = some fn) (hbd : fn.body.isSome = true) (hnn : (fn.name == "runtime.NumGoroutine") = false) (hw : ∀ x y : OrdD, FnP prog f (.agg (Zv x) :: .agg (Zv y) :: cps) (.int .i64 (Zdl (OrdD.key x) (OrdD.key y)))) : FnG prog 274 1 [.is v, .int .i64 ka, .int .i64 kb, .clos f cps] [ZO 39 2 Zv l v] (.tup []) (fun _ => [ZO 39 2 Zv (Zw OrdD.key l ka kb) v]) := by
 refine FnG.mk func274 Z ntmps274 Z kr fun B F0 a w F V hG O=>?_
 replace O:=O.turn 1 Z (r':=.ob (.val v) (ZO 39 2 Zv l)) (fun _ _ _ _ h=>h)
 refine Ya (rZ O (qR rr (qp r1 (qO rr qZ))) V [8,3,2,1,0] [1,0] fun O=>Ye ?_)
 have hc0:ka<ka+1∧(ka+1≤kb∧l=Zw OrdD.key l ka (ka+1)∨kb≤ka∧l=l):=⟨by omega,by rcases Yag ka kb with h | h;exact .inl ⟨h,(sortSeg_one l ow).symm⟩;exact .inr ⟨h,rfl⟩⟩
 replace O:=O.ent (i:=8) (s':=.pv (.int .i64 ((ka+1:Nat):Int))) Z (.int (Ze ow))
 refine Zk (σ:=Nat×List OrdD) [0,1,2,3] [0] (fun s=>[(8,.pv (.int .i64 (s.1:Int)))]) (fun s=>[(1,.ob (.val v) (ZO 39 2 Zv s.2))]) (fun s=>ka<s.1∧(s.1≤kb∧s.2=Zw OrdD.key l ka s.1∨kb≤ka∧s.2=l)) (fun s=>kb - s.1) ((ka+1),(l)) O ⟨rfl,rfl,rfl,rfl,rfl,tv⟩ ⟨rfl,rfl,tv⟩ hc0 ?_
 clear O;intro s a w F hC O
 obtain ⟨i,l1⟩:=s
 try dsimp only at hC
 obtain ⟨F,O⟩:=O.nM [8,3,2,1,0] [1,0]
 try dsimp only at O
 obtain ⟨hai,hq⟩:=hC
 refine Ya (Ya (rZ O (qR rr (qR rr (qL r2))) V [14,8,3,2,1,0] [1,0] fun O=>?_))
 refine Zc O Z (fun hc0=>?_) (fun hc0=>?_)
 ·skip
  have hib:i<kb:=by simp at hc0;omega
  have hl1:l1=Zw OrdD.key l ka i:=by rcases hq with hq | hq;exact hq.2;omega
  have hn1:l1.length=l.length:=by rw [hl1];exact Z9 ow
  refine Yd (Za (Ya (Ye (Ya (rZ O (qR rr (qO rr qZ)) V [9,8,3,2,1,0] [1,0] fun O=>Ye ?_)))))
  have hc1:ka≤i∧i≤i∧l1=Zf6 l1 i i ∧ ∀ q,i≤q→q<i→OrdD.key (Nn l1 i)<OrdD.key (Nn l1 q):=⟨by omega,YA _,(ZeT ow).symm,fun q h1 h2=>by omega⟩
  refine Zk (σ:=Nat×List OrdD) [0,1,2,3,8] [0] (fun s=>[(9,.pv (.int .i64 (s.1:Int)))]) (fun s=>[(1,.ob (.val v) (ZO 39 2 Zv s.2))]) (fun s=>ka≤s.1∧s.1≤i∧s.2=Zf6 l1 s.1 i ∧ ∀ q,s.1≤q→q<i→OrdD.key (Nn l1 i)<OrdD.key (Nn l1 q)) (fun s=>s.1) ((i),(l1)) O ⟨rfl,rfl,rfl,rfl,rfl,rfl,tv⟩ ⟨rfl,rfl,tv⟩ hc1 ?_
  clear O;intro s a w F hC O
  obtain ⟨j,l2⟩:=s
  try dsimp only at hC
  obtain ⟨F,O⟩:=O.nM [9,8,3,2,1,0] [1,0]
  try dsimp only at O
  obtain ⟨haj,hji,hl2,hgt⟩:=hC
  have hn2:l2.length=l.length:=by rw [hl2,Zce hji ow];exact hn1
  have hx0:Nn l2 j=Nn l1 i:=by rw [hl2,Zcc hji ow,Yf rfl]
  have hx1:ka<j→Nn l2 (j - 1)=Nn l1 (j - 1):=fun h=>by rw [hl2,Zcc hji ow,Yb ow,Yb ow]
  have hwj:ka<j→IntKind.wrap .i64 ((j:Int) - 1)=((j - 1:Nat):Int):=fun h=>by rw [Zj ow];omega
  refine Ya (Ya (Zu O (qR rr (qR rr (qf (Zal .t .t) r2 qz (qR rr (qm Z Z Z Z (qm Z Z Z Z (qm Z Z Z Z (qk Z (fun h=>o_indexAddr_row (sz:=2) 1 (.mk YbQ kr) (.w h .is) (.w h) ow ow (by rfl)) r3 r1 (qk Z (fun h=>Zt (ag:=true) (sz':=2) (sz:=2) 1 (.w h) (by intro x;rfl) ow kr kr kr) r2 r1 (qm Z Z Z Z (qm Z Z Z Z (qk Z (fun h=>o_sub (.w h) qi) r2 qz (qk Z (fun h=>o_indexAddr_row (sz:=2) 1 (.mk YbQ kr) (.w h .is) (.w h) (by have h9:=YV h;rw [hwj ow];omega) (by have h9:=YV h;rw [hwj ow];omega) (by rfl)) r3 r1 (qk Z (fun h=>Zt (ag:=true) (sz':=2) (sz:=2) 1 (.w h) (by intro x;rfl) (by have h9:=YV h;rw [hwj ow];omega) kr kr kr) r2 r1 (qk Z (fun h=>o_callClosP (avs:=[.agg (Zv (Nn l2 ((j:Int)).toNat)),.agg (Zv (Nn l2 (IntKind.wrap .i64 ((j:Int) - 1)).toNat))]) (.w h) (hw (Nn l2 ((j:Int)).toNat) (Nn l2 (IntKind.wrap .i64 ((j:Int) - 1)).toNat)) hf hbd hnn (Args.two (.pagg (.w h)) (.pagg (.w h)))) r4 qz (qk Z (fun h=>ZaR (.w h) qi) r2 qz (qf (ZJ .t .t) r2 qz qZ))))))))))))))))) V [34,9,8,3,2,1,0] [1,0] Z Z fun a w F O=>?_))
  try dsimp only [List.map,xD,xE,xT,xU,ldSF,Zv] at O
  try simp only [Yg] at O
  refine Za (Zc O Z (fun hc1=>?_) (fun hc1=>?_))
  ·skip
   obtain ⟨haj2,h9⟩:ka<j∧Zdl (OrdD.key (Nn l2 j)) (OrdD.key (Nn l2 (IntKind.wrap .i64 ((j:Int) - 1)).toNat))<0:=by simpa using hc1
   rw [hwj haj2,Yg,hx0,hx1 haj2] at h9
   have h9:=Zba.1 h9
   have hgt3:∀ q,j - 1≤q→q<i→OrdD.key (Nn l1 i)<OrdD.key (Nn l1 q):=fun q h1 h2=>by rcases Yag q j with h | h;rw [show q=j - 1 by omega];exact h9;exact hgt q h h2
   refine Yd (Za (Ya (Ye (Zu O (qR rr (qR rr (qR rr (qR rr (qf (o_sub .t qi) r1 qz (qR rr (qR rr (qf (o_sub .t qi) r1 qz (qf (o_indexAddr_row (sz:=2) 1 (.mk YbQ kr) .is .t (by rw [hwj haj2];omega) (by rw [hwj haj2];omega) (by rfl)) r2 r1 (qf (Zt (ag:=true) (sz':=2) (sz:=2) 1 .t (by intro x;rfl) (by rw [hwj haj2];omega) kr kr kr) r1 r1 (qR rr (qR rr (qf (o_indexAddr_row (sz:=2) 1 (.mk YbQ kr) .is .t ow ow (by rfl)) r2 r1 (qf (Zt (ag:=true) (sz':=2) (sz:=2) 1 .t (by intro x;rfl) ow kr kr kr) r1 r1 (qf (o_indexAddr_row (sz:=2) 1 (.mk YbQ kr) .is .t ow ow (by rfl)) r2 r1 (qf (Z0 (sz:=2) 1 .t (by intro x;rfl) ow (.conv .t (Ent.aggU (l:=Zv (Nn l2 (IntKind.wrap .i64 ((j:Int) - 1)).toNat)) Z Z)) kr) r2 r1 (qf (o_indexAddr_row (sz:=2) 1 (.mk YbQ kr) .is .t (by rw [hwj haj2];omega) (by rw [YN,hwj haj2];omega) (by rfl)) r2 r1 (qf (Z0 (sz:=2) 1 .t (by intro x;rfl) (by rw [YN,hwj haj2];omega) (.conv .t (Ent.aggU (l:=Zv (Nn l2 ((j:Int)).toNat)) Z Z)) kr) r2 r1 qZ)))))))))))))))))) V [9,8,3,2,1,0] [1,0] Z Z fun a w F O=>?_))))
   try dsimp only [List.map,Zd,xL,xM,Nat.reduceAdd,xD,xE,xT,xU,xC,xN,zCF,ldSF,Zv] at O
   try simp only [Yg] at O
   rw [hwj haj2] at O
   simp only [Yg] at O
   obtain ⟨l3,hl3⟩:∃ z,z=Zf6 l1 (j - 1) i:=⟨_,rfl⟩
   rw [show (l2.set j (Nn l2 (j - 1))).set (j - 1) (Nn l2 j)=l3 from by rw [hl3,← ZeV ow hji ow,← hl2];rfl] at O
   refine Zi (Za (rZ O (qR rr (qf (o_sub .t qi) r1 qz (qO rr qZ))) V [9,8,3,2,1,0] [1,0] fun O=>?_))
   replace O:=O.ent (i:=9) (s':=.pv (.int .i64 ((j - 1:Nat):Int))) Z (.int (hwj haj2))
   obtain ⟨F,O⟩:=O.nM [8,3,2,1,0,9] [0,1]
   exact ⟨((j - 1),(l3)),F,⟨by omega,by omega,hl3,hgt3⟩,O,by omega⟩
  have h9:¬ (ka<j∧Zdl (OrdD.key (Nn l2 j)) (OrdD.key (Nn l2 (IntKind.wrap .i64 ((j:Int) - 1)).toNat))<0):=by simpa using hc1
  have hend:l2=Zw OrdD.key l ka (i+1):=by
    rw [hl2]
    refine ZkJ haj hji ow (ZfI hu _ _) hl1 ?_ hgt
    rcases Yag ka j with h | h
    · refine .inr (Zf2 (Zav (κ:=OrdD.key) (a:=ka) (b:=i) ow hu |> fun z=>(by rw [hl1];exact z:Unl OrdD.key l1)) (i:=i) (j:=j - 1) ow ow ow fun h8=>h9 ⟨h,?_⟩)
      rw [hwj h,Yg,hx0,hx1 h]
      exact Zba.2 h8
    · exact .inl ow
  refine Ym (Zg (Zg (Zo (Zi (Za (rZ O (qR rr (qp r1 (qO rr qZ))) V [8,3,2,1,0] [1,0] fun O=>?_))))))
  replace O:=O.ent (i:=8) (s':=.pv (.int .i64 ((i+1:Nat):Int))) Z (.int (Ze ow))
  obtain ⟨F,O⟩:=O.nM [3,2,1,0,8] [0,1]
  exact ⟨((i+1),(l2)),F,⟨by omega,.inl ⟨by omega,hend⟩⟩,O,by omega⟩
 have hg:Zw OrdD.key l ka kb=l1:=by
   rcases hq with hq | hq
   · rw [hq.2,show i=kb by simp at hc0;omega]
   · rw [hq.2,show kb=ka by omega];exact Zbr (YA _) (by rw [ZfN];exact List.Pairwise.nil)
 refine Ym (Zg (Zg (Zo ?_)))
 have O:=O.turn 1 Z (r':=RS.hp (ZO 39 2 Zv (Zw OrdD.key l ka kb) v)) (fun _ _ _ _ h=>by rw [hg];exact h)
 refine ZE hG O Z .nil .none rfl
theorem Zuo (v:Value) (l:List OrdD) (ka km kb:Nat) (hll:l.length≤1000000) (h1:ka<km) (h2:km<kb) (h3:kb≤l.length) (f:FuncId) (cps:List PV):FnG prog 281 1 [.is v,.int .i64 ka,.int .i64 km,.int .i64 kb,.clos f cps] [ZO 39 2 Zv l v] (.tup []) (fun _=>[ZO 39 2 Zv (Z2 l ka km kb) v]):=by
 refine FnG.mk func281 Z ntmps281 Z kr fun B F0 a w F V hG O=>?_
 replace O:=O.turn 1 Z (r':=.ob (.val v) (ZO 39 2 Zv l)) (fun _ _ _ _ h=>h)
 refine Ya (rZ O (qR rr (qR rr (qf (o_sub .t .t) r2 qz (qO rr qZ)))) V [10,4,3,2,0] [1,0] fun O=>Ya ?_)
 refine rZ O (qR rr (qR rr (qf (o_sub .t .t) r2 qz (qO rr qZ)))) V [11,10,4,2,0] [1,0] fun O=>(Ya (Ye ?_))
 have hc0:0<km - ka∧0<kb - km∧ka+(km - ka)≤km∧km+(kb - km)≤kb∧l.length=l.length∧Z2 l (km - (km - ka)) km (km+(kb - km))=Z2 l ka km kb:=⟨by omega,by omega,by omega,by omega,rfl,by rw [show km - (km - ka)=ka by omega,show km+(kb - km)=kb by omega]⟩
 replace O:=O.ent (i:=10) (s':=.pv (.int .i64 ((km - ka:Nat):Int))) Z (.int (by rw [Zj ow];omega))
 replace O:=O.ent (i:=11) (s':=.pv (.int .i64 ((kb - km:Nat):Int))) Z (.int (by rw [Zj ow];omega))
 refine Zk (σ:=Nat×Nat×List OrdD) [0,2,4] [0] (fun s=>[(10,.pv (.int .i64 (s.1:Int))),(11,.pv (.int .i64 (s.2.1:Int)))]) (fun s=>[(1,.ob (.val v) (ZO 39 2 Zv s.2.2))]) (fun s=>0<s.1∧0<s.2.1∧ka+s.1≤km∧km+s.2.1≤kb∧s.2.2.length=l.length∧Z2 s.2.2 (km - s.1) km (km+s.2.1)=Z2 l ka km kb) (fun s=>s.1+s.2.1) ((km - ka),(kb - km),(l)) O ⟨rfl,rfl,rfl,rfl,rfl,tv⟩ ⟨rfl,rfl,tv⟩ hc0 ?_
 clear O;intro s a w F hC O
 obtain ⟨i,j,l1⟩:=s
 try dsimp only at hC
 obtain ⟨F,O⟩:=O.nM [11,10,4,2,0] [1,0]
 try dsimp only at O
 obtain ⟨hi0,hj0,hia,hjb,hn1,hq⟩:=hC
 have hwm:IntKind.wrap .i64 ((km:Int) - (i:Int))=((km - i:Nat):Int):=by rw [Zj ow];omega
 have hwn:i≤km+j→IntKind.wrap .i64 (IntKind.wrap .i64 ((km:Int)+(j:Int)) - (i:Int))=((km+j - i:Nat):Int):=fun h=>by rw [Zj (x:=(km:Int)+(j:Int)) ow,Zj ow];omega
 refine Ya (Ya (rZ O (qR rr (qR rr (qf (o_neq .t .t) r2 qz qZ))) V [20,11,10,4,2,0] [1,0] fun O=>?_))
 refine Zc O Z (fun hc0=>?_) (fun hc0=>?_)
 ·have hij:i≠j:=by simp at hc0;omega
  refine Yd (Za (Ye (Ya (rZ O (qR rr (qR rr (qf (Zal .t .t) r2 qz qZ))) V [23,11,10,4,2,0] [1,0] fun O=>?_))))
  refine Zc O Z (fun hc1=>?_) (fun hc1=>?_)
  ·have hlt:j<i:=by simp at hc1;omega
   obtain ⟨i2,i2e⟩:∃ z,z=i - j:=⟨_,rfl⟩
   obtain ⟨j2,j2e⟩:∃ z,z=j:=⟨_,rfl⟩
   obtain ⟨l2,l2e⟩:∃ z,z=Zd9 l1 (km - i) km j:=⟨_,rfl⟩
   have hi2:IntKind.wrap .i64 ((i:Int) - (j:Int))=(i2:Int):=by rw [Zj ow];omega
   have hj2:(j:Int)=(j2:Int):=by rw [j2e]
   have hmu:i2+j2<i+j:=by omega
   have hC2:0<i2∧0<j2∧ka+i2≤km∧km+j2≤kb∧l2.length=l.length∧Z2 l2 (km - i2) km (km+j2)=Z2 l ka km kb:=⟨by omega,by omega,by omega,by omega,by rw [l2e,Zcg ow ow,hn1],by rw [← hq,← Zon (l:=l1) (s:=km - i) (m:=km) (e:=km+j) (j:=j) ow rfl ow,l2e,j2e,show km - i2=km - i+j by omega]⟩
   refine Ya (Zh O (qR rr (qR rr (qR rr (qf (o_sub .t .t) r2 qz (qR rr (qR rr (qR rr (qf (ZW 1 (Zt2 v l1 (km - i) km j ow ow ow f cps) func283 Z kr (Args.five .t (.conv .t (.int hwm)) .t .t .t)) r5 r1 qZ)))))))) V [11,10,4,2,0] [1,0] Z Z fun a w F O=>?_)
   rw [← l2e] at O
   refine Za (Zh O (qR rr (qR rr (qf (o_sub .t .t) r2 qz (qO rr qZ)))) V [11,10,4,2,0] [1,0] Z Z fun a w F O=>Zi (Za ?_))
   replace O:=O.ent (i:=10) (s':=.pv (.int .i64 (i2:Int))) Z (.int hi2)
   replace O:=O.ent (i:=11) (s':=.pv (.int .i64 (j2:Int))) Z (.int hj2)
   obtain ⟨F,O⟩:=O.nM [4,2,0,11,10] [0,1]
   exact ⟨((i2),(j2),(l2)),F,hC2,O,hmu⟩
  have hlt:i<j:=by simp at hc1;omega
  obtain ⟨i2,i2e⟩:∃ z,z=i:=⟨_,rfl⟩
  obtain ⟨j2,j2e⟩:∃ z,z=j - i:=⟨_,rfl⟩
  obtain ⟨l2,l2e⟩:∃ z,z=Zd9 l1 (km - i) (km+j - i) i:=⟨_,rfl⟩
  have hi2:(i:Int)=(i2:Int):=by rw [i2e]
  have hj2:IntKind.wrap .i64 ((j:Int) - (i:Int))=(j2:Int):=by rw [Zj ow];omega
  have hmu:i2+j2<i+j:=by omega
  have hC2:0<i2∧0<j2∧ka+i2≤km∧km+j2≤kb∧l2.length=l.length∧Z2 l2 (km - i2) km (km+j2)=Z2 l ka km kb:=⟨by omega,by omega,by omega,by omega,by rw [l2e,Zcg ow ow,hn1],by rw [← hq,← Zow (l:=l1) (s:=km - i) (m:=km) (e:=km+j) (i:=i) ow ow ow,l2e,i2e,show km+j2=km+j - i by omega]⟩
  refine Ya (Zh O (qR rr (qR rr (qR rr (qf (o_sub .t .t) r2 qz (qR rr (qR rr (qf (o_add .t .t) r2 qz (qR rr (qf (o_sub .t .t) r2 qz (qR rr (qR rr (qf (ZW 1 (Zt2 v l1 (km - i) (km+j - i) i ow ow ow f cps) func283 Z kr (Args.five .t (.conv .t (.int hwm)) (.conv .t (.int (hwn ow))) .t .t)) r5 r1 qZ)))))))))))) V [11,10,4,2,0] [1,0] Z Z fun a w F O=>?_)
  rw [← l2e] at O
  refine Za (Zh O (qR rr (qR rr (qf (o_sub .t .t) r2 qz (qO rr qZ)))) V [11,10,4,2,0] [1,0] Z Z fun a w F O=>Zi (Za ?_))
  replace O:=O.ent (i:=10) (s':=.pv (.int .i64 (i2:Int))) Z (.int hi2)
  replace O:=O.ent (i:=11) (s':=.pv (.int .i64 (j2:Int))) Z (.int hj2)
  obtain ⟨F,O⟩:=O.nM [4,2,0,11,10] [0,1]
  exact ⟨((i2),(j2),(l2)),F,hC2,O,hmu⟩
 have hij:i=j:=by simp at hc0;omega
 have hg:Z2 l ka km kb=Zd9 l1 (km - i) km i:=by rw [← hq,← hij];exact (ZpB ow rfl ow).symm
 refine Ym (Zg (Zg (Zo (Za (Zh O (qR rr (qR rr (qR rr (qf (o_sub .t .t) r2 qz (qR rr (qR rr (qR rr (qf (ZW 1 (Zt2 v l1 (km - i) km i ow ow ow f cps) func283 Z kr (Args.five .t (.conv .t (.int hwm)) .t .t .t)) r5 r1 qZ)))))))) V [] [1,0] Z Z fun a w F O=>?_)))))
 have O:=O.turn 1 Z (r':=RS.hp (ZO 39 2 Zv (Z2 l ka km kb) v)) (fun _ _ _ _ h=>by rw [hg];exact h)
 refine ZE hG O Z .nil .none rfl
theorem symSR (v : Value) (l : List OrdD) (ka km kb : Nat) (hll : l.length ≤ 1000000) (h1 : ka < km) (h2 : km < kb) (h3 : kb ≤ l.length) (hu : Unl OrdD.key l) (hx : Z5 OrdD.key (seg l ka km)) (hy : Z5 OrdD.key (seg l km kb)) (f : FuncId) (fn : Func) (cps : List PV) (hf : prog.funcs[f]? = some fn) (hbd : fn.body.isSome = true) (hnn : (fn.name == "runtime.NumGoroutine") = false) (hw : ∀ x y : OrdD, FnP prog f (.agg (Zv x) :: .agg (Zv y) :: cps) (.int .i64 (Zdl (OrdD.key x) (OrdD.key y)))) (n : Nat) (ih : ∀ (l : List OrdD) (ka km kb : Nat), kb - ka < n → l.length ≤ 1000000 → ka < km → km < kb → kb ≤ l.length → Unl OrdD.key l → Z5 OrdD.key (seg l ka km) → Z5 OrdD.key (seg l km kb) → FnG prog 275 1 [.is v, .int .i64 (ka : Nat), .int .i64 (km : Nat), .int .i64 (kb : Nat), .clos f cps] [ZO 39 2 Zv l v] (.tup []) (fun _ => [ZO 39 2 Zv (Zw OrdD.key l ka kb) v])) (hn : kb - ka < n + 1) : FnG prog 275 1 [.is v, .int .i64 ka, .int .i64 km, .int .i64 kb, .clos f cps] [ZO 39 2 Zv l v] (.tup []) (fun _ => [ZO 39 2 Zv (Zw OrdD.key l ka kb) v]) := by
 refine FnG.mk func275 Z ntmps275 Z kr fun B F0 a w F V hG O=>?_
 replace O:=O.turn 1 Z (r':=.ob (.val v) (ZO 39 2 Zv l)) (fun _ _ _ _ h=>h)
 obtain ⟨hx9,hy9⟩:(∀ i j,ka≤i→i<j→j<km→OrdD.key (Nn l i)<OrdD.key (Nn l j)) ∧ ∀ i j,km≤i→i<j→j<kb→OrdD.key (Nn l i)<OrdD.key (Nn l j):=⟨(Zen (κ:=OrdD.key) ow).1 hx,(Zen (κ:=OrdD.key) ow).1 hy⟩
 refine Ya (Ya (rZ O (qR rr (qR rr (qf (o_sub .t .t) r2 qz (qf (o_eql .t qi) r1 qz qZ)))) V [28,4,3,2,1,0] [1,0] fun O=>?_))
 refine Zc O Z (fun hc0=>?_) (fun hc0=>?_)
 ·skip
  have hm1:km=ka+1:=by have h9:=hc0;rw [Zj ow] at h9;simp at h9;omega
  refine Ya (rZ O (qR rr (qO rr qZ)) V [10,4,3,2,1,0] [1,0] fun O=>Ya ?_)
  refine rZ O (qR rr (qO rr qZ)) V [11,10,4,3,2,1,0] [1,0] fun O=>(Ya (Ye ?_))
  have hc0:km≤km∧km≤kb∧kb≤kb∧(∀ q,km≤q→q<km→OrdD.key (Nn l q)<OrdD.key (Nn l ka)) ∧ ∀ q,kb≤q→q<kb→OrdD.key (Nn l ka)<OrdD.key (Nn l q):=⟨YA _,by omega,YA _,fun q h1 h2=>by omega,fun q h1 h2=>by omega⟩
  refine Zk (σ:=Nat×Nat) [0,1,2,3,4] [0,1] (fun s=>[(10,.pv (.int .i64 (s.1:Int))),(11,.pv (.int .i64 (s.2:Int)))]) (fun s=>[]) (fun s=>km≤s.1∧s.1≤s.2∧s.2≤kb∧(∀ q,km≤q→q<s.1→OrdD.key (Nn l q)<OrdD.key (Nn l ka)) ∧ ∀ q,s.2≤q→q<kb→OrdD.key (Nn l ka)<OrdD.key (Nn l q)) (fun s=>s.2 - s.1) ((km),(kb)) O ⟨rfl,rfl,rfl,rfl,rfl,rfl,rfl,tv⟩ ⟨rfl,rfl,tv⟩ hc0 ?_
  clear O;intro s a w F hC O
  obtain ⟨i,j⟩:=s
  try dsimp only at hC
  obtain ⟨F,O⟩:=O.nM [11,10,4,3,2,1,0] [1,0]
  try dsimp only at O
  obtain ⟨hki,hij,hjk,hlo,hhi⟩:=hC
  refine Ya (Ya (rZ O (qR rr (qR rr (qL r2))) V [33,11,10,4,3,2,1,0] [1,0] fun O=>?_))
  refine Zc O Z (fun hc1=>?_) (fun hc1=>?_)
  ·skip
   have hlt:i<j:=by simp at hc1;omega
   refine Yd (Za (Ye (Ya (Zh O (qR rr (qR rr (qf (o_add .t .t) r2 qz (qf (Za0 YbY kr .t) r1 qz (qf (Zjq .t qi (by decide)) r1 qz (qf (Za0 YbS kr .t) r1 qz (qO rr qZ))))))) V [12,11,10,4,3,2,1,0] [1,0] Z Z fun a w F O=>?_))))
   obtain ⟨m,hmm⟩:∃ m:Nat,m=(i+j) / 2:=⟨_,rfl⟩
   replace O:=O.ent (i:=12) (s':=.pv (.int .i64 (m:Int))) Z (.int (by rw [hmm];exact Zdr ow))
   obtain ⟨F,O⟩:=O.nM [12,11,10,4,3,2,1,0] [1,0]
   refine Za (Ya (Zu O (qR rr (qR rr (qR rr (qf (o_indexAddr_row (sz:=2) 1 (.mk YbQ kr) .is .t ow ow (by rfl)) r2 r1 (qf (Zt (ag:=true) (sz':=2) (sz:=2) 1 .t (by intro x;rfl) ow kr kr kr) r1 r1 (qR rr (qR rr (qf (o_indexAddr_row (sz:=2) 1 (.mk YbQ kr) .is .t ow ow (by rfl)) r2 r1 (qf (Zt (ag:=true) (sz':=2) (sz:=2) 1 .t (by intro x;rfl) ow kr kr kr) r1 r1 (qf (o_callClosP (avs:=[.agg (Zv (Nn l ((m:Int)).toNat)),.agg (Zv (Nn l ((ka:Int)).toNat))]) .t (hw (Nn l ((m:Int)).toNat) (Nn l ((ka:Int)).toNat)) hf hbd hnn (Args.two (.pagg .t) (.pagg .t))) r3 qz (qf (ZaR .t qi) r1 qz qZ))))))))))) V [50,12,11,10,4,3,2,1,0] [1,0] Z Z fun a w F O=>?_))
   try dsimp only [List.map,xD,xE,xT,xU,ldSF,Zv] at O
   try simp only [Yg] at O
   refine Za (Zc O Z (fun hc2=>?_) (fun hc2=>?_))
   ·skip
    have h9:Zdl (OrdD.key (Nn l m)) (OrdD.key (Nn l ka))<0:=by simpa using hc2
    have h8:=Zba.1 h9
    obtain ⟨i2,hi2e⟩:∃ z,z=m+1:=⟨_,rfl⟩
    obtain ⟨j2,hj2e⟩:∃ z,z=j:=⟨_,rfl⟩
    have hi2:IntKind.wrap .i64 ((m:Int)+1)=(i2:Int):=by rw [hi2e];exact Ze ow
    have hj2:(j:Int)=(j2:Int):=by rw [hj2e]
    have hmu:j2 - i2<j - i:=by omega
    have hC2:km≤i2∧i2≤j2∧j2≤kb∧(∀ q,km≤q→q<i2→OrdD.key (Nn l q)<OrdD.key (Nn l ka)) ∧ ∀ q,j2≤q→q<kb→OrdD.key (Nn l ka)<OrdD.key (Nn l q):=⟨by omega,by omega,by omega,fun q h1 h2=>by rcases Yag q m with h | h;exact Ybb (hy9 q m h1 h ow) h8;rw [show q=m by omega];exact h8,by rw [hj2e];exact hhi⟩
    refine Zh O (qR rr (qp r1 (qO rr qZ))) V [11,10,4,3,2,1,0] [1,0] Z Z fun a w F O=>Zi (Za ?_)
    replace O:=O.ent (i:=10) (s':=.pv (.int .i64 (i2:Int))) Z (.int hi2)
    replace O:=O.ent (i:=11) (s':=.pv (.int .i64 (j2:Int))) Z (.int hj2)
    obtain ⟨F,O⟩:=O.nM [4,3,2,1,0,11,10] [1,0]
    exact ⟨((i2),(j2)),F,hC2,O,hmu⟩
   have h9:¬ Zdl (OrdD.key (Nn l m)) (OrdD.key (Nn l ka))<0:=by simpa using hc2
   have h8:=Zf2 hu (i:=m) (j:=ka) ow ow ow (fun e=>h9 (Zba.2 e))
   obtain ⟨i2,hi2e⟩:∃ z,z=i:=⟨_,rfl⟩
   obtain ⟨j2,hj2e⟩:∃ z,z=m:=⟨_,rfl⟩
   have hi2:(i:Int)=(i2:Int):=by rw [hi2e]
   have hj2:(m:Int)=(j2:Int):=by rw [hj2e]
   have hmu:j2 - i2<j - i:=by omega
   have hC2:km≤i2∧i2≤j2∧j2≤kb∧(∀ q,km≤q→q<i2→OrdD.key (Nn l q)<OrdD.key (Nn l ka)) ∧ ∀ q,j2≤q→q<kb→OrdD.key (Nn l ka)<OrdD.key (Nn l q):=⟨by omega,by omega,by omega,by rw [hi2e];exact hlo,fun q h1 h2=>by rcases Yag m q with h | h;exact Ybb h8 (hy9 m q ow h h2);rw [show q=m by omega];exact h8⟩
   refine Zh O (qR rr (qO rr qZ)) V [11,10,4,3,2,1,0] [1,0] Z Z fun a w F O=>Zi (Za ?_)
   replace O:=O.ent (i:=10) (s':=.pv (.int .i64 (i2:Int))) Z (.int hi2)
   replace O:=O.ent (i:=11) (s':=.pv (.int .i64 (j2:Int))) Z (.int hj2)
   obtain ⟨F,O⟩:=O.nM [4,3,2,1,0,11,10] [1,0]
   exact ⟨((i2),(j2)),F,hC2,O,hmu⟩
  have hjj:i=j:=by simp at hc1;omega
  have hg1:Zj6 l ka (i - 1)=Zw OrdD.key l ka kb:=ZjI ow ow ow (by rw [← hm1];exact hy) (by rw [← hm1];exact hlo) (by rw [hjj];exact hhi)
  refine Ym (Zg (Zg (Zo (Za (Ya (Ya (rZ O (qR rr (qO rr qZ)) V [13,10,4,3,2,1,0] [1,0] fun O=>Ye ?_)))))))
  have hc1:ka≤ka∧ka+1≤i∧l=Zj6 l ka ka:=⟨YA _,by omega,(Zkp ow).symm⟩
  refine Zk (σ:=Nat×List OrdD) [0,1,2,3,4,10] [0] (fun s=>[(13,.pv (.int .i64 (s.1:Int)))]) (fun s=>[(1,.ob (.val v) (ZO 39 2 Zv s.2))]) (fun s=>ka≤s.1∧s.1+1≤i∧s.2=Zj6 l ka s.1) (fun s=>i - s.1) ((ka),(l)) O ⟨rfl,rfl,rfl,rfl,rfl,rfl,rfl,tv⟩ ⟨rfl,rfl,tv⟩ hc1 ?_
  clear O;intro s a w F hC O
  obtain ⟨k,l1⟩:=s
  try dsimp only at hC
  obtain ⟨F,O⟩:=O.nM [13,10,4,3,2,1,0] [1,0]
  try dsimp only at O
  obtain ⟨hka,hki2,hl1⟩:=hC
  have hn1:l1.length=l.length:=by rw [hl1];exact Zdh hka ow
  have hwk:IntKind.wrap .i64 ((k:Int)+1)=((k+1:Nat):Int):=Ze ow
  have hwi:IntKind.wrap .i64 ((i:Int) - 1)=((i - 1:Nat):Int):=by rw [Zj ow];omega
  refine Ya (Ya (rZ O (qR rr (qR rr (qf (o_sub .t qi) r1 qz (qL r2)))) V [58,13,10,4,3,2,1,0] [1,0] fun O=>?_))
  refine Zc O Z (fun hc3=>?_) (fun hc3=>?_)
  ·skip
   have hlt:k+1<i:=by have h9:=hc3;rw [hwi] at h9;simp at h9;omega
   refine Yd (Za (Ya (Ye (Zu O (qR rr (qR rr (qR rr (qR rr (qp r1 (qR rr (qR rr (qp r1 (qf (o_indexAddr_row (sz:=2) 1 (.mk YbQ kr) .is .t (by rw [hwk];omega) (by rw [hwk];omega) (by rfl)) r2 r1 (qf (Zt (ag:=true) (sz':=2) (sz:=2) 1 .t (by intro x;rfl) (by rw [hwk];omega) kr kr kr) r1 r1 (qR rr (qR rr (qf (o_indexAddr_row (sz:=2) 1 (.mk YbQ kr) .is .t ow ow (by rfl)) r2 r1 (qf (Zt (ag:=true) (sz':=2) (sz:=2) 1 .t (by intro x;rfl) ow kr kr kr) r1 r1 (qf (o_indexAddr_row (sz:=2) 1 (.mk YbQ kr) .is .t ow ow (by rfl)) r2 r1 (qf (Z0 (sz:=2) 1 .t (by intro x;rfl) ow (.conv .t (Ent.aggU (l:=Zv (Nn l1 (IntKind.wrap .i64 ((k:Int)+1)).toNat)) Z Z)) kr) r2 r1 (qf (o_indexAddr_row (sz:=2) 1 (.mk YbQ kr) .is .t (by rw [hwk];omega) (by rw [YN,hwk];omega) (by rfl)) r2 r1 (qf (Z0 (sz:=2) 1 .t (by intro x;rfl) (by rw [YN,hwk];omega) (.conv .t (Ent.aggU (l:=Zv (Nn l1 ((k:Int)).toNat)) Z Z)) kr) r2 r1 qZ)))))))))))))))))) V [13,10,4,3,2,1,0] [1,0] Z Z fun a w F O=>?_))))
   try dsimp only [List.map,Zd,xL,xM,Nat.reduceAdd,xD,xE,xT,xU,xC,xN,zCF,ldSF,Zv] at O
   try simp only [Yg] at O
   rw [hwk] at O
   simp only [Yg] at O
   obtain ⟨l2,hl2⟩:∃ z,z=Zj6 l ka (k+1):=⟨_,rfl⟩
   rw [show (l1.set k (Nn l1 (k+1))).set (k+1) (Nn l1 k)=l2 from by rw [hl2,← Zjv hka ow,← hl1];rfl] at O
   refine Zi (Za (rZ O (qR rr (qp r1 (qO rr qZ))) V [13,10,4,3,2,1,0] [1,0] fun O=>?_))
   replace O:=O.ent (i:=13) (s':=.pv (.int .i64 ((k+1:Nat):Int))) Z (.int hwk)
   obtain ⟨F,O⟩:=O.nM [10,4,3,2,1,0,13] [0,1]
   exact ⟨((k+1),(l2)),F,⟨by omega,by omega,hl2⟩,O,by omega⟩
  have hg:Zw OrdD.key l ka kb=l1:=by rw [hl1,← hg1,show k=i - 1 by have h9:=hc3;rw [hwi] at h9;simp at h9;omega]
  refine Ym (Zg (Zg (Zo (Za (Yh (Zf ?_))))))
  have O:=O.turn 1 Z (r':=RS.hp (ZO 39 2 Zv (Zw OrdD.key l ka kb) v)) (fun _ _ _ _ h=>by rw [hg];exact h)
  refine ZE hG O Z .nil .none rfl
 have hm1:ka+1<km:=by have h9:=hc0;rw [Zj ow] at h9;simp at h9;omega
 refine Yd (Za (Ya (Ya (rZ O (qR rr (qR rr (qf (o_sub .t .t) r2 qz (qf (o_eql .t qi) r1 qz qZ)))) V [80,4,3,2,1,0] [1,0] fun O=>?_))))
 refine Zc O Z (fun hc4=>?_) (fun hc4=>?_)
 ·skip
  have hm2:kb=km+1:=by have h9:=hc4;rw [Zj ow] at h9;simp at h9;omega
  refine Ya (rZ O (qR rr (qO rr qZ)) V [14,4,3,2,1,0] [1,0] fun O=>Ya ?_)
  refine rZ O (qR rr (qO rr qZ)) V [15,14,4,3,2,1,0] [1,0] fun O=>(Ya (Ye ?_))
  have hc0:ka≤ka∧ka≤km∧km≤km∧(∀ q,ka≤q→q<ka→OrdD.key (Nn l q)<OrdD.key (Nn l km)) ∧ ∀ q,km≤q→q<km→OrdD.key (Nn l km)<OrdD.key (Nn l q):=⟨YA _,by omega,YA _,fun q h1 h2=>by omega,fun q h1 h2=>by omega⟩
  refine Zk (σ:=Nat×Nat) [0,1,2,3,4] [0,1] (fun s=>[(14,.pv (.int .i64 (s.1:Int))),(15,.pv (.int .i64 (s.2:Int)))]) (fun s=>[]) (fun s=>ka≤s.1∧s.1≤s.2∧s.2≤km∧(∀ q,ka≤q→q<s.1→OrdD.key (Nn l q)<OrdD.key (Nn l km)) ∧ ∀ q,s.2≤q→q<km→OrdD.key (Nn l km)<OrdD.key (Nn l q)) (fun s=>s.2 - s.1) ((ka),(km)) O ⟨rfl,rfl,rfl,rfl,rfl,rfl,rfl,tv⟩ ⟨rfl,rfl,tv⟩ hc0 ?_
  clear O;intro s a w F hC O
  obtain ⟨i,j⟩:=s
  try dsimp only at hC
  obtain ⟨F,O⟩:=O.nM [15,14,4,3,2,1,0] [1,0]
  try dsimp only at O
  obtain ⟨hki,hij,hjk,hlo,hhi⟩:=hC
  refine Ya (Ya (rZ O (qR rr (qR rr (qL r2))) V [85,15,14,4,3,2,1,0] [1,0] fun O=>?_))
  refine Zc O Z (fun hc5=>?_) (fun hc5=>?_)
  ·skip
   have hlt:i<j:=by simp at hc5;omega
   refine Yd (Za (Ye (Ya (Zh O (qR rr (qR rr (qf (o_add .t .t) r2 qz (qf (Za0 YbY kr .t) r1 qz (qf (Zjq .t qi (by decide)) r1 qz (qf (Za0 YbS kr .t) r1 qz (qO rr qZ))))))) V [16,15,14,4,3,2,1,0] [1,0] Z Z fun a w F O=>?_))))
   obtain ⟨m,hmm⟩:∃ m:Nat,m=(i+j) / 2:=⟨_,rfl⟩
   replace O:=O.ent (i:=16) (s':=.pv (.int .i64 (m:Int))) Z (.int (by rw [hmm];exact Zdr ow))
   obtain ⟨F,O⟩:=O.nM [16,15,14,4,3,2,1,0] [1,0]
   refine Za (Ya (Zu O (qR rr (qR rr (qR rr (qf (o_indexAddr_row (sz:=2) 1 (.mk YbQ kr) .is .t ow ow (by rfl)) r2 r1 (qf (Zt (ag:=true) (sz':=2) (sz:=2) 1 .t (by intro x;rfl) ow kr kr kr) r1 r1 (qR rr (qR rr (qf (o_indexAddr_row (sz:=2) 1 (.mk YbQ kr) .is .t ow ow (by rfl)) r2 r1 (qf (Zt (ag:=true) (sz':=2) (sz:=2) 1 .t (by intro x;rfl) ow kr kr kr) r1 r1 (qf (o_callClosP (avs:=[.agg (Zv (Nn l ((km:Int)).toNat)),.agg (Zv (Nn l ((m:Int)).toNat))]) .t (hw (Nn l ((km:Int)).toNat) (Nn l ((m:Int)).toNat)) hf hbd hnn (Args.two (.pagg .t) (.pagg .t))) r3 qz (qf (ZaR .t qi) r1 qz (qf (Z1 .t) r1 qz qZ)))))))))))) V [103,16,15,14,4,3,2,1,0] [1,0] Z Z fun a w F O=>?_))
   try dsimp only [List.map,xD,xE,xT,xU,ldSF,Zv] at O
   try simp only [Yg] at O
   refine Za (Zc O Z (fun hc6=>?_) (fun hc6=>?_))
   ·skip
    have h9:¬ Zdl (OrdD.key (Nn l km)) (OrdD.key (Nn l m))<0:=by simpa using hc6
    have h8:=Zf2 hu (i:=km) (j:=m) ow ow ow (fun e=>h9 (Zba.2 e))
    obtain ⟨i2,hi2e⟩:∃ z,z=m+1:=⟨_,rfl⟩
    obtain ⟨j2,hj2e⟩:∃ z,z=j:=⟨_,rfl⟩
    have hi2:IntKind.wrap .i64 ((m:Int)+1)=(i2:Int):=by rw [hi2e];exact Ze ow
    have hj2:(j:Int)=(j2:Int):=by rw [hj2e]
    have hmu:j2 - i2<j - i:=by omega
    have hC2:ka≤i2∧i2≤j2∧j2≤km∧(∀ q,ka≤q→q<i2→OrdD.key (Nn l q)<OrdD.key (Nn l km)) ∧ ∀ q,j2≤q→q<km→OrdD.key (Nn l km)<OrdD.key (Nn l q):=⟨by omega,by omega,by omega,fun q h1 h2=>by rcases Yag q m with h | h;exact Ybb (hx9 q m h1 h ow) h8;rw [show q=m by omega];exact h8,by rw [hj2e];exact hhi⟩
    refine Zh O (qR rr (qp r1 (qO rr qZ))) V [15,14,4,3,2,1,0] [1,0] Z Z fun a w F O=>Zi (Za ?_)
    replace O:=O.ent (i:=14) (s':=.pv (.int .i64 (i2:Int))) Z (.int hi2)
    replace O:=O.ent (i:=15) (s':=.pv (.int .i64 (j2:Int))) Z (.int hj2)
    obtain ⟨F,O⟩:=O.nM [4,3,2,1,0,15,14] [1,0]
    exact ⟨((i2),(j2)),F,hC2,O,hmu⟩
   have h9:Zdl (OrdD.key (Nn l km)) (OrdD.key (Nn l m))<0:=by simpa using hc6
   have h8:=Zba.1 h9
   obtain ⟨i2,hi2e⟩:∃ z,z=i:=⟨_,rfl⟩
   obtain ⟨j2,hj2e⟩:∃ z,z=m:=⟨_,rfl⟩
   have hi2:(i:Int)=(i2:Int):=by rw [hi2e]
   have hj2:(m:Int)=(j2:Int):=by rw [hj2e]
   have hmu:j2 - i2<j - i:=by omega
   have hC2:ka≤i2∧i2≤j2∧j2≤km∧(∀ q,ka≤q→q<i2→OrdD.key (Nn l q)<OrdD.key (Nn l km)) ∧ ∀ q,j2≤q→q<km→OrdD.key (Nn l km)<OrdD.key (Nn l q):=⟨by omega,by omega,by omega,by rw [hi2e];exact hlo,fun q h1 h2=>by rcases Yag m q with h | h;exact Ybb h8 (hx9 m q ow h h2);rw [show q=m by omega];exact h8⟩
   refine Zh O (qR rr (qO rr qZ)) V [15,14,4,3,2,1,0] [1,0] Z Z fun a w F O=>Zi (Za ?_)
   replace O:=O.ent (i:=14) (s':=.pv (.int .i64 (i2:Int))) Z (.int hi2)
   replace O:=O.ent (i:=15) (s':=.pv (.int .i64 (j2:Int))) Z (.int hj2)
   obtain ⟨F,O⟩:=O.nM [4,3,2,1,0,15,14] [1,0]
   exact ⟨((i2),(j2)),F,hC2,O,hmu⟩
  have hjj:i=j:=by simp at hc5;omega
  have hg1:Zf6 l i km=Zw OrdD.key l ka kb:=by rw [hm2];exact Zic hki ow ow hx hlo (by rw [hjj];exact hhi)
  refine Ym (Zg (Zg (Zo (Za (Ya (Ya (rZ O (qR rr (qO rr qZ)) V [17,14,4,3,2,1,0] [1,0] fun O=>Ye ?_)))))))
  have hc1:i≤km∧km≤km∧l=Zf6 l km km:=⟨by omega,YA _,(ZeT ow).symm⟩
  refine Zk (σ:=Nat×List OrdD) [0,1,2,3,4,14] [0] (fun s=>[(17,.pv (.int .i64 (s.1:Int)))]) (fun s=>[(1,.ob (.val v) (ZO 39 2 Zv s.2))]) (fun s=>i≤s.1∧s.1≤km∧s.2=Zf6 l s.1 km) (fun s=>s.1) ((km),(l)) O ⟨rfl,rfl,rfl,rfl,rfl,rfl,rfl,tv⟩ ⟨rfl,rfl,tv⟩ hc1 ?_
  clear O;intro s a w F hC O
  obtain ⟨k,l1⟩:=s
  try dsimp only at hC
  obtain ⟨F,O⟩:=O.nM [17,14,4,3,2,1,0] [1,0]
  try dsimp only at O
  obtain ⟨hka,hki2,hl1⟩:=hC
  have hn1:l1.length=l.length:=by rw [hl1];exact Zce hki2 ow
  have hwk:i<k→IntKind.wrap .i64 ((k:Int) - 1)=((k - 1:Nat):Int):=fun h=>by rw [Zj ow];omega
  refine Ya (Ya (rZ O (qR rr (qR rr (qf (Zal .t .t) r2 qz qZ))) V [110,17,14,4,3,2,1,0] [1,0] fun O=>?_))
  refine Zc O Z (fun hc7=>?_) (fun hc7=>?_)
  ·skip
   have hlt:i<k:=by simp at hc7;omega
   refine Yd (Za (Ya (Ye (Zu O (qR rr (qR rr (qR rr (qR rr (qf (o_sub .t qi) r1 qz (qR rr (qR rr (qf (o_sub .t qi) r1 qz (qf (o_indexAddr_row (sz:=2) 1 (.mk YbQ kr) .is .t (by rw [hwk hlt];omega) (by rw [hwk hlt];omega) (by rfl)) r2 r1 (qf (Zt (ag:=true) (sz':=2) (sz:=2) 1 .t (by intro x;rfl) (by rw [hwk hlt];omega) kr kr kr) r1 r1 (qR rr (qR rr (qf (o_indexAddr_row (sz:=2) 1 (.mk YbQ kr) .is .t ow ow (by rfl)) r2 r1 (qf (Zt (ag:=true) (sz':=2) (sz:=2) 1 .t (by intro x;rfl) ow kr kr kr) r1 r1 (qf (o_indexAddr_row (sz:=2) 1 (.mk YbQ kr) .is .t ow ow (by rfl)) r2 r1 (qf (Z0 (sz:=2) 1 .t (by intro x;rfl) ow (.conv .t (Ent.aggU (l:=Zv (Nn l1 (IntKind.wrap .i64 ((k:Int) - 1)).toNat)) Z Z)) kr) r2 r1 (qf (o_indexAddr_row (sz:=2) 1 (.mk YbQ kr) .is .t (by rw [hwk hlt];omega) (by rw [YN,hwk hlt];omega) (by rfl)) r2 r1 (qf (Z0 (sz:=2) 1 .t (by intro x;rfl) (by rw [YN,hwk hlt];omega) (.conv .t (Ent.aggU (l:=Zv (Nn l1 ((k:Int)).toNat)) Z Z)) kr) r2 r1 qZ)))))))))))))))))) V [17,14,4,3,2,1,0] [1,0] Z Z fun a w F O=>?_))))
   try dsimp only [List.map,Zd,xL,xM,Nat.reduceAdd,xD,xE,xT,xU,xC,xN,zCF,ldSF,Zv] at O
   try simp only [Yg] at O
   rw [hwk hlt] at O
   simp only [Yg] at O
   obtain ⟨l2,hl2⟩:∃ z,z=Zf6 l (k - 1) km:=⟨_,rfl⟩
   rw [show (l1.set k (Nn l1 (k - 1))).set (k - 1) (Nn l1 k)=l2 from by rw [hl2,← ZeV ow hki2 ow,← hl1];rfl] at O
   refine Zi (Za (rZ O (qR rr (qf (o_sub .t qi) r1 qz (qO rr qZ))) V [17,14,4,3,2,1,0] [1,0] fun O=>?_))
   replace O:=O.ent (i:=17) (s':=.pv (.int .i64 ((k - 1:Nat):Int))) Z (.int (hwk hlt))
   obtain ⟨F,O⟩:=O.nM [14,4,3,2,1,0,17] [0,1]
   exact ⟨((k - 1),(l2)),F,⟨by omega,by omega,hl2⟩,O,by omega⟩
  have hg:Zw OrdD.key l ka kb=l1:=by rw [hl1,← hg1,show k=i by simp at hc7;omega]
  refine Ym (Zg (Zg (Zo (Za (Yh (Zf ?_))))))
  have O:=O.turn 1 Z (r':=RS.hp (ZO 39 2 Zv (Zw OrdD.key l ka kb) v)) (fun _ _ _ _ h=>by rw [hg];exact h)
  refine ZE hG O Z .nil .none rfl
 have hm2:km+1<kb:=by have h9:=hc4;rw [Zj ow] at h9;simp at h9;omega
 refine Yd (Za (Ya (Zh O (qR rr (qR rr (qf (o_add .t .t) r2 qz (qf (Za0 YbY kr .t) r1 qz (qf (Zjq .t qi (by decide)) r1 qz (qf (Za0 YbS kr .t) r1 qz (qO rr qZ))))))) V [18,4,3,2,1,0] [1,0] Z Z fun a w F O=>?_)))
 obtain ⟨mid,hmmid⟩:∃ m:Nat,m=(ka+kb) / 2:=⟨_,rfl⟩
 replace O:=O.ent (i:=18) (s':=.pv (.int .i64 (mid:Int))) Z (.int (by rw [hmmid];exact Zdr ow))
 obtain ⟨F,O⟩:=O.nM [18,4,3,2,1,0] [1,0]
 refine Za (Ya (Zh O (qR rr (qR rr (qf (o_add .t .t) r2 qz (qO rr qZ)))) V [19,18,4,3,2,1,0] [1,0] Z Z fun a w F O=>?_))
 replace O:=O.ent (i:=19) (s':=.pv (.int .i64 ((mid+km:Nat):Int))) Z (.int (by rw [Zj ow];omega))
 obtain ⟨F,O⟩:=O.nM [19,18,4,3,2,1,0] [1,0]
 refine Za (Ya (rZ O (qI (qI qZ)) V [19,18,4,3,2,1,0] [1,0] fun O=>(Ya (Ya ?_))))
 refine rZ O (qR rr (qR rr (qf (Zal .t .t) r2 qz qZ))) V [140,19,18,4,3,2,1,0] [1,0] fun O=>?_
 refine ZcW (σ:=Nat×Nat) [0,1,2,3,4,18,19] [0,1] (fun s=>[(20,.pv (.int .i64 (s.1:Int))),(21,.pv (.int .i64 (s.2:Int)))]) (fun s=>[]) (fun s=>(mid<km∧s.1+kb=mid+km∧s.2=mid)∨(km≤mid∧s.1=ka∧s.2=km)) O ?_ ?_
 ·skip
  refine Zc O Z (fun hc8=>?_) (fun hc8=>?_)
  ·skip
   have hmm:mid<km:=by simp at hc8;omega
   obtain ⟨s0,s0e⟩:∃ z,z=mid+km - kb:=⟨_,rfl⟩
   obtain ⟨r0,r0e⟩:∃ z,z=mid:=⟨_,rfl⟩
   have hs0:(mid<km∧s0+kb=mid+km∧r0=mid)∨(km≤mid∧s0=ka∧r0=km):=.inl ⟨hmm,by omega,r0e⟩
   have hcs:IntKind.wrap .i64 (((mid+km:Nat):Int) - (kb:Int))=(s0:Int):=by rw [Zj ow];omega
   have hcr:(mid:Int)=(r0:Int):=by rw [r0e]
   refine Ya (rZ O (qR rr (qR rr (qf (o_sub .t .t) r2 qz (qO rr qZ)))) V [20,19,18,4,3,2,1,0] [1,0] fun O=>?_)
   refine rZ O (qR rr (qO rr qZ)) V [21,20,19,18,4,3,2,1,0] [1,0] fun O=>?_
   replace O:=O.ent (i:=20) (s':=.pv (.int .i64 (s0:Int))) Z (.int hcs)
   replace O:=O.ent (i:=21) (s':=.pv (.int .i64 (r0:Int))) Z (.int hcr)
   obtain ⟨F,O⟩:=O.nM [19,18,4,3,2,1,0,21,20] [1,0]
   exact ⟨((s0),(r0)),F,hs0,O⟩
  have hmm:km≤mid:=by simp at hc8;omega
  obtain ⟨s0,s0e⟩:∃ z,z=ka:=⟨_,rfl⟩
  obtain ⟨r0,r0e⟩:∃ z,z=km:=⟨_,rfl⟩
  have hs0:(mid<km∧s0+kb=mid+km∧r0=mid)∨(km≤mid∧s0=ka∧r0=km):=.inr ⟨hmm,s0e,r0e⟩
  have hcs:(ka:Int)=(s0:Int):=by rw [s0e]
  have hcr:(km:Int)=(r0:Int):=by rw [r0e]
  refine Ya (rZ O (qR rr (qO rr qZ)) V [20,19,18,4,3,2,1,0] [1,0] fun O=>?_)
  refine rZ O (qR rr (qO rr qZ)) V [21,20,19,18,4,3,2,1,0] [1,0] fun O=>?_
  replace O:=O.ent (i:=20) (s':=.pv (.int .i64 (s0:Int))) Z (.int hcs)
  replace O:=O.ent (i:=21) (s':=.pv (.int .i64 (r0:Int))) Z (.int hcr)
  obtain ⟨F,O⟩:=O.nM [19,18,4,3,2,1,0,21,20] [1,0]
  exact ⟨((s0),(r0)),F,hs0,O⟩
 clear O;intro s a w F hC O
 obtain ⟨s0,r0⟩:=s
 try dsimp only at hC
 obtain ⟨F,O⟩:=O.nM [21,20,19,18,4,3,2,1,0] [1,0]
 try dsimp only at O
 have hs0:=hC
 refine Ya (Zh O (qR rr (qf (o_sub .t qi) r1 qz (qO rr qZ))) V [22,21,20,19,18,4,3,2,1,0] [1,0] Z Z fun a w F O=>?_)
 replace O:=O.ent (i:=22) (s':=.pv (.int .i64 ((mid+km - 1:Nat):Int))) Z (.int (by rw [Zj ow];omega))
 obtain ⟨F,O⟩:=O.nM [22,21,20,19,18,4,3,2,1,0] [1,0]
 refine Za (Ya (Ye ?_))
 have hsr0:s0≤r0∧ka≤s0∧r0≤km∧r0≤mid:=by omega
 refine Zk (σ:=Nat×Nat) [0,1,2,3,4,18,19,22] [0,1] (fun s=>[(20,.pv (.int .i64 (s.1:Int))),(21,.pv (.int .i64 (s.2:Int)))]) (fun s=>[]) (fun s=>s0≤s.1∧s.1≤s.2∧s.2≤r0∧(s.1=s0∨OrdD.key (Nn l (s.1 - 1))<OrdD.key (Nn l (mid+km - s.1)))∧(s.2=r0∨OrdD.key (Nn l (mid+km - 1 - s.2))<OrdD.key (Nn l s.2))) (fun s=>s.2 - s.1) ((s0),(r0)) O ⟨rfl,rfl,rfl,rfl,rfl,rfl,rfl,rfl,rfl,rfl,tv⟩ ⟨rfl,rfl,tv⟩ ⟨YA _,hsr0.1,YA _,.inl rfl,.inl rfl⟩ ?_
 clear O;intro s a w F hC O
 obtain ⟨st,r⟩:=s
 try dsimp only at hC
 obtain ⟨F,O⟩:=O.nM [22,21,20,19,18,4,3,2,1,0] [1,0]
 try dsimp only at O
 obtain ⟨hs1,hsr,hr1,hlo,hhi⟩:=hC
 refine Ya (Ya (rZ O (qR rr (qR rr (qL r2))) V [151,22,21,20,19,18,4,3,2,1,0] [1,0] fun O=>?_))
 refine Zc O Z (fun hc9=>?_) (fun hc9=>?_)
 ·skip
  have hlt:st<r:=by simp at hc9;omega
  refine Yd (Za (Ye (Ya (Zh O (qR rr (qR rr (qf (o_add .t .t) r2 qz (qf (Za0 YbY kr .t) r1 qz (qf (Zjq .t qi (by decide)) r1 qz (qf (Za0 YbS kr .t) r1 qz (qO rr qZ))))))) V [23,22,21,20,19,18,4,3,2,1,0] [1,0] Z Z fun a w F O=>?_))))
  obtain ⟨m,hmm⟩:∃ m:Nat,m=(st+r) / 2:=⟨_,rfl⟩
  replace O:=O.ent (i:=23) (s':=.pv (.int .i64 (m:Int))) Z (.int (by rw [hmm];exact Zdr ow))
  obtain ⟨F,O⟩:=O.nM [23,22,21,20,19,18,4,3,2,1,0] [1,0]
  have hwp:IntKind.wrap .i64 (((mid+km - 1:Nat):Int) - (m:Int))=((mid+km - 1 - m:Nat):Int):=by rw [Zj ow];omega
  refine Za (Ya (Zu O (qR rr (qR rr (qR rr (qR rr (qf (o_sub .t .t) r2 qz (qf (o_indexAddr_row (sz:=2) 1 (.mk YbQ kr) .is .t (by rw [hwp];omega) (by rw [hwp];omega) (by rfl)) r2 r1 (qf (Zt (ag:=true) (sz':=2) (sz:=2) 1 .t (by intro x;rfl) (by rw [hwp];omega) kr kr kr) r1 r1 (qR rr (qR rr (qf (o_indexAddr_row (sz:=2) 1 (.mk YbQ kr) .is .t ow ow (by rfl)) r2 r1 (qf (Zt (ag:=true) (sz':=2) (sz:=2) 1 .t (by intro x;rfl) ow kr kr kr) r1 r1 (qf (o_callClosP (avs:=[.agg (Zv (Nn l (IntKind.wrap .i64 (((mid+km - 1:Nat):Int) - (m:Int))).toNat)),.agg (Zv (Nn l ((m:Int)).toNat))]) .t (hw (Nn l (IntKind.wrap .i64 (((mid+km - 1:Nat):Int) - (m:Int))).toNat) (Nn l ((m:Int)).toNat)) hf hbd hnn (Args.two (.pagg .t) (.pagg .t))) r3 qz (qf (ZaR .t qi) r1 qz (qf (Z1 .t) r1 qz qZ)))))))))))))) V [171,23,22,21,20,19,18,4,3,2,1,0] [1,0] Z Z fun a w F O=>?_))
  try dsimp only [List.map,xD,xE,xT,xU,ldSF,Zv] at O
  try simp only [Yg] at O
  refine Za (Zc O Z (fun hc10=>?_) (fun hc10=>?_))
  ·skip
   have h9:¬ Zdl (OrdD.key (Nn l (IntKind.wrap .i64 (((mid+km - 1:Nat):Int) - (m:Int))).toNat)) (OrdD.key (Nn l m))<0:=by simpa using hc10
   rw [hwp,Yg] at h9
   have h8:=Zf2 hu (i:=(mid+km - 1 - m)) (j:=m) ow ow ow (fun e=>h9 (Zba.2 e))
   obtain ⟨i2,hi2e⟩:∃ z,z=m+1:=⟨_,rfl⟩
   obtain ⟨j2,hj2e⟩:∃ z,z=r:=⟨_,rfl⟩
   have hi2:IntKind.wrap .i64 ((m:Int)+1)=(i2:Int):=by rw [hi2e];exact Ze ow
   have hj2:(r:Int)=(j2:Int):=by rw [hj2e]
   have hmu:j2 - i2<r - st:=by omega
   have hC2:s0≤i2∧i2≤j2∧j2≤r0∧(i2=s0∨OrdD.key (Nn l (i2 - 1))<OrdD.key (Nn l (mid+km - i2)))∧(j2=r0∨OrdD.key (Nn l (mid+km - 1 - j2))<OrdD.key (Nn l j2)):=⟨by omega,by omega,by omega,.inr (by rw [show i2 - 1=m by omega,show mid+km - i2=mid+km - 1 - m by omega];exact h8),by rw [hj2e];exact hhi⟩
   refine Zh O (qR rr (qp r1 (qO rr qZ))) V [22,21,20,19,18,4,3,2,1,0] [1,0] Z Z fun a w F O=>Zi (Za ?_)
   replace O:=O.ent (i:=20) (s':=.pv (.int .i64 (i2:Int))) Z (.int hi2)
   replace O:=O.ent (i:=21) (s':=.pv (.int .i64 (j2:Int))) Z (.int hj2)
   obtain ⟨F,O⟩:=O.nM [22,19,18,4,3,2,1,0,21,20] [1,0]
   exact ⟨((i2),(j2)),F,hC2,O,hmu⟩
  have h9:Zdl (OrdD.key (Nn l (IntKind.wrap .i64 (((mid+km - 1:Nat):Int) - (m:Int))).toNat)) (OrdD.key (Nn l m))<0:=by simpa using hc10
  rw [hwp,Yg] at h9
  have h8:=Zba.1 h9
  obtain ⟨i2,hi2e⟩:∃ z,z=st:=⟨_,rfl⟩
  obtain ⟨j2,hj2e⟩:∃ z,z=m:=⟨_,rfl⟩
  have hi2:(st:Int)=(i2:Int):=by rw [hi2e]
  have hj2:(m:Int)=(j2:Int):=by rw [hj2e]
  have hmu:j2 - i2<r - st:=by omega
  have hC2:s0≤i2∧i2≤j2∧j2≤r0∧(i2=s0∨OrdD.key (Nn l (i2 - 1))<OrdD.key (Nn l (mid+km - i2)))∧(j2=r0∨OrdD.key (Nn l (mid+km - 1 - j2))<OrdD.key (Nn l j2)):=⟨by omega,by omega,by omega,by rw [hi2e];exact hlo,.inr (by rw [hj2e];exact h8)⟩
  refine Zh O (qR rr (qO rr qZ)) V [22,21,20,19,18,4,3,2,1,0] [1,0] Z Z fun a w F O=>Zi (Za ?_)
  replace O:=O.ent (i:=20) (s':=.pv (.int .i64 (i2:Int))) Z (.int hi2)
  replace O:=O.ent (i:=21) (s':=.pv (.int .i64 (j2:Int))) Z (.int hj2)
  obtain ⟨F,O⟩:=O.nM [22,19,18,4,3,2,1,0,21,20] [1,0]
  exact ⟨((i2),(j2)),F,hC2,O,hmu⟩
 have hjj:r=st:=by simp at hc9;omega
 rw [hjj] at hhi hr1
 obtain ⟨⟨k1,k2,k3⟩,kc1,kc2⟩:=ZlL (κ:=OrdD.key) (l:=l) (a:=ka) (m:=km) (b:=kb) (mid:=mid) (start:=st) h3 h1 h2 ow ow ow hx hy hs0 hs1 hr1 hlo hhi ow
 obtain ⟨en,ene⟩:∃ z,z=mid+km - st:=⟨_,rfl⟩
 rw [← ene] at k2 k3 kc1 kc2
 obtain ⟨hst1,hr1a,hr1b,hr2a,hr2b,-,-⟩:=ZlZ (κ:=OrdD.key) (l:=l) (a:=ka) (start:=st) (m:=km) (e:=en) (b:=kb) (mid:=mid) ow k1 k2 k3 h3 ow hx hy (ZfI hu _ _) kc1 kc2
 obtain ⟨l1,l1e⟩:∃ z,z=Z2 l st km en:=⟨_,rfl⟩
 rw [← l1e] at hst1 hr1a hr1b hr2a hr2b
 obtain ⟨l2,l2e⟩:∃ z,z=Zw OrdD.key l1 ka mid:=⟨_,rfl⟩
 rw [← l2e] at hst1 hr2a hr2b
 obtain ⟨l3,l3e⟩:∃ z,z=Zw OrdD.key l2 mid kb:=⟨_,rfl⟩
 rw [← l3e] at hst1
 have hg:Zw OrdD.key l ka kb=l3:=hst1.symm
 have hn1:l1.length≤1000000:=by rw [l1e,ZiA k1 k2 ow];exact hll
 have hm1l:l1.length=l.length:=by rw [l1e,ZiA k1 k2 ow]
 have hn2:l2.length≤1000000:=by rw [l2e,Z9 ow];exact hn1
 have hm2l:l2.length=l.length:=by rw [l2e,Z9 ow];exact hm1l
 have hu1:Unl OrdD.key l1:=by rw [l1e];exact hu.perm (Zms k1 k2).symm
 have hu2:Unl OrdD.key l2:=by rw [l2e];exact Zav ow hu1
 have hce:IntKind.wrap .i64 (((mid+km:Nat):Int) - (st:Int))=(en:Int):=by rw [Zj ow];omega
 refine Ym (Zg (Zg (Zo (Za (Ya (Zh O (qR rr (qR rr (qf (o_sub .t .t) r2 qz (qO rr qZ)))) V [24,20,18,4,3,2,1,0] [1,0] Z Z fun a w F O=>?_))))))
 replace O:=O.ent (i:=24) (s':=.pv (.int .i64 (en:Int))) Z (.int (hce))
 obtain ⟨F,O⟩:=O.nM [24,20,18,4,3,2,1,0] [1,0]
 refine Za (Ya (Ya (rZ O (qR rr (qR rr (qf (ZaR .t .t) r2 qz (qR rr (qm Z Z Z Z (qm Z Z Z Z (qk Z (fun h=>ZaR (.w h) (.w h)) r3 qz (qf (ZJ .t .t) r2 qz qZ)))))))) V [185,24,20,18,4,3,2,1,0] [1,0] fun O=>?_)))
 refine ZcW (σ:=Unit) [0,1,3,4,18,20,24] [0] (fun s=>[]) (fun s=>[(1,.ob (.val v) (ZO 39 2 Zv l1))]) (fun s=>True) O ?_ ?_
 ·skip
  refine Zc O Z (fun hc11=>?_) (fun hc11=>?_)
  ·skip
   have h9:st<km∧km<en:=by simpa using hc11
   refine Zh O (qR rr (qR rr (qR rr (qR rr (qR rr (qf (ZW 1 (Zuo v l st km en hll ow ow ow f cps) func281 Z kr (Args.five .t .t .t .t .t)) r5 r1 qZ)))))) V [24,20,18,4,3,1,0] [1,0] Z Z fun a w F O=>?_
   rw [← l1e] at O
   refine Za ?_
   obtain ⟨F,O⟩:=O.nM [24,20,18,4,3,1,0] [0,1]
   exact ⟨(()),F,tv,O⟩
  have h9:¬ (st<km∧km<en):=by simpa using hc11
  have hlr:l=l1:=by rw [l1e];exact (ZmB k1 k2 ow).symm
  rw [hlr] at O
  refine Yd (Za ?_)
  obtain ⟨F,O⟩:=O.nM [24,20,18,4,3,1,0] [0,1]
  exact ⟨(()),F,tv,O⟩
 clear O;intro u a w F hC O
 try dsimp only at hC
 obtain ⟨F,O⟩:=O.nM [24,20,18,4,3,1,0] [1,0]
 try dsimp only at O
 refine Ya (Ya (rZ O (qR rr (qR rr (qf (ZaR .t .t) r2 qz (qR rr (qm Z Z Z Z (qm Z Z Z Z (qk Z (fun h=>ZaR (.w h) (.w h)) r3 qz (qf (ZJ .t .t) r2 qz qZ)))))))) V [199,24,20,18,4,3,1,0] [1,0] fun O=>?_))
 refine ZcW (σ:=Unit) [0,3,4,18,24] [0] (fun s=>[]) (fun s=>[(1,.ob (.val v) (ZO 39 2 Zv l2))]) (fun s=>True) O ?_ ?_
 ·skip
  refine Zc O Z (fun hc12=>?_) (fun hc12=>?_)
  ·skip
   have h9:ka<st∧st<mid:=by simpa using hc12
   refine Zh O (qR rr (qR rr (qR rr (qR rr (qR rr (qf (ZW 1 (ih l1 ka st mid ow hn1 ow ow ow hu1 hr1a hr1b) func275 Z kr (Args.five .t .t .t .t .t)) r5 r1 qZ)))))) V [24,18,4,3,0] [1,0] Z Z fun a w F O=>?_
   rw [← l2e] at O
   refine Za ?_
   obtain ⟨F,O⟩:=O.nM [24,18,4,3,0] [0,1]
   exact ⟨(()),F,tv,O⟩
  have h9:¬ (ka<st∧st<mid):=by simpa using hc12
  have hlr:l1=l2:=by rw [l2e];refine (Zbr ow ?_).symm; (rcases Yag ka st with h | h); (rw [show mid=st by omega];exact hr1a); (rw [show ka=st by omega];exact hr1b)
  rw [hlr] at O
  refine Yd (Za ?_)
  obtain ⟨F,O⟩:=O.nM [24,18,4,3,0] [0,1]
  exact ⟨(()),F,tv,O⟩
 clear O;intro u a w F hC O
 try dsimp only at hC
 obtain ⟨F,O⟩:=O.nM [24,18,4,3,0] [1,0]
 try dsimp only at O
 refine Ya (rZ O (qR rr (qR rr (qf (ZaR .t .t) r2 qz (qR rr (qm Z Z Z Z (qm Z Z Z Z (qk Z (fun h=>ZaR (.w h) (.w h)) r3 qz (qf (ZJ .t .t) r2 qz qZ)))))))) V [213,24,18,4,3,0] [1,0] fun O=>?_)
 refine Zc O Z (fun hc13=>?_) (fun hc13=>?_)
 ·skip
  have h9:mid<en∧en<kb:=by simpa using hc13
  refine Zh O (qR rr (qR rr (qR rr (qR rr (qR rr (qf (ZW 1 (ih l2 mid en kb ow hn2 ow ow ow hu2 hr2a hr2b) func275 Z kr (Args.five .t .t .t .t .t)) r5 r1 qZ)))))) V [] [1,0] Z Z fun a w F O=>?_
  rw [← l3e] at O
  have O:=O.turn 1 Z (r':=RS.hp (ZO 39 2 Zv (Zw OrdD.key l ka kb) v)) (fun _ _ _ _ h=>by rw [hg];exact h)
  refine ZE hG O Z .nil .none rfl
 have h9:¬ (mid<en∧en<kb):=by simpa using hc13
 have hlr:l2=l3:=by rw [l3e];refine (Zbr ow ?_).symm; (rcases Yag mid en with h | h); (rw [show kb=en by omega];exact hr2a); (rw [show mid=en by omega];exact hr2b)
 rw [hlr] at O
 refine Yd ?_
 have O:=O.turn 1 Z (r':=RS.hp (ZO 39 2 Zv (Zw OrdD.key l ka kb) v)) (fun _ _ _ _ h=>by rw [hg];exact h)
 refine ZE hG O Z .nil .none rfl
theorem Zt8 (v : Value) (f : FuncId) (fn : Func) (cps : List PV) (hf : prog.funcs[f]? = some fn) (hbd : fn.body.isSome = true) (hnn : (fn.name == "runtime.NumGoroutine") = false) (hw : ∀ x y : OrdD, FnP prog f (.agg (Zv x) :: .agg (Zv y) :: cps) (.int .i64 (Zdl (OrdD.key x) (OrdD.key y)))) : ∀ (n : Nat) (l : List OrdD) (ka km kb : Nat), kb - ka < n → l.length ≤ 1000000 → ka < km → km < kb → kb ≤ l.length → Unl OrdD.key l → Z5 OrdD.key (seg l ka km) → Z5 OrdD.key (seg l km kb) → FnG prog 275 1 [.is v, .int .i64 (ka : Nat), .int .i64 (km : Nat), .int .i64 (kb : Nat), .clos f cps] [ZO 39 2 Zv l v] (.tup []) (fun _ => [ZO 39 2 Zv (Zw OrdD.key l ka kb) v]) := fun n => by
 induction n with
 | zero=>intro l ka km kb h;omega
 | succ n ih=>intro l ka km kb hn hll h1 h2 h3 hu hx hy;exact symSR v l ka km kb hll h1 h2 h3 hu hx hy f fn cps hf hbd hnn hw n ih hn
theorem ZtM (v : Value) (l : List OrdD)  (hll : l.length ≤ 1000000) (hu : Unl OrdD.key l) (f : FuncId) (fn : Func) (cps : List PV) (hf : prog.funcs[f]? = some fn) (hbd : fn.body.isSome = true) (hnn : (fn.name == "runtime.NumGoroutine") = false) (hw : ∀ x y : OrdD, FnP prog f (.agg (Zv x) :: .agg (Zv y) :: cps) (.int .i64 (Zdl (OrdD.key x) (OrdD.key y)))) : FnG prog 245 1 [.is v, .int .i64 l.length, .clos f cps] [ZO 39 2 Zv l v] (.tup []) (fun _ => [ZO 39 2 Zv (Zak OrdD.key l) v]) := by
 refine FnG.mk func245 Z ntmps245 Z kr fun B F0 a w F V hG O=>?_
 replace O:=O.turn 1 Z (r':=.ob (.val v) (ZO 39 2 Zv l)) (fun _ _ _ _ h=>h)
 refine Ya (rZ O (qI qZ) V [6,2,1,0] [1,0] fun O=>Ya ?_)
 refine rZ O (qR rr (qI (qO rr qZ))) V [8,7,6,2,1,0] [1,0] fun O=>(Ya (Ye ?_))
 have hc0:ZkP OrdD.key l 20 0:=fun t ht=>by omega
 replace O:=O.ent (i:=7) (s':=.pv (.int .i64 ((0:Nat):Int))) Z (.int Z)
 replace O:=O.ent (i:=8) (s':=.pv (.int .i64 ((0+20:Nat):Int))) Z (.int Z)
 refine Zk (σ:=Nat×List OrdD) [0,1,2,6] [0] (fun s=>[(7,.pv (.int .i64 (s.1:Int))),(8,.pv (.int .i64 ((s.1+20:Nat):Int)))]) (fun s=>[(1,.ob (.val v) (ZO 39 2 Zv s.2))]) (fun s=>s.1≤l.length∧(∃ t,s.1=t*20)∧s.2.length=l.length∧Unl OrdD.key s.2∧s.2.Perm l∧ZkP OrdD.key s.2 20 s.1) (fun s=>l.length - s.1) ((0),(l)) O ⟨rfl,rfl,rfl,rfl,rfl,rfl,tv⟩ ⟨rfl,rfl,tv⟩ ⟨Yt _,⟨0,rfl⟩,rfl,hu,Ybo _,hc0⟩ ?_
 clear O;intro s a w F hC O
 obtain ⟨q,l1⟩:=s
 try dsimp only at hC
 obtain ⟨F,O⟩:=O.nM [8,7,6,2,1,0] [1,0]
 try dsimp only at O
 obtain ⟨hql,⟨t,ht⟩,hn1,hu1,hp1,hB1⟩:=hC
 refine Ya (Ya (rZ O (qR rr (qR rr (qf (ZhO .t .t) r2 qz qZ))) V [13,8,7,6,2,1,0] [1,0] fun O=>?_))
 refine Zc O Z (fun hc0=>?_) (fun hc0=>?_)
 ·skip
  have hlt:q+20≤l.length:=by simp at hc0;omega
  obtain ⟨l2,l2e⟩:∃ z,z=Zw OrdD.key l1 q (q+20):=⟨_,rfl⟩
  refine Yd (Za (Ye (Ya (Zh O (qR rr (qR rr (qR rr (qR rr (qf (ZW 1 (Zua v l1 q (q+20) ow ow ow hu1 f fn cps hf hbd hnn hw) func274 Z kr (Args.four .t .t .t .t)) r4 r1 qZ))))) V [8,7,6,2,1,0] [1,0] Z Z fun a w F O=>?_))))
  rw [← l2e] at O
  refine Za (Ya (rZ O (qR rr (qO rr qZ)) V [8,7,6,2,1,0] [1,0] fun O=>?_))
  refine Zh O (qR rr (qR rr (qf (o_add .t .t) r2 qz (qO rr qZ)))) V [8,7,6,2,1,0] [1,0] Z Z fun a w F O=>Zi (Za ?_)
  have hB2:ZkP OrdD.key l2 20 (q+20):=by rw [l2e,ht];exact Zfr ow (by rw [← ht];exact hB1) ow hu1
  replace O:=O.ent (i:=8) (s':=.pv (.int .i64 ((q+20+20:Nat):Int))) Z (.int (by rw [Zj ow];omega))
  obtain ⟨F,O⟩:=O.nM [6,2,1,0,8,7] [0,1]
  exact ⟨((q+20),(l2)),F,⟨by omega,⟨t+1,by omega⟩,by rw [l2e,Z9 ow];exact hn1,by rw [l2e];exact Zav ow hu1,by rw [l2e];exact (ZaA ow).trans hp1,hB2⟩,O,by omega⟩
 have hlt:l.length<q+20:=by simp at hc0;omega
 obtain ⟨l2,l2e⟩:∃ z,z=Zw OrdD.key l1 q l.length:=⟨_,rfl⟩
 have hn2:l2.length=l.length:=by rw [l2e,Z9 ow];exact hn1
 have hu2:Unl OrdD.key l2:=by rw [l2e];exact Zav ow hu1
 have hp2:l2.Perm l:=by rw [l2e];exact (ZaA ow).trans hp1
 have hB2:Zju OrdD.key l2 20 0:=by rw [l2e,ht,← hn1];exact Zgm ow (by rw [← ht];exact hB1) ow ow hu1
 refine Ym (Zg (Zg (Zo (Za (Ya (Zh O (qR rr (qR rr (qR rr (qR rr (qf (ZW 1 (Zua v l1 q l.length ow ow ow hu1 f fn cps hf hbd hnn hw) func274 Z kr (Args.four .t .t .t .t)) r4 r1 qZ))))) V [6,2,1,0] [1,0] Z Z fun a w F O=>?_))))))
 rw [← l2e] at O
 refine Za (Ye ?_)
 have hc0:0<20∧20≤2000000:=by omega
 replace O:=O.ent (i:=6) (s':=.pv (.int .i64 ((20:Nat):Int))) Z (.int Z)
 refine Zk (σ:=Nat×List OrdD) [0,1,2] [0] (fun s=>[(6,.pv (.int .i64 (s.1:Int)))]) (fun s=>[(1,.ob (.val v) (ZO 39 2 Zv s.2))]) (fun s=>0<s.1∧s.1≤2000000∧s.2.length=l.length∧Unl OrdD.key s.2∧s.2.Perm l∧Zju OrdD.key s.2 s.1 0) (fun s=>l.length - s.1) ((20),(l2)) O ⟨rfl,rfl,rfl,rfl,tv⟩ ⟨rfl,rfl,tv⟩ ⟨hc0.1,hc0.2,hn2,hu2,hp2,hB2⟩ ?_
 clear O;intro s a w F hC O
 obtain ⟨bs,l3⟩:=s
 try dsimp only at hC
 obtain ⟨F,O⟩:=O.nM [6,2,1,0] [1,0]
 try dsimp only at O
 obtain ⟨hb0,hb1,hn3,hu3,hp3,hB3⟩:=hC
 have hwb:IntKind.wrap .i64 (2*(bs:Int))=((2*bs:Nat):Int):=by rw [Zj ow];omega
 refine Ya (Ya (rZ O (qR rr (qR rr (qL r2))) V [30,6,2,1,0] [1,0] fun O=>?_))
 refine Zc O Z (fun hc1=>?_) (fun hc1=>?_)
 ·skip
  have hlt:bs<l.length:=by simp at hc1;omega
  refine Yd (Za (Ye (Ya (rZ O (qR rr (qf (Zf4 qi .t) r1 qz (qI (qO rr qZ)))) V [8,7,6,2,1,0] [1,0] fun O=>(Ya (Ye ?_))))))
  have hc4:ZkP OrdD.key l3 (2*bs) 0:=fun t ht=>by omega
  replace O:=O.ent (i:=7) (s':=.pv (.int .i64 ((0:Nat):Int))) Z (.int Z)
  replace O:=O.ent (i:=8) (s':=.pv (.int .i64 ((0+2*bs:Nat):Int))) Z (.int (by rw [hwb];omega))
  refine Zk (σ:=Nat×List OrdD) [0,1,2,6] [0] (fun s=>[(7,.pv (.int .i64 (s.1:Int))),(8,.pv (.int .i64 ((s.1+2*bs:Nat):Int)))]) (fun s=>[(1,.ob (.val v) (ZO 39 2 Zv s.2))]) (fun s=>s.1≤l.length∧(∃ t,s.1=t*(2*bs))∧s.2.length=l.length∧Unl OrdD.key s.2∧s.2.Perm l∧ZkP OrdD.key s.2 (2*bs) s.1∧Zju OrdD.key s.2 bs s.1) (fun s=>l.length - s.1) ((0),(l3)) O ⟨rfl,rfl,rfl,rfl,rfl,rfl,tv⟩ ⟨rfl,rfl,tv⟩ ⟨Yt _,⟨0,(Nat.zero_mul _).symm⟩,hn3,hu3,hp3,hc4,hB3⟩ ?_
  clear O;intro s a w F hC O
  obtain ⟨q,l4⟩:=s
  try dsimp only at hC
  obtain ⟨F,O⟩:=O.nM [8,7,6,2,1,0] [1,0]
  try dsimp only at O
  obtain ⟨hql,⟨t,ht⟩,hn4,hu4,hp4,hB4,hC4⟩:=hC
  have hqw:IntKind.wrap .i64 ((q:Int)+(bs:Int))=((q+bs:Nat):Int):=by rw [Zj ow];omega
  refine Ya (Ya (rZ O (qR rr (qR rr (qf (ZhO .t .t) r2 qz qZ))) V [35,8,7,6,2,1,0] [1,0] fun O=>?_))
  refine Zc O Z (fun hc2=>?_) (fun hc2=>?_)
  ·skip
   have hlt2:q+2*bs≤l.length:=by simp at hc2;omega
   obtain ⟨l5,l5e⟩:∃ z,z=Zw OrdD.key l4 q (q+2*bs):=⟨_,rfl⟩
   obtain ⟨hra,hrb⟩:=ZmV ow ht hC4 (show q+2*bs≤l4.length by omega)
   refine Yd (Za (Ye (Ya (Zh O (qR rr (qR rr (qR rr (qR rr (qf (o_add .t .t) r2 qz (qR rr (qR rr (qf (ZW 1 (Zt8 v f fn cps hf hbd hnn hw 4000000 l4 q (q+bs) (q+2*bs) ow ow ow ow ow hu4 hra hrb) func275 Z kr (Args.five .t .t (.conv .t (.int hqw)) .t .t)) r5 r1 qZ)))))))) V [8,7,6,2,1,0] [1,0] Z Z fun a w F O=>?_))))
   rw [← l5e] at O
   refine Za (Ya (rZ O (qR rr (qO rr qZ)) V [8,7,6,2,1,0] [1,0] fun O=>?_))
   refine Zh O (qR rr (qR rr (qf (Zf4 qi .t) r1 qz (qf (o_add .t .t) r2 qz (qO rr qZ))))) V [8,7,6,2,1,0] [1,0] Z Z fun a w F O=>Zi (Za ?_)
   have ht2:q+2*bs=(t+1)*(2*bs):=by rw [show (t+1)*(2*bs)=t*(2*bs)+2*bs from YaN t (2*bs),← ht]
   have hB5:ZkP OrdD.key l5 (2*bs) (q+2*bs):=by rw [l5e,ht];exact Zfr ow (by rw [← ht];exact hB4) ow hu4
   replace O:=O.ent (i:=8) (s':=.pv (.int .i64 ((q+2*bs+2*bs:Nat):Int))) Z (.int (by rw [hwb,Zj ow];omega))
   obtain ⟨F,O⟩:=O.nM [6,2,1,0,8,7] [0,1]
   exact ⟨((q+2*bs),(l5)),F,⟨by omega,⟨t+1,ht2⟩,by rw [l5e,Z9 ow];exact hn4,by rw [l5e];exact Zav ow hu4,by rw [l5e];exact (ZaA ow).trans hp4,hB5,by rw [l5e];exact Zh7 ow ow hC4⟩,O,by omega⟩
  have hlt2:l.length<q+2*bs:=by simp at hc2;omega
  refine Ym (Zg (Zg (Zo (Za (Ya (Ya (Zh O (qR rr (qR rr (qf (o_add .t .t) r2 qz (qO rr qZ)))) V [9,7,6,2,1,0] [1,0] Z Z fun a w F O=>?_)))))))
  replace O:=O.ent (i:=9) (s':=.pv (.int .i64 ((q+bs:Nat):Int))) Z (.int hqw)
  obtain ⟨F,O⟩:=O.nM [9,7,6,2,1,0] [1,0]
  refine Za (Ya (rZ O (qR rr (qR rr (qL r2))) V [54,9,7,6,2,1,0] [1,0] fun O=>?_))
  refine Zc O Z (fun hc3=>?_) (fun hc3=>?_)
  ·skip
   have hlt3:q+bs<l.length:=by simp at hc3;omega
   obtain ⟨l5,l5e⟩:∃ z,z=Zw OrdD.key l4 q l.length:=⟨_,rfl⟩
   obtain ⟨hra,hrb⟩:=Zkf ow ht hC4 (show q+bs<l4.length by omega) ow
   rw [hn4] at hrb
   have hn5:l5.length=l.length:=by rw [l5e,Z9 ow];exact hn4
   have hu5:Unl OrdD.key l5:=by rw [l5e];exact Zav ow hu4
   have hp5:l5.Perm l:=by rw [l5e];exact (ZaA ow).trans hp4
   have hB5:Zju OrdD.key l5 (2*bs) 0:=by rw [l5e,ht,← hn4];exact Zgm ow (by rw [← ht];exact hB4) ow ow hu4
   refine Zh O (qR rr (qR rr (qR rr (qR rr (qR rr (qf (ZW 1 (Zt8 v f fn cps hf hbd hnn hw 4000000 l4 q (q+bs) l.length ow ow ow ow ow hu4 hra hrb) func275 Z kr (Args.five .t .t .t .t .t)) r5 r1 qZ)))))) V [6,2,1,0] [1,0] Z Z fun a w F O=>?_
   rw [← l5e] at O
   refine Za (Zh O (qR rr (qf (Zf4 .t qi) r1 qz (qO rr qZ))) V [6,2,1,0] [1,0] Z Z fun a w F O=>Zi (Za ?_))
   replace O:=O.ent (i:=6) (s':=.pv (.int .i64 ((2*bs:Nat):Int))) Z (.int (by rw [Zj ow];omega))
   obtain ⟨F,O⟩:=O.nM [2,1,0,6] [0,1]
   exact ⟨((2*bs),(l5)),F,⟨by omega,by omega,hn5,hu5,hp5,hB5⟩,O,by omega⟩
  have hlt3:l.length≤q+bs:=by simp at hc3;omega
  obtain ⟨l5,l5e⟩:∃ z,z=l4:=⟨_,rfl⟩
  rw [← l5e] at O
  have hn5:l5.length=l.length:=by rw [l5e];exact hn4
  have hu5:Unl OrdD.key l5:=by rw [l5e];exact hu4
  have hp5:l5.Perm l:=by rw [l5e];exact hp4
  have hB5:Zju OrdD.key l5 (2*bs) 0:=by rw [l5e];exact Zml (t:=t) hb0 (by rw [← ht];exact hB4) (by rw [← ht];exact hC4) (by rw [← ht,hn4];exact hlt3)
  refine Yd (Za (Zh O (qR rr (qf (Zf4 .t qi) r1 qz (qO rr qZ))) V [6,2,1,0] [1,0] Z Z fun a w F O=>Zi (Za ?_)))
  replace O:=O.ent (i:=6) (s':=.pv (.int .i64 ((2*bs:Nat):Int))) Z (.int (by rw [Zj ow];omega))
  obtain ⟨F,O⟩:=O.nM [2,1,0,6] [0,1]
  exact ⟨((2*bs),(l5)),F,⟨by omega,by omega,hn5,hu5,hp5,hB5⟩,O,by omega⟩
 have hg:Zak OrdD.key l=l3:=(Zde hp3 (Zos hB3 (by simp at hc1;omega))).symm
 refine Ym (Zg (Zg (Zo ?_)))
 have O:=O.turn 1 Z (r':=RS.hp (ZO 39 2 Zv (Zak OrdD.key l) v)) (fun _ _ _ _ h=>by rw [hg];exact h)
 refine ZE hG O Z .nil .none rfl
theorem Zs4 (v : Value) (l : List OrdD)  (hll : l.length ≤ 1000000) (hu : Unl OrdD.key l) (f : FuncId) (fn : Func) (cps : List PV) (hf : prog.funcs[f]? = some fn) (hbd : fn.body.isSome = true) (hnn : (fn.name == "runtime.NumGoroutine") = false) (hw : ∀ x y : OrdD, FnP prog f (.agg (Zv x) :: .agg (Zv y) :: cps) (.int .i64 (Zdl (OrdD.key x) (OrdD.key y)))) : FnG prog 180 1 [.is v, .clos f cps] [ZO 39 2 Zv l v] (.tup []) (fun _ => [ZO 39 2 Zv (Zak OrdD.key l) v]) := by
 refine FnG.mk func180 Z ntmps180 Z kr fun B F0 a w F V hG O=>?_
 replace O:=O.turn 1 Z (r':=.ob (.val v) (ZO 39 2 Zv l)) (fun _ _ _ _ h=>h)
 refine Zh O (qR rr (qR rr (qf (Zap 1 YbQ .is) r1 r1 (qR rr (qf (ZW 1 (ZtM v l hll hu f fn cps hf hbd hnn hw) func245 Z kr (Args.three .t .t .t)) r3 r1 qZ))))) V [] [1,0] Z Z fun a w F O=>?_
 have hg:Zak OrdD.key l=Zak OrdD.key l:=rfl
 have O:=O.turn 1 Z (r':=RS.hp (ZO 39 2 Zv (Zak OrdD.key l) v)) (fun _ _ _ _ h=>by rw [hg];exact h)
 refine ZE hG O Z .nil .none rfl
theorem Znq (x y:TxD):FnP prog 179 [.agg (rTx x),.agg (rTx y),.ref [.clos 77 []]] (.int .i64 (Zdl (TxD.id x) (TxD.id y))):=by
 refine FnP.mk func179 Z ntmps179 Z fun B a w F V hfr O=>Ya ?_
 refine Zb O (qx 101 r1 (qx 102 r1 (qI qZ))) V [5,4,3,2] [102,101,0] (fun _=>rfl) (fun _=>rfl) fun τ a w F O=>?_
 try dsimp only [RS.sub,SF.sub,CF.sub,csub,Anc.sub,List.map,zCF,Zl,rTx,Zv,ZY,Zs,rOp] at O
 generalize τ 3=v3,τ 4=v4 at O
 refine Za (Ya (Zu O (qf (oR false 1 .t) r1 qz (qe 3 101 r1 r1 (qf (o_callClosP (avs:=[.agg (rTx x)]) .t (Zi5 x) func77 Z kr (Args.one (.pagg .t))) r2 qz (qf (oR false 1 .t) r1 qz (qe 3 102 r1 r1 (qf (o_callClosP (avs:=[.agg (rTx y)]) .t (Zi5 y) func77 Z kr (Args.one (.pagg .t))) r2 qz (qf (oP (ZrA (TxD.id x) (TxD.id y)) func108 (Args.two .t .t)) r2 qz (qO rr qZ)))))))) V [5] [102,101,0] Z Z fun a w F O=>?_))
 try dsimp only [List.map,xD,xE,xT,xU,ldSF,Zl,rTx,Zv,ZY,Zs,rOp] at O
 refine Za (Yh (ZB hfr O Z Z Z (.int Z)))
theorem Zpw (l was now:List TxD) (hll:l.length≤1000) (hnl:now.length≤1000) (hu:Unl TxD.id ((l.filter fun x=>(ZL TxD.id was (TxD.id x)).isNone)++now)):FnP prog 113 [.sl rTx l,.sl rTx was,.sl rTx now,.clos 77 []] (.sl rTx (Zev TxD.id l was now)):=by
 refine FnP.mk func113 Z ntmps113 Z fun B a w F V hfr O=>Ya ?_
 refine Zb O (qf (Zl8 101 .t Zmb) r1 qz (qC qZ)) V [8,7,2,1,0] [101,0] (fun _=>rfl) (fun _=>rfl) fun τ a w F O=>?_
 try dsimp only [RS.sub,SF.sub,CF.sub,csub,Anc.sub,List.map,zCF,Zl,rTx,Zv,ZY,Zs,rOp] at O
 generalize τ 7=v7 at O
 obtain ⟨F,O⟩:=O.giveRef 101 7 Z Z rfl
 obtain ⟨F,O⟩:=O.nM [8,7,2,1,0] [0]
 try dsimp only [Go.Gm.unCF] at O
 refine Za (Ya (rZ O (qC qZ) V [9,8,7,2,1,0] [0] fun O=>(Ya (Ya ?_))))
 refine rZ O (qR rr (qu YbP r1 (qJ qZ))) V [16,15,14,9,8,7,2,1] [0] fun O=>Ye ?_
 replace O:=O.fresh 50 rfl
 replace O:=O.turn 50 Z (ZaC (T:=36) (sz:=3) (R:=rTx))
 refine Zk (σ:=(Nat)×(Value)×(List TxD)) [1,2,7,8,14,15] [0] (fun s=>[(16,.pv (.int .i64 (s.1:Int))),(9,.pv (.is s.2.1))]) (fun s=>[(50,.ob (.val s.2.1) (ZO 36 3 rTx s.2.2))]) (fun s=>s.1≤l.length∧(s.2.2=((l.take s.1).filter fun x=>(ZL TxD.id was (TxD.id x)).isNone))) (fun s=>l.length - s.1) ((0),(.slice none 0 0),([])) O ⟨rfl,rfl,rfl,rfl,rfl,rfl,rfl,rfl,tv⟩ ⟨rfl,rfl,tv⟩ ⟨Yt _,rfl⟩ ?_
 clear O;intro s a w F hC O
 obtain ⟨i,v,out⟩:=s
 try dsimp only at hC
 obtain ⟨F,O⟩:=O.nM [16,15,14,9,8,7,2,1] [50,0]
 try dsimp only at O
 obtain ⟨hi,hq⟩:=hC
 have hol:out.length≤i:=by rw [hq];exact YW (YR _ _) (by rw [Yk];omega)
 refine Ya (rZ O (qL r2) V [17,16,15,14,9,8,7,2,1] [50,0] fun O=>Ya ?_)
 refine Zc O Z (fun hc0=>?_) (fun hc0=>?_)
 ·have hil:i<l.length:=by simp at hc0;omega
  refine Yd (Za (Ya (Ye (Ya (Zb O (qy 3 YbP r2 (qf (oR true 3 .t) r1 qz (qf (oH [.int .i64 0,.bool false,.slice none 0 0] 102) trivial qz (qS 3 102 r2 r1 qZ)))) V [16,15,14,11,9,8,7,2,1] [102,50,0] (fun _=>rfl) (fun _=>rfl) fun τ a w F O=>?_)))))
  try dsimp only [RS.sub,SF.sub,CF.sub,csub,Anc.sub,List.map,Zd,xL,xM,Nat.reduceAdd,xD,xE,xT,xU,xC,xN,zCF,ldSF,Zl,rTx,Zv,ZY,Zs,rOp] at O
  generalize τ 11=v11 at O
  try simp only [Yg] at O
  refine Za (Ya (ZaK O (qR rr (qf (oR false 1 .t) r1 qz (qe 3 102 r1 r1 (qf (o_callClosP (avs:=[.agg (rTx (Nn l i))]) .t (Zi5 (Nn l i)) func77 Z kr (Args.one (.pagg .t))) r2 qz (qf (oR false 1 .t) r1 qz (qf (oP (ZiS was (TxD.id (Nn l i))) func141 (Args.three .t .t .t)) r3 qz (qR rr (qf (o_extract .t Z) r1 qz (qf (o_extract .t Z) r1 qz (qf (oH [.int .i64 0,.bool false,.slice none 0 0] 103) trivial qz (qf (oA 3 103 .same (.conv .t .agg)) r2 r1 (qO rr qZ)))))))))))) V [16,15,14,13,11,9,8,7,2,1] [103,102,50,0] (fun _=>rfl) (fun _=>rfl) fun τ a w F O=>?_))
  try dsimp only [RS.sub,SF.sub,CF.sub,csub,Anc.sub,List.map,Zd,xL,xM,Nat.reduceAdd,xD,xE,xT,xU,xC,xN,zCF,ldSF,Zl,rTx,Zv,ZY,Zs,rOp] at O
  generalize τ 12=v12 at O
  refine Za (Ya (rZ O (qR rr (qf (Z1 .t) r1 qz qZ)) V [30,16,15,14,11,9,8,7,2,1] [103,102,50,0] fun O=>?_))
  refine Zc O Z (fun hc1=>?_) (fun hc1=>?_)
  ·have h9:(ZL TxD.id was (TxD.id (Nn l i))).isNone=true:=by have h8:(!(ZL TxD.id was (TxD.id (Nn l i))).isSome)=true:=hc1;cases e:(ZL TxD.id was (TxD.id (Nn l i))) with | none=>rfl | some z=>rw [e] at h8;cases h8
   have hst9:out ++ [(Nn l i)] = ((l.take (i+1)).filter fun x=>(ZL TxD.id was (TxD.id x)).isNone):=by rw [hq,Zau hil,Yf h9]
   refine Zb O (qR rr (qe 3 102 r1 r1 (qf (Zn (sz:=3) (zs:=[.int .i64 0,.bool false,.slice none 0 0]) (r:=[(0,.tmp 32)]) (l:=[_,_,_]) YbP kr kr kr kr Z Z (.agg Z .t kr kr .nil) Z) r1 qz (qf (o_append (sz:=3) (bs:=40) 50 (.mk' YbP kr kr) (by intro x;rfl) .is (.arr (l':=[(Nn l i)]) .t) (by simp only [Yc,Yl,Yq];omega) (by decide)) ⟨rfl,rfl,tv⟩ ⟨rfl,tv⟩ (qO rr qZ))))) V [16,15,14,9,8,7,2,1] [103,102,50,0] (fun _=>rfl) (fun _=>rfl) fun τ a w F O=>?_
   try dsimp only [RS.sub,SF.sub,CF.sub,csub,Anc.sub,List.map,Zd,xL,xM,Nat.reduceAdd,xD,xE,xT,xU,xC,xN,zCF,ldSF,Zl,rTx,Zv,ZY,Zs,rOp] at O
   generalize τ 34=v34 at O
   refine Zi (Za (rZ O (qp r1 (qR rr qZ)) V [16,15,14,9,8,7,2,1] [103,102,50,0] fun O=>?_))
   replace O:=O.ent (i:=16) (s':=.pv (.int .i64 ((i+1:Nat):Int))) Z (.int (Ze ow))
   obtain ⟨F,O⟩:=O.nM [15,14,8,7,2,1,9,16] [0,50]
   exact ⟨((i+1),_,_),F,⟨by omega,hst9⟩,O,by omega⟩
  have h9:(ZL TxD.id was (TxD.id (Nn l i))).isNone=false:=by have h8:(!(ZL TxD.id was (TxD.id (Nn l i))).isSome)=false:=hc1;cases e:(ZL TxD.id was (TxD.id (Nn l i))) with | none=>rw [e] at h8;cases h8 | some z=>rfl
  have hst9:out=((l.take (i+1)).filter fun x=>(ZL TxD.id was (TxD.id x)).isNone):=by rw [hq,Zau hil,Yb (by rw [h9];simp),YF]
  refine Yd (Zi (Za (rZ O (qp r1 (qR rr qZ)) V [16,15,14,9,8,7,2,1] [103,102,50,0] fun O=>?_)))
  replace O:=O.ent (i:=16) (s':=.pv (.int .i64 ((i+1:Nat):Int))) Z (.int (Ze ow))
  obtain ⟨F,O⟩:=O.nM [15,14,8,7,2,1,9,16] [0,50]
  exact ⟨((i+1),_,_),F,⟨by omega,hst9⟩,O,by omega⟩
 have hil:i=l.length:=by simp at hc0;omega
 have hq0:out=(l.filter fun x=>(ZL TxD.id was (TxD.id x)).isNone):=by rw [hq,hil,YE]
 have hg:Zak TxD.id (out++now)=Zev TxD.id l was now:=by rw [hq0];rfl
 refine Ym (Zg (Zg (Zo (Za (Ya (Zb O (qR rr (qR rr (qf (o_append (sz:=3) (bs:=40) 50 (.mk' YbP kr kr) (by intro x;rfl) .is (.sl .t) ow (by decide)) ⟨rfl,rfl,tv⟩ ⟨rfl,tv⟩ (qO rr qZ)))) V [9,8,7] [50,0] (fun _=>rfl) (fun _=>rfl) fun τ a w F O=>?_))))))
 try dsimp only [RS.sub,SF.sub,CF.sub,csub,Anc.sub,List.map,xC,xN,Zl,rTx,Zv,ZY,Zs,rOp] at O
 generalize τ 38=v38 at O
 refine Za (Ya (rZ O (qR rr (qf (ZcL (Args.one .t)) r1 qz (qf (ZW 50 (Zta v38 (out++now) (by rw [Yc];omega) (by rw [hq0];exact hu) 179 f179 [.ref [.clos 77 []]] func179 Z kr (fun x y=>Znq x y)) func178 Z kr (Args.two .t .t)) r2 r1 qZ))) V [9,8] [50,0] fun O=>Ya ?_))
 refine rZ O (qR rr (qO rr qZ)) V [8] [50,0] fun O=>Yh ?_
 obtain ⟨F,O⟩:=O.give 50 8 Z rfl
 refine ZB hfr O Z Z Z (.sl (by rw [hg]))
theorem Zni (x y:OrdD):FnP prog 181 [.agg (Zv x),.agg (Zv y),.ref [.clos 79 []]] (.int .i64 (Zdl (OrdD.key x) (OrdD.key y))):=by
 refine FnP.mk func181 Z ntmps181 Z fun B a w F V hfr O=>Ya ?_
 refine Zb O (qx 101 r1 (qx 102 r1 (qI qZ))) V [5,4,3,2] [102,101,0] (fun _=>rfl) (fun _=>rfl) fun τ a w F O=>?_
 try dsimp only [RS.sub,SF.sub,CF.sub,csub,Anc.sub,List.map,zCF,Zl,rTx,Zv,ZY,Zs,rOp] at O
 generalize τ 3=v3,τ 4=v4 at O
 refine Za (Ya (Zu O (qf (oR false 1 .t) r1 qz (qe 2 101 r1 r1 (qf (o_callClosP (avs:=[.agg (Zv x)]) .t (ZiD x) func79 Z kr (Args.one (.pagg .t))) r2 qz (qf (oR false 1 .t) r1 qz (qe 2 102 r1 r1 (qf (o_callClosP (avs:=[.agg (Zv y)]) .t (ZiD y) func79 Z kr (Args.one (.pagg .t))) r2 qz (qf (oP (ZrA (OrdD.key x) (OrdD.key y)) func108 (Args.two .t .t)) r2 qz (qO rr qZ)))))))) V [5] [102,101,0] Z Z fun a w F O=>?_))
 try dsimp only [List.map,xD,xE,xT,xU,ldSF,Zl,rTx,Zv,ZY,Zs,rOp] at O
 refine Za (Yh (ZB hfr O Z Z Z (.int Z)))
theorem Zo8 (l was now:List OrdD) (hll:l.length≤1000) (hnl:now.length≤1000) (hu:Unl OrdD.key ((l.filter fun x=>(ZL OrdD.key was (OrdD.key x)).isNone)++now)):FnP prog 114 [.sl Zv l,.sl Zv was,.sl Zv now,.clos 79 []] (.sl Zv (Zev OrdD.key l was now)):=by
 refine FnP.mk func114 Z ntmps114 Z fun B a w F V hfr O=>Ya ?_
 refine Zb O (qf (Zl8 101 .t Zmb) r1 qz (qC qZ)) V [8,7,2,1,0] [101,0] (fun _=>rfl) (fun _=>rfl) fun τ a w F O=>?_
 try dsimp only [RS.sub,SF.sub,CF.sub,csub,Anc.sub,List.map,zCF,Zl,rTx,Zv,ZY,Zs,rOp] at O
 generalize τ 7=v7 at O
 obtain ⟨F,O⟩:=O.giveRef 101 7 Z Z rfl
 obtain ⟨F,O⟩:=O.nM [8,7,2,1,0] [0]
 try dsimp only [Go.Gm.unCF] at O
 refine Za (Ya (rZ O (qC qZ) V [9,8,7,2,1,0] [0] fun O=>(Ya (Ya ?_))))
 refine rZ O (qR rr (qu YbQ r1 (qJ qZ))) V [16,15,14,9,8,7,2,1] [0] fun O=>Ye ?_
 replace O:=O.fresh 50 rfl
 replace O:=O.turn 50 Z (ZaC (T:=39) (sz:=2) (R:=Zv))
 refine Zk (σ:=(Nat)×(Value)×(List OrdD)) [1,2,7,8,14,15] [0] (fun s=>[(16,.pv (.int .i64 (s.1:Int))),(9,.pv (.is s.2.1))]) (fun s=>[(50,.ob (.val s.2.1) (ZO 39 2 Zv s.2.2))]) (fun s=>s.1≤l.length∧(s.2.2=((l.take s.1).filter fun x=>(ZL OrdD.key was (OrdD.key x)).isNone))) (fun s=>l.length - s.1) ((0),(.slice none 0 0),([])) O ⟨rfl,rfl,rfl,rfl,rfl,rfl,rfl,rfl,tv⟩ ⟨rfl,rfl,tv⟩ ⟨Yt _,rfl⟩ ?_
 clear O;intro s a w F hC O
 obtain ⟨i,v,out⟩:=s
 try dsimp only at hC
 obtain ⟨F,O⟩:=O.nM [16,15,14,9,8,7,2,1] [50,0]
 try dsimp only at O
 obtain ⟨hi,hq⟩:=hC
 have hol:out.length≤i:=by rw [hq];exact YW (YR _ _) (by rw [Yk];omega)
 refine Ya (rZ O (qL r2) V [17,16,15,14,9,8,7,2,1] [50,0] fun O=>Ya ?_)
 refine Zc O Z (fun hc0=>?_) (fun hc0=>?_)
 ·have hil:i<l.length:=by simp at hc0;omega
  refine Yd (Za (Ya (Ye (Ya (Zb O (qy 2 YbQ r2 (qf (oR true 2 .t) r1 qz (qf (oH [.int .i64 0,.slice none 0 0] 102) trivial qz (qS 2 102 r2 r1 qZ)))) V [16,15,14,11,9,8,7,2,1] [102,50,0] (fun _=>rfl) (fun _=>rfl) fun τ a w F O=>?_)))))
  try dsimp only [RS.sub,SF.sub,CF.sub,csub,Anc.sub,List.map,Zd,xL,xM,Nat.reduceAdd,xD,xE,xT,xU,xC,xN,zCF,ldSF,Zl,rTx,Zv,ZY,Zs,rOp] at O
  generalize τ 11=v11 at O
  try simp only [Yg] at O
  refine Za (Ya (ZaK O (qR rr (qf (oR false 1 .t) r1 qz (qe 2 102 r1 r1 (qf (o_callClosP (avs:=[.agg (Zv (Nn l i))]) .t (ZiD (Nn l i)) func79 Z kr (Args.one (.pagg .t))) r2 qz (qf (oR false 1 .t) r1 qz (qf (oP (Zi2 was (OrdD.key (Nn l i))) func142 (Args.three .t .t .t)) r3 qz (qR rr (qf (o_extract .t Z) r1 qz (qf (o_extract .t Z) r1 qz (qf (oH [.int .i64 0,.slice none 0 0] 103) trivial qz (qf (oA 2 103 .same (.conv .t .agg)) r2 r1 (qO rr qZ)))))))))))) V [16,15,14,13,11,9,8,7,2,1] [103,102,50,0] (fun _=>rfl) (fun _=>rfl) fun τ a w F O=>?_))
  try dsimp only [RS.sub,SF.sub,CF.sub,csub,Anc.sub,List.map,Zd,xL,xM,Nat.reduceAdd,xD,xE,xT,xU,xC,xN,zCF,ldSF,Zl,rTx,Zv,ZY,Zs,rOp] at O
  generalize τ 12=v12 at O
  refine Za (Ya (rZ O (qR rr (qf (Z1 .t) r1 qz qZ)) V [30,16,15,14,11,9,8,7,2,1] [103,102,50,0] fun O=>?_))
  refine Zc O Z (fun hc1=>?_) (fun hc1=>?_)
  ·have h9:(ZL OrdD.key was (OrdD.key (Nn l i))).isNone=true:=by have h8:(!(ZL OrdD.key was (OrdD.key (Nn l i))).isSome)=true:=hc1;cases e:(ZL OrdD.key was (OrdD.key (Nn l i))) with | none=>rfl | some z=>rw [e] at h8;cases h8
   have hst9:out ++ [(Nn l i)] = ((l.take (i+1)).filter fun x=>(ZL OrdD.key was (OrdD.key x)).isNone):=by rw [hq,Zau hil,Yf h9]
   refine Zb O (qR rr (qe 2 102 r1 r1 (qf (Zn (sz:=2) (zs:=[.int .i64 0,.slice none 0 0]) (r:=[(0,.tmp 32)]) (l:=[_,_]) YbQ kr kr kr kr Z Z (.agg Z .t kr kr .nil) Z) r1 qz (qf (o_append (sz:=2) (bs:=32) 50 (.mk' YbQ kr kr) (by intro x;rfl) .is (.arr (l':=[(Nn l i)]) .t) (by simp only [Yc,Yl,Yq];omega) (by decide)) ⟨rfl,rfl,tv⟩ ⟨rfl,tv⟩ (qO rr qZ))))) V [16,15,14,9,8,7,2,1] [103,102,50,0] (fun _=>rfl) (fun _=>rfl) fun τ a w F O=>?_
   try dsimp only [RS.sub,SF.sub,CF.sub,csub,Anc.sub,List.map,Zd,xL,xM,Nat.reduceAdd,xD,xE,xT,xU,xC,xN,zCF,ldSF,Zl,rTx,Zv,ZY,Zs,rOp] at O
   generalize τ 34=v34 at O
   refine Zi (Za (rZ O (qp r1 (qR rr qZ)) V [16,15,14,9,8,7,2,1] [103,102,50,0] fun O=>?_))
   replace O:=O.ent (i:=16) (s':=.pv (.int .i64 ((i+1:Nat):Int))) Z (.int (Ze ow))
   obtain ⟨F,O⟩:=O.nM [15,14,8,7,2,1,9,16] [0,50]
   exact ⟨((i+1),_,_),F,⟨by omega,hst9⟩,O,by omega⟩
  have h9:(ZL OrdD.key was (OrdD.key (Nn l i))).isNone=false:=by have h8:(!(ZL OrdD.key was (OrdD.key (Nn l i))).isSome)=false:=hc1;cases e:(ZL OrdD.key was (OrdD.key (Nn l i))) with | none=>rw [e] at h8;cases h8 | some z=>rfl
  have hst9:out=((l.take (i+1)).filter fun x=>(ZL OrdD.key was (OrdD.key x)).isNone):=by rw [hq,Zau hil,Yb (by rw [h9];simp),YF]
  refine Yd (Zi (Za (rZ O (qp r1 (qR rr qZ)) V [16,15,14,9,8,7,2,1] [103,102,50,0] fun O=>?_)))
  replace O:=O.ent (i:=16) (s':=.pv (.int .i64 ((i+1:Nat):Int))) Z (.int (Ze ow))
  obtain ⟨F,O⟩:=O.nM [15,14,8,7,2,1,9,16] [0,50]
  exact ⟨((i+1),_,_),F,⟨by omega,hst9⟩,O,by omega⟩
 have hil:i=l.length:=by simp at hc0;omega
 have hq0:out=(l.filter fun x=>(ZL OrdD.key was (OrdD.key x)).isNone):=by rw [hq,hil,YE]
 have hg:Zak OrdD.key (out++now)=Zev OrdD.key l was now:=by rw [hq0];rfl
 refine Ym (Zg (Zg (Zo (Za (Ya (Zb O (qR rr (qR rr (qf (o_append (sz:=2) (bs:=32) 50 (.mk' YbQ kr kr) (by intro x;rfl) .is (.sl .t) ow (by decide)) ⟨rfl,rfl,tv⟩ ⟨rfl,tv⟩ (qO rr qZ)))) V [9,8,7] [50,0] (fun _=>rfl) (fun _=>rfl) fun τ a w F O=>?_))))))
 try dsimp only [RS.sub,SF.sub,CF.sub,csub,Anc.sub,List.map,xC,xN,Zl,rTx,Zv,ZY,Zs,rOp] at O
 generalize τ 38=v38 at O
 refine Za (Ya (rZ O (qR rr (qf (ZcL (Args.one .t)) r1 qz (qf (ZW 50 (Zs4 v38 (out++now) (by rw [Yc];omega) (by rw [hq0];exact hu) 181 f181 [.ref [.clos 79 []]] func181 Z kr (fun x y=>Zni x y)) func180 Z kr (Args.two .t .t)) r2 r1 qZ))) V [9,8] [50,0] fun O=>Ya ?_))
 refine rZ O (qR rr (qO rr qZ)) V [8] [50,0] fun O=>Yh ?_
 obtain ⟨F,O⟩:=O.give 50 8 Z rfl
 refine ZB hfr O Z Z Z (.sl (by rw [hg]))
theorem ZqM (t:TxD) (hl:t.ops.length≤1000000):FnP prog 157 [.agg (rTx t)] (.agg (rTx t)):=by
 refine FnP.mk func157 Z ntmps157 Z fun B a w F V hfr O=>Ya ?_
 refine Zb O (qx 101 r1 (qf (oH [.int .i64 0,.bool false,.slice none 0 0] 102) trivial qz qZ)) V [2,1] [102,101,0] (fun _=>rfl) (fun _=>rfl) fun τ a w F O=>?_
 try dsimp only [RS.sub,SF.sub,CF.sub,csub,Anc.sub,List.map,zCF,Zl,rTx,Zv,ZY,Zs,rOp] at O
 generalize τ 1=v1,τ 2=v2 at O
 refine Za (Ya ?_)
 replace O:=O.fresh 103 rfl
 refine Zb O (qg 2 101 r1 r1 (qa 101 r1 r1 (qf (Zc3 103 (Zmh t.ops hl) func86 Z kr (Args.one .t) Zf1) r1 r1 (qg 2 101 r1 r1 (qf (ZbD 101 .adr kr kr) r2 r1 qZ))))) V [2,1] [103,102,101,0] (fun _=>rfl) (fun _=>rfl) fun τ a w F O=>?_
 try dsimp only [RS.sub,SF.sub,CF.sub,csub,Anc.sub,List.map,Zd,xL,xM,Nat.reduceAdd,xD,xE,xT,xU,xC,xN,zCF,ldSF,Zl,rTx,Zv,ZY,Zs,rOp] at O
 generalize τ 5=v5 at O
 obtain ⟨F,O⟩:=O.giveCell 103 101 2 Z Z Z Z rfl
 try dsimp only [List.set] at O
 obtain ⟨F,O⟩:=O.nM [2,1] [102,101,0]
 refine Za (Ya (rZ O (qe 3 101 r1 r1 (qs 3 102 r2 r1 qZ)) V [2] [102,101,0] fun O=>Yh ?_))
 refine Z3 hfr O Z (.cl 102 true 3 Z Z .nil) (.one (.aggU Z Z))
theorem Ztc (g:Zx) (id:Int) (hs:ZaW g.txs):FnP prog 258 [.agg (Zl g),.int .i64 id] (.tup [.agg (rTx ((Zbk g.txs id).getD zeroT)),.bool (Zbk g.txs id).isSome]):=by
 refine FnP.mk func258 Z ntmps258 Z fun B a w F V hfr O=>?_
 have hsl:=hs.1
 refine Ya (Zb O (qx 101 r1 (qf (oH [.int .i64 0,.bool false,.slice none 0 0] 102) trivial qz qB)) V [5,4,2,1] [102,101,0] (fun _=>rfl) (fun _=>rfl) fun τ a w F O=>?_)
 try dsimp only [RS.sub,SF.sub,CF.sub,csub,Anc.sub,List.map,zCF,Zl,rTx,Zv,ZY,Zs,rOp] at O
 generalize τ 2=v2,τ 4=v4 at O
 refine Za (Ya (Ya (rZ O (qg 0 101 r1 r1 (qa 101 r1 r1 (qu YbP r1 (qJ qZ)))) V [11,10,9,5,4,1] [102,101,0] fun O=>Ye ?_)))
 refine Zk (σ:=(Nat)) [1,4,5,9,10] [0,101,102] (fun s=>[(11,.pv (.int .i64 (s:Int)))]) (fun s=>[]) (fun s=>s≤g.txs.length∧(∀ k,k<s→(Nn g.txs k).id≠id)) (fun s=>g.txs.length - s) (0) O ⟨rfl,rfl,rfl,rfl,rfl,rfl,tv⟩ ⟨rfl,rfl,rfl,tv⟩ ⟨Yt _,fun k hk=>absurd hk (YJ k)⟩ ?_
 clear O;intro i a w F hC O
 try dsimp only at hC
 obtain ⟨F,O⟩:=O.nM [11,10,9,5,4,1] [102,101,0]
 try dsimp only at O
 obtain ⟨hi,hq⟩:=hC
 refine Ya (rZ O (qL r2) V [12,11,10,9,5,4,1] [102,101,0] fun O=>Ya ?_)
 refine Zc O Z (fun hc0=>?_) (fun hc0=>?_)
 ·have hil:i<g.txs.length:=by simp at hc0;omega
  refine Yd (Za (Ya (Ye (Ya (Zb O (qy 3 YbP r2 (qf (oR true 3 .t) r1 qz (qf (oH [.int .i64 0,.bool false,.slice none 0 0] 103) trivial qz (qS 3 103 r2 r1 qZ)))) V [11,10,9,7,5,4,1] [103,102,101,0] (fun _=>rfl) (fun _=>rfl) fun τ a w F O=>?_)))))
  try dsimp only [RS.sub,SF.sub,CF.sub,csub,Anc.sub,List.map,Zd,xL,xM,Nat.reduceAdd,xD,xE,xT,xU,xC,xN,zCF,ldSF,Zl,rTx,Zv,ZY,Zs,rOp] at O
  generalize τ 7=v7 at O
  try simp only [Yg] at O
  refine Za (Ya (rZ O (qg 0 103 r1 r1 (qa 103 r1 r1 (qR rr (qf (o_eql .t .t) r2 qz qZ)))) V [18,11,10,9,7,5,4,1] [103,102,101,0] fun O=>?_))
  refine Zc O Z (fun hc1=>?_) (fun hc1=>?_)
  ·have hg:Zbk g.txs id=some (Nn g.txs i):=ZmZ hil (by simpa using hc1) hq
   refine Ya (rZ O (qe 3 103 r1 r1 (qf (oP (ZqM (Nn g.txs i) (by have:=hs.at hil;omega)) func157 (Args.one (.pagg .t))) r1 qz (qf (oA 3 102 .is (.conv .t .agg)) r2 r1 qB))) V [11,10,9,5,4,1] [103,102,101,0] fun O=>(Yh (Zr (Zf (Zf (Zr (Zf ?_)))))))
   refine Z3 hfr O Z (.cl 102 true 3 Z Z (.tmp Z .nil)) (.two (by rw [hg];first | exact .aggU Z Z | exact .aggLe Z ⟨.refl,.refl,.nilSl,tv⟩) (.bool (by rw [hg];rfl)))
  have hne:(Nn g.txs i).id≠id:=by simpa using hc1
  refine Yd (Zi (Za (rZ O (qp r1 (qR rr qZ)) V [11,10,9,5,4,1] [103,102,101,0] fun O=>?_)))
  replace O:=O.ent (i:=11) (s':=.pv (.int .i64 ((i+1:Nat):Int))) Z (.int (Ze ow))
  obtain ⟨F,O⟩:=O.nM [10,9,5,4,1,11] [102,101,0]
  exact ⟨(i+1),F,⟨by omega,(fun k hk=>by rcases Yy (YD hk) with h9 | h9;exact hq k h9;rw [h9];exact hne)⟩,O,by omega⟩
 have hil:i=g.txs.length:=by simp at hc0;omega
 have hg:Zbk g.txs id=none:=Ziq (by rw [← hil];exact hq)
 refine Ym (Zg (Zg (Zo (Za (Ya (rZ O (qf (oB [] [.int .i64 0,.bool false,.slice none 0 0] [(0,1),(1,1),(2,1)] .nil) trivial qz (qs 3 102 r2 r1 qB)) V [5,4] [102,101,0] fun O=>Yh ?_))))))
 refine Z3 hfr O Z (.cl 102 true 3 Z Z (.tmp Z .nil)) (.two (by rw [hg];first | exact .aggU Z Z | exact .aggLe Z ⟨.refl,.refl,.nilSl,tv⟩) (.bool (by rw [hg];rfl)))
theorem ZdQ (g:Zx) (id:Int) (hs:ZaW g.txs):FnP prog 12 [.agg (Zl g),.int .i64 id] (.tup [.agg (rTx ((Zbk g.txs id).getD zeroT)),.bool (Zbk g.txs id).isSome]):=by
 refine FnP.mk func12 Z ntmps12 Z fun B a w F V hfr O=>?_
 have hsl:=hs.1
 refine Ya (Zb O (qx 101 r1 (qf (oH [.int .i64 0,.bool false,.slice none 0 0] 102) trivial qz qB)) V [5,4,2,1] [102,101,0] (fun _=>rfl) (fun _=>rfl) fun τ a w F O=>?_)
 try dsimp only [RS.sub,SF.sub,CF.sub,csub,Anc.sub,List.map,zCF,Zl,rTx,Zv,ZY,Zs,rOp] at O
 generalize τ 2=v2,τ 4=v4 at O
 refine Za (Ya (Ya (rZ O (qg 0 101 r1 r1 (qa 101 r1 r1 (qu YbP r1 (qJ qZ)))) V [11,10,9,5,4,1] [102,101,0] fun O=>Ye ?_)))
 refine Zk (σ:=(Nat)) [1,4,5,9,10] [0,101,102] (fun s=>[(11,.pv (.int .i64 (s:Int)))]) (fun s=>[]) (fun s=>s≤g.txs.length∧(∀ k,k<s→(Nn g.txs k).id≠id)) (fun s=>g.txs.length - s) (0) O ⟨rfl,rfl,rfl,rfl,rfl,rfl,tv⟩ ⟨rfl,rfl,rfl,tv⟩ ⟨Yt _,fun k hk=>absurd hk (YJ k)⟩ ?_
 clear O;intro i a w F hC O
 try dsimp only at hC
 obtain ⟨F,O⟩:=O.nM [11,10,9,5,4,1] [102,101,0]
 try dsimp only at O
 obtain ⟨hi,hq⟩:=hC
 refine Ya (rZ O (qL r2) V [12,11,10,9,5,4,1] [102,101,0] fun O=>Ya ?_)
 refine Zc O Z (fun hc0=>?_) (fun hc0=>?_)
 ·have hil:i<g.txs.length:=by simp at hc0;omega
  refine Yd (Za (Ya (Ye (Ya (Zb O (qy 3 YbP r2 (qf (oR true 3 .t) r1 qz (qf (oH [.int .i64 0,.bool false,.slice none 0 0] 103) trivial qz (qS 3 103 r2 r1 qZ)))) V [11,10,9,7,5,4,1] [103,102,101,0] (fun _=>rfl) (fun _=>rfl) fun τ a w F O=>?_)))))
  try dsimp only [RS.sub,SF.sub,CF.sub,csub,Anc.sub,List.map,Zd,xL,xM,Nat.reduceAdd,xD,xE,xT,xU,xC,xN,zCF,ldSF,Zl,rTx,Zv,ZY,Zs,rOp] at O
  generalize τ 7=v7 at O
  try simp only [Yg] at O
  refine Za (Ya (rZ O (qg 0 103 r1 r1 (qa 103 r1 r1 (qR rr (qf (o_eql .t .t) r2 qz qZ)))) V [18,11,10,9,7,5,4,1] [103,102,101,0] fun O=>?_))
  refine Zc O Z (fun hc1=>?_) (fun hc1=>?_)
  ·have hg:Zbk g.txs id=some (Nn g.txs i):=ZmZ hil (by simpa using hc1) hq
   refine Ya (rZ O (qe 3 103 r1 r1 (qs 3 102 r2 r1 qB)) V [11,10,9,5,4,1] [103,102,101,0] fun O=>(Yh (Zr (Zf (Zf (Zr (Zf ?_)))))))
   refine Z3 hfr O Z (.cl 102 true 3 Z Z (.tmp Z .nil)) (.two (by rw [hg];first | exact .aggU Z Z | exact .aggLe Z ⟨.refl,.refl,.nilSl,tv⟩) (.bool (by rw [hg];rfl)))
  have hne:(Nn g.txs i).id≠id:=by simpa using hc1
  refine Yd (Zi (Za (rZ O (qp r1 (qR rr qZ)) V [11,10,9,5,4,1] [103,102,101,0] fun O=>?_)))
  replace O:=O.ent (i:=11) (s':=.pv (.int .i64 ((i+1:Nat):Int))) Z (.int (Ze ow))
  obtain ⟨F,O⟩:=O.nM [10,9,5,4,1,11] [102,101,0]
  exact ⟨(i+1),F,⟨by omega,(fun k hk=>by rcases Yy (YD hk) with h9 | h9;exact hq k h9;rw [h9];exact hne)⟩,O,by omega⟩
 have hil:i=g.txs.length:=by simp at hc0;omega
 have hg:Zbk g.txs id=none:=Ziq (by rw [← hil];exact hq)
 refine Ym (Zg (Zg (Zo (Za (Ya (rZ O (qf (oB [] [.int .i64 0,.bool false,.slice none 0 0] [(0,1),(1,1),(2,1)] .nil) trivial qz (qs 3 102 r2 r1 qB)) V [5,4] [102,101,0] fun O=>Yh ?_))))))
 refine Z3 hfr O Z (.cl 102 true 3 Z Z (.tmp Z .nil)) (.two (by rw [hg];first | exact .aggU Z Z | exact .aggLe Z ⟨.refl,.refl,.nilSl,tv⟩) (.bool (by rw [hg];rfl)))
theorem ZtX (g:Zx) (v:ZcF) (hs:ZaW g.txs):FnP prog 211 [.agg (Zl g),.agg (ZY v)] (.bool (Zgc g v)):=by
 refine FnP.mk func211 Z ntmps211 Z fun B a w F V hfr O=>Ya ?_
 refine Zb O (qx 101 r1 (qx 102 r1 qB)) V [4,3,2] [102,101,0] (fun _=>rfl) (fun _=>rfl) fun τ a w F O=>?_
 try dsimp only [RS.sub,SF.sub,CF.sub,csub,Anc.sub,List.map,zCF,Zl,rTx,Zv,ZY,Zs,rOp] at O
 generalize τ 2=v2,τ 3=v3 at O
 refine Za (Ya (Ya (rZ O (qg 0 102 r1 r1 (qa 102 r1 r1 (qf (o_eql .t qi) r1 qz (qR rr (qv 2 102 Z r2 r1 (qw 102 Z r2 r1 (qk Z (fun h=>o_eql (.w h) qi) r2 qz (qf (ZJ .t .t) r2 qz qZ)))))))) V [14,4,3,2] [102,101,0] fun O=>?_)))
 refine Zc O Z (fun hc0=>?_) (fun hc0=>?_)
 ·have h0:(v.tx=0∧v.nth=0):=by simpa using hc0
  have hu:Zgc g v=decide (1≤v.key∧v.key≤1048575):=by unfold Zgc;rw [Yf h0]
  refine Ya (rZ O (qg 1 102 r1 r1 (qa 102 r1 r1 (qf (Zcx .t qi) r1 qz (qR rr (qv 1 102 Z r2 r1 (qw 102 Z r2 r1 (qk Z (fun h=>ZhO (.w h) qi) r2 qz (qf (ZJ .t .t) r2 qz (qO rr qZ))))))))) V [4,3,2] [102,101,0] fun O=>(Yh (Zf ?_)))
  refine ZB hfr O Z Z Z (.bool (by first | (rw [hu,Ya7];done) | (rw [hu];unfold idB;rw [Ya7];done) | (unfold Zgc wcnt;rw [Yb h0,Bool.and_assoc])))
 have h0:¬ (v.tx=0∧v.nth=0):=by simpa using hc0
 have hfl:((Zbk g.txs v.tx).getD zeroT).ops.length≤1000:=by cases hf:Zbk g.txs v.tx with | none=>simp [zeroT] | some t=>exact hs.2 _ (findT_mem hf).1
 refine Yd (Za (Ya (Zb O (qe 2 101 r1 r1 (qg 0 102 r1 r1 (qa 102 r1 r1 (qf (oP (Ztc g v.tx hs) func258 (Args.two (.pagg .t) .t)) r2 qz (qR rr (qf (o_extract .t Z) r1 qz (qf (o_extract .t Z) r1 qz (qf (oH [.int .i64 0,.bool false,.slice none 0 0] 103) trivial qz (qf (oA 3 103 .same (.conv .t .agg)) r2 r1 (qO rr qZ)))))))))) V [6,5,4,3] [103,102,101,0] (fun _=>rfl) (fun _=>rfl) fun τ a w F O=>?_)))
 try dsimp only [RS.sub,SF.sub,CF.sub,csub,Anc.sub,List.map,Zd,xL,xM,Nat.reduceAdd,xD,xE,xT,xU,xC,xN,zCF,ldSF,Zl,rTx,Zv,ZY,Zs,rOp] at O
 generalize τ 5=v5 at O
 refine Za (Ya (Zu O (qR rr (qR rr (qv 2 102 Z r2 r1 (qw 102 Z r2 r1 (qk Z (fun h=>Zcx (.w h) qi) r2 qz (qf (ZJ .t .t) r2 qz (qR rr (qk Z (fun h=>oL true 3 103 .is) r2 r1 (qv 1 102 Z r2 r1 (qw 102 Z r2 r1 (qk Z (fun h=>oP (Zn2 ((Zbk g.txs v.tx).getD zeroT) v.key ow) func87 (Args.two (.pagg (.w h)) (.w h))) r3 qz (qv 2 102 Z r2 r1 (qw 102 Z r2 r1 (qk Z (fun h=>Zcx (.w h) (.w h)) r3 qz (qf (ZJ .t .t) r2 qz (qO rr qZ)))))))))))))))) V [4] [103,102,101,0] Z Z fun a w F O=>?_))
 try dsimp only [List.map,xD,xE,xT,xU,ldSF,Zl,rTx,Zv,ZY,Zs,rOp] at O
 refine Za (Yh (ZB hfr O Z Z Z (.bool (by first | (rw [hu,Ya7];done) | (rw [hu];unfold idB;rw [Ya7];done) | (unfold Zgc wcnt;rw [Yb h0,Bool.and_assoc])))))
theorem Zqj (g:Zx) (v:ZcF) (hs:ZaW g.txs):FnP prog 199 [.agg (Zl g),.agg (ZY v)] (.bool (Zgc g v)):=by
 refine FnP.mk func199 Z ntmps199 Z fun B a w F V hfr O=>Ya ?_
 refine Zb O (qx 101 r1 (qx 102 r1 qB)) V [4,3,2] [102,101,0] (fun _=>rfl) (fun _=>rfl) fun τ a w F O=>?_
 try dsimp only [RS.sub,SF.sub,CF.sub,csub,Anc.sub,List.map,zCF,Zl,rTx,Zv,ZY,Zs,rOp] at O
 generalize τ 2=v2,τ 3=v3 at O
 refine Za (Ya (Ya (rZ O (qg 0 102 r1 r1 (qa 102 r1 r1 (qf (o_eql .t qi) r1 qz (qR rr (qv 2 102 Z r2 r1 (qw 102 Z r2 r1 (qk Z (fun h=>o_eql (.w h) qi) r2 qz (qf (ZJ .t .t) r2 qz qZ)))))))) V [14,4,3,2] [102,101,0] fun O=>?_)))
 refine Zc O Z (fun hc0=>?_) (fun hc0=>?_)
 ·have h0:(v.tx=0∧v.nth=0):=by simpa using hc0
  have hu:Zgc g v=decide (1≤v.key∧v.key≤1048575):=by unfold Zgc;rw [Yf h0]
  refine Ya (rZ O (qg 1 102 r1 r1 (qa 102 r1 r1 (qf (oP (ZfE v.key) func195 (Args.one .t)) r1 qz (qO rr qZ)))) V [4,3,2] [102,101,0] fun O=>(Yh (Zf ?_)))
  refine ZB hfr O Z Z Z (.bool (by first | (rw [hu,Ya7];done) | (rw [hu];unfold idB;rw [Ya7];done) | (unfold Zgc wcnt;rw [Yb h0,Bool.and_assoc])))
 have h0:¬ (v.tx=0∧v.nth=0):=by simpa using hc0
 have hfl:((Zbk g.txs v.tx).getD zeroT).ops.length≤1000:=by cases hf:Zbk g.txs v.tx with | none=>simp [zeroT] | some t=>exact hs.2 _ (findT_mem hf).1
 refine Yd (Za (Ya (Zb O (qe 2 101 r1 r1 (qg 0 102 r1 r1 (qa 102 r1 r1 (qf (oP (ZdQ g v.tx hs) func12 (Args.two (.pagg .t) .t)) r2 qz (qR rr (qf (o_extract .t Z) r1 qz (qf (o_extract .t Z) r1 qz (qf (oH [.int .i64 0,.bool false,.slice none 0 0] 103) trivial qz (qf (oA 3 103 .same (.conv .t .agg)) r2 r1 (qO rr qZ)))))))))) V [6,5,4,3] [103,102,101,0] (fun _=>rfl) (fun _=>rfl) fun τ a w F O=>?_)))
 try dsimp only [RS.sub,SF.sub,CF.sub,csub,Anc.sub,List.map,Zd,xL,xM,Nat.reduceAdd,xD,xE,xT,xU,xC,xN,zCF,ldSF,Zl,rTx,Zv,ZY,Zs,rOp] at O
 generalize τ 5=v5 at O
 refine Za (Ya (Zu O (qR rr (qR rr (qv 2 102 Z r2 r1 (qw 102 Z r2 r1 (qk Z (fun h=>Zcx (.w h) qi) r2 qz (qf (ZJ .t .t) r2 qz (qR rr (qv 2 103 Z r2 r1 (qw 103 Z r2 r1 (qv 1 102 Z r2 r1 (qw 102 Z r2 r1 (qk Z (fun h=>oP (Zdp ((Zbk g.txs v.tx).getD zeroT).ops v.key ow) func197 (Args.two (.w h) (.w h))) r3 qz (qv 2 102 Z r2 r1 (qw 102 Z r2 r1 (qk Z (fun h=>Zcx (.w h) (.w h)) r3 qz (qf (ZJ .t .t) r2 qz (qO rr qZ))))))))))))))))) V [4] [103,102,101,0] Z Z fun a w F O=>?_))
 try dsimp only [List.map,xD,xE,xT,xU,ldSF,Zl,rTx,Zv,ZY,Zs,rOp] at O
 refine Za (Yh (ZB hfr O Z Z Z (.bool (by first | (rw [hu,Ya7];done) | (rw [hu];unfold idB;rw [Ya7];done) | (unfold Zgc wcnt;rw [Yb h0,Bool.and_assoc])))))
theorem Zot {α:Type} [Inhabited α] {p:α→Bool} {l:List α} : decide (0≤Zb6 p l)=l.any p:=by
 rcases ZjU p l with ⟨h1,h2⟩ | ⟨i,h1,h2,h3,h4⟩
 ·rw [h1,Y8,show decide ((0:Int) ≤ -1)=false by decide,Ya5]
  intro x hx
  obtain ⟨k,hk,e⟩:=YH hx
  have:=h2 k hk
  rw [Zy hk,e] at this
  simp [this]
 ·rw [h1,show decide ((0:Int)≤(i:Int))=true by simp,Y8,Ya9]
  exact ⟨_,ZU h2,h3⟩
theorem ZrV {α:Type} {p:α→Bool} {l:List α} : (!l.any fun v=>!p v)=l.all p:=by
 induction l with
 | nil=>rfl
 | cons x l ih=>rw [List.any_cons,List.all_cons,← ih];cases p x <;> simp
theorem Zsw (l : List ZcF) (p : ZcF → Bool) (f : FuncId) (fn : Func) (cps : List PV) (hf : prog.funcs[f]? = some fn) (hb : fn.body.isSome = true) (hnn : (fn.name == "runtime.NumGoroutine") = false) (hw : ∀ x, FnP prog f (.agg (ZY x) :: cps) (.bool (p x))) : FnP prog 257 [.sl ZY l, .clos f cps] (.int .i64 (Zb6 p l)) := by
 refine FnP.mk func257 Z ntmps257 Z fun B a w F V hfr O=>?_
 have hll:=Sat.lenSl O (i:=0) rfl
 refine Ya (rZ O (qI qZ) V [4,1,0] [0] fun O=>(Ya (Ya ?_)))
 refine rZ O (qR rr (qu YbW r1 (qJ qZ))) V [8,7,4,1,0] [0] fun O=>Ye ?_
 refine Zk (σ:=(Nat)) [0,1,4,7] [0] (fun s=>[(8,.pv (.int .i64 (s:Int)))]) (fun s=>[]) (fun s=>s≤l.length∧(∀ k,k<s→p (Nn l k)=false)) (fun s=>l.length - s) (0) O ⟨rfl,rfl,rfl,rfl,rfl,tv⟩ ⟨rfl,tv⟩ ⟨Yt _,fun k hk=>absurd hk (YJ k)⟩ ?_
 clear O;intro i a w F hC O
 try dsimp only at hC
 obtain ⟨F,O⟩:=O.nM [8,7,4,1,0] [0]
 try dsimp only at O
 obtain ⟨hi,hq⟩:=hC
 refine Ya (rZ O (qL r2) V [9,8,7,4,1,0] [0] fun O=>Ya ?_)
 refine Zc O Z (fun hc0=>?_) (fun hc0=>?_)
 ·skip
  have hil:i<l.length:=by simp at hc0;omega
  refine Yd (Za (Ya (Ye (Ya (rZ O (qR rr (qO rr qZ)) V [8,7,5,4,1,0] [0] fun O=>Ya ?_)))))
  refine Zh O (qR rr (qR rr (qR rr (qy 3 YbW r2 (qf (oR true 3 .t) r1 qz (qf (o_callClosP (avs:=[.agg (ZY (Nn l i))]) .t (hw (Nn l i)) hf hb hnn (Args.one (.pagg .t))) r2 qz qZ)))))) V [16,8,7,5,4,1,0] [0] Z Z fun a w F O=>?_
  try simp only [Yg] at O
  refine Za (Zc O Z (fun hc1=>?_) (fun hc1=>?_))
  ·skip
   have hg:(i:Int)=Zb6 p l:=(ZnB hil hc1 hq).symm
   refine Ya (rZ O (qR rr (qO rr qZ)) V [8,7,4,1,0] [0] fun O=>(Yh (Zr (Zf (Zf (Zr (Zf ?_)))))))
   refine ZB hfr O Z Z Z (.int hg)
  have hne:p (Nn l i)=false:=hc1
  refine Yd (Zi (Za (rZ O (qp r1 (qR rr qZ)) V [8,7,4,1,0] [0] fun O=>?_)))
  replace O:=O.ent (i:=8) (s':=.pv (.int .i64 ((i+1:Nat):Int))) Z (.int (Ze ow))
  obtain ⟨F,O⟩:=O.nM [7,4,1,0,8] [0]
  exact ⟨(i+1),F,⟨by omega,(fun k hk=>by rcases Yy (YD hk) with h | h;exact hq k h;rw [h];exact hne)⟩,O,by omega⟩
 have hil:i=l.length:=by simp at hc0;omega
 have hg : -1=Zb6 p l:=(ZkH fun k hk=>hq k (by simp at hc0;omega)).symm
 refine Ym (Zg (Zg (Zo (Za (Ya (rZ O (qI qZ) V [4] [0] fun O=>Yh ?_))))))
 refine ZB hfr O Z Z Z (.int hg)
theorem Zsv (l : List ZcF) (p : ZcF → Bool) (f : FuncId) (fn : Func) (cps : List PV) (hf : prog.funcs[f]? = some fn) (hb : fn.body.isSome = true) (hnn : (fn.name == "runtime.NumGoroutine") = false) (hw : ∀ x, FnP prog f (.agg (ZY x) :: cps) (.bool (p x))) : FnP prog 209 [.sl ZY l, .clos f cps] (.bool (l.any p)) := by
 refine FnP.mk func209 Z ntmps209 Z fun B a w F V hfr O=>Ya ?_
 refine rZ O qB V [4,1,0] [0] fun O=>Ya ?_
 refine rZ O (qR rr (qR rr (qf (oP (Zsw l p f fn cps hf hb hnn hw) func257 (Args.two .t .t)) r2 qz (qf (Zcx .t qi) r1 qz (qO rr qZ))))) V [4] [0] fun O=>Yh ?_
 refine ZB hfr O Z Z Z (.bool (by rw [Zot]))
theorem Zof (v:ZcF) (g:Zx) (hs:ZaW g.txs):FnP prog 210 [.agg (ZY v),.ref (Zl g)] (.bool (!Zgc g v)):=by
 refine FnP.mk func210 Z ntmps210 Z fun B a w F V hfr O=>Ya ?_
 refine Zb O (qx 101 r1 qB) V [3,2,1] [101,0] (fun _=>rfl) (fun _=>rfl) fun τ a w F O=>?_
 try dsimp only [RS.sub,SF.sub,CF.sub,csub,Anc.sub,List.map,zCF,Zl,rTx,Zv,ZY,Zs,rOp] at O
 generalize τ 2=v2 at O
 refine Za (Ya (rZ O (qf (oR true 2 .t) r1 qz (qe 3 101 r1 r1 (qf (oP (ZtX g v hs) func211 (Args.two (.pagg .t) (.pagg .t))) r2 qz (qf (Z1 .t) r1 qz (qO rr qZ))))) V [3] [101,0] fun O=>Yh ?_))
 refine ZB hfr O Z Z Z .refl
theorem Zrj (g:Zx) (t:TxD) (hs:ZaW g.txs) (ht:t.ops.length≤1000):FnP prog 139 [.agg (Zl g),.agg (rTx t)] (.bool (Za3 g t)):=by
 refine FnP.mk func139 Z ntmps139 Z fun B a w F V hfr O=>Ya ?_
 refine Zb O (qx 101 r1 (qx 102 r1 qB)) V [4,3,2] [102,101,0] (fun _=>rfl) (fun _=>rfl) fun τ a w F O=>?_
 try dsimp only [RS.sub,SF.sub,CF.sub,csub,Anc.sub,List.map,zCF,Zl,rTx,Zv,ZY,Zs,rOp] at O
 generalize τ 2=v2,τ 3=v3 at O
 refine Za (Ya (Zbo 2 O kr (cG Z (oL true 3 102 .is) r1 r1 (cG Z (oP (Zoa t ow) func84 (Args.one (.pagg .t))) r1 trivial Zaz.nil)) kr (by rw [V];kernel_rfl) fun a w F O=>?_))
 obtain ⟨F,O⟩:=O.nM [6,4,2] [102,101,0]
 try dsimp only [List.map,xD,xE,xT,xU,ldSF,Zl,rTx,Zv,ZY,Zs,rOp] at O
 obtain ⟨F,O⟩:=O.giveRef 101 2 Z Z rfl
 obtain ⟨F,O⟩:=O.nM [6,4,2] [102,0]
 try dsimp only [Go.Gm.unCF] at O
 refine ZbZ O kr (cG Z (ZcL (Args.one .t)) r1 trivial (cG Z (oP (Zsv (ZaB t) (fun v=>!Zgc g v) 210 f210 [.ref (Zl g)] func210 Z kr (fun v=>Zof v g hs)) func209 (Args.two .t .t)) r2 trivial (cG Z (Z1 .t) r1 trivial (cG Z (oN .t) r1 trivial Zaz.nil)))) kr (by rw [V];kernel_rfl) fun a w F O=>?_
 obtain ⟨F,O⟩:=O.nM [4] [102,0]
 try dsimp only [Zl,rTx,Zv,ZY,Zs,rOp] at O
 refine Za (Yh (ZB hfr O Z Z Z (.bool (by rw [ZrV];rfl))))
theorem Zew (g:Zx) (t:TxD) (hs:ZaW g.txs) (ht:t.ops.length≤1000):FnP prog 132 [.agg (Zl g),.agg (rTx t)] (.bool (Za3 g t)):=by
 refine FnP.mk func132 Z ntmps132 Z fun B a w F V hfr O=>?_
 have hnl:(ZaB t).length≤1000:=by have:=ZdU t.id t.ops t.ops.length;rw [YE] at this;unfold ZaB;omega
 refine Ya (Zb O (qx 101 r1 (qx 102 r1 qB)) V [4,3,2] [102,101,0] (fun _=>rfl) (fun _=>rfl) fun τ a w F O=>?_)
 try dsimp only [RS.sub,SF.sub,CF.sub,csub,Anc.sub,List.map,zCF,Zl,rTx,Zv,ZY,Zs,rOp] at O
 generalize τ 2=v2,τ 3=v3 at O
 refine Za (Ya (Ya (rZ O (qe 3 102 r1 r1 (qf (oP (Zh1 t ow) func198 (Args.one (.pagg .t))) r1 qz (qu YbW r1 (qJ qZ)))) V [10,9,8,4,2] [102,101,0] fun O=>Ye ?_)))
 refine Zk (σ:=(Nat)) [2,4,8,9] [0,101,102] (fun s=>[(10,.pv (.int .i64 (s:Int)))]) (fun s=>[]) (fun s=>s≤(ZaB t).length∧(∀ k,k<s→Zgc g (Nn (ZaB t) k)=true)) (fun s=>(ZaB t).length - s) (0) O ⟨rfl,rfl,rfl,rfl,rfl,tv⟩ ⟨rfl,rfl,rfl,tv⟩ ⟨Yt _,fun k hk=>absurd hk (YJ k)⟩ ?_
 clear O;intro i a w F hC O
 try dsimp only at hC
 obtain ⟨F,O⟩:=O.nM [10,9,8,4,2] [102,101,0]
 try dsimp only at O
 obtain ⟨hi,hq⟩:=hC
 refine Ya (rZ O (qL r2) V [11,10,9,8,4,2] [102,101,0] fun O=>Ya ?_)
 refine Zc O Z (fun hc0=>?_) (fun hc0=>?_)
 ·have hil:i<(ZaB t).length:=by simp at hc0;omega
  refine Yd (Za (Ya (Ye (Ya (Zb O (qy 3 YbW r2 (qf (oR true 3 .t) r1 qz (qf (oH [.int .i64 0,.int .i64 0,.int .i64 0] 103) trivial qz (qS 3 103 r2 r1 qZ)))) V [10,9,8,6,4,2] [103,102,101,0] (fun _=>rfl) (fun _=>rfl) fun τ a w F O=>?_)))))
  try dsimp only [RS.sub,SF.sub,CF.sub,csub,Anc.sub,List.map,Zd,xL,xM,Nat.reduceAdd,xD,xE,xT,xU,xC,xN,zCF,ldSF,Zl,rTx,Zv,ZY,Zs,rOp] at O
  generalize τ 6=v6 at O
  try simp only [Yg] at O
  refine Za (Ya (rZ O (qe 2 101 r1 r1 (qe 3 103 r1 r1 (qf (oP (Zqj g (Nn (ZaB t) i) hs) func199 (Args.two (.pagg .t) (.pagg .t))) r2 qz (qf (Z1 .t) r1 qz qZ)))) V [17,10,9,8,4,2] [103,102,101,0] fun O=>?_))
  refine Zc O Z (fun hc1=>?_) (fun hc1=>?_)
  ·have hg:false=Za3 g t:=(ZjL hil (by simpa using hc1)).symm
   refine Ya (rZ O qB V [10,9,8,4,2] [103,102,101,0] fun O=>(Yh (Zr (Zf (Zf (Zr (Zf ?_)))))))
   refine ZB hfr O Z Z Z (.bool hg)
  have hne:Zgc g (Nn (ZaB t) i)=true:=by simpa using hc1
  refine Yd (Zi (Za (rZ O (qp r1 (qR rr qZ)) V [10,9,8,4,2] [103,102,101,0] fun O=>?_)))
  replace O:=O.ent (i:=10) (s':=.pv (.int .i64 ((i+1:Nat):Int))) Z (.int (Ze ow))
  obtain ⟨F,O⟩:=O.nM [9,8,4,2,10] [102,101,0]
  exact ⟨(i+1),F,⟨by omega,(fun k hk=>by rcases Yy (YD hk) with h9 | h9;exact hq k h9;rw [h9];exact hne)⟩,O,by omega⟩
 have hil:i=(ZaB t).length:=by simp at hc0;omega
 have hg:true=Za3 g t:=(Zlx (by rw [← hil];exact hq)).symm
 refine Ym (Zg (Zg (Zo (Za (Ya (rZ O qB V [4] [102,101,0] fun O=>Yh ?_))))))
 refine ZB hfr O Z Z Z (.bool hg)
theorem Zkx (g:Zx) (k:Int) (hs:ZaW g.txs):FnP prog 192 [.agg (Zl g),.int .i64 k] (.sl Zs (Zad g.txs k)):=by
 refine FnP.mk func192 Z ntmps192 Z fun B a w F V hfr O=>?_
 have hsl:=hs.1
 refine Ya (Zb O (qx 101 r1 (qC qZ)) V [4,2,1] [101,0] (fun _=>rfl) (fun _=>rfl) fun τ a w F O=>?_)
 try dsimp only [RS.sub,SF.sub,CF.sub,csub,Anc.sub,List.map,zCF,Zl,rTx,Zv,ZY,Zs,rOp] at O
 generalize τ 2=v2 at O
 refine Za (Ya (rZ O (qC qZ) V [5,4,2,1] [101,0] fun O=>(Ya (Ya ?_))))
 refine rZ O (qg 0 101 r1 r1 (qa 101 r1 r1 (qu YbP r1 (qJ qZ)))) V [11,10,9,5,4,1] [101,0] fun O=>Ye ?_
 replace O:=O.fresh 50 rfl
 replace O:=O.turn 50 Z (ZaC (T:=3) (sz:=1) (R:=Zs))
 refine Zk (σ:=(Nat)×(Value)×(List Int)) [1,4,9,10] [0,101] (fun s=>[(11,.pv (.int .i64 (s.1:Int))),(5,.pv (.is s.2.1))]) (fun s=>[(50,.ob (.val s.2.1) (ZO 3 1 Zs s.2.2))]) (fun s=>s.1≤g.txs.length∧(s.2.2=Zad (g.txs.take s.1) k)) (fun s=>g.txs.length - s.1) ((0),(.slice none 0 0),([])) O ⟨rfl,rfl,rfl,rfl,rfl,rfl,tv⟩ ⟨rfl,rfl,rfl,tv⟩ ⟨Yt _,rfl⟩ ?_
 clear O;intro s a w F hC O
 obtain ⟨i,v,out⟩:=s
 try dsimp only at hC
 obtain ⟨F,O⟩:=O.nM [11,10,9,5,4,1] [101,50,0]
 try dsimp only at O
 obtain ⟨hi,hq⟩:=hC
 have hol:out.length≤i:=by rw [hq];exact YW (Zb0 _ _) (by rw [Yk];omega)
 have hxl:=fun hil:i<g.txs.length=>hs.at hil
 refine Ya (rZ O (qL r2) V [12,11,10,9,5,4,1] [101,50,0] fun O=>Ya ?_)
 refine Zc O Z (fun hc0=>?_) (fun hc0=>?_)
 ·have hil:i<g.txs.length:=by simp at hc0;omega
  refine Yd (Za (Ya (Ye (Ya (Zb O (qy 3 YbP r2 (qf (oR true 3 .t) r1 qz (qf (oH [.int .i64 0,.bool false,.slice none 0 0] 102) trivial qz (qS 3 102 r2 r1 qZ)))) V [11,10,9,7,5,4,1] [102,101,50,0] (fun _=>rfl) (fun _=>rfl) fun τ a w F O=>?_)))))
  try dsimp only [RS.sub,SF.sub,CF.sub,csub,Anc.sub,List.map,Zd,xL,xM,Nat.reduceAdd,xD,xE,xT,xU,xC,xN,zCF,ldSF,Zl,rTx,Zv,ZY,Zs,rOp] at O
  generalize τ 7=v7 at O
  try simp only [Yg] at O
  refine Za (Ya (rZ O (qg 1 102 r1 r1 (qa 102 r1 r1 (qR rr (qv 2 102 Z r2 r1 (qw 102 Z r2 r1 (qm Z Z Z Z (qk Z (fun h=>oP (Zdp (Nn g.txs i).ops k (by have:=hxl hil;omega)) func197 (Args.two (.w h) (.w h))) r3 qz (qk Z (fun h=>Zal (.w h) qi) r2 qz (qf (ZJ .t .t) r2 qz qZ))))))))) V [23,11,10,9,7,5,4,1] [102,101,50,0] fun O=>?_))
  refine Zc O Z (fun hc1=>?_) (fun hc1=>?_)
  ·have hBq:((Nn g.txs i).done=true∧0<wcnt (Nn g.txs i).ops k):=by
     have h8:=hc1
     rw [Yv,Yj] at h8
     exact ⟨h8.1,by unfold wcnt;exact_mod_cast h8.2⟩
   refine Zb O (qR rr (qg 0 102 r1 r1 (qa 102 r1 r1 (qf (Zn (sz:=1) (zs:=[.int .i64 0]) (r:=[(0,.tmp 26)]) (l:=[_]) YbO kr kr kr kr Z Z (.one Z .t one_int kr .nil) Z) r1 qz (qf (o_append (sz:=1) (bs:=8) 50 (.mk' YbO kr kr) (by intro x;rfl) .is (.arr (l':=[_]) .t) (by simp only [Yc,Yl,Yq,Yk,YK];omega) (by decide)) ⟨rfl,rfl,tv⟩ ⟨rfl,tv⟩ (qO rr qZ)))))) V [11,10,9,5,4,1] [102,101,50,0] (fun _=>rfl) (fun _=>rfl) fun τ a w F O=>?_
   try dsimp only [RS.sub,SF.sub,CF.sub,csub,Anc.sub,List.map,Zd,xL,xM,Nat.reduceAdd,xD,xE,xT,xU,xC,xN,zCF,ldSF,Zl,rTx,Zv,ZY,Zs,rOp] at O
   generalize τ 28=v28 at O
   refine Zi (Za (rZ O (qp r1 (qR rr qZ)) V [11,10,9,5,4,1] [102,101,50,0] fun O=>?_))
   replace O:=O.ent (i:=11) (s':=.pv (.int .i64 ((i+1:Nat):Int))) Z (.int (Ze ow))
   obtain ⟨F,O⟩:=O.nM [10,9,4,1,5,11] [101,0,50]
   exact ⟨((i+1),_,_),F,⟨by omega,(by rw [Zcd hil,← hq];first | (rw [Yf hBq];done) | (rw [Yb hBq,YF]))⟩,O,by omega⟩
  have hBq:¬ ((Nn g.txs i).done=true∧0<wcnt (Nn g.txs i).ops k):=by
    rintro ⟨g1,g2⟩
    have h8:=hc1
    rw [g1,Ybu,Yi] at h8
    exact h8 (by unfold wcnt at g2;exact_mod_cast g2)
  refine Yd (Zi (Za (rZ O (qp r1 (qR rr qZ)) V [11,10,9,5,4,1] [102,101,50,0] fun O=>?_)))
  replace O:=O.ent (i:=11) (s':=.pv (.int .i64 ((i+1:Nat):Int))) Z (.int (Ze ow))
  obtain ⟨F,O⟩:=O.nM [10,9,4,1,5,11] [101,0,50]
  exact ⟨((i+1),_,_),F,⟨by omega,(by rw [Zcd hil,← hq];first | (rw [Yf hBq];done) | (rw [Yb hBq,YF]))⟩,O,by omega⟩
 have hil:i=g.txs.length:=by simp at hc0;omega
 refine Ym (Zg (Zg (Zo (Za (Ya (rZ O (qR rr (qO rr qZ)) V [4] [101,50,0] fun O=>Yh ?_))))))
 obtain ⟨F,O⟩:=O.give 50 4 Z rfl
 refine ZB hfr O Z Z Z (.sl (by rw [hq,hil,YE]))
theorem Ziy (l:List Int) (n:Int) (hl:l.length≤1000000):FnP prog 200 [.sl Zs l,.int .i64 n] (.sl Zs (Zdi l n)):=by
 refine FnP.mk func200 Z ntmps200 Z fun B a w F V hfr O=>Ya ?_
 refine rZ O (qC qZ) V [4,1,0] [0] fun O=>Ya ?_
 refine rZ O (qR rr (qR rr (qf (oP (Zp2 l n hl) func255 (Args.two .t .t)) r2 qz (qO rr qZ)))) V [4] [0] fun O=>Yh ?_
 refine ZB hfr O Z Z Z .refl
theorem Znf (g:Zx) (hs:ZaW g.txs):FnP prog 191 [.agg (Zl g)] (.sl Zs (ZaY g.txs)):=by
 refine FnP.mk func191 Z ntmps191 Z fun B a w F V hfr O=>?_
 have hsl:=hs.1
 refine Ya (Zb O (qx 101 r1 (qC qZ)) V [2,1] [101,0] (fun _=>rfl) (fun _=>rfl) fun τ a w F O=>?_)
 try dsimp only [RS.sub,SF.sub,CF.sub,csub,Anc.sub,List.map,zCF,Zl,rTx,Zv,ZY,Zs,rOp] at O
 generalize τ 1=v1 at O
 refine Za (Ya (rZ O (qC qZ) V [3,2,1] [101,0] fun O=>(Ya (Ya ?_))))
 refine rZ O (qg 0 101 r1 r1 (qa 101 r1 r1 (qu YbP r1 (qJ qZ)))) V [11,10,9,3,2] [101,0] fun O=>Ye ?_
 replace O:=O.ent (i:=3) (s':=.pv (.sl Zs (ZaY (g.txs.take 0)))) Z (.nilSl)
 refine Zk (σ:=(Nat)) [2,9,10] [0,101] (fun s=>[(11,.pv (.int .i64 (s:Int))),(3,.pv (.sl Zs (ZaY (g.txs.take s))))]) (fun s=>[]) (fun s=>s≤g.txs.length∧(True)) (fun s=>g.txs.length - s) (0) O ⟨rfl,rfl,rfl,rfl,rfl,tv⟩ ⟨rfl,rfl,tv⟩ ⟨Yt _,tv⟩ ?_
 clear O;intro i a w F hC O
 try dsimp only at hC
 obtain ⟨F,O⟩:=O.nM [11,10,9,3,2] [101,0]
 try dsimp only at O
 obtain ⟨hi,hq⟩:=hC
 have hxl:=fun hil:i<g.txs.length=>hs.at hil
 have hkl:(ZaY (g.txs.take i)).length≤1000*i:=ZlK hs i
 refine Ya (rZ O (qL r2) V [12,11,10,9,3,2] [101,0] fun O=>Ya ?_)
 refine Zc O Z (fun hc0=>?_) (fun hc0=>?_)
 ·have hil:i<g.txs.length:=by simp at hc0;omega
  have hio:=hil
  have htl:=hxl hil
  have hkt:=ZdD (Nn g.txs i)
  have hsl:=hs.1
  refine Yd (Za (Ya (Ye (Ya (Zb O (qy 3 YbP r2 (qf (oR true 3 .t) r1 qz (qf (oH [.int .i64 0,.bool false,.slice none 0 0] 102) trivial qz (qS 3 102 r2 r1 qZ)))) V [11,10,9,5,3,2] [102,101,0] (fun _=>rfl) (fun _=>rfl) fun τ a w F O=>?_)))))
  try dsimp only [RS.sub,SF.sub,CF.sub,csub,Anc.sub,List.map,Zd,xL,xM,Nat.reduceAdd,xD,xE,xT,xU,xC,xN,zCF,ldSF,Zl,rTx,Zv,ZY,Zs,rOp] at O
  generalize τ 5=v5 at O
  try simp only [Yg] at O
  refine Za (Ya (rZ O (qg 1 102 r1 r1 (qa 102 r1 r1 qZ)) V [16,11,10,9,5,3,2] [102,101,0] fun O=>?_))
  refine Zc O Z (fun hc1=>?_) (fun hc1=>?_)
  ·have hdn:(Nn g.txs i).done=true:=hc1
   refine Ya (Zh O (qe 3 102 r1 r1 (qf (oP (Zo3 (Nn g.txs i) false (by have:=hxl hil;omega)) func201 (Args.two (.pagg .t) .cb)) r1 qz (qu YbO r1 (qJ qZ)))) V [20,19,18,11,10,9,3,2] [102,101,0] Z Z fun a w F O=>?_)
   rw [show Zbu (((Nn g.txs i).ops.filter fun o=>false || !o.read).map OpD.key)=Zah (Nn g.txs i) from rfl] at O
   refine Za (Ye ?_)
   replace O:=O.ent (i:=3) (s':=.pv (.sl Zs (((Zah (Nn g.txs i)).take 0).foldl Zdi (ZaY (g.txs.take i))))) Z (.refl)
   refine Zk (σ:=(Nat)) [2,9,10,11,18,19] [0,101,102] (fun s=>[(20,.pv (.int .i64 (s:Int))),(3,.pv (.sl Zs (((Zah (Nn g.txs i)).take s).foldl Zdi (ZaY (g.txs.take i)))))]) (fun s=>[]) (fun s=>s≤(Zah (Nn g.txs i)).length∧(True)) (fun s=>(Zah (Nn g.txs i)).length - s) (0) O ⟨rfl,rfl,rfl,rfl,rfl,rfl,rfl,rfl,tv⟩ ⟨rfl,rfl,rfl,tv⟩ ⟨Yt _,tv⟩ ?_
   clear O;intro j a w F hC O
   try dsimp only at hC
   obtain ⟨F,O⟩:=O.nM [20,19,18,11,10,9,3,2] [102,101,0]
   try dsimp only at O
   obtain ⟨hi,hq⟩:=hC
   have hjb:=Zfm (ZaY (g.txs.take i)) ((Zah (Nn g.txs i)).take j)
   rw [Yk] at hjb
   refine Ya (rZ O (qL r2) V [21,20,19,18,11,10,9,3,2] [102,101,0] fun O=>Ya ?_)
   refine Zc O Z (fun hc2=>?_) (fun hc2=>?_)
   ·have hil:j<(Zah (Nn g.txs i)).length:=by simp at hc2;omega
    refine Yd (Za (Ya (Ye (Ya (Zh O (qy 1 YbO r2 (qf (oR false 1 .t) r1 qz (qO rr qZ))) V [20,19,18,11,10,9,7,3,2] [102,101,0] Z Z fun a w F O=>?_)))))
    try simp only [Yg] at O
    refine Za (Zh O (qR rr (qR rr (qf (oP (Ziy (((Zah (Nn g.txs i)).take j).foldl Zdi (ZaY (g.txs.take i))) _ ow) func200 (Args.two .t .t)) r2 qz (qO rr qZ)))) V [20,19,18,11,10,9,3,2] [102,101,0] Z Z fun a w F O=>Zi (Za ?_))
    refine rZ O (qp r1 (qR rr qZ)) V [20,19,18,11,10,9,3,2] [102,101,0] fun O=>?_
    replace O:=O.ent (i:=20) (s':=.pv (.int .i64 ((j+1:Nat):Int))) Z (.int (Ze ow))
    replace O:=O.ent (i:=3) (s':=.pv (.sl Zs (((Zah (Nn g.txs i)).take (j+1)).foldl Zdi (ZaY (g.txs.take i))))) Z ((.sl (by rw [ZQ hil,YaO];rfl)))
    obtain ⟨F,O⟩:=O.nM [19,18,11,10,9,2,3,20] [102,101,0]
    exact ⟨(j+1),F,⟨by omega,tv⟩,O,by omega⟩
   have hil:j=(Zah (Nn g.txs i)).length:=by simp at hc2;omega
   replace O:=O.ent (i:=3) (s':=.pv (.sl Zs (ZaY (g.txs.take (i+1))))) Z (.sl (by rw [ZhW hio,Yf hdn,hil,YE]))
   refine Ym (Zg (Zg (Zo (Zi (Za (rZ O (qp r1 (qR rr qZ)) V [11,10,9,3,2] [102,101,0] fun O=>?_))))))
   replace O:=O.ent (i:=11) (s':=.pv (.int .i64 ((i+1:Nat):Int))) Z (.int (Ze ow))
   obtain ⟨F,O⟩:=O.nM [10,9,2,3,11] [101,0]
   exact ⟨(i+1),F,⟨by omega,tv⟩,O,by omega⟩
  have hdn:¬ (Nn g.txs i).done=true:=by rw [hc1];simp
  replace O:=O.ent (i:=3) (s':=.pv (.sl Zs (ZaY (g.txs.take (i+1))))) Z (.sl (by rw [ZhW hio,Yb hdn]))
  refine Yd (Zi (Za (rZ O (qp r1 (qR rr qZ)) V [11,10,9,3,2] [102,101,0] fun O=>?_)))
  replace O:=O.ent (i:=11) (s':=.pv (.int .i64 ((i+1:Nat):Int))) Z (.int (Ze ow))
  obtain ⟨F,O⟩:=O.nM [10,9,2,3,11] [101,0]
  exact ⟨(i+1),F,⟨by omega,tv⟩,O,by omega⟩
 have hil:i=g.txs.length:=by simp at hc0;omega
 refine Ym (Zg (Zg (Zo (Za (Ya (rZ O (qR rr (qO rr qZ)) V [2] [101,0] fun O=>Yh ?_))))))
 refine ZB hfr O Z Z Z (.sl (by rw [hil,YE]))
theorem Zov (g:Zx) (hs:ZaW g.txs):FnG prog 140 1 [.agg (Zl g)] [.star []] (PV.one) (fun v=>[HP.ex fun s:List (GE Int (List Int))×Nat=>HP.and (WrL s.1 g.txs) (mapG (fun l:List Int=>PV.sl Zs l) (fun _=>True) (fun n:Int=>Value.int .i64 n) s.1 s.2 v)]):=by
 refine FnG.mk func140 Z ntmps140 Z kr fun B F0 a w F V hG O=>?_
 have hsl:=hs.1
 obtain ⟨F,O⟩:=O.nM [0] [0]
 refine Ya (Zb O (qx 101 r1 (qC qZ)) V [2,1] [101,0] (fun _=>rfl) (fun _=>rfl) fun τ a w F O=>?_)
 try dsimp only [RS.sub,SF.sub,CF.sub,csub,Anc.sub,List.map,zCF,Zl,rTx,Zv,ZY,Zs,rOp] at O
 generalize τ 1=v1 at O
 refine Za (Ya (Zb O (qf (ZcU (ek:=(fun p:Value×List Int=>PV.is p.1)) (ok:=(fun _=>True)) (kv:=(fun n:Int=>Value.int .i64 n)) 102) trivial qz (qO rr qZ)) V [3,2,1] [102,101,0] (fun _=>rfl) (fun _=>rfl) fun τ a w F O=>?_))
 try dsimp only [RS.sub,SF.sub,CF.sub,csub,Anc.sub,List.map,Zd,xL,xM,Nat.reduceAdd,xD,xE,xT,xU,xC,xN,zCF,Zl,rTx,Zv,ZY,Zs,rOp] at O
 generalize τ 8=v8 at O
 replace O:=O.fresh 60 rfl
 replace O:=O.turn 60 Z (r':=ZqF 3 1 Zs ([]:List (GE Int (Value×List Int)))) (fun _ _ _ _ h=>h)
 obtain ⟨F,O⟩:=O.nM [3,2,1] [102,101,60,0]
 refine Za (Ya (Ya (rZ O (qg 0 101 r1 r1 (qa 101 r1 r1 (qu YbP r1 (qJ qZ)))) V [12,11,10,3,2] [102,101,60,0] fun O=>Ye ?_)))
 refine Zk (σ:=(Nat)×(List (GE Int (Value×List Int)))×(Nat)) [2,3,10,11] [0,101] (fun s=>[(12,.pv (.int .i64 (s.1:Int)))]) (fun s=>[(102,.ob (.val v8) (mapG (fun p:Value×List Int=>PV.is p.1) (fun _=>True) (fun n:Int=>Value.int .i64 n) s.2.1 s.2.2)),(60,ZqF 3 1 Zs s.2.1)]) (fun s=>s.1≤g.txs.length∧(WrV s.2.1 (g.txs.take s.1) 0 [])) (fun s=>g.txs.length - s.1) ((0),([]),(0)) O ⟨rfl,rfl,rfl,rfl,rfl,tv⟩ ⟨rfl,rfl,rfl,rfl,tv⟩ ⟨Yt _,Zr1⟩ ?_
 clear O;intro s a w F hC O
 obtain ⟨i,es,ck⟩:=s
 try dsimp only at hC
 obtain ⟨F,O⟩:=O.nM [12,11,10,3,2] [102,101,60,0]
 try dsimp only at O
 obtain ⟨hi,hq⟩:=hC
 have hxl:=fun hil:i<g.txs.length=>hs.at hil
 refine Ya (rZ O (qL r2) V [13,12,11,10,3,2] [102,101,60,0] fun O=>Ya ?_)
 refine Zc O Z (fun hc0=>?_) (fun hc0=>?_)
 ·have hil:i<g.txs.length:=by simp at hc0;omega
  have hio:=hil
  have hw0:=hq
  have htl:=hxl hil
  have hkt:=ZdD (Nn g.txs i)
  have hsl:=hs.1
  refine Yd (Za (Ya (Ye (Ya (Zb O (qy 3 YbP r2 (qf (oR true 3 .t) r1 qz (qf (oH [.int .i64 0,.bool false,.slice none 0 0] 103) trivial qz (qS 3 103 r2 r1 qZ)))) V [12,11,10,5,3,2] [103,102,101,60,0] (fun _=>rfl) (fun _=>rfl) fun τ a w F O=>?_)))))
  try dsimp only [RS.sub,SF.sub,CF.sub,csub,Anc.sub,List.map,Zd,xL,xM,Nat.reduceAdd,xD,xE,xT,xU,xC,xN,zCF,ldSF,Zl,rTx,Zv,ZY,Zs,rOp] at O
  generalize τ 5=v5 at O
  try simp only [Yg] at O
  refine Za (Ya (Ya (rZ O (qg 1 103 r1 r1 (qa 103 r1 r1 (qf (Z1 .t) r1 qz qZ))) V [18,12,11,10,5,3,2] [103,102,101,60,0] fun O=>?_)))
  refine Zc O Z (fun hc1=>?_) (fun hc1=>?_)
  ·have hdn:(Nn g.txs i).done=false:=by simpa using hc1
   obtain ⟨es2,he2⟩:∃ z,z=es:=⟨_,rfl⟩
   obtain ⟨ck2,hc2⟩:∃ z,z=ck:=⟨_,rfl⟩
   have hR2:WrV es2 (g.txs.take (i+1)) 0 []:=by rw [he2];exact Zso hw0 hio hdn
   rw [← he2,← hc2] at O
   refine Ym (Zg (Zo (Za (rZ O (qp r1 (qR rr qZ)) V [12,11,10,3,2] [103,102,101,60,0] fun O=>?_))))
   replace O:=O.ent (i:=12) (s':=.pv (.int .i64 ((i+1:Nat):Int))) Z (.int (Ze ow))
   obtain ⟨F,O⟩:=O.nM [11,10,3,2,12] [101,0,60,102]
   exact ⟨((i+1),(es2),(ck2)),F,⟨by omega,hR2⟩,O,by omega⟩
  have hdn:(Nn g.txs i).done=true:=by simpa using hc1
  refine Yd (Za (Ya (Zh O (qe 3 103 r1 r1 (qf (oP (Zsi (Nn g.txs i) (by have:=hxl hio;omega)) func82 (Args.one (.pagg .t))) r1 qz (qu YbO r1 (qJ qZ)))) V [22,21,20,12,11,10,5,3,2] [103,102,101,60,0] Z Z fun a w F O=>?_)))
  rw [show Zbu (((Nn g.txs i).ops.filter fun o=>!o.read).map OpD.key)=Zah (Nn g.txs i) from rfl] at O
  refine Za (Ye (Zk (σ:=(Nat)×(List (GE Int (Value×List Int)))×(Nat)) [2,3,5,10,11,12,20,21] [0,101,103] (fun s=>[(22,.pv (.int .i64 (s.1:Int)))]) (fun s=>[(102,.ob (.val v8) (mapG (fun p:Value×List Int=>PV.is p.1) (fun _=>True) (fun n:Int=>Value.int .i64 n) s.2.1 s.2.2)),(60,ZqF 3 1 Zs s.2.1)]) (fun s=>s.1≤(Zah (Nn g.txs i)).length∧(WrV s.2.1 (g.txs.take i) (Nn g.txs i).id ((Zah (Nn g.txs i)).take s.1))) (fun s=>(Zah (Nn g.txs i)).length - s.1) ((0),(es),(ck)) O ⟨rfl,rfl,rfl,rfl,rfl,rfl,rfl,rfl,rfl,tv⟩ ⟨rfl,rfl,rfl,rfl,rfl,tv⟩ ⟨Yt _,(by simpa using ZqG hw0)⟩ ?_))
  clear O;intro s a w F hC O
  obtain ⟨j,es,ck⟩:=s
  try dsimp only at hC
  obtain ⟨F,O⟩:=O.nM [22,21,20,12,11,10,5,3,2] [103,102,101,60,0]
  try dsimp only at O
  obtain ⟨hi,hq⟩:=hC
  refine Ya (rZ O (qL r2) V [23,22,21,20,12,11,10,5,3,2] [103,102,101,60,0] fun O=>Ya ?_)
  refine Zc O Z (fun hc2=>?_) (fun hc2=>?_)
  ·have hil:j<(Zah (Nn g.txs i)).length:=by simp at hc2;omega
   have hwo:=Zrw hq (ZgU _) hil
   have hwn:=Zb0 (g.txs.take i) (Nn (Zah (Nn g.txs i)) j)
   rw [Yk] at hwn
   rw [← hwo] at hwn
   refine Yd (Za (Ya (Ye (Ya (Zh O (qy 1 YbO r2 (qf (oR false 1 .t) r1 qz (qO rr qZ))) V [22,21,20,12,11,10,7,5,3,2] [103,102,101,60,0] Z Z fun a w F O=>?_)))))
   try simp only [Yg] at O
   refine Za (Zbo 5 O kr (cG Z (oM .t) r1 trivial (cG Z (oM .t) r1 trivial (cG Z (oM .t) r1 trivial (cG Z (oM .t) r1 trivial (cG Z (ZaL (ek:=(fun p:Value×List Int=>PV.is p.1)) (z0:=ZiZ) 102 underlying127 (Zd6 YbS) kr (fun _ _=>⟨rfl,rfl⟩) .is (Z6.int .t Z)) r2 r1 Zaz.nil))))) kr (by rw [V];kernel_rfl) fun a w F O=>?_)
   obtain ⟨F,O⟩:=O.nM [30,27,26,22,21,20,12,11,10,5,3,2] [103,102,101,60,0]
   try dsimp only [Zl,rTx,Zv,ZY,Zs,rOp] at O
   obtain ⟨F,O⟩:=O.takeKey (T:=3) (sz:=1) (R:=Zs) 60 61 (Nn (Zah (Nn g.txs i)) j) Z rfl
   obtain ⟨F,O⟩:=O.nM [30,27,26,22,21,20,12,11,10,5,3,2] [103,102,101,61,60,0]
   refine ZjN 4 O kr (cG Z (oF 0 103 .is) r1 r1 (cG Z (oL false 1 103 .adr) r1 r1 (cG Z (Zn (sz:=1) (zs:=[.int .i64 0]) (r:=[(0,.tmp 32)]) (l:=[_]) YbO kr kr kr kr Z Z (.one Z .t one_int kr .nil) Z) r1 trivial (cG Z (o_append (sz:=1) (bs:=8) 61 (.mk' YbO kr kr) (by intro x;rfl) .is (.arr (l':=[_]) .t) (by simp only [Yc,Yl,Yq];omega) (by decide)) ⟨rfl,rfl,tv⟩ ⟨rfl,tv⟩ Zaz.nil)))) kr (by rw [V];kernel_rfl) fun a w F O=>?_
   replace O:=O.sub
   obtain ⟨F,O⟩:=O.nM [34,27,26,22,21,20,12,11,10,5,3,2] [103,102,101,61,60,0]
   try dsimp only [RS.sub,SF.sub,CF.sub,csub,Anc.sub,List.map,Zd,xL,xM,Nat.reduceAdd,xD,xE,xT,xU,xC,xN,zCF,ldSF,Zl,rTx,Zv,ZY,Zs,rOp] at O
   generalize Act.tau a 34=v34 at O
   refine ZbZ O kr (cG Z (Zbq (ek:=(fun p:Value×List Int=>PV.is p.1)) (v:=((v34,((gGet (Nn (Zah (Nn g.txs i)) j) es).getD ZiZ).2 ++ [(Nn g.txs i).id]):Value×List Int)) 102 underlying127 (Zd6 YbS) .is (Z6.int .t Z) .t) r3 r1 Zaz.nil) kr (by rw [V];kernel_rfl) fun a w F O=>?_
   obtain ⟨F,O⟩:=O.nM [22,21,20,12,11,10,5,3,2] [103,102,101,61,60,0]
   try dsimp only [Zl,rTx,Zv,ZY,Zs,rOp] at O
   refine Zi (Za (rZ O (qp r1 (qR rr qZ)) V [22,21,20,12,11,10,5,3,2] [103,102,101,61,60,0] fun O=>?_))
   obtain ⟨F,O⟩:=O.putKey (T:=3) (sz:=1) (R:=Zs) 60 61 (Nn (Zah (Nn g.txs i)) j) ck Z Z rfl
   replace O:=O.ent (i:=22) (s':=.pv (.int .i64 ((j+1:Nat):Int))) Z (.int (Ze ow))
   obtain ⟨F,O⟩:=O.nM [21,20,12,11,10,5,3,2,22] [103,101,0,60,102]
   exact ⟨((j+1),((gPut (Nn (Zah (Nn g.txs i)) j) (v34,((gGet (Nn (Zah (Nn g.txs i)) j) es).getD ZiZ).2 ++ [(Nn g.txs i).id]) (es,ck)).1),((gPut (Nn (Zah (Nn g.txs i)) j) (v34,((gGet (Nn (Zah (Nn g.txs i)) j) es).getD ZiZ).2 ++ [(Nn g.txs i).id]) (es,ck)).2)),F,⟨by omega,Zr0 hq (ZgU _) hil⟩,O,by omega⟩
  have hil:j=(Zah (Nn g.txs i)).length:=by simp at hc2;omega
  obtain ⟨es2,he2⟩:∃ z,z=es:=⟨_,rfl⟩
  obtain ⟨ck2,hc2⟩:∃ z,z=ck:=⟨_,rfl⟩
  rw [hil,YE] at hq
  have hR2:WrV es2 (g.txs.take (i+1)) 0 []:=by rw [he2];exact ZrY hq hio hdn
  rw [← he2,← hc2] at O
  refine Ym (Zg (Zg (Zo (Zi (Za (rZ O (qp r1 (qR rr qZ)) V [12,11,10,3,2] [103,102,101,60,0] fun O=>?_))))))
  replace O:=O.ent (i:=12) (s':=.pv (.int .i64 ((i+1:Nat):Int))) Z (.int (Ze ow))
  obtain ⟨F,O⟩:=O.nM [11,10,3,2,12] [101,0,60,102]
  exact ⟨((i+1),(es2),(ck2)),F,⟨by omega,hR2⟩,O,by omega⟩
 have hil:i=g.txs.length:=by simp at hc0;omega
 have hwl:=Zrb hq
 rw [hil,YE] at hwl
 refine Ym (Zg (Zg (Zo (Za (Ya (rZ O (qR rr (qO rr qZ)) V [2] [102,101,60,0] fun O=>Yh ?_))))))
 obtain ⟨F,O⟩:=O.giveMap 102 60 Z Z rfl
 obtain ⟨F,O⟩:=O.rename 102 1 Z rfl
 have O:=O.turn 1 Z (r':=RS.hp (HP.ex fun s:List (GE Int (List Int))×Nat=>HP.and (WrL s.1 g.txs) (mapG (fun l:List Int=>PV.sl Zs l) (fun _=>True) (fun n:Int=>Value.int .i64 n) s.1 s.2 v8))) (fun _ _ _ _ h=>⟨(ZfV es,ck),hwl,h⟩)
 refine Zed (h':=fun v=>HP.ex fun s:List (GE Int (List Int))×Nat=>HP.and (WrL s.1 g.txs) (mapG (fun l:List Int=>PV.sl Zs l) (fun _=>True) (fun n:Int=>Value.int .i64 n) s.1 s.2 v)) hG O Z (.tmp Z .nil) (.one .one) rfl
theorem Zuj (l:List Int) (v:Int):FnP prog 256 [.sl Zs l,.int .i64 v] (.bool (decide (v ∈ l))):=by
 refine FnP.mk func256 Z ntmps256 Z fun B a w F V hfr O=>?_
 have hll:=Sat.lenSl O (i:=0) rfl
 refine Ya (rZ O qB V [4,1,0] [0] fun O=>(Ya (Ya ?_)))
 refine rZ O (qR rr (qu YbO r1 (qJ qZ))) V [9,8,7,4,1] [0] fun O=>Ye ?_
 refine Zk (σ:=(Nat)) [1,4,7,8] [0] (fun s=>[(9,.pv (.int .i64 (s:Int)))]) (fun s=>[]) (fun s=>s≤l.length∧(∀ k,k<s→Nn l k≠v)) (fun s=>l.length - s) (0) O ⟨rfl,rfl,rfl,rfl,rfl,tv⟩ ⟨rfl,tv⟩ ⟨Yt _,fun k hk=>absurd hk (YJ k)⟩ ?_
 clear O;intro i a w F hC O
 try dsimp only at hC
 obtain ⟨F,O⟩:=O.nM [9,8,7,4,1] [0]
 try dsimp only at O
 obtain ⟨hi,hq⟩:=hC
 refine Ya (rZ O (qL r2) V [10,9,8,7,4,1] [0] fun O=>Ya ?_)
 refine Zc O Z (fun hc0=>?_) (fun hc0=>?_)
 ·have hil:i<l.length:=by simp at hc0;omega
  refine Yd (Za (Ya (Ye (Ya (Zh O (qy 1 YbO r2 (qf (oR false 1 .t) r1 qz (qO rr qZ))) V [9,8,7,6,4,1] [0] Z Z fun a w F O=>?_)))))
  try simp only [Yg] at O
  refine Za (Ya (rZ O (qR rr (qR rr (qf (o_eql .t .t) r2 qz qZ))) V [15,9,8,7,4,1] [0] fun O=>?_))
  refine Zc O Z (fun hc1=>?_) (fun hc1=>?_)
  ·have hg:true=decide (v ∈ l):=(YI (by simp at hc1;rw [← hc1];exact ZU hil)).symm
   refine Ya (rZ O qB V [9,8,7,4,1] [0] fun O=>(Yh (Zr (Zf (Zf (Zr (Zf ?_)))))))
   refine ZB hfr O Z Z Z (.bool hg)
  have hne:Nn l i≠v:=by simp at hc1;omega
  refine Yd (Zi (Za (rZ O (qp r1 (qR rr qZ)) V [9,8,7,4,1] [0] fun O=>?_)))
  replace O:=O.ent (i:=9) (s':=.pv (.int .i64 ((i+1:Nat):Int))) Z (.int (Ze ow))
  obtain ⟨F,O⟩:=O.nM [8,7,4,1,9] [0]
  exact ⟨(i+1),F,⟨by omega,(fun k hk=>by rcases Yy (YD hk) with h | h;exact hq k h;rw [h];exact hne)⟩,O,by omega⟩
 have hil:i=l.length:=by simp at hc0;omega
 have hg:false=decide (v ∈ l):=by
   rw [Y8,Yi]
   intro hv
   obtain ⟨k,hk,e⟩:=YH hv
   exact hq k (by simp at hc0;omega) (by rw [Zy hk];exact e)
 refine Ym (Zg (Zg (Zo (Za (Ya (rZ O qB V [4] [0] fun O=>Yh ?_))))))
 refine ZB hfr O Z Z Z (.bool hg)
theorem Zqy (l:List Int) (tx:Int) (hl:l.length≤1000000):FnP prog 202 [.sl Zs l,.int .i64 tx] (.sl Zs (Zhr l tx)):=by
 refine FnP.mk func202 Z ntmps202 Z fun B a w F V hfr O=>?_
 have hll:=Sat.lenSl O (i:=0) rfl
 refine Ya (rZ O (qC qZ) V [4,1,0] [0] fun O=>Ya ?_)
 refine Zb O (qf (ZaP (R:=Zs) (sz:=1) 101 YbO kr) trivial qz (qR rr (qf (o_append (sz:=1) (bs:=8) 101 (.mk' YbO kr kr) (by intro x;rfl) .same (.sl .t) (by simp only [Yc,Yl,Yq,Yk,YK];omega) (by decide)) ⟨rfl,rfl,tv⟩ ⟨rfl,tv⟩ (qO rr qZ)))) V [5,4,1,0] [101,0] (fun _=>rfl) (fun _=>rfl) fun τ a w F O=>?_
 try dsimp only [RS.sub,SF.sub,CF.sub,csub,Anc.sub,List.map,Zd,xL,xM,Nat.reduceAdd,xD,xE,xT,xU,xC,xN,zCF,Zs] at O
 generalize τ 8=v8 at O
 refine Za (Ya (Ya (rZ O (qR rr (qR rr (qf (oP (Zuj l tx) func256 (Args.two .t .t)) r2 qz (qf (Z1 .t) r1 qz qZ)))) V [12,5,4,1] [101,0] fun O=>?_)))
 refine Zc O Z (fun hc0=>?_) (fun hc0=>?_)
 ·have hm:¬ tx ∈ l:=by simpa using hc0
  have hg:[] ++ l ++ [tx] = Zhr l tx:=(Yb hm).symm
  refine Zb O (qR rr (qR rr (qf (Zn (sz:=1) (zs:=[.int .i64 0]) (r:=[(0,.tmp 14)]) (l:=[_]) YbO kr kr kr kr Z Z (.one Z .t one_int kr .nil) Z) r1 qz (qf (o_append (sz:=1) (bs:=8) 101 (.mk' YbO kr kr) (by intro x;rfl) .is (.arr (l':=[_]) .t) (by simp only [Yc,Yl,Yq,Yk,YK];omega) (by decide)) ⟨rfl,rfl,tv⟩ ⟨rfl,tv⟩ (qO rr qZ))))) V [5,4] [101,0] (fun _=>rfl) (fun _=>rfl) fun τ a w F O=>?_
  try dsimp only [RS.sub,SF.sub,CF.sub,csub,Anc.sub,List.map,Zd,xL,xM,Nat.reduceAdd,xD,xE,xT,xU,xC,xN,zCF,Zs] at O
  generalize τ 16=v16 at O
  refine Za (Ya (rZ O (qR rr (qO rr qZ)) V [4] [101,0] fun O=>Yh ?_))
  obtain ⟨F,O⟩:=O.give 101 4 Z rfl
  refine ZB hfr O Z Z Z (.sl hg)
 have hm:tx ∈ l:=by simpa using hc0
 have hg:[] ++ l=Zhr l tx:=(Yf hm).symm
 refine Yd (Za (Ya (rZ O (qR rr (qO rr qZ)) V [4] [101,0] fun O=>Yh ?_)))
 obtain ⟨F,O⟩:=O.give 101 4 Z rfl
 refine ZB hfr O Z Z Z (.sl hg)
theorem Zk0 (l:List Int) (tx:Int) (hl:l.length≤1000000):FnP prog 203 [.sl Zs l,.int .i64 tx] (.sl Zs (Zbx l tx)):=by
 refine FnP.mk func203 Z ntmps203 Z fun B a w F V hfr O=>?_
 have hll:=Sat.lenSl O (i:=0) rfl
 refine Ya (rZ O (qC qZ) V [4,1,0] [0] fun O=>Ya ?_)
 refine rZ O (qC qZ) V [5,4,1,0] [0] fun O=>(Ya (Ya ?_))
 refine rZ O (qR rr (qu YbO r1 (qJ qZ))) V [10,9,8,5,4,1] [0] fun O=>Ye ?_
 replace O:=O.fresh 50 rfl
 replace O:=O.turn 50 Z (ZaC (T:=3) (sz:=1) (R:=Zs))
 refine Zk (σ:=(Nat)×(Value)×(List Int)) [1,4,8,9] [0] (fun s=>[(10,.pv (.int .i64 (s.1:Int))),(5,.pv (.is s.2.1))]) (fun s=>[(50,.ob (.val s.2.1) (ZO 3 1 Zs s.2.2))]) (fun s=>s.1≤l.length∧(s.2.2=Zbx (l.take s.1) tx)) (fun s=>l.length - s.1) ((0),(.slice none 0 0),([])) O ⟨rfl,rfl,rfl,rfl,rfl,rfl,tv⟩ ⟨rfl,rfl,tv⟩ ⟨Yt _,rfl⟩ ?_
 clear O;intro s a w F hC O
 obtain ⟨i,v,out⟩:=s
 try dsimp only at hC
 obtain ⟨F,O⟩:=O.nM [10,9,8,5,4,1] [50,0]
 try dsimp only at O
 obtain ⟨hi,hq⟩:=hC
 have hol:out.length≤i:=by rw [hq];exact YW (YR _ _) (by rw [Yk];omega)
 refine Ya (rZ O (qL r2) V [11,10,9,8,5,4,1] [50,0] fun O=>Ya ?_)
 refine Zc O Z (fun hc0=>?_) (fun hc0=>?_)
 ·have hil:i<l.length:=by simp at hc0;omega
  refine Yd (Za (Ya (Ye (Ya (Zh O (qy 1 YbO r2 (qf (oR false 1 .t) r1 qz (qO rr qZ))) V [10,9,8,7,5,4,1] [50,0] Z Z fun a w F O=>?_)))))
  try simp only [Yg] at O
  refine Za (Ya (rZ O (qR rr (qR rr (qf (o_neq .t .t) r2 qz qZ))) V [16,10,9,8,7,5,4,1] [50,0] fun O=>?_))
  refine Zc O Z (fun hc1=>?_) (fun hc1=>?_)
  ·have hBq:Nn l i≠tx:=by simpa using hc1
   refine Zb O (qR rr (qR rr (qf (Zn (sz:=1) (zs:=[.int .i64 0]) (r:=[(0,.tmp 18)]) (l:=[_]) YbO kr kr kr kr Z Z (.one Z .t one_int kr .nil) Z) r1 qz (qf (o_append (sz:=1) (bs:=8) 50 (.mk' YbO kr kr) (by intro x;rfl) .is (.arr (l':=[_]) .t) (by simp only [Yc,Yl,Yq,Yk,YK];omega) (by decide)) ⟨rfl,rfl,tv⟩ ⟨rfl,tv⟩ (qO rr qZ))))) V [10,9,8,5,4,1] [50,0] (fun _=>rfl) (fun _=>rfl) fun τ a w F O=>?_
   try dsimp only [RS.sub,SF.sub,CF.sub,csub,Anc.sub,List.map,Zd,xL,xM,Nat.reduceAdd,xD,xE,xT,xU,xC,xN,zCF,Zs] at O
   generalize τ 20=v20 at O
   refine Zi (Za (rZ O (qp r1 (qR rr qZ)) V [10,9,8,5,4,1] [50,0] fun O=>?_))
   replace O:=O.ent (i:=10) (s':=.pv (.int .i64 ((i+1:Nat):Int))) Z (.int (Ze ow))
   obtain ⟨F,O⟩:=O.nM [9,8,4,1,5,10] [0,50]
   exact ⟨((i+1),_,_),F,⟨by omega,(by unfold Zbx at hq ⊢;rw [ZQ hil,Y3,← hq];simp [hBq])⟩,O,by omega⟩
  have hBq:Nn l i=tx:=by simpa using hc1
  refine Yd (Zi (Za (rZ O (qp r1 (qR rr qZ)) V [10,9,8,5,4,1] [50,0] fun O=>?_)))
  replace O:=O.ent (i:=10) (s':=.pv (.int .i64 ((i+1:Nat):Int))) Z (.int (Ze ow))
  obtain ⟨F,O⟩:=O.nM [9,8,4,1,5,10] [0,50]
  exact ⟨((i+1),_,_),F,⟨by omega,(by unfold Zbx at hq ⊢;rw [ZQ hil,Y3,← hq];simp [hBq])⟩,O,by omega⟩
 have hil:i=l.length:=by simp at hc0;omega
 refine Ym (Zg (Zg (Zo (Za (Ya (rZ O (qR rr (qO rr qZ)) V [4] [50,0] fun O=>Yh ?_))))))
 obtain ⟨F,O⟩:=O.give 50 4 Z rfl
 refine ZB hfr O Z Z Z (.sl (by rw [hq,hil,YE]))
theorem Zkc (l:List Int) (v:Int):FnP prog 204 [.sl Zs l,.int .i64 v] (.int .i64 ((l.count v:Nat):Int)):=by
 refine FnP.mk func204 Z ntmps204 Z fun B a w F V hfr O=>?_
 have hll:=Sat.lenSl O (i:=0) rfl
 refine Ya (rZ O (qI qZ) V [4,1,0] [0] fun O=>Ya ?_)
 refine rZ O (qI qZ) V [5,4,1,0] [0] fun O=>(Ya (Ya ?_))
 refine rZ O (qR rr (qu YbO r1 (qJ qZ))) V [10,9,8,5,4,1] [0] fun O=>Ye ?_
 refine Zk (σ:=(Nat)) [1,4,8,9] [0] (fun s=>[(10,.pv (.int .i64 (s:Int))),(5,.pv (.int .i64 (((l.take s).count v:Nat):Int)))]) (fun s=>[]) (fun s=>s≤l.length∧(True)) (fun s=>l.length - s) (0) O ⟨rfl,rfl,rfl,rfl,rfl,rfl,tv⟩ ⟨rfl,tv⟩ ⟨Yt _,tv⟩ ?_
 clear O;intro i a w F hC O
 try dsimp only at hC
 obtain ⟨F,O⟩:=O.nM [10,9,8,5,4,1] [0]
 try dsimp only at O
 obtain ⟨hi,hq⟩:=hC
 refine Ya (rZ O (qL r2) V [11,10,9,8,5,4,1] [0] fun O=>Ya ?_)
 refine Zc O Z (fun hc0=>?_) (fun hc0=>?_)
 ·have hil:i<l.length:=by simp at hc0;omega
  refine Yd (Za (Ya (Ye (Ya (Zh O (qy 1 YbO r2 (qf (oR false 1 .t) r1 qz (qO rr qZ))) V [10,9,8,7,5,4,1] [0] Z Z fun a w F O=>?_)))))
  try simp only [Yg] at O
  refine Za (Ya (rZ O (qR rr (qR rr (qf (o_eql .t .t) r2 qz qZ))) V [16,10,9,8,5,4,1] [0] fun O=>?_))
  refine Zc O Z (fun hc1=>?_) (fun hc1=>?_)
  ·have hcl:(l.take i).count v≤(l.take i).length:=List.count_le_length
   have hcl2:(l.take i).length≤i:=by rw [Yk];omega
   have hcc:IntKind.wrap .i64 ((((l.take i).count v:Nat):Int)+1)=(((l.take (i+1)).count v:Nat):Int):=by
     have e:v=Nn l i:=by simpa using hc1
     rw [Zj ow,ZQ hil,List.count_append,← e];simp
   refine Zh O (qR rr (qp r1 (qO rr qZ))) V [10,9,8,5,4,1] [0] Z Z fun a w F O=>Zi (Za ?_)
   refine rZ O (qp r1 (qR rr qZ)) V [10,9,8,5,4,1] [0] fun O=>?_
   replace O:=O.ent (i:=10) (s':=.pv (.int .i64 ((i+1:Nat):Int))) Z (.int (Ze ow))
   replace O:=O.ent (i:=5) (s':=.pv (.int .i64 (((l.take (i+1)).count v:Nat):Int))) Z (.int hcc)
   obtain ⟨F,O⟩:=O.nM [9,8,4,1,5,10] [0]
   exact ⟨(i+1),F,⟨by omega,tv⟩,O,by omega⟩
  have hcc:(((l.take i).count v:Nat):Int)=(((l.take (i+1)).count v:Nat):Int):=by
    have e:¬ v=Nn l i:=by simpa using hc1
    have e2:¬ Nn l i=v:=fun h=>e h.symm
    rw [ZQ hil,List.count_append,List.count_singleton];simp [e2]
  refine Yd (Zi (Za (rZ O (qp r1 (qR rr qZ)) V [10,9,8,5,4,1] [0] fun O=>?_)))
  replace O:=O.ent (i:=10) (s':=.pv (.int .i64 ((i+1:Nat):Int))) Z (.int (Ze ow))
  replace O:=O.ent (i:=5) (s':=.pv (.int .i64 (((l.take (i+1)).count v:Nat):Int))) Z (.int hcc)
  obtain ⟨F,O⟩:=O.nM [9,8,4,1,5,10] [0]
  exact ⟨(i+1),F,⟨by omega,tv⟩,O,by omega⟩
 have hil:i=l.length:=by simp at hc0;omega
 refine Ym (Zg (Zg (Zo (Za (Ya (rZ O (qR rr (qO rr qZ)) V [4] [0] fun O=>Yh ?_))))))
 refine ZB hfr O Z Z Z (.int (by rw [hil,YE]))
theorem ZmM (x y:List Int):FnP prog 136 [.sl Zs x,.sl Zs y] (.bool (decide (x.Perm y))):=by
 refine FnP.mk func136 Z ntmps136 Z fun B a w F V hfr O=>?_
 have hxl:=Sat.lenSl O (i:=0) rfl
 have hyl:=Sat.lenSl O (i:=1) rfl
 refine Ya (rZ O qB V [4,1,0] [0] fun O=>(Ya (Ya ?_)))
 refine rZ O (qR rr (qu YbO r1 (qR rr (qu YbO r1 (qf (o_neq .t .t) r2 qz qZ))))) V [11,4,1,0] [0] fun O=>?_
 refine Zc O Z (fun hc0=>?_) (fun hc0=>?_)
 ·have hg:false=decide (x.Perm y):=(Yu fun hp=>by have:=hp.length_eq;simp at hc0;omega).symm
  refine Ya (rZ O qB V [4,1,0] [0] fun O=>(Yh (Zf ?_)))
  refine ZB hfr O Z Z Z (.bool hg)
 have hxy:x.length=y.length:=by simp at hc0;omega
 refine Yd (Za (Ya (Ya (rZ O (qR rr (qu YbO r1 (qJ qZ))) V [14,13,12,4,1,0] [0] fun O=>Ye ?_))))
 refine Zk (σ:=(Nat)) [0,1,4,12,13] [0] (fun s=>[(14,.pv (.int .i64 (s:Int)))]) (fun s=>[]) (fun s=>s≤x.length∧(∀ k,k<s→x.count (Nn x k)=y.count (Nn x k))) (fun s=>x.length - s) (0) O ⟨rfl,rfl,rfl,rfl,rfl,rfl,tv⟩ ⟨rfl,tv⟩ ⟨Yt _,fun k hk=>absurd hk (YJ k)⟩ ?_
 clear O;intro i a w F hC O
 try dsimp only at hC
 obtain ⟨F,O⟩:=O.nM [14,13,12,4,1,0] [0]
 try dsimp only at O
 obtain ⟨hi,hq⟩:=hC
 refine Ya (rZ O (qL r2) V [15,14,13,12,4,1,0] [0] fun O=>Ya ?_)
 refine Zc O Z (fun hc1=>?_) (fun hc1=>?_)
 ·have hil:i<x.length:=by simp at hc1;omega
  refine Yd (Za (Ya (Ye (Ya (Zh O (qy 1 YbO r2 (qf (oR false 1 .t) r1 qz (qO rr qZ))) V [14,13,12,6,4,1,0] [0] Z Z fun a w F O=>?_)))))
  try simp only [Yg] at O
  refine Za (Ya (rZ O (qR rr (qR rr (qf (oP (Zkc x (Nn x i)) func204 (Args.two .t .t)) r2 qz (qR rr (qR rr (qf (oP (Zkc y (Nn x i)) func204 (Args.two .t .t)) r2 qz (qf (o_neq .t .t) r2 qz qZ))))))) V [24,14,13,12,4,1,0] [0] fun O=>?_))
  refine Zc O Z (fun hc2=>?_) (fun hc2=>?_)
  ·have hg:false=decide (x.Perm y):=(Yu fun hp=>by have:=hp.count_eq (Nn x i);simp at hc2;omega).symm
   refine Ya (rZ O qB V [14,13,12,4,1,0] [0] fun O=>(Yh (Zr (Zf (Zf (Zr (Zf ?_)))))))
   refine ZB hfr O Z Z Z (.bool hg)
  have hne:x.count (Nn x i)=y.count (Nn x i):=by simp at hc2;omega
  refine Yd (Zi (Za (rZ O (qp r1 (qR rr qZ)) V [14,13,12,4,1,0] [0] fun O=>?_)))
  replace O:=O.ent (i:=14) (s':=.pv (.int .i64 ((i+1:Nat):Int))) Z (.int (Ze ow))
  obtain ⟨F,O⟩:=O.nM [13,12,4,1,0,14] [0]
  exact ⟨(i+1),F,⟨by omega,(fun k hk=>by rcases Yy (YD hk) with h | h;exact hq k h;rw [h];exact hne)⟩,O,by omega⟩
 have hil:i=x.length:=by simp at hc1;omega
 have hg:true=decide (x.Perm y):=(YI (Zln.1 ⟨hxy,fun v hv=>by obtain ⟨k,hk,rfl⟩:=YH hv;rw [← Zy hk];exact hq k (by simp at hc1;omega)⟩)).symm
 refine Ym (Zg (Zg (Zo (Za (Ya (rZ O qB V [4] [0] fun O=>Yh ?_))))))
 refine ZB hfr O Z Z Z (.bool hg)
theorem Zbg (g:Zx) (hs:Zbb g):FnP prog 128 [.agg (Zl g)] (.bool (decide (ZG g))):=by
 refine FnP.mk func128 Z ntmps128 Z fun B a w F V hfr O=>?_
 have hsl:=hs.1.1
 have hso:=hs.2.1
 refine Ya (Zb O (qx 101 r1 qB) V [2,1] [101,0] (fun _=>rfl) (fun _=>rfl) fun τ a w F O=>?_)
 try dsimp only [RS.sub,SF.sub,CF.sub,csub,Anc.sub,List.map,zCF,Zl,rTx,Zv,ZY,Zs,rOp] at O
 generalize τ 1=v1 at O
 refine Za (Ya (Ya (rZ O (qg 0 101 r1 r1 (qa 101 r1 r1 (qu YbP r1 (qf (Zal .t qi) r1 qz qZ)))) V [11,2,1] [101,0] fun O=>?_)))
 refine Zc O Z (fun hc0=>?_) (fun hc0=>?_)
 ·have hg:=Zeg (h:=g) (by simp at hc0;omega)
  refine Ya (rZ O qB V [2,1] [101,0] fun O=>(Yh (Zf ?_)))
  refine ZB hfr O Z Z Z (.bool hg)
 have hlong:g.txs.length≤4096:=by simp at hc0;omega
 refine Yd (Za (Ya (Ya (rZ O (qg 0 101 r1 r1 (qa 101 r1 r1 (qu YbP r1 (qJ qZ)))) V [15,14,13,2,1] [101,0] fun O=>Ye ?_))))
 refine Zk (σ:=(Nat)) [1,2,13,14] [0,101] (fun s=>[(15,.pv (.int .i64 (s:Int)))]) (fun s=>[]) (fun s=>s≤g.txs.length∧(∀ k,k<s→ZmI g k)) (fun s=>g.txs.length - s) (0) O ⟨rfl,rfl,rfl,rfl,rfl,tv⟩ ⟨rfl,rfl,tv⟩ ⟨Yt _,fun k hk=>absurd hk (YJ k)⟩ ?_
 clear O;intro i a w F hC O
 try dsimp only at hC
 obtain ⟨F,O⟩:=O.nM [15,14,13,2,1] [101,0]
 try dsimp only at O
 obtain ⟨hi,hq⟩:=hC
 have hxl:=fun hil:i<g.txs.length=>hs.1.at hil
 have hiw:0<i→IntKind.wrap .i64 ((i:Int) - 1)=((i - 1:Nat):Int):=fun h0=>by rw [Zj ow];omega
 refine Ya (rZ O (qL r2) V [16,15,14,13,2,1] [101,0] fun O=>Ya ?_)
 refine Zc O Z (fun hc1=>?_) (fun hc1=>?_)
 ·have hil:i<g.txs.length:=by simp at hc1;omega
  refine Yd (Za (Ya (Ye (Ya (Zb O (qR rr (qy 3 YbP r2 (qf (oR true 3 .t) r1 qz (qf (oH [.int .i64 0,.bool false,.slice none 0 0] 102) trivial qz (qO rr (qS 3 102 r2 r1 qZ)))))) V [15,14,13,4,3,2,1] [102,101,0] (fun _=>rfl) (fun _=>rfl) fun τ a w F O=>?_)))))
  try dsimp only [RS.sub,SF.sub,CF.sub,csub,Anc.sub,List.map,Zd,xL,xM,Nat.reduceAdd,xD,xE,xT,xU,xC,xN,zCF,ldSF,Zl,rTx,Zv,ZY,Zs,rOp] at O
  generalize τ 4=v4 at O
  try simp only [Yg] at O
  refine Za (Ya (Zu O (qR rr (qf (Zal .t qi) r1 qz (qR rr (qv 0 101 Z r2 r1 (qw 101 Z r2 r1 (qm Z Z Z Z (qk Z (fun h=>o_sub (.w h) qi) r2 qz (qk Z (fun h=>ZaT (sz:=3) (.mk YbP kr) (by intro x;rfl) (.w h) (.w h) (by rw [hiw (by simpa using h)];omega) (by rw [hiw (by simpa using h)];omega)) r3 qz (qk Z (fun h=>oG 0 (.w h)) r2 qz (qk Z (fun h=>oR false 1 (.w h)) r2 qz (qv 0 102 Z r2 r1 (qw 102 Z r2 r1 (qk Z (fun h=>Zcx (.w h) (.w h)) r3 qz (qf (ZJ .t .t) r2 qz (qR rr (qk Z (fun h=>oL true 3 102 .is) r2 r1 (qk Z (fun h=>oP (Zdv (Nn g.txs i)) func131 (Args.one (.pagg (.w h)))) r2 qz (qk Z (fun h=>o_neq (.w h) qi) r2 qz (qf (ZaM .t .t) r2 qz (qR rr (qk Z (fun h=>oL true 2 101 .is) r2 r1 (qk Z (fun h=>oL true 3 102 .is) r2 r1 (qk Z (fun h=>oP (Zew g (Nn g.txs i) hs.1 (by have:=hxl hil;omega)) func132 (Args.two (.pagg (.w h)) (.pagg (.w h)))) r3 qz (qk Z (fun h=>Z1 (.w h)) r2 qz (qf (ZaM .t .t) r2 qz qZ))))))))))))))))))))))))) V [44,15,14,13,2,1] [102,101,0] Z Z fun a w F O=>?_))
  try dsimp only [List.map,xD,xE,xT,xU,ldSF,Zl,rTx,Zv,ZY,Zs,rOp] at O
  try simp only [Yg] at O
  refine Za (Zc O Z (fun hc2=>?_) (fun hc2=>?_))
  ·have hbad:¬ ZmI g i:=by
     rintro ⟨g1,g2,g3⟩
     have h9:=hc2
     by_cases hi0:0<i
     · rw [hiw hi0,Yg] at h9
       have:=g1 hi0
       simp [g2,g3] at h9
       omega
     · have hi1:i=0:=by omega
       subst hi1
       simp [g2,g3] at h9
   have hg:=ZfZ hil hbad
   refine Ya (rZ O qB V [15,14,13,2,1] [102,101,0] fun O=>(Yh (Zr (Zf (Zf (Zr (Zf ?_)))))))
   refine ZB hfr O Z Z Z (.bool hg)
  have hgood:ZmI g i:=by
    have h9:=hc2
    by_cases hi0:0<i
    · rw [hiw hi0,Yg] at h9
      simp at h9
      exact ⟨fun _=>by omega,by omega,h9.2⟩
    · have hi1:i=0:=by omega
      subst hi1
      simp at h9
      exact ⟨fun h0=>absurd h0 (Nat.lt_irrefl 0),h9.1,h9.2⟩
  refine Yd (Zi (Za (rZ O (qp r1 (qR rr qZ)) V [15,14,13,2,1] [102,101,0] fun O=>?_)))
  replace O:=O.ent (i:=15) (s':=.pv (.int .i64 ((i+1:Nat):Int))) Z (.int (Ze ow))
  obtain ⟨F,O⟩:=O.nM [14,13,2,1,15] [101,0]
  exact ⟨(i+1),F,⟨by omega,(fun k hk=>by rcases Yy (YD hk) with h9 | h9;exact hq k h9;rw [h9];exact hgood)⟩,O,by omega⟩
 have hil:i=g.txs.length:=by simp at hc1;omega
 have hall:∀ k,k<g.txs.length→ZmI g k:=by rw [← hil];exact hq
 have hkn:=ZjV hs.1
 refine Ym (Zg (Zg (Zo (Za (Ya (rZ O (qe 2 101 r1 r1 (qf (oP (Znf g hs.1) func191 (Args.one (.pagg .t))) r1 qz (qO rr qZ))) V [5,2,1] [101,0] fun O=>(Ya (Ya ?_))))))))
 refine rZ O (qg 1 101 r1 r1 (qa 101 r1 r1 (qu YbQ r1 (qR rr (qu YbO r1 (qf (o_neq .t .t) r2 qz qZ)))))) V [53,5,2,1] [101,0] fun O=>?_
 refine Zc O Z (fun hc3=>?_) (fun hc3=>?_)
 ·have hg:=ZeD (h:=g) (by simp at hc3;omega)
  refine Ya (rZ O qB V [5,2,1] [101,0] fun O=>(Yh (Zf ?_)))
  refine ZB hfr O Z Z Z (.bool hg)
 have hle:g.orders.length=(ZaY g.txs).length:=by simp at hc3;omega
 refine Yd (Za (Ya (Ya (rZ O (qg 1 101 r1 r1 (qa 101 r1 r1 (qu YbQ r1 (qJ qZ)))) V [57,56,55,5,2,1] [101,0] fun O=>Ye ?_))))
 refine Zk (σ:=(Nat)) [1,2,5,55,56] [0,101] (fun s=>[(57,.pv (.int .i64 (s:Int)))]) (fun s=>[]) (fun s=>s≤g.orders.length∧(∀ k,k<s→ZiC g k)) (fun s=>g.orders.length - s) (0) O ⟨rfl,rfl,rfl,rfl,rfl,rfl,tv⟩ ⟨rfl,rfl,tv⟩ ⟨Yt _,fun k hk=>absurd hk (YJ k)⟩ ?_
 clear O;intro i a w F hC O
 try dsimp only at hC
 obtain ⟨F,O⟩:=O.nM [57,56,55,5,2,1] [101,0]
 try dsimp only at O
 obtain ⟨hi,hq⟩:=hC
 have hol:=fun hil:i<g.orders.length=>hs.2.at hil
 have hwl:=fun k=>Zb0 g.txs k
 refine Ya (rZ O (qL r2) V [58,57,56,55,5,2,1] [101,0] fun O=>Ya ?_)
 refine Zc O Z (fun hc4=>?_) (fun hc4=>?_)
 ·have hil:i<g.orders.length:=by simp at hc4;omega
  refine Yd (Za (Ya (Ye (Ya (Zb O (qR rr (qy 2 YbQ r2 (qf (oR true 2 .t) r1 qz (qf (oH [.int .i64 0,.slice none 0 0] 103) trivial qz (qO rr (qS 2 103 r2 r1 qZ)))))) V [57,56,55,7,6,5,2,1] [103,101,0] (fun _=>rfl) (fun _=>rfl) fun τ a w F O=>?_)))))
  try dsimp only [RS.sub,SF.sub,CF.sub,csub,Anc.sub,List.map,Zd,xL,xM,Nat.reduceAdd,xD,xE,xT,xU,xC,xN,zCF,ldSF,Zl,rTx,Zv,ZY,Zs,rOp] at O
  generalize τ 7=v7 at O
  try simp only [Yg] at O
  refine Za (Ya (Zu O (qg 0 103 r1 r1 (qa 103 r1 r1 (qR rr (qR rr (qy 1 YbO r2 (qf (oR false 1 .t) r1 qz (qf (o_neq .t .t) r2 qz (qR rr (qv 1 103 Z r2 r1 (qw 103 Z r2 r1 (qk Z (fun h=>oL true 2 101 .is) r2 r1 (qv 0 103 Z r2 r1 (qw 103 Z r2 r1 (qk Z (fun h=>oP (Zkx g (Nn g.orders i).key hs.1) func192 (Args.two (.pagg (.w h)) (.w h))) r3 qz (qk Z (fun h=>oP (ZmM (Nn g.orders i).txs _) func136 (Args.two (.w h) (.w h))) r3 qz (qk Z (fun h=>Z1 (.w h)) r2 qz (qf (ZaM .t .t) r2 qz qZ))))))))))))))))) V [78,57,56,55,5,2,1] [103,101,0] Z Z fun a w F O=>?_))
  try dsimp only [List.map,xD,xE,xT,xU,ldSF,Zl,rTx,Zv,ZY,Zs,rOp] at O
  try simp only [Yg] at O
  refine Za (Zc O Z (fun hc5=>?_) (fun hc5=>?_))
  ·have hbad:¬ ZiC g i:=by rintro ⟨g1,g2⟩;have h9:=hc5;simp [g1] at h9;rw [← g1] at h9;exact h9 g2
   have hg:=ZiL hil hbad
   refine Ya (rZ O qB V [57,56,55,5,2,1] [103,101,0] fun O=>(Yh (Zr (Zf (Zf (Zr (Zf ?_)))))))
   refine ZB hfr O Z Z Z (.bool hg)
  have hgood:ZiC g i:=by have h9:=hc5;simp at h9;exact ⟨h9.1,h9.2⟩
  refine Yd (Zi (Za (rZ O (qp r1 (qR rr qZ)) V [57,56,55,5,2,1] [103,101,0] fun O=>?_)))
  replace O:=O.ent (i:=57) (s':=.pv (.int .i64 ((i+1:Nat):Int))) Z (.int (Ze ow))
  obtain ⟨F,O⟩:=O.nM [56,55,5,2,1,57] [101,0]
  exact ⟨(i+1),F,⟨by omega,(fun k hk=>by rcases Yy (YD hk) with h9 | h9;exact hq k h9;rw [h9];exact hgood)⟩,O,by omega⟩
 have hil:i=g.orders.length:=by simp at hc4;omega
 have hg:=ZnL hlong hall ow (by rw [← hil];exact hq)
 refine Ym (Zg (Zg (Zo (Za (Ya (rZ O qB V [2] [101,0] fun O=>Yh ?_))))))
 refine ZB hfr O Z Z Z (.bool hg)
theorem Zl6 (g:Zx) (hs:Zbb g):FnP prog 74 [.agg (Zl g)] (.bool (decide (ZG g))):=by
 refine FnP.mk func74 Z ntmps74 Z fun B a w F V hfr O=>?_
 have hsl:=hs.1.1
 have hso:=hs.2.1
 refine Ya (Zb O (qx 101 r1 qB) V [2,1] [101,0] (fun _=>rfl) (fun _=>rfl) fun τ a w F O=>?_)
 try dsimp only [RS.sub,SF.sub,CF.sub,csub,Anc.sub,List.map,zCF,Zl,rTx,Zv,ZY,Zs,rOp] at O
 generalize τ 1=v1 at O
 refine Za (Ya (Ya (rZ O (qg 0 101 r1 r1 (qa 101 r1 r1 (qu YbP r1 (qf (Zal .t qi) r1 qz qZ)))) V [11,2,1] [101,0] fun O=>?_)))
 refine Zc O Z (fun hc0=>?_) (fun hc0=>?_)
 ·have hg:=Zeg (h:=g) (by simp at hc0;omega)
  refine Ya (rZ O qB V [2,1] [101,0] fun O=>(Yh (Zf ?_)))
  refine ZB hfr O Z Z Z (.bool hg)
 have hlong:g.txs.length≤4096:=by simp at hc0;omega
 refine Yd (Za (Ya (Ya (rZ O (qg 0 101 r1 r1 (qa 101 r1 r1 (qu YbP r1 (qJ qZ)))) V [15,14,13,2,1] [101,0] fun O=>Ye ?_))))
 refine Zk (σ:=(Nat)) [1,2,13,14] [0,101] (fun s=>[(15,.pv (.int .i64 (s:Int)))]) (fun s=>[]) (fun s=>s≤g.txs.length∧(∀ k,k<s→ZmI g k)) (fun s=>g.txs.length - s) (0) O ⟨rfl,rfl,rfl,rfl,rfl,tv⟩ ⟨rfl,rfl,tv⟩ ⟨Yt _,fun k hk=>absurd hk (YJ k)⟩ ?_
 clear O;intro i a w F hC O
 try dsimp only at hC
 obtain ⟨F,O⟩:=O.nM [15,14,13,2,1] [101,0]
 try dsimp only at O
 obtain ⟨hi,hq⟩:=hC
 have hxl:=fun hil:i<g.txs.length=>hs.1.at hil
 have hiw:0<i→IntKind.wrap .i64 ((i:Int) - 1)=((i - 1:Nat):Int):=fun h0=>by rw [Zj ow];omega
 refine Ya (rZ O (qL r2) V [16,15,14,13,2,1] [101,0] fun O=>Ya ?_)
 refine Zc O Z (fun hc1=>?_) (fun hc1=>?_)
 ·have hil:i<g.txs.length:=by simp at hc1;omega
  refine Yd (Za (Ya (Ye (Ya (Zb O (qR rr (qy 3 YbP r2 (qf (oR true 3 .t) r1 qz (qf (oH [.int .i64 0,.bool false,.slice none 0 0] 102) trivial qz (qO rr (qS 3 102 r2 r1 qZ)))))) V [15,14,13,4,3,2,1] [102,101,0] (fun _=>rfl) (fun _=>rfl) fun τ a w F O=>?_)))))
  try dsimp only [RS.sub,SF.sub,CF.sub,csub,Anc.sub,List.map,Zd,xL,xM,Nat.reduceAdd,xD,xE,xT,xU,xC,xN,zCF,ldSF,Zl,rTx,Zv,ZY,Zs,rOp] at O
  generalize τ 4=v4 at O
  try simp only [Yg] at O
  refine Za (Ya (Zu O (qR rr (qf (Zal .t qi) r1 qz (qR rr (qv 0 101 Z r2 r1 (qw 101 Z r2 r1 (qm Z Z Z Z (qk Z (fun h=>o_sub (.w h) qi) r2 qz (qk Z (fun h=>ZaT (sz:=3) (.mk YbP kr) (by intro x;rfl) (.w h) (.w h) (by rw [hiw (by simpa using h)];omega) (by rw [hiw (by simpa using h)];omega)) r3 qz (qk Z (fun h=>oG 0 (.w h)) r2 qz (qk Z (fun h=>oR false 1 (.w h)) r2 qz (qv 0 102 Z r2 r1 (qw 102 Z r2 r1 (qk Z (fun h=>Zcx (.w h) (.w h)) r3 qz (qf (ZJ .t .t) r2 qz (qR rr (qk Z (fun h=>oL true 3 102 .is) r2 r1 (qk Z (fun h=>oP (ZoS (Nn g.txs i)) func85 (Args.one (.pagg (.w h)))) r2 qz (qk Z (fun h=>o_neq (.w h) qi) r2 qz (qf (ZaM .t .t) r2 qz (qR rr (qk Z (fun h=>oL true 2 101 .is) r2 r1 (qk Z (fun h=>oL true 3 102 .is) r2 r1 (qk Z (fun h=>oP (Zrj g (Nn g.txs i) hs.1 (by have:=hxl hil;omega)) func139 (Args.two (.pagg (.w h)) (.pagg (.w h)))) r3 qz (qk Z (fun h=>Z1 (.w h)) r2 qz (qf (ZaM .t .t) r2 qz qZ))))))))))))))))))))))))) V [44,15,14,13,2,1] [102,101,0] Z Z fun a w F O=>?_))
  try dsimp only [List.map,xD,xE,xT,xU,ldSF,Zl,rTx,Zv,ZY,Zs,rOp] at O
  try simp only [Yg] at O
  refine Za (Zc O Z (fun hc2=>?_) (fun hc2=>?_))
  ·have hbad:¬ ZmI g i:=by
     rintro ⟨g1,g2,g3⟩
     have h9:=hc2
     by_cases hi0:0<i
     · rw [hiw hi0,Yg] at h9
       have:=g1 hi0
       simp [g2,g3] at h9
       omega
     · have hi1:i=0:=by omega
       subst hi1
       simp [g2,g3] at h9
   have hg:=ZfZ hil hbad
   refine Ya (rZ O qB V [15,14,13,2,1] [102,101,0] fun O=>(Yh (Zr (Zf (Zf (Zr (Zf ?_)))))))
   refine ZB hfr O Z Z Z (.bool hg)
  have hgood:ZmI g i:=by
    have h9:=hc2
    by_cases hi0:0<i
    · rw [hiw hi0,Yg] at h9
      simp at h9
      exact ⟨fun _=>by omega,by omega,h9.2⟩
    · have hi1:i=0:=by omega
      subst hi1
      simp at h9
      exact ⟨fun h0=>absurd h0 (Nat.lt_irrefl 0),h9.1,h9.2⟩
  refine Yd (Zi (Za (rZ O (qp r1 (qR rr qZ)) V [15,14,13,2,1] [102,101,0] fun O=>?_)))
  replace O:=O.ent (i:=15) (s':=.pv (.int .i64 ((i+1:Nat):Int))) Z (.int (Ze ow))
  obtain ⟨F,O⟩:=O.nM [14,13,2,1,15] [101,0]
  exact ⟨(i+1),F,⟨by omega,(fun k hk=>by rcases Yy (YD hk) with h9 | h9;exact hq k h9;rw [h9];exact hgood)⟩,O,by omega⟩
 have hil:i=g.txs.length:=by simp at hc1;omega
 have hall:∀ k,k<g.txs.length→ZmI g k:=by rw [← hil];exact hq
 have hkn:=ZjV hs.1
 refine Ym (Zg (Zg (Zo (Za (Ya ?_)))))
 replace O:=O.fresh 103 rfl
 refine Zb O (qe 2 101 r1 r1 (qf (Zc3 103 (Zov g hs.1) func140 Z kr (Args.one (.pagg .t)) Zf1) r1 r1 (qO rr qZ))) V [5,2,1] [103,101,0] (fun _=>rfl) (fun _=>rfl) fun τ a w F O=>?_
 try dsimp only [RS.sub,SF.sub,CF.sub,csub,Anc.sub,List.map,xD,xE,xT,xU,ldSF,Zl,rTx,Zv,ZY,Zs,rOp] at O
 generalize τ 47=v47 at O
 replace O:=O.turn 103 Z (r':=RS.hp (HP.ex fun s:List (GE Int (List Int))×Nat=>HP.and (WrL s.1 g.txs) (mapG (fun l:List Int=>PV.sl Zs l) (fun _=>True) (fun n:Int=>Value.int .i64 n) s.1 s.2 v47))) (fun _ _ _ _ h=>h)
 obtain ⟨sm,O⟩:=O.open_ex 103 rfl
 obtain ⟨hwm,O⟩:=O.open_and 103 rfl
 obtain ⟨es,ck⟩:=sm
 try dsimp only at hwm O
 replace O:=O.turn 103 Z (r':=.ob (.val v47) (mapG (fun l:List Int=>PV.sl Zs l) (fun _=>True) (fun n:Int=>Value.int .i64 n) es ck)) (fun _ _ _ _ h=>h)
 have hgw:=ZsT hwm
 have hml:=Ztv hwm
 obtain ⟨F,O⟩:=O.nM [5,2,1] [103,101,0]
 refine Za (Ya (Ya (rZ O (qR rr (qf (Znj 103 underlying127 .is ow) r1 r1 (qg 1 101 r1 r1 (qa 101 r1 r1 (qu YbQ r1 (qf (o_neq .t .t) r2 qz qZ)))))) V [53,5,2,1] [103,101,0] fun O=>?_)))
 refine Zc O Z (fun hc3=>?_) (fun hc3=>?_)
 ·have hg:=ZeD (h:=g) (by simp at hc3;omega)
  refine Ya (rZ O qB V [5,2,1] [103,101,0] fun O=>(Yh (Zf ?_)))
  refine ZB hfr O Z Z Z (.bool hg)
 have hle:g.orders.length=(ZaY g.txs).length:=by simp at hc3;omega
 refine Yd (Za (Ya (Ya (rZ O (qg 1 101 r1 r1 (qa 101 r1 r1 (qu YbQ r1 (qJ qZ)))) V [57,56,55,5,2,1] [103,101,0] fun O=>Ye ?_))))
 refine Zk (σ:=(Nat)) [1,2,5,55,56] [0,101,103] (fun s=>[(57,.pv (.int .i64 (s:Int)))]) (fun s=>[]) (fun s=>s≤g.orders.length∧(∀ k,k<s→ZgC g k)) (fun s=>g.orders.length - s) (0) O ⟨rfl,rfl,rfl,rfl,rfl,rfl,tv⟩ ⟨rfl,rfl,rfl,tv⟩ ⟨Yt _,fun k hk=>absurd hk (YJ k)⟩ ?_
 clear O;intro i a w F hC O
 try dsimp only at hC
 obtain ⟨F,O⟩:=O.nM [57,56,55,5,2,1] [103,101,0]
 try dsimp only at O
 obtain ⟨hi,hq⟩:=hC
 have hol:=fun hil:i<g.orders.length=>hs.2.at hil
 have hwl:=fun k=>Zb0 g.txs k
 have hiw:0<i→IntKind.wrap .i64 ((i:Int) - 1)=((i - 1:Nat):Int):=fun h0=>by rw [Zj ow];omega
 refine Ya (rZ O (qL r2) V [58,57,56,55,5,2,1] [103,101,0] fun O=>Ya ?_)
 refine Zc O Z (fun hc4=>?_) (fun hc4=>?_)
 ·have hil:i<g.orders.length:=by simp at hc4;omega
  refine Yd (Za (Ya (Ye (Ya (Zb O (qR rr (qy 2 YbQ r2 (qf (oR true 2 .t) r1 qz (qf (oH [.int .i64 0,.slice none 0 0] 104) trivial qz (qO rr (qS 2 104 r2 r1 qZ)))))) V [57,56,55,7,6,5,2,1] [104,103,101,0] (fun _=>rfl) (fun _=>rfl) fun τ a w F O=>?_)))))
  try dsimp only [RS.sub,SF.sub,CF.sub,csub,Anc.sub,List.map,Zd,xL,xM,Nat.reduceAdd,xD,xE,xT,xU,xC,xN,zCF,ldSF,Zl,rTx,Zv,ZY,Zs,rOp] at O
  generalize τ 7=v7 at O
  try simp only [Yg] at O
  refine Za (Ya (Zu O (qR rr (qf (Zal .t qi) r1 qz (qR rr (qv 1 101 Z r2 r1 (qw 101 Z r2 r1 (qm Z Z Z Z (qk Z (fun h=>o_sub (.w h) qi) r2 qz (qk Z (fun h=>ZaT (sz:=2) (.mk YbQ kr) (by intro x;rfl) (.w h) (.w h) (by rw [hiw (by simpa using h)];omega) (by rw [hiw (by simpa using h)];omega)) r3 qz (qk Z (fun h=>oG 0 (.w h)) r2 qz (qk Z (fun h=>oR false 1 (.w h)) r2 qz (qv 0 104 Z r2 r1 (qw 104 Z r2 r1 (qk Z (fun h=>Zcx (.w h) (.w h)) r3 qz (qf (ZJ .t .t) r2 qz (qR rr (qv 1 104 Z r2 r1 (qw 104 Z r2 r1 (qk Z (fun h=>ZbA YbO (.w h)) r2 qz (qk Z (fun h=>o_eql (.w h) qi) r2 qz (qf (ZaM .t .t) r2 qz (qR rr (qv 1 104 Z r2 r1 (qw 104 Z r2 r1 (qm Z Z Z Z (qv 0 104 Z r2 r1 (qw 104 Z r2 r1 (qk Z (fun h=>ZaL (ek:=(fun l:List Int=>PV.sl Zs l)) (z0:=([]:List Int)) 103 underlying127 (Zd6 YbS) kr (fun _ _=>Zs1) (.w h .is) (Z6.int (.w h) Z)) r3 r1 (qk Z (fun h=>oP (Zts (Nn g.orders i).txs _ (by have:=hol hil;omega) (by rw [hgw];have:=hwl (Nn g.orders i).key;omega)) func37 (Args.two (.w h) (.w h))) r3 qz (qk Z (fun h=>Z1 (.w h)) r2 qz (qf (ZaM .t .t) r2 qz qZ)))))))))))))))))))))))))))))) V [91,57,56,55,5,2,1] [104,103,101,0] Z Z fun a w F O=>?_))
  try dsimp only [List.map,xD,xE,xT,xU,ldSF,Zl,rTx,Zv,ZY,Zs,rOp] at O
  try simp only [Yg] at O
  refine Za (Zc O Z (fun hc5=>?_) (fun hc5=>?_))
  ·have hbad:¬ ZgC g i:=by
     rintro ⟨g1,g2,g3⟩
     have h9:=hc5
     rw [hgw] at h9
     have g4:(Nn g.orders i).txs.length≠0:=fun e=>g2 (YU e)
     by_cases hi0:0<i
     · rw [hiw hi0,Yg] at h9
       have:=g1 hi0
       simp [g2,g3] at h9
       omega
     · have hi1:i=0:=by omega
       subst hi1
       simp [g2,g3] at h9
   have hg:=ZhP hil hbad
   refine Ya (rZ O qB V [57,56,55,5,2,1] [104,103,101,0] fun O=>(Yh (Zr (Zf (Zf (Zr (Zf ?_)))))))
   refine ZB hfr O Z Z Z (.bool hg)
  have hgood:ZgC g i:=by
    have h9:=hc5
    rw [hgw] at h9
    by_cases hi0:0<i
    · rw [hiw hi0,Yg] at h9
      simp at h9
      exact ⟨fun _=>by omega,h9.1.2,h9.2⟩
    · have hi1:i=0:=by omega
      subst hi1
      simp at h9
      exact ⟨fun h0=>absurd h0 (Nat.lt_irrefl 0),h9.1,h9.2⟩
  refine Yd (Zi (Za (rZ O (qp r1 (qR rr qZ)) V [57,56,55,5,2,1] [104,103,101,0] fun O=>?_)))
  replace O:=O.ent (i:=57) (s':=.pv (.int .i64 ((i+1:Nat):Int))) Z (.int (Ze ow))
  obtain ⟨F,O⟩:=O.nM [56,55,5,2,1,57] [103,101,0]
  exact ⟨(i+1),F,⟨by omega,(fun k hk=>by rcases Yy (YD hk) with h9 | h9;exact hq k h9;rw [h9];exact hgood)⟩,O,by omega⟩
 have hil:i=g.orders.length:=by simp at hc4;omega
 have hg:=Zlc hlong hall ow (by rw [← hil];exact hq)
 refine Ym (Zg (Zg (Zo (Za (Ya (rZ O qB V [2] [103,101,0] fun O=>Yh ?_))))))
 refine ZB hfr O Z Z Z (.bool hg)
theorem ZnF (d:ZK):(((decide (Z5 TxD.id d.was) && decide (Z5 TxD.id d.now)) && decide (Z5 OrdD.key d.old)) && decide (Z5 OrdD.key d.new))=decide (ZdK d):=by
 rw [Y6]
 simp only [Yv,Yj]
 exact ⟨fun ⟨⟨⟨h1,h2⟩,h3⟩,h4⟩=>⟨h1,h2,h3,h4⟩,fun ⟨h1,h2,h3,h4⟩=>⟨⟨⟨h1,h2⟩,h3⟩,h4⟩⟩
def Zhg (d:ZK):Prop:=Zbb ⟨d.was,d.old⟩∧Zbb ⟨d.now,d.new⟩
theorem Zhg.ok {d:ZK} (h:Zhg d):DOk d:=by
 obtain ⟨⟨⟨h1,h2⟩,h3,h4⟩,⟨h5,h6⟩,h7,h8⟩:=h
 dsimp only at h1 h2 h3 h4 h5 h6 h7 h8
 exact ⟨⟨by omega,fun t ht=>by have:=h2 t ht;omega⟩,⟨by omega,fun t ht=>by have:=h6 t ht;omega⟩,⟨by omega,fun t ht=>by have:=h4 t ht;omega⟩,⟨by omega,fun t ht=>by have:=h8 t ht;omega⟩⟩
theorem ZaW.less {u v:List TxD} (h:ZaW u):ZaW (Zag TxD.id u v):=⟨YW (Zb2 _ _) h.1,fun t ht=>h.2 t (Zds ht)⟩
theorem ZbG.less {u v:List OrdD} (h:ZbG u):ZbG (Zag OrdD.key u v):=⟨YW (Zb2 _ _) h.1,fun t ht=>h.2 t (Zds ht)⟩
def Zuk (g1 g2:Zx):ZK:=⟨Zag TxD.id g1.txs g2.txs,Zag TxD.id g2.txs g1.txs,Zag OrdD.key g1.orders g2.orders,Zag OrdD.key g2.orders g1.orders⟩
theorem ZlW:ZfC [.is (.slice none 0 0),.is (.slice none 0 0)] (Zl noH):=⟨.nilSl,.nilSl,tv⟩
theorem Zrz:ZfC [.is (.slice none 0 0),.is (.slice none 0 0),.is (.slice none 0 0),.is (.slice none 0 0)] (Zaa noD):=⟨.nilSl,.nilSl,.nilSl,.nilSl,tv⟩
def Zcu (g:Zx) (d:ZK):Prop:=Zbb g∧Zhg d∧Zbb (Zcy g d)
theorem Zcu.turn {g:Zx} {d:ZK} (h:Zcu g d):Zbb (Zcy g d):=h.2.2
theorem Zcu.of {g:Zx} {d:ZK} (h1:Zbb g) (h2:Zhg d) (h3:g.txs.length+d.now.length≤1000) (h4:g.orders.length+d.new.length≤1000):Zcu g d:=by
 refine ⟨h1,h2,⟨YW Zgp h3,fun t ht=>?_⟩,YW Zgp h4,fun t ht=>?_⟩
 ·rcases Zd5.1 ht with e | e
  ·exact h1.1.2 t e.1
  ·exact h2.2.1.2 t e
 ·rcases Zd5.1 ht with e | e
  ·exact h1.2.2 t e.1
  ·exact h2.2.2.2 t e
theorem Zng.of {l:List TxD} (h:ZaW l):Zng l:=⟨by have:=h.1;omega,fun t ht=>by have:=h.2 t ht;omega⟩
theorem Zia.of {l:List OrdD} (h:ZbG l):Zia l:=⟨by have:=h.1;omega,fun t ht=>by have:=h.2 t ht;omega⟩
theorem ZqP (d:ZK) (hd:DOk d):FnP prog 110 [.agg (Zaa d)] (.bool (decide (ZdK d))):=by
 refine FnP.mk func110 Z ntmps110 Z fun B a w F V hfr O=>Ya ?_
 refine Zb O (qx 101 r1 qB) V [2,1] [101,0] (fun _=>rfl) (fun _=>rfl) fun τ a w F O=>?_
 try dsimp only [RS.sub,SF.sub,CF.sub,csub,Anc.sub,List.map,zCF,Zl,rTx,Zv,ZY,Zs,rOp,Zaa] at O
 generalize τ 1=v1 at O
 refine Za (Ya (rZ O (qg 0 101 r1 r1 (qa 101 r1 r1 (qf (oP (ZlU d.was hd.was.1) func176 (Args.two .t (.conv .f (Ent.fnClos)))) r1 qz (qR rr (qv 1 101 Z r2 r1 (qw 101 Z r2 r1 (qk Z (fun h=>oP (ZlU d.now hd.now.1) func176 (Args.two (.w h) (.conv .f (Ent.fnClos)))) r2 qz (qf (ZJ .t .t) r2 qz (qR rr (qv 2 101 Z r2 r1 (qw 101 Z r2 r1 (qk Z (fun h=>oP (Zmd d.old hd.old.1) func177 (Args.two (.w h) (.conv .f (Ent.fnClos)))) r2 qz (qf (ZJ .t .t) r2 qz (qR rr (qv 3 101 Z r2 r1 (qw 101 Z r2 r1 (qk Z (fun h=>oP (Zmd d.new hd.new.1) func177 (Args.two (.w h) (.conv .f (Ent.fnClos)))) r2 qz (qf (ZJ .t .t) r2 qz (qO rr qZ))))))))))))))))))) V [2] [101,0] fun O=>Yh ?_))
 refine ZB hfr O Z Z Z (.bool (ZnF d))
theorem ZqY (g:Zx) (d:ZK) (hsd:Zcu g d):FnP prog 60 [.agg (Zl g),.agg (Zaa d)] (.tup [.agg (Zl (ZN g d).1),.int .i64 (ZN g d).2]):=by
 refine FnP.mk func60 Z ntmps60 Z fun B a w F V hfr O=>Ya ?_
 refine Zb O (qx 101 r1 (qx 102 r1 (qf (oH [.slice none 0 0,.slice none 0 0] 103) trivial qz (qI qZ)))) V [5,4,3,2] [103,102,101,0] (fun _=>rfl) (fun _=>rfl) fun τ a w F O=>?_
 try dsimp only [RS.sub,SF.sub,CF.sub,csub,Anc.sub,List.map,zCF,Zl,rTx,Zv,ZY,Zs,rOp,Zaa] at O
 generalize τ 2=v2,τ 3=v3,τ 4=v4 at O
 refine Za (Ya (Ye (Ya (rZ O (qe 2 101 r1 r1 (qf (oP (Zl6 g hsd.1) func74 (Args.one (.pagg .t))) r1 qz (qf (Z1 .t) r1 qz (qR rr (qk Z (fun h=>oL true 4 102 .is) r2 r1 (qk Z (fun h=>oP (ZqP d hsd.2.1.ok) func110 (Args.one (.pagg (.w h)))) r2 qz (qk Z (fun h=>Z1 (.w h)) r2 qz (qf (ZaM .t .t) r2 qz (qO rr qZ))))))))) V [7,5,4,3,2] [103,102,101,0] fun O=>?_))))
 refine Zc O Z (fun hc0=>?_) (fun hc0=>?_)
 ·have h9:(!decide (ZG g) || !decide (ZdK d))=true:=hc0
  have hg:ZN g d=(noH,5):=by unfold ZN;rw [Yf (by rintro ⟨e1,e2⟩;rw [YI e1,YI e2] at h9;cases h9)]
  refine Ya (rZ O (qf (oB [] [.slice none 0 0,.slice none 0 0] [(0,1),(1,1)] .nil) trivial qz (qs 2 103 r2 r1 (qI qZ))) V [5,4,3,2] [103,102,101,0] fun O=>(Yh (Zr (Zf ?_))))
  refine Z3 hfr O Z (.cl 103 true 2 Z Z (.tmp Z .nil)) (.two (by rw [hg];first | exact .aggU Z Z | exact .aggLe Z ZlW) (.int (by rw [hg])))
 have h9:(!decide (ZG g) || !decide (ZdK d))=false:=hc0
 have hr:ZG g∧ZdK d:=by simpa using h9
 refine Ya (rZ O (qg 0 101 r1 r1 (qa 101 r1 r1 (qg 0 102 r1 r1 (qa 102 r1 r1 (qg 1 102 r1 r1 (qa 102 r1 r1 (qf (oP (Zsx g.txs d.was d.now (by have:=hsd.2.1.1.1.1;dsimp only at this;omega)) func111 (Args.five .t .t .t (.conv .f (Ent.fnClos)) (.conv .f (Ent.fnClos)))) r3 qz (qf (Z1 .t) r1 qz (qR rr (qv 1 101 Z r2 r1 (qw 101 Z r2 r1 (qv 2 102 Z r2 r1 (qw 102 Z r2 r1 (qv 3 102 Z r2 r1 (qw 102 Z r2 r1 (qk Z (fun h=>oP (Zsj g.orders d.old d.new (by have:=hsd.2.1.1.2.1;dsimp only at this;omega)) func112 (Args.five (.w h) (.w h) (.w h) (.conv .f (Ent.fnClos)) (.conv .f (Ent.fnClos)))) r4 qz (qk Z (fun h=>Z1 (.w h)) r2 qz (qf (ZaM .t .t) r2 qz (qO rr qZ))))))))))))))))))) V [17,5,4,3,2] [103,102,101,0] fun O=>?_)
 refine Zc O Z (fun hc1=>?_) (fun hc1=>?_)
 ·have h9:(!Zbj TxD.id g.txs d.was d.now || !Zbj OrdD.key g.orders d.old d.new)=true:=hc1
  have hg:ZN g d=(noH,17):=by unfold ZN;rw [Yb (by simp [hr]),Yf (by unfold ZgR;rw [← Bool.not_eq_true,Yv];rintro ⟨e1,e2⟩;rw [e1,e2] at h9;cases h9)]
  refine Ya (rZ O (qf (oB [] [.slice none 0 0,.slice none 0 0] [(0,1),(1,1)] .nil) trivial qz (qs 2 103 r2 r1 (qI qZ))) V [5,4,3,2] [103,102,101,0] fun O=>(Yh (Zr (Zf ?_))))
  refine Z3 hfr O Z (.cl 103 true 2 Z Z (.tmp Z .nil)) (.two (by rw [hg];first | exact .aggU Z Z | exact .aggLe Z ZlW) (.int (by rw [hg])))
 have h9:(!Zbj TxD.id g.txs d.was d.now || !Zbj OrdD.key g.orders d.old d.new)=false:=hc1
 have hf:Zbj TxD.id g.txs d.was d.now=true∧Zbj OrdD.key g.orders d.old d.new=true:=by simpa using h9
 have hfd:¬ ZgR g d=false:=by unfold ZgR;rw [hf.1,hf.2];simp
 refine Yd (Zi (Za (Ya (ZaK O (qg 0 101 r1 r1 (qa 101 r1 r1 (qg 0 102 r1 r1 (qa 102 r1 r1 (qg 1 102 r1 r1 (qa 102 r1 r1 (qf (oP (Zpw g.txs d.was d.now (by have:=hsd.1.1.1;omega) (by have:=hsd.2.1.2.1.1;dsimp only at this;omega) (Zjp hr.1.rise.1.unl hr.2.2.1.unl hf.1)) func113 (Args.four .t .t .t (.conv .f (Ent.fnClos)))) r3 qz (qg 1 101 r1 r1 (qa 101 r1 r1 (qg 2 102 r1 r1 (qa 102 r1 r1 (qg 3 102 r1 r1 (qa 102 r1 r1 (qf (oP (Zo8 g.orders d.old d.new (by have:=hsd.1.2.1;omega) (by have:=hsd.2.1.2.2.1;dsimp only at this;omega) (Zjp hr.1.rise.2.unl hr.2.2.2.2.unl hf.2)) func114 (Args.four .t .t .t (.conv .f (Ent.fnClos)))) r3 qz (qf (oB [(0,.tmp 43),(1,.tmp 50)] [.slice none 0 0,.slice none 0 0] [(0,1),(1,1)] (.one Z .t Zas kr (.one Z .t Zas kr .nil))) r2 qz (qf (oH [.slice none 0 0,.slice none 0 0] 104) trivial qz (qS 2 104 r2 r1 qZ))))))))))))))))) V [6,5,4] [104,103,102,101,0] (fun _=>rfl) (fun _=>rfl) fun τ a w F O=>?_))))
 try dsimp only [RS.sub,SF.sub,CF.sub,csub,Anc.sub,List.map,Zd,xL,xM,Nat.reduceAdd,xD,xE,xT,xU,xC,xN,zCF,ldSF,Zl,rTx,Zv,ZY,Zs,rOp,Zaa] at O
 generalize τ 6=v6 at O
 refine Za (Ya (Ya (rZ O (qe 2 104 r1 r1 (qf (oP (Zl6 (Zcy g d) hsd.turn) func74 (Args.one (.pagg .t))) r1 qz (qf (Z1 .t) r1 qz qZ))) V [54,6,5,4] [104,103,102,101,0] fun O=>?_)))
 refine Zc O Z (fun hc2=>?_) (fun hc2=>?_)
 ·have hr2:¬ ZG (Zcy g d):=by simpa using hc2
  have hg:ZN g d=(noH,8):=by unfold ZN;rw [Yb (by simp [hr]),Yb hfd,Yb hr2]
  refine Ya (rZ O (qf (oB [] [.slice none 0 0,.slice none 0 0] [(0,1),(1,1)] .nil) trivial qz (qs 2 103 r2 r1 (qI qZ))) V [6,5,4] [104,103,102,101,0] fun O=>(Yh (Zf ?_)))
  refine Z3 hfr O Z (.cl 103 true 2 Z Z (.tmp Z .nil)) (.two (by rw [hg];first | exact .aggU Z Z | exact .aggLe Z ZlW) (.int (by rw [hg])))
 have hr2:ZG (Zcy g d):=by simpa using hc2
 have hg:ZN g d=(Zcy g d,0):=by unfold ZN;rw [Yb (by simp [hr]),Yb hfd,Yf hr2]
 refine Yd (Za (Ya (Zu O (qg 0 104 r1 r1 (qa 104 r1 r1 (qf (oP (ZtV (Zcy g d).txs (Zng.of hsd.turn.1).1 (Zng.of hsd.turn.1).2) func115 (Args.one .t)) r1 qz (qg 1 104 r1 r1 (qa 104 r1 r1 (qf (oP (Zro (Zcy g d).orders (Zia.of hsd.turn.2).1 (Zia.of hsd.turn.2).2) func116 (Args.one .t)) r1 qz (qf (oB [(0,.tmp 58),(1,.tmp 61)] [.slice none 0 0,.slice none 0 0] [(0,1),(1,1)] (.one Z .t Zas kr (.one Z .t Zas kr .nil))) r2 qz (qs 2 103 r2 r1 (qI qZ))))))))) V [5,4] [104,103,102,101,0] Z Z fun a w F O=>?_)))
 try dsimp only [List.map,Zd,xL,xM,Nat.reduceAdd,xD,xE,xT,xU,xC,xN,zCF,ldSF,Zl,rTx,Zv,ZY,Zs,rOp,Zaa] at O
 refine Za (Yh (Z3 hfr O Z (.cl 103 true 2 Z Z (.tmp Z .nil)) (.two (by rw [hg];first | exact .aggU Z Z | exact .aggLe Z ZlW) (.int (by rw [hg])))))
section
variable {α:Type} {κ:α→Int}
variable [DecidableEq α]
end
section
variable {P:Program} {d:Option Nat} {ty:TypeId} {pos:String} {af:Array Edge} {g:Option (Nat×Bool)} {x y:Operand} {ps qs:List (Nat×SF)} {t:TypeId} {α:Type}
theorem Za5 {kt:TypeId} (hk:P.underlying kt=some (.int .i64)):ZnU P kt (fun n:Int=>inR .i64 n) (fun n:Int=>Value.int .i64 n):=
 ⟨fun b k w _=>(Zd6 hk).check b k w tv,fun es k w _ _=>(Zd6 hk).find es k w trivial fun _ _=>trivial,(Zd6 hk).same⟩
theorem Z6.intR {n k:Int} (h:Opd x ps (.pv (.int .i64 n))) (e:n=k):Z6 (fun n:Int=>inR .i64 n) (fun n:Int=>Value.int .i64 n) x ps k:=fun a w yy hp=>by
 subst e
 exact h a w yy hp
end
abbrev MPI (es:List (GE Int Int)) (ck:Nat):Value→HP:=mapG (fun c:Int=>PV.int .i64 c) (fun n:Int=>inR .i64 n) (fun n:Int=>Value.int .i64 n) es ck
end Go.Proofs.YtfecljadegkmdaaGreat
namespace Go.Proofs.YtfecljadegkmdaaGreat
open Go Go.Gm Tryz
set_option linter.unusedVariables false
set_option linter.unusedSimpArgs false
set_option maxHeartbeats 4000000
set_option maxRecDepth 8000
open Go.RowKit Go.Maps Go.Sort Go.Shelf Go.ChangeMaps Go.MapKept
def Zq2 (x:Int):List Value:=[.int .i64 x]
def Zog (x:Int):Value:=.int .i64 x
def Zug (v:Value):Int:=match v with
 | .int _ x=>x
 | _=>0
theorem Zqd (x:Int):Zug (Zog x)=x:=rfl
theorem ZqX (x:Int):∀ u ∈ [Value.int .i64 x],u.oneCell' = true:=by simp [Value.oneCell']
theorem Zn5 {w:World} {y:Ys} : ∀ {l:List Int},(∀ x ∈ l,inR .i64 x)→PVs (l.flatMap Zs) (l.flatMap Zq2) w y
 | [],_=>trivial
 | x :: l,h=>⟨⟨rfl,rfl,h x (by simp)⟩,Zn5 fun z hz=>h z (by simp [hz])⟩
end Go.Proofs.YtfecljadegkmdaaGreat
namespace Go.Proofs.YtfecljadegkmdaaGreat
open Go Go.Gm Tryz
set_option linter.unusedVariables false
set_option linter.unusedSimpArgs false
set_option maxHeartbeats 4000000
set_option maxRecDepth 8000
open Go.RowKit Go.Maps Go.Sort Go.Shelf Go.ChangeMaps Go.MapKept
theorem Zpa (w:World) (l:List Value) (t:TypeId):∀ j u,l[j]? = some u→(w.alloc (.cells l.toArray t)).cell? ((⟨w.heap.size,0,none⟩:Addr).add j)=some u:=by
 intro j u hj
 rw [show (⟨w.heap.size,0,none⟩:Addr).add j = ⟨w.heap.size,j,none⟩ from by cases j <;> simp [Addr.add]]
 rw [ZbC (vs:=l.toArray) (T:=t) (fr:=(0,0)) (World.alloc_heap_new w _)]
 simpa using hj
def ZfA : Code := (Code.region 2 #[{ dst := some 5, op := Op.assign (Operand.tmp 7), type := 3, pos := "iter.go:51", after := #[], guard := none }] false)
def ZiH : Code := (Code.block 1 (Code.region 3 #[{ dst := some 8, op := Op.load 37 (Operand.tmp 2), type := 37, pos := "iter.go:52", after := #[], guard := none }, { dst := some 9, op := Op.move (Operand.tmp 5), type := 3, pos := "iter.go:52", after := #[], guard := none }, { dst := some 10, op := Op.buildSlice 37 1 #[(0, Operand.tmp 9)], type := 37, pos := "iter.go:52", after := #[{ on := 1, ground := Ground.data }], guard := none }, { dst := some 11, op := Op.call { callee := Callee.builtin Builtin.append, args := #[Operand.tmp 8, Operand.tmp 10], argTypes := #[37, 37] }, type := 37, pos := "iter.go:52", after := #[{ on := 0, ground := Ground.data }, { on := 2, ground := Ground.data }], guard := none }, { dst := none, op := Op.store 37 (Operand.tmp 2) (Operand.tmp 11), type := 0, pos := "iter.go:52", after := #[{ on := 3, ground := Ground.data }, { on := 3, ground := Ground.chain }, { on := 0, ground := Ground.phase }, { on := 1, ground := Ground.phase }, { on := 2, ground := Ground.phase }, { on := 3, ground := Ground.phase }], guard := none }] false))
def kcApRec (fn:FuncId) (sv:Value) (Bs D:Nat) (st:LoopState) (pend:Option Code):Loop:=
 { state:=st,pending:=pend,fn,tmps:=#[.slice none 0 0,sv,.pointer (some ⟨Bs,0,none⟩),undef,.slice none 0 0,undef,sv,undef,undef,undef,undef,undef,undef],params:=#[7],assign:=ZfA,body:=ZiH,defers:=D }
structure ZjG (w0:World) (fn:FuncId) (sv:Value) (Bs l D:Nat) (ss:List Int) (W:World):Prop where
 box:∃ v,W.heap[Bs]? = some (.cells #[v] 37 (0,0))∧W.ownsRow w0.heap.size 3 1 v ss.length (ss.flatMap Zq2)∧(v = .slice none 0 0 ↔ ss = [])
 L:W.heap[l]? = some (.loop (kcApRec fn sv Bs D .ready none))
 K:W.heap[D]? = some (.deferred (some []))
 below:Below w0.heap.size w0 W
theorem Zk4 (w0:World) (fn:FuncId) (sv:Value) (Bs l D B:Nat) (V:w0.heap.size≤B):AbidesFrom B (ZjG w0 fn sv Bs l D):=fun s W W' row h hg hrow=>by
 have hrow':∀ r,row=some r → ∃ o:Obj,W.heap[r]? = some o∧o.isWalk=true:=fun r e=>(hrow r e).2
 obtain ⟨v,hv,hr,hn⟩:=h.box
 exact ⟨⟨v,(grownBy_keeps hg hrow' hv rfl).trans hv,ownsRow_abides_a hr hg hrow',hn⟩,(grownBy_keeps hg hrow' h.L rfl).trans h.L,(grownBy_keeps hg hrow' h.K rfl).trans h.K,
  h.below.grown hg h.below.size (fun k e=>YW V (hrow k e).1)⟩
set_option maxRecDepth 100000 in
set_option maxHeartbeats 2000000 in
theorem Zpi (F:Fence) (m:Nat) (w0:World) (fn:FuncId) (hfn:F.fn fn) (sv:Value) (Bs l D:Nat) (hBl:Bs≠l) (hDl:D≠l) (hDB:D≠Bs) (h0B:w0.heap.size≤Bs) (h0l:w0.heap.size≤l)
   (N:Nat) (hN:N≤maxLen) (hNb:N*8≤140737488355328) (ss:List Int) (x:Int) (W:World) (h:ZjG w0 fn sv Bs l D ss W) (hlen:ss.length<N) :
   YieldAt F m prog l #[(.int .i64 x)] W fun e W'=>e = .returned (.bool true)∧ZjG w0 fn sv Bs l D (ss ++ [x]) W' ∧ KeepsWalks W W':=by
 have hne:37≠3:=by decide
 obtain ⟨i0,hi,hz0,hz1,hz2⟩:=info_parts (show (prog.info? 3).map (fun i=>(i.zero,i.size,i.bytes))=some (some (.int .i64 0),1,8) from by kernel_rfl)
 obtain ⟨v,hv,hrow,_⟩:=h.box
 refine ⟨fn,#[.slice none 0 0,sv,.pointer (some ⟨Bs,0,none⟩),undef,.slice none 0 0,undef,sv,(.int .i64 x),undef,undef,undef,undef,undef],ZfA,ZiH,by simpa [kcApRec] using run_yield (P:=prog) (args:=#[(.int .i64 x)]) h.L rfl,roundIn_of_wpIn hfn ?_⟩
 have hl:l<W.heap.size:=(Y4.1 h.L).1
 have hbr:=run_beginRound (P:=prog) h.L rfl
 obtain ⟨W2,hW2⟩:∃ W2,W.putObj l (.loop { kcApRec fn sv Bs D .ready none with state:=.busy })=W2:=⟨_,rfl⟩
 rw [hW2] at hbr
 have hg2:W.grownBy W2 (some l):=by rw [← hW2];exact grownBy_putObj_a _ _ _
 have hk2:KeepsWalks W W2:=by rw [← hW2];exact KeepsWalks.putObj _ h.L rfl
 have hv2:W2.heap[Bs]? = some (.cells #[v] 37 (0,0)):=by rw [← hW2];exact (World.putObj_heap_other hBl).trans hv
 have hK2:W2.heap[D]? = some (.deferred (some [])):=by rw [← hW2];exact (World.putObj_heap_other hDl).trans h.K
 have hL2:W2.heap[l]? = some (.loop { kcApRec fn sv Bs D .ready none with state:=.busy }):=by rw [← hW2];exact World.putObj_heap_same hl
 have hrow2:W2.ownsRow w0.heap.size 3 1 v ss.length (ss.flatMap Zq2):=hrow.kept hg2 (ownsRow_ne_a hrow h.L (fun cur e=>by first | cases e | exact hne (Ybl e).2.1))
 have hb2:Below w0.heap.size w0 W2:=h.below.grown hg2 h.below.size (fun k e=>by cases e;exact h0l)
 obtain ⟨hc2,hf2⟩:=cell_of_box_a hv2
 have hBlt:Bs<W2.heap.size:=(Y4.1 hv2).1
 have hl2:l<W2.heap.size:=(Y4.1 hL2).1
 have hDlt:D<W2.heap.size:=(Y4.1 hK2).1
 have ne_of:∀ {j:Nat} {o:Obj},W2.heap[j]? = some o→(∀ cur,o ≠ .cells cur 3 (0,0))→some j≠v.ownBlock:=fun hj hno=>by
   rcases ownsRow_ne_a hrow2 hj hno with e | e
   · rw [e];simp
   · exact fun e'=>e e'.symm
 clear hW2
 unfold ZfA
 gi_wp2_with gi_round_op_a
 unfold ZiH
 gi_wp2_with (first
   | (gi_at_builtin;refine wpListIn_append_own _ rfl _ _ 37 rfl w0.heap.size 3 i0 (.int .i64 0) 1 8 YbO hi hz0 hz1 hz2 rfl (by decide) _ _ _ rfl (hrow2.alloc _) ⟨W2.heap.size,0,none⟩ 1 1 ([.int .i64 x]) rfl rfl (Zpa _ _ _) (ZqX x) ow ow (by have:=hb2.size;simp;omega) ?_;intro v' w3 hown' hg3 hnil3
      have hv3:w3.heap[Bs]? = some (.cells #[v] 37 (0,0)):=(hg3.block Bs (by simp;omega) (ne_of hv2 (fun cur e=>by first | cases e | exact hne (Ybl e).2.1))).trans ((Below.heap_alloc _ _ Bs hBlt).trans hv2)
      obtain ⟨hc3,hf3⟩:=cell_of_box_a hv3
      obtain ⟨g',cap',cur',rfl,hbase',hgb',hr1,hr2,hr3,hr4⟩:∃ g' cap' cur',v' = .slice (some ⟨g',0,none⟩) (ss.length+1) cap' ∧ w0.heap.size≤g' ∧ w3.heap[g']? = some (.cells cur' 3 (0,0))∧ss.length+1≤cap' ∧ cap' ≤ maxLen∧cur'.size=cap' * 1∧cur'.toList.take ((ss.length+1)*1)=ss.flatMap Zq2 ++ [.int .i64 x]:=by
        rcases hown'.2 with ⟨_,h0⟩ | h'
        · exact absurd h0 ow
        · exact h'
      go_frame)
   | gi_round_op_a)
 have hg3':(W2.alloc (.cells ([.int .i64 x]).toArray 3)).grownBy w3 v.ownBlock:=hg3
 have hL3:w3.heap[l]? = some (.loop { kcApRec fn sv Bs D .ready none with state:=.busy }):=(hg3'.block l (by simp;omega) (ne_of hL2 (fun cur e=>by first | cases e | exact hne (Ybl e).2.1))).trans ((Below.heap_alloc _ _ l hl2).trans hL2)
 have hK3:w3.heap[D]? = some (.deferred (some [])):=(hg3'.block D (by simp;omega) (ne_of hK2 (fun cur e=>by first | cases e | exact hne (Ybl e).2.1))).trans ((Below.heap_alloc _ _ D hDlt).trans hK2)
 obtain ⟨w4,hw4⟩:∃ w4,w3.setCell ⟨Bs,0,none⟩ (.slice (some ⟨g',0,none⟩) (ss.length+1) cap')=w4:=⟨_,rfl⟩
 rw [hw4]
 have hg4:w3.grownBy w4 (some Bs):=by rw [← hw4];exact grownBy_setCell0_a _ _ _
 have hv4:w4.heap[Bs]? = some (.cells #[.slice (some ⟨g',0,none⟩) (ss.length+1) cap'] 37 (0,0)):=by rw [← hw4];exact heap_setCell_box_a _ hv3
 have hL4:w4.heap[l]? = some (.loop { kcApRec fn sv Bs D .ready none with state:=.busy }):=(hg4.block l (Y4.1 hL3).1 (fun e=>hBl (by cases e;rfl))).trans hL3
 have hK4:w4.heap[D]? = some (.deferred (some [])):=(hg4.block D (Y4.1 hK3).1 (fun e=>hDB (by cases e;rfl))).trans hK3
 have hrow4:=hown'.kept hg4 (ownsRow_ne_a hown' hv3 (fun cur e=>by first | cases e | exact hne (Ybl e).2.1))
 have hl4:l<w4.heap.size:=(Y4.1 hL4).1
 have hb3:Below w0.heap.size w0 w3:=(hb2.alloc hb2.size _).grown hg3' (by have:=hb2.size;simp;omega) (fun k e=>(hrow2.lt k e).1)
 have hb4:Below w0.heap.size w0 w4:=hb3.grown hg4 hb3.size (fun k e=>by cases e;exact h0B)
 have hk4:KeepsWalks W w4:=((hk2.trans (KeepsWalks.alloc _ _)).trans (KeepsWalks.of_grownBy hg3' (ownsRow_not_walk_a (hrow2.alloc _)))).trans (by rw [← hw4];exact KeepsWalks.setCell _ _ _)
 clear hw4
 refine ⟨_,_,run_endRound none hL4,rfl,⟨⟨_,(World.putObj_heap_other hBl).trans hv4,?_,by simp⟩,World.putObj_heap_same hl4,(World.putObj_heap_other hDl).trans hK4,hb4.grown (grownBy_putObj_a _ _ _) hb4.size (fun k e=>by cases e;exact h0l)⟩,hk4.trans (KeepsWalks.putObj _ hL4 Z)⟩
 have:=hrow4.kept (grownBy_putObj_a w4 l (.loop { { kcApRec fn sv Bs D .ready none with state:=.busy } with state:=if (none:Option Code).isNone then .ready else .done,pending:=none })) (ownsRow_ne_a hrow4 hL4 (fun cur e=>by first | cases e | exact hne (Ybl e).2.1))
 rw [Ya6,show [x].flatMap Zq2 = [.int .i64 x] from rfl,Yc]
 simpa using this
set_option maxRecDepth 100000 in
set_option maxHeartbeats 2000000 in
theorem ZhM (F:Fence) (n:Nat) (h11:F.fn 241) (hro:F.round=none) (hn:2≤n) (g:Nat) (lb:Array Value) (hFg:F.fn g) (eg:∀ args w,(callFunc g args).run prog w = .ok (.enter g args) w)
  (S:List Int→Prop) (N:Nat) (hN:N≤maxLen) (hNb:N*8≤140737488355328) (w:World) (hseq:SeqGives F (n - 1) prog g lb Zog S N w) :
  CallsIn F n prog 241 #[.slice none 0 0,.func (.func g) #[] lb] w fun e w'=>∃ (v:Value) (ss:List Int),e = .returned v∧S ss∧w'.ownsRow w.heap.size 3 1 v ss.length (ss.flatMap Zq2)∧(v = .slice none 0 0 ↔ ss = [])∧Below w.heap.size w w':=by
 have h1:1≤n:=by omega
 have hne:37≠3:=by decide
 refine callsIn_of_wp_marks func241 Z h11 ?_ hro
 simp only [ntmps241,YaD,Yl,Yq,Nat.reduceAdd,Nat.reduceSub,Array.replicate_succ,Array.replicate_zero,List.push_toArray,List.append_toArray,Yal,Y0]
 gi_wp2
 refine wpIn_rangeFunc ?_
 intro fn hfn
 rw [hro]
 obtain ⟨W0,hW0⟩:∃ W0,w.alloc (.cells #[.slice none 0 0] 37)=W0:=⟨_,rfl⟩
 have hs0:W0.heap.size=w.heap.size+1:=by rw [← hW0];simp
 have hv0:W0.heap[w.heap.size]? = some (.cells #[.slice none 0 0] 37 (0,0)):=by rw [← hW0];exact World.alloc_heap_new w _
 have hb0:Below w.heap.size w W0:=by rw [← hW0];exact (Below.refl _ w).alloc (YA _) _
 rw [hW0]
 obtain ⟨W1,hW1⟩:∃ W1,(W0.alloc (.deferred (some []))).alloc (.loop (kcApRec fn (.func (.func g) #[] lb) w.heap.size W0.heap.size .ready none))=W1:=⟨_,rfl⟩
 have hold:∀ k,k<W0.heap.size→W1.heap[k]? = W0.heap[k]?:=fun k hk=>by
  rw [← hW1];exact (Below.heap_alloc _ _ k (by simp;omega)).trans (Below.heap_alloc _ _ k hk)
 have hb1:Below w.heap.size w W1:=by rw [← hW1];exact (hb0.alloc hb0.size _).alloc (by have:=hb0.size;simp;omega) _
 have hs1:W1.heap.size=W0.heap.size+2:=by rw [← hW1];simp
 have hM:ZjG w fn (.func (.func g) #[] lb) w.heap.size (W0.heap.size+1) W0.heap.size [] W1:=
  ⟨⟨_,(hold w.heap.size ow).trans hv0,⟨rfl,.inl ⟨rfl,rfl⟩⟩,by simp⟩,
   by rw [← hW1];have:=World.alloc_heap_new (W0.alloc (.deferred (some []))) (.loop (kcApRec fn (.func (.func g) #[] lb) w.heap.size W0.heap.size .ready none));rwa [World.size_alloc] at this,
   by rw [← hW1];exact (Below.heap_alloc _ _ _ (by simp)).trans (World.alloc_heap_new W0 _),hb1⟩
 refine ⟨W0.heap.size+1,[{ target:=.collected W0.heap.size,args:=#[] }],W1,{ target:=.fn (.func g) lb,args:=#[.func (.yield (W0.heap.size+1)) #[] #[]] },W1,g,
  #[.func (.yield (W0.heap.size+1)) #[] #[]] ++ lb,W1,?_,?_,?_,?_,fun _=>h1,?_⟩
 ·rw [← hW1];exact run_enterLoop_outer _ _ _ _ _
 ·simp [resolve,go_sem]
 ·intro f' hf';simp [Target.leads] at hf';subst hf';exact hFg
 ·simp [invoke,go_sem,eg]
 ·refine (hseq (W0.heap.size+1) (ZjG w fn (.func (.func g) #[] lb) w.heap.size (W0.heap.size+1) W0.heap.size) W1 hb1 (Zk4 _ _ _ _ _ _ _ hb1.size)
    (fun pre x W hJ hl=>Zpi F (n - 1 - 1) w fn hfn _ w.heap.size (W0.heap.size+1) W0.heap.size ow ow ow (YA _) ow N hN hNb pre x W hJ hl) hM).mono ?_
  rintro e W2 ⟨⟨v0,rfl⟩,ss,O,h2⟩
  obtain ⟨v,hv,hrow,hnil⟩:=h2.box
  have hend:=run_endLoop (P:=prog) h2.L (by simp [kcApRec])
  obtain ⟨W3,hW3⟩:∃ W3,W2.putObj (W0.heap.size+1) (.loop { kcApRec fn (.func (.func g) #[] lb) w.heap.size W0.heap.size .ready none with state:=.exhausted })=W3:=⟨_,rfl⟩
  rw [hW3] at hend
  have hg3:W2.grownBy W3 (some (W0.heap.size+1)):=by rw [← hW3];exact grownBy_putObj_a _ _ _
  have hv3:W3.heap[w.heap.size]? = some (.cells #[v] 37 (0,0)):=by rw [← hW3];exact (World.putObj_heap_other ow).trans hv
  have hK3:W3.heap[W0.heap.size]? = some (.deferred (some [])):=by rw [← hW3];exact (World.putObj_heap_other ow).trans h2.K
  have hrow3:=hrow.kept hg3 (ownsRow_ne_a hrow h2.L (fun cur e=>by first | cases e | exact hne (Ybl e).2.1))
  have hb3:Below w.heap.size w W3:=h2.below.grown hg3 h2.below.size (fun k e=>by cases e;omega)
  obtain ⟨hc3,hf3⟩:=cell_of_box_a hv3
  clear hW3
  refine ⟨none,W3,hend,?_⟩
  gi_wp2
  rw [← hs0]
  refine ⟨by simp,.inl ⟨_,_,rfl,run_takeDeferred hK3,?_⟩⟩
  exact ⟨_,results_tmp rfl _ _ _,v,ss,rfl,O,hrow3.kept (grownBy_putObj_a _ _ _) (ownsRow_ne_a hrow3 hK3 (fun cur e=>by first | cases e | exact hne (Ybl e).2.1)),hnil,hb3.grown (grownBy_putObj_a _ _ _) hb3.size (fun k e=>by cases e;omega)⟩
set_option maxHeartbeats 1000000 in
theorem ZjX (F:Fence) (n:Nat) (h8:F.fn 166) (h11:F.fn 241) (hro:F.round=none) (hn:3≤n) (g:Nat) (lb:Array Value) (hFg:F.fn g) (eg:∀ args w,(callFunc g args).run prog w = .ok (.enter g args) w)
  (S:List Int→Prop) (N:Nat) (hN:N≤maxLen) (hNb:N*8≤140737488355328) (w:World) (hseq:SeqGives F (n - 1 - 1) prog g lb Zog S N w) :
  CallsIn F n prog 166 #[.func (.func g) #[] lb] w fun e w'=>∃ (v:Value) (ss:List Int),e = .returned v∧S ss∧w'.ownsRow w.heap.size 3 1 v ss.length (ss.flatMap Zq2)∧(v = .slice none 0 0 ↔ ss = [])∧Below w.heap.size w w':=by
 have h1:1≤n:=by omega
 have e11:∀ args w,(callFunc 241 args).run prog w = .ok (.enter 241 args) w:=enters_of func241 kr rfl
 refine callsIn_of_wp func166 Z h8 ?_ hro
 simp only [ntmps166,YaD,Yl,Yq,Nat.reduceAdd,Nat.reduceSub,Array.replicate_succ,Array.replicate_zero,List.push_toArray,List.append_toArray,Yal,Y0]
 gi_wp2_with (gi_at_fn 241;refine (ZhM F (n - 1) h11 hro ow g lb hFg eg S N hN hNb _ hseq).mono ?_;rintro e w' ⟨v,ss,rfl,O,hrow,hnil,hb⟩)
 go_ret
 exact ⟨v,ss,rfl,O,hrow,hnil,hb⟩
end Go.Proofs.YtfecljadegkmdaaGreat
namespace Go.Proofs.YtfecljadegkmdaaGreat
open Go Go.Gm Tryz
set_option linter.unusedVariables false
set_option linter.unusedSimpArgs false
set_option maxHeartbeats 4000000
set_option maxRecDepth 8000
def Znc (room2:Int) (q2:List Cell) (t:Zae):St:=Zc4 q2.length (allS room2 ((tList t).length+1) q2 0 (tList t))
theorem Zsd (o:Option Nat) (room:Int) (q:List Cell) (root:Int) (t0:Zae) (hr0:Rep id q t0 root) (hs:ZD t0≤1000000) (o2:Option Nat) (room2:Int) (q2:List Cell):FnG prog 186 2 [.agg [.is (arV o),.int .i64 root],.is (arV o2)] [arH o room q,arH o2 room2 q2] (.tup [.agg [.is (arV o2),.int .i64 (Znc room2 q2 t0).2.2],.int .i64 (Znc room2 q2 t0).2.1]) (fun _=>[arH o room q,arH o2 room2 (Znc room2 q2 t0).1]):=by
 refine FnG.mk func186 Z ntmps186 Z kr fun B F0 a w F V hG O=>?_
 have hg:(Znc room2 q2 t0)=Zc4 q2.length (allS room2 ((tList t0).length+1) q2 0 (tList t0)):=rfl
 refine Ya (Zb O (qx 101 r1 (qf (oH [.pointer none,.int .i64 0] 102) trivial qz (qI qZ))) V [5,4,2,1] [102,101,2,1,0] (fun _=>rfl) (fun _=>rfl) fun τ a w F O=>?_)
 try dsimp only [RS.sub,SF.sub,CF.sub,csub,Anc.sub,List.map,zCF,Z4,ZC] at O
 generalize τ 2=v2,τ 4=v4 at O
 refine Za (Ya (Zb O (qR rr (qf (oP (ZkF o2) func104 (Args.one .t)) r1 qz (qf (oB [(0,.tmp 9)] [.pointer none,.int .i64 0,.int .i64 0] [(0,2),(2,1)] (.agg Z (.conv .t .agg) kr kr .nil)) r1 qz (qf (oX 103 .t) r1 qz (qO rr qZ))))) V [6,5,4,2,1] [103,102,101,2,1,0] (fun _=>rfl) (fun _=>rfl) fun τ a w F O=>?_))
 try dsimp only [RS.sub,SF.sub,CF.sub,csub,Anc.sub,List.map,Zd,xL,xM,Nat.reduceAdd,xD,xE,xT,xU,xC,xN,zCF,Z4,ZC] at O
 generalize τ 11=v11 at O
 refine Za (Ya (rZ O (qR rr (qf (o_callG1 2 (ZmU o2 room2 q2) func182 Z kr (Args.one .t)) r1 r1 (qO rr qZ))) V [7,6,5,4,2] [103,102,101,2,1,0] fun O=>Ya ?_))
 obtain ⟨b,rfl⟩:=O.shape 103 rfl
 have O:=O.fresh 4 rfl
 obtain ⟨F,O⟩:=O.push 4 2 Z Z Z kr
 obtain ⟨F,O⟩:=O.push 4 103 Z Z Z kr
 have O:=O.turn 4 Z (r':=RS.hp (ZaD 242 (.pointer (some ⟨b,0,none⟩)) o2 0 0 room2 q2)) (fun _ _ _ _ h=>h)
 obtain ⟨F,O⟩:=O.nM [7,6,5,4,2] [102,101,4,1,0]
 refine rZ O (qR rr (qR rr (qe 2 101 r1 r1 (qf (o_callG1 1 (ZoP o room q root t0 hr0 hs) func56 Z kr (Args.one (.pagg .t))) r1 r1 (qf (o_callG1 4 (Ztl b o2 0 room2 ((tList t0).length+1) q2 0 (tList t0) (Nat.lt_succ_self _)) func250 Z kr (Args.two .t .t)) r2 r1 (qR rr (qf (o_callG1 4 (Zla b o2 0 (allS room2 ((tList t0).length+1) q2 0 (tList t0)).2.1 room2 (allS room2 ((tList t0).length+1) q2 0 (tList t0)).1 (allS room2 ((tList t0).length+1) q2 0 (tList t0)).2.2 q2.length) func183 Z kr (Args.three .t .t .t)) r3 r1 (qf (o_extract .t Z) r1 qz (qf (o_extract .t Z) r1 qz (qf (oA 2 102 .is (.conv .t .agg)) r2 r1 (qO rr qZ))))))))))) V [5,4] [102,4,1,0] fun O=>Yh ?_
 obtain ⟨F,O⟩:=O.peel 4 7 Z rfl
 obtain ⟨F,O⟩:=O.peel 4 2 Z rfl
 have O:=O.turn 2 Z (r':=RS.hp (arH o2 room2 (Znc room2 q2 t0).1)) (fun _ _ _ _ h=>by rw [hg];exact h)
 refine Zk8 hG O Z (.cl 102 true 2 Z Z (.tmp Z .nil)) (.two (.aggU Z (by first | (rw [hg];done) | (rw [hg];rfl))) (.int (by first | (rw [hg];done) | (rw [hg];rfl)))) Z rfl
end Go.Proofs.YtfecljadegkmdaaGreat
