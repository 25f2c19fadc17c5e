/- Laws and walks. No condition beyond what each says. -/
import Derived.Test.YtfecljadegkmdaaGreatJ2
namespace Go.Proofs.YtfecljadegkmdaaGreat
open Go Go.Gm Tryz
set_option linter.unusedVariables false
set_option linter.unusedSimpArgs false
set_option maxHeartbeats 4000000
set_option maxRecDepth 8000
theorem ZuF (v:Value) (l:List OrdD) (ka kb kn:Nat) (hll:l.length≤1000000) (h1:ka+kn≤kb) (h2:kb+kn≤l.length) (f:FuncId) (cps:List PV):FnG prog 283 1 [.is v,.int .i64 ka,.int .i64 kb,.int .i64 kn,.clos f cps] [ZM 39 2 Zp l v] (.tup []) (fun _=>[ZM 39 2 Zp (Zef l ka kb kn) v]):=by
 refine FnG.mk func283 Z ntmps283 Z kr fun B F0 a w F V hG O=>?_
 replace O:=O.turn 1 Z (r':=.ob (.val v) (ZM 39 2 Zp l)) (fun _ _ _ _ h=>h)
 refine Ya (rZ O (qI qZ) V JQ QL fun O=>Ye ?_)
 have hc0:0≤kn∧l=Zef l ka kb 0:=⟨Yo _,(ZkZ ow ow).symm⟩
 refine Zh (σ:=Nat×List OrdD) [0,1,2,3] [0] (fun s=>[(10,.pv (.int .i64 (s.1:Int)))]) (fun s=>[(1,.ob (.val v) (ZM 39 2 Zp s.2))]) (fun s=>s.1≤kn∧s.2=Zef l ka kb s.1) (fun s=>kn - s.1) ((0),(l)) O ⟨rfl,rfl,rfl,rfl,rfl,tv⟩ ⟨rfl,rfl,tv⟩ hc0 ?_
 clear O;intro s a w F hC O
 obtain ⟨i,l1⟩:=s
 have hC:=X3
 obtain ⟨F,O⟩:=O.nM JQ QL
 have O:=X2
 obtain ⟨hin,hl1⟩:=hC
 have hn1:l1.length=l.length:=by rw [hl1];exact Zcp ow ow
 have hwa:IntKind.wrap .i64 ((ka:Int)+(i:Int))=((ka+i:Nat):Int):=K8
 have hwb:IntKind.wrap .i64 ((kb:Int)+(i:Int))=((kb+i:Nat):Int):=K8
 refine Ya (Ya (rZ O (qR rr (qR rr (qL r2))) V [13,10,3,2,1,0] QL fun O=>?_))
 refine Zb O Z (fun hc0=>?_) (fun hc0=>?_)
 ·have hil:i<kn:=WI
  refine Yd (Za (Ya (Ye (Zr O (qR rr (qR rr (qR rr (qf (o_add .t .t) r2 qz (qR rr (qR rr (qR rr (qf (o_add .t .t) r2 qz (qR rr (qR rr (qR rr (qf (o_add .t .t) r2 qz (qf (o_indexAddr_row (sz:=2) 1 (.mk YbS kr) .is .t K2 K2 Wd) r2 r1 (qf (Zs (ag:=true) (sz':=2) (sz:=2) 1 .t Wt K2 kr kr kr) r1 r1 (qR rr (qR rr (qR rr (qf (o_add .t .t) r2 qz (qf (o_indexAddr_row (sz:=2) 1 (.mk YbS kr) .is .t K3 K3 Wd) r2 r1 (qf (Zs (ag:=true) (sz':=2) (sz:=2) 1 .t Wt K3 kr kr kr) r1 r1 (qf (o_indexAddr_row (sz:=2) 1 (.mk YbS kr) .is .t K3 K3 Wd) r2 r1 (qf (Z1 (sz:=2) 1 .t Wt K3 (.conv .t (Ent.aggU (l:=Zp (Nn l1 (IntKind.wrap .i64 ((kb:Int)+(i:Int))).toNat)) Z Z)) kr) r2 r1 (qf (o_indexAddr_row (sz:=2) 1 (.mk YbS kr) .is .t K2 K4 Wd) r2 r1 (qf (Z1 (sz:=2) 1 .t Wt K4 (.conv .t (Ent.aggU (l:=Zp (Nn l1 (IntKind.wrap .i64 ((ka:Int)+(i:Int))).toNat)) Z Z)) kr) r2 r1 qZ)))))))))))))))))))))))) V JQ QL Z Z fun a w F O=>?_))))
  have O:=XA
  try simp only [Yf] at O
  rw [hwa,hwb] at O
  simp only [Yf] at O
  obtain ⟨l2,hl2⟩:∃ z,z=Zef l ka kb (i+1):=⟨_,rfl⟩
  rw [show (l1.set (ka+i) (Nn l1 (kb+i))).set (kb+i) (Nn l1 (ka+i))=l2 from by rw [hl2,← Zkq (n:=kn) hil h1 h2,← hl1];rfl] at O
  refine Zf (Za (rZ O (qR rr (qp r1 (qO rr qZ))) V JQ QL fun O=>?_))
  replace O:=O.eI 10 i
  obtain ⟨F,O⟩:=O.nM [3,2,1,0,10] Jn
  exact ⟨((i+1),(l2)),F,⟨ow,hl2⟩,O,ow⟩
 have hg:Zef l ka kb kn=l1:=by rw [hl1,show i=kn by simp at hc0;omega]
 refine Ym (Ze (Ze (Zk ?_)))
 have O:=O.turn 1 Z (r':=RS.hp (ZM 39 2 Zp (Zef l ka kb kn) v)) (fun _ _ _ _ h=>by rw [hg];exact h)
 refine Zz hG O Z .nil .none rfl
theorem Zu7 (v : Value) (l : List OrdD) (ka kb : Nat) (hll : l.length ≤ 1000000) (h1 : ka ≤ kb) (h2 : kb ≤ l.length) (hu : Unl OrdD.key l) (f : FuncId) (fn : Func) (cps : List PV) (hf : prog.funcs[f]? = some fn) (hbd : fn.body.isSome = true) (hnn : (fn.name == "runtime.NumGoroutine") = false) (hw : ∀ x y : OrdD, FnP prog f (.agg (Zp x) :: .agg (Zp y) :: cps) (.int .i64 (Zdx (OrdD.key x) (OrdD.key y)))) : FnG prog 274 1 [.is v, .int .i64 ka, .int .i64 kb, .clos f cps] [ZM 39 2 Zp l v] (.tup []) (fun _ => [ZM 39 2 Zp (Zv OrdD.key l ka kb) v]) := by
 refine FnG.mk func274 Z ntmps274 Z kr fun B F0 a w F V hG O=>?_
 replace O:=O.turn 1 Z (r':=.ob (.val v) (ZM 39 2 Zp l)) (fun _ _ _ _ h=>h)
 refine Ya (rZ O (qR rr (qp r1 (qO rr qZ))) V G1 QL fun O=>Ye ?_)
 have hc0:ka<ka+1∧(ka+1≤kb∧l=Zv OrdD.key l ka (ka+1)∨kb≤ka∧l=l):=⟨ow,by rcases Yah ka kb with h | h;exact .inl ⟨h,(sortSeg_one l ow).symm⟩;exact .inr ⟨h,rfl⟩⟩
 replace O:=O.eI 8 ka
 refine Zh (σ:=Nat×List OrdD) [0,1,2,3] [0] (fun s=>[(8,.pv (.int .i64 (s.1:Int)))]) (fun s=>[(1,.ob (.val v) (ZM 39 2 Zp s.2))]) (fun s=>ka<s.1∧(s.1≤kb∧s.2=Zv OrdD.key l ka s.1∨kb≤ka∧s.2=l)) (fun s=>kb - s.1) ((ka+1),(l)) O ⟨rfl,rfl,rfl,rfl,rfl,tv⟩ ⟨rfl,rfl,tv⟩ hc0 ?_
 clear O;intro s a w F hC O
 obtain ⟨i,l1⟩:=s
 have hC:=X3
 obtain ⟨F,O⟩:=O.nM G1 QL
 have O:=X2
 obtain ⟨hai,hq⟩:=hC
 refine Ya (Ya (rZ O (qR rr (qR rr (qL r2))) V [14,8,3,2,1,0] QL fun O=>?_))
 refine Zb O Z (fun hc0=>?_) (fun hc0=>?_)
 ·skip
  have hib:i<kb:=WI
  have hl1:l1=Zv OrdD.key l ka i:=by rcases hq with hq | hq;exact hq.2;omega
  have hn1:l1.length=l.length:=by rw [hl1];exact Z8 ow
  refine Yd (Za (Ya (Ye (Ya (rZ O (qR rr (qO rr qZ)) V JL QL fun O=>Ye ?_)))))
  have hc1:ka≤i∧i≤i∧l1=Zgi l1 i i ∧ ∀ q,i≤q→q<i→OrdD.key (Nn l1 i)<OrdD.key (Nn l1 q):=⟨ow,YE _,(ZfD ow).symm,fun q h1 h2=>by omega⟩
  refine Zh (σ:=Nat×List OrdD) [0,1,2,3,8] [0] (fun s=>[(9,.pv (.int .i64 (s.1:Int)))]) (fun s=>[(1,.ob (.val v) (ZM 39 2 Zp s.2))]) (fun s=>ka≤s.1∧s.1≤i∧s.2=Zgi l1 s.1 i ∧ ∀ q,s.1≤q→q<i→OrdD.key (Nn l1 i)<OrdD.key (Nn l1 q)) (fun s=>s.1) ((i),(l1)) O ⟨rfl,rfl,rfl,rfl,rfl,rfl,tv⟩ ⟨rfl,rfl,tv⟩ hc1 ?_
  clear O;intro s a w F hC O
  obtain ⟨j,l2⟩:=s
  have hC:=X3
  obtain ⟨F,O⟩:=O.nM JL QL
  have O:=X2
  obtain ⟨haj,hji,hl2,hgt⟩:=hC
  have hn2:l2.length=l.length:=by rw [hl2,Zcn hji ow];exact hn1
  have hx0:Nn l2 j=Nn l1 i:=by rw [hl2,Zcl hji ow,Yg rfl]
  have hx1:ka<j→Nn l2 (j - 1)=Nn l1 (j - 1):=fun h=>by rw [hl2,Zcl hji ow,Yb ow,Yb ow]
  have hwj:ka<j→IntKind.wrap .i64 ((j:Int) - 1)=((j - 1:Nat):Int):=fun h=>by rw [Zj ow];omega
  refine Ya (Ya (Zr O (qR rr (qR rr (qf (o_gtr .t .t) r2 qz (qR rr (qm Z Z Z Z (qm Z Z Z Z (qm Z Z Z Z (qk Z (fun h=>o_indexAddr_row (sz:=2) 1 (.mk YbS kr) (.w h .is) (.w h) ow ow Wd) r3 r1 (qk Z (fun h=>Zs (ag:=true) (sz':=2) (sz:=2) 1 (.w h) Wt ow kr kr kr) r2 r1 (qm Z Z Z Z (qm Z Z Z Z (qk Z (fun h=>o_sub (.w h) qi) r2 qz (qk Z (fun h=>o_indexAddr_row (sz:=2) 1 (.mk YbS kr) (.w h .is) (.w h) K5 K5 Wd) r3 r1 (qk Z (fun h=>Zs (ag:=true) (sz':=2) (sz:=2) 1 (.w h) Wt K5 kr kr kr) r2 r1 (qk Z (fun h=>o_callClosP (avs:=[.agg (Zp (Nn l2 ((j:Int)).toNat)),.agg (Zp (Nn l2 (IntKind.wrap .i64 ((j:Int) - 1)).toNat))]) (.w h) (hw (Nn l2 ((j:Int)).toNat) (Nn l2 (IntKind.wrap .i64 ((j:Int) - 1)).toNat)) hf hbd hnn (Args.two (.pagg (.w h)) (.pagg (.w h)))) r4 qz (qk Z (fun h=>ZaR (.w h) qi) r2 qz (qf (ZF .t .t) r2 qz qZ))))))))))))))))) V [34,9,8,3,2,1,0] QL Z Z fun a w F O=>?_))
  have O:=XO
  try simp only [Yf] at O
  refine Za (Zb O Z (fun hc1=>?_) (fun hc1=>?_))
  ·skip
   obtain ⟨haj2,h9⟩:ka<j∧Zdx (OrdD.key (Nn l2 j)) (OrdD.key (Nn l2 (IntKind.wrap .i64 ((j:Int) - 1)).toNat))<0:=by simpa using hc1
   rw [hwj haj2,Yf,hx0,hx1 haj2] at h9
   have h9:=Zbi.1 h9
   have hgt3:∀ q,j - 1≤q→q<i→OrdD.key (Nn l1 i)<OrdD.key (Nn l1 q):=fun q h1 h2=>by rcases Yah q j with h | h;rw [show q=j - 1 by omega];exact h9;exact hgt q h h2
   refine Yd (Za (Ya (Ye (Zr O (qR rr (qR rr (qR rr (qR rr (qf (o_sub .t qi) r1 qz (qR rr (qR rr (qf (o_sub .t qi) r1 qz (qf (o_indexAddr_row (sz:=2) 1 (.mk YbS kr) .is .t K6 K6 Wd) r2 r1 (qf (Zs (ag:=true) (sz':=2) (sz:=2) 1 .t Wt K6 kr kr kr) r1 r1 (qR rr (qR rr (qf (o_indexAddr_row (sz:=2) 1 (.mk YbS kr) .is .t ow ow Wd) r2 r1 (qf (Zs (ag:=true) (sz':=2) (sz:=2) 1 .t Wt ow kr kr kr) r1 r1 (qf (o_indexAddr_row (sz:=2) 1 (.mk YbS kr) .is .t ow ow Wd) r2 r1 (qf (Z1 (sz:=2) 1 .t Wt ow (.conv .t (Ent.aggU (l:=Zp (Nn l2 (IntKind.wrap .i64 ((j:Int) - 1)).toNat)) Z Z)) kr) r2 r1 (qf (o_indexAddr_row (sz:=2) 1 (.mk YbS kr) .is .t K6 K7 Wd) r2 r1 (qf (Z1 (sz:=2) 1 .t Wt K7 (.conv .t (Ent.aggU (l:=Zp (Nn l2 ((j:Int)).toNat)) Z Z)) kr) r2 r1 qZ)))))))))))))))))) V JL QL Z Z fun a w F O=>?_))))
   have O:=XA
   try simp only [Yf] at O
   rw [hwj haj2] at O
   simp only [Yf] at O
   obtain ⟨l3,hl3⟩:∃ z,z=Zgi l1 (j - 1) i:=⟨_,rfl⟩
   rw [show (l2.set j (Nn l2 (j - 1))).set (j - 1) (Nn l2 j)=l3 from by rw [hl3,← ZfB ow hji ow,← hl2];rfl] at O
   refine Zf (Za (rZ O (qR rr (qf (o_sub .t qi) r1 qz (qO rr qZ))) V JL QL fun O=>?_))
   replace O:=O.ent (i:=9) (s':=.pv (.int .i64 ((j - 1:Nat):Int))) Z (.int (hwj haj2))
   obtain ⟨F,O⟩:=O.nM [8,3,2,1,0,9] Jn
   exact ⟨((j - 1),(l3)),F,⟨ow,ow,hl3,hgt3⟩,O,ow⟩
  have h9:¬ (ka<j∧Zdx (OrdD.key (Nn l2 j)) (OrdD.key (Nn l2 (IntKind.wrap .i64 ((j:Int) - 1)).toNat))<0):=WE
  have hend:l2=Zv OrdD.key l ka (i+1):=by
    rw [hl2]
    refine ZkQ haj hji ow (ZfP hu _ _) hl1 ?_ hgt
    rcases Yah ka j with h | h
    · refine .inr (Zf3 (Zau (κ:=OrdD.key) (a:=ka) (b:=i) ow hu |> fun z=>(by rw [hl1];exact z:Unl OrdD.key l1)) (i:=i) (j:=j - 1) ow ow ow fun h8=>h9 ⟨h,?_⟩)
      rw [hwj h,Yf,hx0,hx1 h]
      exact Zbi.2 h8
    · exact .inl ow
  refine Ym (Ze (Ze (Zk (Zf (Za (rZ O (qR rr (qp r1 (qO rr qZ))) V G1 QL fun O=>?_))))))
  replace O:=O.eI 8 i
  obtain ⟨F,O⟩:=O.nM [3,2,1,0,8] Jn
  exact ⟨((i+1),(l2)),F,⟨ow,.inl ⟨ow,hend⟩⟩,O,ow⟩
 have hg:Zv OrdD.key l ka kb=l1:=by
   rcases hq with hq | hq
   · rw [hq.2,show i=kb by simp at hc0;omega]
   · rw [hq.2,show kb=ka by omega];exact Zbz (YE _) (by rw [ZfJ];exact List.Pairwise.nil)
 refine Ym (Ze (Ze (Zk ?_)))
 have O:=O.turn 1 Z (r':=RS.hp (ZM 39 2 Zp (Zv OrdD.key l ka kb) v)) (fun _ _ _ _ h=>by rw [hg];exact h)
 refine Zz hG O Z .nil .none rfl
theorem Zvb (v:Value) (l:List OrdD) (ka km kb:Nat) (hll:l.length≤1000000) (h1:ka<km) (h2:km<kb) (h3:kb≤l.length) (f:FuncId) (cps:List PV):FnG prog 281 1 [.is v,.int .i64 ka,.int .i64 km,.int .i64 kb,.clos f cps] [ZM 39 2 Zp l v] (.tup []) (fun _=>[ZM 39 2 Zp (Z2 l ka km kb) v]):=by
 refine FnG.mk func281 Z ntmps281 Z kr fun B F0 a w F V hG O=>?_
 replace O:=O.turn 1 Z (r':=.ob (.val v) (ZM 39 2 Zp l)) (fun _ _ _ _ h=>h)
 refine Ya (rZ O (qR rr (qR rr (qf (o_sub .t .t) r2 qz (qO rr qZ)))) V [10,4,3,2,0] QL fun O=>Ya ?_)
 refine rZ O (qR rr (qR rr (qf (o_sub .t .t) r2 qz (qO rr qZ)))) V Jp QL fun O=>(Ya (Ye ?_))
 have hc0:0<km - ka∧0<kb - km∧ka+(km - ka)≤km∧km+(kb - km)≤kb∧l.length=l.length∧Z2 l (km - (km - ka)) km (km+(kb - km))=Z2 l ka km kb:=⟨ow,ow,ow,ow,rfl,by rw [show km - (km - ka)=ka by omega,show km+(kb - km)=kb by omega]⟩
 replace O:=O.ent (i:=10) (s':=.pv (.int .i64 ((km - ka:Nat):Int))) Z (.int K8)
 replace O:=O.ent (i:=11) (s':=.pv (.int .i64 ((kb - km:Nat):Int))) Z (.int K8)
 refine Zh (σ:=Nat×Nat×List OrdD) [0,2,4] [0] (fun s=>[(10,.pv (.int .i64 (s.1:Int))),(11,.pv (.int .i64 (s.2.1:Int)))]) (fun s=>[(1,.ob (.val v) (ZM 39 2 Zp s.2.2))]) (fun s=>0<s.1∧0<s.2.1∧ka+s.1≤km∧km+s.2.1≤kb∧s.2.2.length=l.length∧Z2 s.2.2 (km - s.1) km (km+s.2.1)=Z2 l ka km kb) (fun s=>s.1+s.2.1) ((km - ka),(kb - km),(l)) O ⟨rfl,rfl,rfl,rfl,rfl,tv⟩ ⟨rfl,rfl,tv⟩ hc0 ?_
 clear O;intro s a w F hC O
 obtain ⟨i,j,l1⟩:=s
 have hC:=X3
 obtain ⟨F,O⟩:=O.nM Jp QL
 have O:=X2
 obtain ⟨hi0,hj0,hia,hjb,hn1,hq⟩:=hC
 have hwm:IntKind.wrap .i64 ((km:Int) - (i:Int))=((km - i:Nat):Int):=K8
 have hwn:i≤km+j→IntKind.wrap .i64 (IntKind.wrap .i64 ((km:Int)+(j:Int)) - (i:Int))=((km+j - i:Nat):Int):=fun h=>by rw [Zj (x:=(km:Int)+(j:Int)) ow,Zj ow];omega
 refine Ya (Ya (rZ O (qR rr (qR rr (qf (o_neq .t .t) r2 qz qZ))) V [20,11,10,4,2,0] QL fun O=>?_))
 refine Zb O Z (fun hc0=>?_) (fun hc0=>?_)
 ·have hij:i≠j:=WI
  refine Yd (Za (Ye (Ya (rZ O (qR rr (qR rr (qf (o_gtr .t .t) r2 qz qZ))) V [23,11,10,4,2,0] QL fun O=>?_))))
  refine Zb O Z (fun hc1=>?_) (fun hc1=>?_)
  ·have hlt:j<i:=WH
   obtain ⟨i2,i2e⟩:∃ z,z=i - j:=⟨_,rfl⟩
   obtain ⟨j2,j2e⟩:∃ z,z=j:=⟨_,rfl⟩
   obtain ⟨l2,l2e⟩:∃ z,z=Zef l1 (km - i) km j:=⟨_,rfl⟩
   have hi2:IntKind.wrap .i64 ((i:Int) - (j:Int))=(i2:Int):=K8
   have hj2:(j:Int)=(j2:Int):=by rw [j2e]
   have hmu:i2+j2<i+j:=ow
   have hC2:0<i2∧0<j2∧ka+i2≤km∧km+j2≤kb∧l2.length=l.length∧Z2 l2 (km - i2) km (km+j2)=Z2 l ka km kb:=⟨ow,ow,ow,ow,by rw [l2e,Zcp ow ow,hn1],by rw [← hq,← Zql (l:=l1) (s:=km - i) (m:=km) (e:=km+j) (j:=j) ow rfl ow,l2e,j2e,show km - i2=km - i+j by omega]⟩
   refine Ya (Zg O (qR rr (qR rr (qR rr (qf (o_sub .t .t) r2 qz (qR rr (qR rr (qR rr (qf (ZY 1 (ZuF v l1 (km - i) km j ow ow ow f cps) func283 Z kr (Args.five .t (.conv .t (.int hwm)) .t .t .t)) r5 r1 qZ)))))))) V Jp QL Z Z fun a w F O=>?_)
   rw [← l2e] at O
   refine Za (Zg O (qR rr (qR rr (qf (o_sub .t .t) r2 qz (qO rr qZ)))) V Jp QL Z Z fun a w F O=>Zf (Za ?_))
   replace O:=O.ent (i:=10) (s':=.pv (.int .i64 (i2:Int))) Z (.int hi2)
   replace O:=O.ent (i:=11) (s':=.pv (.int .i64 (j2:Int))) Z (.int hj2)
   obtain ⟨F,O⟩:=O.nM Xaf Jn
   exact ⟨((i2),(j2),(l2)),F,hC2,O,hmu⟩
  have hlt:i<j:=WH
  obtain ⟨i2,i2e⟩:∃ z,z=i:=⟨_,rfl⟩
  obtain ⟨j2,j2e⟩:∃ z,z=j - i:=⟨_,rfl⟩
  obtain ⟨l2,l2e⟩:∃ z,z=Zef l1 (km - i) (km+j - i) i:=⟨_,rfl⟩
  have hi2:(i:Int)=(i2:Int):=by rw [i2e]
  have hj2:IntKind.wrap .i64 ((j:Int) - (i:Int))=(j2:Int):=K8
  have hmu:i2+j2<i+j:=ow
  have hC2:0<i2∧0<j2∧ka+i2≤km∧km+j2≤kb∧l2.length=l.length∧Z2 l2 (km - i2) km (km+j2)=Z2 l ka km kb:=⟨ow,ow,ow,ow,by rw [l2e,Zcp ow ow,hn1],by rw [← hq,← Zpw (l:=l1) (s:=km - i) (m:=km) (e:=km+j) (i:=i) ow ow ow,l2e,i2e,show km+j2=km+j - i by omega]⟩
  refine Ya (Zg O (qR rr (qR rr (qR rr (qf (o_sub .t .t) r2 qz (qR rr (qR rr (qf (o_add .t .t) r2 qz (qR rr (qf (o_sub .t .t) r2 qz (qR rr (qR rr (qf (ZY 1 (ZuF v l1 (km - i) (km+j - i) i ow ow ow f cps) func283 Z kr (Args.five .t (.conv .t (.int hwm)) (.conv .t (.int (hwn ow))) .t .t)) r5 r1 qZ)))))))))))) V Jp QL Z Z fun a w F O=>?_)
  rw [← l2e] at O
  refine Za (Zg O (qR rr (qR rr (qf (o_sub .t .t) r2 qz (qO rr qZ)))) V Jp QL Z Z fun a w F O=>Zf (Za ?_))
  replace O:=O.ent (i:=10) (s':=.pv (.int .i64 (i2:Int))) Z (.int hi2)
  replace O:=O.ent (i:=11) (s':=.pv (.int .i64 (j2:Int))) Z (.int hj2)
  obtain ⟨F,O⟩:=O.nM Xaf Jn
  exact ⟨((i2),(j2),(l2)),F,hC2,O,hmu⟩
 have hij:i=j:=WI
 have hg:Z2 l ka km kb=Zef l1 (km - i) km i:=by rw [← hq,← hij];exact (Zqy ow rfl ow).symm
 refine Ym (Ze (Ze (Zk (Za (Zg O (qR rr (qR rr (qR rr (qf (o_sub .t .t) r2 qz (qR rr (qR rr (qR rr (qf (ZY 1 (ZuF v l1 (km - i) km i ow ow ow f cps) func283 Z kr (Args.five .t (.conv .t (.int hwm)) .t .t .t)) r5 r1 qZ)))))))) V [] QL Z Z fun a w F O=>?_)))))
 have O:=O.turn 1 Z (r':=RS.hp (ZM 39 2 Zp (Z2 l ka km kb) v)) (fun _ _ _ _ h=>by rw [hg];exact h)
 refine Zz hG O Z .nil .none rfl
theorem symSR (v : Value) (l : List OrdD) (ka km kb : Nat) (hll : l.length ≤ 1000000) (h1 : ka < km) (h2 : km < kb) (h3 : kb ≤ l.length) (hu : Unl OrdD.key l) (hx : ZZ OrdD.key (seg l ka km)) (hy : ZZ OrdD.key (seg l km kb)) (f : FuncId) (fn : Func) (cps : List PV) (hf : prog.funcs[f]? = some fn) (hbd : fn.body.isSome = true) (hnn : (fn.name == "runtime.NumGoroutine") = false) (hw : ∀ x y : OrdD, FnP prog f (.agg (Zp x) :: .agg (Zp y) :: cps) (.int .i64 (Zdx (OrdD.key x) (OrdD.key y)))) (n : Nat) (ih : ∀ (l : List OrdD) (ka km kb : Nat), kb - ka < n → l.length ≤ 1000000 → ka < km → km < kb → kb ≤ l.length → Unl OrdD.key l → ZZ OrdD.key (seg l ka km) → ZZ OrdD.key (seg l km kb) → FnG prog 275 1 [.is v, .int .i64 (ka : Nat), .int .i64 (km : Nat), .int .i64 (kb : Nat), .clos f cps] [ZM 39 2 Zp l v] (.tup []) (fun _ => [ZM 39 2 Zp (Zv OrdD.key l ka kb) v])) (hn : kb - ka < n + 1) : FnG prog 275 1 [.is v, .int .i64 ka, .int .i64 km, .int .i64 kb, .clos f cps] [ZM 39 2 Zp l v] (.tup []) (fun _ => [ZM 39 2 Zp (Zv OrdD.key l ka kb) v]) := by
 refine FnG.mk func275 Z ntmps275 Z kr fun B F0 a w F V hG O=>?_
 replace O:=O.turn 1 Z (r':=.ob (.val v) (ZM 39 2 Zp l)) (fun _ _ _ _ h=>h)
 obtain ⟨hx9,hy9⟩:(∀ i j,ka≤i→i<j→j<km→OrdD.key (Nn l i)<OrdD.key (Nn l j)) ∧ ∀ i j,km≤i→i<j→j<kb→OrdD.key (Nn l i)<OrdD.key (Nn l j):=⟨(Zez (κ:=OrdD.key) ow).1 hx,(Zez (κ:=OrdD.key) ow).1 hy⟩
 refine Ya (Ya (rZ O (qR rr (qR rr (qf (o_sub .t .t) r2 qz (qf (o_eql .t qi) r1 qz qZ)))) V [28,4,3,2,1,0] QL fun O=>?_))
 refine Zb O Z (fun hc0=>?_) (fun hc0=>?_)
 ·skip
  have hm1:km=ka+1:=KX
  refine Ya (rZ O (qR rr (qO rr qZ)) V Xa0 QL fun O=>Ya ?_)
  refine rZ O (qR rr (qO rr qZ)) V JC QL fun O=>(Ya (Ye ?_))
  have hc0:km≤km∧km≤kb∧kb≤kb∧(∀ q,km≤q→q<km→OrdD.key (Nn l q)<OrdD.key (Nn l ka)) ∧ ∀ q,kb≤q→q<kb→OrdD.key (Nn l ka)<OrdD.key (Nn l q):=⟨YE _,ow,YE _,fun q h1 h2=>by omega,fun q h1 h2=>by omega⟩
  refine Zh (σ:=Nat×Nat) [0,1,2,3,4] [0,1] (fun s=>[(10,.pv (.int .i64 (s.1:Int))),(11,.pv (.int .i64 (s.2:Int)))]) (fun s=>[]) (fun s=>km≤s.1∧s.1≤s.2∧s.2≤kb∧(∀ q,km≤q→q<s.1→OrdD.key (Nn l q)<OrdD.key (Nn l ka)) ∧ ∀ q,s.2≤q→q<kb→OrdD.key (Nn l ka)<OrdD.key (Nn l q)) (fun s=>s.2 - s.1) ((km),(kb)) O ⟨rfl,rfl,rfl,rfl,rfl,rfl,rfl,tv⟩ ⟨rfl,rfl,tv⟩ hc0 ?_
  clear O;intro s a w F hC O
  obtain ⟨i,j⟩:=s
  have hC:=X3
  obtain ⟨F,O⟩:=O.nM JC QL
  have O:=X2
  obtain ⟨hki,hij,hjk,hlo,hhi⟩:=hC
  refine Ya (Ya (rZ O (qR rr (qR rr (qL r2))) V [33,11,10,4,3,2,1,0] QL fun O=>?_))
  refine Zb O Z (fun hc1=>?_) (fun hc1=>?_)
  ·skip
   have hlt:i<j:=WH
   refine Yd (Za (Ye (Ya (Zg O (qR rr (qR rr (qf (o_add .t .t) r2 qz (qf (Za6 Yb2 kr .t) r1 qz (qf (ZjN .t qi We) r1 qz (qf (Za6 YbV kr .t) r1 qz (qO rr qZ))))))) V GD QL Z Z fun a w F O=>?_))))
   obtain ⟨m,hmm⟩:∃ m:Nat,m=(i+j) / 2:=⟨_,rfl⟩
   replace O:=O.ent (i:=12) (s':=.pv (.int .i64 (m:Int))) Z (.int K9)
   obtain ⟨F,O⟩:=O.nM GD QL
   refine Za (Ya (Zr O (qR rr (qR rr (qR rr (qf (o_indexAddr_row (sz:=2) 1 (.mk YbS kr) .is .t ow ow Wd) r2 r1 (qf (Zs (ag:=true) (sz':=2) (sz:=2) 1 .t Wt ow kr kr kr) r1 r1 (qR rr (qR rr (qf (o_indexAddr_row (sz:=2) 1 (.mk YbS kr) .is .t ow ow Wd) r2 r1 (qf (Zs (ag:=true) (sz':=2) (sz:=2) 1 .t Wt ow kr kr kr) r1 r1 (qf (o_callClosP (avs:=[.agg (Zp (Nn l ((m:Int)).toNat)),.agg (Zp (Nn l ((ka:Int)).toNat))]) .t (hw (Nn l ((m:Int)).toNat) (Nn l ((ka:Int)).toNat)) hf hbd hnn (Args.two (.pagg .t) (.pagg .t))) r3 qz (qf (ZaR .t qi) r1 qz qZ))))))))))) V XaE QL Z Z fun a w F O=>?_))
   have O:=XO
   try simp only [Yf] at O
   refine Za (Zb O Z (fun hc2=>?_) (fun hc2=>?_))
   ·skip
    have h9:Zdx (OrdD.key (Nn l m)) (OrdD.key (Nn l ka))<0:=WD
    have h8:=Zbi.1 h9
    obtain ⟨i2,hi2e⟩:∃ z,z=m+1:=⟨_,rfl⟩
    obtain ⟨j2,hj2e⟩:∃ z,z=j:=⟨_,rfl⟩
    have hi2:IntKind.wrap .i64 ((m:Int)+1)=(i2:Int):=Q3
    have hj2:(j:Int)=(j2:Int):=Ql
    have hmu:j2 - i2<j - i:=ow
    have hC2:km≤i2∧i2≤j2∧j2≤kb∧(∀ q,km≤q→q<i2→OrdD.key (Nn l q)<OrdD.key (Nn l ka)) ∧ ∀ q,j2≤q→q<kb→OrdD.key (Nn l ka)<OrdD.key (Nn l q):=⟨ow,ow,ow,fun q h1 h2=>by rcases Yah q m with h | h;exact Ybd (hy9 q m h1 h ow) h8;rw [show q=m by omega];exact h8,by rw [hj2e];exact hhi⟩
    refine Zg O (qR rr (qp r1 (qO rr qZ))) V JC QL Z Z fun a w F O=>Zf (Za ?_)
    replace O:=O.ent (i:=10) (s':=.pv (.int .i64 (i2:Int))) Z (.int hi2)
    replace O:=O.ent (i:=11) (s':=.pv (.int .i64 (j2:Int))) Z (.int hj2)
    obtain ⟨F,O⟩:=O.nM Dc QL
    exact ⟨((i2),(j2)),F,hC2,O,hmu⟩
   have h9:¬ Zdx (OrdD.key (Nn l m)) (OrdD.key (Nn l ka))<0:=WD
   have h8:=Zf3 hu (i:=m) (j:=ka) ow ow ow (fun e=>h9 (Zbi.2 e))
   obtain ⟨i2,hi2e⟩:∃ z,z=i:=⟨_,rfl⟩
   obtain ⟨j2,hj2e⟩:∃ z,z=m:=⟨_,rfl⟩
   have hi2:(i:Int)=(i2:Int):=QH
   have hj2:(m:Int)=(j2:Int):=Ql
   have hmu:j2 - i2<j - i:=ow
   have hC2:km≤i2∧i2≤j2∧j2≤kb∧(∀ q,km≤q→q<i2→OrdD.key (Nn l q)<OrdD.key (Nn l ka)) ∧ ∀ q,j2≤q→q<kb→OrdD.key (Nn l ka)<OrdD.key (Nn l q):=⟨ow,ow,ow,by rw [hi2e];exact hlo,fun q h1 h2=>by rcases Yah m q with h | h;exact Ybd h8 (hy9 m q ow h h2);rw [show q=m by omega];exact h8⟩
   refine Zg O (qR rr (qO rr qZ)) V JC QL Z Z fun a w F O=>Zf (Za ?_)
   replace O:=O.ent (i:=10) (s':=.pv (.int .i64 (i2:Int))) Z (.int hi2)
   replace O:=O.ent (i:=11) (s':=.pv (.int .i64 (j2:Int))) Z (.int hj2)
   obtain ⟨F,O⟩:=O.nM Dc QL
   exact ⟨((i2),(j2)),F,hC2,O,hmu⟩
  have hjj:i=j:=WH
  have hg1:Zkb l ka (i - 1)=Zv OrdD.key l ka kb:=Zkl ow ow ow (by rw [← hm1];exact hy) (by rw [← hm1];exact hlo) Ka
  refine Ym (Ze (Ze (Zk (Za (Ya (Ya (rZ O (qR rr (qO rr qZ)) V JD QL fun O=>Ye ?_)))))))
  have hc1:ka≤ka∧ka+1≤i∧l=Zkb l ka ka:=⟨YE _,ow,(ZkB ow).symm⟩
  refine Zh (σ:=Nat×List OrdD) [0,1,2,3,4,10] [0] (fun s=>[(13,.pv (.int .i64 (s.1:Int)))]) (fun s=>[(1,.ob (.val v) (ZM 39 2 Zp s.2))]) (fun s=>ka≤s.1∧s.1+1≤i∧s.2=Zkb l ka s.1) (fun s=>i - s.1) ((ka),(l)) O ⟨rfl,rfl,rfl,rfl,rfl,rfl,rfl,tv⟩ ⟨rfl,rfl,tv⟩ hc1 ?_
  clear O;intro s a w F hC O
  obtain ⟨k,l1⟩:=s
  have hC:=X3
  obtain ⟨F,O⟩:=O.nM JD QL
  have O:=X2
  obtain ⟨hka,hki2,hl1⟩:=hC
  have hn1:l1.length=l.length:=by rw [hl1];exact Zds hka ow
  have hwk:IntKind.wrap .i64 ((k:Int)+1)=((k+1:Nat):Int):=ZaY ow
  have hwi:IntKind.wrap .i64 ((i:Int) - 1)=((i - 1:Nat):Int):=K8
  refine Ya (Ya (rZ O (qR rr (qR rr (qf (o_sub .t qi) r1 qz (qL r2)))) V [58,13,10,4,3,2,1,0] QL fun O=>?_))
  refine Zb O Z (fun hc3=>?_) (fun hc3=>?_)
  ·skip
   have hlt:k+1<i:=by have h9:=hc3;rw [hwi] at h9;simp at h9;omega
   refine Yd (Za (Ya (Ye (Zr O (qR rr (qR rr (qR rr (qR rr (qp r1 (qR rr (qR rr (qp r1 (qf (o_indexAddr_row (sz:=2) 1 (.mk YbS kr) .is .t Kb Kb Wd) r2 r1 (qf (Zs (ag:=true) (sz':=2) (sz:=2) 1 .t Wt Kb kr kr kr) r1 r1 (qR rr (qR rr (qf (o_indexAddr_row (sz:=2) 1 (.mk YbS kr) .is .t ow ow Wd) r2 r1 (qf (Zs (ag:=true) (sz':=2) (sz:=2) 1 .t Wt ow kr kr kr) r1 r1 (qf (o_indexAddr_row (sz:=2) 1 (.mk YbS kr) .is .t ow ow Wd) r2 r1 (qf (Z1 (sz:=2) 1 .t Wt ow (.conv .t (Ent.aggU (l:=Zp (Nn l1 (IntKind.wrap .i64 ((k:Int)+1)).toNat)) Z Z)) kr) r2 r1 (qf (o_indexAddr_row (sz:=2) 1 (.mk YbS kr) .is .t Kb Kc Wd) r2 r1 (qf (Z1 (sz:=2) 1 .t Wt Kc (.conv .t (Ent.aggU (l:=Zp (Nn l1 ((k:Int)).toNat)) Z Z)) kr) r2 r1 qZ)))))))))))))))))) V JD QL Z Z fun a w F O=>?_))))
   have O:=XA
   try simp only [Yf] at O
   rw [hwk] at O
   simp only [Yf] at O
   obtain ⟨l2,hl2⟩:∃ z,z=Zkb l ka (k+1):=⟨_,rfl⟩
   rw [show (l1.set k (Nn l1 (k+1))).set (k+1) (Nn l1 k)=l2 from by rw [hl2,← Zky hka ow,← hl1];rfl] at O
   refine Zf (Za (rZ O (qR rr (qp r1 (qO rr qZ))) V JD QL fun O=>?_))
   replace O:=O.ent (i:=13) (s':=.pv (.int .i64 ((k+1:Nat):Int))) Z (.int hwk)
   obtain ⟨F,O⟩:=O.nM [10,4,3,2,1,0,13] Jn
   exact ⟨((k+1),(l2)),F,⟨ow,ow,hl2⟩,O,ow⟩
  have hg:Zv OrdD.key l ka kb=l1:=Q4
  refine Ym (Ze (Ze (Zk (Za (Yh (Zd ?_))))))
  have O:=O.turn 1 Z (r':=RS.hp (ZM 39 2 Zp (Zv OrdD.key l ka kb) v)) (fun _ _ _ _ h=>by rw [hg];exact h)
  refine Zz hG O Z .nil .none rfl
 have hm1:ka+1<km:=KX
 refine Yd (Za (Ya (Ya (rZ O (qR rr (qR rr (qf (o_sub .t .t) r2 qz (qf (o_eql .t qi) r1 qz qZ)))) V [80,4,3,2,1,0] QL fun O=>?_))))
 refine Zb O Z (fun hc4=>?_) (fun hc4=>?_)
 ·skip
  have hm2:kb=km+1:=KY
  refine Ya (rZ O (qR rr (qO rr qZ)) V [14,4,3,2,1,0] QL fun O=>Ya ?_)
  refine rZ O (qR rr (qO rr qZ)) V JE QL fun O=>(Ya (Ye ?_))
  have hc0:ka≤ka∧ka≤km∧km≤km∧(∀ q,ka≤q→q<ka→OrdD.key (Nn l q)<OrdD.key (Nn l km)) ∧ ∀ q,km≤q→q<km→OrdD.key (Nn l km)<OrdD.key (Nn l q):=⟨YE _,ow,YE _,fun q h1 h2=>by omega,fun q h1 h2=>by omega⟩
  refine Zh (σ:=Nat×Nat) [0,1,2,3,4] [0,1] (fun s=>[(14,.pv (.int .i64 (s.1:Int))),(15,.pv (.int .i64 (s.2:Int)))]) (fun s=>[]) (fun s=>ka≤s.1∧s.1≤s.2∧s.2≤km∧(∀ q,ka≤q→q<s.1→OrdD.key (Nn l q)<OrdD.key (Nn l km)) ∧ ∀ q,s.2≤q→q<km→OrdD.key (Nn l km)<OrdD.key (Nn l q)) (fun s=>s.2 - s.1) ((ka),(km)) O ⟨rfl,rfl,rfl,rfl,rfl,rfl,rfl,tv⟩ ⟨rfl,rfl,tv⟩ hc0 ?_
  clear O;intro s a w F hC O
  obtain ⟨i,j⟩:=s
  have hC:=X3
  obtain ⟨F,O⟩:=O.nM JE QL
  have O:=X2
  obtain ⟨hki,hij,hjk,hlo,hhi⟩:=hC
  refine Ya (Ya (rZ O (qR rr (qR rr (qL r2))) V [85,15,14,4,3,2,1,0] QL fun O=>?_))
  refine Zb O Z (fun hc5=>?_) (fun hc5=>?_)
  ·skip
   have hlt:i<j:=Qa
   refine Yd (Za (Ye (Ya (Zg O (qR rr (qR rr (qf (o_add .t .t) r2 qz (qf (Za6 Yb2 kr .t) r1 qz (qf (ZjN .t qi We) r1 qz (qf (Za6 YbV kr .t) r1 qz (qO rr qZ))))))) V GF QL Z Z fun a w F O=>?_))))
   obtain ⟨m,hmm⟩:∃ m:Nat,m=(i+j) / 2:=⟨_,rfl⟩
   replace O:=O.ent (i:=16) (s':=.pv (.int .i64 (m:Int))) Z (.int K9)
   obtain ⟨F,O⟩:=O.nM GF QL
   refine Za (Ya (Zr O (qR rr (qR rr (qR rr (qf (o_indexAddr_row (sz:=2) 1 (.mk YbS kr) .is .t ow ow Wd) r2 r1 (qf (Zs (ag:=true) (sz':=2) (sz:=2) 1 .t Wt ow kr kr kr) r1 r1 (qR rr (qR rr (qf (o_indexAddr_row (sz:=2) 1 (.mk YbS kr) .is .t ow ow Wd) r2 r1 (qf (Zs (ag:=true) (sz':=2) (sz:=2) 1 .t Wt ow kr kr kr) r1 r1 (qf (o_callClosP (avs:=[.agg (Zp (Nn l ((km:Int)).toNat)),.agg (Zp (Nn l ((m:Int)).toNat))]) .t (hw (Nn l ((km:Int)).toNat) (Nn l ((m:Int)).toNat)) hf hbd hnn (Args.two (.pagg .t) (.pagg .t))) r3 qz (qf (ZaR .t qi) r1 qz (qf (ZW .t) r1 qz qZ)))))))))))) V Xat QL Z Z fun a w F O=>?_))
   have O:=XO
   try simp only [Yf] at O
   refine Za (Zb O Z (fun hc6=>?_) (fun hc6=>?_))
   ·skip
    have h9:¬ Zdx (OrdD.key (Nn l km)) (OrdD.key (Nn l m))<0:=Qt
    have h8:=Zf3 hu (i:=km) (j:=m) ow ow ow (fun e=>h9 (Zbi.2 e))
    obtain ⟨i2,hi2e⟩:∃ z,z=m+1:=⟨_,rfl⟩
    obtain ⟨j2,hj2e⟩:∃ z,z=j:=⟨_,rfl⟩
    have hi2:IntKind.wrap .i64 ((m:Int)+1)=(i2:Int):=Q3
    have hj2:(j:Int)=(j2:Int):=Ql
    have hmu:j2 - i2<j - i:=ow
    have hC2:ka≤i2∧i2≤j2∧j2≤km∧(∀ q,ka≤q→q<i2→OrdD.key (Nn l q)<OrdD.key (Nn l km)) ∧ ∀ q,j2≤q→q<km→OrdD.key (Nn l km)<OrdD.key (Nn l q):=⟨ow,ow,ow,fun q h1 h2=>by rcases Yah q m with h | h;exact Ybd (hx9 q m h1 h ow) h8;rw [show q=m by omega];exact h8,by rw [hj2e];exact hhi⟩
    refine Zg O (qR rr (qp r1 (qO rr qZ))) V JE QL Z Z fun a w F O=>Zf (Za ?_)
    replace O:=O.ent (i:=14) (s':=.pv (.int .i64 (i2:Int))) Z (.int hi2)
    replace O:=O.ent (i:=15) (s':=.pv (.int .i64 (j2:Int))) Z (.int hj2)
    obtain ⟨F,O⟩:=O.nM Dd QL
    exact ⟨((i2),(j2)),F,hC2,O,hmu⟩
   have h9:Zdx (OrdD.key (Nn l km)) (OrdD.key (Nn l m))<0:=Qt
   have h8:=Zbi.1 h9
   obtain ⟨i2,hi2e⟩:∃ z,z=i:=⟨_,rfl⟩
   obtain ⟨j2,hj2e⟩:∃ z,z=m:=⟨_,rfl⟩
   have hi2:(i:Int)=(i2:Int):=QH
   have hj2:(m:Int)=(j2:Int):=Ql
   have hmu:j2 - i2<j - i:=ow
   have hC2:ka≤i2∧i2≤j2∧j2≤km∧(∀ q,ka≤q→q<i2→OrdD.key (Nn l q)<OrdD.key (Nn l km)) ∧ ∀ q,j2≤q→q<km→OrdD.key (Nn l km)<OrdD.key (Nn l q):=⟨ow,ow,ow,by rw [hi2e];exact hlo,fun q h1 h2=>by rcases Yah m q with h | h;exact Ybd h8 (hx9 m q ow h h2);rw [show q=m by omega];exact h8⟩
   refine Zg O (qR rr (qO rr qZ)) V JE QL Z Z fun a w F O=>Zf (Za ?_)
   replace O:=O.ent (i:=14) (s':=.pv (.int .i64 (i2:Int))) Z (.int hi2)
   replace O:=O.ent (i:=15) (s':=.pv (.int .i64 (j2:Int))) Z (.int hj2)
   obtain ⟨F,O⟩:=O.nM Dd QL
   exact ⟨((i2),(j2)),F,hC2,O,hmu⟩
  have hjj:i=j:=Qa
  have hg1:Zgi l i km=Zv OrdD.key l ka kb:=by rw [hm2];exact ZiE hki ow ow hx hlo Ka
  refine Ym (Ze (Ze (Zk (Za (Ya (Ya (rZ O (qR rr (qO rr qZ)) V JF QL fun O=>Ye ?_)))))))
  have hc1:i≤km∧km≤km∧l=Zgi l km km:=⟨ow,YE _,(ZfD ow).symm⟩
  refine Zh (σ:=Nat×List OrdD) [0,1,2,3,4,14] [0] (fun s=>[(17,.pv (.int .i64 (s.1:Int)))]) (fun s=>[(1,.ob (.val v) (ZM 39 2 Zp s.2))]) (fun s=>i≤s.1∧s.1≤km∧s.2=Zgi l s.1 km) (fun s=>s.1) ((km),(l)) O ⟨rfl,rfl,rfl,rfl,rfl,rfl,rfl,tv⟩ ⟨rfl,rfl,tv⟩ hc1 ?_
  clear O;intro s a w F hC O
  obtain ⟨k,l1⟩:=s
  have hC:=X3
  obtain ⟨F,O⟩:=O.nM JF QL
  have O:=X2
  obtain ⟨hka,hki2,hl1⟩:=hC
  have hn1:l1.length=l.length:=by rw [hl1];exact Zcn hki2 ow
  have hwk:i<k→IntKind.wrap .i64 ((k:Int) - 1)=((k - 1:Nat):Int):=fun h=>by rw [Zj ow];omega
  refine Ya (Ya (rZ O (qR rr (qR rr (qf (o_gtr .t .t) r2 qz qZ))) V [110,17,14,4,3,2,1,0] QL fun O=>?_))
  refine Zb O Z (fun hc7=>?_) (fun hc7=>?_)
  ·skip
   have hlt:i<k:=by simp at hc7;omega
   refine Yd (Za (Ya (Ye (Zr O (qR rr (qR rr (qR rr (qR rr (qf (o_sub .t qi) r1 qz (qR rr (qR rr (qf (o_sub .t qi) r1 qz (qf (o_indexAddr_row (sz:=2) 1 (.mk YbS kr) .is .t Kd Kd Wd) r2 r1 (qf (Zs (ag:=true) (sz':=2) (sz:=2) 1 .t Wt Kd kr kr kr) r1 r1 (qR rr (qR rr (qf (o_indexAddr_row (sz:=2) 1 (.mk YbS kr) .is .t ow ow Wd) r2 r1 (qf (Zs (ag:=true) (sz':=2) (sz:=2) 1 .t Wt ow kr kr kr) r1 r1 (qf (o_indexAddr_row (sz:=2) 1 (.mk YbS kr) .is .t ow ow Wd) r2 r1 (qf (Z1 (sz:=2) 1 .t Wt ow (.conv .t (Ent.aggU (l:=Zp (Nn l1 (IntKind.wrap .i64 ((k:Int) - 1)).toNat)) Z Z)) kr) r2 r1 (qf (o_indexAddr_row (sz:=2) 1 (.mk YbS kr) .is .t Kd Ke Wd) r2 r1 (qf (Z1 (sz:=2) 1 .t Wt Ke (.conv .t (Ent.aggU (l:=Zp (Nn l1 ((k:Int)).toNat)) Z Z)) kr) r2 r1 qZ)))))))))))))))))) V JF QL Z Z fun a w F O=>?_))))
   have O:=XA
   try simp only [Yf] at O
   rw [hwk hlt] at O
   simp only [Yf] at O
   obtain ⟨l2,hl2⟩:∃ z,z=Zgi l (k - 1) km:=⟨_,rfl⟩
   rw [show (l1.set k (Nn l1 (k - 1))).set (k - 1) (Nn l1 k)=l2 from by rw [hl2,← ZfB ow hki2 ow,← hl1];rfl] at O
   refine Zf (Za (rZ O (qR rr (qf (o_sub .t qi) r1 qz (qO rr qZ))) V JF QL fun O=>?_))
   replace O:=O.ent (i:=17) (s':=.pv (.int .i64 ((k - 1:Nat):Int))) Z (.int (hwk hlt))
   obtain ⟨F,O⟩:=O.nM [14,4,3,2,1,0,17] Jn
   exact ⟨((k - 1),(l2)),F,⟨ow,ow,hl2⟩,O,ow⟩
  have hg:Zv OrdD.key l ka kb=l1:=by rw [hl1,← hg1,show k=i by simp at hc7;omega]
  refine Ym (Ze (Ze (Zk (Za (Yh (Zd ?_))))))
  have O:=O.turn 1 Z (r':=RS.hp (ZM 39 2 Zp (Zv OrdD.key l ka kb) v)) (fun _ _ _ _ h=>by rw [hg];exact h)
  refine Zz hG O Z .nil .none rfl
 have hm2:km+1<kb:=KY
 refine Yd (Za (Ya (Zg O (qR rr (qR rr (qf (o_add .t .t) r2 qz (qf (Za6 Yb2 kr .t) r1 qz (qf (ZjN .t qi We) r1 qz (qf (Za6 YbV kr .t) r1 qz (qO rr qZ))))))) V Xa1 QL Z Z fun a w F O=>?_)))
 obtain ⟨mid,hmmid⟩:∃ m:Nat,m=(ka+kb) / 2:=⟨_,rfl⟩
 replace O:=O.ent (i:=18) (s':=.pv (.int .i64 (mid:Int))) Z (.int (by rw [hmmid];exact ZdA ow))
 obtain ⟨F,O⟩:=O.nM Xa1 QL
 refine Za (Ya (Zg O (qR rr (qR rr (qf (o_add .t .t) r2 qz (qO rr qZ)))) V Ga QL Z Z fun a w F O=>?_))
 replace O:=O.ent (i:=19) (s':=.pv (.int .i64 ((mid+km:Nat):Int))) Z (.int K8)
 obtain ⟨F,O⟩:=O.nM Ga QL
 refine Za (Ya (rZ O (qI (qI qZ)) V Ga QL fun O=>(Ya (Ya ?_))))
 refine rZ O (qR rr (qR rr (qf (o_gtr .t .t) r2 qz qZ))) V [140,19,18,4,3,2,1,0] QL fun O=>?_
 refine Zc2 (σ:=Nat×Nat) [0,1,2,3,4,18,19] [0,1] (fun s=>[(20,.pv (.int .i64 (s.1:Int))),(21,.pv (.int .i64 (s.2:Int)))]) (fun s=>[]) (fun s=>(mid<km∧s.1+kb=mid+km∧s.2=mid)∨(km≤mid∧s.1=ka∧s.2=km)) O ?_ ?_
 ·skip
  refine Zb O Z (fun hc8=>?_) (fun hc8=>?_)
  ·skip
   have hmm:mid<km:=QA
   obtain ⟨s0,s0e⟩:∃ z,z=mid+km - kb:=⟨_,rfl⟩
   obtain ⟨r0,r0e⟩:∃ z,z=mid:=⟨_,rfl⟩
   have hs0:(mid<km∧s0+kb=mid+km∧r0=mid)∨(km≤mid∧s0=ka∧r0=km):=.inl ⟨hmm,ow,r0e⟩
   have hcs:IntKind.wrap .i64 (((mid+km:Nat):Int) - (kb:Int))=(s0:Int):=K8
   have hcr:(mid:Int)=(r0:Int):=by rw [r0e]
   refine Ya (rZ O (qR rr (qR rr (qf (o_sub .t .t) r2 qz (qO rr qZ)))) V GG QL fun O=>?_)
   refine rZ O (qR rr (qO rr qZ)) V JA QL fun O=>?_
   replace O:=O.ent (i:=20) (s':=.pv (.int .i64 (s0:Int))) Z (.int hcs)
   replace O:=O.ent (i:=21) (s':=.pv (.int .i64 (r0:Int))) Z (.int hcr)
   obtain ⟨F,O⟩:=O.nM Gl QL
   exact ⟨((s0),(r0)),F,hs0,O⟩
  have hmm:km≤mid:=QA
  obtain ⟨s0,s0e⟩:∃ z,z=ka:=⟨_,rfl⟩
  obtain ⟨r0,r0e⟩:∃ z,z=km:=⟨_,rfl⟩
  have hs0:(mid<km∧s0+kb=mid+km∧r0=mid)∨(km≤mid∧s0=ka∧r0=km):=.inr ⟨hmm,s0e,r0e⟩
  have hcs:(ka:Int)=(s0:Int):=by rw [s0e]
  have hcr:(km:Int)=(r0:Int):=by rw [r0e]
  refine Ya (rZ O (qR rr (qO rr qZ)) V GG QL fun O=>?_)
  refine rZ O (qR rr (qO rr qZ)) V JA QL fun O=>?_
  replace O:=O.ent (i:=20) (s':=.pv (.int .i64 (s0:Int))) Z (.int hcs)
  replace O:=O.ent (i:=21) (s':=.pv (.int .i64 (r0:Int))) Z (.int hcr)
  obtain ⟨F,O⟩:=O.nM Gl QL
  exact ⟨((s0),(r0)),F,hs0,O⟩
 clear O;intro s a w F hC O
 obtain ⟨s0,r0⟩:=s
 have hC:=X3
 obtain ⟨F,O⟩:=O.nM JA QL
 have O:=X2
 have hs0:=hC
 refine Ya (Zg O (qR rr (qf (o_sub .t qi) r1 qz (qO rr qZ))) V J2 QL Z Z fun a w F O=>?_)
 replace O:=O.ent (i:=22) (s':=.pv (.int .i64 ((mid+km - 1:Nat):Int))) Z (.int K8)
 obtain ⟨F,O⟩:=O.nM J2 QL
 refine Za (Ya (Ye ?_))
 have hsr0:s0≤r0∧ka≤s0∧r0≤km∧r0≤mid:=ow
 refine Zh (σ:=Nat×Nat) [0,1,2,3,4,18,19,22] [0,1] (fun s=>[(20,.pv (.int .i64 (s.1:Int))),(21,.pv (.int .i64 (s.2:Int)))]) (fun s=>[]) (fun s=>s0≤s.1∧s.1≤s.2∧s.2≤r0∧(s.1=s0∨OrdD.key (Nn l (s.1 - 1))<OrdD.key (Nn l (mid+km - s.1)))∧(s.2=r0∨OrdD.key (Nn l (mid+km - 1 - s.2))<OrdD.key (Nn l s.2))) (fun s=>s.2 - s.1) ((s0),(r0)) O ⟨rfl,rfl,rfl,rfl,rfl,rfl,rfl,rfl,rfl,rfl,tv⟩ ⟨rfl,rfl,tv⟩ ⟨YE _,hsr0.1,YE _,.inl rfl,.inl rfl⟩ ?_
 clear O;intro s a w F hC O
 obtain ⟨st,r⟩:=s
 have hC:=X3
 obtain ⟨F,O⟩:=O.nM J2 QL
 have O:=X2
 obtain ⟨hs1,hsr,hr1,hlo,hhi⟩:=hC
 refine Ya (Ya (rZ O (qR rr (qR rr (qL r2))) V DK QL fun O=>?_))
 refine Zb O Z (fun hc9=>?_) (fun hc9=>?_)
 ·skip
  have hlt:st<r:=QB
  refine Yd (Za (Ye (Ya (Zg O (qR rr (qR rr (qf (o_add .t .t) r2 qz (qf (Za6 Yb2 kr .t) r1 qz (qf (ZjN .t qi We) r1 qz (qf (Za6 YbV kr .t) r1 qz (qO rr qZ))))))) V JS QL Z Z fun a w F O=>?_))))
  obtain ⟨m,hmm⟩:∃ m:Nat,m=(st+r) / 2:=⟨_,rfl⟩
  replace O:=O.ent (i:=23) (s':=.pv (.int .i64 (m:Int))) Z (.int K9)
  obtain ⟨F,O⟩:=O.nM JS QL
  have hwp:IntKind.wrap .i64 (((mid+km - 1:Nat):Int) - (m:Int))=((mid+km - 1 - m:Nat):Int):=K8
  refine Za (Ya (Zr O (qR rr (qR rr (qR rr (qR rr (qf (o_sub .t .t) r2 qz (qf (o_indexAddr_row (sz:=2) 1 (.mk YbS kr) .is .t Kf Kf Wd) r2 r1 (qf (Zs (ag:=true) (sz':=2) (sz:=2) 1 .t Wt Kf kr kr kr) r1 r1 (qR rr (qR rr (qf (o_indexAddr_row (sz:=2) 1 (.mk YbS kr) .is .t ow ow Wd) r2 r1 (qf (Zs (ag:=true) (sz':=2) (sz:=2) 1 .t Wt ow kr kr kr) r1 r1 (qf (o_callClosP (avs:=[.agg (Zp (Nn l (IntKind.wrap .i64 (((mid+km - 1:Nat):Int) - (m:Int))).toNat)),.agg (Zp (Nn l ((m:Int)).toNat))]) .t (hw (Nn l (IntKind.wrap .i64 (((mid+km - 1:Nat):Int) - (m:Int))).toNat) (Nn l ((m:Int)).toNat)) hf hbd hnn (Args.two (.pagg .t) (.pagg .t))) r3 qz (qf (ZaR .t qi) r1 qz (qf (ZW .t) r1 qz qZ)))))))))))))) V Di QL Z Z fun a w F O=>?_))
  have O:=XO
  try simp only [Yf] at O
  refine Za (Zb O Z (fun hc10=>?_) (fun hc10=>?_))
  ·skip
   have h9:¬ Zdx (OrdD.key (Nn l (IntKind.wrap .i64 (((mid+km - 1:Nat):Int) - (m:Int))).toNat)) (OrdD.key (Nn l m))<0:=QD
   rw [hwp,Yf] at h9
   have h8:=Zf3 hu (i:=(mid+km - 1 - m)) (j:=m) ow ow ow (fun e=>h9 (Zbi.2 e))
   obtain ⟨i2,hi2e⟩:∃ z,z=m+1:=⟨_,rfl⟩
   obtain ⟨j2,hj2e⟩:∃ z,z=r:=⟨_,rfl⟩
   have hi2:IntKind.wrap .i64 ((m:Int)+1)=(i2:Int):=Q3
   have hj2:(r:Int)=(j2:Int):=Ql
   have hmu:j2 - i2<r - st:=ow
   have hC2:s0≤i2∧i2≤j2∧j2≤r0∧(i2=s0∨OrdD.key (Nn l (i2 - 1))<OrdD.key (Nn l (mid+km - i2)))∧(j2=r0∨OrdD.key (Nn l (mid+km - 1 - j2))<OrdD.key (Nn l j2)):=⟨ow,ow,ow,.inr Kg,by rw [hj2e];exact hhi⟩
   refine Zg O (qR rr (qp r1 (qO rr qZ))) V J2 QL Z Z fun a w F O=>Zf (Za ?_)
   replace O:=O.ent (i:=20) (s':=.pv (.int .i64 (i2:Int))) Z (.int hi2)
   replace O:=O.ent (i:=21) (s':=.pv (.int .i64 (j2:Int))) Z (.int hj2)
   obtain ⟨F,O⟩:=O.nM G6 QL
   exact ⟨((i2),(j2)),F,hC2,O,hmu⟩
  have h9:Zdx (OrdD.key (Nn l (IntKind.wrap .i64 (((mid+km - 1:Nat):Int) - (m:Int))).toNat)) (OrdD.key (Nn l m))<0:=QD
  rw [hwp,Yf] at h9
  have h8:=Zbi.1 h9
  obtain ⟨i2,hi2e⟩:∃ z,z=st:=⟨_,rfl⟩
  obtain ⟨j2,hj2e⟩:∃ z,z=m:=⟨_,rfl⟩
  have hi2:(st:Int)=(i2:Int):=QH
  have hj2:(m:Int)=(j2:Int):=Ql
  have hmu:j2 - i2<r - st:=ow
  have hC2:s0≤i2∧i2≤j2∧j2≤r0∧(i2=s0∨OrdD.key (Nn l (i2 - 1))<OrdD.key (Nn l (mid+km - i2)))∧(j2=r0∨OrdD.key (Nn l (mid+km - 1 - j2))<OrdD.key (Nn l j2)):=⟨ow,ow,ow,by rw [hi2e];exact hlo,.inr (by rw [hj2e];exact h8)⟩
  refine Zg O (qR rr (qO rr qZ)) V J2 QL Z Z fun a w F O=>Zf (Za ?_)
  replace O:=O.ent (i:=20) (s':=.pv (.int .i64 (i2:Int))) Z (.int hi2)
  replace O:=O.ent (i:=21) (s':=.pv (.int .i64 (j2:Int))) Z (.int hj2)
  obtain ⟨F,O⟩:=O.nM G6 QL
  exact ⟨((i2),(j2)),F,hC2,O,hmu⟩
 have hjj:r=st:=QB
 rw [hjj] at hhi hr1
 obtain ⟨⟨k1,k2,k3⟩,kc1,kc2⟩:=ZmG (κ:=OrdD.key) (l:=l) (a:=ka) (m:=km) (b:=kb) (mid:=mid) (start:=st) h3 h1 h2 ow ow ow hx hy hs0 hs1 hr1 hlo hhi ow
 obtain ⟨en,ene⟩:∃ z,z=mid+km - st:=⟨_,rfl⟩
 rw [← ene] at k2 k3 kc1 kc2
 obtain ⟨hst1,hr1a,hr1b,hr2a,hr2b,-,-⟩:=Znr (κ:=OrdD.key) (l:=l) (a:=ka) (start:=st) (m:=km) (e:=en) (b:=kb) (mid:=mid) ow k1 k2 k3 h3 ow hx hy (ZfP hu _ _) kc1 kc2
 obtain ⟨l1,l1e⟩:∃ z,z=Z2 l st km en:=⟨_,rfl⟩
 rw [← l1e] at hst1 hr1a hr1b hr2a hr2b
 obtain ⟨l2,l2e⟩:∃ z,z=Zv OrdD.key l1 ka mid:=⟨_,rfl⟩
 rw [← l2e] at hst1 hr2a hr2b
 obtain ⟨l3,l3e⟩:∃ z,z=Zv OrdD.key l2 mid kb:=⟨_,rfl⟩
 rw [← l3e] at hst1
 have hg:Zv OrdD.key l ka kb=l3:=hst1.symm
 have hn1:l1.length≤1000000:=by rw [l1e,ZiL k1 k2 ow];exact hll
 have hm1l:l1.length=l.length:=by rw [l1e,ZiL k1 k2 ow]
 have hn2:l2.length≤1000000:=Qs
 have hm2l:l2.length=l.length:=by rw [l2e,Z8 ow];exact hm1l
 have hu1:Unl OrdD.key l1:=by rw [l1e];exact hu.perm (ZmX k1 k2).symm
 have hu2:Unl OrdD.key l2:=Qo
 have hce:IntKind.wrap .i64 (((mid+km:Nat):Int) - (st:Int))=(en:Int):=K8
 refine Ym (Ze (Ze (Zk (Za (Ya (Zg O (qR rr (qR rr (qf (o_sub .t .t) r2 qz (qO rr qZ)))) V GH QL Z Z fun a w F O=>?_))))))
 replace O:=O.ent (i:=24) (s':=.pv (.int .i64 (en:Int))) Z (.int (hce))
 obtain ⟨F,O⟩:=O.nM GH QL
 refine Za (Ya (Ya (rZ O (qR rr (qR rr (qf (ZaR .t .t) r2 qz (qR rr (qm Z Z Z Z (qm Z Z Z Z (qk Z (fun h=>ZaR (.w h) (.w h)) r3 qz (qf (ZF .t .t) r2 qz qZ)))))))) V Xau QL fun O=>?_)))
 refine Zc2 (σ:=Unit) [0,1,3,4,18,20,24] [0] (fun s=>[]) (fun s=>[(1,.ob (.val v) (ZM 39 2 Zp l1))]) (fun s=>True) O ?_ ?_
 ·skip
  refine Zb O Z (fun hc11=>?_) (fun hc11=>?_)
  ·skip
   have h9:st<km∧km<en:=QE
   refine Zg O (qR rr (qR rr (qR rr (qR rr (qR rr (qf (ZY 1 (Zvb v l st km en hll ow ow ow f cps) func281 Z kr (Args.five .t .t .t .t .t)) r5 r1 qZ)))))) V Jw QL Z Z fun a w F O=>?_
   rw [← l1e] at O
   refine Za ?_
   obtain ⟨F,O⟩:=O.nM Jw Jn
   exact ⟨(()),F,tv,O⟩
  have h9:¬ (st<km∧km<en):=QE
  have hlr:l=l1:=by rw [l1e];exact (ZmS k1 k2 ow).symm
  rw [hlr] at O
  refine Yd (Za ?_)
  obtain ⟨F,O⟩:=O.nM Jw Jn
  exact ⟨(()),F,tv,O⟩
 clear O;intro u a w F hC O
 have hC:=X3
 obtain ⟨F,O⟩:=O.nM Jw QL
 have O:=X2
 refine Ya (Ya (rZ O (qR rr (qR rr (qf (ZaR .t .t) r2 qz (qR rr (qm Z Z Z Z (qm Z Z Z Z (qk Z (fun h=>ZaR (.w h) (.w h)) r3 qz (qf (ZF .t .t) r2 qz qZ)))))))) V [199,24,20,18,4,3,1,0] QL fun O=>?_))
 refine Zc2 (σ:=Unit) [0,3,4,18,24] [0] (fun s=>[]) (fun s=>[(1,.ob (.val v) (ZM 39 2 Zp l2))]) (fun s=>True) O ?_ ?_
 ·skip
  refine Zb O Z (fun hc12=>?_) (fun hc12=>?_)
  ·skip
   have h9:ka<st∧st<mid:=QF
   refine Zg O (qR rr (qR rr (qR rr (qR rr (qR rr (qf (ZY 1 (ih l1 ka st mid ow hn1 ow ow ow hu1 hr1a hr1b) func275 Z kr (Args.five .t .t .t .t .t)) r5 r1 qZ)))))) V G7 QL Z Z fun a w F O=>?_
   rw [← l2e] at O
   refine Za ?_
   obtain ⟨F,O⟩:=O.nM G7 Jn
   exact ⟨(()),F,tv,O⟩
  have h9:¬ (ka<st∧st<mid):=QF
  have hlr:l1=l2:=by rw [l2e];refine (Zbz ow ?_).symm; (rcases Yah ka st with h | h); (rw [show mid=st by omega];exact hr1a); (rw [show ka=st by omega];exact hr1b)
  rw [hlr] at O
  refine Yd (Za ?_)
  obtain ⟨F,O⟩:=O.nM G7 Jn
  exact ⟨(()),F,tv,O⟩
 clear O;intro u a w F hC O
 have hC:=X3
 obtain ⟨F,O⟩:=O.nM G7 QL
 have O:=X2
 refine Ya (rZ O (qR rr (qR rr (qf (ZaR .t .t) r2 qz (qR rr (qm Z Z Z Z (qm Z Z Z Z (qk Z (fun h=>ZaR (.w h) (.w h)) r3 qz (qf (ZF .t .t) r2 qz qZ)))))))) V [213,24,18,4,3,0] QL fun O=>?_)
 refine Zb O Z (fun hc13=>?_) (fun hc13=>?_)
 ·skip
  have h9:mid<en∧en<kb:=QG
  refine Zg O (qR rr (qR rr (qR rr (qR rr (qR rr (qf (ZY 1 (ih l2 mid en kb ow hn2 ow ow ow hu2 hr2a hr2b) func275 Z kr (Args.five .t .t .t .t .t)) r5 r1 qZ)))))) V [] QL Z Z fun a w F O=>?_
  rw [← l3e] at O
  have O:=O.turn 1 Z (r':=RS.hp (ZM 39 2 Zp (Zv OrdD.key l ka kb) v)) (fun _ _ _ _ h=>by rw [hg];exact h)
  refine Zz hG O Z .nil .none rfl
 have h9:¬ (mid<en∧en<kb):=QG
 have hlr:l2=l3:=by rw [l3e];refine (Zbz ow ?_).symm; (rcases Yah mid en with h | h); (rw [show kb=en by omega];exact hr2a); (rw [show mid=en by omega];exact hr2b)
 rw [hlr] at O
 refine Yd ?_
 have O:=O.turn 1 Z (r':=RS.hp (ZM 39 2 Zp (Zv OrdD.key l ka kb) v)) (fun _ _ _ _ h=>by rw [hg];exact h)
 refine Zz hG O Z .nil .none rfl
theorem Zu2 (v : Value) (f : FuncId) (fn : Func) (cps : List PV) (hf : prog.funcs[f]? = some fn) (hbd : fn.body.isSome = true) (hnn : (fn.name == "runtime.NumGoroutine") = false) (hw : ∀ x y : OrdD, FnP prog f (.agg (Zp x) :: .agg (Zp y) :: cps) (.int .i64 (Zdx (OrdD.key x) (OrdD.key y)))) : ∀ (n : Nat) (l : List OrdD) (ka km kb : Nat), kb - ka < n → l.length ≤ 1000000 → ka < km → km < kb → kb ≤ l.length → Unl OrdD.key l → ZZ OrdD.key (seg l ka km) → ZZ OrdD.key (seg l km kb) → FnG prog 275 1 [.is v, .int .i64 (ka : Nat), .int .i64 (km : Nat), .int .i64 (kb : Nat), .clos f cps] [ZM 39 2 Zp l v] (.tup []) (fun _ => [ZM 39 2 Zp (Zv OrdD.key l ka kb) v]) := fun n => by
 induction n with
 | zero=>intro l ka km kb h;omega
 | succ n ih=>intro l ka km kb hn hll h1 h2 h3 hu hx hy;exact symSR v l ka km kb hll h1 h2 h3 hu hx hy f fn cps hf hbd hnn hw n ih hn
theorem ZuR (v : Value) (l : List OrdD)  (hll : l.length ≤ 1000000) (hu : Unl OrdD.key l) (f : FuncId) (fn : Func) (cps : List PV) (hf : prog.funcs[f]? = some fn) (hbd : fn.body.isSome = true) (hnn : (fn.name == "runtime.NumGoroutine") = false) (hw : ∀ x y : OrdD, FnP prog f (.agg (Zp x) :: .agg (Zp y) :: cps) (.int .i64 (Zdx (OrdD.key x) (OrdD.key y)))) : FnG prog 245 1 [.is v, .int .i64 l.length, .clos f cps] [ZM 39 2 Zp l v] (.tup []) (fun _ => [ZM 39 2 Zp (Zak OrdD.key l) v]) := by
 refine FnG.mk func245 Z ntmps245 Z kr fun B F0 a w F V hG O=>?_
 replace O:=O.turn 1 Z (r':=.ob (.val v) (ZM 39 2 Zp l)) (fun _ _ _ _ h=>h)
 refine Ya (rZ O (qI qZ) V JG QL fun O=>Ya ?_)
 refine rZ O (qR rr (qI (qO rr qZ))) V QX QL fun O=>(Ya (Ye ?_))
 have hc0:Zlh OrdD.key l 20 0:=fun t ht=>by omega
 replace O:=O.ent (i:=7) (s':=.pv (.int .i64 ((0:Nat):Int))) Z (.int Z)
 replace O:=O.ent (i:=8) (s':=.pv (.int .i64 ((0+20:Nat):Int))) Z (.int Z)
 refine Zh (σ:=Nat×List OrdD) [0,1,2,6] [0] (fun s=>[(7,.pv (.int .i64 (s.1:Int))),(8,.pv (.int .i64 ((s.1+20:Nat):Int)))]) (fun s=>[(1,.ob (.val v) (ZM 39 2 Zp s.2))]) (fun s=>s.1≤l.length∧(∃ t,s.1=t*20)∧s.2.length=l.length∧Unl OrdD.key s.2∧s.2.Perm l∧Zlh OrdD.key s.2 20 s.1) (fun s=>l.length - s.1) ((0),(l)) O ⟨rfl,rfl,rfl,rfl,rfl,rfl,tv⟩ ⟨rfl,rfl,tv⟩ ⟨Yo _,⟨0,rfl⟩,rfl,hu,Ybf _,hc0⟩ ?_
 clear O;intro s a w F hC O
 obtain ⟨q,l1⟩:=s
 have hC:=X3
 obtain ⟨F,O⟩:=O.nM QX QL
 have O:=X2
 obtain ⟨hql,⟨t,ht⟩,hn1,hu1,hp1,hB1⟩:=hC
 refine Ya (Ya (rZ O (qR rr (qR rr (qf (Zh1 .t .t) r2 qz qZ))) V [13,8,7,6,2,1,0] QL fun O=>?_))
 refine Zb O Z (fun hc0=>?_) (fun hc0=>?_)
 ·skip
  have hlt:q+20≤l.length:=WI
  obtain ⟨l2,l2e⟩:∃ z,z=Zv OrdD.key l1 q (q+20):=⟨_,rfl⟩
  refine Yd (Za (Ye (Ya (Zg O (qR rr (qR rr (qR rr (qR rr (qf (ZY 1 (Zu7 v l1 q (q+20) ow ow ow hu1 f fn cps hf hbd hnn hw) func274 Z kr (Args.four .t .t .t .t)) r4 r1 qZ))))) V QX QL Z Z fun a w F O=>?_))))
  rw [← l2e] at O
  refine Za (Ya (rZ O (qR rr (qO rr qZ)) V QX QL fun O=>?_))
  refine Zg O (qR rr (qR rr (qf (o_add .t .t) r2 qz (qO rr qZ)))) V QX QL Z Z fun a w F O=>Zf (Za ?_)
  have hB2:Zlh OrdD.key l2 20 (q+20):=by rw [l2e,ht];exact Zfd ow Kh ow hu1
  replace O:=O.ent (i:=8) (s':=.pv (.int .i64 ((q+20+20:Nat):Int))) Z (.int K8)
  obtain ⟨F,O⟩:=O.nM Xag Jn
  exact ⟨((q+20),(l2)),F,⟨ow,⟨t+1,ow⟩,by rw [l2e,Z8 ow];exact hn1,by rw [l2e];exact Zau ow hu1,by rw [l2e];exact (ZaA ow).trans hp1,hB2⟩,O,ow⟩
 have hlt:l.length<q+20:=WI
 obtain ⟨l2,l2e⟩:∃ z,z=Zv OrdD.key l1 q l.length:=⟨_,rfl⟩
 have hn2:l2.length=l.length:=Qs
 have hu2:Unl OrdD.key l2:=Qo
 have hp2:l2.Perm l:=by rw [l2e];exact (ZaA ow).trans hp1
 have hB2:ZjR OrdD.key l2 20 0:=by rw [l2e,ht,← hn1];exact Zgp ow Kh ow ow hu1
 refine Ym (Ze (Ze (Zk (Za (Ya (Zg O (qR rr (qR rr (qR rr (qR rr (qf (ZY 1 (Zu7 v l1 q l.length ow ow ow hu1 f fn cps hf hbd hnn hw) func274 Z kr (Args.four .t .t .t .t)) r4 r1 qZ))))) V JG QL Z Z fun a w F O=>?_))))))
 rw [← l2e] at O
 refine Za (Ye ?_)
 have hc0:0<20∧20≤2000000:=ow
 replace O:=O.ent (i:=6) (s':=.pv (.int .i64 ((20:Nat):Int))) Z (.int Z)
 refine Zh (σ:=Nat×List OrdD) [0,1,2] [0] (fun s=>[(6,.pv (.int .i64 (s.1:Int)))]) (fun s=>[(1,.ob (.val v) (ZM 39 2 Zp s.2))]) (fun s=>0<s.1∧s.1≤2000000∧s.2.length=l.length∧Unl OrdD.key s.2∧s.2.Perm l∧ZjR OrdD.key s.2 s.1 0) (fun s=>l.length - s.1) ((20),(l2)) O ⟨rfl,rfl,rfl,rfl,tv⟩ ⟨rfl,rfl,tv⟩ ⟨hc0.1,hc0.2,hn2,hu2,hp2,hB2⟩ ?_
 clear O;intro s a w F hC O
 obtain ⟨bs,l3⟩:=s
 have hC:=X3
 obtain ⟨F,O⟩:=O.nM JG QL
 have O:=X2
 obtain ⟨hb0,hb1,hn3,hu3,hp3,hB3⟩:=hC
 have hwb:IntKind.wrap .i64 (2*(bs:Int))=((2*bs:Nat):Int):=K8
 refine Ya (Ya (rZ O (qR rr (qR rr (qL r2))) V [30,6,2,1,0] QL fun O=>?_))
 refine Zb O Z (fun hc1=>?_) (fun hc1=>?_)
 ·skip
  have hlt:bs<l.length:=WH
  refine Yd (Za (Ye (Ya (rZ O (qR rr (qf (Zgh qi .t) r1 qz (qI (qO rr qZ)))) V QX QL fun O=>(Ya (Ye ?_))))))
  have hc4:Zlh OrdD.key l3 (2*bs) 0:=fun t ht=>by omega
  replace O:=O.ent (i:=7) (s':=.pv (.int .i64 ((0:Nat):Int))) Z (.int Z)
  replace O:=O.ent (i:=8) (s':=.pv (.int .i64 ((0+2*bs:Nat):Int))) Z (.int K2)
  refine Zh (σ:=Nat×List OrdD) [0,1,2,6] [0] (fun s=>[(7,.pv (.int .i64 (s.1:Int))),(8,.pv (.int .i64 ((s.1+2*bs:Nat):Int)))]) (fun s=>[(1,.ob (.val v) (ZM 39 2 Zp s.2))]) (fun s=>s.1≤l.length∧(∃ t,s.1=t*(2*bs))∧s.2.length=l.length∧Unl OrdD.key s.2∧s.2.Perm l∧Zlh OrdD.key s.2 (2*bs) s.1∧ZjR OrdD.key s.2 bs s.1) (fun s=>l.length - s.1) ((0),(l3)) O ⟨rfl,rfl,rfl,rfl,rfl,rfl,tv⟩ ⟨rfl,rfl,tv⟩ ⟨Yo _,⟨0,(Nat.zero_mul _).symm⟩,hn3,hu3,hp3,hc4,hB3⟩ ?_
  clear O;intro s a w F hC O
  obtain ⟨q,l4⟩:=s
  have hC:=X3
  obtain ⟨F,O⟩:=O.nM QX QL
  have O:=X2
  obtain ⟨hql,⟨t,ht⟩,hn4,hu4,hp4,hB4,hC4⟩:=hC
  have hqw:IntKind.wrap .i64 ((q:Int)+(bs:Int))=((q+bs:Nat):Int):=K8
  refine Ya (Ya (rZ O (qR rr (qR rr (qf (Zh1 .t .t) r2 qz qZ))) V [35,8,7,6,2,1,0] QL fun O=>?_))
  refine Zb O Z (fun hc2=>?_) (fun hc2=>?_)
  ·skip
   have hlt2:q+2*bs≤l.length:=KM
   obtain ⟨l5,l5e⟩:∃ z,z=Zv OrdD.key l4 q (q+2*bs):=⟨_,rfl⟩
   obtain ⟨hra,hrb⟩:=Zmq ow ht hC4 (show q+2*bs≤l4.length by omega)
   refine Yd (Za (Ye (Ya (Zg O (qR rr (qR rr (qR rr (qR rr (qf (o_add .t .t) r2 qz (qR rr (qR rr (qf (ZY 1 (Zu2 v f fn cps hf hbd hnn hw 4000000 l4 q (q+bs) (q+2*bs) ow ow ow ow ow hu4 hra hrb) func275 Z kr (Args.five .t .t (.conv .t (.int hqw)) .t .t)) r5 r1 qZ)))))))) V QX QL Z Z fun a w F O=>?_))))
   rw [← l5e] at O
   refine Za (Ya (rZ O (qR rr (qO rr qZ)) V QX QL fun O=>?_))
   refine Zg O (qR rr (qR rr (qf (Zgh qi .t) r1 qz (qf (o_add .t .t) r2 qz (qO rr qZ))))) V QX QL Z Z fun a w F O=>Zf (Za ?_)
   have ht2:q+2*bs=(t+1)*(2*bs):=Qg
   have hB5:Zlh OrdD.key l5 (2*bs) (q+2*bs):=by rw [l5e,ht];exact Zfd ow Ki ow hu4
   replace O:=O.ent (i:=8) (s':=.pv (.int .i64 ((q+2*bs+2*bs:Nat):Int))) Z (.int (by rw [hwb,Zj ow];omega))
   obtain ⟨F,O⟩:=O.nM Xag Jn
   exact ⟨((q+2*bs),(l5)),F,⟨ow,⟨t+1,ht2⟩,by rw [l5e,Z8 ow];exact hn4,by rw [l5e];exact Zau ow hu4,by rw [l5e];exact (ZaA ow).trans hp4,hB5,by rw [l5e];exact Zix ow ow hC4⟩,O,ow⟩
  have hlt2:l.length<q+2*bs:=KM
  refine Ym (Ze (Ze (Zk (Za (Ya (Ya (Zg O (qR rr (qR rr (qf (o_add .t .t) r2 qz (qO rr qZ)))) V Xah QL Z Z fun a w F O=>?_)))))))
  replace O:=O.ent (i:=9) (s':=.pv (.int .i64 ((q+bs:Nat):Int))) Z (.int hqw)
  obtain ⟨F,O⟩:=O.nM Xah QL
  refine Za (Ya (rZ O (qR rr (qR rr (qL r2))) V [54,9,7,6,2,1,0] QL fun O=>?_))
  refine Zb O Z (fun hc3=>?_) (fun hc3=>?_)
  ·skip
   have hlt3:q+bs<l.length:=WV
   obtain ⟨l5,l5e⟩:∃ z,z=Zv OrdD.key l4 q l.length:=⟨_,rfl⟩
   obtain ⟨hra,hrb⟩:=Zkg ow ht hC4 (show q+bs<l4.length by omega) ow
   rw [hn4] at hrb
   have hn5:l5.length=l.length:=by rw [l5e,Z8 ow];exact hn4
   have hu5:Unl OrdD.key l5:=by rw [l5e];exact Zau ow hu4
   have hp5:l5.Perm l:=by rw [l5e];exact (ZaA ow).trans hp4
   have hB5:ZjR OrdD.key l5 (2*bs) 0:=by rw [l5e,ht,← hn4];exact Zgp ow Ki ow ow hu4
   refine Zg O (qR rr (qR rr (qR rr (qR rr (qR rr (qf (ZY 1 (Zu2 v f fn cps hf hbd hnn hw 4000000 l4 q (q+bs) l.length ow ow ow ow ow hu4 hra hrb) func275 Z kr (Args.five .t .t .t .t .t)) r5 r1 qZ)))))) V JG QL Z Z fun a w F O=>?_
   rw [← l5e] at O
   refine Za (Zg O (qR rr (qf (Zgh .t qi) r1 qz (qO rr qZ))) V JG QL Z Z fun a w F O=>Zf (Za ?_))
   replace O:=O.ent (i:=6) (s':=.pv (.int .i64 ((2*bs:Nat):Int))) Z (.int K8)
   obtain ⟨F,O⟩:=O.nM XaZ Jn
   exact ⟨((2*bs),(l5)),F,⟨ow,ow,hn5,hu5,hp5,hB5⟩,O,ow⟩
  have hlt3:l.length≤q+bs:=WV
  obtain ⟨l5,l5e⟩:∃ z,z=l4:=⟨_,rfl⟩
  rw [← l5e] at O
  have hn5:l5.length=l.length:=by rw [l5e];exact hn4
  have hu5:Unl OrdD.key l5:=by rw [l5e];exact hu4
  have hp5:l5.Perm l:=by rw [l5e];exact hp4
  have hB5:ZjR OrdD.key l5 (2*bs) 0:=Q1
  refine Yd (Za (Zg O (qR rr (qf (Zgh .t qi) r1 qz (qO rr qZ))) V JG QL Z Z fun a w F O=>Zf (Za ?_)))
  replace O:=O.ent (i:=6) (s':=.pv (.int .i64 ((2*bs:Nat):Int))) Z (.int K8)
  obtain ⟨F,O⟩:=O.nM XaZ Jn
  exact ⟨((2*bs),(l5)),F,⟨ow,ow,hn5,hu5,hp5,hB5⟩,O,ow⟩
 have hg:Zak OrdD.key l=l3:=(ZcJ hp3 (Zpq hB3 WH)).symm
 refine Ym (Ze (Ze (Zk ?_)))
 have O:=O.turn 1 Z (r':=RS.hp (ZM 39 2 Zp (Zak OrdD.key l) v)) (fun _ _ _ _ h=>by rw [hg];exact h)
 refine Zz hG O Z .nil .none rfl
theorem Zt4 (v : Value) (l : List OrdD)  (hll : l.length ≤ 1000000) (hu : Unl OrdD.key l) (f : FuncId) (fn : Func) (cps : List PV) (hf : prog.funcs[f]? = some fn) (hbd : fn.body.isSome = true) (hnn : (fn.name == "runtime.NumGoroutine") = false) (hw : ∀ x y : OrdD, FnP prog f (.agg (Zp x) :: .agg (Zp y) :: cps) (.int .i64 (Zdx (OrdD.key x) (OrdD.key y)))) : FnG prog 180 1 [.is v, .clos f cps] [ZM 39 2 Zp l v] (.tup []) (fun _ => [ZM 39 2 Zp (Zak OrdD.key l) v]) := by
 refine FnG.mk func180 Z ntmps180 Z kr fun B F0 a w F V hG O=>?_
 replace O:=O.turn 1 Z (r':=.ob (.val v) (ZM 39 2 Zp l)) (fun _ _ _ _ h=>h)
 refine Zg O (qR rr (qR rr (qf (Zam 1 YbS .is) r1 r1 (qR rr (qf (ZY 1 (ZuR v l hll hu f fn cps hf hbd hnn hw) func245 Z kr (Args.three .t .t .t)) r3 r1 qZ))))) V [] QL Z Z fun a w F O=>?_
 have hg:Zak OrdD.key l=Zak OrdD.key l:=rfl
 have O:=O.turn 1 Z (r':=RS.hp (ZM 39 2 Zp (Zak OrdD.key l) v)) (fun _ _ _ _ h=>by rw [hg];exact h)
 refine Zz hG O Z .nil .none rfl
theorem ZnN (x y:TxD):FnP prog 179 [.agg (rTx x),.agg (rTx y),.ref [.clos 77 []]] (.int .i64 (Zdx (TxD.id x) (TxD.id y))):=by
 refine FnP.mk func179 Z ntmps179 Z fun B a w F V hfr O=>Ya ?_
 refine rS O (qx 101 r1 (qx 102 r1 (qI qZ))) V J3 QI fun τ O=>?_
 have O:=X1
 generalize τ 3=v3,τ 4=v4 at O
 refine Za (Ya (Zr O (qf (oR false 1 .t) r1 qz (qe 3 101 r1 r1 (qf (o_callClosP (avs:=[.agg (rTx x)]) .t (ZjD x) func77 Z kr (Args.one (.pagg .t))) r2 qz (qf (oR false 1 .t) r1 qz (qe 3 102 r1 r1 (qf (o_callClosP (avs:=[.agg (rTx y)]) .t (ZjD y) func77 Z kr (Args.one (.pagg .t))) r2 qz (qf (oP (Zsw (TxD.id x) (TxD.id y)) func108 (Args.two .t .t)) r2 qz (qO rr qZ)))))))) V [5] QI Z Z fun a w F O=>?_))
 have O:=Xf
 refine Za (Yh (Zx hfr O Z Z Z (.int Z)))
theorem ZpS (l was now:List TxD) (hll:l.length≤1000) (hnl:now.length≤1000) (hu:Unl TxD.id ((l.filter fun x=>(ZH TxD.id was (TxD.id x)).isNone)++now)):FnP prog 113 [.sl rTx l,.sl rTx was,.sl rTx now,.clos 77 []] (.sl rTx (Zc8 TxD.id l was now)):=by
 refine FnP.mk func113 Z ntmps113 Z fun B a w F V hfr O=>Ya ?_
 refine rS O (qf (Zm9 101 .t Zmp) r1 qz (qC qZ)) V Gf QK fun τ O=>?_
 have O:=X1
 generalize τ 7=v7 at O
 obtain ⟨F,O⟩:=O.giveRef 101 7 Z Z rfl
 obtain ⟨F,O⟩:=O.nM Gf [0]
 have O:=XW
 refine Za (Ya (rZ O (qC qZ) V [9,8,7,2,1,0] [0] fun O=>(Ya (Ya ?_))))
 refine rZ O (qR rr (qu YbR r1 (qJ qZ))) V Jc [0] fun O=>Ye ?_
 replace O:=O.fresh 50 rfl
 replace O:=O.turn 50 Z (Zas (T:=36) (sz:=3) (R:=rTx))
 refine Zh (σ:=(Nat)×(Value)×(List TxD)) [1,2,7,8,14,15] [0] (fun s=>[(16,.pv (.int .i64 (s.1:Int))),(9,.pv (.is s.2.1))]) (fun s=>[(50,.ob (.val s.2.1) (ZM 36 3 rTx s.2.2))]) (fun s=>s.1≤l.length∧(s.2.2=((l.take s.1).filter fun x=>(ZH TxD.id was (TxD.id x)).isNone))) (fun s=>l.length - s.1) ((0),(.slice none 0 0),([])) O ⟨rfl,rfl,rfl,rfl,rfl,rfl,rfl,rfl,tv⟩ ⟨rfl,rfl,tv⟩ ⟨Yo _,rfl⟩ ?_
 clear O;intro s a w F hC O
 obtain ⟨i,v,out⟩:=s
 have hC:=X3
 obtain ⟨F,O⟩:=O.nM Jc QU
 have O:=X2
 obtain ⟨hi,hq⟩:=hC
 have hol:out.length≤i:=KV
 refine Ya (rZ O (qL r2) V XaF QU fun O=>Ya ?_)
 refine Zb O Z (fun hc0=>?_) (fun hc0=>?_)
 ·have hil:i<l.length:=WI
  refine Yd (Za (Ya (Ye (Ya (rS O (qy 3 YbR r2 (qf (oR true 3 .t) r1 qz (qf (oH [.int .i64 0,.bool false,.slice none 0 0] 102) trivial qz (qS 3 102 r2 r1 qZ)))) V XaG [102,50,0] fun τ O=>?_)))))
  have O:=X0
  generalize τ 11=v11 at O
  try simp only [Yf] at O
  refine Za (Ya (rT O (qR rr (qf (oR false 1 .t) r1 qz (qe 3 102 r1 r1 (qf (o_callClosP (avs:=[.agg (rTx (Nn l i))]) .t (ZjD (Nn l i)) func77 Z kr (Args.one (.pagg .t))) r2 qz (qf (oR false 1 .t) r1 qz (qf (oP (Zjv was (TxD.id (Nn l i))) func141 (Args.three .t .t .t)) r3 qz (qR rr (qf (o_extract .t Z) r1 qz (qf (o_extract .t Z) r1 qz (qf (oH [.int .i64 0,.bool false,.slice none 0 0] 103) trivial qz (qf (oA 3 103 .same (.conv .t .agg)) r2 r1 (qO rr qZ)))))))))))) V Xai Jy fun τ O=>?_))
  have O:=X0
  generalize τ 12=v12 at O
  refine Za (Ya (rZ O (qR rr (qf (ZW .t) r1 qz qZ)) V Xaj Jy fun O=>?_))
  refine Zb O Z (fun hc1=>?_) (fun hc1=>?_)
  ·have h9:(ZH TxD.id was (TxD.id (Nn l i))).isNone=true:=by have h8:(!(ZH TxD.id was (TxD.id (Nn l i))).isSome)=true:=hc1;cases e:(ZH TxD.id was (TxD.id (Nn l i))) with | none=>rfl | some z=>rw [e] at h8;cases h8
   have hst9:out ++ [(Nn l i)] = ((l.take (i+1)).filter fun x=>(ZH TxD.id was (TxD.id x)).isNone):=by rw [hq,Z6 hil,Yg h9]
   refine rS O (qR rr (qe 3 102 r1 r1 (qf (o_buildSliceE (sz:=3) (zs:=[.int .i64 0,.bool false,.slice none 0 0]) (r:=[(0,.tmp 32)]) (l:=[_,_,_]) YbR kr kr kr kr Z Z (.agg Z .t kr kr .nil) Z) r1 qz (qf (o_append (sz:=3) (bs:=40) 50 (.mk' YbR kr kr) Wt .is (.arr (l':=[(Nn l i)]) .t) Wx We) ⟨rfl,rfl,tv⟩ ⟨rfl,tv⟩ (qO rr qZ))))) V Jc Jy fun τ O=>?_
   have O:=X0
   generalize τ 34=v34 at O
   refine Zf (Za (rZ O (qp r1 (qR rr qZ)) V Jc Jy fun O=>?_))
   replace O:=O.eI 16 i
   obtain ⟨F,O⟩:=O.nM GI JI
   exact ⟨((i+1),_,_),F,⟨ow,hst9⟩,O,ow⟩
  have h9:(ZH TxD.id was (TxD.id (Nn l i))).isNone=false:=by have h8:(!(ZH TxD.id was (TxD.id (Nn l i))).isSome)=false:=hc1;cases e:(ZH TxD.id was (TxD.id (Nn l i))) with | none=>rw [e] at h8;cases h8 | some z=>rfl
  have hst9:out=((l.take (i+1)).filter fun x=>(ZH TxD.id was (TxD.id x)).isNone):=by rw [hq,Z6 hil,Yb K1,YF]
  refine Yd (Zf (Za (rZ O (qp r1 (qR rr qZ)) V Jc Jy fun O=>?_)))
  replace O:=O.eI 16 i
  obtain ⟨F,O⟩:=O.nM GI JI
  exact ⟨((i+1),_,_),F,⟨ow,hst9⟩,O,ow⟩
 have hil:i=l.length:=WI
 have hq0:out=(l.filter fun x=>(ZH TxD.id was (TxD.id x)).isNone):=Q8
 have hg:Zak TxD.id (out++now)=Zc8 TxD.id l was now:=by rw [hq0];rfl
 refine Ym (Ze (Ze (Zk (Za (Ya (rS O (qR rr (qR rr (qf (o_append (sz:=3) (bs:=40) 50 (.mk' YbR kr kr) Wt .is (.sl .t) ow We) ⟨rfl,rfl,tv⟩ ⟨rfl,tv⟩ (qO rr qZ)))) V [9,8,7] QU fun τ O=>?_))))))
 have O:=XS
 generalize τ 38=v38 at O
 refine Za (Ya (rZ O (qR rr (qf (ZcX (Args.one .t)) r1 qz (qf (ZY 50 (ZtL v38 (out++now) WT (by rw [hq0];exact hu) 179 f179 [.ref [.clos 77 []]] func179 Z kr (fun x y=>ZnN x y)) func178 Z kr (Args.two .t .t)) r2 r1 qZ))) V [9,8] QU fun O=>Ya ?_))
 refine rZ O (qR rr (qO rr qZ)) V [8] QU fun O=>Yh ?_
 obtain ⟨F,O⟩:=O.give 50 8 Z rfl
 refine Zx hfr O Z Z Z (.sl Wr)
theorem Zol (x y:OrdD):FnP prog 181 [.agg (Zp x),.agg (Zp y),.ref [.clos 79 []]] (.int .i64 (Zdx (OrdD.key x) (OrdD.key y))):=by
 refine FnP.mk func181 Z ntmps181 Z fun B a w F V hfr O=>Ya ?_
 refine rS O (qx 101 r1 (qx 102 r1 (qI qZ))) V J3 QI fun τ O=>?_
 have O:=X1
 generalize τ 3=v3,τ 4=v4 at O
 refine Za (Ya (Zr O (qf (oR false 1 .t) r1 qz (qe 2 101 r1 r1 (qf (o_callClosP (avs:=[.agg (Zp x)]) .t (Zjn x) func79 Z kr (Args.one (.pagg .t))) r2 qz (qf (oR false 1 .t) r1 qz (qe 2 102 r1 r1 (qf (o_callClosP (avs:=[.agg (Zp y)]) .t (Zjn y) func79 Z kr (Args.one (.pagg .t))) r2 qz (qf (oP (Zsw (OrdD.key x) (OrdD.key y)) func108 (Args.two .t .t)) r2 qz (qO rr qZ)))))))) V [5] QI Z Z fun a w F O=>?_))
 have O:=Xf
 refine Za (Yh (Zx hfr O Z Z Z (.int Z)))
theorem ZpI (l was now:List OrdD) (hll:l.length≤1000) (hnl:now.length≤1000) (hu:Unl OrdD.key ((l.filter fun x=>(ZH OrdD.key was (OrdD.key x)).isNone)++now)):FnP prog 114 [.sl Zp l,.sl Zp was,.sl Zp now,.clos 79 []] (.sl Zp (Zc8 OrdD.key l was now)):=by
 refine FnP.mk func114 Z ntmps114 Z fun B a w F V hfr O=>Ya ?_
 refine rS O (qf (Zm9 101 .t Zmp) r1 qz (qC qZ)) V Gf QK fun τ O=>?_
 have O:=X1
 generalize τ 7=v7 at O
 obtain ⟨F,O⟩:=O.giveRef 101 7 Z Z rfl
 obtain ⟨F,O⟩:=O.nM Gf [0]
 have O:=XW
 refine Za (Ya (rZ O (qC qZ) V [9,8,7,2,1,0] [0] fun O=>(Ya (Ya ?_))))
 refine rZ O (qR rr (qu YbS r1 (qJ qZ))) V Jc [0] fun O=>Ye ?_
 replace O:=O.fresh 50 rfl
 replace O:=O.turn 50 Z (Zas (T:=39) (sz:=2) (R:=Zp))
 refine Zh (σ:=(Nat)×(Value)×(List OrdD)) [1,2,7,8,14,15] [0] (fun s=>[(16,.pv (.int .i64 (s.1:Int))),(9,.pv (.is s.2.1))]) (fun s=>[(50,.ob (.val s.2.1) (ZM 39 2 Zp s.2.2))]) (fun s=>s.1≤l.length∧(s.2.2=((l.take s.1).filter fun x=>(ZH OrdD.key was (OrdD.key x)).isNone))) (fun s=>l.length - s.1) ((0),(.slice none 0 0),([])) O ⟨rfl,rfl,rfl,rfl,rfl,rfl,rfl,rfl,tv⟩ ⟨rfl,rfl,tv⟩ ⟨Yo _,rfl⟩ ?_
 clear O;intro s a w F hC O
 obtain ⟨i,v,out⟩:=s
 have hC:=X3
 obtain ⟨F,O⟩:=O.nM Jc QU
 have O:=X2
 obtain ⟨hi,hq⟩:=hC
 have hol:out.length≤i:=KV
 refine Ya (rZ O (qL r2) V XaF QU fun O=>Ya ?_)
 refine Zb O Z (fun hc0=>?_) (fun hc0=>?_)
 ·have hil:i<l.length:=WI
  refine Yd (Za (Ya (Ye (Ya (rS O (qy 2 YbS r2 (qf (oR true 2 .t) r1 qz (qf (oH [.int .i64 0,.slice none 0 0] 102) trivial qz (qS 2 102 r2 r1 qZ)))) V XaG [102,50,0] fun τ O=>?_)))))
  have O:=X0
  generalize τ 11=v11 at O
  try simp only [Yf] at O
  refine Za (Ya (rT O (qR rr (qf (oR false 1 .t) r1 qz (qe 2 102 r1 r1 (qf (o_callClosP (avs:=[.agg (Zp (Nn l i))]) .t (Zjn (Nn l i)) func79 Z kr (Args.one (.pagg .t))) r2 qz (qf (oR false 1 .t) r1 qz (qf (oP (Zjq was (OrdD.key (Nn l i))) func142 (Args.three .t .t .t)) r3 qz (qR rr (qf (o_extract .t Z) r1 qz (qf (o_extract .t Z) r1 qz (qf (oH [.int .i64 0,.slice none 0 0] 103) trivial qz (qf (oA 2 103 .same (.conv .t .agg)) r2 r1 (qO rr qZ)))))))))))) V Xai Jy fun τ O=>?_))
  have O:=X0
  generalize τ 12=v12 at O
  refine Za (Ya (rZ O (qR rr (qf (ZW .t) r1 qz qZ)) V Xaj Jy fun O=>?_))
  refine Zb O Z (fun hc1=>?_) (fun hc1=>?_)
  ·have h9:(ZH OrdD.key was (OrdD.key (Nn l i))).isNone=true:=by have h8:(!(ZH OrdD.key was (OrdD.key (Nn l i))).isSome)=true:=hc1;cases e:(ZH OrdD.key was (OrdD.key (Nn l i))) with | none=>rfl | some z=>rw [e] at h8;cases h8
   have hst9:out ++ [(Nn l i)] = ((l.take (i+1)).filter fun x=>(ZH OrdD.key was (OrdD.key x)).isNone):=by rw [hq,Z6 hil,Yg h9]
   refine rS O (qR rr (qe 2 102 r1 r1 (qf (o_buildSliceE (sz:=2) (zs:=[.int .i64 0,.slice none 0 0]) (r:=[(0,.tmp 32)]) (l:=[_,_]) YbS kr kr kr kr Z Z (.agg Z .t kr kr .nil) Z) r1 qz (qf (o_append (sz:=2) (bs:=32) 50 (.mk' YbS kr kr) Wt .is (.arr (l':=[(Nn l i)]) .t) Wx We) ⟨rfl,rfl,tv⟩ ⟨rfl,tv⟩ (qO rr qZ))))) V Jc Jy fun τ O=>?_
   have O:=X0
   generalize τ 34=v34 at O
   refine Zf (Za (rZ O (qp r1 (qR rr qZ)) V Jc Jy fun O=>?_))
   replace O:=O.eI 16 i
   obtain ⟨F,O⟩:=O.nM GI JI
   exact ⟨((i+1),_,_),F,⟨ow,hst9⟩,O,ow⟩
  have h9:(ZH OrdD.key was (OrdD.key (Nn l i))).isNone=false:=by have h8:(!(ZH OrdD.key was (OrdD.key (Nn l i))).isSome)=false:=hc1;cases e:(ZH OrdD.key was (OrdD.key (Nn l i))) with | none=>rw [e] at h8;cases h8 | some z=>rfl
  have hst9:out=((l.take (i+1)).filter fun x=>(ZH OrdD.key was (OrdD.key x)).isNone):=by rw [hq,Z6 hil,Yb K1,YF]
  refine Yd (Zf (Za (rZ O (qp r1 (qR rr qZ)) V Jc Jy fun O=>?_)))
  replace O:=O.eI 16 i
  obtain ⟨F,O⟩:=O.nM GI JI
  exact ⟨((i+1),_,_),F,⟨ow,hst9⟩,O,ow⟩
 have hil:i=l.length:=WI
 have hq0:out=(l.filter fun x=>(ZH OrdD.key was (OrdD.key x)).isNone):=Q8
 have hg:Zak OrdD.key (out++now)=Zc8 OrdD.key l was now:=by rw [hq0];rfl
 refine Ym (Ze (Ze (Zk (Za (Ya (rS O (qR rr (qR rr (qf (o_append (sz:=2) (bs:=32) 50 (.mk' YbS kr kr) Wt .is (.sl .t) ow We) ⟨rfl,rfl,tv⟩ ⟨rfl,tv⟩ (qO rr qZ)))) V [9,8,7] QU fun τ O=>?_))))))
 have O:=XS
 generalize τ 38=v38 at O
 refine Za (Ya (rZ O (qR rr (qf (ZcX (Args.one .t)) r1 qz (qf (ZY 50 (Zt4 v38 (out++now) WT (by rw [hq0];exact hu) 181 f181 [.ref [.clos 79 []]] func181 Z kr (fun x y=>Zol x y)) func180 Z kr (Args.two .t .t)) r2 r1 qZ))) V [9,8] QU fun O=>Ya ?_))
 refine rZ O (qR rr (qO rr qZ)) V [8] QU fun O=>Yh ?_
 obtain ⟨F,O⟩:=O.give 50 8 Z rfl
 refine Zx hfr O Z Z Z (.sl Wr)
theorem Zse (t:TxD) (hl:t.ops.length≤1000000):FnP prog 157 [.agg (rTx t)] (.agg (rTx t)):=by
 refine FnP.mk func157 Z ntmps157 Z fun B a w F V hfr O=>Ya ?_
 refine rS O (qx 101 r1 (qf (oH [.int .i64 0,.bool false,.slice none 0 0] 102) trivial qz qZ)) V J5 QI fun τ O=>?_
 have O:=X1
 generalize τ 1=v1,τ 2=v2 at O
 refine Za (Ya ?_)
 replace O:=O.fresh 103 rfl
 refine rS O (qg 2 101 r1 r1 (qa 101 r1 r1 (qf (Zdq 103 (ZmH t.ops hl) func86 Z kr (Args.one .t) Zf1) r1 r1 (qg 2 101 r1 r1 (qf (Zbo 101 .adr kr kr) r2 r1 qZ))))) V J5 QJ fun τ O=>?_
 have O:=X0
 generalize τ 5=v5 at O
 obtain ⟨F,O⟩:=O.giveCell 103 101 2 Z Z Z Z rfl
 have O:=XX
 obtain ⟨F,O⟩:=O.nM J5 QI
 refine Za (Ya (rZ O (qe 3 101 r1 r1 (qs 3 102 r2 r1 qZ)) V [2] QI fun O=>Yh ?_))
 refine ZU hfr O Z (.cl 102 true 3 Z Z .nil) (.one (.aggU Z Z))
theorem ZtN (g:Zw) (id:Int) (hs:Za3 g.txs):FnP prog 258 [.agg (Zi g),.int .i64 id] (.tup [.agg (rTx ((ZaV g.txs id).getD zeroT)),.bool (ZaV g.txs id).isSome]):=by
 refine FnP.mk func258 Z ntmps258 Z fun B a w F V hfr O=>?_
 have hsl:=hs.1
 refine Ya (rS O (qx 101 r1 (qf (oH [.int .i64 0,.bool false,.slice none 0 0] 102) trivial qz qB)) V Js QI fun τ O=>?_)
 have O:=X1
 generalize τ 2=v2,τ 4=v4 at O
 refine Za (Ya (Ya (rZ O (qg 0 101 r1 r1 (qa 101 r1 r1 (qu YbR r1 (qJ qZ)))) V QS QI fun O=>Ye ?_)))
 refine Zh (σ:=(Nat)) [1,4,5,9,10] [0,101,102] (fun s=>[(11,.pv (.int .i64 (s:Int)))]) (fun s=>[]) (fun s=>s≤g.txs.length∧(∀ k,k<s→(Nn g.txs k).id≠id)) (fun s=>g.txs.length - s) (0) O ⟨rfl,rfl,rfl,rfl,rfl,rfl,tv⟩ ⟨rfl,rfl,rfl,tv⟩ ⟨Yo _,fun k hk=>absurd hk (YI k)⟩ ?_
 clear O;intro i a w F hC O
 have hC:=X3
 obtain ⟨F,O⟩:=O.nM QS QI
 have O:=X2
 obtain ⟨hi,hq⟩:=hC
 refine Ya (rZ O (qL r2) V G2 QI fun O=>Ya ?_)
 refine Zb O Z (fun hc0=>?_) (fun hc0=>?_)
 ·have hil:i<g.txs.length:=WI
  refine Yd (Za (Ya (Ye (Ya (rS O (qy 3 YbR r2 (qf (oR true 3 .t) r1 qz (qf (oH [.int .i64 0,.bool false,.slice none 0 0] 103) trivial qz (qS 3 103 r2 r1 qZ)))) V G9 QJ fun τ O=>?_)))))
  have O:=X0
  generalize τ 7=v7 at O
  try simp only [Yf] at O
  refine Za (Ya (rZ O (qg 0 103 r1 r1 (qa 103 r1 r1 (qR rr (qf (o_eql .t .t) r2 qz qZ)))) V [18,11,10,9,7,5,4,1] QJ fun O=>?_))
  refine Zb O Z (fun hc1=>?_) (fun hc1=>?_)
  ·have hg:ZaV g.txs id=some (Nn g.txs i):=Zm6 hil WE hq
   refine Ya (rZ O (qe 3 103 r1 r1 (qf (oP (Zse (Nn g.txs i) (by have:=hs.at hil;omega)) func157 (Args.one (.pagg .t))) r1 qz (qf (oA 3 102 .is (.conv .t .agg)) r2 r1 qB))) V QS QJ fun O=>(Yh (Zl (Zd (Zd (Zl (Zd ?_)))))))
   refine ZU hfr O Z (.cl 102 true 3 Z Z (.tmp Z .nil)) (.two WY (.bool Wp))
  have hne:(Nn g.txs i).id≠id:=WE
  refine Yd (Zf (Za (rZ O (qp r1 (qR rr qZ)) V QS QJ fun O=>?_)))
  replace O:=O.eI 11 i
  obtain ⟨F,O⟩:=O.nM [10,9,5,4,1,11] QI
  exact ⟨(i+1),F,⟨ow,(fun k hk=>by rcases Yw (YC hk) with h9 | h9;exact hq k h9;rw [h9];exact hne)⟩,O,ow⟩
 have hil:i=g.txs.length:=WI
 have hg:ZaV g.txs id=none:=Zh4 WZ
 refine Ym (Ze (Ze (Zk (Za (Ya (rZ O (qf (oB [] [.int .i64 0,.bool false,.slice none 0 0] [(0,1),(1,1),(2,1)] .nil) trivial qz (qs 3 102 r2 r1 qB)) V Jf QI fun O=>Yh ?_))))))
 refine ZU hfr O Z (.cl 102 true 3 Z Z (.tmp Z .nil)) (.two WY (.bool Wp))
theorem Zc0 (g:Zw) (id:Int) (hs:Za3 g.txs):FnP prog 12 [.agg (Zi g),.int .i64 id] (.tup [.agg (rTx ((ZaV g.txs id).getD zeroT)),.bool (ZaV g.txs id).isSome]):=by
 refine FnP.mk func12 Z ntmps12 Z fun B a w F V hfr O=>?_
 have hsl:=hs.1
 refine Ya (rS O (qx 101 r1 (qf (oH [.int .i64 0,.bool false,.slice none 0 0] 102) trivial qz qB)) V Js QI fun τ O=>?_)
 have O:=X1
 generalize τ 2=v2,τ 4=v4 at O
 refine Za (Ya (Ya (rZ O (qg 0 101 r1 r1 (qa 101 r1 r1 (qu YbR r1 (qJ qZ)))) V QS QI fun O=>Ye ?_)))
 refine Zh (σ:=(Nat)) [1,4,5,9,10] [0,101,102] (fun s=>[(11,.pv (.int .i64 (s:Int)))]) (fun s=>[]) (fun s=>s≤g.txs.length∧(∀ k,k<s→(Nn g.txs k).id≠id)) (fun s=>g.txs.length - s) (0) O ⟨rfl,rfl,rfl,rfl,rfl,rfl,tv⟩ ⟨rfl,rfl,rfl,tv⟩ ⟨Yo _,fun k hk=>absurd hk (YI k)⟩ ?_
 clear O;intro i a w F hC O
 have hC:=X3
 obtain ⟨F,O⟩:=O.nM QS QI
 have O:=X2
 obtain ⟨hi,hq⟩:=hC
 refine Ya (rZ O (qL r2) V G2 QI fun O=>Ya ?_)
 refine Zb O Z (fun hc0=>?_) (fun hc0=>?_)
 ·have hil:i<g.txs.length:=WI
  refine Yd (Za (Ya (Ye (Ya (rS O (qy 3 YbR r2 (qf (oR true 3 .t) r1 qz (qf (oH [.int .i64 0,.bool false,.slice none 0 0] 103) trivial qz (qS 3 103 r2 r1 qZ)))) V G9 QJ fun τ O=>?_)))))
  have O:=X0
  generalize τ 7=v7 at O
  try simp only [Yf] at O
  refine Za (Ya (rZ O (qg 0 103 r1 r1 (qa 103 r1 r1 (qR rr (qf (o_eql .t .t) r2 qz qZ)))) V [18,11,10,9,7,5,4,1] QJ fun O=>?_))
  refine Zb O Z (fun hc1=>?_) (fun hc1=>?_)
  ·have hg:ZaV g.txs id=some (Nn g.txs i):=Zm6 hil WE hq
   refine Ya (rZ O (qe 3 103 r1 r1 (qs 3 102 r2 r1 qB)) V QS QJ fun O=>(Yh (Zl (Zd (Zd (Zl (Zd ?_)))))))
   refine ZU hfr O Z (.cl 102 true 3 Z Z (.tmp Z .nil)) (.two WY (.bool Wp))
  have hne:(Nn g.txs i).id≠id:=WE
  refine Yd (Zf (Za (rZ O (qp r1 (qR rr qZ)) V QS QJ fun O=>?_)))
  replace O:=O.eI 11 i
  obtain ⟨F,O⟩:=O.nM [10,9,5,4,1,11] QI
  exact ⟨(i+1),F,⟨ow,(fun k hk=>by rcases Yw (YC hk) with h9 | h9;exact hq k h9;rw [h9];exact hne)⟩,O,ow⟩
 have hil:i=g.txs.length:=WI
 have hg:ZaV g.txs id=none:=Zh4 WZ
 refine Ym (Ze (Ze (Zk (Za (Ya (rZ O (qf (oB [] [.int .i64 0,.bool false,.slice none 0 0] [(0,1),(1,1),(2,1)] .nil) trivial qz (qs 3 102 r2 r1 qB)) V Jf QI fun O=>Yh ?_))))))
 refine ZU hfr O Z (.cl 102 true 3 Z Z (.tmp Z .nil)) (.two WY (.bool Wp))
theorem ZuP (g:Zw) (v:ZcM) (hs:Za3 g.txs):FnP prog 211 [.agg (Zi g),.agg (ZR v)] (.bool (Zgx g v)):=by
 refine FnP.mk func211 Z ntmps211 Z fun B a w F V hfr O=>Ya ?_
 refine rS O (qx 101 r1 (qx 102 r1 qB)) V Jj QI fun τ O=>?_
 have O:=X1
 generalize τ 2=v2,τ 3=v3 at O
 refine Za (Ya (Ya (rZ O (qg 0 102 r1 r1 (qa 102 r1 r1 (qf (o_eql .t qi) r1 qz (qR rr (qv 2 102 Z r2 r1 (qw 102 Z r2 r1 (qk Z (fun h=>o_eql (.w h) qi) r2 qz (qf (ZF .t .t) r2 qz qZ)))))))) V [14,4,3,2] QI fun O=>?_)))
 refine Zb O Z (fun hc0=>?_) (fun hc0=>?_)
 ·have h0:(v.tx=0∧v.nth=0):=Wz
  have hu:Zgx g v=decide (1≤v.key∧v.key≤1048575):=by unfold Zgx;rw [Yg h0]
  refine Ya (rZ O (qg 1 102 r1 r1 (qa 102 r1 r1 (qf (Zcb .t qi) r1 qz (qR rr (qv 1 102 Z r2 r1 (qw 102 Z r2 r1 (qk Z (fun h=>Zh1 (.w h) qi) r2 qz (qf (ZF .t .t) r2 qz (qO rr qZ))))))))) V Jj QI fun O=>(Yh (Zd ?_)))
  refine Zx hfr O Z Z Z (.bool Kj)
 have h0:¬ (v.tx=0∧v.nth=0):=Wz
 have hfl:((ZaV g.txs v.tx).getD zeroT).ops.length≤1000:=Q0
 refine Yd (Za (Ya (rS O (qe 2 101 r1 r1 (qg 0 102 r1 r1 (qa 102 r1 r1 (qf (oP (ZtN g v.tx hs) func258 (Args.two (.pagg .t) .t)) r2 qz (qR rr (qf (o_extract .t Z) r1 qz (qf (o_extract .t Z) r1 qz (qf (oH [.int .i64 0,.bool false,.slice none 0 0] 103) trivial qz (qf (oA 3 103 .same (.conv .t .agg)) r2 r1 (qO rr qZ)))))))))) V [6,5,4,3] QJ fun τ O=>?_)))
 have O:=X0
 generalize τ 5=v5 at O
 refine Za (Ya (Zr O (qR rr (qR rr (qv 2 102 Z r2 r1 (qw 102 Z r2 r1 (qk Z (fun h=>Zcb (.w h) qi) r2 qz (qf (ZF .t .t) r2 qz (qR rr (qk Z (fun h=>oL true 3 103 .is) r2 r1 (qv 1 102 Z r2 r1 (qw 102 Z r2 r1 (qk Z (fun h=>oP (ZoI ((ZaV g.txs v.tx).getD zeroT) v.key ow) func87 (Args.two (.pagg (.w h)) (.w h))) r3 qz (qv 2 102 Z r2 r1 (qw 102 Z r2 r1 (qk Z (fun h=>Zcb (.w h) (.w h)) r3 qz (qf (ZF .t .t) r2 qz (qO rr qZ)))))))))))))))) V [4] QJ Z Z fun a w F O=>?_))
 have O:=Xf
 refine Za (Yh (Zx hfr O Z Z Z (.bool Kj)))
theorem Zsc (g:Zw) (v:ZcM) (hs:Za3 g.txs):FnP prog 199 [.agg (Zi g),.agg (ZR v)] (.bool (Zgx g v)):=by
 refine FnP.mk func199 Z ntmps199 Z fun B a w F V hfr O=>Ya ?_
 refine rS O (qx 101 r1 (qx 102 r1 qB)) V Jj QI fun τ O=>?_
 have O:=X1
 generalize τ 2=v2,τ 3=v3 at O
 refine Za (Ya (Ya (rZ O (qg 0 102 r1 r1 (qa 102 r1 r1 (qf (o_eql .t qi) r1 qz (qR rr (qv 2 102 Z r2 r1 (qw 102 Z r2 r1 (qk Z (fun h=>o_eql (.w h) qi) r2 qz (qf (ZF .t .t) r2 qz qZ)))))))) V [14,4,3,2] QI fun O=>?_)))
 refine Zb O Z (fun hc0=>?_) (fun hc0=>?_)
 ·have h0:(v.tx=0∧v.nth=0):=Wz
  have hu:Zgx g v=decide (1≤v.key∧v.key≤1048575):=by unfold Zgx;rw [Yg h0]
  refine Ya (rZ O (qg 1 102 r1 r1 (qa 102 r1 r1 (qf (oP (ZfQ v.key) func195 (Args.one .t)) r1 qz (qO rr qZ)))) V Jj QI fun O=>(Yh (Zd ?_)))
  refine Zx hfr O Z Z Z (.bool Kj)
 have h0:¬ (v.tx=0∧v.nth=0):=Wz
 have hfl:((ZaV g.txs v.tx).getD zeroT).ops.length≤1000:=Q0
 refine Yd (Za (Ya (rS O (qe 2 101 r1 r1 (qg 0 102 r1 r1 (qa 102 r1 r1 (qf (oP (Zc0 g v.tx hs) func12 (Args.two (.pagg .t) .t)) r2 qz (qR rr (qf (o_extract .t Z) r1 qz (qf (o_extract .t Z) r1 qz (qf (oH [.int .i64 0,.bool false,.slice none 0 0] 103) trivial qz (qf (oA 3 103 .same (.conv .t .agg)) r2 r1 (qO rr qZ)))))))))) V [6,5,4,3] QJ fun τ O=>?_)))
 have O:=X0
 generalize τ 5=v5 at O
 refine Za (Ya (Zr O (qR rr (qR rr (qv 2 102 Z r2 r1 (qw 102 Z r2 r1 (qk Z (fun h=>Zcb (.w h) qi) r2 qz (qf (ZF .t .t) r2 qz (qR rr (qv 2 103 Z r2 r1 (qw 103 Z r2 r1 (qv 1 102 Z r2 r1 (qw 102 Z r2 r1 (qk Z (fun h=>oP (ZdO ((ZaV g.txs v.tx).getD zeroT).ops v.key ow) func197 (Args.two (.w h) (.w h))) r3 qz (qv 2 102 Z r2 r1 (qw 102 Z r2 r1 (qk Z (fun h=>Zcb (.w h) (.w h)) r3 qz (qf (ZF .t .t) r2 qz (qO rr qZ))))))))))))))))) V [4] QJ Z Z fun a w F O=>?_))
 have O:=Xf
 refine Za (Yh (Zx hfr O Z Z Z (.bool Kj)))
theorem ZpQ {α:Type} [Inhabited α] {p:α→Bool} {l:List α} : decide (0≤Zce p l)=l.any p:=by
 rcases ZkP p l with ⟨h1,h2⟩ | ⟨i,h1,h2,h3,h4⟩
 ·rw [h1,Y8,show decide ((0:Int) ≤ -1)=false by decide,Ya3]
  intro x hx
  obtain ⟨k,hk,e⟩:=YL hx
  have:=h2 k hk
  rw [Zu hk,e] at this
  simp [this]
 ·rw [h1,show decide ((0:Int)≤(i:Int))=true by simp,Y8,Ybc]
  exact ⟨_,ZP h2,h3⟩
theorem Zs0 {α:Type} {p:α→Bool} {l:List α} : (!l.any fun v=>!p v)=l.all p:=by
 induction l with
 | nil=>rfl
 | cons x l ih=>rw [List.any_cons,List.all_cons,← ih];cases p x <;> simp
theorem Zs2 (l : List ZcM) (p : ZcM → Bool) (f : FuncId) (fn : Func) (cps : List PV) (hf : prog.funcs[f]? = some fn) (hb : fn.body.isSome = true) (hnn : (fn.name == "runtime.NumGoroutine") = false) (hw : ∀ x, FnP prog f (.agg (ZR x) :: cps) (.bool (p x))) : FnP prog 257 [.sl ZR l, .clos f cps] (.int .i64 (Zce p l)) := by
 refine FnP.mk func257 Z ntmps257 Z fun B a w F V hfr O=>?_
 have hll:=Sat.lenSl O (i:=0) rfl
 refine Ya (rZ O (qI qZ) V J0 [0] fun O=>(Ya (Ya ?_)))
 refine rZ O (qR rr (qu Yb0 r1 (qJ qZ))) V XaQ [0] fun O=>Ye ?_
 refine Zh (σ:=(Nat)) [0,1,4,7] [0] (fun s=>[(8,.pv (.int .i64 (s:Int)))]) (fun s=>[]) (fun s=>s≤l.length∧(∀ k,k<s→p (Nn l k)=false)) (fun s=>l.length - s) (0) O ⟨rfl,rfl,rfl,rfl,rfl,tv⟩ ⟨rfl,tv⟩ ⟨Yo _,fun k hk=>absurd hk (YI k)⟩ ?_
 clear O;intro i a w F hC O
 have hC:=X3
 obtain ⟨F,O⟩:=O.nM XaQ [0]
 have O:=X2
 obtain ⟨hi,hq⟩:=hC
 refine Ya (rZ O (qL r2) V [9,8,7,4,1,0] [0] fun O=>Ya ?_)
 refine Zb O Z (fun hc0=>?_) (fun hc0=>?_)
 ·skip
  have hil:i<l.length:=WI
  refine Yd (Za (Ya (Ye (Ya (rZ O (qR rr (qO rr qZ)) V [8,7,5,4,1,0] [0] fun O=>Ya ?_)))))
  refine Zg O (qR rr (qR rr (qR rr (qy 3 Yb0 r2 (qf (oR true 3 .t) r1 qz (qf (o_callClosP (avs:=[.agg (ZR (Nn l i))]) .t (hw (Nn l i)) hf hb hnn (Args.one (.pagg .t))) r2 qz qZ)))))) V [16,8,7,5,4,1,0] [0] Z Z fun a w F O=>?_
  try simp only [Yf] at O
  refine Za (Zb O Z (fun hc1=>?_) (fun hc1=>?_))
  ·skip
   have hg:(i:Int)=Zce p l:=(Zok hil hc1 hq).symm
   refine Ya (rZ O (qR rr (qO rr qZ)) V XaQ [0] fun O=>(Yh (Zl (Zd (Zd (Zl (Zd ?_)))))))
   refine Zx hfr O Z Z Z (.int hg)
  have hne:p (Nn l i)=false:=hc1
  refine Yd (Zf (Za (rZ O (qp r1 (qR rr qZ)) V XaQ [0] fun O=>?_)))
  replace O:=O.eI 8 i
  obtain ⟨F,O⟩:=O.nM [7,4,1,0,8] [0]
  exact ⟨(i+1),F,⟨ow,(fun k hk=>by rcases Yw (YC hk) with h | h;exact hq k h;rw [h];exact hne)⟩,O,ow⟩
 have hil:i=l.length:=WI
 have hg : -1=Zce p l:=(ZkN fun k hk=>hq k WI).symm
 refine Ym (Ze (Ze (Zk (Za (Ya (rZ O (qI qZ) V [4] [0] fun O=>Yh ?_))))))
 refine Zx hfr O Z Z Z (.int hg)
theorem ZtC (l : List ZcM) (p : ZcM → Bool) (f : FuncId) (fn : Func) (cps : List PV) (hf : prog.funcs[f]? = some fn) (hb : fn.body.isSome = true) (hnn : (fn.name == "runtime.NumGoroutine") = false) (hw : ∀ x, FnP prog f (.agg (ZR x) :: cps) (.bool (p x))) : FnP prog 209 [.sl ZR l, .clos f cps] (.bool (l.any p)) := by
 refine FnP.mk func209 Z ntmps209 Z fun B a w F V hfr O=>Ya ?_
 refine rZ O qB V J0 [0] fun O=>Ya ?_
 refine rZ O (qR rr (qR rr (qf (oP (Zs2 l p f fn cps hf hb hnn hw) func257 (Args.two .t .t)) r2 qz (qf (Zcb .t qi) r1 qz (qO rr qZ))))) V [4] [0] fun O=>Yh ?_
 refine Zx hfr O Z Z Z (.bool (by rw [ZpQ]))
theorem Zpb (v:ZcM) (g:Zw) (hs:Za3 g.txs):FnP prog 210 [.agg (ZR v),.ref (Zi g)] (.bool (!Zgx g v)):=by
 refine FnP.mk func210 Z ntmps210 Z fun B a w F V hfr O=>Ya ?_
 refine rS O (qx 101 r1 qB) V Gh QK fun τ O=>?_
 have O:=X1
 generalize τ 2=v2 at O
 refine Za (Ya (rZ O (qf (oR true 2 .t) r1 qz (qe 3 101 r1 r1 (qf (oP (ZuP g v hs) func211 (Args.two (.pagg .t) (.pagg .t))) r2 qz (qf (ZW .t) r1 qz (qO rr qZ))))) V [3] QK fun O=>Yh ?_))
 refine Zx hfr O Z Z Z .refl
theorem Zr6 (g:Zw) (t:TxD) (hs:Za3 g.txs) (ht:t.ops.length≤1000):FnP prog 139 [.agg (Zi g),.agg (rTx t)] (.bool (Zbb g t)):=by
 refine FnP.mk func139 Z ntmps139 Z fun B a w F V hfr O=>Ya ?_
 refine rS O (qx 101 r1 (qx 102 r1 qB)) V Jj QI fun τ O=>?_
 have O:=X1
 generalize τ 2=v2,τ 3=v3 at O
 refine Za (Ya (ZbB 2 O kr (cG Z (oL true 3 102 .is) r1 r1 (cG Z (oP (ZqJ t ow) func84 (Args.one (.pagg .t))) r1 trivial ZaD.nil)) kr Wq fun a w F O=>?_))
 obtain ⟨F,O⟩:=O.nM [6,4,2] QI
 have O:=Xf
 obtain ⟨F,O⟩:=O.giveRef 101 2 Z Z rfl
 obtain ⟨F,O⟩:=O.nM [6,4,2] XaS
 have O:=XW
 refine Zb6 O kr (cG Z (ZcX (Args.one .t)) r1 trivial (cG Z (oP (ZtC (ZaC t) (fun v=>!Zgx g v) 210 f210 [.ref (Zi g)] func210 Z kr (fun v=>Zpb v g hs)) func209 (Args.two .t .t)) r2 trivial (cG Z (ZW .t) r1 trivial (cG Z (oN .t) r1 trivial ZaD.nil)))) kr Wq fun a w F O=>?_
 obtain ⟨F,O⟩:=O.nM [4] XaS
 try dsimp only [Zi,rTx,Zp,ZR,Zo,rOp] at O
 refine Za (Yh (Zx hfr O Z Z Z (.bool (by rw [Zs0];rfl))))
theorem ZeD (g:Zw) (t:TxD) (hs:Za3 g.txs) (ht:t.ops.length≤1000):FnP prog 132 [.agg (Zi g),.agg (rTx t)] (.bool (Zbb g t)):=by
 refine FnP.mk func132 Z ntmps132 Z fun B a w F V hfr O=>?_
 have hnl:(ZaC t).length≤1000:=by have:=Zd1 t.id t.ops t.ops.length;rw [Yy] at this;unfold ZaC;omega
 refine Ya (rS O (qx 101 r1 (qx 102 r1 qB)) V Jj QI fun τ O=>?_)
 have O:=X1
 generalize τ 2=v2,τ 3=v3 at O
 refine Za (Ya (Ya (rZ O (qe 3 102 r1 r1 (qf (oP (Ziz t ow) func198 (Args.one (.pagg .t))) r1 qz (qu Yb0 r1 (qJ qZ)))) V DL QI fun O=>Ye ?_)))
 refine Zh (σ:=(Nat)) [2,4,8,9] [0,101,102] (fun s=>[(10,.pv (.int .i64 (s:Int)))]) (fun s=>[]) (fun s=>s≤(ZaC t).length∧(∀ k,k<s→Zgx g (Nn (ZaC t) k)=true)) (fun s=>(ZaC t).length - s) (0) O ⟨rfl,rfl,rfl,rfl,rfl,tv⟩ ⟨rfl,rfl,rfl,tv⟩ ⟨Yo _,fun k hk=>absurd hk (YI k)⟩ ?_
 clear O;intro i a w F hC O
 have hC:=X3
 obtain ⟨F,O⟩:=O.nM DL QI
 have O:=X2
 obtain ⟨hi,hq⟩:=hC
 refine Ya (rZ O (qL r2) V [11,10,9,8,4,2] QI fun O=>Ya ?_)
 refine Zb O Z (fun hc0=>?_) (fun hc0=>?_)
 ·have hil:i<(ZaC t).length:=WI
  refine Yd (Za (Ya (Ye (Ya (rS O (qy 3 Yb0 r2 (qf (oR true 3 .t) r1 qz (qf (oH [.int .i64 0,.int .i64 0,.int .i64 0] 103) trivial qz (qS 3 103 r2 r1 qZ)))) V [10,9,8,6,4,2] QJ fun τ O=>?_)))))
  have O:=X0
  generalize τ 6=v6 at O
  try simp only [Yf] at O
  refine Za (Ya (rZ O (qe 2 101 r1 r1 (qe 3 103 r1 r1 (qf (oP (Zsc g (Nn (ZaC t) i) hs) func199 (Args.two (.pagg .t) (.pagg .t))) r2 qz (qf (ZW .t) r1 qz qZ)))) V [17,10,9,8,4,2] QJ fun O=>?_))
  refine Zb O Z (fun hc1=>?_) (fun hc1=>?_)
  ·have hg:false=Zbb g t:=(ZkO hil WE).symm
   refine Ya (rZ O qB V DL QJ fun O=>(Yh (Zl (Zd (Zd (Zl (Zd ?_)))))))
   refine Zx hfr O Z Z Z (.bool hg)
  have hne:Zgx g (Nn (ZaC t) i)=true:=WE
  refine Yd (Zf (Za (rZ O (qp r1 (qR rr qZ)) V DL QJ fun O=>?_)))
  replace O:=O.eI 10 i
  obtain ⟨F,O⟩:=O.nM [9,8,4,2,10] QI
  exact ⟨(i+1),F,⟨ow,(fun k hk=>by rcases Yw (YC hk) with h9 | h9;exact hq k h9;rw [h9];exact hne)⟩,O,ow⟩
 have hil:i=(ZaC t).length:=WI
 have hg:true=Zbb g t:=(ZlR WZ).symm
 refine Ym (Ze (Ze (Zk (Za (Ya (rZ O qB V [4] QI fun O=>Yh ?_))))))
 refine Zx hfr O Z Z Z (.bool hg)
theorem Zkw (g:Zw) (k:Int) (hs:Za3 g.txs):FnP prog 192 [.agg (Zi g),.int .i64 k] (.sl Zo (Zac g.txs k)):=by
 refine FnP.mk func192 Z ntmps192 Z fun B a w F V hfr O=>?_
 have hsl:=hs.1
 refine Ya (rS O (qx 101 r1 (qC qZ)) V Dz QK fun τ O=>?_)
 have O:=X1
 generalize τ 2=v2 at O
 refine Za (Ya (rZ O (qC qZ) V Js QK fun O=>(Ya (Ya ?_))))
 refine rZ O (qg 0 101 r1 r1 (qa 101 r1 r1 (qu YbR r1 (qJ qZ)))) V QS QK fun O=>Ye ?_
 replace O:=O.fresh 50 rfl
 replace O:=O.turn 50 Z (Zas (T:=3) (sz:=1) (R:=Zo))
 refine Zh (σ:=(Nat)×(Value)×(List Int)) [1,4,9,10] [0,101] (fun s=>[(11,.pv (.int .i64 (s.1:Int))),(5,.pv (.is s.2.1))]) (fun s=>[(50,.ob (.val s.2.1) (ZM 3 1 Zo s.2.2))]) (fun s=>s.1≤g.txs.length∧(s.2.2=Zac (g.txs.take s.1) k)) (fun s=>g.txs.length - s.1) ((0),(.slice none 0 0),([])) O ⟨rfl,rfl,rfl,rfl,rfl,rfl,tv⟩ ⟨rfl,rfl,rfl,tv⟩ ⟨Yo _,rfl⟩ ?_
 clear O;intro s a w F hC O
 obtain ⟨i,v,out⟩:=s
 have hC:=X3
 obtain ⟨F,O⟩:=O.nM QS QQ
 have O:=X2
 obtain ⟨hi,hq⟩:=hC
 have hol:out.length≤i:=by rw [hq];exact YT (ZcN _ _) WF
 have hxl:=fun hil:i<g.txs.length=>hs.at hil
 refine Ya (rZ O (qL r2) V G2 QQ fun O=>Ya ?_)
 refine Zb O Z (fun hc0=>?_) (fun hc0=>?_)
 ·have hil:i<g.txs.length:=WI
  refine Yd (Za (Ya (Ye (Ya (rS O (qy 3 YbR r2 (qf (oR true 3 .t) r1 qz (qf (oH [.int .i64 0,.bool false,.slice none 0 0] 102) trivial qz (qS 3 102 r2 r1 qZ)))) V G9 QM fun τ O=>?_)))))
  have O:=X0
  generalize τ 7=v7 at O
  try simp only [Yf] at O
  refine Za (Ya (rZ O (qg 1 102 r1 r1 (qa 102 r1 r1 (qR rr (qv 2 102 Z r2 r1 (qw 102 Z r2 r1 (qm Z Z Z Z (qk Z (fun h=>oP (ZdO (Nn g.txs i).ops k Kk) func197 (Args.two (.w h) (.w h))) r3 qz (qk Z (fun h=>o_gtr (.w h) qi) r2 qz (qf (ZF .t .t) r2 qz qZ))))))))) V [23,11,10,9,7,5,4,1] QM fun O=>?_))
  refine Zb O Z (fun hc1=>?_) (fun hc1=>?_)
  ·have hBq:((Nn g.txs i).done=true∧0<wcnt (Nn g.txs i).ops k):=by
     have h8:=hc1
     rw [Yx,Yj] at h8
     exact ⟨h8.1,by unfold wcnt;exact_mod_cast h8.2⟩
   refine rS O (qR rr (qg 0 102 r1 r1 (qa 102 r1 r1 (qf (o_buildSliceE (sz:=1) (zs:=[.int .i64 0]) (r:=[(0,.tmp 26)]) (l:=[_]) YbT kr kr kr kr Z Z (.one Z .t one_int kr .nil) Z) r1 qz (qf (o_append (sz:=1) (bs:=8) 50 (.mk' YbT kr kr) Wt .is (.arr (l':=[_]) .t) WJ We) ⟨rfl,rfl,tv⟩ ⟨rfl,tv⟩ (qO rr qZ)))))) V QS QM fun τ O=>?_
   have O:=X0
   generalize τ 28=v28 at O
   refine Zf (Za (rZ O (qp r1 (qR rr qZ)) V QS QM fun O=>?_))
   replace O:=O.eI 11 i
   obtain ⟨F,O⟩:=O.nM JP J9
   exact ⟨((i+1),_,_),F,⟨ow,Kl⟩,O,ow⟩
  have hBq:¬ ((Nn g.txs i).done=true∧0<wcnt (Nn g.txs i).ops k):=by
    rintro ⟨g1,g2⟩
    have h8:=hc1
    rw [g1,Ybv,Yi] at h8
    exact h8 (by unfold wcnt at g2;exact_mod_cast g2)
  refine Yd (Zf (Za (rZ O (qp r1 (qR rr qZ)) V QS QM fun O=>?_)))
  replace O:=O.eI 11 i
  obtain ⟨F,O⟩:=O.nM JP J9
  exact ⟨((i+1),_,_),F,⟨ow,Kl⟩,O,ow⟩
 have hil:i=g.txs.length:=WI
 refine Ym (Ze (Ze (Zk (Za (Ya (rZ O (qR rr (qO rr qZ)) V [4] QQ fun O=>Yh ?_))))))
 obtain ⟨F,O⟩:=O.give 50 4 Z rfl
 refine Zx hfr O Z Z Z (.sl (by rw [hq,hil,Yy]))
theorem ZjC (l:List Int) (n:Int) (hl:l.length≤1000000):FnP prog 200 [.sl Zo l,.int .i64 n] (.sl Zo (Zdv l n)):=by
 refine FnP.mk func200 Z ntmps200 Z fun B a w F V hfr O=>Ya ?_
 refine rZ O (qC qZ) V J0 [0] fun O=>Ya ?_
 refine rZ O (qR rr (qR rr (qf (oP (Zpy l n hl) func255 (Args.two .t .t)) r2 qz (qO rr qZ)))) V [4] [0] fun O=>Yh ?_
 refine Zx hfr O Z Z Z .refl
theorem ZnH (g:Zw) (hs:Za3 g.txs):FnP prog 191 [.agg (Zi g)] (.sl Zo (Za4 g.txs)):=by
 refine FnP.mk func191 Z ntmps191 Z fun B a w F V hfr O=>?_
 have hsl:=hs.1
 refine Ya (rS O (qx 101 r1 (qC qZ)) V J5 QK fun τ O=>?_)
 have O:=X1
 generalize τ 1=v1 at O
 refine Za (Ya (rZ O (qC qZ) V Gh QK fun O=>(Ya (Ya ?_))))
 refine rZ O (qg 0 101 r1 r1 (qa 101 r1 r1 (qu YbR r1 (qJ qZ)))) V Xak QK fun O=>Ye ?_
 replace O:=O.ent (i:=3) (s':=.pv (.sl Zo (Za4 (g.txs.take 0)))) Z (.nilSl)
 refine Zh (σ:=(Nat)) [2,9,10] [0,101] (fun s=>[(11,.pv (.int .i64 (s:Int))),(3,.pv (.sl Zo (Za4 (g.txs.take s))))]) (fun s=>[]) (fun s=>s≤g.txs.length∧(True)) (fun s=>g.txs.length - s) (0) O ⟨rfl,rfl,rfl,rfl,rfl,tv⟩ ⟨rfl,rfl,tv⟩ ⟨Yo _,tv⟩ ?_
 clear O;intro i a w F hC O
 have hC:=X3
 obtain ⟨F,O⟩:=O.nM Xak QK
 have O:=X2
 obtain ⟨hi,hq⟩:=hC
 have hxl:=fun hil:i<g.txs.length=>hs.at hil
 have hkl:(Za4 (g.txs.take i)).length≤1000*i:=Zms hs i
 refine Ya (rZ O (qL r2) V [12,11,10,9,3,2] QK fun O=>Ya ?_)
 refine Zb O Z (fun hc0=>?_) (fun hc0=>?_)
 ·have hil:i<g.txs.length:=WI
  have hio:=hil
  have htl:=hxl hil
  have hkt:=ZdD (Nn g.txs i)
  have hsl:=hs.1
  refine Yd (Za (Ya (Ye (Ya (rS O (qy 3 YbR r2 (qf (oR true 3 .t) r1 qz (qf (oH [.int .i64 0,.bool false,.slice none 0 0] 102) trivial qz (qS 3 102 r2 r1 qZ)))) V [11,10,9,5,3,2] QI fun τ O=>?_)))))
  have O:=X0
  generalize τ 5=v5 at O
  try simp only [Yf] at O
  refine Za (Ya (rZ O (qg 1 102 r1 r1 (qa 102 r1 r1 qZ)) V [16,11,10,9,5,3,2] QI fun O=>?_))
  refine Zb O Z (fun hc1=>?_) (fun hc1=>?_)
  ·have hdn:(Nn g.txs i).done=true:=hc1
   refine Ya (Zg O (qe 3 102 r1 r1 (qf (oP (ZpZ (Nn g.txs i) false Kk) func201 (Args.two (.pagg .t) .cb)) r1 qz (qu YbT r1 (qJ qZ)))) V Gt QI Z Z fun a w F O=>?_)
   rw [show ZbE (((Nn g.txs i).ops.filter fun o=>false || !o.read).map OpD.key)=Zai (Nn g.txs i) from rfl] at O
   refine Za (Ye ?_)
   replace O:=O.ent (i:=3) (s':=.pv (.sl Zo (((Zai (Nn g.txs i)).take 0).foldl Zdv (Za4 (g.txs.take i))))) Z (.refl)
   refine Zh (σ:=(Nat)) [2,9,10,11,18,19] [0,101,102] (fun s=>[(20,.pv (.int .i64 (s:Int))),(3,.pv (.sl Zo (((Zai (Nn g.txs i)).take s).foldl Zdv (Za4 (g.txs.take i)))))]) (fun s=>[]) (fun s=>s≤(Zai (Nn g.txs i)).length∧(True)) (fun s=>(Zai (Nn g.txs i)).length - s) (0) O ⟨rfl,rfl,rfl,rfl,rfl,rfl,rfl,rfl,tv⟩ ⟨rfl,rfl,rfl,tv⟩ ⟨Yo _,tv⟩ ?_
   clear O;intro j a w F hC O
   have hC:=X3
   obtain ⟨F,O⟩:=O.nM Gt QI
   have O:=X2
   obtain ⟨hi,hq⟩:=hC
   have hjb:=ZeW (Za4 (g.txs.take i)) ((Zai (Nn g.txs i)).take j)
   rw [Yk] at hjb
   refine Ya (rZ O (qL r2) V [21,20,19,18,11,10,9,3,2] QI fun O=>Ya ?_)
   refine Zb O Z (fun hc2=>?_) (fun hc2=>?_)
   ·have hil:j<(Zai (Nn g.txs i)).length:=KM
    refine Yd (Za (Ya (Ye (Ya (Zg O (qy 1 YbT r2 (qf (oR false 1 .t) r1 qz (qO rr qZ))) V [20,19,18,11,10,9,7,3,2] QI Z Z fun a w F O=>?_)))))
    try simp only [Yf] at O
    refine Za (Zg O (qR rr (qR rr (qf (oP (ZjC (((Zai (Nn g.txs i)).take j).foldl Zdv (Za4 (g.txs.take i))) _ ow) func200 (Args.two .t .t)) r2 qz (qO rr qZ)))) V Gt QI Z Z fun a w F O=>Zf (Za ?_))
    refine rZ O (qp r1 (qR rr qZ)) V Gt QI fun O=>?_
    replace O:=O.eI 20 j
    replace O:=O.ent (i:=3) (s':=.pv (.sl Zo (((Zai (Nn g.txs i)).take (j+1)).foldl Zdv (Za4 (g.txs.take i))))) Z ((.sl (by rw [ZN hil,YaC];rfl)))
    obtain ⟨F,O⟩:=O.nM [19,18,11,10,9,2,3,20] QI
    exact ⟨(j+1),F,⟨ow,tv⟩,O,ow⟩
   have hil:j=(Zai (Nn g.txs i)).length:=KM
   replace O:=O.ent (i:=3) (s':=.pv (.sl Zo (Za4 (g.txs.take (i+1))))) Z (.sl (by rw [Zis hio,Yg hdn,hil,Yy]))
   refine Ym (Ze (Ze (Zk (Zf (Za (rZ O (qp r1 (qR rr qZ)) V Xak QI fun O=>?_))))))
   replace O:=O.eI 11 i
   obtain ⟨F,O⟩:=O.nM [10,9,2,3,11] QK
   exact ⟨(i+1),F,⟨ow,tv⟩,O,ow⟩
  have hdn:¬ (Nn g.txs i).done=true:=by rw [hc1];simp
  replace O:=O.ent (i:=3) (s':=.pv (.sl Zo (Za4 (g.txs.take (i+1))))) Z (.sl (by rw [Zis hio,Yb hdn]))
  refine Yd (Zf (Za (rZ O (qp r1 (qR rr qZ)) V Xak QI fun O=>?_)))
  replace O:=O.eI 11 i
  obtain ⟨F,O⟩:=O.nM [10,9,2,3,11] QK
  exact ⟨(i+1),F,⟨ow,tv⟩,O,ow⟩
 have hil:i=g.txs.length:=WI
 refine Ym (Ze (Ze (Zk (Za (Ya (rZ O (qR rr (qO rr qZ)) V [2] QK fun O=>Yh ?_))))))
 refine Zx hfr O Z Z Z (.sl WO)
theorem Zqm (g:Zw) (hs:Za3 g.txs):FnG prog 140 1 [.agg (Zi g)] [.star []] (PV.one) (fun v=>[HP.ex fun s:List (GE Int (List Int))×Nat=>HP.and (WrL s.1 g.txs) (mapG (fun l:List Int=>PV.sl Zo l) (fun _=>True) (fun n:Int=>Value.int .i64 n) s.1 s.2 v)]):=by
 refine FnG.mk func140 Z ntmps140 Z kr fun B F0 a w F V hG O=>?_
 have hsl:=hs.1
 obtain ⟨F,O⟩:=O.nM [0] [0]
 refine Ya (rS O (qx 101 r1 (qC qZ)) V J5 QK fun τ O=>?_)
 have O:=X1
 generalize τ 1=v1 at O
 refine Za (Ya (rS O (qf (Zc6 (ek:=(fun p:Value×List Int=>PV.is p.1)) (ok:=(fun _=>True)) (kv:=(fun n:Int=>Value.int .i64 n)) 102) trivial qz (qO rr qZ)) V Gh QI fun τ O=>?_))
 have O:=XE
 generalize τ 8=v8 at O
 replace O:=O.fresh 60 rfl
 replace O:=O.turn 60 Z (r':=ZrF 3 1 Zo ([]:List (GE Int (Value×List Int)))) (fun _ _ _ _ h=>h)
 obtain ⟨F,O⟩:=O.nM Gh D6
 refine Za (Ya (Ya (rZ O (qg 0 101 r1 r1 (qa 101 r1 r1 (qu YbR r1 (qJ qZ)))) V JY D6 fun O=>Ye ?_)))
 refine Zh (σ:=(Nat)×(List (GE Int (Value×List Int)))×(Nat)) [2,3,10,11] [0,101] (fun s=>[(12,.pv (.int .i64 (s.1:Int)))]) (fun s=>[(102,.ob (.val v8) (mapG (fun p:Value×List Int=>PV.is p.1) (fun _=>True) (fun n:Int=>Value.int .i64 n) s.2.1 s.2.2)),(60,ZrF 3 1 Zo s.2.1)]) (fun s=>s.1≤g.txs.length∧(WrV s.2.1 (g.txs.take s.1) 0 [])) (fun s=>g.txs.length - s.1) ((0),([]),(0)) O ⟨rfl,rfl,rfl,rfl,rfl,tv⟩ ⟨rfl,rfl,rfl,rfl,tv⟩ ⟨Yo _,Ztw⟩ ?_
 clear O;intro s a w F hC O
 obtain ⟨i,es,ck⟩:=s
 have hC:=X3
 obtain ⟨F,O⟩:=O.nM JY D6
 have O:=X2
 obtain ⟨hi,hq⟩:=hC
 have hxl:=fun hil:i<g.txs.length=>hs.at hil
 refine Ya (rZ O (qL r2) V [13,12,11,10,3,2] D6 fun O=>Ya ?_)
 refine Zb O Z (fun hc0=>?_) (fun hc0=>?_)
 ·have hil:i<g.txs.length:=WI
  have hio:=hil
  have hw0:=hq
  have htl:=hxl hil
  have hkt:=ZdD (Nn g.txs i)
  have hsl:=hs.1
  refine Yd (Za (Ya (Ye (Ya (rS O (qy 3 YbR r2 (qf (oR true 3 .t) r1 qz (qf (oH [.int .i64 0,.bool false,.slice none 0 0] 103) trivial qz (qS 3 103 r2 r1 qZ)))) V [12,11,10,5,3,2] Jl fun τ O=>?_)))))
  have O:=X0
  generalize τ 5=v5 at O
  try simp only [Yf] at O
  refine Za (Ya (Ya (rZ O (qg 1 103 r1 r1 (qa 103 r1 r1 (qf (ZW .t) r1 qz qZ))) V [18,12,11,10,5,3,2] Jl fun O=>?_)))
  refine Zb O Z (fun hc1=>?_) (fun hc1=>?_)
  ·have hdn:(Nn g.txs i).done=false:=WE
   obtain ⟨es2,he2⟩:∃ z,z=es:=⟨_,rfl⟩
   obtain ⟨ck2,hc2⟩:∃ z,z=ck:=⟨_,rfl⟩
   have hR2:WrV es2 (g.txs.take (i+1)) 0 []:=by rw [he2];exact Ztp hw0 hio hdn
   rw [← he2,← hc2] at O
   refine Ym (Ze (Zk (Za (rZ O (qp r1 (qR rr qZ)) V JY Jl fun O=>?_))))
   replace O:=O.eI 12 i
   obtain ⟨F,O⟩:=O.nM [11,10,3,2,12] [101,0,60,102]
   exact ⟨((i+1),(es2),(ck2)),F,⟨ow,hR2⟩,O,ow⟩
  have hdn:(Nn g.txs i).done=true:=WE
  refine Yd (Za (Ya (Zg O (qe 3 103 r1 r1 (qf (oP (Zti (Nn g.txs i) (by have:=hxl hio;omega)) func82 (Args.one (.pagg .t))) r1 qz (qu YbT r1 (qJ qZ)))) V Gb Jl Z Z fun a w F O=>?_)))
  rw [show ZbE (((Nn g.txs i).ops.filter fun o=>!o.read).map OpD.key)=Zai (Nn g.txs i) from rfl] at O
  refine Za (Ye (Zh (σ:=(Nat)×(List (GE Int (Value×List Int)))×(Nat)) [2,3,5,10,11,12,20,21] [0,101,103] (fun s=>[(22,.pv (.int .i64 (s.1:Int)))]) (fun s=>[(102,.ob (.val v8) (mapG (fun p:Value×List Int=>PV.is p.1) (fun _=>True) (fun n:Int=>Value.int .i64 n) s.2.1 s.2.2)),(60,ZrF 3 1 Zo s.2.1)]) (fun s=>s.1≤(Zai (Nn g.txs i)).length∧(WrV s.2.1 (g.txs.take i) (Nn g.txs i).id ((Zai (Nn g.txs i)).take s.1))) (fun s=>(Zai (Nn g.txs i)).length - s.1) ((0),(es),(ck)) O ⟨rfl,rfl,rfl,rfl,rfl,rfl,rfl,rfl,rfl,tv⟩ ⟨rfl,rfl,rfl,rfl,rfl,tv⟩ ⟨Yo _,(by simpa using Zra hw0)⟩ ?_))
  clear O;intro s a w F hC O
  obtain ⟨j,es,ck⟩:=s
  have hC:=X3
  obtain ⟨F,O⟩:=O.nM Gb Jl
  have O:=X2
  obtain ⟨hi,hq⟩:=hC
  refine Ya (rZ O (qL r2) V [23,22,21,20,12,11,10,5,3,2] Jl fun O=>Ya ?_)
  refine Zb O Z (fun hc2=>?_) (fun hc2=>?_)
  ·have hil:j<(Zai (Nn g.txs i)).length:=KM
   have hwo:=Zso hq (ZgN _) hil
   have hwn:=ZcN (g.txs.take i) (Nn (Zai (Nn g.txs i)) j)
   rw [Yk] at hwn
   rw [← hwo] at hwn
   refine Yd (Za (Ya (Ye (Ya (Zg O (qy 1 YbT r2 (qf (oR false 1 .t) r1 qz (qO rr qZ))) V [22,21,20,12,11,10,7,5,3,2] Jl Z Z fun a w F O=>?_)))))
   try simp only [Yf] at O
   refine Za (ZbB 5 O kr (cG Z (oM .t) r1 trivial (cG Z (oM .t) r1 trivial (cG Z (oM .t) r1 trivial (cG Z (oM .t) r1 trivial (cG Z (ZaP (ek:=(fun p:Value×List Int=>PV.is p.1)) (z0:=ZiN) 102 underlying127 (Zea YbV) kr (fun _ _=>⟨rfl,rfl⟩) .is (Z5.int .t Z)) r2 r1 ZaD.nil))))) kr Wq fun a w F O=>?_)
   obtain ⟨F,O⟩:=O.nM De Jl
   try dsimp only [Zi,rTx,Zp,ZR,Zo,rOp] at O
   obtain ⟨F,O⟩:=O.takeKey (T:=3) (sz:=1) (R:=Zo) 60 61 (Nn (Zai (Nn g.txs i)) j) Z rfl
   obtain ⟨F,O⟩:=O.nM De Gv
   refine ZkS 4 O kr (cG Z (oF 0 103 .is) r1 r1 (cG Z (oL false 1 103 .adr) r1 r1 (cG Z (o_buildSliceE (sz:=1) (zs:=[.int .i64 0]) (r:=[(0,.tmp 32)]) (l:=[_]) YbT kr kr kr kr Z Z (.one Z .t one_int kr .nil) Z) r1 trivial (cG Z (o_append (sz:=1) (bs:=8) 61 (.mk' YbT kr kr) Wt .is (.arr (l':=[_]) .t) Wx We) ⟨rfl,rfl,tv⟩ ⟨rfl,tv⟩ ZaD.nil)))) kr Wq fun a w F O=>?_
   replace O:=O.sub
   obtain ⟨F,O⟩:=O.nM [34,27,26,22,21,20,12,11,10,5,3,2] Gv
   have O:=X0
   generalize Act.tau a 34=v34 at O
   refine Zb6 O kr (cG Z (Zbx (ek:=(fun p:Value×List Int=>PV.is p.1)) (v:=((v34,((gGet (Nn (Zai (Nn g.txs i)) j) es).getD ZiN).2 ++ [(Nn g.txs i).id]):Value×List Int)) 102 underlying127 (Zea YbV) .is (Z5.int .t Z) .t) r3 r1 ZaD.nil) kr Wq fun a w F O=>?_
   obtain ⟨F,O⟩:=O.nM Gb Gv
   try dsimp only [Zi,rTx,Zp,ZR,Zo,rOp] at O
   refine Zf (Za (rZ O (qp r1 (qR rr qZ)) V Gb Gv fun O=>?_))
   obtain ⟨F,O⟩:=O.putKey (T:=3) (sz:=1) (R:=Zo) 60 61 (Nn (Zai (Nn g.txs i)) j) ck Z Z rfl
   replace O:=O.eI 22 j
   obtain ⟨F,O⟩:=O.nM [21,20,12,11,10,5,3,2,22] [103,101,0,60,102]
   exact ⟨((j+1),((gPut (Nn (Zai (Nn g.txs i)) j) (v34,((gGet (Nn (Zai (Nn g.txs i)) j) es).getD ZiN).2 ++ [(Nn g.txs i).id]) (es,ck)).1),((gPut (Nn (Zai (Nn g.txs i)) j) (v34,((gGet (Nn (Zai (Nn g.txs i)) j) es).getD ZiN).2 ++ [(Nn g.txs i).id]) (es,ck)).2)),F,⟨ow,ZsT hq (ZgN _) hil⟩,O,ow⟩
  have hil:j=(Zai (Nn g.txs i)).length:=KM
  obtain ⟨es2,he2⟩:∃ z,z=es:=⟨_,rfl⟩
  obtain ⟨ck2,hc2⟩:∃ z,z=ck:=⟨_,rfl⟩
  rw [hil,Yy] at hq
  have hR2:WrV es2 (g.txs.take (i+1)) 0 []:=by rw [he2];exact Ztg hq hio hdn
  rw [← he2,← hc2] at O
  refine Ym (Ze (Ze (Zk (Zf (Za (rZ O (qp r1 (qR rr qZ)) V JY Jl fun O=>?_))))))
  replace O:=O.eI 12 i
  obtain ⟨F,O⟩:=O.nM [11,10,3,2,12] [101,0,60,102]
  exact ⟨((i+1),(es2),(ck2)),F,⟨ow,hR2⟩,O,ow⟩
 have hil:i=g.txs.length:=WI
 have hwl:=ZrZ hq
 rw [hil,Yy] at hwl
 refine Ym (Ze (Ze (Zk (Za (Ya (rZ O (qR rr (qO rr qZ)) V [2] D6 fun O=>Yh ?_))))))
 obtain ⟨F,O⟩:=O.giveMap 102 60 Z Z rfl
 obtain ⟨F,O⟩:=O.rename 102 1 Z rfl
 have O:=O.turn 1 Z (r':=RS.hp (HP.ex fun s:List (GE Int (List Int))×Nat=>HP.and (WrL s.1 g.txs) (mapG (fun l:List Int=>PV.sl Zo l) (fun _=>True) (fun n:Int=>Value.int .i64 n) s.1 s.2 v8))) (fun _ _ _ _ h=>⟨(Zf5 es,ck),hwl,h⟩)
 refine Zen (h':=fun v=>HP.ex fun s:List (GE Int (List Int))×Nat=>HP.and (WrL s.1 g.txs) (mapG (fun l:List Int=>PV.sl Zo l) (fun _=>True) (fun n:Int=>Value.int .i64 n) s.1 s.2 v)) hG O Z (.tmp Z .nil) (.one .one) rfl
theorem Zva (l:List Int) (v:Int):FnP prog 256 [.sl Zo l,.int .i64 v] (.bool (decide (v ∈ l))):=by
 refine FnP.mk func256 Z ntmps256 Z fun B a w F V hfr O=>?_
 have hll:=Sat.lenSl O (i:=0) rfl
 refine Ya (rZ O qB V J0 [0] fun O=>(Ya (Ya ?_)))
 refine rZ O (qR rr (qu YbT r1 (qJ qZ))) V Gs [0] fun O=>Ye ?_
 refine Zh (σ:=(Nat)) [1,4,7,8] [0] (fun s=>[(9,.pv (.int .i64 (s:Int)))]) (fun s=>[]) (fun s=>s≤l.length∧(∀ k,k<s→Nn l k≠v)) (fun s=>l.length - s) (0) O ⟨rfl,rfl,rfl,rfl,rfl,tv⟩ ⟨rfl,tv⟩ ⟨Yo _,fun k hk=>absurd hk (YI k)⟩ ?_
 clear O;intro i a w F hC O
 have hC:=X3
 obtain ⟨F,O⟩:=O.nM Gs [0]
 have O:=X2
 obtain ⟨hi,hq⟩:=hC
 refine Ya (rZ O (qL r2) V [10,9,8,7,4,1] [0] fun O=>Ya ?_)
 refine Zb O Z (fun hc0=>?_) (fun hc0=>?_)
 ·have hil:i<l.length:=WI
  refine Yd (Za (Ya (Ye (Ya (Zg O (qy 1 YbT r2 (qf (oR false 1 .t) r1 qz (qO rr qZ))) V [9,8,7,6,4,1] [0] Z Z fun a w F O=>?_)))))
  try simp only [Yf] at O
  refine Za (Ya (rZ O (qR rr (qR rr (qf (o_eql .t .t) r2 qz qZ))) V [15,9,8,7,4,1] [0] fun O=>?_))
  refine Zb O Z (fun hc1=>?_) (fun hc1=>?_)
  ·have hg:true=decide (v ∈ l):=(YA (by simp at hc1;rw [← hc1];exact ZP hil)).symm
   refine Ya (rZ O qB V Gs [0] fun O=>(Yh (Zl (Zd (Zd (Zl (Zd ?_)))))))
   refine Zx hfr O Z Z Z (.bool hg)
  have hne:Nn l i≠v:=WH
  refine Yd (Zf (Za (rZ O (qp r1 (qR rr qZ)) V Gs [0] fun O=>?_)))
  replace O:=O.eI 9 i
  obtain ⟨F,O⟩:=O.nM [8,7,4,1,9] [0]
  exact ⟨(i+1),F,⟨ow,(fun k hk=>by rcases Yw (YC hk) with h | h;exact hq k h;rw [h];exact hne)⟩,O,ow⟩
 have hil:i=l.length:=WI
 have hg:false=decide (v ∈ l):=by
   rw [Y8,Yi]
   intro hv
   obtain ⟨k,hk,e⟩:=YL hv
   exact hq k WI (by rw [Zu hk];exact e)
 refine Ym (Ze (Ze (Zk (Za (Ya (rZ O qB V [4] [0] fun O=>Yh ?_))))))
 refine Zx hfr O Z Z Z (.bool hg)
theorem ZrL (l:List Int) (tx:Int) (hl:l.length≤1000000):FnP prog 202 [.sl Zo l,.int .i64 tx] (.sl Zo (ZgH l tx)):=by
 refine FnP.mk func202 Z ntmps202 Z fun B a w F V hfr O=>?_
 have hll:=Sat.lenSl O (i:=0) rfl
 refine Ya (rZ O (qC qZ) V J0 [0] fun O=>Ya ?_)
 refine rS O (qf (ZaI (R:=Zo) (sz:=1) 101 YbT kr) trivial qz (qR rr (qf (o_append (sz:=1) (bs:=8) 101 (.mk' YbT kr kr) Wt .same (.sl .t) WJ We) ⟨rfl,rfl,tv⟩ ⟨rfl,tv⟩ (qO rr qZ)))) V J6 QK fun τ O=>?_
 have O:=X8
 generalize τ 8=v8 at O
 refine Za (Ya (Ya (rZ O (qR rr (qR rr (qf (oP (Zva l tx) func256 (Args.two .t .t)) r2 qz (qf (ZW .t) r1 qz qZ)))) V [12,5,4,1] QK fun O=>?_)))
 refine Zb O Z (fun hc0=>?_) (fun hc0=>?_)
 ·have hm:¬ tx ∈ l:=Wz
  have hg:[] ++ l ++ [tx] = ZgH l tx:=(Yb hm).symm
  refine rS O (qR rr (qR rr (qf (o_buildSliceE (sz:=1) (zs:=[.int .i64 0]) (r:=[(0,.tmp 14)]) (l:=[_]) YbT kr kr kr kr Z Z (.one Z .t one_int kr .nil) Z) r1 qz (qf (o_append (sz:=1) (bs:=8) 101 (.mk' YbT kr kr) Wt .is (.arr (l':=[_]) .t) WJ We) ⟨rfl,rfl,tv⟩ ⟨rfl,tv⟩ (qO rr qZ))))) V Jf QK fun τ O=>?_
  have O:=X8
  generalize τ 16=v16 at O
  refine Za (Ya (rZ O (qR rr (qO rr qZ)) V [4] QK fun O=>Yh ?_))
  obtain ⟨F,O⟩:=O.give 101 4 Z rfl
  refine Zx hfr O Z Z Z (.sl hg)
 have hm:tx ∈ l:=Wz
 have hg:[] ++ l=ZgH l tx:=(Yg hm).symm
 refine Yd (Za (Ya (rZ O (qR rr (qO rr qZ)) V [4] QK fun O=>Yh ?_)))
 obtain ⟨F,O⟩:=O.give 101 4 Z rfl
 refine Zx hfr O Z Z Z (.sl hg)
theorem ZlH (l:List Int) (tx:Int) (hl:l.length≤1000000):FnP prog 203 [.sl Zo l,.int .i64 tx] (.sl Zo (ZbN l tx)):=by
 refine FnP.mk func203 Z ntmps203 Z fun B a w F V hfr O=>?_
 have hll:=Sat.lenSl O (i:=0) rfl
 refine Ya (rZ O (qC qZ) V J0 [0] fun O=>Ya ?_)
 refine rZ O (qC qZ) V J6 [0] fun O=>(Ya (Ya ?_))
 refine rZ O (qR rr (qu YbT r1 (qJ qZ))) V QY [0] fun O=>Ye ?_
 replace O:=O.fresh 50 rfl
 replace O:=O.turn 50 Z (Zas (T:=3) (sz:=1) (R:=Zo))
 refine Zh (σ:=(Nat)×(Value)×(List Int)) [1,4,8,9] [0] (fun s=>[(10,.pv (.int .i64 (s.1:Int))),(5,.pv (.is s.2.1))]) (fun s=>[(50,.ob (.val s.2.1) (ZM 3 1 Zo s.2.2))]) (fun s=>s.1≤l.length∧(s.2.2=ZbN (l.take s.1) tx)) (fun s=>l.length - s.1) ((0),(.slice none 0 0),([])) O ⟨rfl,rfl,rfl,rfl,rfl,rfl,tv⟩ ⟨rfl,rfl,tv⟩ ⟨Yo _,rfl⟩ ?_
 clear O;intro s a w F hC O
 obtain ⟨i,v,out⟩:=s
 have hC:=X3
 obtain ⟨F,O⟩:=O.nM QY QU
 have O:=X2
 obtain ⟨hi,hq⟩:=hC
 have hol:out.length≤i:=KV
 refine Ya (rZ O (qL r2) V Gu QU fun O=>Ya ?_)
 refine Zb O Z (fun hc0=>?_) (fun hc0=>?_)
 ·have hil:i<l.length:=WI
  refine Yd (Za (Ya (Ye (Ya (Zg O (qy 1 YbT r2 (qf (oR false 1 .t) r1 qz (qO rr qZ))) V Gz QU Z Z fun a w F O=>?_)))))
  try simp only [Yf] at O
  refine Za (Ya (rZ O (qR rr (qR rr (qf (o_neq .t .t) r2 qz qZ))) V [16,10,9,8,7,5,4,1] QU fun O=>?_))
  refine Zb O Z (fun hc1=>?_) (fun hc1=>?_)
  ·have hBq:Nn l i≠tx:=WE
   refine rS O (qR rr (qR rr (qf (o_buildSliceE (sz:=1) (zs:=[.int .i64 0]) (r:=[(0,.tmp 18)]) (l:=[_]) YbT kr kr kr kr Z Z (.one Z .t one_int kr .nil) Z) r1 qz (qf (o_append (sz:=1) (bs:=8) 50 (.mk' YbT kr kr) Wt .is (.arr (l':=[_]) .t) WJ We) ⟨rfl,rfl,tv⟩ ⟨rfl,tv⟩ (qO rr qZ))))) V QY QU fun τ O=>?_
   have O:=X8
   generalize τ 20=v20 at O
   refine Zf (Za (rZ O (qp r1 (qR rr qZ)) V QY QU fun O=>?_))
   replace O:=O.eI 10 i
   obtain ⟨F,O⟩:=O.nM JX JI
   exact ⟨((i+1),_,_),F,⟨ow,Km⟩,O,ow⟩
  have hBq:Nn l i=tx:=WE
  refine Yd (Zf (Za (rZ O (qp r1 (qR rr qZ)) V QY QU fun O=>?_)))
  replace O:=O.eI 10 i
  obtain ⟨F,O⟩:=O.nM JX JI
  exact ⟨((i+1),_,_),F,⟨ow,Km⟩,O,ow⟩
 have hil:i=l.length:=WI
 refine Ym (Ze (Ze (Zk (Za (Ya (rZ O (qR rr (qO rr qZ)) V [4] QU fun O=>Yh ?_))))))
 obtain ⟨F,O⟩:=O.give 50 4 Z rfl
 refine Zx hfr O Z Z Z (.sl (by rw [hq,hil,Yy]))
theorem ZjU (l:List Int) (v:Int):FnP prog 204 [.sl Zo l,.int .i64 v] (.int .i64 ((l.count v:Nat):Int)):=by
 refine FnP.mk func204 Z ntmps204 Z fun B a w F V hfr O=>?_
 have hll:=Sat.lenSl O (i:=0) rfl
 refine Ya (rZ O (qI qZ) V J0 [0] fun O=>Ya ?_)
 refine rZ O (qI qZ) V J6 [0] fun O=>(Ya (Ya ?_))
 refine rZ O (qR rr (qu YbT r1 (qJ qZ))) V QY [0] fun O=>Ye ?_
 refine Zh (σ:=(Nat)) [1,4,8,9] [0] (fun s=>[(10,.pv (.int .i64 (s:Int))),(5,.pv (.int .i64 (((l.take s).count v:Nat):Int)))]) (fun s=>[]) (fun s=>s≤l.length∧(True)) (fun s=>l.length - s) (0) O ⟨rfl,rfl,rfl,rfl,rfl,rfl,tv⟩ ⟨rfl,tv⟩ ⟨Yo _,tv⟩ ?_
 clear O;intro i a w F hC O
 have hC:=X3
 obtain ⟨F,O⟩:=O.nM QY [0]
 have O:=X2
 obtain ⟨hi,hq⟩:=hC
 refine Ya (rZ O (qL r2) V Gu [0] fun O=>Ya ?_)
 refine Zb O Z (fun hc0=>?_) (fun hc0=>?_)
 ·have hil:i<l.length:=WI
  refine Yd (Za (Ya (Ye (Ya (Zg O (qy 1 YbT r2 (qf (oR false 1 .t) r1 qz (qO rr qZ))) V Gz [0] Z Z fun a w F O=>?_)))))
  try simp only [Yf] at O
  refine Za (Ya (rZ O (qR rr (qR rr (qf (o_eql .t .t) r2 qz qZ))) V [16,10,9,8,5,4,1] [0] fun O=>?_))
  refine Zb O Z (fun hc1=>?_) (fun hc1=>?_)
  ·have hcl:(l.take i).count v≤(l.take i).length:=List.count_le_length
   have hcl2:(l.take i).length≤i:=WF
   have hcc:IntKind.wrap .i64 ((((l.take i).count v:Nat):Int)+1)=(((l.take (i+1)).count v:Nat):Int):=by
     have e:v=Nn l i:=WE
     rw [Zj ow,ZN hil,List.count_append,← e];simp
   refine Zg O (qR rr (qp r1 (qO rr qZ))) V QY [0] Z Z fun a w F O=>Zf (Za ?_)
   refine rZ O (qp r1 (qR rr qZ)) V QY [0] fun O=>?_
   replace O:=O.eI 10 i
   replace O:=O.ent (i:=5) (s':=.pv (.int .i64 (((l.take (i+1)).count v:Nat):Int))) Z (.int hcc)
   obtain ⟨F,O⟩:=O.nM JX [0]
   exact ⟨(i+1),F,⟨ow,tv⟩,O,ow⟩
  have hcc:(((l.take i).count v:Nat):Int)=(((l.take (i+1)).count v:Nat):Int):=by
    have e:¬ v=Nn l i:=WE
    have e2:¬ Nn l i=v:=fun h=>e h.symm
    rw [ZN hil,List.count_append,List.count_singleton];simp [e2]
  refine Yd (Zf (Za (rZ O (qp r1 (qR rr qZ)) V QY [0] fun O=>?_)))
  replace O:=O.eI 10 i
  replace O:=O.ent (i:=5) (s':=.pv (.int .i64 (((l.take (i+1)).count v:Nat):Int))) Z (.int hcc)
  obtain ⟨F,O⟩:=O.nM JX [0]
  exact ⟨(i+1),F,⟨ow,tv⟩,O,ow⟩
 have hil:i=l.length:=WI
 refine Ym (Ze (Ze (Zk (Za (Ya (rZ O (qR rr (qO rr qZ)) V [4] [0] fun O=>Yh ?_))))))
 refine Zx hfr O Z Z Z (.int WO)
theorem ZmM (x y:List Int):FnP prog 136 [.sl Zo x,.sl Zo y] (.bool (decide (x.Perm y))):=by
 refine FnP.mk func136 Z ntmps136 Z fun B a w F V hfr O=>?_
 have hxl:=Sat.lenSl O (i:=0) rfl
 have hyl:=Sat.lenSl O (i:=1) rfl
 refine Ya (rZ O qB V J0 [0] fun O=>(Ya (Ya ?_)))
 refine rZ O (qR rr (qu YbT r1 (qR rr (qu YbT r1 (qf (o_neq .t .t) r2 qz qZ))))) V [11,4,1,0] [0] fun O=>?_
 refine Zb O Z (fun hc0=>?_) (fun hc0=>?_)
 ·have hg:false=decide (x.Perm y):=(Yq fun hp=>by have:=hp.length_eq;simp at hc0;omega).symm
  refine Ya (rZ O qB V J0 [0] fun O=>(Yh (Zd ?_)))
  refine Zx hfr O Z Z Z (.bool hg)
 have hxy:x.length=y.length:=WI
 refine Yd (Za (Ya (Ya (rZ O (qR rr (qu YbT r1 (qJ qZ))) V Do [0] fun O=>Ye ?_))))
 refine Zh (σ:=(Nat)) [0,1,4,12,13] [0] (fun s=>[(14,.pv (.int .i64 (s:Int)))]) (fun s=>[]) (fun s=>s≤x.length∧(∀ k,k<s→x.count (Nn x k)=y.count (Nn x k))) (fun s=>x.length - s) (0) O ⟨rfl,rfl,rfl,rfl,rfl,rfl,tv⟩ ⟨rfl,tv⟩ ⟨Yo _,fun k hk=>absurd hk (YI k)⟩ ?_
 clear O;intro i a w F hC O
 have hC:=X3
 obtain ⟨F,O⟩:=O.nM Do [0]
 have O:=X2
 obtain ⟨hi,hq⟩:=hC
 refine Ya (rZ O (qL r2) V [15,14,13,12,4,1,0] [0] fun O=>Ya ?_)
 refine Zb O Z (fun hc1=>?_) (fun hc1=>?_)
 ·have hil:i<x.length:=WH
  refine Yd (Za (Ya (Ye (Ya (Zg O (qy 1 YbT r2 (qf (oR false 1 .t) r1 qz (qO rr qZ))) V [14,13,12,6,4,1,0] [0] Z Z fun a w F O=>?_)))))
  try simp only [Yf] at O
  refine Za (Ya (rZ O (qR rr (qR rr (qf (oP (ZjU x (Nn x i)) func204 (Args.two .t .t)) r2 qz (qR rr (qR rr (qf (oP (ZjU y (Nn x i)) func204 (Args.two .t .t)) r2 qz (qf (o_neq .t .t) r2 qz qZ))))))) V [24,14,13,12,4,1,0] [0] fun O=>?_))
  refine Zb O Z (fun hc2=>?_) (fun hc2=>?_)
  ·have hg:false=decide (x.Perm y):=(Yq fun hp=>by have:=hp.count_eq (Nn x i);simp at hc2;omega).symm
   refine Ya (rZ O qB V Do [0] fun O=>(Yh (Zl (Zd (Zd (Zl (Zd ?_)))))))
   refine Zx hfr O Z Z Z (.bool hg)
  have hne:x.count (Nn x i)=y.count (Nn x i):=KM
  refine Yd (Zf (Za (rZ O (qp r1 (qR rr qZ)) V Do [0] fun O=>?_)))
  replace O:=O.eI 14 i
  obtain ⟨F,O⟩:=O.nM [13,12,4,1,0,14] [0]
  exact ⟨(i+1),F,⟨ow,(fun k hk=>by rcases Yw (YC hk) with h | h;exact hq k h;rw [h];exact hne)⟩,O,ow⟩
 have hil:i=x.length:=WH
 have hg:true=decide (x.Perm y):=(YA (Zlv.1 ⟨hxy,fun v hv=>by obtain ⟨k,hk,rfl⟩:=YL hv;rw [← Zu hk];exact hq k WH⟩)).symm
 refine Ym (Ze (Ze (Zk (Za (Ya (rZ O qB V [4] [0] fun O=>Yh ?_))))))
 refine Zx hfr O Z Z Z (.bool hg)
theorem ZaW (g:Zw) (hs:Za8 g):FnP prog 128 [.agg (Zi g)] (.bool (decide (ZG g))):=by
 refine FnP.mk func128 Z ntmps128 Z fun B a w F V hfr O=>?_
 have hsl:=hs.1.1
 have hso:=hs.2.1
 refine Ya (rS O (qx 101 r1 qB) V J5 QK fun τ O=>?_)
 have O:=X1
 generalize τ 1=v1 at O
 refine Za (Ya (Ya (rZ O (qg 0 101 r1 r1 (qa 101 r1 r1 (qu YbR r1 (qf (o_gtr .t qi) r1 qz qZ)))) V [11,2,1] QK fun O=>?_)))
 refine Zb O Z (fun hc0=>?_) (fun hc0=>?_)
 ·have hg:=Zep (h:=g) WI
  refine Ya (rZ O qB V J5 QK fun O=>(Yh (Zd ?_)))
  refine Zx hfr O Z Z Z (.bool hg)
 have hlong:g.txs.length≤4096:=WI
 refine Yd (Za (Ya (Ya (rZ O (qg 0 101 r1 r1 (qa 101 r1 r1 (qu YbR r1 (qJ qZ)))) V JZ QK fun O=>Ye ?_))))
 refine Zh (σ:=(Nat)) [1,2,13,14] [0,101] (fun s=>[(15,.pv (.int .i64 (s:Int)))]) (fun s=>[]) (fun s=>s≤g.txs.length∧(∀ k,k<s→ZmD g k)) (fun s=>g.txs.length - s) (0) O ⟨rfl,rfl,rfl,rfl,rfl,tv⟩ ⟨rfl,rfl,tv⟩ ⟨Yo _,fun k hk=>absurd hk (YI k)⟩ ?_
 clear O;intro i a w F hC O
 have hC:=X3
 obtain ⟨F,O⟩:=O.nM JZ QK
 have O:=X2
 obtain ⟨hi,hq⟩:=hC
 have hxl:=fun hil:i<g.txs.length=>hs.1.at hil
 have hiw:0<i→IntKind.wrap .i64 ((i:Int) - 1)=((i - 1:Nat):Int):=fun h0=>by rw [Zj ow];omega
 refine Ya (rZ O (qL r2) V [16,15,14,13,2,1] QK fun O=>Ya ?_)
 refine Zb O Z (fun hc1=>?_) (fun hc1=>?_)
 ·have hil:i<g.txs.length:=WH
  refine Yd (Za (Ya (Ye (Ya (rS O (qR rr (qy 3 YbR r2 (qf (oR true 3 .t) r1 qz (qf (oH [.int .i64 0,.bool false,.slice none 0 0] 102) trivial qz (qO rr (qS 3 102 r2 r1 qZ)))))) V [15,14,13,4,3,2,1] QI fun τ O=>?_)))))
  have O:=X0
  generalize τ 4=v4 at O
  try simp only [Yf] at O
  refine Za (Ya (Zr O (qR rr (qf (o_gtr .t qi) r1 qz (qR rr (qv 0 101 Z r2 r1 (qw 101 Z r2 r1 (qm Z Z Z Z (qk Z (fun h=>o_sub (.w h) qi) r2 qz (qk Z (fun h=>Zah (sz:=3) (.mk YbR kr) Wt (.w h) (.w h) Kn Kn) r3 qz (qk Z (fun h=>oG 0 (.w h)) r2 qz (qk Z (fun h=>oR false 1 (.w h)) r2 qz (qv 0 102 Z r2 r1 (qw 102 Z r2 r1 (qk Z (fun h=>Zcb (.w h) (.w h)) r3 qz (qf (ZF .t .t) r2 qz (qR rr (qk Z (fun h=>oL true 3 102 .is) r2 r1 (qk Z (fun h=>oP (ZdI (Nn g.txs i)) func131 (Args.one (.pagg (.w h)))) r2 qz (qk Z (fun h=>o_neq (.w h) qi) r2 qz (qf (ZaB .t .t) r2 qz (qR rr (qk Z (fun h=>oL true 2 101 .is) r2 r1 (qk Z (fun h=>oL true 3 102 .is) r2 r1 (qk Z (fun h=>oP (ZeD g (Nn g.txs i) hs.1 Kk) func132 (Args.two (.pagg (.w h)) (.pagg (.w h)))) r3 qz (qk Z (fun h=>ZW (.w h)) r2 qz (qf (ZaB .t .t) r2 qz qZ))))))))))))))))))))))))) V [44,15,14,13,2,1] QI Z Z fun a w F O=>?_))
  have O:=Xf
  try simp only [Yf] at O
  refine Za (Zb O Z (fun hc2=>?_) (fun hc2=>?_))
  ·have hbad:¬ ZmD g i:=by
     rintro ⟨g1,g2,g3⟩
     have h9:=hc2
     by_cases hi0:0<i
     · rw [hiw hi0,Yf] at h9
       have:=g1 hi0
       simp [g2,g3] at h9
       omega
     · have hi1:i=0:=ow
       subst hi1
       simp [g2,g3] at h9
   have hg:=Zgd hil hbad
   refine Ya (rZ O qB V JZ QI fun O=>(Yh (Zl (Zd (Zd (Zl (Zd ?_)))))))
   refine Zx hfr O Z Z Z (.bool hg)
  have hgood:ZmD g i:=by
    have h9:=hc2
    by_cases hi0:0<i
    · rw [hiw hi0,Yf] at h9
      simp at h9
      exact ⟨fun _=>by omega,ow,h9.2⟩
    · have hi1:i=0:=ow
      subst hi1
      simp at h9
      exact ⟨fun h0=>absurd h0 (Nat.lt_irrefl 0),h9.1,h9.2⟩
  refine Yd (Zf (Za (rZ O (qp r1 (qR rr qZ)) V JZ QI fun O=>?_)))
  replace O:=O.eI 15 i
  obtain ⟨F,O⟩:=O.nM [14,13,2,1,15] QK
  exact ⟨(i+1),F,⟨ow,(fun k hk=>by rcases Yw (YC hk) with h9 | h9;exact hq k h9;rw [h9];exact hgood)⟩,O,ow⟩
 have hil:i=g.txs.length:=WH
 have hall:∀ k,k<g.txs.length→ZmD g k:=WZ
 have hkn:=Zkh hs.1
 refine Ym (Ze (Ze (Zk (Za (Ya (rZ O (qe 2 101 r1 r1 (qf (oP (ZnH g hs.1) func191 (Args.one (.pagg .t))) r1 qz (qO rr qZ))) V DY QK fun O=>(Ya (Ya ?_))))))))
 refine rZ O (qg 1 101 r1 r1 (qa 101 r1 r1 (qu YbS r1 (qR rr (qu YbT r1 (qf (o_neq .t .t) r2 qz qZ)))))) V [53,5,2,1] QK fun O=>?_
 refine Zb O Z (fun hc3=>?_) (fun hc3=>?_)
 ·have hg:=ZeK (h:=g) WV
  refine Ya (rZ O qB V DY QK fun O=>(Yh (Zd ?_)))
  refine Zx hfr O Z Z Z (.bool hg)
 have hle:g.orders.length=(Za4 g.txs).length:=WV
 refine Yd (Za (Ya (Ya (rZ O (qg 1 101 r1 r1 (qa 101 r1 r1 (qu YbS r1 (qJ qZ)))) V JM QK fun O=>Ye ?_))))
 refine Zh (σ:=(Nat)) [1,2,5,55,56] [0,101] (fun s=>[(57,.pv (.int .i64 (s:Int)))]) (fun s=>[]) (fun s=>s≤g.orders.length∧(∀ k,k<s→ZiT g k)) (fun s=>g.orders.length - s) (0) O ⟨rfl,rfl,rfl,rfl,rfl,rfl,tv⟩ ⟨rfl,rfl,tv⟩ ⟨Yo _,fun k hk=>absurd hk (YI k)⟩ ?_
 clear O;intro i a w F hC O
 have hC:=X3
 obtain ⟨F,O⟩:=O.nM JM QK
 have O:=X2
 obtain ⟨hi,hq⟩:=hC
 have hol:=fun hil:i<g.orders.length=>hs.2.at hil
 have hwl:=fun k=>ZcN g.txs k
 refine Ya (rZ O (qL r2) V [58,57,56,55,5,2,1] QK fun O=>Ya ?_)
 refine Zb O Z (fun hc4=>?_) (fun hc4=>?_)
 ·have hil:i<g.orders.length:=Qb
  refine Yd (Za (Ya (Ye (Ya (rS O (qR rr (qy 2 YbS r2 (qf (oR true 2 .t) r1 qz (qf (oH [.int .i64 0,.slice none 0 0] 103) trivial qz (qO rr (qS 2 103 r2 r1 qZ)))))) V [57,56,55,7,6,5,2,1] Jg fun τ O=>?_)))))
  have O:=X0
  generalize τ 7=v7 at O
  try simp only [Yf] at O
  refine Za (Ya (Zr O (qg 0 103 r1 r1 (qa 103 r1 r1 (qR rr (qR rr (qy 1 YbT r2 (qf (oR false 1 .t) r1 qz (qf (o_neq .t .t) r2 qz (qR rr (qv 1 103 Z r2 r1 (qw 103 Z r2 r1 (qk Z (fun h=>oL true 2 101 .is) r2 r1 (qv 0 103 Z r2 r1 (qw 103 Z r2 r1 (qk Z (fun h=>oP (Zkw g (Nn g.orders i).key hs.1) func192 (Args.two (.pagg (.w h)) (.w h))) r3 qz (qk Z (fun h=>oP (ZmM (Nn g.orders i).txs _) func136 (Args.two (.w h) (.w h))) r3 qz (qk Z (fun h=>ZW (.w h)) r2 qz (qf (ZaB .t .t) r2 qz qZ))))))))))))))))) V [78,57,56,55,5,2,1] Jg Z Z fun a w F O=>?_))
  have O:=Xf
  try simp only [Yf] at O
  refine Za (Zb O Z (fun hc5=>?_) (fun hc5=>?_))
  ·have hbad:¬ ZiT g i:=by rintro ⟨g1,g2⟩;have h9:=hc5;simp [g1] at h9;rw [← g1] at h9;exact h9 g2
   have hg:=ZjI hil hbad
   refine Ya (rZ O qB V JM Jg fun O=>(Yh (Zl (Zd (Zd (Zl (Zd ?_)))))))
   refine Zx hfr O Z Z Z (.bool hg)
  have hgood:ZiT g i:=by have h9:=hc5;simp at h9;exact ⟨h9.1,h9.2⟩
  refine Yd (Zf (Za (rZ O (qp r1 (qR rr qZ)) V JM Jg fun O=>?_)))
  replace O:=O.eI 57 i
  obtain ⟨F,O⟩:=O.nM [56,55,5,2,1,57] QK
  exact ⟨(i+1),F,⟨ow,(fun k hk=>by rcases Yw (YC hk) with h9 | h9;exact hq k h9;rw [h9];exact hgood)⟩,O,ow⟩
 have hil:i=g.orders.length:=Qb
 have hg:=Zof hlong hall ow WZ
 refine Ym (Ze (Ze (Zk (Za (Ya (rZ O qB V [2] QK fun O=>Yh ?_))))))
 refine Zx hfr O Z Z Z (.bool hg)
theorem Znx (g:Zw) (hs:Za8 g):FnP prog 74 [.agg (Zi g)] (.bool (decide (ZG g))):=by
 refine FnP.mk func74 Z ntmps74 Z fun B a w F V hfr O=>?_
 have hsl:=hs.1.1
 have hso:=hs.2.1
 refine Ya (rS O (qx 101 r1 qB) V J5 QK fun τ O=>?_)
 have O:=X1
 generalize τ 1=v1 at O
 refine Za (Ya (Ya (rZ O (qg 0 101 r1 r1 (qa 101 r1 r1 (qu YbR r1 (qf (o_gtr .t qi) r1 qz qZ)))) V [11,2,1] QK fun O=>?_)))
 refine Zb O Z (fun hc0=>?_) (fun hc0=>?_)
 ·have hg:=Zep (h:=g) WI
  refine Ya (rZ O qB V J5 QK fun O=>(Yh (Zd ?_)))
  refine Zx hfr O Z Z Z (.bool hg)
 have hlong:g.txs.length≤4096:=WI
 refine Yd (Za (Ya (Ya (rZ O (qg 0 101 r1 r1 (qa 101 r1 r1 (qu YbR r1 (qJ qZ)))) V JZ QK fun O=>Ye ?_))))
 refine Zh (σ:=(Nat)) [1,2,13,14] [0,101] (fun s=>[(15,.pv (.int .i64 (s:Int)))]) (fun s=>[]) (fun s=>s≤g.txs.length∧(∀ k,k<s→ZmD g k)) (fun s=>g.txs.length - s) (0) O ⟨rfl,rfl,rfl,rfl,rfl,tv⟩ ⟨rfl,rfl,tv⟩ ⟨Yo _,fun k hk=>absurd hk (YI k)⟩ ?_
 clear O;intro i a w F hC O
 have hC:=X3
 obtain ⟨F,O⟩:=O.nM JZ QK
 have O:=X2
 obtain ⟨hi,hq⟩:=hC
 have hxl:=fun hil:i<g.txs.length=>hs.1.at hil
 have hiw:0<i→IntKind.wrap .i64 ((i:Int) - 1)=((i - 1:Nat):Int):=fun h0=>by rw [Zj ow];omega
 refine Ya (rZ O (qL r2) V [16,15,14,13,2,1] QK fun O=>Ya ?_)
 refine Zb O Z (fun hc1=>?_) (fun hc1=>?_)
 ·have hil:i<g.txs.length:=WH
  refine Yd (Za (Ya (Ye (Ya (rS O (qR rr (qy 3 YbR r2 (qf (oR true 3 .t) r1 qz (qf (oH [.int .i64 0,.bool false,.slice none 0 0] 102) trivial qz (qO rr (qS 3 102 r2 r1 qZ)))))) V [15,14,13,4,3,2,1] QI fun τ O=>?_)))))
  have O:=X0
  generalize τ 4=v4 at O
  try simp only [Yf] at O
  refine Za (Ya (Zr O (qR rr (qf (o_gtr .t qi) r1 qz (qR rr (qv 0 101 Z r2 r1 (qw 101 Z r2 r1 (qm Z Z Z Z (qk Z (fun h=>o_sub (.w h) qi) r2 qz (qk Z (fun h=>Zah (sz:=3) (.mk YbR kr) Wt (.w h) (.w h) Kn Kn) r3 qz (qk Z (fun h=>oG 0 (.w h)) r2 qz (qk Z (fun h=>oR false 1 (.w h)) r2 qz (qv 0 102 Z r2 r1 (qw 102 Z r2 r1 (qk Z (fun h=>Zcb (.w h) (.w h)) r3 qz (qf (ZF .t .t) r2 qz (qR rr (qk Z (fun h=>oL true 3 102 .is) r2 r1 (qk Z (fun h=>oP (Zpc (Nn g.txs i)) func85 (Args.one (.pagg (.w h)))) r2 qz (qk Z (fun h=>o_neq (.w h) qi) r2 qz (qf (ZaB .t .t) r2 qz (qR rr (qk Z (fun h=>oL true 2 101 .is) r2 r1 (qk Z (fun h=>oL true 3 102 .is) r2 r1 (qk Z (fun h=>oP (Zr6 g (Nn g.txs i) hs.1 Kk) func139 (Args.two (.pagg (.w h)) (.pagg (.w h)))) r3 qz (qk Z (fun h=>ZW (.w h)) r2 qz (qf (ZaB .t .t) r2 qz qZ))))))))))))))))))))))))) V [44,15,14,13,2,1] QI Z Z fun a w F O=>?_))
  have O:=Xf
  try simp only [Yf] at O
  refine Za (Zb O Z (fun hc2=>?_) (fun hc2=>?_))
  ·have hbad:¬ ZmD g i:=by
     rintro ⟨g1,g2,g3⟩
     have h9:=hc2
     by_cases hi0:0<i
     · rw [hiw hi0,Yf] at h9
       have:=g1 hi0
       simp [g2,g3] at h9
       omega
     · have hi1:i=0:=ow
       subst hi1
       simp [g2,g3] at h9
   have hg:=Zgd hil hbad
   refine Ya (rZ O qB V JZ QI fun O=>(Yh (Zl (Zd (Zd (Zl (Zd ?_)))))))
   refine Zx hfr O Z Z Z (.bool hg)
  have hgood:ZmD g i:=by
    have h9:=hc2
    by_cases hi0:0<i
    · rw [hiw hi0,Yf] at h9
      simp at h9
      exact ⟨fun _=>by omega,ow,h9.2⟩
    · have hi1:i=0:=ow
      subst hi1
      simp at h9
      exact ⟨fun h0=>absurd h0 (Nat.lt_irrefl 0),h9.1,h9.2⟩
  refine Yd (Zf (Za (rZ O (qp r1 (qR rr qZ)) V JZ QI fun O=>?_)))
  replace O:=O.eI 15 i
  obtain ⟨F,O⟩:=O.nM [14,13,2,1,15] QK
  exact ⟨(i+1),F,⟨ow,(fun k hk=>by rcases Yw (YC hk) with h9 | h9;exact hq k h9;rw [h9];exact hgood)⟩,O,ow⟩
 have hil:i=g.txs.length:=WH
 have hall:∀ k,k<g.txs.length→ZmD g k:=WZ
 have hkn:=Zkh hs.1
 refine Ym (Ze (Ze (Zk (Za (Ya ?_)))))
 replace O:=O.fresh 103 rfl
 refine rS O (qe 2 101 r1 r1 (qf (Zdq 103 (Zqm g hs.1) func140 Z kr (Args.one (.pagg .t)) Zf1) r1 r1 (qO rr qZ))) V DY Jg fun τ O=>?_
 try dsimp only [RS.sub,SF.sub,CF.sub,csub,Anc.sub,List.map,xD,xE,xT,xU,ldSF,Zi,rTx,Zp,ZR,Zo,rOp] at O
 generalize τ 47=v47 at O
 replace O:=O.turn 103 Z (r':=RS.hp (HP.ex fun s:List (GE Int (List Int))×Nat=>HP.and (WrL s.1 g.txs) (mapG (fun l:List Int=>PV.sl Zo l) (fun _=>True) (fun n:Int=>Value.int .i64 n) s.1 s.2 v47))) (fun _ _ _ _ h=>h)
 obtain ⟨sm,O⟩:=O.open_ex 103 rfl
 obtain ⟨hwm,O⟩:=O.open_and 103 rfl
 obtain ⟨es,ck⟩:=sm
 try dsimp only at hwm O
 replace O:=O.turn 103 Z (r':=.ob (.val v47) (mapG (fun l:List Int=>PV.sl Zo l) (fun _=>True) (fun n:Int=>Value.int .i64 n) es ck)) (fun _ _ _ _ h=>h)
 have hgw:=Zuh hwm
 have hml:=Zur hwm
 obtain ⟨F,O⟩:=O.nM DY Jg
 refine Za (Ya (Ya (rZ O (qR rr (qf (Zn1 103 underlying127 .is ow) r1 r1 (qg 1 101 r1 r1 (qa 101 r1 r1 (qu YbS r1 (qf (o_neq .t .t) r2 qz qZ)))))) V [53,5,2,1] Jg fun O=>?_)))
 refine Zb O Z (fun hc3=>?_) (fun hc3=>?_)
 ·have hg:=ZeK (h:=g) WV
  refine Ya (rZ O qB V DY Jg fun O=>(Yh (Zd ?_)))
  refine Zx hfr O Z Z Z (.bool hg)
 have hle:g.orders.length=(Za4 g.txs).length:=WV
 refine Yd (Za (Ya (Ya (rZ O (qg 1 101 r1 r1 (qa 101 r1 r1 (qu YbS r1 (qJ qZ)))) V JM Jg fun O=>Ye ?_))))
 refine Zh (σ:=(Nat)) [1,2,5,55,56] [0,101,103] (fun s=>[(57,.pv (.int .i64 (s:Int)))]) (fun s=>[]) (fun s=>s≤g.orders.length∧(∀ k,k<s→ZhB g k)) (fun s=>g.orders.length - s) (0) O ⟨rfl,rfl,rfl,rfl,rfl,rfl,tv⟩ ⟨rfl,rfl,rfl,tv⟩ ⟨Yo _,fun k hk=>absurd hk (YI k)⟩ ?_
 clear O;intro i a w F hC O
 have hC:=X3
 obtain ⟨F,O⟩:=O.nM JM Jg
 have O:=X2
 obtain ⟨hi,hq⟩:=hC
 have hol:=fun hil:i<g.orders.length=>hs.2.at hil
 have hwl:=fun k=>ZcN g.txs k
 have hiw:0<i→IntKind.wrap .i64 ((i:Int) - 1)=((i - 1:Nat):Int):=fun h0=>by rw [Zj ow];omega
 refine Ya (rZ O (qL r2) V [58,57,56,55,5,2,1] Jg fun O=>Ya ?_)
 refine Zb O Z (fun hc4=>?_) (fun hc4=>?_)
 ·have hil:i<g.orders.length:=Qb
  refine Yd (Za (Ya (Ye (Ya (rS O (qR rr (qy 2 YbS r2 (qf (oR true 2 .t) r1 qz (qf (oH [.int .i64 0,.slice none 0 0] 104) trivial qz (qO rr (qS 2 104 r2 r1 qZ)))))) V [57,56,55,7,6,5,2,1] DM fun τ O=>?_)))))
  have O:=X0
  generalize τ 7=v7 at O
  try simp only [Yf] at O
  refine Za (Ya (Zr O (qR rr (qf (o_gtr .t qi) r1 qz (qR rr (qv 1 101 Z r2 r1 (qw 101 Z r2 r1 (qm Z Z Z Z (qk Z (fun h=>o_sub (.w h) qi) r2 qz (qk Z (fun h=>Zah (sz:=2) (.mk YbS kr) Wt (.w h) (.w h) Kn Kn) r3 qz (qk Z (fun h=>oG 0 (.w h)) r2 qz (qk Z (fun h=>oR false 1 (.w h)) r2 qz (qv 0 104 Z r2 r1 (qw 104 Z r2 r1 (qk Z (fun h=>Zcb (.w h) (.w h)) r3 qz (qf (ZF .t .t) r2 qz (qR rr (qv 1 104 Z r2 r1 (qw 104 Z r2 r1 (qk Z (fun h=>Zbp YbT (.w h)) r2 qz (qk Z (fun h=>o_eql (.w h) qi) r2 qz (qf (ZaB .t .t) r2 qz (qR rr (qv 1 104 Z r2 r1 (qw 104 Z r2 r1 (qm Z Z Z Z (qv 0 104 Z r2 r1 (qw 104 Z r2 r1 (qk Z (fun h=>ZaP (ek:=(fun l:List Int=>PV.sl Zo l)) (z0:=([]:List Int)) 103 underlying127 (Zea YbV) kr (fun _ _=>ZtI) (.w h .is) (Z5.int (.w h) Z)) r3 r1 (qk Z (fun h=>oP (Zuk (Nn g.orders i).txs _ (by have:=hol hil;omega) (by rw [hgw];have:=hwl (Nn g.orders i).key;omega)) func37 (Args.two (.w h) (.w h))) r3 qz (qk Z (fun h=>ZW (.w h)) r2 qz (qf (ZaB .t .t) r2 qz qZ)))))))))))))))))))))))))))))) V [91,57,56,55,5,2,1] DM Z Z fun a w F O=>?_))
  have O:=Xf
  try simp only [Yf] at O
  refine Za (Zb O Z (fun hc5=>?_) (fun hc5=>?_))
  ·have hbad:¬ ZhB g i:=by
     rintro ⟨g1,g2,g3⟩
     have h9:=hc5
     rw [hgw] at h9
     have g4:(Nn g.orders i).txs.length≠0:=fun e=>g2 (YX e)
     by_cases hi0:0<i
     · rw [hiw hi0,Yf] at h9
       have:=g1 hi0
       simp [g2,g3] at h9
       omega
     · have hi1:i=0:=ow
       subst hi1
       simp [g2,g3] at h9
   have hg:=ZhZ hil hbad
   refine Ya (rZ O qB V JM DM fun O=>(Yh (Zl (Zd (Zd (Zl (Zd ?_)))))))
   refine Zx hfr O Z Z Z (.bool hg)
  have hgood:ZhB g i:=by
    have h9:=hc5
    rw [hgw] at h9
    by_cases hi0:0<i
    · rw [hiw hi0,Yf] at h9
      simp at h9
      exact ⟨fun _=>by omega,h9.1.2,h9.2⟩
    · have hi1:i=0:=ow
      subst hi1
      simp at h9
      exact ⟨fun h0=>absurd h0 (Nat.lt_irrefl 0),h9.1,h9.2⟩
  refine Yd (Zf (Za (rZ O (qp r1 (qR rr qZ)) V JM DM fun O=>?_)))
  replace O:=O.eI 57 i
  obtain ⟨F,O⟩:=O.nM [56,55,5,2,1,57] Jg
  exact ⟨(i+1),F,⟨ow,(fun k hk=>by rcases Yw (YC hk) with h9 | h9;exact hq k h9;rw [h9];exact hgood)⟩,O,ow⟩
 have hil:i=g.orders.length:=Qb
 have hg:=Zln hlong hall ow WZ
 refine Ym (Ze (Ze (Zk (Za (Ya (rZ O qB V [2] Jg fun O=>Yh ?_))))))
 refine Zx hfr O Z Z Z (.bool hg)
theorem Zih (d:ZK):(((decide (ZZ TxD.id d.was) && decide (ZZ TxD.id d.now)) && decide (ZZ OrdD.key d.old)) && decide (ZZ OrdD.key d.new))=decide (Zcy d):=by
 rw [Yaa]
 simp only [Yx,Yj]
 exact ⟨fun ⟨⟨⟨h1,h2⟩,h3⟩,h4⟩=>⟨h1,h2,h3,h4⟩,fun ⟨h1,h2,h3,h4⟩=>⟨⟨⟨h1,h2⟩,h3⟩,h4⟩⟩
def Zf9 (d:ZK):Prop:=Za8 ⟨d.was,d.old⟩∧Za8 ⟨d.now,d.new⟩
theorem Zf9.ok {d:ZK} (h:Zf9 d):DOk d:=by
 obtain ⟨⟨⟨h1,h2⟩,h3,h4⟩,⟨h5,h6⟩,h7,h8⟩:=h
 dsimp only at h1 h2 h3 h4 h5 h6 h7 h8
 exact ⟨⟨ow,fun t ht=>by have:=h2 t ht;omega⟩,⟨ow,fun t ht=>by have:=h6 t ht;omega⟩,⟨ow,fun t ht=>by have:=h4 t ht;omega⟩,⟨ow,fun t ht=>by have:=h8 t ht;omega⟩⟩
theorem Za3.less {u v:List TxD} (h:Za3 u):Za3 (Zaa TxD.id u v):=⟨YT (Zb7 _ _) h.1,fun t ht=>h.2 t (ZdN ht)⟩
theorem ZbS.less {u v:List OrdD} (h:ZbS u):ZbS (Zaa OrdD.key u v):=⟨YT (Zb7 _ _) h.1,fun t ht=>h.2 t (ZdN ht)⟩
def Zvh (g1 g2:Zw):ZK:=⟨Zaa TxD.id g1.txs g2.txs,Zaa TxD.id g2.txs g1.txs,Zaa OrdD.key g1.orders g2.orders,Zaa OrdD.key g2.orders g1.orders⟩
theorem Zgb:ZfL [.is (.slice none 0 0),.is (.slice none 0 0)] (Zi noH):=⟨.nilSl,.nilSl,tv⟩
theorem ZsC:ZfL [.is (.slice none 0 0),.is (.slice none 0 0),.is (.slice none 0 0),.is (.slice none 0 0)] (ZC noD):=⟨.nilSl,.nilSl,.nilSl,.nilSl,tv⟩
def ZbG (g:Zw) (d:ZK):Prop:=Za8 g∧Zf9 d∧Za8 (Zca g d)
theorem ZbG.turn {g:Zw} {d:ZK} (h:ZbG g d):Za8 (Zca g d):=h.2.2
theorem ZbG.of {g:Zw} {d:ZK} (h1:Za8 g) (h2:Zf9 d) (h3:g.txs.length+d.now.length≤1000) (h4:g.orders.length+d.new.length≤1000):ZbG g d:=by
 refine ⟨h1,h2,⟨YT Zgv h3,fun t ht=>?_⟩,YT Zgv h4,fun t ht=>?_⟩
 ·rcases Zd4.1 ht with e | e
  ·exact h1.1.2 t e.1
  ·exact h2.2.1.2 t e
 ·rcases Zd4.1 ht with e | e
  ·exact h1.2.2 t e.1
  ·exact h2.2.2.2 t e
theorem ZnO.of {l:List TxD} (h:Za3 l):ZnO l:=⟨by have:=h.1;omega,fun t ht=>by have:=h.2 t ht;omega⟩
theorem Zh9.of {l:List OrdD} (h:ZbS l):Zh9 l:=⟨by have:=h.1;omega,fun t ht=>by have:=h.2 t ht;omega⟩
theorem Zri (d:ZK) (hd:DOk d):FnP prog 110 [.agg (ZC d)] (.bool (decide (Zcy d))):=by
 refine FnP.mk func110 Z ntmps110 Z fun B a w F V hfr O=>Ya ?_
 refine rS O (qx 101 r1 qB) V J5 QK fun τ O=>?_
 have O:=Xq
 generalize τ 1=v1 at O
 refine Za (Ya (rZ O (qg 0 101 r1 r1 (qa 101 r1 r1 (qf (oP (Znf d.was hd.was.1) func176 (Args.two .t (.conv .f (Ent.fnClos)))) r1 qz (qR rr (qv 1 101 Z r2 r1 (qw 101 Z r2 r1 (qk Z (fun h=>oP (Znf d.now hd.now.1) func176 (Args.two (.w h) (.conv .f (Ent.fnClos)))) r2 qz (qf (ZF .t .t) r2 qz (qR rr (qv 2 101 Z r2 r1 (qw 101 Z r2 r1 (qk Z (fun h=>oP (Znv d.old hd.old.1) func177 (Args.two (.w h) (.conv .f (Ent.fnClos)))) r2 qz (qf (ZF .t .t) r2 qz (qR rr (qv 3 101 Z r2 r1 (qw 101 Z r2 r1 (qk Z (fun h=>oP (Znv d.new hd.new.1) func177 (Args.two (.w h) (.conv .f (Ent.fnClos)))) r2 qz (qf (ZF .t .t) r2 qz (qO rr qZ))))))))))))))))))) V [2] QK fun O=>Yh ?_))
 refine Zx hfr O Z Z Z (.bool (Zih d))
theorem ZqU (g:Zw) (d:ZK) (hsd:ZbG g d):FnP prog 60 [.agg (Zi g),.agg (ZC d)] (.tup [.agg (Zi (ZE g d).1),.int .i64 (ZE g d).2]):=by
 refine FnP.mk func60 Z ntmps60 Z fun B a w F V hfr O=>Ya ?_
 refine rS O (qx 101 r1 (qx 102 r1 (qf (oH [.slice none 0 0,.slice none 0 0] 103) trivial qz (qI qZ)))) V J3 QJ fun τ O=>?_
 have O:=Xq
 generalize τ 2=v2,τ 3=v3,τ 4=v4 at O
 refine Za (Ya (Ye (Ya (rZ O (qe 2 101 r1 r1 (qf (oP (Znx g hsd.1) func74 (Args.one (.pagg .t))) r1 qz (qf (ZW .t) r1 qz (qR rr (qk Z (fun h=>oL true 4 102 .is) r2 r1 (qk Z (fun h=>oP (Zri d hsd.2.1.ok) func110 (Args.one (.pagg (.w h)))) r2 qz (qk Z (fun h=>ZW (.w h)) r2 qz (qf (ZaB .t .t) r2 qz (qO rr qZ))))))))) V [7,5,4,3,2] QJ fun O=>?_))))
 refine Zb O Z (fun hc0=>?_) (fun hc0=>?_)
 ·have h9:(!decide (ZG g) || !decide (Zcy d))=true:=hc0
  have hg:ZE g d=(noH,5):=by unfold ZE;rw [Yg Ko]
  refine Ya (rZ O (qf (oB [] [.slice none 0 0,.slice none 0 0] [(0,1),(1,1)] .nil) trivial qz (qs 2 103 r2 r1 (qI qZ))) V J3 QJ fun O=>(Yh (Zl (Zd ?_))))
  refine ZU hfr O Z (.cl 103 true 2 Z Z (.tmp Z .nil)) (.two Kp (.int Wr))
 have h9:(!decide (ZG g) || !decide (Zcy d))=false:=hc0
 have hr:ZG g∧Zcy d:=KI
 refine Ya (rZ O (qg 0 101 r1 r1 (qa 101 r1 r1 (qg 0 102 r1 r1 (qa 102 r1 r1 (qg 1 102 r1 r1 (qa 102 r1 r1 (qf (oP (Ztn g.txs d.was d.now (by have:=hsd.2.1.1.1.1;dsimp only at this;omega)) func111 (Args.five .t .t .t (.conv .f (Ent.fnClos)) (.conv .f (Ent.fnClos)))) r3 qz (qf (ZW .t) r1 qz (qR rr (qv 1 101 Z r2 r1 (qw 101 Z r2 r1 (qv 2 102 Z r2 r1 (qw 102 Z r2 r1 (qv 3 102 Z r2 r1 (qw 102 Z r2 r1 (qk Z (fun h=>oP (ZsM g.orders d.old d.new (by have:=hsd.2.1.1.2.1;dsimp only at this;omega)) func112 (Args.five (.w h) (.w h) (.w h) (.conv .f (Ent.fnClos)) (.conv .f (Ent.fnClos)))) r4 qz (qk Z (fun h=>ZW (.w h)) r2 qz (qf (ZaB .t .t) r2 qz (qO rr qZ))))))))))))))))))) V [17,5,4,3,2] QJ fun O=>?_)
 refine Zb O Z (fun hc1=>?_) (fun hc1=>?_)
 ·have h9:(!ZaZ TxD.id g.txs d.was d.now || !ZaZ OrdD.key g.orders d.old d.new)=true:=hc1
  have hg:ZE g d=(noH,17):=by unfold ZE;rw [Yb WP,Yg (by unfold Zcm;rw [← Bool.not_eq_true,Yx];rintro ⟨e1,e2⟩;rw [e1,e2] at h9;cases h9)]
  refine Ya (rZ O (qf (oB [] [.slice none 0 0,.slice none 0 0] [(0,1),(1,1)] .nil) trivial qz (qs 2 103 r2 r1 (qI qZ))) V J3 QJ fun O=>(Yh (Zl (Zd ?_))))
  refine ZU hfr O Z (.cl 103 true 2 Z Z (.tmp Z .nil)) (.two Kp (.int Wr))
 have h9:(!ZaZ TxD.id g.txs d.was d.now || !ZaZ OrdD.key g.orders d.old d.new)=false:=hc1
 have hf:ZaZ TxD.id g.txs d.was d.now=true∧ZaZ OrdD.key g.orders d.old d.new=true:=KI
 have hfd:¬ Zcm g d=false:=by unfold Zcm;rw [hf.1,hf.2];simp
 refine Yd (Zf (Za (Ya (rT O (qg 0 101 r1 r1 (qa 101 r1 r1 (qg 0 102 r1 r1 (qa 102 r1 r1 (qg 1 102 r1 r1 (qa 102 r1 r1 (qf (oP (ZpS g.txs d.was d.now (by have:=hsd.1.1.1;omega) (by have:=hsd.2.1.2.1.1;dsimp only at this;omega) (Zgl hr.1.rise.1.unl hr.2.2.1.unl hf.1)) func113 (Args.four .t .t .t (.conv .f (Ent.fnClos)))) r3 qz (qg 1 101 r1 r1 (qa 101 r1 r1 (qg 2 102 r1 r1 (qa 102 r1 r1 (qg 3 102 r1 r1 (qa 102 r1 r1 (qf (oP (ZpI g.orders d.old d.new (by have:=hsd.1.2.1;omega) (by have:=hsd.2.1.2.2.1;dsimp only at this;omega) (Zgl hr.1.rise.2.unl hr.2.2.2.2.unl hf.2)) func114 (Args.four .t .t .t (.conv .f (Ent.fnClos)))) r3 qz (qf (oB [(0,.tmp 43),(1,.tmp 50)] [.slice none 0 0,.slice none 0 0] [(0,1),(1,1)] (.one Z .t Zaf kr (.one Z .t Zaf kr .nil))) r2 qz (qf (oH [.slice none 0 0,.slice none 0 0] 104) trivial qz (qS 2 104 r2 r1 qZ))))))))))))))))) V Xas QN fun τ O=>?_))))
 have O:=X5
 generalize τ 6=v6 at O
 refine Za (Ya (Ya (rZ O (qe 2 104 r1 r1 (qf (oP (Znx (Zca g d) hsd.turn) func74 (Args.one (.pagg .t))) r1 qz (qf (ZW .t) r1 qz qZ))) V [54,6,5,4] QN fun O=>?_)))
 refine Zb O Z (fun hc2=>?_) (fun hc2=>?_)
 ·have hr2:¬ ZG (Zca g d):=WD
  have hg:ZE g d=(noH,8):=by unfold ZE;rw [Yb WP,Yb hfd,Yb hr2]
  refine Ya (rZ O (qf (oB [] [.slice none 0 0,.slice none 0 0] [(0,1),(1,1)] .nil) trivial qz (qs 2 103 r2 r1 (qI qZ))) V Xas QN fun O=>(Yh (Zd ?_)))
  refine ZU hfr O Z (.cl 103 true 2 Z Z (.tmp Z .nil)) (.two Kp (.int Wr))
 have hr2:ZG (Zca g d):=WD
 have hg:ZE g d=(Zca g d,0):=by unfold ZE;rw [Yb WP,Yb hfd,Yg hr2]
 refine Yd (Za (Ya (Zr O (qg 0 104 r1 r1 (qa 104 r1 r1 (qf (oP (ZuE (Zca g d).txs (ZnO.of hsd.turn.1).1 (ZnO.of hsd.turn.1).2) func115 (Args.one .t)) r1 qz (qg 1 104 r1 r1 (qa 104 r1 r1 (qf (oP (Zq7 (Zca g d).orders (Zh9.of hsd.turn.2).1 (Zh9.of hsd.turn.2).2) func116 (Args.one .t)) r1 qz (qf (oB [(0,.tmp 58),(1,.tmp 61)] [.slice none 0 0,.slice none 0 0] [(0,1),(1,1)] (.one Z .t Zaf kr (.one Z .t Zaf kr .nil))) r2 qz (qs 2 103 r2 r1 (qI qZ))))))))) V Jf QN Z Z fun a w F O=>?_)))
 have O:=XL
 refine Za (Yh (ZU hfr O Z (.cl 103 true 2 Z Z (.tmp Z .nil)) (.two Kp (.int Wr))))
section
variable {α:Type} {κ:α→Int}
variable [DecidableEq α]
end
section
variable {P:Program} {d:Option Nat} {ty:TypeId} {pos:String} {af:Array Edge} {g:Option (Nat×Bool)} {x y:Operand} {ps qs:List (Nat×SF)} {t:TypeId} {α:Type}
theorem Zbg {kt:TypeId} (hk:P.underlying kt=some (.int .i64)):Zoz P kt (fun n:Int=>inR .i64 n) (fun n:Int=>Value.int .i64 n):=
 ⟨fun b k w _=>(Zea hk).check b k w tv,fun es k w _ _=>(Zea hk).find es k w trivial fun _ _=>trivial,(Zea hk).same⟩
theorem Z5.intR {n k:Int} (h:Opd x ps (.pv (.int .i64 n))) (e:n=k):Z5 (fun n:Int=>inR .i64 n) (fun n:Int=>Value.int .i64 n) x ps k:=fun a w yy hp=>by
 subst e
 exact h a w yy hp
end
abbrev MPI (es:List (GE Int Int)) (ck:Nat):Value→HP:=mapG (fun c:Int=>PV.int .i64 c) (fun n:Int=>inR .i64 n) (fun n:Int=>Value.int .i64 n) es ck
end Go.Proofs.YtfecljadegkmdaaGreat
namespace Go.Proofs.YtfecljadegkmdaaGreat
open Go Go.Gm Tryz
set_option linter.unusedVariables false
set_option linter.unusedSimpArgs false
set_option maxHeartbeats 4000000
set_option maxRecDepth 8000
open Go.RowKit Go.Maps Go.Sort Go.Shelf Go.ChangeMaps Go.MapKept
def ZrC (x:Int):List Value:=[.int .i64 x]
def ZpP (x:Int):Value:=.int .i64 x
def Zvc (v:Value):Int:=match v with
 | .int _ x=>x
 | _=>0
theorem Zr3 (x:Int):Zvc (ZpP x)=x:=rfl
theorem Zrh (x:Int):∀ u ∈ [Value.int .i64 x],u.oneCell' = true:=by simp [Value.oneCell']
theorem ZpG {w:World} {y:Ys} : ∀ {l:List Int},(∀ x ∈ l,inR .i64 x)→PVs (l.flatMap Zo) (l.flatMap ZrC) w y
 | [],_=>trivial
 | x :: l,h=>⟨⟨rfl,rfl,h x W5⟩,ZpG fun z hz=>h z WK⟩
end Go.Proofs.YtfecljadegkmdaaGreat
namespace Go.Proofs.YtfecljadegkmdaaGreat
open Go Go.Gm Tryz
set_option linter.unusedVariables false
set_option linter.unusedSimpArgs false
set_option maxHeartbeats 4000000
set_option maxRecDepth 8000
open Go.RowKit Go.Maps Go.Sort Go.Shelf Go.ChangeMaps Go.MapKept
theorem Zpn (w:World) (l:List Value) (t:TypeId):∀ j u,l[j]? = some u→(w.alloc (.cells l.toArray t)).cell? ((⟨w.heap.size,0,none⟩:Addr).add j)=some u:=by
 intro j u hj
 rw [show (⟨w.heap.size,0,none⟩:Addr).add j = ⟨w.heap.size,j,none⟩ from by cases j <;> simp [Addr.add]]
 rw [ZbK (vs:=l.toArray) (T:=t) (fr:=(0,0)) (World.alloc_heap_new w _)]
 simpa using hj
def ZfN : Code := (Code.region 2 #[{ dst := some 5, op := Op.assign (Operand.tmp 7), type := 3, pos := "iter.go:51", after := #[], guard := none }] false)
def ZiZ : Code := (Code.block 1 (Code.region 3 #[{ dst := some 8, op := Op.load 37 (Operand.tmp 2), type := 37, pos := "iter.go:52", after := #[], guard := none }, { dst := some 9, op := Op.move (Operand.tmp 5), type := 3, pos := "iter.go:52", after := #[], guard := none }, { dst := some 10, op := Op.buildSlice 37 1 #[(0, Operand.tmp 9)], type := 37, pos := "iter.go:52", after := #[{ on := 1, ground := Ground.data }], guard := none }, { dst := some 11, op := Op.call { callee := Callee.builtin Builtin.append, args := #[Operand.tmp 8, Operand.tmp 10], argTypes := #[37, 37] }, type := 37, pos := "iter.go:52", after := #[{ on := 0, ground := Ground.data }, { on := 2, ground := Ground.data }], guard := none }, { dst := none, op := Op.store 37 (Operand.tmp 2) (Operand.tmp 11), type := 0, pos := "iter.go:52", after := #[{ on := 3, ground := Ground.data }, { on := 3, ground := Ground.chain }, { on := 0, ground := Ground.phase }, { on := 1, ground := Ground.phase }, { on := 2, ground := Ground.phase }, { on := 3, ground := Ground.phase }], guard := none }] false))
def kcApRec (fn:FuncId) (sv:Value) (Bs D:Nat) (st:LoopState) (pend:Option Code):Loop:=
 { state:=st,pending:=pend,fn,tmps:=#[.slice none 0 0,sv,.pointer (some ⟨Bs,0,none⟩),undef,.slice none 0 0,undef,sv,undef,undef,undef,undef,undef,undef],params:=#[7],assign:=ZfN,body:=ZiZ,defers:=D }
structure Zj0 (w0:World) (fn:FuncId) (sv:Value) (Bs l D:Nat) (ss:List Int) (W:World):Prop where
 box:∃ v,W.heap[Bs]? = some (.cells #[v] 37 (0,0))∧W.ownsRow w0.heap.size 3 1 v ss.length (ss.flatMap ZrC)∧(v = .slice none 0 0 ↔ ss = [])
 L:W.heap[l]? = some (.loop (kcApRec fn sv Bs D .ready none))
 K:W.heap[D]? = some (.deferred (some []))
 below:Below w0.heap.size w0 W
theorem ZlP (w0:World) (fn:FuncId) (sv:Value) (Bs l D B:Nat) (V:w0.heap.size≤B):AbidesFrom B (Zj0 w0 fn sv Bs l D):=fun s W W' row h hg hrow=>by
 have hrow':∀ r,row=some r → ∃ o:Obj,W.heap[r]? = some o∧o.isWalk=true:=fun r e=>(hrow r e).2
 obtain ⟨v,hv,hr,hn⟩:=h.box
 exact ⟨⟨v,(grownBy_keeps hg hrow' hv rfl).trans hv,ownsRow_abides_a hr hg hrow',hn⟩,(grownBy_keeps hg hrow' h.L rfl).trans h.L,(grownBy_keeps hg hrow' h.K rfl).trans h.K,
  h.below.grown hg h.below.size (fun k e=>YT V (hrow k e).1)⟩
set_option maxRecDepth 100000 in
set_option maxHeartbeats 2000000 in
theorem Zp3 (F:Fence) (m:Nat) (w0:World) (fn:FuncId) (hfn:F.fn fn) (sv:Value) (Bs l D:Nat) (hBl:Bs≠l) (hDl:D≠l) (hDB:D≠Bs) (h0B:w0.heap.size≤Bs) (h0l:w0.heap.size≤l)
   (N:Nat) (hN:N≤maxLen) (hNb:N*8≤140737488355328) (ss:List Int) (x:Int) (W:World) (h:Zj0 w0 fn sv Bs l D ss W) (hlen:ss.length<N) :
   YieldAt F m prog l #[(.int .i64 x)] W fun e W'=>e = .returned (.bool true)∧Zj0 w0 fn sv Bs l D (ss ++ [x]) W' ∧ KeepsWalks W W':=by
 have hne:37≠3:=We
 obtain ⟨i0,hi,hz0,hz1,hz2⟩:=info_parts (show (prog.info? 3).map (fun i=>(i.zero,i.size,i.bytes))=some (some (.int .i64 0),1,8) from by kernel_rfl)
 obtain ⟨v,hv,hrow,_⟩:=h.box
 refine ⟨fn,#[.slice none 0 0,sv,.pointer (some ⟨Bs,0,none⟩),undef,.slice none 0 0,undef,sv,(.int .i64 x),undef,undef,undef,undef,undef],ZfN,ZiZ,by simpa [kcApRec] using run_yield (P:=prog) (args:=#[(.int .i64 x)]) h.L rfl,roundIn_of_wpIn hfn ?_⟩
 have hl:l<W.heap.size:=(Y6.1 h.L).1
 have hbr:=run_beginRound (P:=prog) h.L rfl
 obtain ⟨W2,hW2⟩:∃ W2,W.putObj l (.loop { kcApRec fn sv Bs D .ready none with state:=.busy })=W2:=⟨_,rfl⟩
 rw [hW2] at hbr
 have hg2:W.grownBy W2 (some l):=by rw [← hW2];exact grownBy_putObj_a _ _ _
 have hk2:KeepsWalks W W2:=by rw [← hW2];exact KeepsWalks.putObj _ h.L rfl
 have hv2:W2.heap[Bs]? = some (.cells #[v] 37 (0,0)):=by rw [← hW2];exact (World.putObj_heap_other hBl).trans hv
 have hK2:W2.heap[D]? = some (.deferred (some [])):=by rw [← hW2];exact (World.putObj_heap_other hDl).trans h.K
 have hL2:W2.heap[l]? = some (.loop { kcApRec fn sv Bs D .ready none with state:=.busy }):=by rw [← hW2];exact World.putObj_heap_same hl
 have hrow2:W2.ownsRow w0.heap.size 3 1 v ss.length (ss.flatMap ZrC):=hrow.kept hg2 (ownsRow_ne_a hrow h.L (fun cur e=>by first | cases e | exact hne (Ybn e).2.1))
 have hb2:Below w0.heap.size w0 W2:=h.below.grown hg2 h.below.size (fun k e=>by cases e;exact h0l)
 obtain ⟨hc2,hf2⟩:=cell_of_box_a hv2
 have hBlt:Bs<W2.heap.size:=(Y6.1 hv2).1
 have hl2:l<W2.heap.size:=(Y6.1 hL2).1
 have hDlt:D<W2.heap.size:=(Y6.1 hK2).1
 have ne_of:∀ {j:Nat} {o:Obj},W2.heap[j]? = some o→(∀ cur,o ≠ .cells cur 3 (0,0))→some j≠v.ownBlock:=fun hj hno=>by
   rcases ownsRow_ne_a hrow2 hj hno with e | e
   · rw [e];simp
   · exact fun e'=>e e'.symm
 clear hW2
 unfold ZfN
 gi_wp2_with gi_round_op_a
 unfold ZiZ
 gi_wp2_with (first
   | (gi_at_builtin;refine wpListIn_append_own _ rfl _ _ 37 rfl w0.heap.size 3 i0 (.int .i64 0) 1 8 YbT hi hz0 hz1 hz2 rfl We _ _ _ rfl (hrow2.alloc _) ⟨W2.heap.size,0,none⟩ 1 1 ([.int .i64 x]) rfl rfl (Zpn _ _ _) (Zrh x) ow ow (by have:=hb2.size;simp;omega) ?_;intro v' w3 hown' hg3 hnil3
      have hv3:w3.heap[Bs]? = some (.cells #[v] 37 (0,0)):=(hg3.block Bs Wb (ne_of hv2 (fun cur e=>by first | cases e | exact hne (Ybn e).2.1))).trans ((Below.heap_alloc _ _ Bs hBlt).trans hv2)
      obtain ⟨hc3,hf3⟩:=cell_of_box_a hv3
      obtain ⟨g',cap',cur',rfl,hbase',hgb',hr1,hr2,hr3,hr4⟩:∃ g' cap' cur',v' = .slice (some ⟨g',0,none⟩) (ss.length+1) cap' ∧ w0.heap.size≤g' ∧ w3.heap[g']? = some (.cells cur' 3 (0,0))∧ss.length+1≤cap' ∧ cap' ≤ maxLen∧cur'.size=cap' * 1∧cur'.toList.take ((ss.length+1)*1)=ss.flatMap ZrC ++ [.int .i64 x]:=by
        rcases hown'.2 with ⟨_,h0⟩ | h'
        · exact absurd h0 ow
        · exact h'
      go_frame)
   | gi_round_op_a)
 have hg3':(W2.alloc (.cells ([.int .i64 x]).toArray 3)).grownBy w3 v.ownBlock:=hg3
 have hL3:w3.heap[l]? = some (.loop { kcApRec fn sv Bs D .ready none with state:=.busy }):=(hg3'.block l Wb (ne_of hL2 (fun cur e=>by first | cases e | exact hne (Ybn e).2.1))).trans ((Below.heap_alloc _ _ l hl2).trans hL2)
 have hK3:w3.heap[D]? = some (.deferred (some [])):=(hg3'.block D Wb (ne_of hK2 (fun cur e=>by first | cases e | exact hne (Ybn e).2.1))).trans ((Below.heap_alloc _ _ D hDlt).trans hK2)
 obtain ⟨w4,hw4⟩:∃ w4,w3.setCell ⟨Bs,0,none⟩ (.slice (some ⟨g',0,none⟩) (ss.length+1) cap')=w4:=⟨_,rfl⟩
 rw [hw4]
 have hg4:w3.grownBy w4 (some Bs):=by rw [← hw4];exact grownBy_setCell0_a _ _ _
 have hv4:w4.heap[Bs]? = some (.cells #[.slice (some ⟨g',0,none⟩) (ss.length+1) cap'] 37 (0,0)):=by rw [← hw4];exact heap_setCell_box_a _ hv3
 have hL4:w4.heap[l]? = some (.loop { kcApRec fn sv Bs D .ready none with state:=.busy }):=(hg4.block l (Y6.1 hL3).1 (fun e=>hBl (by cases e;rfl))).trans hL3
 have hK4:w4.heap[D]? = some (.deferred (some [])):=(hg4.block D (Y6.1 hK3).1 (fun e=>hDB (by cases e;rfl))).trans hK3
 have hrow4:=hown'.kept hg4 (ownsRow_ne_a hown' hv3 (fun cur e=>by first | cases e | exact hne (Ybn e).2.1))
 have hl4:l<w4.heap.size:=(Y6.1 hL4).1
 have hb3:Below w0.heap.size w0 w3:=(hb2.alloc hb2.size _).grown hg3' (by have:=hb2.size;simp;omega) (fun k e=>(hrow2.lt k e).1)
 have hb4:Below w0.heap.size w0 w4:=hb3.grown hg4 hb3.size (fun k e=>by cases e;exact h0B)
 have hk4:KeepsWalks W w4:=((hk2.trans (KeepsWalks.alloc _ _)).trans (KeepsWalks.of_grownBy hg3' (ownsRow_not_walk_a (hrow2.alloc _)))).trans (by rw [← hw4];exact KeepsWalks.setCell _ _ _)
 clear hw4
 refine ⟨_,_,run_endRound none hL4,rfl,⟨⟨_,(World.putObj_heap_other hBl).trans hv4,?_,by simp⟩,World.putObj_heap_same hl4,(World.putObj_heap_other hDl).trans hK4,hb4.grown (grownBy_putObj_a _ _ _) hb4.size (fun k e=>by cases e;exact h0l)⟩,hk4.trans (KeepsWalks.putObj _ hL4 Z)⟩
 have:=hrow4.kept (grownBy_putObj_a w4 l (.loop { { kcApRec fn sv Bs D .ready none with state:=.busy } with state:=if (none:Option Code).isNone then .ready else .done,pending:=none })) (ownsRow_ne_a hrow4 hL4 (fun cur e=>by first | cases e | exact hne (Ybn e).2.1))
 rw [Ya9,show [x].flatMap ZrC = [.int .i64 x] from rfl,Yc]
 simpa using this
set_option maxRecDepth 100000 in
set_option maxHeartbeats 2000000 in
theorem ZhY (F:Fence) (n:Nat) (h11:F.fn 241) (hro:F.round=none) (hn:2≤n) (g:Nat) (lb:Array Value) (hFg:F.fn g) (eg:∀ args w,(callFunc g args).run prog w = .ok (.enter g args) w)
  (S:List Int→Prop) (N:Nat) (hN:N≤maxLen) (hNb:N*8≤140737488355328) (w:World) (hseq:SeqGives F (n - 1) prog g lb ZpP S N w) :
  CallsIn F n prog 241 #[.slice none 0 0,.func (.func g) #[] lb] w fun e w'=>∃ (v:Value) (ss:List Int),e = .returned v∧S ss∧w'.ownsRow w.heap.size 3 1 v ss.length (ss.flatMap ZrC)∧(v = .slice none 0 0 ↔ ss = [])∧Below w.heap.size w w':=by
 have h1:1≤n:=ow
 have hne:37≠3:=We
 refine callsIn_of_wp_marks func241 Z h11 ?_ hro
 simp only [ntmps241,YaH,Yl,Yn,Nat.reduceAdd,Nat.reduceSub,Array.replicate_succ,Array.replicate_zero,List.push_toArray,List.append_toArray,Yao,Y1]
 gi_wp2
 refine wpIn_rangeFunc ?_
 intro fn hfn
 rw [hro]
 obtain ⟨W0,hW0⟩:∃ W0,w.alloc (.cells #[.slice none 0 0] 37)=W0:=⟨_,rfl⟩
 have hs0:W0.heap.size=w.heap.size+1:=by rw [← hW0];simp
 have hv0:W0.heap[w.heap.size]? = some (.cells #[.slice none 0 0] 37 (0,0)):=by rw [← hW0];exact World.alloc_heap_new w _
 have hb0:Below w.heap.size w W0:=by rw [← hW0];exact (Below.refl _ w).alloc (YE _) _
 rw [hW0]
 obtain ⟨W1,hW1⟩:∃ W1,(W0.alloc (.deferred (some []))).alloc (.loop (kcApRec fn (.func (.func g) #[] lb) w.heap.size W0.heap.size .ready none))=W1:=⟨_,rfl⟩
 have hold:∀ k,k<W0.heap.size→W1.heap[k]? = W0.heap[k]?:=fun k hk=>by
  rw [← hW1];exact (Below.heap_alloc _ _ k Wb).trans (Below.heap_alloc _ _ k hk)
 have hb1:Below w.heap.size w W1:=by rw [← hW1];exact (hb0.alloc hb0.size _).alloc (by have:=hb0.size;simp;omega) _
 have hs1:W1.heap.size=W0.heap.size+2:=by rw [← hW1];simp
 have hM:Zj0 w fn (.func (.func g) #[] lb) w.heap.size (W0.heap.size+1) W0.heap.size [] W1:=
  ⟨⟨_,(hold w.heap.size ow).trans hv0,⟨rfl,.inl ⟨rfl,rfl⟩⟩,by simp⟩,
   by rw [← hW1];have:=World.alloc_heap_new (W0.alloc (.deferred (some []))) (.loop (kcApRec fn (.func (.func g) #[] lb) w.heap.size W0.heap.size .ready none));rwa [World.size_alloc] at this,
   by rw [← hW1];exact (Below.heap_alloc _ _ _ W5).trans (World.alloc_heap_new W0 _),hb1⟩
 refine ⟨W0.heap.size+1,[{ target:=.collected W0.heap.size,args:=#[] }],W1,{ target:=.fn (.func g) lb,args:=#[.func (.yield (W0.heap.size+1)) #[] #[]] },W1,g,
  #[.func (.yield (W0.heap.size+1)) #[] #[]] ++ lb,W1,?_,?_,?_,?_,fun _=>h1,?_⟩
 ·rw [← hW1];exact run_enterLoop_outer _ _ _ _ _
 ·simp [resolve,go_sem]
 ·intro f' hf';simp [Target.leads] at hf';subst hf';exact hFg
 ·simp [invoke,go_sem,eg]
 ·refine (hseq (W0.heap.size+1) (Zj0 w fn (.func (.func g) #[] lb) w.heap.size (W0.heap.size+1) W0.heap.size) W1 hb1 (ZlP _ _ _ _ _ _ _ hb1.size)
    (fun pre x W hJ hl=>Zp3 F (n - 1 - 1) w fn hfn _ w.heap.size (W0.heap.size+1) W0.heap.size ow ow ow (YE _) ow N hN hNb pre x W hJ hl) hM).mono ?_
  rintro e W2 ⟨⟨v0,rfl⟩,ss,O,h2⟩
  obtain ⟨v,hv,hrow,hnil⟩:=h2.box
  have hend:=run_endLoop (P:=prog) h2.L (by simp [kcApRec])
  obtain ⟨W3,hW3⟩:∃ W3,W2.putObj (W0.heap.size+1) (.loop { kcApRec fn (.func (.func g) #[] lb) w.heap.size W0.heap.size .ready none with state:=.exhausted })=W3:=⟨_,rfl⟩
  rw [hW3] at hend
  have hg3:W2.grownBy W3 (some (W0.heap.size+1)):=by rw [← hW3];exact grownBy_putObj_a _ _ _
  have hv3:W3.heap[w.heap.size]? = some (.cells #[v] 37 (0,0)):=by rw [← hW3];exact (World.putObj_heap_other ow).trans hv
  have hK3:W3.heap[W0.heap.size]? = some (.deferred (some [])):=by rw [← hW3];exact (World.putObj_heap_other ow).trans h2.K
  have hrow3:=hrow.kept hg3 (ownsRow_ne_a hrow h2.L (fun cur e=>by first | cases e | exact hne (Ybn e).2.1))
  have hb3:Below w.heap.size w W3:=h2.below.grown hg3 h2.below.size (fun k e=>by cases e;omega)
  obtain ⟨hc3,hf3⟩:=cell_of_box_a hv3
  clear hW3
  refine ⟨none,W3,hend,?_⟩
  gi_wp2
  rw [← hs0]
  refine ⟨by simp,.inl ⟨_,_,rfl,run_takeDeferred hK3,?_⟩⟩
  exact ⟨_,results_tmp rfl _ _ _,v,ss,rfl,O,hrow3.kept (grownBy_putObj_a _ _ _) (ownsRow_ne_a hrow3 hK3 (fun cur e=>by first | cases e | exact hne (Ybn e).2.1)),hnil,hb3.grown (grownBy_putObj_a _ _ _) hb3.size (fun k e=>by cases e;omega)⟩
set_option maxHeartbeats 1000000 in
theorem Zlb (F:Fence) (n:Nat) (h8:F.fn 166) (h11:F.fn 241) (hro:F.round=none) (hn:3≤n) (g:Nat) (lb:Array Value) (hFg:F.fn g) (eg:∀ args w,(callFunc g args).run prog w = .ok (.enter g args) w)
  (S:List Int→Prop) (N:Nat) (hN:N≤maxLen) (hNb:N*8≤140737488355328) (w:World) (hseq:SeqGives F (n - 1 - 1) prog g lb ZpP S N w) :
  CallsIn F n prog 166 #[.func (.func g) #[] lb] w fun e w'=>∃ (v:Value) (ss:List Int),e = .returned v∧S ss∧w'.ownsRow w.heap.size 3 1 v ss.length (ss.flatMap ZrC)∧(v = .slice none 0 0 ↔ ss = [])∧Below w.heap.size w w':=by
 have h1:1≤n:=ow
 have e11:∀ args w,(callFunc 241 args).run prog w = .ok (.enter 241 args) w:=enters_of func241 kr rfl
 refine callsIn_of_wp func166 Z h8 ?_ hro
 simp only [ntmps166,YaH,Yl,Yn,Nat.reduceAdd,Nat.reduceSub,Array.replicate_succ,Array.replicate_zero,List.push_toArray,List.append_toArray,Yao,Y1]
 gi_wp2_with (gi_at_fn 241;refine (ZhY F (n - 1) h11 hro ow g lb hFg eg S N hN hNb _ hseq).mono ?_;rintro e w' ⟨v,ss,rfl,O,hrow,hnil,hb⟩)
 go_ret
 exact ⟨v,ss,rfl,O,hrow,hnil,hb⟩
end Go.Proofs.YtfecljadegkmdaaGreat
namespace Go.Proofs.YtfecljadegkmdaaGreat
open Go Go.Gm Tryz
set_option linter.unusedVariables false
set_option linter.unusedSimpArgs false
set_option maxHeartbeats 4000000
set_option maxRecDepth 8000
def Zn7 (room2:Int) (q2:List Cell) (t:Zae):St:=Zdh q2.length (allS room2 ((tList t).length+1) q2 0 (tList t))
theorem ZsN (o:Option Nat) (room:Int) (q:List Cell) (root:Int) (t0:Zae) (hr0:Rep id q t0 root) (hs:ZB t0≤1000000) (o2:Option Nat) (room2:Int) (q2:List Cell):FnG prog 186 2 [.agg [.is (arV o),.int .i64 root],.is (arV o2)] [arH o room q,arH o2 room2 q2] (.tup [.agg [.is (arV o2),.int .i64 (Zn7 room2 q2 t0).2.2],.int .i64 (Zn7 room2 q2 t0).2.1]) (fun _=>[arH o room q,arH o2 room2 (Zn7 room2 q2 t0).1]):=by
 refine FnG.mk func186 Z ntmps186 Z kr fun B F0 a w F V hG O=>?_
 have hg:(Zn7 room2 q2 t0)=Zdh q2.length (allS room2 ((tList t0).length+1) q2 0 (tList t0)):=rfl
 refine Ya (rS O (qx 101 r1 (qf (oH [.pointer none,.int .i64 0] 102) trivial qz (qI qZ))) V Js DJ fun τ O=>?_)
 have O:=Xc
 generalize τ 2=v2,τ 4=v4 at O
 refine Za (Ya (rS O (qR rr (qf (oP (ZjZ o2) func104 (Args.one .t)) r1 qz (qf (oB [(0,.tmp 9)] [.pointer none,.int .i64 0,.int .i64 0] [(0,2),(2,1)] (.agg Z (.conv .t .agg) kr kr .nil)) r1 qz (qf (oX 103 .t) r1 qz (qO rr qZ))))) V GM [103,102,101,2,1,0] fun τ O=>?_))
 try dsimp only [RS.sub,SF.sub,CF.sub,csub,Anc.sub,List.map,Zc,xL,xM,Nat.reduceAdd,xD,xE,xT,xU,xC,xN,zCF,Z3,Zt] at O
 generalize τ 11=v11 at O
 refine Za (Ya (rZ O (qR rr (qf (o_callG1 2 (ZmA o2 room2 q2) func182 Z kr (Args.one .t)) r1 r1 (qO rr qZ))) V [7,6,5,4,2] [103,102,101,2,1,0] fun O=>Ya ?_))
 obtain ⟨b,rfl⟩:=O.shape 103 rfl
 have O:=O.fresh 4 rfl
 obtain ⟨F,O⟩:=O.push 4 2 Z Z Z kr
 obtain ⟨F,O⟩:=O.push 4 103 Z Z Z kr
 have O:=O.turn 4 Z (r':=RS.hp (ZaE 242 (.pointer (some ⟨b,0,none⟩)) o2 0 0 room2 q2)) (fun _ _ _ _ h=>h)
 obtain ⟨F,O⟩:=O.nM [7,6,5,4,2] [102,101,4,1,0]
 refine rZ O (qR rr (qR rr (qe 2 101 r1 r1 (qf (o_callG1 1 (ZoR o room q root t0 hr0 hs) func56 Z kr (Args.one (.pagg .t))) r1 r1 (qf (o_callG1 4 (Zuc b o2 0 room2 ((tList t0).length+1) q2 0 (tList t0) (Nat.lt_succ_self _)) func250 Z kr (Args.two .t .t)) r2 r1 (qR rr (qf (o_callG1 4 (ZlM b o2 0 (allS room2 ((tList t0).length+1) q2 0 (tList t0)).2.1 room2 (allS room2 ((tList t0).length+1) q2 0 (tList t0)).1 (allS room2 ((tList t0).length+1) q2 0 (tList t0)).2.2 q2.length) func183 Z kr (Args.three .t .t .t)) r3 r1 (qf (o_extract .t Z) r1 qz (qf (o_extract .t Z) r1 qz (qf (oA 2 102 .is (.conv .t .agg)) r2 r1 (qO rr qZ))))))))))) V Jf [102,4,1,0] fun O=>Yh ?_
 obtain ⟨F,O⟩:=O.peel 4 7 Z rfl
 obtain ⟨F,O⟩:=O.peel 4 2 Z rfl
 have O:=O.turn 2 Z (r':=RS.hp (arH o2 room2 (Zn7 room2 q2 t0).1)) (fun _ _ _ _ h=>by rw [hg];exact h)
 refine Zll hG O Z (.cl 102 true 2 Z Z (.tmp Z .nil)) (.two (.aggU Z WA) (.int WA)) Z rfl
end Go.Proofs.YtfecljadegkmdaaGreat
