/- Laws and walks. No condition beyond what each says. -/
import Derived.Test.YtfecljadegkmdaaGreatJ9
namespace Go.Proofs.YtfecljadegkmdaaGreat
open Go Go.Gm Tryz
set_option linter.unusedVariables false
set_option linter.unusedSimpArgs false
set_option maxHeartbeats 4000000
set_option maxRecDepth 8000
theorem ZmI (b ob nb:Nat) (seqs:List (List Int)) (Live:Nat→Prop) (qo q:List Cell) (c:RtC) (mv:Value) (nx:Int) (alv sqv:Value) (sr:List SqC) (mm:Value) (es:List (GE Int Int)) (ck:Nat) (K:Int) (r:RtA) (hI:MvI seqs Live qo q (arV (some ob)) (arV (some nb)) sr es K) (hr:Zbs qo (arV (some ob)) c r) (hti:r.txs.length≤65536) (hov:∀ p ∈ r.orders,0≤p.val∧p.val<seqs.length) (hlv:∀ p ∈ r.orders,Live p.val.toNat) (hroom:q.length+r.txs.length+r.orders.length+Zad seqs r.orders≤65536) (hK:0≤K∧K≤1000000000000):FnG prog 121 1 [.is (.pointer (some ⟨b,0,none⟩)),.is (shift 1 (.pointer (some ⟨b,0,none⟩))),.is mm] [.star (Znp (.pointer (some ⟨b,0,none⟩)) (arV (some ob)) ob nb qo q c mv nx alv sqv sr mm es ck)] (.tup []) (fun _=>[.ex fun x:MvC=>.and (Zd7 seqs Live r qo q (arV (some ob)) (arV (some nb)) es K x) (.star (Znp (.pointer (some ⟨b,0,none⟩)) (arV (some nb)) ob nb qo x.q x.c mv nx alv sqv x.sr mm x.es x.ck))]):=by
 refine FnG.mk func121 Z ntmps121 Z kr fun B F0 a w F V hG O=>?_
 obtain ⟨F,O⟩:=O.peel 1 2 Z rfl
 obtain ⟨F,O⟩:=O.peel 1 3 Z rfl
 obtain ⟨F,O⟩:=O.peel 1 4 Z rfl
 obtain ⟨F,O⟩:=O.peel 1 5 Z rfl
 obtain ⟨F,O⟩:=O.peel 1 6 Z rfl
 dsimp only [Znw] at O
 replace O:=O.ent (i:=1) (s':=.adr (.val (.pointer (some ⟨b,0,none⟩))) 1) Z Ent.kAdr
 obtain ⟨F,O⟩:=O.nM [2,1,0] [6,5,4,3,2,0]
 obtain ⟨e1,ro1,hM1,hR1,hE1⟩:=Zkd ob nb (q:=q) hr.t ow
 obtain ⟨e2,ro2,hM2,hR2,hE2⟩:=Zkd ob nb (q:=q++e1) hr.o (by rw [Yb];omega)
 refine Ya (Zq O (qR rr (qR rr (qf (o_nilCheck 2 .adr (by rfl)) r1 r1 (qf (oF 0 2 .adr) r1 r1 (qf (oL true 2 2 .adr) r1 r1 (qR rr (qf (o_nilCheck 2 .is (by rfl)) r1 r1 (qf (oF 0 2 .adr) r1 r1 (qa 2 r1 r1 (qf (o_callG2c 3 4 (hM1) func186 Z kr Z (Args.two (.pagg .t) .t)) r2 r2 (qR rr (qf (o_extract .t Z) r1 qz (qf (o_extract .t Z) r1 qz (qf (o_nilCheck 2 .adr (by rfl)) r1 r1 (qf (oF 0 2 .adr) r1 r1 (qf (oA 2 2 .adr (.conv .t .agg)) r2 r1 qZ)))))))))))))))) V [2,1,0] [6,5,4,3,2,0] Z Z fun a w F O=>?_)
 try dsimp only [List.map,Ze,xL,xM,Nat.reduceAdd,xD,xE,xT,xU,xC,xN,zCF,ldSF,rRt,rSq,Zx,rTx,ZB,Zs,ZG,rOp] at O
 refine Za (Ya (Zq O (qR rr (qR rr (qf (o_nilCheck 2 .adr (by rfl)) r1 r1 (qf (oF 2 2 .adr) r1 r1 (qf (oL true 2 2 .adr) r1 r1 (qR rr (qf (o_nilCheck 2 .is (by rfl)) r1 r1 (qf (oF 0 2 .adr) r1 r1 (qa 2 r1 r1 (qf (o_callG2c 3 4 (hM2) func186 Z kr Z (Args.two (.pagg .t) .t)) r2 r2 (qR rr (qf (o_extract .t Z) r1 qz (qf (o_extract .t Z) r1 qz (qf (o_nilCheck 2 .adr (by rfl)) r1 r1 (qf (oF 2 2 .adr) r1 r1 (qf (oA 2 2 .adr (.conv .t .agg)) r2 r1 qZ)))))))))))))))) V [2,1,0] [6,5,4,3,2,0] Z Z fun a w F O=>?_))
 try dsimp only [List.map,Ze,xL,xM,Nat.reduceAdd,xD,xE,xT,xU,xC,xN,zCF,ldSF,rRt,rSq,Zx,rTx,ZB,Zs,ZG,rOp] at O
 refine Za (Ya (rZ O (qR rr (qf (o_nilCheck 2 .adr (by rfl)) r1 r1 (qf (oF 2 2 .adr) r1 r1 (qf (oL true 2 2 .adr) r1 r1 (qf (o_callG1 4 (ZeO nb hR2 ow) func56 Z kr (Args.one (.pagg .t))) r1 r1 (qu YbC r1 (qJ qZ))))))) V [44,43,42,2,0] [6,5,4,3,2,0] fun O=>Ye ?_))
 refine Zo (σ:=(Nat)×(List Cell)×(List SqC)×(List (GE Int Int))×(Nat)) [0,2,42,43] [0,2,3] (fun s=>[(44,.pv (.int .i64 (s.1:Int)))]) (fun s=>[(4,RS.hp (arH (some nb) 65536 s.2.1)),(5,.ob (.val sqv) (ZJ 114 2 rSq s.2.2.1)),(6,.ob (.val mm) (MPI s.2.2.2.1 s.2.2.2.2))]) (fun s=>s.1≤r.orders.length∧(MvI seqs Live qo s.2.1 (arV (some ob)) (arV (some nb)) s.2.2.1 s.2.2.2.1 (K+(s.1:Int))∧(∃ e,s.2.1=q++e1++e2++e∧e.length≤Zad seqs (r.orders.take s.1))∧(∀ k,0<gvA es k→0<gvA s.2.2.2.1 k) ∧ ∀ j,j<s.1→0<gvA s.2.2.2.1 (Nn r.orders j).val)) (fun s=>r.orders.length - s.1) ((0),(q++e1++e2),(sr),(es),(ck)) O ⟨rfl,rfl,rfl,rfl,rfl,tv⟩ ⟨rfl,rfl,rfl,rfl,rfl,rfl,tv⟩ ⟨Yz _,⟨(by show MvI seqs Live qo (q++e1++e2) _ _ sr es (K+0);rw [Int.add_zero];exact (hI.app e1).app e2),⟨[],(by simp),Yz _⟩,fun _ h=>h,fun j hj=>absurd hj (YR j)⟩⟩ ?_
 clear O;intro s a w F hC O
 obtain ⟨i,qq,sr1,es1,ck1⟩:=s
 try dsimp only at hC
 obtain ⟨F,O⟩:=O.nM [44,43,42,2,0] [6,5,4,3,2,0]
 try dsimp only at O
 obtain ⟨hi,hq⟩:=hC
 obtain ⟨hI1,⟨e0,hqq,hql⟩,hkp,hal⟩:=hq
 refine Ya (rZ O (qL r2) V [45,44,43,42,2,0] [6,5,4,3,2,0] fun O=>Ya ?_)
 refine Zd O Z (fun hc0=>?_) (fun hc0=>?_)
 ·have hil:i<r.orders.length:=by simp at hc0;omega
  have hv:=hov _ (Z8 hil)
  have hsl:=hI1.len
  have hcl:=Zgf (seqs:=seqs) hil
  have hgb:=hI1.gv (Nn r.orders i).val
  have hqn:=Yaf List.length hqq
  simp only [Yb] at hqn
  refine Yf (Za (Ya (Ye (Ya (Zb O (qy 2 YbC r2 (qf (oR true 2 .t) r1 qz (qf (oH [.int .i64 0,.int .i64 0] 101) trivial qz (qS 2 101 r2 r1 qZ)))) V [44,43,42,7,2,0] [101,6,5,4,3,2,0] (fun _=>rfl) (fun _=>rfl) fun τ a w F O=>?_)))))
  try dsimp only [RS.sub,SF.sub,CF.sub,csub,Anc.sub,List.map,Ze,xL,xM,Nat.reduceAdd,xD,xE,xT,xU,xC,xN,zCF,ldSF,rRt,rSq,Zx,rTx,ZB,Zs,ZG,rOp] at O
  generalize τ 7=v7 at O
  try simp only [Yg] at O
  refine Za (Ya (Zf O (qR rr (qg 1 101 r1 r1 (qa 101 r1 r1 (qf (Zaw (ek:=(fun c:Int=>PV.int .i64 c)) (z0:=(0:Int)) 6 YbH (ZaN YbA) kr (fun _ _=>⟨rfl,Zf0⟩) .is (ZX.intR .t Z)) r2 r1 (qp r1 (qf (Za3 (ek:=(fun c:Int=>PV.int .i64 c)) 6 YbH (ZaN YbA) .is (ZX.intR .t Z) .t) r3 r1 qZ)))))) V [44,43,42,7,2,0] [101,6,5,4,3,2,0] Z Z fun a w F O=>?_))
  have hw1:IntKind.wrap .i64 ((gGet (Nn r.orders i).val es1).getD 0+1)=gvA es1 (Nn r.orders i).val+1:=Zc (by show -9223372036854775808≤gvA es1 (Nn r.orders i).val+1∧gvA es1 (Nn r.orders i).val+1≤9223372036854775807;omega)
  rw [hw1] at O
  obtain ⟨es2,hes⟩:∃ z,z=(gPut (Nn r.orders i).val (gvA es1 (Nn r.orders i).val+1) (es1,ck1)).1:=⟨_,rfl⟩
  obtain ⟨ck2,hck⟩:∃ z,z=(gPut (Nn r.orders i).val (gvA es1 (Nn r.orders i).val+1) (es1,ck1)).2:=⟨_,rfl⟩
  rw [← hes,← hck] at O
  have hgv2:∀ k,gvA es2 k=if k=(Nn r.orders i).val then gvA es1 (Nn r.orders i).val+1 else gvA es1 k:=fun k=>by rw [hes];exact Zov k
  refine Za (Ya (rZ O (qR rr (qg 1 101 r1 r1 (qa 101 r1 r1 (qf (Zaw (ek:=(fun c:Int=>PV.int .i64 c)) (z0:=(0:Int)) 6 YbH (ZaN YbA) kr (fun _ _=>⟨rfl,Zf0⟩) .is (ZX.intR .t Z)) r2 r1 (qf (o_eql .t qi) r1 qz qZ))))) V [57,44,43,42,7,2,0] [101,6,5,4,3,2,0] fun O=>?_))
  refine Zd O Z (fun hc1=>?_) (fun hc1=>?_)
  ·have h19:gvA es2 (Nn r.orders i).val=1:=by simpa [gvA] using hc1
   rw [hgv2,Yd rfl] at h19
   have hg0:gvA es1 ((Nn r.orders i).val.toNat:Int)=0:=by rw [Ya8 hv.1];omega
   have hold:=hI1.old (Nn r.orders i).val.toNat ow (hlv _ (Z8 hil)) hg0
   obtain ⟨e3,ro3,hM3,hR3,hE3⟩:=Zl4 ob nb (q:=qq) (c:=Nn sr1 (Nn r.orders i).val.toNat) hold ow
   have hI3:MvI seqs Live qo (qq++e3) (arV (some ob)) (arV (some nb)) (sr1.set (Nn r.orders i).val.toNat ⟨(arV (some nb)),ro3⟩) es2 (K+((i+1:Nat):Int)):=by rw [← (show K+(i:Int)+1=K+((i+1:Nat):Int) by omega)];exact hI1.first ow hg0 (fun k=>by rw [hgv2 k,Ya8 hv.1]) hR3
   have hq3:∃ e,qq++e3=q++e1++e2++e∧e.length≤Zad seqs (r.orders.take (i+1)):=⟨e0++e3,by rw [hqq];simp,by rw [ZbS hil,Yb];omega⟩
   have hkp3:∀ k,0<gvA es k→0<gvA es2 k:=fun k hk9=>by have h1:=hkp k hk9;have h2:=(hI1.gv (Nn r.orders i).val).1;rw [hgv2];split <;> omega
   have hal3:∀ j,j<i+1→0<gvA es2 (Nn r.orders j).val:=fun j hj=>by
     have h2:=(hI1.gv (Nn r.orders i).val).1
     rw [hgv2]
     rcases YG (YN hj) with h9 | h9
     ·have h1:=hal j h9;split <;> omega
     ·subst h9;rw [Yd rfl];omega
   refine Zq O (qR rr (qf (o_nilCheck 2 .is (by rfl)) r1 r1 (qf (oF 9 2 .adr) r1 r1 (qa 2 r1 r1 (qg 1 101 r1 r1 (qa 101 r1 r1 (qR rr (qf (o_nilCheck 2 .is (by rfl)) r1 r1 (qf (oF 9 2 .adr) r1 r1 (qa 2 r1 r1 (qg 1 101 r1 r1 (qa 101 r1 r1 (qf (o_indexAddr_row (sz:=2) 5 (.mk YbD kr) .is .t ow ow (by rfl)) r2 r1 (qf (Zn (ag:=true) (sz':=2) (sz:=2) 5 .t (by intro x;rfl) ow kr kr kr) r1 r1 (qR rr (qf (o_nilCheck 2 .is (by rfl)) r1 r1 (qf (oF 0 2 .adr) r1 r1 (qa 2 r1 r1 (qf (o_callG2c 3 4 (hM3) func187 Z kr Z (Args.two (.pagg .t) .t)) r2 r2 (qR rr (qf (o_extract .t Z) r1 qz (qf (o_extract .t Z) r1 qz (qf (o_indexAddr_row (sz:=2) 5 (.mk YbD kr) .is .t ow ow (by rfl)) r2 r1 (qf (ZU (R:=rSq) (v:=⟨(arV (some nb)),ro3⟩) (sz:=2) 5 .t (by intro x;rfl) ow .t kr) r2 r1 qZ)))))))))))))))))))))))) V [44,43,42,2,0] [101,6,5,4,3,2,0] Z Z fun a w F O=>?_
   try dsimp only [List.map,Ze,xL,xM,Nat.reduceAdd,xD,xE,xT,xU,xC,xN,zCF,ldSF,rRt,rSq,Zx,rTx,ZB,Zs,ZG,rOp] at O
   try simp only [Yg] at O
   refine Zm (Za (rZ O (qp r1 (qR rr qZ)) V [44,43,42,2,0] [101,6,5,4,3,2,0] fun O=>?_))
   replace O:=O.ent (i:=44) (s':=.pv (.int .i64 ((i+1:Nat):Int))) Z (.int (Zl ow))
   obtain ⟨F,O⟩:=O.nM [43,42,2,0,44] [3,2,0,6,5,4]
   exact ⟨((i+1),(qq++e3),(sr1.set (Nn r.orders i).val.toNat ⟨(arV (some nb)),ro3⟩),(es2),(ck2)),F,⟨by omega,⟨hI3,hq3,hkp3,hal3⟩⟩,O,by omega⟩
  have h19:gvA es2 (Nn r.orders i).val≠1:=by simpa [gvA] using hc1
  rw [hgv2,Yd rfl] at h19
  have hI3:MvI seqs Live qo qq (arV (some ob)) (arV (some nb)) sr1 es2 (K+((i+1:Nat):Int)):=by rw [← (show K+(i:Int)+1=K+((i+1:Nat):Int) by omega)];exact hI1.more (i:=(Nn r.orders i).val) ow hgv2
  have hq3:∃ e,qq=q++e1++e2++e∧e.length≤Zad seqs (r.orders.take (i+1)):=⟨e0,hqq,by rw [ZbS hil];omega⟩
  have hkp3:∀ k,0<gvA es k→0<gvA es2 k:=fun k hk9=>by have h1:=hkp k hk9;have h2:=(hI1.gv (Nn r.orders i).val).1;rw [hgv2];split <;> omega
  have hal3:∀ j,j<i+1→0<gvA es2 (Nn r.orders j).val:=fun j hj=>by
    have h2:=(hI1.gv (Nn r.orders i).val).1
    rw [hgv2]
    rcases YG (YN hj) with h9 | h9
    ·have h1:=hal j h9;split <;> omega
    ·subst h9;rw [Yd rfl];omega
  refine Yf (Zm (Za (rZ O (qp r1 (qR rr qZ)) V [44,43,42,2,0] [101,6,5,4,3,2,0] fun O=>?_)))
  replace O:=O.ent (i:=44) (s':=.pv (.int .i64 ((i+1:Nat):Int))) Z (.int (Zl ow))
  obtain ⟨F,O⟩:=O.nM [43,42,2,0,44] [3,2,0,6,5,4]
  exact ⟨((i+1),(qq),(sr1),(es2),(ck2)),F,⟨by omega,⟨hI3,hq3,hkp3,hal3⟩⟩,O,by omega⟩
 have hil:i=r.orders.length:=by simp at hc0;omega
 have hpost:Zd7 seqs Live r qo q (arV (some ob)) (arV (some nb)) es K ⟨qq,⟨(arV (some nb)),ro1,ro2,c.size⟩,sr1,es1,ck1⟩:=by
   rw [hil] at hI1 hql
   rw [YM] at hql
   exact ⟨⟨e1++e2++e0,by show qq=_;rw [hqq];simp,by simp only [Yb];omega⟩,⟨rfl,by show Zho qq ro1 r.txs;rw [hqq,Ym,Ym];rw [← Ym q];exact hR1.app,by show Zho qq ro2 r.orders;rw [hqq];exact hR2.app,hr.s⟩,hI1,hkp,Zow fun j hj=>hal j ow⟩
 refine Yr (Zj (Zj (Zv ?_)))
 have O:=O.fresh 1 rfl
 obtain ⟨F,O⟩:=O.push 1 6 Z Z Z kr
 obtain ⟨F,O⟩:=O.push 1 5 Z Z Z kr
 obtain ⟨F,O⟩:=O.push 1 4 Z Z Z kr
 obtain ⟨F,O⟩:=O.push 1 3 Z Z Z kr
 obtain ⟨F,O⟩:=O.push 1 2 Z Z Z kr
 have O:=O.turn 1 Z (r':=RS.hp (.ex fun x:MvC=>.and (Zd7 seqs Live r qo q (arV (some ob)) (arV (some nb)) es K x) (.star (Znp (.pointer (some ⟨b,0,none⟩)) (arV (some nb)) ob nb qo x.q x.c mv nx alv sqv x.sr mm x.es x.ck)))) (fun _ _ _ _ h=>⟨⟨qq,⟨(arV (some nb)),ro1,ro2,c.size⟩,sr1,es1,ck1⟩,hpost,h⟩)
 obtain ⟨F,O⟩:=O.nM [] [1,0]
 refine ZA hG O Z .nil .none rfl
theorem ZhL (b ob nb:Nat) (seqs:List (List Int)) (Live:Nat→Prop) (qo q:List Cell) (c:RtC) (mv:Value) (nx:Int) (alv sqv:Value) (sr:List SqC) (mm:Value) (es:List (GE Int Int)) (ck:Nat) (K:Int) (r:RtA) (cn:RtC) (rv:Value) (hI:MvI seqs Live qo q (arV (some ob)) (arV (some nb)) sr es K) (hr:Zbs qo (arV (some ob)) c r) (hti:r.txs.length≤65536) (hov:∀ p ∈ r.orders,0≤p.val∧p.val<seqs.length) (hlv:∀ p ∈ r.orders,Live p.val.toNat) (hroom:q.length+r.txs.length+r.orders.length+Zad seqs r.orders≤65536) (hK:0≤K∧K≤1000000000000):FnG prog 121 1 [.is (.pointer (some ⟨b,0,none⟩)),.is rv,.is mm] [.star (ZpV (.pointer (some ⟨b,0,none⟩)) (arV (some ob)) ob nb qo q cn mv nx alv sqv sr mm es ck rv c)] (.tup []) (fun _=>[.ex fun x:MvC=>.and (Zd7 seqs Live r qo q (arV (some ob)) (arV (some nb)) es K x) (.star (ZpV (.pointer (some ⟨b,0,none⟩)) (arV (some nb)) ob nb qo x.q cn mv nx alv sqv x.sr mm x.es x.ck rv x.c))]):=by
 refine FnG.mk func121 Z ntmps121 Z kr fun B F0 a w F V hG O=>?_
 obtain ⟨F,O⟩:=O.peel 1 2 Z rfl
 obtain ⟨F,O⟩:=O.peel 1 3 Z rfl
 obtain ⟨F,O⟩:=O.peel 1 4 Z rfl
 obtain ⟨F,O⟩:=O.peel 1 5 Z rfl
 obtain ⟨F,O⟩:=O.peel 1 6 Z rfl
 obtain ⟨F,O⟩:=O.peel 1 7 Z rfl
 dsimp only [Znw] at O
 obtain ⟨F,O⟩:=O.nM [2,1,0] [7,6,5,4,3,2,0]
 obtain ⟨e1,ro1,hM1,hR1,hE1⟩:=Zkd ob nb (q:=q) hr.t ow
 obtain ⟨e2,ro2,hM2,hR2,hE2⟩:=Zkd ob nb (q:=q++e1) hr.o (by rw [Yb];omega)
 refine Ya (Zq O (qR rr (qR rr (qf (o_nilCheck 7 .is (by rfl)) r1 r1 (qf (oF 0 7 .adr) r1 r1 (qf (oL true 2 7 .adr) r1 r1 (qR rr (qf (o_nilCheck 2 .is (by rfl)) r1 r1 (qf (oF 0 2 .adr) r1 r1 (qa 2 r1 r1 (qf (o_callG2c 3 4 (hM1) func186 Z kr Z (Args.two (.pagg .t) .t)) r2 r2 (qR rr (qf (o_extract .t Z) r1 qz (qf (o_extract .t Z) r1 qz (qf (o_nilCheck 7 .is (by rfl)) r1 r1 (qf (oF 0 7 .adr) r1 r1 (qf (oA 2 7 .adr (.conv .t .agg)) r2 r1 qZ)))))))))))))))) V [2,1,0] [7,6,5,4,3,2,0] Z Z fun a w F O=>?_)
 try dsimp only [List.map,Ze,xL,xM,Nat.reduceAdd,xD,xE,xT,xU,xC,xN,zCF,ldSF,rRt,rSq,Zx,rTx,ZB,Zs,ZG,rOp] at O
 refine Za (Ya (Zq O (qR rr (qR rr (qf (o_nilCheck 7 .is (by rfl)) r1 r1 (qf (oF 2 7 .adr) r1 r1 (qf (oL true 2 7 .adr) r1 r1 (qR rr (qf (o_nilCheck 2 .is (by rfl)) r1 r1 (qf (oF 0 2 .adr) r1 r1 (qa 2 r1 r1 (qf (o_callG2c 3 4 (hM2) func186 Z kr Z (Args.two (.pagg .t) .t)) r2 r2 (qR rr (qf (o_extract .t Z) r1 qz (qf (o_extract .t Z) r1 qz (qf (o_nilCheck 7 .is (by rfl)) r1 r1 (qf (oF 2 7 .adr) r1 r1 (qf (oA 2 7 .adr (.conv .t .agg)) r2 r1 qZ)))))))))))))))) V [2,1,0] [7,6,5,4,3,2,0] Z Z fun a w F O=>?_))
 try dsimp only [List.map,Ze,xL,xM,Nat.reduceAdd,xD,xE,xT,xU,xC,xN,zCF,ldSF,rRt,rSq,Zx,rTx,ZB,Zs,ZG,rOp] at O
 refine Za (Ya (rZ O (qR rr (qf (o_nilCheck 7 .is (by rfl)) r1 r1 (qf (oF 2 7 .adr) r1 r1 (qf (oL true 2 7 .adr) r1 r1 (qf (o_callG1 4 (ZeO nb hR2 ow) func56 Z kr (Args.one (.pagg .t))) r1 r1 (qu YbC r1 (qJ qZ))))))) V [44,43,42,2,0] [7,6,5,4,3,2,0] fun O=>Ye ?_))
 refine Zo (σ:=(Nat)×(List Cell)×(List SqC)×(List (GE Int Int))×(Nat)) [0,2,42,43] [0,2,3,7] (fun s=>[(44,.pv (.int .i64 (s.1:Int)))]) (fun s=>[(4,RS.hp (arH (some nb) 65536 s.2.1)),(5,.ob (.val sqv) (ZJ 114 2 rSq s.2.2.1)),(6,.ob (.val mm) (MPI s.2.2.2.1 s.2.2.2.2))]) (fun s=>s.1≤r.orders.length∧(MvI seqs Live qo s.2.1 (arV (some ob)) (arV (some nb)) s.2.2.1 s.2.2.2.1 (K+(s.1:Int))∧(∃ e,s.2.1=q++e1++e2++e∧e.length≤Zad seqs (r.orders.take s.1))∧(∀ k,0<gvA es k→0<gvA s.2.2.2.1 k) ∧ ∀ j,j<s.1→0<gvA s.2.2.2.1 (Nn r.orders j).val)) (fun s=>r.orders.length - s.1) ((0),(q++e1++e2),(sr),(es),(ck)) O ⟨rfl,rfl,rfl,rfl,rfl,tv⟩ ⟨rfl,rfl,rfl,rfl,rfl,rfl,rfl,tv⟩ ⟨Yz _,⟨(by show MvI seqs Live qo (q++e1++e2) _ _ sr es (K+0);rw [Int.add_zero];exact (hI.app e1).app e2),⟨[],(by simp),Yz _⟩,fun _ h=>h,fun j hj=>absurd hj (YR j)⟩⟩ ?_
 clear O;intro s a w F hC O
 obtain ⟨i,qq,sr1,es1,ck1⟩:=s
 try dsimp only at hC
 obtain ⟨F,O⟩:=O.nM [44,43,42,2,0] [7,6,5,4,3,2,0]
 try dsimp only at O
 obtain ⟨hi,hq⟩:=hC
 obtain ⟨hI1,⟨e0,hqq,hql⟩,hkp,hal⟩:=hq
 refine Ya (rZ O (qL r2) V [45,44,43,42,2,0] [7,6,5,4,3,2,0] fun O=>Ya ?_)
 refine Zd O Z (fun hc0=>?_) (fun hc0=>?_)
 ·have hil:i<r.orders.length:=by simp at hc0;omega
  have hv:=hov _ (Z8 hil)
  have hsl:=hI1.len
  have hcl:=Zgf (seqs:=seqs) hil
  have hgb:=hI1.gv (Nn r.orders i).val
  have hqn:=Yaf List.length hqq
  simp only [Yb] at hqn
  refine Yf (Za (Ya (Ye (Ya (Zb O (qy 2 YbC r2 (qf (oR true 2 .t) r1 qz (qf (oH [.int .i64 0,.int .i64 0] 101) trivial qz (qS 2 101 r2 r1 qZ)))) V [44,43,42,7,2,0] [101,7,6,5,4,3,2,0] (fun _=>rfl) (fun _=>rfl) fun τ a w F O=>?_)))))
  try dsimp only [RS.sub,SF.sub,CF.sub,csub,Anc.sub,List.map,Ze,xL,xM,Nat.reduceAdd,xD,xE,xT,xU,xC,xN,zCF,ldSF,rRt,rSq,Zx,rTx,ZB,Zs,ZG,rOp] at O
  generalize τ 7=v7 at O
  try simp only [Yg] at O
  refine Za (Ya (Zf O (qR rr (qg 1 101 r1 r1 (qa 101 r1 r1 (qf (Zaw (ek:=(fun c:Int=>PV.int .i64 c)) (z0:=(0:Int)) 6 YbH (ZaN YbA) kr (fun _ _=>⟨rfl,Zf0⟩) .is (ZX.intR .t Z)) r2 r1 (qp r1 (qf (Za3 (ek:=(fun c:Int=>PV.int .i64 c)) 6 YbH (ZaN YbA) .is (ZX.intR .t Z) .t) r3 r1 qZ)))))) V [44,43,42,7,2,0] [101,7,6,5,4,3,2,0] Z Z fun a w F O=>?_))
  have hw1:IntKind.wrap .i64 ((gGet (Nn r.orders i).val es1).getD 0+1)=gvA es1 (Nn r.orders i).val+1:=Zc (by show -9223372036854775808≤gvA es1 (Nn r.orders i).val+1∧gvA es1 (Nn r.orders i).val+1≤9223372036854775807;omega)
  rw [hw1] at O
  obtain ⟨es2,hes⟩:∃ z,z=(gPut (Nn r.orders i).val (gvA es1 (Nn r.orders i).val+1) (es1,ck1)).1:=⟨_,rfl⟩
  obtain ⟨ck2,hck⟩:∃ z,z=(gPut (Nn r.orders i).val (gvA es1 (Nn r.orders i).val+1) (es1,ck1)).2:=⟨_,rfl⟩
  rw [← hes,← hck] at O
  have hgv2:∀ k,gvA es2 k=if k=(Nn r.orders i).val then gvA es1 (Nn r.orders i).val+1 else gvA es1 k:=fun k=>by rw [hes];exact Zov k
  refine Za (Ya (rZ O (qR rr (qg 1 101 r1 r1 (qa 101 r1 r1 (qf (Zaw (ek:=(fun c:Int=>PV.int .i64 c)) (z0:=(0:Int)) 6 YbH (ZaN YbA) kr (fun _ _=>⟨rfl,Zf0⟩) .is (ZX.intR .t Z)) r2 r1 (qf (o_eql .t qi) r1 qz qZ))))) V [57,44,43,42,7,2,0] [101,7,6,5,4,3,2,0] fun O=>?_))
  refine Zd O Z (fun hc1=>?_) (fun hc1=>?_)
  ·have h19:gvA es2 (Nn r.orders i).val=1:=by simpa [gvA] using hc1
   rw [hgv2,Yd rfl] at h19
   have hg0:gvA es1 ((Nn r.orders i).val.toNat:Int)=0:=by rw [Ya8 hv.1];omega
   have hold:=hI1.old (Nn r.orders i).val.toNat ow (hlv _ (Z8 hil)) hg0
   obtain ⟨e3,ro3,hM3,hR3,hE3⟩:=Zl4 ob nb (q:=qq) (c:=Nn sr1 (Nn r.orders i).val.toNat) hold ow
   have hI3:MvI seqs Live qo (qq++e3) (arV (some ob)) (arV (some nb)) (sr1.set (Nn r.orders i).val.toNat ⟨(arV (some nb)),ro3⟩) es2 (K+((i+1:Nat):Int)):=by rw [← (show K+(i:Int)+1=K+((i+1:Nat):Int) by omega)];exact hI1.first ow hg0 (fun k=>by rw [hgv2 k,Ya8 hv.1]) hR3
   have hq3:∃ e,qq++e3=q++e1++e2++e∧e.length≤Zad seqs (r.orders.take (i+1)):=⟨e0++e3,by rw [hqq];simp,by rw [ZbS hil,Yb];omega⟩
   have hkp3:∀ k,0<gvA es k→0<gvA es2 k:=fun k hk9=>by have h1:=hkp k hk9;have h2:=(hI1.gv (Nn r.orders i).val).1;rw [hgv2];split <;> omega
   have hal3:∀ j,j<i+1→0<gvA es2 (Nn r.orders j).val:=fun j hj=>by
     have h2:=(hI1.gv (Nn r.orders i).val).1
     rw [hgv2]
     rcases YG (YN hj) with h9 | h9
     ·have h1:=hal j h9;split <;> omega
     ·subst h9;rw [Yd rfl];omega
   refine Zq O (qR rr (qf (o_nilCheck 2 .is (by rfl)) r1 r1 (qf (oF 9 2 .adr) r1 r1 (qa 2 r1 r1 (qg 1 101 r1 r1 (qa 101 r1 r1 (qR rr (qf (o_nilCheck 2 .is (by rfl)) r1 r1 (qf (oF 9 2 .adr) r1 r1 (qa 2 r1 r1 (qg 1 101 r1 r1 (qa 101 r1 r1 (qf (o_indexAddr_row (sz:=2) 5 (.mk YbD kr) .is .t ow ow (by rfl)) r2 r1 (qf (Zn (ag:=true) (sz':=2) (sz:=2) 5 .t (by intro x;rfl) ow kr kr kr) r1 r1 (qR rr (qf (o_nilCheck 2 .is (by rfl)) r1 r1 (qf (oF 0 2 .adr) r1 r1 (qa 2 r1 r1 (qf (o_callG2c 3 4 (hM3) func187 Z kr Z (Args.two (.pagg .t) .t)) r2 r2 (qR rr (qf (o_extract .t Z) r1 qz (qf (o_extract .t Z) r1 qz (qf (o_indexAddr_row (sz:=2) 5 (.mk YbD kr) .is .t ow ow (by rfl)) r2 r1 (qf (ZU (R:=rSq) (v:=⟨(arV (some nb)),ro3⟩) (sz:=2) 5 .t (by intro x;rfl) ow .t kr) r2 r1 qZ)))))))))))))))))))))))) V [44,43,42,2,0] [101,7,6,5,4,3,2,0] Z Z fun a w F O=>?_
   try dsimp only [List.map,Ze,xL,xM,Nat.reduceAdd,xD,xE,xT,xU,xC,xN,zCF,ldSF,rRt,rSq,Zx,rTx,ZB,Zs,ZG,rOp] at O
   try simp only [Yg] at O
   refine Zm (Za (rZ O (qp r1 (qR rr qZ)) V [44,43,42,2,0] [101,7,6,5,4,3,2,0] fun O=>?_))
   replace O:=O.ent (i:=44) (s':=.pv (.int .i64 ((i+1:Nat):Int))) Z (.int (Zl ow))
   obtain ⟨F,O⟩:=O.nM [43,42,2,0,44] [7,3,2,0,6,5,4]
   exact ⟨((i+1),(qq++e3),(sr1.set (Nn r.orders i).val.toNat ⟨(arV (some nb)),ro3⟩),(es2),(ck2)),F,⟨by omega,⟨hI3,hq3,hkp3,hal3⟩⟩,O,by omega⟩
  have h19:gvA es2 (Nn r.orders i).val≠1:=by simpa [gvA] using hc1
  rw [hgv2,Yd rfl] at h19
  have hI3:MvI seqs Live qo qq (arV (some ob)) (arV (some nb)) sr1 es2 (K+((i+1:Nat):Int)):=by rw [← (show K+(i:Int)+1=K+((i+1:Nat):Int) by omega)];exact hI1.more (i:=(Nn r.orders i).val) ow hgv2
  have hq3:∃ e,qq=q++e1++e2++e∧e.length≤Zad seqs (r.orders.take (i+1)):=⟨e0,hqq,by rw [ZbS hil];omega⟩
  have hkp3:∀ k,0<gvA es k→0<gvA es2 k:=fun k hk9=>by have h1:=hkp k hk9;have h2:=(hI1.gv (Nn r.orders i).val).1;rw [hgv2];split <;> omega
  have hal3:∀ j,j<i+1→0<gvA es2 (Nn r.orders j).val:=fun j hj=>by
    have h2:=(hI1.gv (Nn r.orders i).val).1
    rw [hgv2]
    rcases YG (YN hj) with h9 | h9
    ·have h1:=hal j h9;split <;> omega
    ·subst h9;rw [Yd rfl];omega
  refine Yf (Zm (Za (rZ O (qp r1 (qR rr qZ)) V [44,43,42,2,0] [101,7,6,5,4,3,2,0] fun O=>?_)))
  replace O:=O.ent (i:=44) (s':=.pv (.int .i64 ((i+1:Nat):Int))) Z (.int (Zl ow))
  obtain ⟨F,O⟩:=O.nM [43,42,2,0,44] [7,3,2,0,6,5,4]
  exact ⟨((i+1),(qq),(sr1),(es2),(ck2)),F,⟨by omega,⟨hI3,hq3,hkp3,hal3⟩⟩,O,by omega⟩
 have hil:i=r.orders.length:=by simp at hc0;omega
 have hpost:Zd7 seqs Live r qo q (arV (some ob)) (arV (some nb)) es K ⟨qq,⟨(arV (some nb)),ro1,ro2,c.size⟩,sr1,es1,ck1⟩:=by
   rw [hil] at hI1 hql
   rw [YM] at hql
   exact ⟨⟨e1++e2++e0,by show qq=_;rw [hqq];simp,by simp only [Yb];omega⟩,⟨rfl,by show Zho qq ro1 r.txs;rw [hqq,Ym,Ym];rw [← Ym q];exact hR1.app,by show Zho qq ro2 r.orders;rw [hqq];exact hR2.app,hr.s⟩,hI1,hkp,Zow fun j hj=>hal j ow⟩
 refine Yr (Zj (Zj (Zv ?_)))
 have O:=O.fresh 1 rfl
 obtain ⟨F,O⟩:=O.push 1 7 Z Z Z kr
 obtain ⟨F,O⟩:=O.push 1 6 Z Z Z kr
 obtain ⟨F,O⟩:=O.push 1 5 Z Z Z kr
 obtain ⟨F,O⟩:=O.push 1 4 Z Z Z kr
 obtain ⟨F,O⟩:=O.push 1 3 Z Z Z kr
 obtain ⟨F,O⟩:=O.push 1 2 Z Z Z kr
 have O:=O.turn 1 Z (r':=RS.hp (.ex fun x:MvC=>.and (Zd7 seqs Live r qo q (arV (some ob)) (arV (some nb)) es K x) (.star (ZpV (.pointer (some ⟨b,0,none⟩)) (arV (some nb)) ob nb qo x.q cn mv nx alv sqv x.sr mm x.es x.ck rv x.c)))) (fun _ _ _ _ h=>⟨⟨qq,⟨(arV (some nb)),ro1,ro2,c.size⟩,sr1,es1,ck1⟩,hpost,h⟩)
 obtain ⟨F,O⟩:=O.nM [] [1,0]
 refine ZA hG O Z .nil .none rfl
theorem Znh (b ob nb:Nat) (seqs:List (List Int)) (Live:Nat→Prop) (qo q:List Cell) (c:RtC) (mv:Value) (nx:Int) (alv sqv:Value) (sr:List SqC) (mm:Value) (es:List (GE Int Int)) (ck:Nat) (K:Int) (hI:MvI seqs Live qo q (arV (some ob)) (arV (some nb)) sr es K) (hn0:0<seqs.length) (hn1:seqs.length≤1000000) (hll:Live (seqs.length - 1)) (hroom:q.length+(Nn seqs (seqs.length - 1)).length≤65536):FnG prog 123 1 [.is (.pointer (some ⟨b,0,none⟩)),.is mm] [.star (Znp (.pointer (some ⟨b,0,none⟩)) (arV (some nb)) ob nb qo q c mv nx alv sqv sr mm es ck)] (.tup []) (fun _=>[.ex fun x:MvC=>.and (x.sr.length=seqs.length∧(∀ i:Nat,i<seqs.length→0<gvA es i→(Nn x.sr i).av=(arV (some nb))∧ZaT x.q (Nn x.sr i).root (Nn seqs i))∧(∃ e,x.q=q++e∧e.length≤(Nn seqs (seqs.length - 1)).length)∧(Nn x.sr (seqs.length - 1)).av=(arV (some nb))∧ZaT x.q (Nn x.sr (seqs.length - 1)).root (Nn seqs (seqs.length - 1))) (.star (Znp (.pointer (some ⟨b,0,none⟩)) (arV (some nb)) ob nb qo x.q c mv nx alv sqv x.sr mm es ck))]):=by
 refine FnG.mk func123 Z ntmps123 Z kr fun B F0 a w F V hG O=>?_
 obtain ⟨F,O⟩:=O.peel 1 2 Z rfl
 obtain ⟨F,O⟩:=O.peel 1 3 Z rfl
 obtain ⟨F,O⟩:=O.peel 1 4 Z rfl
 obtain ⟨F,O⟩:=O.peel 1 5 Z rfl
 obtain ⟨F,O⟩:=O.peel 1 6 Z rfl
 dsimp only [Znw] at O
 obtain ⟨F,O⟩:=O.nM [1,0] [6,5,4,3,2,0]
 refine Ya (Zf O (qR rr (qf (o_nilCheck 2 .is (by rfl)) r1 r1 (qf (oF 9 2 .adr) r1 r1 (qa 2 r1 r1 (qf (Zae 5 YbD .is) r1 r1 (qf (o_sub .t qi) r1 qz (qO rr qZ))))))) V [4,1,0] [6,5,4,3,2,0] Z Z fun a w F O=>?_)
 have hsl:=hI.len
 have hlw:IntKind.wrap .i64 ((sr.length:Int) - 1)=((seqs.length - 1:Nat):Int):=by rw [Zc ow];omega
 rw [hlw] at O
 refine Za (Ya (rZ O (qR rr (qR rr (qf (Zaw (ek:=(fun c:Int=>PV.int .i64 c)) (z0:=(0:Int)) 6 YbH (ZaN YbA) kr (fun _ _=>⟨rfl,Zf0⟩) .is (ZX.intR .t Z)) r2 r1 (qf (o_eql .t qi) r1 qz qZ)))) V [14,4,0] [6,5,4,3,2,0] fun O=>?_))
 refine Zd O Z (fun hc0=>?_) (fun hc0=>?_)
 ·have hg0:gvA es ((seqs.length - 1:Nat):Int)=0:=by simpa [gvA] using hc0
  have hold:=hI.old (seqs.length - 1) ow hll hg0
  obtain ⟨e3,ro3,hM3,hR3,hE3⟩:=Zl4 ob nb (q:=q) (c:=(Nn sr (seqs.length - 1))) hold ow
  have hpost:(sr.set (seqs.length - 1) ⟨(arV (some nb)),ro3⟩).length=seqs.length∧(∀ i:Nat,i<seqs.length→0<gvA es i→(Nn (sr.set (seqs.length - 1) ⟨(arV (some nb)),ro3⟩) i).av=(arV (some nb))∧ZaT (q++e3) (Nn (sr.set (seqs.length - 1) ⟨(arV (some nb)),ro3⟩) i).root (Nn seqs i))∧(∃ e,(q++e3)=q++e∧e.length≤(Nn seqs (seqs.length - 1)).length)∧(Nn (sr.set (seqs.length - 1) ⟨(arV (some nb)),ro3⟩) (seqs.length - 1)).av=(arV (some nb))∧ZaT (q++e3) (Nn (sr.set (seqs.length - 1) ⟨(arV (some nb)),ro3⟩) (seqs.length - 1)).root (Nn seqs (seqs.length - 1)):=by
   have hset:Nn (sr.set (seqs.length - 1) (⟨(arV (some nb)),ro3⟩:SqC)) (seqs.length - 1) = ⟨(arV (some nb)),ro3⟩:=by rw [ZeY ow,Yd rfl]
   refine ⟨by rw [YE];exact hI.len,fun i hi hg=>?_,⟨e3,rfl,by omega⟩,by rw [hset],by rw [hset];exact hR3⟩
   have hne:i≠seqs.length - 1:=fun h9=>by rw [h9,hg0] at hg;omega
   rw [ZeY ow,Yc hne]
   exact ⟨(hI.new i hi hg).1,(hI.new i hi hg).2.app⟩
  refine Zq O (qR rr (qf (o_nilCheck 2 .is (by rfl)) r1 r1 (qf (oF 9 2 .adr) r1 r1 (qa 2 r1 r1 (qR rr (qR rr (qf (o_nilCheck 2 .is (by rfl)) r1 r1 (qf (oF 9 2 .adr) r1 r1 (qa 2 r1 r1 (qR rr (qf (o_indexAddr_row (sz:=2) 5 (.mk YbD kr) .is .t ow ow (by rfl)) r2 r1 (qf (Zn (ag:=true) (sz':=2) (sz:=2) 5 .t (by intro x;rfl) (by rw [Yg];omega) kr kr kr) r1 r1 (qR rr (qf (o_nilCheck 2 .is (by rfl)) r1 r1 (qf (oF 0 2 .adr) r1 r1 (qa 2 r1 r1 (qf (o_callG2c 3 4 (hM3) func187 Z kr Z (Args.two (.pagg .t) .t)) r2 r2 (qR rr (qf (o_extract .t Z) r1 qz (qf (o_extract .t Z) r1 qz (qf (o_indexAddr_row (sz:=2) 5 (.mk YbD kr) .is .t ow ow (by rfl)) r2 r1 (qf (ZU (R:=rSq) (v:=⟨(arV (some nb)),ro3⟩) (sz:=2) 5 .t (by intro x;rfl) (by rw [Yg];omega) .t kr) r2 r1 qZ)))))))))))))))))))))) V [] [6,5,4,3,2,0] Z Z fun a w F O=>?_
  try dsimp only [List.map,Ze,xL,xM,Nat.reduceAdd,xD,xE,xT,xU,xC,xN,zCF,ldSF,rRt,rSq,Zx,rTx,ZB,Zs,ZG,rOp] at O
  try simp only [Yg] at O
  have O:=O.fresh 1 rfl
  obtain ⟨F,O⟩:=O.push 1 6 Z Z Z kr
  obtain ⟨F,O⟩:=O.push 1 5 Z Z Z kr
  obtain ⟨F,O⟩:=O.push 1 4 Z Z Z kr
  obtain ⟨F,O⟩:=O.push 1 3 Z Z Z kr
  obtain ⟨F,O⟩:=O.push 1 2 Z Z Z kr
  have O:=O.turn 1 Z (r':=RS.hp (.ex fun x:MvC=>.and (x.sr.length=seqs.length∧(∀ i:Nat,i<seqs.length→0<gvA es i→(Nn x.sr i).av=(arV (some nb))∧ZaT x.q (Nn x.sr i).root (Nn seqs i))∧(∃ e,x.q=q++e∧e.length≤(Nn seqs (seqs.length - 1)).length)∧(Nn x.sr (seqs.length - 1)).av=(arV (some nb))∧ZaT x.q (Nn x.sr (seqs.length - 1)).root (Nn seqs (seqs.length - 1))) (.star (Znp (.pointer (some ⟨b,0,none⟩)) (arV (some nb)) ob nb qo x.q c mv nx alv sqv x.sr mm es ck)))) (fun _ _ _ _ h=>⟨⟨q++e3,c,sr.set (seqs.length - 1) ⟨(arV (some nb)),ro3⟩,es,ck⟩,hpost,h⟩)
  obtain ⟨F,O⟩:=O.nM [] [1,0]
  refine ZA hG O Z .nil .none rfl
 have hg0:gvA es ((seqs.length - 1:Nat):Int)≠0:=by simpa [gvA] using hc0
 have hgp:=(hI.gv ((seqs.length - 1:Nat):Int)).1
 have hnew:=hI.new (seqs.length - 1) ow ow
 have hpost:sr.length=seqs.length∧(∀ i:Nat,i<seqs.length→0<gvA es i→(Nn sr i).av=(arV (some nb))∧ZaT q (Nn sr i).root (Nn seqs i))∧(∃ e,q=q++e∧e.length≤(Nn seqs (seqs.length - 1)).length)∧(Nn sr (seqs.length - 1)).av=(arV (some nb))∧ZaT q (Nn sr (seqs.length - 1)).root (Nn seqs (seqs.length - 1)):=⟨hI.len,hI.new,⟨[],by simp,Yz _⟩,hnew.1,hnew.2⟩
 refine Yf ?_
 have O:=O.fresh 1 rfl
 obtain ⟨F,O⟩:=O.push 1 6 Z Z Z kr
 obtain ⟨F,O⟩:=O.push 1 5 Z Z Z kr
 obtain ⟨F,O⟩:=O.push 1 4 Z Z Z kr
 obtain ⟨F,O⟩:=O.push 1 3 Z Z Z kr
 obtain ⟨F,O⟩:=O.push 1 2 Z Z Z kr
 have O:=O.turn 1 Z (r':=RS.hp (.ex fun x:MvC=>.and (x.sr.length=seqs.length∧(∀ i:Nat,i<seqs.length→0<gvA es i→(Nn x.sr i).av=(arV (some nb))∧ZaT x.q (Nn x.sr i).root (Nn seqs i))∧(∃ e,x.q=q++e∧e.length≤(Nn seqs (seqs.length - 1)).length)∧(Nn x.sr (seqs.length - 1)).av=(arV (some nb))∧ZaT x.q (Nn x.sr (seqs.length - 1)).root (Nn seqs (seqs.length - 1))) (.star (Znp (.pointer (some ⟨b,0,none⟩)) (arV (some nb)) ob nb qo x.q c mv nx alv sqv x.sr mm es ck)))) (fun _ _ _ _ h=>⟨⟨q,c,sr,es,ck⟩,hpost,h⟩)
 obtain ⟨F,O⟩:=O.nM [] [1,0]
 refine ZA hG O Z .nil .none rfl
theorem ZmY {l ks:List Int} (hp:l.Perm ks) (h:ks.Pairwise (· < ·)):l.mergeSort leI=ks:=by
 have hs:List.Pairwise (fun x y=>x≤y) (l.mergeSort leI):=by
  have:=Ya5 (le:=leI) (fun a b c h1 h2=>by simp [leI] at *;omega) (fun a b=>by simp [leI];omega) l
  exact List.Pairwise.imp (fun h=>by simpa [leI] using h) this
 exact List.Perm.eq_of_pairwise (fun x y _ _ h1 h2=>Int.le_antisymm h1 h2) hs (List.Pairwise.imp (fun h=>Ybo h) h) ((YaD l leI).trans hp)
def Zbb (v w:Value) (A:StA) (s:StC) (c:RtC):List RS:=[.pt (.val v) 97 [.pv (.is (arV (some s.b))),.pv (.is (arV (some s.b))),.pv (.int .i64 s.c.tr),.pv (.is (arV (some s.b))),.pv (.int .i64 s.c.or),.pv (.int .i64 s.c.size),.pv (.is s.mv),.pv (.int .i64 A.next),.pv (.is s.alv),.pv (.is s.sqv)],RS.hp (arH (some s.b) 65536 s.q),.ob (.val s.mv) (Zlj s.cs s.ck),.ob (.val s.alv) (ZJ 36 3 rTx A.all),.ob (.val s.sqv) (ZJ 114 2 rSq s.sr),.pt (.val w) 92 [.pv (.is (arV (some s.b))),.pv (.int .i64 c.tr),.pv (.is (arV (some s.b))),.pv (.int .i64 c.or),.pv (.int .i64 c.size)]]
structure Zbh (A:StA) (r:RtA) (s:StC) (c:RtC) (n:Int) (x:StC×RtC):Prop where
 rep:Zac A [r] x.1
 rt:Zbs x.1.q (arV (some x.1.b)) x.2 r
 room:(x=(s,c)∧s.q.length+n≤65536)∨x.1.q.length≤60000
def Zpg (A:StA) (i:Nat):Int:=A.now.size+((A.snaps.take i).map fun x=>x.2.size).sum
structure ZbM (A:StA) (r:RtA) (qo:List Cell) (av nv:Value) (c1:RtC) (i:Nat) (cs1:List (GE Int RtC)) (qq:List Cell) (sr1:List SqC) (es1:List (GE Int Int)):Prop where
 now:Zbs qq nv c1 A.now
 keys:cs1.map (·.key)=A.snaps.map (·.1)
 snaps:∀ (j:Nat) (x:Int×RtA),A.snaps[j]? = some x → ∃ c,gGet x.1 cs1=some c∧(j<i→Zbs qq nv c x.2)∧(¬ j<i→Zbs qo av c x.2)
 mv:∃ K,(0≤K∧K≤10000*((i:Int)+1))∧MvI A.seqs (ZbN (rootsA A ++ [r]) A.seqs.length) qo qq av nv sr1 es1 K
 alln:∀ p ∈ A.now.orders,0<gvA es1 p.val
 alls:∀ (j:Nat) (x:Int×RtA),j<i→A.snaps[j]? = some x → ∀ p ∈ x.2.orders,0<gvA es1 p.val
 len:(qq.length:Int)≤Zpg A i
theorem Zmc {A:StA} {i:Nat} {x:Int×RtA} (h:A.snaps[i]? = some x):Zpg A (i+1)=Zpg A i+x.2.size:=by
 obtain ⟨hi,e⟩:=YB.1 h
 unfold Zpg
 rw [YaL hi,YL,YaB,e]
 simp;omega
theorem Zl6 {A:StA} (hk:Zax A) (i:Nat):Zpg A i≤10000:=by
 have h1:=hk.held
 have h2:((A.snaps.take i).map fun x=>x.2.size).sum≤(A.snaps.map fun x=>x.2.size).sum:=by
  have e:A.snaps=A.snaps.take i++A.snaps.drop i:=(Y2 i A.snaps).symm
  have h3:=Zcl (l:=A.snaps.drop i) fun x hx=>hk.nn x (List.mem_of_mem_drop hx)
  have e2:(A.snaps.map fun x=>x.2.size).sum=((A.snaps.take i).map fun x=>x.2.size).sum+((A.snaps.drop i).map fun x=>x.2.size).sum:=by
   conv=>lhs;rw [e]
   rw [YL,YaB]
  omega
 unfold ZaH at h1
 unfold Zpg;omega
theorem live_of {A:StA} {r r1:RtA} (hr:r1 ∈ rootsA A ++ [r]) (hov:∀ p ∈ r1.orders,0≤p.val):∀ p ∈ r1.orders,ZbN (rootsA A ++ [r]) A.seqs.length p.val.toNat:=fun p hp=>.inl ⟨r1,hr,p,hp,(Ya8 (hov p hp)).symm⟩
theorem snap_root {A:StA} {r:RtA} {i:Nat} {x:Int×RtA} (h:A.snaps[i]? = some x):x.2 ∈ rootsA A ++ [r]:=by
 have h1:x ∈ A.snaps:=Yan h
 simp only [rootsA,YO,Yo,YJ]
 exact .inr (.inl (Yv.2 ⟨x,h1,rfl⟩))
theorem ZbM.start {A:StA} {r:RtA} {s:StC} {nv:Value} (hk:Zax A) (h:Zac A [r] s) {x:MvC} (hp:Zd7 A.seqs (ZbN (rootsA A ++ [r]) A.seqs.length) A.now s.q [] (arV (some s.b)) nv [] 0 x):ZbM A r s.q (arV (some s.b)) nv x.c 0 s.cs x.q x.sr x.es:=by
 refine ⟨hp.rt,h.keys,fun j y hy=>?_,⟨0+A.now.orders.length,⟨by omega,?_⟩,hp.mv⟩,hp.all,fun j y hj=>absurd hj (YR j),?_⟩
 ·obtain ⟨c,hc,hr⟩:=h.snaps y (Yan hy)
  exact ⟨c,hc,fun hj=>absurd hj (YR j),fun _=>hr⟩
 ·have h1:=hk.now_le
  have h2:=ZbL A.all A.seqs A.now
  omega
 ·obtain ⟨e,he,hl⟩:=hp.app
  rw [he]
  have h1:=ZaY A.all A.seqs A.now
  have h2:=hk.szn
  unfold Zpg
  simp;omega
theorem ZbM.step {A:StA} {r:RtA} {qo qq:List Cell} {av nv:Value} {c1:RtC} {i:Nat} {cs1:List (GE Int RtC)} {cc:Nat} {sr1:List SqC} {es1:List (GE Int Int)} {K:Int} (hk:Zax A) (h:ZbM A r qo av nv c1 i cs1 qq sr1 es1) (hK:0≤K∧K≤10000*((i:Int)+1)) {y:Int×RtA} (hy:A.snaps[i]? = some y) {x:MvC} (hp:Zd7 A.seqs (ZbN (rootsA A ++ [r]) A.seqs.length) y.2 qo qq av nv es1 K x):ZbM A r qo av nv c1 (i+1) (gPut y.1 x.c (cs1,cc)).1 x.q x.sr x.es:=by
 obtain ⟨e,he,hl⟩:=hp.app
 have hym:y ∈ A.snaps:=Yan hy
 have hyk:y.1 ∈ cs1.map (·.key):=by rw [h.keys];exact Yv.2 ⟨y,hym,rfl⟩
 have hsl:=hk.snap_le hym
 have hst:=ZbL A.all A.seqs y.2
 refine ⟨by rw [he];exact h.now.app,by rw [Zh0,Yd hyk];exact h.keys,fun j z hz=>?_,⟨K+y.2.orders.length,⟨by omega,by omega⟩,hp.mv⟩,fun p hq=>hp.keep _ (h.alln p hq),fun j z hj hz p hq=>?_,?_⟩
 ·rw [ZdU]
  by_cases hjz:z.1=y.1
  ·have hji:j=i:=by
    obtain ⟨hj1,e1⟩:=YB.1 hz
    obtain ⟨hi1,e2⟩:=YB.1 hy
    have hpw:=Y4.1 hk.ids
    rcases Ybf j i with h1 | h1 | h1
    ·have:=hpw j i (by simpa using hj1) (by simpa using hi1) h1
     rw [Yae,Yae,e1,e2] at this;omega
    ·exact h1
    ·have:=hpw i j (by simpa using hi1) (by simpa using hj1) h1
     rw [Yae,Yae,e1,e2] at this;omega
   subst hji
   rw [hz] at hy
   cases hy
   rw [Yd rfl]
   exact ⟨x.c,rfl,fun _=>hp.rt,fun hn=>absurd (Nat.lt_succ_self _) hn⟩
  ·rw [Yc hjz]
   obtain ⟨c,hc,h1,h2⟩:=h.snaps j z hz
   have hne:j≠i:=fun e9=>by subst e9;rw [hz] at hy;cases hy;exact hjz rfl
   exact ⟨c,hc,fun hj=>by rw [he];exact (h1 ow).app,fun hj=>h2 ow⟩
 ·rcases YG (YN hj) with h1 | h1
  ·exact hp.keep _ (h.alls j z h1 hz p hq)
  ·subst h1
   rw [hz] at hy
   cases hy
   exact hp.all p hq
 ·have h1:=ZaY A.all A.seqs y.2
  have h2:=hk.szs y hym
  have h3:=h.len
  rw [Zmc hy,he,Yb]
  omega
theorem ZbM.cur {A:StA} {r:RtA} {qo qq:List Cell} {av nv:Value} {c1:RtC} {i:Nat} {cs1:List (GE Int RtC)} {sr1:List SqC} {es1:List (GE Int Int)} (h:ZbM A r qo av nv c1 i cs1 qq sr1 es1) {y:Int×RtA} (hy:A.snaps[i]? = some y):∃ c,gGet y.1 cs1=some c∧Zbs qo av c y.2:=by
 obtain ⟨c,hc,_,h2⟩:=h.snaps i y hy
 exact ⟨c,hc,h2 (Nat.lt_irrefl i)⟩
theorem ZbM.done {A:StA} {r:RtA} {qo qq:List Cell} {av:Value} {nb:Nat} {c1:RtC} {i:Nat} {cs1:List (GE Int RtC)} {sr1 sr2:List SqC} {es1:List (GE Int Int)} {K:Int} {q2:List Cell} {cc:Nat} {mv alv sqv:Value} (h:ZbM A r qo av (arV (some nb)) c1 i cs1 qq sr1 es1) (hi:i=A.snaps.length) {x:MvC} (hp:Zd7 A.seqs (ZbN (rootsA A ++ [r]) A.seqs.length) r qo qq av (arV (some nb)) es1 K x) (hq:∃ e,q2=x.q++e) (hl:sr2.length=A.seqs.length) (hall:∀ i:Nat,i<A.seqs.length→0<gvA x.es i→(Nn sr2 i).av=arV (some nb)∧ZaT q2 (Nn sr2 i).root (Nn A.seqs i)) (hlast:0<A.seqs.length→(Nn sr2 (A.seqs.length - 1)).av=arV (some nb)∧ZaT q2 (Nn sr2 (A.seqs.length - 1)).root (Nn A.seqs (A.seqs.length - 1))) :
  Zac A [r] ⟨nb,q2,c1,cs1,cc,mv,alv,sqv,sr2⟩∧Zbs q2 (arV (some nb)) x.c r:=by
 obtain ⟨e,he⟩:=hq
 obtain ⟨e1,he1,_⟩:=hp.app
 refine ⟨⟨by show Zbs q2 _ c1 A.now;rw [he,he1];exact (h.now.app).app,h.keys,fun y hy=>?_,hl,fun j hj hlv=>?_⟩,by rw [he];exact hp.rt.app⟩
 ·obtain ⟨j,hj,e9⟩:=Y6 hy
  obtain ⟨c,hc,h1,_⟩:=h.snaps j y (by rw [YaR hj,e9])
  exact ⟨c,hc,by show Zbs q2 _ c y.2;rw [he,he1];exact ((h1 ow).app).app⟩
 ·rcases hlv with ⟨r1,hr1,p,hpm,e9⟩ | h1
  ·refine hall j hj ?_
   rw [← e9]
   simp only [rootsA,YO,Yo,YJ,Yv,Yat,YaS] at hr1
   rcases hr1 with rfl | ⟨y,hy,rfl⟩ | rfl
   ·exact hp.keep _ (h.alln p hpm)
   ·obtain ⟨k,hk,e8⟩:=Y6 hy
    exact hp.keep _ (h.alls k y ow (by rw [YaR hk,e8]) p hpm)
   ·exact hp.all p hpm
  ·have h2:=hlast ow
   rw [show A.seqs.length - 1=j by omega] at h2
   exact h2
theorem Znv (mv:Value):FnP prog 122 [.is mv] (.clos 188 [.ref [.is mv]]):=by
 refine FnP.mk func122 Z ntmps122 Z fun B a w F V hfr O=>Ya ?_
 refine Zb O (qf (Zjy 101 .t Zgn) r1 qz (qC qZ)) V [2,1] [101,0] (fun _=>rfl) (fun _=>rfl) fun τ a w F O=>?_
 try dsimp only [RS.sub,SF.sub,CF.sub,csub,Anc.sub,List.map,zCF] at O
 generalize τ 1=v1 at O
 obtain ⟨F,O⟩:=O.giveRef 101 1 Z Z rfl
 obtain ⟨F,O⟩:=O.nM [2,1] [0]
 try dsimp only [Go.Gm.unCF] at O
 refine Za (Ya (rZ O (qf (ZbX (Args.one .t)) r1 qz (qO rr qZ)) V [2] [0] fun O=>Yi ?_))
 refine ZP hfr O Z Z Z .refl
theorem Zmo (mv:Value) (es:List (GE Int RtC)) (ck:Nat) (ks:List Int) (hke:es.map (·.key)=ks) (hkr:ks.Pairwise (· < ·)) (hl9:es.length≤100000):FnG prog 102 2 [.clos 188 [.ref [.is mv]]] [Zlj es ck mv,.star []] (PV.one) (fun v=>[Zlj es ck mv,ZJ 3 1 ZG ks v]):=by
 refine FnG.mk func102 Z ntmps102 Z kr fun B F0 a w F V hG O=>Ya ?_
 refine rZ O (qC qZ) V [2,0] [2,1,0] fun O=>Ya ?_
 refine Zb O (qR rr (qf (Zh7 1 2 (ZiV (fun c:RtC=>PV.agg (rRt c)) mv es ck ow) func166 Z kr Z (Args.one .t) ZeB) r1 r2 (qO rr qZ))) V [3,2] [2,1,0] (fun _=>rfl) (fun _=>rfl) fun τ a w F O=>?_
 try dsimp only [RS.sub,SF.sub,CF.sub,csub,Anc.sub,List.map,ZG] at O
 generalize τ 5=v5 at O
 replace O:=O.turn 2 Z (r':=RS.hp (HP.ex fun l:List Int=>HP.and (l.Perm (es.map fun z:GE Int RtC=>z.key)) (ZJ 3 1 ZG l v5))) (fun _ _ _ _ h=>h)
 obtain ⟨ks2,O⟩:=O.open_ex 2 rfl
 obtain ⟨hks,O⟩:=O.open_and 2 rfl
 replace O:=O.turn 2 Z (r':=.ob (.val v5) (ZJ 3 1 ZG ks2)) (fun _ _ _ _ h=>h)
 have hkl:ks2.length≤1000000:=by have h1:=hks.length_eq;rw [YF] at h1;omega
 obtain ⟨F,O⟩:=O.nM [3,2] [2,1,0]
 refine Za (Ya (Zf O (qR rr (qf (ZQ 2 (Zkl _ ks2 hkl) func92 Z kr (Args.one .t)) r1 r1 qZ)) V [3,2] [2,1,0] Z Z fun a w F O=>?_))
 rw [ZmY (hks.trans (by rw [hke])) hkr] at O
 refine Za (Ya (rZ O (qR rr (qO rr qZ)) V [2] [2,1,0] fun O=>Yi ?_))
 have O:=O.turn 2 Z (r':=RS.hp (ZJ 3 1 ZG ks v5)) (fun _ _ _ _ h=>h)
 refine ZpD (k2:=fun v=>ZJ 3 1 ZG ks v) hG O Z (.tmp Z .nil) (.one .one) Z rfl
theorem ZhY {b:Nat} {room:Int} {q:List Cell} {w:World} {f y:Ys} (h:(HP.named (fun b=>arV (some b)) (fun b=>arH (some b) room q) (arV (some b))).p w f y):(arH (some b) room q).p w f y:=by
 obtain ⟨b',e,h⟩:=h
 have e2:b=b':=by simpa [arV] using e
 subst e2;exact h
theorem Zi2 {v:Value} {room:Int} {q:List Cell} {w:World} {f y:Ys} (h:(HP.named (fun b=>arV (some b)) (fun b=>arH (some b) room q) v).p w f y):∃ b,v=arV (some b):=by
 obtain ⟨b,e,_⟩:=h
 exact ⟨b,e⟩
theorem ZpX (n room:Int) (hr:Zbu n=room):FnG prog 45 1 [.int .i64 n] [.star []] PV.ptr (fun v=>[HP.named (fun b=>arV (some b)) (fun b=>arH (some b) room []) v]):=by
 subst hr
 exact FnG.newNamed (Zlw n) fun v w f y h=>by obtain ⟨b,rfl⟩:=Zga h;exact ⟨b,rfl,h⟩
theorem ZoU (b:Nat) (room:Int) (q:List Cell):FnG prog 120 1 [.is (arV (some b))] [arH (some b) room q] (.int .i64 (room - q.length)) (fun _=>[arH (some b) room q]):=Zjs b room q
theorem Zeb (b wb:Nat) (A:StA) (hok:Zax A) (hfit:Zba A) (r:RtA) (hrok:ZiH A.all A.seqs r) (hrz:sizeH (Zbm A.all A.seqs r)≤40000) (sc:StC) (c:RtC) (n:Int) (hk:Zac A [r] sc) (hr:Zbs sc.q (arV (some sc.b)) c r) (hn:0≤n∧n≤5000):FnG prog 64 1 [.is (.pointer (some ⟨b,0,none⟩)),.is (.pointer (some ⟨wb,0,none⟩)),.int .i64 n] [.star (Zbb (.pointer (some ⟨b,0,none⟩)) (.pointer (some ⟨wb,0,none⟩)) A sc c)] (.tup []) (fun _=>[.ex fun x:StC×RtC=>.and (Zbh A r sc c n x) (.star (Zbb (.pointer (some ⟨b,0,none⟩)) (.pointer (some ⟨wb,0,none⟩)) A x.1 x.2))]):=by
 refine FnG.mk func64 Z ntmps64 Z kr fun B F0 a w F V hG O=>?_
 obtain ⟨F,O⟩:=O.peel 1 2 Z rfl
 obtain ⟨F,O⟩:=O.peel 1 3 Z rfl
 obtain ⟨F,O⟩:=O.peel 1 4 Z rfl
 obtain ⟨F,O⟩:=O.peel 1 5 Z rfl
 obtain ⟨F,O⟩:=O.peel 1 6 Z rfl
 obtain ⟨F,O⟩:=O.peel 1 7 Z rfl
 obtain ⟨F,O⟩:=O.nM [2,1,0] [7,6,5,4,3,2,0]
 have hnl:=hok.now_le
 have hncl:=ZaY A.all A.seqs A.now
 have hsf8:=hfit.seqs
 refine Ya (Ya (rZ O (qR rr (qf (o_nilCheck 2 .is (by rfl)) r1 r1 (qf (oF 0 2 .adr) r1 r1 (qa 2 r1 r1 (qf (o_callG1 3 (ZoU sc.b 65536 sc.q) func120 Z kr (Args.one .t)) r1 r1 (qR rr (qf (ZeG .t .t) r2 qz qZ))))))) V [16,1,0] [7,6,5,4,3,2,0] fun O=>?_))
 refine Zd O Z (fun hc0=>?_) (fun hc0=>?_)
 ·refine Yi (Zk ?_)
  have O:=O.fresh 1 rfl
  obtain ⟨F,O⟩:=O.push 1 7 Z Z Z kr
  obtain ⟨F,O⟩:=O.push 1 6 Z Z Z kr
  obtain ⟨F,O⟩:=O.push 1 5 Z Z Z kr
  obtain ⟨F,O⟩:=O.push 1 4 Z Z Z kr
  obtain ⟨F,O⟩:=O.push 1 3 Z Z Z kr
  obtain ⟨F,O⟩:=O.push 1 2 Z Z Z kr
  have O:=O.turn 1 Z (r':=RS.hp (.ex fun x:StC×RtC=>.and (Zbh A r sc c n x) (.star (Zbb (.pointer (some ⟨b,0,none⟩)) (.pointer (some ⟨wb,0,none⟩)) A x.1 x.2)))) (fun _ _ _ _ h=>⟨(sc,c),⟨hk,hr,.inl ⟨rfl,by simp at hc0;omega⟩⟩,h⟩)
  obtain ⟨F,O⟩:=O.nM [] [1,0]
  refine ZA hG O Z .nil .none rfl
 refine Yf (Za (Ya ?_))
 replace O:=O.fresh 8 rfl
 obtain ⟨F,O⟩:=O.nM [16,1,0] [8,7,6,5,4,3,2,0]
 refine Zb O (qR rr (qf (Zck 8 (ZpX 65536 65536 (by decide)) func45 Z kr (Args.one qi) PV.ptr_one) qz r1 (qf (o_nilCheck 2 .is (by rfl)) r1 r1 (qf (oF 0 2 .adr) r1 r1 (qf (ZaU 2 .adr kr kr) r2 r1 qZ))))) V [1,0] [8,7,6,5,4,3,2,0] (fun _=>rfl) (fun _=>rfl) fun τ a w F O=>?_
 try dsimp only [RS.sub,SF.sub,CF.sub,csub,Anc.sub,List.map,Ze,xL,xM,Nat.reduceAdd,xD,xE,xT,xU,xC,xN,zCF,rRt,rSq,Zx,rTx,ZB,Zs,ZG,rOp] at O
 generalize τ 18=v18 at O
 obtain ⟨_,_,_,ho⟩:=O.obGet 8 rfl
 obtain ⟨nb,rfl⟩:=Zi2 ho
 clear ho
 replace O:=O.turn 8 Z (r':=RS.hp (arH (some nb) 65536 [])) (fun _ _ _ _ h=>ZhY h)
 obtain ⟨F,O⟩:=O.nM [1,0] [8,7,6,5,4,3,2,0]
 refine Za (Ya (Zb O (qf (Zb7 (ek:=(fun c:Int=>PV.int .i64 c)) (ok:=(fun n:Int=>inR .i64 n)) (kv:=(fun n:Int=>Value.int .i64 n)) 101) trivial qz (qO rr qZ)) V [6,1,0] [101,8,7,6,5,4,3,2,0] (fun _=>rfl) (fun _=>rfl) fun τ a w F O=>?_))
 try dsimp only [RS.sub,SF.sub,CF.sub,csub,Anc.sub,List.map,Ze,xL,xM,Nat.reduceAdd,xD,xE,xT,xU,xC,xN,zCF,rRt,rSq,Zx,rTx,ZB,Zs,ZG,rOp] at O
 generalize τ 21=v21 at O
 refine Za (Ya (Za0 5 O kr (cG Z (oM .t) r1 trivial (cG Z (oM .t) r1 trivial (cG Z (o_nilCheck 2 .is (by rfl)) r1 r1 (cG Z (oF 1 2 .adr) r1 r1 (cG Z (oM .t) r1 trivial Zal.nil))))) kr (by rw [V];kernel_rfl) fun a w F O=>?_))
 obtain ⟨F,O⟩:=O.nM [26,25,22,6,1,0] [101,8,7,6,5,4,3,2,0]
 try dsimp only [rRt,rSq,Zx,rTx,ZB,Zs,ZG,rOp] at O
 replace O:=O.fresh 9 rfl
 obtain ⟨F,O⟩:=O.push 9 101 Z Z Z kr
 obtain ⟨F,O⟩:=O.push 9 6 Z Z Z kr
 obtain ⟨F,O⟩:=O.push 9 8 Z Z Z kr
 obtain ⟨F,O⟩:=O.push 9 3 Z Z Z kr
 obtain ⟨F,O⟩:=O.push 9 2 Z Z Z kr
 replace O:=O.turn 9 Z (r':=RS.hp (.star (Znp (.pointer (some ⟨b,0,none⟩)) (arV (some sc.b)) sc.b nb sc.q [] sc.c sc.mv A.next sc.alv sc.sqv sc.sr v21 [] 0))) (fun _ _ _ _ h=>h)
 obtain ⟨F,O⟩:=O.nM [26,25,22,6,1,0] [9,7,5,4,0]
 refine Zbn O kr (cG Z (o_callG1 9 (ZmI b sc.b nb A.seqs (ZbN (rootsA A ++ [r]) A.seqs.length) sc.q [] sc.c sc.mv A.next sc.alv sc.sqv sc.sr v21 [] 0 0 A.now (MvI.start hk (arV (some nb))) hk.now ow hok.okn.ov (live_of (by simp [rootsA]) (fun p hp=>(hok.okn.ov p hp).1)) (by simp only [Yx];omega) ow) func121 Z kr (Args.three .t (.conv .t ((Ent.adrK (by rfl)))) .t)) r3 r1 Zal.nil) kr (by rw [V];kernel_rfl) fun a w F O=>?_
 obtain ⟨F,O⟩:=O.nM [6,1,0] [9,7,5,4,0]
 try dsimp only [rRt,rSq,Zx,rTx,ZB,Zs,ZG,rOp] at O
 obtain ⟨x1,O⟩:=O.open_ex 9 rfl
 obtain ⟨hp1,O⟩:=O.open_and 9 rfl
 obtain ⟨F,O⟩:=O.peel 9 2 Z rfl
 obtain ⟨F,O⟩:=O.peel 9 3 Z rfl
 obtain ⟨F,O⟩:=O.peel 9 8 Z rfl
 obtain ⟨F,O⟩:=O.peel 9 6 Z rfl
 obtain ⟨F,O⟩:=O.peel 9 101 Z rfl
 dsimp only [Znw] at O
 obtain ⟨F,O⟩:=O.nM [6,1,0] [101,8,7,6,5,4,3,2,0]
 refine Za (Ya (Ya ?_))
 obtain ⟨ks,hks⟩:∃ z,z=A.snaps.map (·.1):=⟨_,rfl⟩
 have hkl9:ks.length=A.snaps.length:=by rw [hks,YF]
 have hsf:=hfit.snaps
 replace O:=O.fresh 60 rfl
 replace O:=O.turn 4 Z (r':=RS.hp (Zlj sc.cs sc.ck sc.mv)) (fun _ _ _ _ h=>h)
 obtain ⟨F,O⟩:=O.nM [6,1,0] [101,60,8,7,6,5,4,3,2,0]
 refine Za0 6 O kr (cG Z (oM .t) r1 trivial (cG Z (o_nilCheck 2 .is (by rfl)) r1 r1 (cG Z (oF 6 2 .adr) r1 r1 (cG Z (oL false 1 2 .adr) r1 r1 (cG Z (oP (Znv sc.mv) func122 (Args.one .t)) r1 trivial (cG Z (Zh7 4 60 (Zmo sc.mv sc.cs sc.ck ks (by rw [hks];exact hk.keys) (by rw [hks];exact hok.ids) (by have:=hk.cslen;omega)) func102 Z kr Z (Args.one .t) ZeB) r1 r2 Zal.nil)))))) kr (by rw [V];kernel_rfl) fun a w F O=>?_
 replace O:=O.sub
 obtain ⟨F,O⟩:=O.nM [33,6,1,0] [101,60,8,7,6,5,4,3,2,0]
 try dsimp only [RS.sub,SF.sub,CF.sub,csub,Anc.sub,List.map,xD,xE,xT,xU,ldSF,rRt,rSq,Zx,rTx,ZB,Zs,ZG,rOp] at O
 generalize Act.tau a 33=v33 at O
 replace O:=O.turn 60 Z (r':=.ob (.val v33) (ZJ 3 1 ZG ks)) (fun _ _ _ _ h=>h)
 replace O:=O.turn 4 Z (r':=.ob (.val sc.mv) (Zlj sc.cs sc.ck)) (fun _ _ _ _ h=>h)
 obtain ⟨F,O⟩:=O.give 60 33 Z rfl
 obtain ⟨F,O⟩:=O.nM [33,6,1,0] [101,8,7,6,5,4,3,2,0]
 refine Zbn O kr (cG Z (Zco Yby .t) r1 trivial (cG Z (oM (.ci kr)) trivial trivial Zal.nil)) kr (by rw [V];kernel_rfl) fun a w F O=>?_
 obtain ⟨F,O⟩:=O.nM [35,34,33,6,1,0] [101,8,7,6,5,4,3,2,0]
 try dsimp only [rRt,rSq,Zx,rTx,ZB,Zs,ZG,rOp] at O
 refine Za (Ye (Zo (σ:=(Nat)×(List (GE Int RtC))×(Nat)×(List Cell)×(List SqC)×(List (GE Int Int))×(Nat)) [0,1,6,33,34] [0,2,3,5,7] (fun s=>[(35,.pv (.int .i64 (s.1:Int)))]) (fun s=>[(4,.ob (.val sc.mv) (Zlj s.2.1 s.2.2.1)),(8,RS.hp (arH (some nb) 65536 s.2.2.2.1)),(6,.ob (.val sc.sqv) (ZJ 114 2 rSq s.2.2.2.2.1)),(101,.ob (.val v21) (MPI s.2.2.2.2.2.1 s.2.2.2.2.2.2))]) (fun s=>s.1≤ks.length∧(ZbM A r sc.q (arV (some sc.b)) (arV (some nb)) x1.c s.1 s.2.1 s.2.2.2.1 s.2.2.2.2.1 s.2.2.2.2.2.1)) (fun s=>ks.length - s.1) ((0),(sc.cs),(sc.ck),(x1.q),(x1.sr),(x1.es),(x1.ck)) O ⟨rfl,rfl,rfl,rfl,rfl,rfl,tv⟩ ⟨rfl,rfl,rfl,rfl,rfl,rfl,rfl,rfl,rfl,tv⟩ ⟨Yz _,(ZbM.start hok hk hp1)⟩ ?_))
 clear O;intro s a w F hC O
 obtain ⟨i,cs1,cc1,qq,sr1,es1,ck1⟩:=s
 try dsimp only at hC
 obtain ⟨F,O⟩:=O.nM [35,34,33,6,1,0] [101,8,7,6,5,4,3,2,0]
 try dsimp only at O
 obtain ⟨hi,hq⟩:=hC
 refine Ya (rZ O (qL r2) V [36,35,34,33,6,1,0] [101,8,7,6,5,4,3,2,0] fun O=>Ya ?_)
 refine Zd O Z (fun hc1=>?_) (fun hc1=>?_)
 ·have hil:i<ks.length:=by simp at hc1;omega
  refine Yf (Za (Ya (Ye (Ya (Zf O (qy 1 Yby r2 (qf (oR false 1 .t) r1 qz (qO rr qZ))) V [35,34,33,8,6,1,0] [101,8,7,6,5,4,3,2,0] Z Z fun a w F O=>?_)))))
  try simp only [Yg] at O
  refine Za (Ya (Zb O (qR rr (qf (o_nilCheck 2 .is (by rfl)) r1 r1 (qf (oF 6 2 .adr) r1 r1 (qa 2 r1 r1 (qR rr (qf (Zaw (ek:=(fun c:RtC=>PV.agg (rRt c))) (z0:=(default:RtC)) 4 YbG (ZaN YbA) kr (fun _ _=>⟨[_,_,_,_,_],rfl,⟨rfl,rfl,rfl⟩,⟨rfl,rfl,Zf0⟩,⟨rfl,rfl,rfl⟩,⟨rfl,rfl,Zf0⟩,⟨rfl,rfl,Zf0⟩,tv⟩) .is (ZX.intR .t Z)) r2 r1 (qf (oH [.pointer none,.int .i64 0,.pointer none,.int .i64 0,.int .i64 0] 102) trivial qz (qf (oA 5 102 .same (.conv .t .agg)) r2 r1 qZ)))))))) V [35,34,33,9,8,6,1,0] [102,101,8,7,6,5,4,3,2,0] (fun _=>rfl) (fun _=>rfl) fun τ a w F O=>?_))
  try dsimp only [RS.sub,SF.sub,CF.sub,csub,Anc.sub,List.map,Ze,xL,xM,Nat.reduceAdd,xD,xE,xT,xU,xC,xN,zCF,ldSF,rRt,rSq,Zx,rTx,ZB,Zs,ZG,rOp] at O
  generalize τ 9=v9 at O
  have hyl:i<A.snaps.length:=by omega
  obtain ⟨y,hy⟩:∃ y,A.snaps[i]? = some y:=⟨_,YaR hyl⟩
  have hky:(Nn ks i)=y.1:=by rw [ZE ow];have h1:=YB.1 hy;simp only [hks,Yae];rw [h1.2]
  obtain ⟨c9,hc9,hr9⟩:=hq.cur hy
  rw [← hky] at hc9
  rw [hc9] at O
  try dsimp only [Option.getD] at O
  rw [hr9.a] at O
  obtain ⟨K,hK,hmI⟩:=hq.mv
  have hyo:=hok.oks y (Yan hy)
  have hysz:=hok.snap_le (Yan hy)
  have hycl:=ZaY A.all A.seqs y.2
  have hyql:=hq.len
  have hysn:=Zl6 hok i
  obtain ⟨F,O⟩:=O.nM [35,34,33,9,8,6,1,0] [102,101,8,7,6,5,4,3,2,0]
  refine Za (Ya ?_)
  replace O:=O.fresh 9 rfl
  obtain ⟨F,O⟩:=O.push 9 102 Z Z Z kr
  obtain ⟨F,O⟩:=O.push 9 101 Z Z Z kr
  obtain ⟨F,O⟩:=O.push 9 6 Z Z Z kr
  obtain ⟨F,O⟩:=O.push 9 8 Z Z Z kr
  obtain ⟨F,O⟩:=O.push 9 3 Z Z Z kr
  obtain ⟨F,O⟩:=O.push 9 2 Z Z Z kr
  replace O:=O.turn 9 Z (r':=RS.hp (.star (ZpV (.pointer (some ⟨b,0,none⟩)) (arV (some sc.b)) sc.b nb sc.q qq x1.c sc.mv A.next sc.alv sc.sqv sr1 v21 es1 ck1 v9 c9))) (fun _ _ _ _ h=>h)
  obtain ⟨F,O⟩:=O.nM [35,34,33,9,8,6,1,0] [9,7,5,4,0]
  refine Zf O (qR rr (qR rr (qf (o_callG1 9 (ZhL b sc.b nb A.seqs (ZbN (rootsA A ++ [r]) A.seqs.length) sc.q qq c9 sc.mv A.next sc.alv sc.sqv sr1 v21 es1 ck1 K y.2 x1.c v9 hmI hr9 ow hyo.1.ov (live_of (snap_root hy) (fun p hp=>(hyo.1.ov p hp).1)) ow ow) func121 Z kr (Args.three .t .t .t)) r3 r1 qZ))) V [35,34,33,9,8,6,1,0] [9,7,5,4,0] Z Z fun a w F O=>?_
  obtain ⟨x2,O⟩:=O.open_ex 9 rfl
  obtain ⟨hp2,O⟩:=O.open_and 9 rfl
  obtain ⟨F,O⟩:=O.peel 9 2 Z rfl
  obtain ⟨F,O⟩:=O.peel 9 3 Z rfl
  obtain ⟨F,O⟩:=O.peel 9 8 Z rfl
  obtain ⟨F,O⟩:=O.peel 9 6 Z rfl
  obtain ⟨F,O⟩:=O.peel 9 101 Z rfl
  obtain ⟨F,O⟩:=O.peel 9 102 Z rfl
  dsimp only [Znw] at O
  obtain ⟨F,O⟩:=O.nM [35,34,33,9,8,6,1,0] [102,101,8,7,6,5,4,3,2,0]
  refine Za (Zq O (qR rr (qf (o_nilCheck 2 .is (by rfl)) r1 r1 (qf (oF 6 2 .adr) r1 r1 (qa 2 r1 r1 (qR rr (qe 5 102 r1 r1 (qf (Za3 (ek:=(fun c:RtC=>PV.agg (rRt c))) (v:=x2.c) 4 YbG (ZaN YbA) .is (ZX.intR .t Z) (.conv (.pagg .t) (Ent.rt hp2.rt.a))) r3 r1 qZ))))))) V [35,34,33,6,1,0] [102,101,8,7,6,5,4,3,2,0] Z Z fun a w F O=>?_)
  try dsimp only [List.map,xD,xE,xT,xU,ldSF,rRt,rSq,Zx,rTx,ZB,Zs,ZG,rOp] at O
  have hN3:=hq.step (cc:=cc1) hok hK hy hp2
  rw [← hky] at hN3
  refine Zm (Za (rZ O (qp r1 (qR rr qZ)) V [35,34,33,6,1,0] [102,101,8,7,6,5,4,3,2,0] fun O=>?_))
  replace O:=O.ent (i:=35) (s':=.pv (.int .i64 ((i+1:Nat):Int))) Z (.int (Zl ow))
  obtain ⟨F,O⟩:=O.nM [34,33,6,1,0,35] [7,5,3,2,0,101,6,8,4]
  exact ⟨((i+1),((gPut (Nn ks i) x2.c (cs1,cc1)).1),((gPut (Nn ks i) x2.c (cs1,cc1)).2),(x2.q),(x2.sr),(x2.es),(x2.ck)),F,⟨by omega,hN3⟩,O,by omega⟩
 have hil:i=ks.length:=by simp at hc1;omega
 obtain ⟨K,hK,hmI⟩:=hq.mv
 have hwsz:=ZaY A.all A.seqs r
 have hwql:=hq.len
 have hwsn:=Zl6 hok i
 have hwof:=hrok.ov
 have hwi:i=A.snaps.length:=by omega
 have hsf9:=hfit.snaps
 refine Yr (Zj (Zj (Zv (Za (Ya ?_)))))
 replace O:=O.fresh 9 rfl
 obtain ⟨F,O⟩:=O.push 9 7 Z Z Z kr
 obtain ⟨F,O⟩:=O.push 9 101 Z Z Z kr
 obtain ⟨F,O⟩:=O.push 9 6 Z Z Z kr
 obtain ⟨F,O⟩:=O.push 9 8 Z Z Z kr
 obtain ⟨F,O⟩:=O.push 9 3 Z Z Z kr
 obtain ⟨F,O⟩:=O.push 9 2 Z Z Z kr
 replace O:=O.turn 9 Z (r':=RS.hp (.star (ZpV (.pointer (some ⟨b,0,none⟩)) (arV (some sc.b)) sc.b nb sc.q qq x1.c sc.mv A.next sc.alv sc.sqv sr1 v21 es1 ck1 (.pointer (some ⟨wb,0,none⟩)) c))) (fun _ _ _ _ h=>h)
 obtain ⟨F,O⟩:=O.nM [36,35,34,33,6,1,0] [9,5,4,0]
 refine Zf O (qR rr (qR rr (qR rr (qf (o_callG1 9 (ZhL b sc.b nb A.seqs (ZbN (rootsA A ++ [r]) A.seqs.length) sc.q qq c sc.mv A.next sc.alv sc.sqv sr1 v21 es1 ck1 K r x1.c (.pointer (some ⟨wb,0,none⟩)) hmI hr ow hrok.ov (live_of (by simp) (fun p hp=>(hrok.ov p hp).1)) ow ow) func121 Z kr (Args.three .t .t .t)) r3 r1 qZ)))) V [6,0] [9,5,4,0] Z Z fun a w F O=>?_
 obtain ⟨x3,O⟩:=O.open_ex 9 rfl
 obtain ⟨hp3,O⟩:=O.open_and 9 rfl
 obtain ⟨F,O⟩:=O.peel 9 2 Z rfl
 obtain ⟨F,O⟩:=O.peel 9 3 Z rfl
 obtain ⟨F,O⟩:=O.peel 9 8 Z rfl
 obtain ⟨F,O⟩:=O.peel 9 6 Z rfl
 obtain ⟨F,O⟩:=O.peel 9 101 Z rfl
 obtain ⟨F,O⟩:=O.peel 9 7 Z rfl
 dsimp only [Znw] at O
 obtain ⟨F,O⟩:=O.nM [6,0] [101,8,7,6,5,4,3,2,0]
 obtain ⟨e9,he9,hel9⟩:=hp3.app
 have hx3q:x3.q.length≤52000:=by rw [he9,Yb];omega
 have hx3l:=hp3.mv.len
 refine Za (Ya (rZ O (qR rr (qf (o_nilCheck 2 .is (by rfl)) r1 r1 (qf (oF 9 2 .adr) r1 r1 (qa 2 r1 r1 (qf (Zae 6 YbD .is) r1 r1 (qf (Zas .t qi) r1 qz qZ)))))) V [64,6,0] [101,8,7,6,5,4,3,2,0] fun O=>?_))
 refine Zd O Z (fun hc2=>?_) (fun hc2=>?_)
 ·have hn0:0<A.seqs.length:=by simp at hc2;omega
  replace O:=O.fresh 9 rfl
  obtain ⟨F,O⟩:=O.push 9 101 Z Z Z kr
  obtain ⟨F,O⟩:=O.push 9 6 Z Z Z kr
  obtain ⟨F,O⟩:=O.push 9 8 Z Z Z kr
  obtain ⟨F,O⟩:=O.push 9 3 Z Z Z kr
  obtain ⟨F,O⟩:=O.push 9 2 Z Z Z kr
  replace O:=O.turn 9 Z (r':=RS.hp (.star (Znp (.pointer (some ⟨b,0,none⟩)) (arV (some nb)) sc.b nb sc.q x3.q x1.c sc.mv A.next sc.alv sc.sqv x3.sr v21 x3.es x3.ck))) (fun _ _ _ _ h=>h)
  obtain ⟨F,O⟩:=O.nM [64,6,0] [9,7,5,4,0]
  refine Zf O (qR rr (qR rr (qf (o_callG1 9 (Znh b sc.b nb A.seqs (ZbN (rootsA A ++ [r]) A.seqs.length) sc.q x3.q x1.c sc.mv A.next sc.alv sc.sqv x3.sr v21 x3.es x3.ck (K+r.orders.length) hp3.mv ow ow (.inr ow) (by have:=hfit.len _ (Z8 (show A.seqs.length - 1<A.seqs.length by omega));omega)) func123 Z kr (Args.two .t .t)) r2 r1 qZ))) V [] [9,7,5,4,0] Z Z fun a w F O=>?_
  obtain ⟨x4,O⟩:=O.open_ex 9 rfl
  obtain ⟨hp4,O⟩:=O.open_and 9 rfl
  obtain ⟨F,O⟩:=O.peel 9 2 Z rfl
  obtain ⟨F,O⟩:=O.peel 9 3 Z rfl
  obtain ⟨F,O⟩:=O.peel 9 8 Z rfl
  obtain ⟨F,O⟩:=O.peel 9 6 Z rfl
  obtain ⟨F,O⟩:=O.peel 9 101 Z rfl
  dsimp only [Znw] at O
  obtain ⟨F,O⟩:=O.nM [] [101,8,7,6,5,4,3,2,0]
  obtain ⟨h41,h42,⟨e4,h43,h44⟩,h45,h46⟩:=hp4
  have hlf:=hfit.len _ (Z8 (show A.seqs.length - 1<A.seqs.length by omega))
  have hfin:Zbh A r sc c n ((⟨nb,x4.q,x1.c,cs1,cc1,sc.mv,sc.alv,sc.sqv,x4.sr⟩:StC),x3.c):=by
    obtain ⟨k1,k2⟩:=hq.done (cc:=cc1) (mv:=sc.mv) (alv:=sc.alv) (sqv:=sc.sqv) hwi hp3 ⟨e4,h43⟩ h41 h42 (fun _=>⟨h45,h46⟩)
    exact ⟨k1,k2,.inr (by show x4.q.length≤60000;rw [h43,Yb];omega)⟩
  have O:=O.fresh 1 rfl
  obtain ⟨F,O⟩:=O.push 1 7 Z Z Z kr
  obtain ⟨F,O⟩:=O.push 1 6 Z Z Z kr
  obtain ⟨F,O⟩:=O.push 1 5 Z Z Z kr
  obtain ⟨F,O⟩:=O.push 1 4 Z Z Z kr
  obtain ⟨F,O⟩:=O.push 1 8 Z Z Z kr
  obtain ⟨F,O⟩:=O.push 1 2 Z Z Z kr
  have O:=O.turn 1 Z (r':=RS.hp (.ex fun x:StC×RtC=>.and (Zbh A r sc c n x) (.star (Zbb (.pointer (some ⟨b,0,none⟩)) (.pointer (some ⟨wb,0,none⟩)) A x.1 x.2)))) (fun _ _ _ _ h=>⟨((⟨nb,x4.q,x1.c,cs1,cc1,sc.mv,sc.alv,sc.sqv,x4.sr⟩:StC),x3.c),hfin,h⟩)
  obtain ⟨F,O⟩:=O.nM [] [1,0]
  refine ZA hG O Z .nil .none rfl
 have hn0:A.seqs.length=0:=by rw [Yh] at hc2;omega
 have hfin:Zbh A r sc c n ((⟨nb,x3.q,x1.c,cs1,cc1,sc.mv,sc.alv,sc.sqv,x3.sr⟩:StC),x3.c):=by
   obtain ⟨k1,k2⟩:=hq.done (cc:=cc1) (mv:=sc.mv) (alv:=sc.alv) (sqv:=sc.sqv) hwi hp3 ⟨[],by simp⟩ hx3l hp3.mv.new (fun h9=>by omega)
   exact ⟨k1,k2,.inr (by show x3.q.length≤60000;omega)⟩
 refine Yf ?_
 have O:=O.fresh 1 rfl
 obtain ⟨F,O⟩:=O.push 1 7 Z Z Z kr
 obtain ⟨F,O⟩:=O.push 1 6 Z Z Z kr
 obtain ⟨F,O⟩:=O.push 1 5 Z Z Z kr
 obtain ⟨F,O⟩:=O.push 1 4 Z Z Z kr
 obtain ⟨F,O⟩:=O.push 1 8 Z Z Z kr
 obtain ⟨F,O⟩:=O.push 1 2 Z Z Z kr
 have O:=O.turn 1 Z (r':=RS.hp (.ex fun x:StC×RtC=>.and (Zbh A r sc c n x) (.star (Zbb (.pointer (some ⟨b,0,none⟩)) (.pointer (some ⟨wb,0,none⟩)) A x.1 x.2)))) (fun _ _ _ _ h=>⟨((⟨nb,x3.q,x1.c,cs1,cc1,sc.mv,sc.alv,sc.sqv,x3.sr⟩:StC),x3.c),hfin,h⟩)
 obtain ⟨F,O⟩:=O.nM [] [1,0]
 refine ZA hG O Z .nil .none rfl
theorem Zgq {k v:Int} {p:Zz} : ∀ {l:List Zz} {d:Bool},p ∈ Zaz k v l d ↔ (p ∈ l∧p.key≠k)∨(d=false∧p = ⟨k,v⟩)
 | [],d=>by cases d <;> simp [Zaz]
 | x :: l,d=>by
  have hA:p ∈ (if d=false∧k≤x.key then [(⟨k,v⟩:Zz)] else []) ↔ (d=false∧k≤x.key)∧p = ⟨k,v⟩:=by
   by_cases h:d=false∧k≤x.key
   ·rw [Yd h,Yl];exact ⟨fun e=>⟨h,e⟩,fun e=>e.2⟩
   ·rw [Yc h];exact ⟨fun e=>(by cases e),fun e=>absurd e.1 h⟩
  have V:p ∈ (if x.key=k then [] else [x]) ↔ x.key≠k∧p=x:=by
   by_cases h:x.key=k
   ·rw [Yd h];exact ⟨fun e=>(by cases e),fun e=>absurd h e.1⟩
   ·rw [Yc h,Yl];exact ⟨fun e=>⟨h,e⟩,fun e=>e.2⟩
  have hC:((d || decide (k≤x.key))=false) ↔ (d=false∧¬ k≤x.key):=by cases d <;> simp
  rw [Zaz,YJ,YJ,Zgq (l:=l),hA,V,hC,Yo]
  constructor
  ·rintro ((⟨⟨h1,_⟩,h3⟩ | ⟨h1,rfl⟩) | ⟨h1,h2⟩ | ⟨⟨h1,_⟩,h3⟩)
   ·exact .inr ⟨h1,h3⟩
   ·exact .inl ⟨.inl rfl,h1⟩
   ·exact .inl ⟨.inr h1,h2⟩
   ·exact .inr ⟨h1,h3⟩
  ·rintro (⟨rfl | h1,h2⟩ | ⟨h1,h2⟩)
   ·exact .inl (.inr ⟨h2,rfl⟩)
   ·exact .inr (.inl ⟨h1,h2⟩)
   ·by_cases h:k≤x.key
    ·exact .inl (.inl ⟨⟨h1,h⟩,h2⟩)
    ·exact .inr (.inr ⟨⟨h1,h⟩,h2⟩)
theorem ZdQ {l:List Zz} {k v:Int} {p:Zz} : p ∈ putP l k v ↔ (p ∈ l∧p.key≠k)∨p = ⟨k,v⟩:=by
 unfold putP;rw [Zgq];simp
theorem ZdD {l:List Zz} {k:Int} {p:Zz} : p ∈ delP l k ↔ p ∈ l∧p.key≠k:=by
 unfold delP;rw [Y3];simp
def Zcv (l:List Zz) (ks:List Int):List Zz:=ks.foldl delP l
theorem ZcG {p:Zz} : ∀ {ks:List Int} {l:List Zz},p ∈ Zcv l ks ↔ p ∈ l∧p.key ∉ ks
 | [],l=>by simp [Zcv]
 | k :: ks,l=>by
  show p ∈ Zcv (delP l k) ks ↔ _
  rw [ZcG,ZdD,Yo]
  constructor
  ·rintro ⟨⟨h1,h2⟩,h3⟩;exact ⟨h1,fun h=>h.elim h2 h3⟩
  ·rintro ⟨h1,h2⟩;exact ⟨⟨h1,fun h=>h2 (.inl h)⟩,fun h=>h2 (.inr h)⟩
theorem Zic:∀ {ks:List Int} {l:List Zz},Inc l→Inc (Zcv l ks)
 | [],_,h=>h
 | _ :: ks,_,h=>Zic (ks:=ks) (ZeW h)
theorem ZkY (l:List Zz) (ks:List Int) (k:Int):Zcv l (ks ++ [k])=delP (Zcv l ks) k:=by unfold Zcv;rw [List.foldl_append];rfl
def putsS (l:List Zz) (n:Int) (ks:List Int):List Zz×Int:=ks.foldl (fun s k=>(putP s.1 k s.2,s.2+1)) (l,n)
def putsL (l:List Zz) (n:Int) (ks:List Int):List Zz:=(putsS l n ks).1
theorem Zm4 (l:List Zz) (n:Int) (ks:List Int):(putsS l n ks).2=n+ks.length:=by
 have key:∀ (ks:List Int) (s:List Zz×Int),(ks.foldl (fun s k=>(putP s.1 k s.2,s.2+1)) s).2=s.2+ks.length:=by
  intro ks
  induction ks with
  | nil=>intro s;simp
  | cons k ks ih=>intro s;rw [Ybc,ih,Yp];show s.2+1+_=_;omega
 exact key ks (l,n)
theorem Zgr (l:List Zz) (n:Int) (ks:List Int) (k:Int):putsL l n (ks ++ [k])=putP (putsL l n ks) k (n+ks.length):=by
 have h:=Zm4 l n ks
 unfold putsL putsS at *
 rw [List.foldl_append,Ybc,List.foldl_nil,h]
theorem Zl9 {l:List Zz} {n:Int} (h:Inc l) (ks:List Int):Inc (putsL l n ks):=by
 have key:∀ (ks:List Int) (s:List Zz×Int),Inc s.1→Inc (ks.foldl (fun s k=>(putP s.1 k s.2,s.2+1)) s).1:=by
  intro ks
  induction ks with
  | nil=>intro s h;exact h
  | cons k ks ih=>intro s h;exact ih _ (putP_inc h)
 exact key ks (l,n) h
theorem Zmn {l:List Zz} {n:Int} {ks:List Int} (hn:ks.Nodup):∀ (i:Nat),i≤ks.length → ∀ p,p ∈ putsL l n (ks.take i) ↔ (p ∈ l∧p.key ∉ ks.take i) ∨ ∃ j:Nat,j<i∧p = ⟨Nn ks j,n+j⟩:=by
 intro i
 induction i with
 | zero=>intro _ p;simp [putsL,putsS]
 | succ i ih=>
  intro hi p
  have hil:i<ks.length:=by omega
  rw [Z9 hil,Zgr,ZdQ,ih ow,YJ,Yl,Yk,YY ow]
  have hne:∀ j,j<i→Nn ks j≠Nn ks i:=fun j hj e=>by
   rw [ZE ow,ZE hil] at e
   exact (Y4.1 (List.nodup_iff_pairwise_ne.1 hn)) j i ow hil hj e
  constructor
  ·rintro (⟨⟨h1,h2⟩ | ⟨j,h1,rfl⟩,h3⟩ | rfl)
   ·exact .inl ⟨h1,fun h=>h.elim h2 h3⟩
   ·exact .inr ⟨j,by omega,rfl⟩
   ·exact .inr ⟨i,by omega,rfl⟩
  ·rintro (⟨h1,h2⟩ | ⟨j,h1,rfl⟩)
   ·exact .inl ⟨.inl ⟨h1,fun h=>h2 (.inl h)⟩,fun h=>h2 (.inr h)⟩
   ·by_cases h:j=i
    ·subst h;exact .inr rfl
    ·exact .inl ⟨.inr ⟨j,by omega,rfl⟩,hne j ow⟩
theorem Zit {α:Type} [Inhabited α] [DecidableEq α] {κ:α→Int} {f:Zz→α} {l:List Zz} (hi:Inc l) (hk:∀ p ∈ l,κ (f p)=p.key) {was now:List α} {n:Int} (hf:∀ j:Nat,j<now.length→f ⟨κ (Nn now j),n+j⟩ = Nn now j) (hn:ZY κ now) (hfit:ZaV κ (l.map f) was now=true) :
  (putsL (Zcv l (was.map κ)) n (now.map κ)).map f=Zeo κ (l.map f) was now:=by
 have hnd:(now.map κ).Nodup:=by
  rw [List.nodup_iff_pairwise_ne,List.pairwise_map]
  exact List.Pairwise.imp (fun h=>by omega) hn
 have hmem:=fun p=>Zmn (l:=Zcv l (was.map κ)) (n:=n) hnd (now.map κ).length (Yw _) p
 rw [YM] at hmem
 have hrl:ZY κ (l.map f):=by
  unfold ZY
  rw [List.pairwise_map]
  refine List.Pairwise.imp_of_mem (fun ha hb h=>?_) hi
  rw [hk _ ha,hk _ hb];exact h
 have hnth:∀ j,j<now.length→Nn (now.map κ) j=κ (Nn now j):=fun j hj=>by
  rw [ZE (by simpa using hj),ZE hj,Yae]
 have hkey:∀ p ∈ putsL (Zcv l (was.map κ)) n (now.map κ),κ (f p)=p.key:=fun p hp=>by
  rcases (hmem p).1 hp with ⟨h1,_⟩ | ⟨j,h1,rfl⟩
  ·exact hk p (ZcG.1 h1).1
  ·have hj:j<now.length:=by simpa using h1
   rw [hnth j hj,hf j hj]
 refine Zd5 ?_ (ZhA hrl.unl hn.unl hfit) fun x=>?_
 ·unfold ZY
  rw [List.pairwise_map]
  refine List.Pairwise.imp_of_mem (fun ha hb h=>?_) (Zl9 (Zic hi) _)
  rw [hkey _ ha,hkey _ hb];exact h
 ·rw [ZeX,Yv]
  constructor
  ·rintro ⟨p,hp,rfl⟩
   rcases (hmem p).1 hp with ⟨h1,h2⟩ | ⟨j,h1,rfl⟩
   ·obtain ⟨h3,h4⟩:=ZcG.1 h1
    refine .inl ⟨Yv.2 ⟨p,h3,rfl⟩,fun y hy e=>h4 (Yv.2 ⟨y,hy,?_⟩)⟩
    rw [e,hk p h3]
   ·have hj:j<now.length:=by simpa using h1
    rw [hnth j hj,hf j hj]
    exact .inr (Z8 hj)
  ·rintro (⟨h1,h2⟩ | h1)
   ·obtain ⟨p,hp,rfl⟩:=Yv.1 h1
    have hw:p.key ∉ was.map κ:=fun h=>by
     obtain ⟨y,hy,e⟩:=Yv.1 h
     exact h2 y hy (by rw [e,hk p hp])
    refine ⟨p,(hmem p).2 (.inl ⟨ZcG.2 ⟨hp,hw⟩,fun h=>?_⟩),rfl⟩
    obtain ⟨y,hy,e⟩:=Yv.1 h
    unfold ZaV at hfit
    rw [Yu,Yas] at hfit
    have h3:=hfit.2 y hy
    have h4:(ZO κ (l.map f) (κ y)).isSome=true:=ZcX.2 ⟨f p,h1,by rw [hk p hp,e]⟩
    have h5:(ZO κ was (κ y)).isSome=false:=by
     cases e2:(ZO κ was (κ y)).isSome with
     | false=>rfl
     | true=>
      obtain ⟨z,hz,ez⟩:=ZcX.1 e2
      exact absurd (Yv.2 ⟨z,hz,ez.trans e⟩) hw
    rw [h4,h5] at h3
    cases h3
   ·obtain ⟨j,hj,rfl⟩:=Y6 h1
    have e:Nn now j=now[j]:=ZE hj
    refine ⟨⟨Nn (now.map κ) j,n+j⟩,(hmem _).2 (.inr ⟨j,by simpa using hj,rfl⟩),?_⟩
    rw [hnth j hj,hf j hj,e]
theorem Zpz (b:Nat) {q:List Cell} {root:Int} {t:Z5} {l:List Zz} (k v:Int) (ht:Zb6 q t root) (hl:tList t=l) (hs:l.length<1000000) (hr:q.length+3*(Zg t+1)≤65536) :
  ∃ (e:List Cell) (r:Int),FnG prog 119 1 [.agg [.is (arV (some b)),.int .i64 root],.int .i64 k,.int .i64 v] [arH (some b) 65536 q] (.tup [.agg [.is (arV (some b)),.int .i64 r],.int .i64 0]) (fun _=>[arH (some b) 65536 (q++e)])∧Zho (q++e) r (putP l k v):=by
 have hz:=ZM t
 rw [hl] at hz
 rcases ht.put (room:=65536) k v ow with ⟨e,r,h1,h2,h3⟩ | ⟨_,h3⟩
 ·have:=ZpM (some b) 65536 q root k v t ht.rep
  rw [h1] at this
  exact ⟨e,r,this,_,h2,by rw [Zdu _ ht.inc,hl]⟩
 ·omega
theorem Zpq (b:Nat) {q:List Cell} {root:Int} {t:Z5} {l:List Zz} (k:Int) (ht:Zb6 q t root) (hl:tList t=l) (hs:l.length<1000000) (hr:q.length+3*(Zg t+1)≤65536) (hk:(getL k l).2=true) :
  ∃ (e:List Cell) (r:Int),FnG prog 118 1 [.agg [.is (arV (some b)),.int .i64 root],.int .i64 k] [arH (some b) 65536 q] (.tup [.agg [.is (arV (some b)),.int .i64 r],.int .i64 0]) (fun _=>[arH (some b) 65536 (q++e)])∧Zho (q++e) r (delP l k):=by
 have hz:=ZM t
 rw [hl] at hz
 rcases ht.del (room:=65536) k ow with ⟨h1,_⟩ | ⟨_,⟨e,r,h1,h2,h3⟩ | ⟨_,h3⟩⟩
 ·rw [ZcZ k ht.inc,hl] at h1;exact absurd hk h1
 ·have:=Zpw (some b) 65536 q root k t ht.rep
  rw [h1] at this
  exact ⟨e,r,this,_,h2,by rw [Zd0 _ ht.inc,hl]⟩
 ·omega
theorem Zac.app {A:StA} {ex:List RtA} {s:StC} (h:Zac A ex s) (e:List Cell):Zac A ex ⟨s.b,s.q++e,s.c,s.cs,s.ck,s.mv,s.alv,s.sqv,s.sr⟩:=
 ⟨h.now.app,h.keys,fun x hx=>by obtain ⟨c,hc,hr⟩:=h.snaps x hx;exact ⟨c,hc,hr.app⟩,h.len,fun i hi hl=>⟨(h.seqs i hi hl).1,(h.seqs i hi hl).2.app⟩⟩
theorem Zac.exMono {A:StA} {ex ex':List RtA} {s:StC} (h:Zac A ex s) (hm:∀ i:Nat,ZbN (rootsA A++ex') A.seqs.length i→ZbN (rootsA A++ex) A.seqs.length i):Zac A ex' s:=⟨h.now,h.keys,h.snaps,h.len,fun i hi hl=>h.seqs i hi (hm i hl)⟩
theorem ZgR {A:StA} {r r':RtA} {i:Nat} (hp:∀ p ∈ r'.orders,p ∈ r.orders∨p.val+1=A.seqs.length) (h:ZbN (rootsA A ++ [r']) A.seqs.length i):ZbN (rootsA A ++ [r]) A.seqs.length i:=by
 rcases h with ⟨r1,hr1,p,hpm,e⟩ | h
 ·rcases YJ.1 hr1 with h1 | h1
  ·exact .inl ⟨r1,Yai _ h1,p,hpm,e⟩
  ·rw [Yl] at h1
   subst h1
   rcases hp p hpm with h2 | h2
   ·exact .inl ⟨r,by simp,p,h2,e⟩
   ·exact .inr ow
 ·exact .inr h
def Za1 (v w:Value) (A:StA) (r:RtA):HP:=.ex fun x:StC×RtC=>.and (Zac A [r] x.1∧Zbs x.1.q (arV (some x.1.b)) x.2 r) (.star (Zbb v w A x.1 x.2))
theorem Zbh.treeT {A:StA} {r:RtA} {s:StC} {c:RtC} {t0:Z5} {x:StC×RtC} (h:Zbh A r s c (3*(Zg t0+1)) x) (h0:Zb6 s.q t0 c.tr) (hl:tList t0=r.txs) (hs:r.txs.length<1000000):∃ t1,Zb6 x.1.q t1 x.2.tr∧tList t1=r.txs∧x.1.q.length+3*(Zg t1+1)≤65536:=by
 rcases h.room with ⟨e,h1⟩ | h1
 ·subst e;exact ⟨t0,h0,hl,h1⟩
 ·obtain ⟨t1,h2,h3⟩:=h.rt.t
  have hz:=ZM t1
  rw [h3] at hz
  have:=h2.high ow
  exact ⟨t1,h2,h3,by omega⟩
theorem Zbh.treeO {A:StA} {r:RtA} {s:StC} {c:RtC} {t0:Z5} {x:StC×RtC} (h:Zbh A r s c (3*(Zg t0+1)) x) (h0:Zb6 s.q t0 c.or) (hl:tList t0=r.orders) (hs:r.orders.length<1000000):∃ t1,Zb6 x.1.q t1 x.2.or∧tList t1=r.orders∧x.1.q.length+3*(Zg t1+1)≤65536:=by
 rcases h.room with ⟨e,h1⟩ | h1
 ·subst e;exact ⟨t0,h0,hl,h1⟩
 ·obtain ⟨t1,h2,h3⟩:=h.rt.o
  have hz:=ZM t1
  rw [h3] at hz
  have:=h2.high ow
  exact ⟨t1,h2,h3,by omega⟩
theorem ZeN (o:Option Nat) (room:Int) (q:List Cell) (root:Int) (t:Z5) (hr:Rep id q t root):FnG prog 117 1 [.agg [.is (arV o),.int .i64 root]] [arH o room q] (.int .i64 (Zg t)) (fun _=>[arH o room q]):=by
 have:=Zpl o room q root
 rwa [hr.high] at this
theorem Zns (b wb:Nat) (A:StA) (hok:Zax A) (hfit:Zba A) (r:RtA) (hrok:ZiH A.all A.seqs r) (hrz:sizeH (Zbm A.all A.seqs r)≤40000) (n at9:Int):FnG prog 63 1 [.is (.pointer (some ⟨b,0,none⟩)),.is (.pointer (some ⟨wb,0,none⟩)),.is (shift 0 (.pointer (some ⟨wb,0,none⟩))),.int .i64 n,.int .i64 at9] [Za1 (.pointer (some ⟨b,0,none⟩)) (.pointer (some ⟨wb,0,none⟩)) A r] (.tup []) (fun _=>[Za1 (.pointer (some ⟨b,0,none⟩)) (.pointer (some ⟨wb,0,none⟩)) A (⟨putP r.txs n at9,r.orders,r.size⟩:RtA)]):=by
 refine FnG.mk func63 Z ntmps63 Z kr fun B F0 a w F V hG O=>?_
 replace O:=O.ent (i:=2) (s':=.adr (.val (.pointer (some ⟨wb,0,none⟩))) 0) Z Ent.kAdr
 obtain ⟨⟨sc,c⟩,O⟩:=O.open_ex 1 rfl
 obtain ⟨⟨hk,hr⟩,O⟩:=O.open_and 1 rfl
 obtain ⟨F,O⟩:=O.peel 1 2 Z rfl
 obtain ⟨F,O⟩:=O.peel 1 3 Z rfl
 obtain ⟨F,O⟩:=O.peel 1 4 Z rfl
 obtain ⟨F,O⟩:=O.peel 1 5 Z rfl
 obtain ⟨F,O⟩:=O.peel 1 6 Z rfl
 obtain ⟨F,O⟩:=O.peel 1 7 Z rfl
 try dsimp only at O
 dsimp only at hk hr
 obtain ⟨F,O⟩:=O.nM [4,3,2,1,0] [7,6,5,4,3,2,0]
 have hrl:=ZbL A.all A.seqs r
 obtain ⟨t0,ht0,hl0⟩:=hr.t
 have hz0:=ZM t0
 rw [hl0] at hz0
 have hh0:=ht0.high ow
 refine Ya (Za0 8 O kr (cG Z (oM .t) r1 trivial (cG Z (oM .t) r1 trivial (cG Z (oM .t) r1 trivial (cG Z (o_nilCheck 7 .adr (by rfl)) r1 r1 (cG Z (oL true 2 7 .adr) r1 r1 (cG Z (o_callG1 3 (ZeN (some sc.b) 65536 sc.q c.tr t0 ht0.rep) func117 Z kr (Args.one (.pagg .t))) r1 r1 (cG Z (o_add .t (.ci kr)) r1 trivial (cG Z (ZdI (.ci kr) .t) r1 trivial Zal.nil)))))))) kr (by rw [V];kernel_rfl) fun a w F O=>?_)
 obtain ⟨F,O⟩:=O.nM [17,11,10,4,3,2] [7,6,5,4,3,2,0]
 try dsimp only [List.map,xD,xE,xT,xU,ldSF,rRt,rSq,Zx,rTx,ZB,Zs,ZG,rOp] at O
 have hwn:IntKind.wrap .i64 (3*IntKind.wrap .i64 (Zg t0+1))=3*(Zg t0+1):=by rw [Zc (x:=Zg t0+1) ow,Zc ow]
 rw [hwn] at O
 replace O:=O.fresh 9 rfl
 obtain ⟨F,O⟩:=O.push 9 7 Z Z Z kr
 obtain ⟨F,O⟩:=O.push 9 6 Z Z Z kr
 obtain ⟨F,O⟩:=O.push 9 5 Z Z Z kr
 obtain ⟨F,O⟩:=O.push 9 4 Z Z Z kr
 obtain ⟨F,O⟩:=O.push 9 3 Z Z Z kr
 obtain ⟨F,O⟩:=O.push 9 2 Z Z Z kr
 replace O:=O.turn 9 Z (r':=RS.hp (.star (Zbb (.pointer (some ⟨b,0,none⟩)) (.pointer (some ⟨wb,0,none⟩)) A sc c))) (fun _ _ _ _ h=>h)
 obtain ⟨F,O⟩:=O.nM [17,11,10,4,3,2] [9,0]
 refine Zbn O kr (cG Z (o_callG1 9 (Zeb b wb A hok hfit r hrok hrz sc c (3*(Zg t0+1)) hk hr ow) func64 Z kr (Args.three .t .t .t)) r3 r1 Zal.nil) kr (by rw [V];kernel_rfl) fun a w F O=>?_
 obtain ⟨F,O⟩:=O.nM [4,3,2] [9,0]
 try dsimp only [rRt,rSq,Zx,rTx,ZB,Zs,ZG,rOp] at O
 obtain ⟨⟨s2,c2⟩,O⟩:=O.open_ex 9 rfl
 obtain ⟨hp2,O⟩:=O.open_and 9 rfl
 obtain ⟨F,O⟩:=O.peel 9 2 Z rfl
 obtain ⟨F,O⟩:=O.peel 9 3 Z rfl
 obtain ⟨F,O⟩:=O.peel 9 4 Z rfl
 obtain ⟨F,O⟩:=O.peel 9 5 Z rfl
 obtain ⟨F,O⟩:=O.peel 9 6 Z rfl
 obtain ⟨F,O⟩:=O.peel 9 7 Z rfl
 try dsimp only at O
 obtain ⟨F,O⟩:=O.nM [4,3,2] [7,6,5,4,3,2,0]
 obtain ⟨t1,ht1,hl1,hrm1⟩:=hp2.treeT ht0 hl0 ow
 obtain ⟨e1,ro1,hM1,hR1⟩:=Zpz s2.b n at9 ht1 hl1 ow hrm1
 refine Za (Zf O (qR rr (qR rr (qf (o_nilCheck 7 .adr (by rfl)) r1 r1 (qf (oL true 2 7 .adr) r1 r1 (qR rr (qR rr (qf (o_callG1 3 (hM1) func119 Z kr (Args.three (.pagg .t) .t .t)) r3 r1 (qR rr (qf (o_extract .t Z) r1 qz (qf (o_extract .t Z) r1 qz (qf (o_nilCheck 7 .adr (by rfl)) r1 r1 (qf (oA 2 7 .adr (.conv .t .agg)) r2 r1 qZ)))))))))))) V [] [7,6,5,4,3,2,0] Z Z fun a w F O=>?_)
 have O:=O.fresh 1 rfl
 obtain ⟨F,O⟩:=O.push 1 7 Z Z Z kr
 obtain ⟨F,O⟩:=O.push 1 6 Z Z Z kr
 obtain ⟨F,O⟩:=O.push 1 5 Z Z Z kr
 obtain ⟨F,O⟩:=O.push 1 4 Z Z Z kr
 obtain ⟨F,O⟩:=O.push 1 3 Z Z Z kr
 obtain ⟨F,O⟩:=O.push 1 2 Z Z Z kr
 have O:=O.turn 1 Z (r':=RS.hp (Za1 (.pointer (some ⟨b,0,none⟩)) (.pointer (some ⟨wb,0,none⟩)) A (⟨putP r.txs n at9,r.orders,r.size⟩:RtA))) (fun _ _ _ _ h=>⟨((⟨s2.b,s2.q++e1,s2.c,s2.cs,s2.ck,s2.mv,s2.alv,s2.sqv,s2.sr⟩:StC),(⟨arV (some s2.b),ro1,c2.or,c2.size⟩:RtC)),⟨(hp2.rep.app e1).exMono (fun i h=>ZgR (r:=r) (r':=(⟨putP r.txs n at9,r.orders,r.size⟩:RtA)) (fun p hp=>.inl hp) h),⟨rfl,hR1,hp2.rt.o.app,hp2.rt.s⟩⟩,h⟩)
 obtain ⟨F,O⟩:=O.nM [] [1,0]
 refine ZA hG O Z .nil .none rfl
theorem Zn6 (b wb:Nat) (A:StA) (hok:Zax A) (hfit:Zba A) (r:RtA) (hrok:ZiH A.all A.seqs r) (hrz:sizeH (Zbm A.all A.seqs r)≤40000) (n at9:Int) (hat:at9+1=A.seqs.length):FnG prog 63 1 [.is (.pointer (some ⟨b,0,none⟩)),.is (.pointer (some ⟨wb,0,none⟩)),.is (shift 2 (.pointer (some ⟨wb,0,none⟩))),.int .i64 n,.int .i64 at9] [Za1 (.pointer (some ⟨b,0,none⟩)) (.pointer (some ⟨wb,0,none⟩)) A r] (.tup []) (fun _=>[Za1 (.pointer (some ⟨b,0,none⟩)) (.pointer (some ⟨wb,0,none⟩)) A (⟨r.txs,putP r.orders n at9,r.size⟩:RtA)]):=by
 refine FnG.mk func63 Z ntmps63 Z kr fun B F0 a w F V hG O=>?_
 replace O:=O.ent (i:=2) (s':=.adr (.val (.pointer (some ⟨wb,0,none⟩))) 2) Z Ent.kAdr
 obtain ⟨⟨sc,c⟩,O⟩:=O.open_ex 1 rfl
 obtain ⟨⟨hk,hr⟩,O⟩:=O.open_and 1 rfl
 obtain ⟨F,O⟩:=O.peel 1 2 Z rfl
 obtain ⟨F,O⟩:=O.peel 1 3 Z rfl
 obtain ⟨F,O⟩:=O.peel 1 4 Z rfl
 obtain ⟨F,O⟩:=O.peel 1 5 Z rfl
 obtain ⟨F,O⟩:=O.peel 1 6 Z rfl
 obtain ⟨F,O⟩:=O.peel 1 7 Z rfl
 try dsimp only at O
 dsimp only at hk hr
 obtain ⟨F,O⟩:=O.nM [4,3,2,1,0] [7,6,5,4,3,2,0]
 have hrl:=ZbL A.all A.seqs r
 obtain ⟨t0,ht0,hl0⟩:=hr.o
 have hz0:=ZM t0
 rw [hl0] at hz0
 have hh0:=ht0.high ow
 refine Ya (Za0 8 O kr (cG Z (oM .t) r1 trivial (cG Z (oM .t) r1 trivial (cG Z (oM .t) r1 trivial (cG Z (o_nilCheck 7 .adr (by rfl)) r1 r1 (cG Z (oL true 2 7 .adr) r1 r1 (cG Z (o_callG1 3 (ZeN (some sc.b) 65536 sc.q c.or t0 ht0.rep) func117 Z kr (Args.one (.pagg .t))) r1 r1 (cG Z (o_add .t (.ci kr)) r1 trivial (cG Z (ZdI (.ci kr) .t) r1 trivial Zal.nil)))))))) kr (by rw [V];kernel_rfl) fun a w F O=>?_)
 obtain ⟨F,O⟩:=O.nM [17,11,10,4,3,2] [7,6,5,4,3,2,0]
 try dsimp only [List.map,xD,xE,xT,xU,ldSF,rRt,rSq,Zx,rTx,ZB,Zs,ZG,rOp] at O
 have hwn:IntKind.wrap .i64 (3*IntKind.wrap .i64 (Zg t0+1))=3*(Zg t0+1):=by rw [Zc (x:=Zg t0+1) ow,Zc ow]
 rw [hwn] at O
 replace O:=O.fresh 9 rfl
 obtain ⟨F,O⟩:=O.push 9 7 Z Z Z kr
 obtain ⟨F,O⟩:=O.push 9 6 Z Z Z kr
 obtain ⟨F,O⟩:=O.push 9 5 Z Z Z kr
 obtain ⟨F,O⟩:=O.push 9 4 Z Z Z kr
 obtain ⟨F,O⟩:=O.push 9 3 Z Z Z kr
 obtain ⟨F,O⟩:=O.push 9 2 Z Z Z kr
 replace O:=O.turn 9 Z (r':=RS.hp (.star (Zbb (.pointer (some ⟨b,0,none⟩)) (.pointer (some ⟨wb,0,none⟩)) A sc c))) (fun _ _ _ _ h=>h)
 obtain ⟨F,O⟩:=O.nM [17,11,10,4,3,2] [9,0]
 refine Zbn O kr (cG Z (o_callG1 9 (Zeb b wb A hok hfit r hrok hrz sc c (3*(Zg t0+1)) hk hr ow) func64 Z kr (Args.three .t .t .t)) r3 r1 Zal.nil) kr (by rw [V];kernel_rfl) fun a w F O=>?_
 obtain ⟨F,O⟩:=O.nM [4,3,2] [9,0]
 try dsimp only [rRt,rSq,Zx,rTx,ZB,Zs,ZG,rOp] at O
 obtain ⟨⟨s2,c2⟩,O⟩:=O.open_ex 9 rfl
 obtain ⟨hp2,O⟩:=O.open_and 9 rfl
 obtain ⟨F,O⟩:=O.peel 9 2 Z rfl
 obtain ⟨F,O⟩:=O.peel 9 3 Z rfl
 obtain ⟨F,O⟩:=O.peel 9 4 Z rfl
 obtain ⟨F,O⟩:=O.peel 9 5 Z rfl
 obtain ⟨F,O⟩:=O.peel 9 6 Z rfl
 obtain ⟨F,O⟩:=O.peel 9 7 Z rfl
 try dsimp only at O
 obtain ⟨F,O⟩:=O.nM [4,3,2] [7,6,5,4,3,2,0]
 obtain ⟨t1,ht1,hl1,hrm1⟩:=hp2.treeO ht0 hl0 ow
 obtain ⟨e1,ro1,hM1,hR1⟩:=Zpz s2.b n at9 ht1 hl1 ow hrm1
 refine Za (Zf O (qR rr (qR rr (qf (o_nilCheck 7 .adr (by rfl)) r1 r1 (qf (oL true 2 7 .adr) r1 r1 (qR rr (qR rr (qf (o_callG1 3 (hM1) func119 Z kr (Args.three (.pagg .t) .t .t)) r3 r1 (qR rr (qf (o_extract .t Z) r1 qz (qf (o_extract .t Z) r1 qz (qf (o_nilCheck 7 .adr (by rfl)) r1 r1 (qf (oA 2 7 .adr (.conv .t .agg)) r2 r1 qZ)))))))))))) V [] [7,6,5,4,3,2,0] Z Z fun a w F O=>?_)
 have O:=O.fresh 1 rfl
 obtain ⟨F,O⟩:=O.push 1 7 Z Z Z kr
 obtain ⟨F,O⟩:=O.push 1 6 Z Z Z kr
 obtain ⟨F,O⟩:=O.push 1 5 Z Z Z kr
 obtain ⟨F,O⟩:=O.push 1 4 Z Z Z kr
 obtain ⟨F,O⟩:=O.push 1 3 Z Z Z kr
 obtain ⟨F,O⟩:=O.push 1 2 Z Z Z kr
 have O:=O.turn 1 Z (r':=RS.hp (Za1 (.pointer (some ⟨b,0,none⟩)) (.pointer (some ⟨wb,0,none⟩)) A (⟨r.txs,putP r.orders n at9,r.size⟩:RtA))) (fun _ _ _ _ h=>⟨((⟨s2.b,s2.q++e1,s2.c,s2.cs,s2.ck,s2.mv,s2.alv,s2.sqv,s2.sr⟩:StC),(⟨arV (some s2.b),c2.tr,ro1,c2.size⟩:RtC)),⟨(hp2.rep.app e1).exMono (fun i h=>ZgR (r:=r) (r':=(⟨r.txs,putP r.orders n at9,r.size⟩:RtA)) (fun p hp=>by rcases ZdQ.1 hp with h1 | h1;exact .inl h1.1;subst h1;exact .inr hat) h),⟨rfl,hp2.rt.t.app,hR1,hp2.rt.s⟩⟩,h⟩)
 obtain ⟨F,O⟩:=O.nM [] [1,0]
 refine ZA hG O Z .nil .none rfl
theorem Zlr (b wb:Nat) (A:StA) (hok:Zax A) (hfit:Zba A) (r:RtA) (hrok:ZiH A.all A.seqs r) (hrz:sizeH (Zbm A.all A.seqs r)≤40000) (n:Int) (hit:(getL n r.txs).2=true):FnG prog 62 1 [.is (.pointer (some ⟨b,0,none⟩)),.is (.pointer (some ⟨wb,0,none⟩)),.is (shift 0 (.pointer (some ⟨wb,0,none⟩))),.int .i64 n] [Za1 (.pointer (some ⟨b,0,none⟩)) (.pointer (some ⟨wb,0,none⟩)) A r] (.tup []) (fun _=>[Za1 (.pointer (some ⟨b,0,none⟩)) (.pointer (some ⟨wb,0,none⟩)) A (⟨delP r.txs n,r.orders,r.size⟩:RtA)]):=by
 refine FnG.mk func62 Z ntmps62 Z kr fun B F0 a w F V hG O=>?_
 replace O:=O.ent (i:=2) (s':=.adr (.val (.pointer (some ⟨wb,0,none⟩))) 0) Z Ent.kAdr
 obtain ⟨⟨sc,c⟩,O⟩:=O.open_ex 1 rfl
 obtain ⟨⟨hk,hr⟩,O⟩:=O.open_and 1 rfl
 obtain ⟨F,O⟩:=O.peel 1 2 Z rfl
 obtain ⟨F,O⟩:=O.peel 1 3 Z rfl
 obtain ⟨F,O⟩:=O.peel 1 4 Z rfl
 obtain ⟨F,O⟩:=O.peel 1 5 Z rfl
 obtain ⟨F,O⟩:=O.peel 1 6 Z rfl
 obtain ⟨F,O⟩:=O.peel 1 7 Z rfl
 try dsimp only at O
 dsimp only at hk hr
 obtain ⟨F,O⟩:=O.nM [3,2,1,0] [7,6,5,4,3,2,0]
 have hrl:=ZbL A.all A.seqs r
 obtain ⟨t0,ht0,hl0⟩:=hr.t
 have hz0:=ZM t0
 rw [hl0] at hz0
 have hh0:=ht0.high ow
 refine Ya (Za0 8 O kr (cG Z (oM .t) r1 trivial (cG Z (oM .t) r1 trivial (cG Z (oM .t) r1 trivial (cG Z (o_nilCheck 7 .adr (by rfl)) r1 r1 (cG Z (oL true 2 7 .adr) r1 r1 (cG Z (o_callG1 3 (ZeN (some sc.b) 65536 sc.q c.tr t0 ht0.rep) func117 Z kr (Args.one (.pagg .t))) r1 r1 (cG Z (o_add .t (.ci kr)) r1 trivial (cG Z (ZdI (.ci kr) .t) r1 trivial Zal.nil)))))))) kr (by rw [V];kernel_rfl) fun a w F O=>?_)
 obtain ⟨F,O⟩:=O.nM [15,9,8,3,2] [7,6,5,4,3,2,0]
 try dsimp only [List.map,xD,xE,xT,xU,ldSF,rRt,rSq,Zx,rTx,ZB,Zs,ZG,rOp] at O
 have hwn:IntKind.wrap .i64 (3*IntKind.wrap .i64 (Zg t0+1))=3*(Zg t0+1):=by rw [Zc (x:=Zg t0+1) ow,Zc ow]
 rw [hwn] at O
 replace O:=O.fresh 9 rfl
 obtain ⟨F,O⟩:=O.push 9 7 Z Z Z kr
 obtain ⟨F,O⟩:=O.push 9 6 Z Z Z kr
 obtain ⟨F,O⟩:=O.push 9 5 Z Z Z kr
 obtain ⟨F,O⟩:=O.push 9 4 Z Z Z kr
 obtain ⟨F,O⟩:=O.push 9 3 Z Z Z kr
 obtain ⟨F,O⟩:=O.push 9 2 Z Z Z kr
 replace O:=O.turn 9 Z (r':=RS.hp (.star (Zbb (.pointer (some ⟨b,0,none⟩)) (.pointer (some ⟨wb,0,none⟩)) A sc c))) (fun _ _ _ _ h=>h)
 obtain ⟨F,O⟩:=O.nM [15,9,8,3,2] [9,0]
 refine Zbn O kr (cG Z (o_callG1 9 (Zeb b wb A hok hfit r hrok hrz sc c (3*(Zg t0+1)) hk hr ow) func64 Z kr (Args.three .t .t .t)) r3 r1 Zal.nil) kr (by rw [V];kernel_rfl) fun a w F O=>?_
 obtain ⟨F,O⟩:=O.nM [3,2] [9,0]
 try dsimp only [rRt,rSq,Zx,rTx,ZB,Zs,ZG,rOp] at O
 obtain ⟨⟨s2,c2⟩,O⟩:=O.open_ex 9 rfl
 obtain ⟨hp2,O⟩:=O.open_and 9 rfl
 obtain ⟨F,O⟩:=O.peel 9 2 Z rfl
 obtain ⟨F,O⟩:=O.peel 9 3 Z rfl
 obtain ⟨F,O⟩:=O.peel 9 4 Z rfl
 obtain ⟨F,O⟩:=O.peel 9 5 Z rfl
 obtain ⟨F,O⟩:=O.peel 9 6 Z rfl
 obtain ⟨F,O⟩:=O.peel 9 7 Z rfl
 try dsimp only at O
 obtain ⟨F,O⟩:=O.nM [3,2] [7,6,5,4,3,2,0]
 obtain ⟨t1,ht1,hl1,hrm1⟩:=hp2.treeT ht0 hl0 ow
 obtain ⟨e1,ro1,hM1,hR1⟩:=Zpq s2.b n ht1 hl1 ow hrm1 hit
 refine Za (Zf O (qR rr (qR rr (qf (o_nilCheck 7 .adr (by rfl)) r1 r1 (qf (oL true 2 7 .adr) r1 r1 (qR rr (qf (o_callG1 3 (hM1) func118 Z kr (Args.two (.pagg .t) .t)) r2 r1 (qR rr (qf (o_extract .t Z) r1 qz (qf (o_extract .t Z) r1 qz (qf (o_nilCheck 7 .adr (by rfl)) r1 r1 (qf (oA 2 7 .adr (.conv .t .agg)) r2 r1 qZ))))))))))) V [] [7,6,5,4,3,2,0] Z Z fun a w F O=>?_)
 have O:=O.fresh 1 rfl
 obtain ⟨F,O⟩:=O.push 1 7 Z Z Z kr
 obtain ⟨F,O⟩:=O.push 1 6 Z Z Z kr
 obtain ⟨F,O⟩:=O.push 1 5 Z Z Z kr
 obtain ⟨F,O⟩:=O.push 1 4 Z Z Z kr
 obtain ⟨F,O⟩:=O.push 1 3 Z Z Z kr
 obtain ⟨F,O⟩:=O.push 1 2 Z Z Z kr
 have O:=O.turn 1 Z (r':=RS.hp (Za1 (.pointer (some ⟨b,0,none⟩)) (.pointer (some ⟨wb,0,none⟩)) A (⟨delP r.txs n,r.orders,r.size⟩:RtA))) (fun _ _ _ _ h=>⟨((⟨s2.b,s2.q++e1,s2.c,s2.cs,s2.ck,s2.mv,s2.alv,s2.sqv,s2.sr⟩:StC),(⟨arV (some s2.b),ro1,c2.or,c2.size⟩:RtC)),⟨(hp2.rep.app e1).exMono (fun i h=>ZgR (r:=r) (r':=(⟨delP r.txs n,r.orders,r.size⟩:RtA)) (fun p hp=>.inl hp) h),⟨rfl,hR1,hp2.rt.o.app,hp2.rt.s⟩⟩,h⟩)
 obtain ⟨F,O⟩:=O.nM [] [1,0]
 refine ZA hG O Z .nil .none rfl
theorem Zlq (b wb:Nat) (A:StA) (hok:Zax A) (hfit:Zba A) (r:RtA) (hrok:ZiH A.all A.seqs r) (hrz:sizeH (Zbm A.all A.seqs r)≤40000) (n:Int) (hit:(getL n r.orders).2=true):FnG prog 62 1 [.is (.pointer (some ⟨b,0,none⟩)),.is (.pointer (some ⟨wb,0,none⟩)),.is (shift 2 (.pointer (some ⟨wb,0,none⟩))),.int .i64 n] [Za1 (.pointer (some ⟨b,0,none⟩)) (.pointer (some ⟨wb,0,none⟩)) A r] (.tup []) (fun _=>[Za1 (.pointer (some ⟨b,0,none⟩)) (.pointer (some ⟨wb,0,none⟩)) A (⟨r.txs,delP r.orders n,r.size⟩:RtA)]):=by
 refine FnG.mk func62 Z ntmps62 Z kr fun B F0 a w F V hG O=>?_
 replace O:=O.ent (i:=2) (s':=.adr (.val (.pointer (some ⟨wb,0,none⟩))) 2) Z Ent.kAdr
 obtain ⟨⟨sc,c⟩,O⟩:=O.open_ex 1 rfl
 obtain ⟨⟨hk,hr⟩,O⟩:=O.open_and 1 rfl
 obtain ⟨F,O⟩:=O.peel 1 2 Z rfl
 obtain ⟨F,O⟩:=O.peel 1 3 Z rfl
 obtain ⟨F,O⟩:=O.peel 1 4 Z rfl
 obtain ⟨F,O⟩:=O.peel 1 5 Z rfl
 obtain ⟨F,O⟩:=O.peel 1 6 Z rfl
 obtain ⟨F,O⟩:=O.peel 1 7 Z rfl
 try dsimp only at O
 dsimp only at hk hr
 obtain ⟨F,O⟩:=O.nM [3,2,1,0] [7,6,5,4,3,2,0]
 have hrl:=ZbL A.all A.seqs r
 obtain ⟨t0,ht0,hl0⟩:=hr.o
 have hz0:=ZM t0
 rw [hl0] at hz0
 have hh0:=ht0.high ow
 refine Ya (Za0 8 O kr (cG Z (oM .t) r1 trivial (cG Z (oM .t) r1 trivial (cG Z (oM .t) r1 trivial (cG Z (o_nilCheck 7 .adr (by rfl)) r1 r1 (cG Z (oL true 2 7 .adr) r1 r1 (cG Z (o_callG1 3 (ZeN (some sc.b) 65536 sc.q c.or t0 ht0.rep) func117 Z kr (Args.one (.pagg .t))) r1 r1 (cG Z (o_add .t (.ci kr)) r1 trivial (cG Z (ZdI (.ci kr) .t) r1 trivial Zal.nil)))))))) kr (by rw [V];kernel_rfl) fun a w F O=>?_)
 obtain ⟨F,O⟩:=O.nM [15,9,8,3,2] [7,6,5,4,3,2,0]
 try dsimp only [List.map,xD,xE,xT,xU,ldSF,rRt,rSq,Zx,rTx,ZB,Zs,ZG,rOp] at O
 have hwn:IntKind.wrap .i64 (3*IntKind.wrap .i64 (Zg t0+1))=3*(Zg t0+1):=by rw [Zc (x:=Zg t0+1) ow,Zc ow]
 rw [hwn] at O
 replace O:=O.fresh 9 rfl
 obtain ⟨F,O⟩:=O.push 9 7 Z Z Z kr
 obtain ⟨F,O⟩:=O.push 9 6 Z Z Z kr
 obtain ⟨F,O⟩:=O.push 9 5 Z Z Z kr
 obtain ⟨F,O⟩:=O.push 9 4 Z Z Z kr
 obtain ⟨F,O⟩:=O.push 9 3 Z Z Z kr
 obtain ⟨F,O⟩:=O.push 9 2 Z Z Z kr
 replace O:=O.turn 9 Z (r':=RS.hp (.star (Zbb (.pointer (some ⟨b,0,none⟩)) (.pointer (some ⟨wb,0,none⟩)) A sc c))) (fun _ _ _ _ h=>h)
 obtain ⟨F,O⟩:=O.nM [15,9,8,3,2] [9,0]
 refine Zbn O kr (cG Z (o_callG1 9 (Zeb b wb A hok hfit r hrok hrz sc c (3*(Zg t0+1)) hk hr ow) func64 Z kr (Args.three .t .t .t)) r3 r1 Zal.nil) kr (by rw [V];kernel_rfl) fun a w F O=>?_
 obtain ⟨F,O⟩:=O.nM [3,2] [9,0]
 try dsimp only [rRt,rSq,Zx,rTx,ZB,Zs,ZG,rOp] at O
 obtain ⟨⟨s2,c2⟩,O⟩:=O.open_ex 9 rfl
 obtain ⟨hp2,O⟩:=O.open_and 9 rfl
 obtain ⟨F,O⟩:=O.peel 9 2 Z rfl
 obtain ⟨F,O⟩:=O.peel 9 3 Z rfl
 obtain ⟨F,O⟩:=O.peel 9 4 Z rfl
 obtain ⟨F,O⟩:=O.peel 9 5 Z rfl
 obtain ⟨F,O⟩:=O.peel 9 6 Z rfl
 obtain ⟨F,O⟩:=O.peel 9 7 Z rfl
 try dsimp only at O
 obtain ⟨F,O⟩:=O.nM [3,2] [7,6,5,4,3,2,0]
 obtain ⟨t1,ht1,hl1,hrm1⟩:=hp2.treeO ht0 hl0 ow
 obtain ⟨e1,ro1,hM1,hR1⟩:=Zpq s2.b n ht1 hl1 ow hrm1 hit
 refine Za (Zf O (qR rr (qR rr (qf (o_nilCheck 7 .adr (by rfl)) r1 r1 (qf (oL true 2 7 .adr) r1 r1 (qR rr (qf (o_callG1 3 (hM1) func118 Z kr (Args.two (.pagg .t) .t)) r2 r1 (qR rr (qf (o_extract .t Z) r1 qz (qf (o_extract .t Z) r1 qz (qf (o_nilCheck 7 .adr (by rfl)) r1 r1 (qf (oA 2 7 .adr (.conv .t .agg)) r2 r1 qZ))))))))))) V [] [7,6,5,4,3,2,0] Z Z fun a w F O=>?_)
 have O:=O.fresh 1 rfl
 obtain ⟨F,O⟩:=O.push 1 7 Z Z Z kr
 obtain ⟨F,O⟩:=O.push 1 6 Z Z Z kr
 obtain ⟨F,O⟩:=O.push 1 5 Z Z Z kr
 obtain ⟨F,O⟩:=O.push 1 4 Z Z Z kr
 obtain ⟨F,O⟩:=O.push 1 3 Z Z Z kr
 obtain ⟨F,O⟩:=O.push 1 2 Z Z Z kr
 have O:=O.turn 1 Z (r':=RS.hp (Za1 (.pointer (some ⟨b,0,none⟩)) (.pointer (some ⟨wb,0,none⟩)) A (⟨r.txs,delP r.orders n,r.size⟩:RtA))) (fun _ _ _ _ h=>⟨((⟨s2.b,s2.q++e1,s2.c,s2.cs,s2.ck,s2.mv,s2.alv,s2.sqv,s2.sr⟩:StC),(⟨arV (some s2.b),c2.tr,ro1,c2.size⟩:RtC)),⟨(hp2.rep.app e1).exMono (fun i h=>ZgR (r:=r) (r':=(⟨r.txs,delP r.orders n,r.size⟩:RtA)) (fun p hp=>.inl (ZdD.1 hp).1) h),⟨rfl,hp2.rt.t.app,hR1,hp2.rt.s⟩⟩,h⟩)
 obtain ⟨F,O⟩:=O.nM [] [1,0]
 refine ZA hG O Z .nil .none rfl
end Go.Proofs.YtfecljadegkmdaaGreat
