/- Laws and walks. No condition beyond what each says. -/
import Derived.Test.YtfecljadegkmdaaGreatJ4
namespace Go.Proofs.YtfecljadegkmdaaGreat
open Go Go.Gm Tryz
set_option linter.unusedVariables false
set_option linter.unusedSimpArgs false
set_option maxHeartbeats 4000000
set_option maxRecDepth 8000
theorem ZoZ (b ob nb:Nat) (seqs:List (List Int)) (Live:Nat→Prop) (qo q:List Cell) (c:RtC) (mv:Value) (nx:Int) (alv sqv:Value) (sr:List SqC) (mm:Value) (es:List (GE Int Int)) (ck:Nat) (K:Int) (r:RtA) (hI:MvI seqs Live qo q (arV (some ob)) (arV (some nb)) sr es K) (hr:Zb7 qo (arV (some ob)) c r) (hti:r.txs.length≤65536) (hov:∀ p ∈ r.orders,0≤p.val∧p.val<seqs.length) (hlv:∀ p ∈ r.orders,Live p.val.toNat) (hroom:q.length+r.txs.length+r.orders.length+Zar seqs r.orders≤65536) (hK:0≤K∧K≤1000000000000):FnG prog 121 1 [.is (.pointer (some ⟨b,0,none⟩)),.is (shift 1 (.pointer (some ⟨b,0,none⟩))),.is mm] [.star (ZqH (.pointer (some ⟨b,0,none⟩)) (arV (some ob)) ob nb qo q c mv nx alv sqv sr mm es ck)] (.tup []) (fun _=>[.ex fun x:MvC=>.and (Ze6 seqs Live r qo q (arV (some ob)) (arV (some nb)) es K x) (.star (ZqH (.pointer (some ⟨b,0,none⟩)) (arV (some nb)) ob nb qo x.q x.c mv nx alv sqv x.sr mm x.es x.ck))]):=by
 refine FnG.mk func121 Z ntmps121 Z kr fun B F0 a w F V hG O=>?_
 obtain ⟨F,O⟩:=O.peel 1 2 Z rfl
 obtain ⟨F,O⟩:=O.peel 1 3 Z rfl
 obtain ⟨F,O⟩:=O.peel 1 4 Z rfl
 obtain ⟨F,O⟩:=O.peel 1 5 Z rfl
 obtain ⟨F,O⟩:=O.peel 1 6 Z rfl
 dsimp only [ZqI] at O
 replace O:=O.ent (i:=1) (s':=.adr (.val (.pointer (some ⟨b,0,none⟩))) 1) Z Ent.kAdr
 obtain ⟨F,O⟩:=O.nM [2,1,0] [6,5,4,3,2,0]
 obtain ⟨e1,ro1,hM1,hR1,hE1⟩:=Zmz ob nb (q:=q) hr.t ow
 obtain ⟨e2,ro2,hM2,hR2,hE2⟩:=Zmz ob nb (q:=q++e1) hr.o (by rw [Yc];omega)
 refine Ya (Zu O (qR rr (qR rr (qf (o_nilCheck 2 .adr (by rfl)) r1 r1 (qf (oF 0 2 .adr) r1 r1 (qf (oL true 2 2 .adr) r1 r1 (qR rr (qf (o_nilCheck 2 .is (by rfl)) r1 r1 (qf (oF 0 2 .adr) r1 r1 (qa 2 r1 r1 (qf (o_callG2c 3 4 (hM1) func186 Z kr Z (Args.two (.pagg .t) .t)) r2 r2 (qR rr (qf (o_extract .t Z) r1 qz (qf (o_extract .t Z) r1 qz (qf (o_nilCheck 2 .adr (by rfl)) r1 r1 (qf (oF 0 2 .adr) r1 r1 (qf (oA 2 2 .adr (.conv .t .agg)) r2 r1 qZ)))))))))))))))) V [2,1,0] [6,5,4,3,2,0] Z Z fun a w F O=>?_)
 try dsimp only [List.map,Zd,xL,xM,Nat.reduceAdd,xD,xE,xT,xU,xC,xN,zCF,ldSF,rRt,rSq,ZC,rTx,Zv,Zl,Zs,rOp] at O
 refine Za (Ya (Zu O (qR rr (qR rr (qf (o_nilCheck 2 .adr (by rfl)) r1 r1 (qf (oF 2 2 .adr) r1 r1 (qf (oL true 2 2 .adr) r1 r1 (qR rr (qf (o_nilCheck 2 .is (by rfl)) r1 r1 (qf (oF 0 2 .adr) r1 r1 (qa 2 r1 r1 (qf (o_callG2c 3 4 (hM2) func186 Z kr Z (Args.two (.pagg .t) .t)) r2 r2 (qR rr (qf (o_extract .t Z) r1 qz (qf (o_extract .t Z) r1 qz (qf (o_nilCheck 2 .adr (by rfl)) r1 r1 (qf (oF 2 2 .adr) r1 r1 (qf (oA 2 2 .adr (.conv .t .agg)) r2 r1 qZ)))))))))))))))) V [2,1,0] [6,5,4,3,2,0] Z Z fun a w F O=>?_))
 try dsimp only [List.map,Zd,xL,xM,Nat.reduceAdd,xD,xE,xT,xU,xC,xN,zCF,ldSF,rRt,rSq,ZC,rTx,Zv,Zl,Zs,rOp] at O
 refine Za (Ya (rZ O (qR rr (qf (o_nilCheck 2 .adr (by rfl)) r1 r1 (qf (oF 2 2 .adr) r1 r1 (qf (oL true 2 2 .adr) r1 r1 (qf (o_callG1 4 (Zgb nb hR2 ow) func56 Z kr (Args.one (.pagg .t))) r1 r1 (qu YbU r1 (qJ qZ))))))) V [44,43,42,2,0] [6,5,4,3,2,0] fun O=>Ye ?_))
 refine Zk (σ:=(Nat)×(List Cell)×(List SqC)×(List (GE Int Int))×(Nat)) [0,2,42,43] [0,2,3] (fun s=>[(44,.pv (.int .i64 (s.1:Int)))]) (fun s=>[(4,RS.hp (arH (some nb) 65536 s.2.1)),(5,.ob (.val sqv) (ZO 114 2 rSq s.2.2.1)),(6,.ob (.val mm) (MPI s.2.2.2.1 s.2.2.2.2))]) (fun s=>s.1≤r.orders.length∧(MvI seqs Live qo s.2.1 (arV (some ob)) (arV (some nb)) s.2.2.1 s.2.2.2.1 (K+(s.1:Int))∧(∃ e,s.2.1=q++e1++e2++e∧e.length≤Zar seqs (r.orders.take s.1))∧(∀ k,0<gvA es k→0<gvA s.2.2.2.1 k) ∧ ∀ j,j<s.1→0<gvA s.2.2.2.1 (Nn r.orders j).val)) (fun s=>r.orders.length - s.1) ((0),(q++e1++e2),(sr),(es),(ck)) O ⟨rfl,rfl,rfl,rfl,rfl,tv⟩ ⟨rfl,rfl,rfl,rfl,rfl,rfl,tv⟩ ⟨Yt _,⟨(by show MvI seqs Live qo (q++e1++e2) _ _ sr es (K+0);rw [Int.add_zero];exact (hI.app e1).app e2),⟨[],(by simp),Yt _⟩,fun _ h=>h,fun j hj=>absurd hj (YJ j)⟩⟩ ?_
 clear O;intro s a w F hC O
 obtain ⟨i,qq,sr1,es1,ck1⟩:=s
 try dsimp only at hC
 obtain ⟨F,O⟩:=O.nM [44,43,42,2,0] [6,5,4,3,2,0]
 try dsimp only at O
 obtain ⟨hi,hq⟩:=hC
 obtain ⟨hI1,⟨e0,hqq,hql⟩,hkp,hal⟩:=hq
 refine Ya (rZ O (qL r2) V [45,44,43,42,2,0] [6,5,4,3,2,0] fun O=>Ya ?_)
 refine Zc O Z (fun hc0=>?_) (fun hc0=>?_)
 ·have hil:i<r.orders.length:=by simp at hc0;omega
  have hv:=hov _ (ZU hil)
  have hsl:=hI1.len
  have hcl:=Zib (seqs:=seqs) hil
  have hgb:=hI1.gv (Nn r.orders i).val
  have hqn:=Yai List.length hqq
  simp only [Yc] at hqn
  refine Yd (Za (Ya (Ye (Ya (Zb O (qy 2 YbU r2 (qf (oR true 2 .t) r1 qz (qf (oH [.int .i64 0,.int .i64 0] 101) trivial qz (qS 2 101 r2 r1 qZ)))) V [44,43,42,7,2,0] [101,6,5,4,3,2,0] (fun _=>rfl) (fun _=>rfl) fun τ a w F O=>?_)))))
  try dsimp only [RS.sub,SF.sub,CF.sub,csub,Anc.sub,List.map,Zd,xL,xM,Nat.reduceAdd,xD,xE,xT,xU,xC,xN,zCF,ldSF,rRt,rSq,ZC,rTx,Zv,Zl,Zs,rOp] at O
  generalize τ 7=v7 at O
  try simp only [Yg] at O
  refine Za (Ya (Zh O (qR rr (qg 1 101 r1 r1 (qa 101 r1 r1 (qf (ZaL (ek:=(fun c:Int=>PV.int .i64 c)) (z0:=(0:Int)) 6 Yb0 (Za5 YbS) kr (fun _ _=>⟨rfl,ZhL⟩) .is (Z6.intR .t Z)) r2 r1 (qp r1 (qf (Zbq (ek:=(fun c:Int=>PV.int .i64 c)) 6 Yb0 (Za5 YbS) .is (Z6.intR .t Z) .t) r3 r1 qZ)))))) V [44,43,42,7,2,0] [101,6,5,4,3,2,0] Z Z fun a w F O=>?_))
  have hw1:IntKind.wrap .i64 ((gGet (Nn r.orders i).val es1).getD 0+1)=gvA es1 (Nn r.orders i).val+1:=Zj (by show -9223372036854775808≤gvA es1 (Nn r.orders i).val+1∧gvA es1 (Nn r.orders i).val+1≤9223372036854775807;omega)
  rw [hw1] at O
  obtain ⟨es2,hes⟩:∃ z,z=(gPut (Nn r.orders i).val (gvA es1 (Nn r.orders i).val+1) (es1,ck1)).1:=⟨_,rfl⟩
  obtain ⟨ck2,hck⟩:∃ z,z=(gPut (Nn r.orders i).val (gvA es1 (Nn r.orders i).val+1) (es1,ck1)).2:=⟨_,rfl⟩
  rw [← hes,← hck] at O
  have hgv2:∀ k,gvA es2 k=if k=(Nn r.orders i).val then gvA es1 (Nn r.orders i).val+1 else gvA es1 k:=fun k=>by rw [hes];exact ZrQ k
  refine Za (Ya (rZ O (qR rr (qg 1 101 r1 r1 (qa 101 r1 r1 (qf (ZaL (ek:=(fun c:Int=>PV.int .i64 c)) (z0:=(0:Int)) 6 Yb0 (Za5 YbS) kr (fun _ _=>⟨rfl,ZhL⟩) .is (Z6.intR .t Z)) r2 r1 (qf (o_eql .t qi) r1 qz qZ))))) V [57,44,43,42,7,2,0] [101,6,5,4,3,2,0] fun O=>?_))
  refine Zc O Z (fun hc1=>?_) (fun hc1=>?_)
  ·have h19:gvA es2 (Nn r.orders i).val=1:=by simpa [gvA] using hc1
   rw [hgv2,Yf rfl] at h19
   have hg0:gvA es1 ((Nn r.orders i).val.toNat:Int)=0:=by rw [Ybm hv.1];omega
   have hold:=hI1.old (Nn r.orders i).val.toNat ow (hlv _ (ZU hil)) hg0
   obtain ⟨e3,ro3,hM3,hR3,hE3⟩:=Zoo ob nb (q:=qq) (c:=Nn sr1 (Nn r.orders i).val.toNat) hold ow
   have hI3:MvI seqs Live qo (qq++e3) (arV (some ob)) (arV (some nb)) (sr1.set (Nn r.orders i).val.toNat ⟨(arV (some nb)),ro3⟩) es2 (K+((i+1:Nat):Int)):=by rw [← (show K+(i:Int)+1=K+((i+1:Nat):Int) by omega)];exact hI1.first ow hg0 (fun k=>by rw [hgv2 k,Ybm hv.1]) hR3
   have hq3:∃ e,qq++e3=q++e1++e2++e∧e.length≤Zar seqs (r.orders.take (i+1)):=⟨e0++e3,by rw [hqq];simp,by rw [Zcr hil,Yc];omega⟩
   have hkp3:∀ k,0<gvA es k→0<gvA es2 k:=fun k hk9=>by have h1:=hkp k hk9;have h2:=(hI1.gv (Nn r.orders i).val).1;rw [hgv2];split <;> omega
   have hal3:∀ j,j<i+1→0<gvA es2 (Nn r.orders j).val:=fun j hj=>by
     have h2:=(hI1.gv (Nn r.orders i).val).1
     rw [hgv2]
     rcases Yy (YD hj) with h9 | h9
     ·have h1:=hal j h9;split <;> omega
     ·subst h9;rw [Yf rfl];omega
   refine Zu O (qR rr (qf (o_nilCheck 2 .is (by rfl)) r1 r1 (qf (oF 9 2 .adr) r1 r1 (qa 2 r1 r1 (qg 1 101 r1 r1 (qa 101 r1 r1 (qR rr (qf (o_nilCheck 2 .is (by rfl)) r1 r1 (qf (oF 9 2 .adr) r1 r1 (qa 2 r1 r1 (qg 1 101 r1 r1 (qa 101 r1 r1 (qf (o_indexAddr_row (sz:=2) 5 (.mk YbV kr) .is .t ow ow (by rfl)) r2 r1 (qf (Zt (ag:=true) (sz':=2) (sz:=2) 5 .t (by intro x;rfl) ow kr kr kr) r1 r1 (qR rr (qf (o_nilCheck 2 .is (by rfl)) r1 r1 (qf (oF 0 2 .adr) r1 r1 (qa 2 r1 r1 (qf (o_callG2c 3 4 (hM3) func187 Z kr Z (Args.two (.pagg .t) .t)) r2 r2 (qR rr (qf (o_extract .t Z) r1 qz (qf (o_extract .t Z) r1 qz (qf (o_indexAddr_row (sz:=2) 5 (.mk YbV kr) .is .t ow ow (by rfl)) r2 r1 (qf (Z0 (R:=rSq) (v:=⟨(arV (some nb)),ro3⟩) (sz:=2) 5 .t (by intro x;rfl) ow .t kr) r2 r1 qZ)))))))))))))))))))))))) V [44,43,42,2,0] [101,6,5,4,3,2,0] Z Z fun a w F O=>?_
   try dsimp only [List.map,Zd,xL,xM,Nat.reduceAdd,xD,xE,xT,xU,xC,xN,zCF,ldSF,rRt,rSq,ZC,rTx,Zv,Zl,Zs,rOp] at O
   try simp only [Yg] at O
   refine Zi (Za (rZ O (qp r1 (qR rr qZ)) V [44,43,42,2,0] [101,6,5,4,3,2,0] fun O=>?_))
   replace O:=O.ent (i:=44) (s':=.pv (.int .i64 ((i+1:Nat):Int))) Z (.int (Ze ow))
   obtain ⟨F,O⟩:=O.nM [43,42,2,0,44] [3,2,0,6,5,4]
   exact ⟨((i+1),(qq++e3),(sr1.set (Nn r.orders i).val.toNat ⟨(arV (some nb)),ro3⟩),(es2),(ck2)),F,⟨by omega,⟨hI3,hq3,hkp3,hal3⟩⟩,O,by omega⟩
  have h19:gvA es2 (Nn r.orders i).val≠1:=by simpa [gvA] using hc1
  rw [hgv2,Yf rfl] at h19
  have hI3:MvI seqs Live qo qq (arV (some ob)) (arV (some nb)) sr1 es2 (K+((i+1:Nat):Int)):=by rw [← (show K+(i:Int)+1=K+((i+1:Nat):Int) by omega)];exact hI1.more (i:=(Nn r.orders i).val) ow hgv2
  have hq3:∃ e,qq=q++e1++e2++e∧e.length≤Zar seqs (r.orders.take (i+1)):=⟨e0,hqq,by rw [Zcr hil];omega⟩
  have hkp3:∀ k,0<gvA es k→0<gvA es2 k:=fun k hk9=>by have h1:=hkp k hk9;have h2:=(hI1.gv (Nn r.orders i).val).1;rw [hgv2];split <;> omega
  have hal3:∀ j,j<i+1→0<gvA es2 (Nn r.orders j).val:=fun j hj=>by
    have h2:=(hI1.gv (Nn r.orders i).val).1
    rw [hgv2]
    rcases Yy (YD hj) with h9 | h9
    ·have h1:=hal j h9;split <;> omega
    ·subst h9;rw [Yf rfl];omega
  refine Yd (Zi (Za (rZ O (qp r1 (qR rr qZ)) V [44,43,42,2,0] [101,6,5,4,3,2,0] fun O=>?_)))
  replace O:=O.ent (i:=44) (s':=.pv (.int .i64 ((i+1:Nat):Int))) Z (.int (Ze ow))
  obtain ⟨F,O⟩:=O.nM [43,42,2,0,44] [3,2,0,6,5,4]
  exact ⟨((i+1),(qq),(sr1),(es2),(ck2)),F,⟨by omega,⟨hI3,hq3,hkp3,hal3⟩⟩,O,by omega⟩
 have hil:i=r.orders.length:=by simp at hc0;omega
 have hpost:Ze6 seqs Live r qo q (arV (some ob)) (arV (some nb)) es K ⟨qq,⟨(arV (some nb)),ro1,ro2,c.size⟩,sr1,es1,ck1⟩:=by
   rw [hil] at hI1 hql
   rw [YE] at hql
   exact ⟨⟨e1++e2++e0,by show qq=_;rw [hqq];simp,by simp only [Yc];omega⟩,⟨rfl,by show Zjr qq ro1 r.txs;rw [hqq,Yp,Yp];rw [← Yp q];exact hR1.app,by show Zjr qq ro2 r.orders;rw [hqq];exact hR2.app,hr.s⟩,hI1,hkp,Zry fun j hj=>hal j ow⟩
 refine Ym (Zg (Zg (Zo ?_)))
 have O:=O.fresh 1 rfl
 obtain ⟨F,O⟩:=O.push 1 6 Z Z Z kr
 obtain ⟨F,O⟩:=O.push 1 5 Z Z Z kr
 obtain ⟨F,O⟩:=O.push 1 4 Z Z Z kr
 obtain ⟨F,O⟩:=O.push 1 3 Z Z Z kr
 obtain ⟨F,O⟩:=O.push 1 2 Z Z Z kr
 have O:=O.turn 1 Z (r':=RS.hp (.ex fun x:MvC=>.and (Ze6 seqs Live r qo q (arV (some ob)) (arV (some nb)) es K x) (.star (ZqH (.pointer (some ⟨b,0,none⟩)) (arV (some nb)) ob nb qo x.q x.c mv nx alv sqv x.sr mm x.es x.ck)))) (fun _ _ _ _ h=>⟨⟨qq,⟨(arV (some nb)),ro1,ro2,c.size⟩,sr1,es1,ck1⟩,hpost,h⟩)
 obtain ⟨F,O⟩:=O.nM [] [1,0]
 refine ZE hG O Z .nil .none rfl
theorem ZjF (b ob nb:Nat) (seqs:List (List Int)) (Live:Nat→Prop) (qo q:List Cell) (c:RtC) (mv:Value) (nx:Int) (alv sqv:Value) (sr:List SqC) (mm:Value) (es:List (GE Int Int)) (ck:Nat) (K:Int) (r:RtA) (cn:RtC) (rv:Value) (hI:MvI seqs Live qo q (arV (some ob)) (arV (some nb)) sr es K) (hr:Zb7 qo (arV (some ob)) c r) (hti:r.txs.length≤65536) (hov:∀ p ∈ r.orders,0≤p.val∧p.val<seqs.length) (hlv:∀ p ∈ r.orders,Live p.val.toNat) (hroom:q.length+r.txs.length+r.orders.length+Zar seqs r.orders≤65536) (hK:0≤K∧K≤1000000000000):FnG prog 121 1 [.is (.pointer (some ⟨b,0,none⟩)),.is rv,.is mm] [.star (Ztn (.pointer (some ⟨b,0,none⟩)) (arV (some ob)) ob nb qo q cn mv nx alv sqv sr mm es ck rv c)] (.tup []) (fun _=>[.ex fun x:MvC=>.and (Ze6 seqs Live r qo q (arV (some ob)) (arV (some nb)) es K x) (.star (Ztn (.pointer (some ⟨b,0,none⟩)) (arV (some nb)) ob nb qo x.q cn mv nx alv sqv x.sr mm x.es x.ck rv x.c))]):=by
 refine FnG.mk func121 Z ntmps121 Z kr fun B F0 a w F V hG O=>?_
 obtain ⟨F,O⟩:=O.peel 1 2 Z rfl
 obtain ⟨F,O⟩:=O.peel 1 3 Z rfl
 obtain ⟨F,O⟩:=O.peel 1 4 Z rfl
 obtain ⟨F,O⟩:=O.peel 1 5 Z rfl
 obtain ⟨F,O⟩:=O.peel 1 6 Z rfl
 obtain ⟨F,O⟩:=O.peel 1 7 Z rfl
 dsimp only [ZqI] at O
 obtain ⟨F,O⟩:=O.nM [2,1,0] [7,6,5,4,3,2,0]
 obtain ⟨e1,ro1,hM1,hR1,hE1⟩:=Zmz ob nb (q:=q) hr.t ow
 obtain ⟨e2,ro2,hM2,hR2,hE2⟩:=Zmz ob nb (q:=q++e1) hr.o (by rw [Yc];omega)
 refine Ya (Zu O (qR rr (qR rr (qf (o_nilCheck 7 .is (by rfl)) r1 r1 (qf (oF 0 7 .adr) r1 r1 (qf (oL true 2 7 .adr) r1 r1 (qR rr (qf (o_nilCheck 2 .is (by rfl)) r1 r1 (qf (oF 0 2 .adr) r1 r1 (qa 2 r1 r1 (qf (o_callG2c 3 4 (hM1) func186 Z kr Z (Args.two (.pagg .t) .t)) r2 r2 (qR rr (qf (o_extract .t Z) r1 qz (qf (o_extract .t Z) r1 qz (qf (o_nilCheck 7 .is (by rfl)) r1 r1 (qf (oF 0 7 .adr) r1 r1 (qf (oA 2 7 .adr (.conv .t .agg)) r2 r1 qZ)))))))))))))))) V [2,1,0] [7,6,5,4,3,2,0] Z Z fun a w F O=>?_)
 try dsimp only [List.map,Zd,xL,xM,Nat.reduceAdd,xD,xE,xT,xU,xC,xN,zCF,ldSF,rRt,rSq,ZC,rTx,Zv,Zl,Zs,rOp] at O
 refine Za (Ya (Zu O (qR rr (qR rr (qf (o_nilCheck 7 .is (by rfl)) r1 r1 (qf (oF 2 7 .adr) r1 r1 (qf (oL true 2 7 .adr) r1 r1 (qR rr (qf (o_nilCheck 2 .is (by rfl)) r1 r1 (qf (oF 0 2 .adr) r1 r1 (qa 2 r1 r1 (qf (o_callG2c 3 4 (hM2) func186 Z kr Z (Args.two (.pagg .t) .t)) r2 r2 (qR rr (qf (o_extract .t Z) r1 qz (qf (o_extract .t Z) r1 qz (qf (o_nilCheck 7 .is (by rfl)) r1 r1 (qf (oF 2 7 .adr) r1 r1 (qf (oA 2 7 .adr (.conv .t .agg)) r2 r1 qZ)))))))))))))))) V [2,1,0] [7,6,5,4,3,2,0] Z Z fun a w F O=>?_))
 try dsimp only [List.map,Zd,xL,xM,Nat.reduceAdd,xD,xE,xT,xU,xC,xN,zCF,ldSF,rRt,rSq,ZC,rTx,Zv,Zl,Zs,rOp] at O
 refine Za (Ya (rZ O (qR rr (qf (o_nilCheck 7 .is (by rfl)) r1 r1 (qf (oF 2 7 .adr) r1 r1 (qf (oL true 2 7 .adr) r1 r1 (qf (o_callG1 4 (Zgb nb hR2 ow) func56 Z kr (Args.one (.pagg .t))) r1 r1 (qu YbU r1 (qJ qZ))))))) V [44,43,42,2,0] [7,6,5,4,3,2,0] fun O=>Ye ?_))
 refine Zk (σ:=(Nat)×(List Cell)×(List SqC)×(List (GE Int Int))×(Nat)) [0,2,42,43] [0,2,3,7] (fun s=>[(44,.pv (.int .i64 (s.1:Int)))]) (fun s=>[(4,RS.hp (arH (some nb) 65536 s.2.1)),(5,.ob (.val sqv) (ZO 114 2 rSq s.2.2.1)),(6,.ob (.val mm) (MPI s.2.2.2.1 s.2.2.2.2))]) (fun s=>s.1≤r.orders.length∧(MvI seqs Live qo s.2.1 (arV (some ob)) (arV (some nb)) s.2.2.1 s.2.2.2.1 (K+(s.1:Int))∧(∃ e,s.2.1=q++e1++e2++e∧e.length≤Zar seqs (r.orders.take s.1))∧(∀ k,0<gvA es k→0<gvA s.2.2.2.1 k) ∧ ∀ j,j<s.1→0<gvA s.2.2.2.1 (Nn r.orders j).val)) (fun s=>r.orders.length - s.1) ((0),(q++e1++e2),(sr),(es),(ck)) O ⟨rfl,rfl,rfl,rfl,rfl,tv⟩ ⟨rfl,rfl,rfl,rfl,rfl,rfl,rfl,tv⟩ ⟨Yt _,⟨(by show MvI seqs Live qo (q++e1++e2) _ _ sr es (K+0);rw [Int.add_zero];exact (hI.app e1).app e2),⟨[],(by simp),Yt _⟩,fun _ h=>h,fun j hj=>absurd hj (YJ j)⟩⟩ ?_
 clear O;intro s a w F hC O
 obtain ⟨i,qq,sr1,es1,ck1⟩:=s
 try dsimp only at hC
 obtain ⟨F,O⟩:=O.nM [44,43,42,2,0] [7,6,5,4,3,2,0]
 try dsimp only at O
 obtain ⟨hi,hq⟩:=hC
 obtain ⟨hI1,⟨e0,hqq,hql⟩,hkp,hal⟩:=hq
 refine Ya (rZ O (qL r2) V [45,44,43,42,2,0] [7,6,5,4,3,2,0] fun O=>Ya ?_)
 refine Zc O Z (fun hc0=>?_) (fun hc0=>?_)
 ·have hil:i<r.orders.length:=by simp at hc0;omega
  have hv:=hov _ (ZU hil)
  have hsl:=hI1.len
  have hcl:=Zib (seqs:=seqs) hil
  have hgb:=hI1.gv (Nn r.orders i).val
  have hqn:=Yai List.length hqq
  simp only [Yc] at hqn
  refine Yd (Za (Ya (Ye (Ya (Zb O (qy 2 YbU r2 (qf (oR true 2 .t) r1 qz (qf (oH [.int .i64 0,.int .i64 0] 101) trivial qz (qS 2 101 r2 r1 qZ)))) V [44,43,42,7,2,0] [101,7,6,5,4,3,2,0] (fun _=>rfl) (fun _=>rfl) fun τ a w F O=>?_)))))
  try dsimp only [RS.sub,SF.sub,CF.sub,csub,Anc.sub,List.map,Zd,xL,xM,Nat.reduceAdd,xD,xE,xT,xU,xC,xN,zCF,ldSF,rRt,rSq,ZC,rTx,Zv,Zl,Zs,rOp] at O
  generalize τ 7=v7 at O
  try simp only [Yg] at O
  refine Za (Ya (Zh O (qR rr (qg 1 101 r1 r1 (qa 101 r1 r1 (qf (ZaL (ek:=(fun c:Int=>PV.int .i64 c)) (z0:=(0:Int)) 6 Yb0 (Za5 YbS) kr (fun _ _=>⟨rfl,ZhL⟩) .is (Z6.intR .t Z)) r2 r1 (qp r1 (qf (Zbq (ek:=(fun c:Int=>PV.int .i64 c)) 6 Yb0 (Za5 YbS) .is (Z6.intR .t Z) .t) r3 r1 qZ)))))) V [44,43,42,7,2,0] [101,7,6,5,4,3,2,0] Z Z fun a w F O=>?_))
  have hw1:IntKind.wrap .i64 ((gGet (Nn r.orders i).val es1).getD 0+1)=gvA es1 (Nn r.orders i).val+1:=Zj (by show -9223372036854775808≤gvA es1 (Nn r.orders i).val+1∧gvA es1 (Nn r.orders i).val+1≤9223372036854775807;omega)
  rw [hw1] at O
  obtain ⟨es2,hes⟩:∃ z,z=(gPut (Nn r.orders i).val (gvA es1 (Nn r.orders i).val+1) (es1,ck1)).1:=⟨_,rfl⟩
  obtain ⟨ck2,hck⟩:∃ z,z=(gPut (Nn r.orders i).val (gvA es1 (Nn r.orders i).val+1) (es1,ck1)).2:=⟨_,rfl⟩
  rw [← hes,← hck] at O
  have hgv2:∀ k,gvA es2 k=if k=(Nn r.orders i).val then gvA es1 (Nn r.orders i).val+1 else gvA es1 k:=fun k=>by rw [hes];exact ZrQ k
  refine Za (Ya (rZ O (qR rr (qg 1 101 r1 r1 (qa 101 r1 r1 (qf (ZaL (ek:=(fun c:Int=>PV.int .i64 c)) (z0:=(0:Int)) 6 Yb0 (Za5 YbS) kr (fun _ _=>⟨rfl,ZhL⟩) .is (Z6.intR .t Z)) r2 r1 (qf (o_eql .t qi) r1 qz qZ))))) V [57,44,43,42,7,2,0] [101,7,6,5,4,3,2,0] fun O=>?_))
  refine Zc O Z (fun hc1=>?_) (fun hc1=>?_)
  ·have h19:gvA es2 (Nn r.orders i).val=1:=by simpa [gvA] using hc1
   rw [hgv2,Yf rfl] at h19
   have hg0:gvA es1 ((Nn r.orders i).val.toNat:Int)=0:=by rw [Ybm hv.1];omega
   have hold:=hI1.old (Nn r.orders i).val.toNat ow (hlv _ (ZU hil)) hg0
   obtain ⟨e3,ro3,hM3,hR3,hE3⟩:=Zoo ob nb (q:=qq) (c:=Nn sr1 (Nn r.orders i).val.toNat) hold ow
   have hI3:MvI seqs Live qo (qq++e3) (arV (some ob)) (arV (some nb)) (sr1.set (Nn r.orders i).val.toNat ⟨(arV (some nb)),ro3⟩) es2 (K+((i+1:Nat):Int)):=by rw [← (show K+(i:Int)+1=K+((i+1:Nat):Int) by omega)];exact hI1.first ow hg0 (fun k=>by rw [hgv2 k,Ybm hv.1]) hR3
   have hq3:∃ e,qq++e3=q++e1++e2++e∧e.length≤Zar seqs (r.orders.take (i+1)):=⟨e0++e3,by rw [hqq];simp,by rw [Zcr hil,Yc];omega⟩
   have hkp3:∀ k,0<gvA es k→0<gvA es2 k:=fun k hk9=>by have h1:=hkp k hk9;have h2:=(hI1.gv (Nn r.orders i).val).1;rw [hgv2];split <;> omega
   have hal3:∀ j,j<i+1→0<gvA es2 (Nn r.orders j).val:=fun j hj=>by
     have h2:=(hI1.gv (Nn r.orders i).val).1
     rw [hgv2]
     rcases Yy (YD hj) with h9 | h9
     ·have h1:=hal j h9;split <;> omega
     ·subst h9;rw [Yf rfl];omega
   refine Zu O (qR rr (qf (o_nilCheck 2 .is (by rfl)) r1 r1 (qf (oF 9 2 .adr) r1 r1 (qa 2 r1 r1 (qg 1 101 r1 r1 (qa 101 r1 r1 (qR rr (qf (o_nilCheck 2 .is (by rfl)) r1 r1 (qf (oF 9 2 .adr) r1 r1 (qa 2 r1 r1 (qg 1 101 r1 r1 (qa 101 r1 r1 (qf (o_indexAddr_row (sz:=2) 5 (.mk YbV kr) .is .t ow ow (by rfl)) r2 r1 (qf (Zt (ag:=true) (sz':=2) (sz:=2) 5 .t (by intro x;rfl) ow kr kr kr) r1 r1 (qR rr (qf (o_nilCheck 2 .is (by rfl)) r1 r1 (qf (oF 0 2 .adr) r1 r1 (qa 2 r1 r1 (qf (o_callG2c 3 4 (hM3) func187 Z kr Z (Args.two (.pagg .t) .t)) r2 r2 (qR rr (qf (o_extract .t Z) r1 qz (qf (o_extract .t Z) r1 qz (qf (o_indexAddr_row (sz:=2) 5 (.mk YbV kr) .is .t ow ow (by rfl)) r2 r1 (qf (Z0 (R:=rSq) (v:=⟨(arV (some nb)),ro3⟩) (sz:=2) 5 .t (by intro x;rfl) ow .t kr) r2 r1 qZ)))))))))))))))))))))))) V [44,43,42,2,0] [101,7,6,5,4,3,2,0] Z Z fun a w F O=>?_
   try dsimp only [List.map,Zd,xL,xM,Nat.reduceAdd,xD,xE,xT,xU,xC,xN,zCF,ldSF,rRt,rSq,ZC,rTx,Zv,Zl,Zs,rOp] at O
   try simp only [Yg] at O
   refine Zi (Za (rZ O (qp r1 (qR rr qZ)) V [44,43,42,2,0] [101,7,6,5,4,3,2,0] fun O=>?_))
   replace O:=O.ent (i:=44) (s':=.pv (.int .i64 ((i+1:Nat):Int))) Z (.int (Ze ow))
   obtain ⟨F,O⟩:=O.nM [43,42,2,0,44] [7,3,2,0,6,5,4]
   exact ⟨((i+1),(qq++e3),(sr1.set (Nn r.orders i).val.toNat ⟨(arV (some nb)),ro3⟩),(es2),(ck2)),F,⟨by omega,⟨hI3,hq3,hkp3,hal3⟩⟩,O,by omega⟩
  have h19:gvA es2 (Nn r.orders i).val≠1:=by simpa [gvA] using hc1
  rw [hgv2,Yf rfl] at h19
  have hI3:MvI seqs Live qo qq (arV (some ob)) (arV (some nb)) sr1 es2 (K+((i+1:Nat):Int)):=by rw [← (show K+(i:Int)+1=K+((i+1:Nat):Int) by omega)];exact hI1.more (i:=(Nn r.orders i).val) ow hgv2
  have hq3:∃ e,qq=q++e1++e2++e∧e.length≤Zar seqs (r.orders.take (i+1)):=⟨e0,hqq,by rw [Zcr hil];omega⟩
  have hkp3:∀ k,0<gvA es k→0<gvA es2 k:=fun k hk9=>by have h1:=hkp k hk9;have h2:=(hI1.gv (Nn r.orders i).val).1;rw [hgv2];split <;> omega
  have hal3:∀ j,j<i+1→0<gvA es2 (Nn r.orders j).val:=fun j hj=>by
    have h2:=(hI1.gv (Nn r.orders i).val).1
    rw [hgv2]
    rcases Yy (YD hj) with h9 | h9
    ·have h1:=hal j h9;split <;> omega
    ·subst h9;rw [Yf rfl];omega
  refine Yd (Zi (Za (rZ O (qp r1 (qR rr qZ)) V [44,43,42,2,0] [101,7,6,5,4,3,2,0] fun O=>?_)))
  replace O:=O.ent (i:=44) (s':=.pv (.int .i64 ((i+1:Nat):Int))) Z (.int (Ze ow))
  obtain ⟨F,O⟩:=O.nM [43,42,2,0,44] [7,3,2,0,6,5,4]
  exact ⟨((i+1),(qq),(sr1),(es2),(ck2)),F,⟨by omega,⟨hI3,hq3,hkp3,hal3⟩⟩,O,by omega⟩
 have hil:i=r.orders.length:=by simp at hc0;omega
 have hpost:Ze6 seqs Live r qo q (arV (some ob)) (arV (some nb)) es K ⟨qq,⟨(arV (some nb)),ro1,ro2,c.size⟩,sr1,es1,ck1⟩:=by
   rw [hil] at hI1 hql
   rw [YE] at hql
   exact ⟨⟨e1++e2++e0,by show qq=_;rw [hqq];simp,by simp only [Yc];omega⟩,⟨rfl,by show Zjr qq ro1 r.txs;rw [hqq,Yp,Yp];rw [← Yp q];exact hR1.app,by show Zjr qq ro2 r.orders;rw [hqq];exact hR2.app,hr.s⟩,hI1,hkp,Zry fun j hj=>hal j ow⟩
 refine Ym (Zg (Zg (Zo ?_)))
 have O:=O.fresh 1 rfl
 obtain ⟨F,O⟩:=O.push 1 7 Z Z Z kr
 obtain ⟨F,O⟩:=O.push 1 6 Z Z Z kr
 obtain ⟨F,O⟩:=O.push 1 5 Z Z Z kr
 obtain ⟨F,O⟩:=O.push 1 4 Z Z Z kr
 obtain ⟨F,O⟩:=O.push 1 3 Z Z Z kr
 obtain ⟨F,O⟩:=O.push 1 2 Z Z Z kr
 have O:=O.turn 1 Z (r':=RS.hp (.ex fun x:MvC=>.and (Ze6 seqs Live r qo q (arV (some ob)) (arV (some nb)) es K x) (.star (Ztn (.pointer (some ⟨b,0,none⟩)) (arV (some nb)) ob nb qo x.q cn mv nx alv sqv x.sr mm x.es x.ck rv x.c)))) (fun _ _ _ _ h=>⟨⟨qq,⟨(arV (some nb)),ro1,ro2,c.size⟩,sr1,es1,ck1⟩,hpost,h⟩)
 obtain ⟨F,O⟩:=O.nM [] [1,0]
 refine ZE hG O Z .nil .none rfl
theorem Zqc (b ob nb:Nat) (seqs:List (List Int)) (Live:Nat→Prop) (qo q:List Cell) (c:RtC) (mv:Value) (nx:Int) (alv sqv:Value) (sr:List SqC) (mm:Value) (es:List (GE Int Int)) (ck:Nat) (K:Int) (hI:MvI seqs Live qo q (arV (some ob)) (arV (some nb)) sr es K) (hn0:0<seqs.length) (hn1:seqs.length≤1000000) (hll:Live (seqs.length - 1)) (hroom:q.length+(Nn seqs (seqs.length - 1)).length≤65536):FnG prog 123 1 [.is (.pointer (some ⟨b,0,none⟩)),.is mm] [.star (ZqH (.pointer (some ⟨b,0,none⟩)) (arV (some nb)) ob nb qo q c mv nx alv sqv sr mm es ck)] (.tup []) (fun _=>[.ex fun x:MvC=>.and (x.sr.length=seqs.length∧(∀ i:Nat,i<seqs.length→0<gvA es i→(Nn x.sr i).av=(arV (some nb))∧Zbe x.q (Nn x.sr i).root (Nn seqs i))∧(∃ e,x.q=q++e∧e.length≤(Nn seqs (seqs.length - 1)).length)∧(Nn x.sr (seqs.length - 1)).av=(arV (some nb))∧Zbe x.q (Nn x.sr (seqs.length - 1)).root (Nn seqs (seqs.length - 1))) (.star (ZqH (.pointer (some ⟨b,0,none⟩)) (arV (some nb)) ob nb qo x.q c mv nx alv sqv x.sr mm es ck))]):=by
 refine FnG.mk func123 Z ntmps123 Z kr fun B F0 a w F V hG O=>?_
 obtain ⟨F,O⟩:=O.peel 1 2 Z rfl
 obtain ⟨F,O⟩:=O.peel 1 3 Z rfl
 obtain ⟨F,O⟩:=O.peel 1 4 Z rfl
 obtain ⟨F,O⟩:=O.peel 1 5 Z rfl
 obtain ⟨F,O⟩:=O.peel 1 6 Z rfl
 dsimp only [ZqI] at O
 obtain ⟨F,O⟩:=O.nM [1,0] [6,5,4,3,2,0]
 refine Ya (Zh O (qR rr (qf (o_nilCheck 2 .is (by rfl)) r1 r1 (qf (oF 9 2 .adr) r1 r1 (qa 2 r1 r1 (qf (Zap 5 YbV .is) r1 r1 (qf (o_sub .t qi) r1 qz (qO rr qZ))))))) V [4,1,0] [6,5,4,3,2,0] Z Z fun a w F O=>?_)
 have hsl:=hI.len
 have hlw:IntKind.wrap .i64 ((sr.length:Int) - 1)=((seqs.length - 1:Nat):Int):=by rw [Zj ow];omega
 rw [hlw] at O
 refine Za (Ya (rZ O (qR rr (qR rr (qf (ZaL (ek:=(fun c:Int=>PV.int .i64 c)) (z0:=(0:Int)) 6 Yb0 (Za5 YbS) kr (fun _ _=>⟨rfl,ZhL⟩) .is (Z6.intR .t Z)) r2 r1 (qf (o_eql .t qi) r1 qz qZ)))) V [14,4,0] [6,5,4,3,2,0] fun O=>?_))
 refine Zc O Z (fun hc0=>?_) (fun hc0=>?_)
 ·have hg0:gvA es ((seqs.length - 1:Nat):Int)=0:=by simpa [gvA] using hc0
  have hold:=hI.old (seqs.length - 1) ow hll hg0
  obtain ⟨e3,ro3,hM3,hR3,hE3⟩:=Zoo ob nb (q:=q) (c:=(Nn sr (seqs.length - 1))) hold ow
  have hpost:(sr.set (seqs.length - 1) ⟨(arV (some nb)),ro3⟩).length=seqs.length∧(∀ i:Nat,i<seqs.length→0<gvA es i→(Nn (sr.set (seqs.length - 1) ⟨(arV (some nb)),ro3⟩) i).av=(arV (some nb))∧Zbe (q++e3) (Nn (sr.set (seqs.length - 1) ⟨(arV (some nb)),ro3⟩) i).root (Nn seqs i))∧(∃ e,(q++e3)=q++e∧e.length≤(Nn seqs (seqs.length - 1)).length)∧(Nn (sr.set (seqs.length - 1) ⟨(arV (some nb)),ro3⟩) (seqs.length - 1)).av=(arV (some nb))∧Zbe (q++e3) (Nn (sr.set (seqs.length - 1) ⟨(arV (some nb)),ro3⟩) (seqs.length - 1)).root (Nn seqs (seqs.length - 1)):=by
   have hset:Nn (sr.set (seqs.length - 1) (⟨(arV (some nb)),ro3⟩:SqC)) (seqs.length - 1) = ⟨(arV (some nb)),ro3⟩:=by rw [Zge ow,Yf rfl]
   refine ⟨by rw [YN];exact hI.len,fun i hi hg=>?_,⟨e3,rfl,by omega⟩,by rw [hset],by rw [hset];exact hR3⟩
   have hne:i≠seqs.length - 1:=fun h9=>by rw [h9,hg0] at hg;omega
   rw [Zge ow,Yb hne]
   exact ⟨(hI.new i hi hg).1,(hI.new i hi hg).2.app⟩
  refine Zu O (qR rr (qf (o_nilCheck 2 .is (by rfl)) r1 r1 (qf (oF 9 2 .adr) r1 r1 (qa 2 r1 r1 (qR rr (qR rr (qf (o_nilCheck 2 .is (by rfl)) r1 r1 (qf (oF 9 2 .adr) r1 r1 (qa 2 r1 r1 (qR rr (qf (o_indexAddr_row (sz:=2) 5 (.mk YbV kr) .is .t ow ow (by rfl)) r2 r1 (qf (Zt (ag:=true) (sz':=2) (sz:=2) 5 .t (by intro x;rfl) (by rw [Yg];omega) kr kr kr) r1 r1 (qR rr (qf (o_nilCheck 2 .is (by rfl)) r1 r1 (qf (oF 0 2 .adr) r1 r1 (qa 2 r1 r1 (qf (o_callG2c 3 4 (hM3) func187 Z kr Z (Args.two (.pagg .t) .t)) r2 r2 (qR rr (qf (o_extract .t Z) r1 qz (qf (o_extract .t Z) r1 qz (qf (o_indexAddr_row (sz:=2) 5 (.mk YbV kr) .is .t ow ow (by rfl)) r2 r1 (qf (Z0 (R:=rSq) (v:=⟨(arV (some nb)),ro3⟩) (sz:=2) 5 .t (by intro x;rfl) (by rw [Yg];omega) .t kr) r2 r1 qZ)))))))))))))))))))))) V [] [6,5,4,3,2,0] Z Z fun a w F O=>?_
  try dsimp only [List.map,Zd,xL,xM,Nat.reduceAdd,xD,xE,xT,xU,xC,xN,zCF,ldSF,rRt,rSq,ZC,rTx,Zv,Zl,Zs,rOp] at O
  try simp only [Yg] at O
  have O:=O.fresh 1 rfl
  obtain ⟨F,O⟩:=O.push 1 6 Z Z Z kr
  obtain ⟨F,O⟩:=O.push 1 5 Z Z Z kr
  obtain ⟨F,O⟩:=O.push 1 4 Z Z Z kr
  obtain ⟨F,O⟩:=O.push 1 3 Z Z Z kr
  obtain ⟨F,O⟩:=O.push 1 2 Z Z Z kr
  have O:=O.turn 1 Z (r':=RS.hp (.ex fun x:MvC=>.and (x.sr.length=seqs.length∧(∀ i:Nat,i<seqs.length→0<gvA es i→(Nn x.sr i).av=(arV (some nb))∧Zbe x.q (Nn x.sr i).root (Nn seqs i))∧(∃ e,x.q=q++e∧e.length≤(Nn seqs (seqs.length - 1)).length)∧(Nn x.sr (seqs.length - 1)).av=(arV (some nb))∧Zbe x.q (Nn x.sr (seqs.length - 1)).root (Nn seqs (seqs.length - 1))) (.star (ZqH (.pointer (some ⟨b,0,none⟩)) (arV (some nb)) ob nb qo x.q c mv nx alv sqv x.sr mm es ck)))) (fun _ _ _ _ h=>⟨⟨q++e3,c,sr.set (seqs.length - 1) ⟨(arV (some nb)),ro3⟩,es,ck⟩,hpost,h⟩)
  obtain ⟨F,O⟩:=O.nM [] [1,0]
  refine ZE hG O Z .nil .none rfl
 have hg0:gvA es ((seqs.length - 1:Nat):Int)≠0:=by simpa [gvA] using hc0
 have hgp:=(hI.gv ((seqs.length - 1:Nat):Int)).1
 have hnew:=hI.new (seqs.length - 1) ow ow
 have hpost:sr.length=seqs.length∧(∀ i:Nat,i<seqs.length→0<gvA es i→(Nn sr i).av=(arV (some nb))∧Zbe q (Nn sr i).root (Nn seqs i))∧(∃ e,q=q++e∧e.length≤(Nn seqs (seqs.length - 1)).length)∧(Nn sr (seqs.length - 1)).av=(arV (some nb))∧Zbe q (Nn sr (seqs.length - 1)).root (Nn seqs (seqs.length - 1)):=⟨hI.len,hI.new,⟨[],by simp,Yt _⟩,hnew.1,hnew.2⟩
 refine Yd ?_
 have O:=O.fresh 1 rfl
 obtain ⟨F,O⟩:=O.push 1 6 Z Z Z kr
 obtain ⟨F,O⟩:=O.push 1 5 Z Z Z kr
 obtain ⟨F,O⟩:=O.push 1 4 Z Z Z kr
 obtain ⟨F,O⟩:=O.push 1 3 Z Z Z kr
 obtain ⟨F,O⟩:=O.push 1 2 Z Z Z kr
 have O:=O.turn 1 Z (r':=RS.hp (.ex fun x:MvC=>.and (x.sr.length=seqs.length∧(∀ i:Nat,i<seqs.length→0<gvA es i→(Nn x.sr i).av=(arV (some nb))∧Zbe x.q (Nn x.sr i).root (Nn seqs i))∧(∃ e,x.q=q++e∧e.length≤(Nn seqs (seqs.length - 1)).length)∧(Nn x.sr (seqs.length - 1)).av=(arV (some nb))∧Zbe x.q (Nn x.sr (seqs.length - 1)).root (Nn seqs (seqs.length - 1))) (.star (ZqH (.pointer (some ⟨b,0,none⟩)) (arV (some nb)) ob nb qo x.q c mv nx alv sqv x.sr mm es ck)))) (fun _ _ _ _ h=>⟨⟨q,c,sr,es,ck⟩,hpost,h⟩)
 obtain ⟨F,O⟩:=O.nM [] [1,0]
 refine ZE hG O Z .nil .none rfl
theorem ZpX {l ks:List Int} (hp:l.Perm ks) (h:ks.Pairwise (· < ·)):l.mergeSort leI=ks:=by
 have hs:List.Pairwise (fun x y=>x≤y) (l.mergeSort leI):=by
  have:=Ybj (le:=leI) (fun a b c h1 h2=>by simp [leI] at *;omega) (fun a b=>by simp [leI];omega) l
  exact List.Pairwise.imp (fun h=>by simpa [leI] using h) this
 exact List.Perm.eq_of_pairwise (fun x y _ _ h1 h2=>Int.le_antisymm h1 h2) hs (List.Pairwise.imp (fun h=>Ybr h) h) ((YaK l leI).trans hp)
def ZbK (v w:Value) (A:StA) (s:StC) (c:RtC):List RS:=[.pt (.val v) 97 [.pv (.is (arV (some s.b))),.pv (.is (arV (some s.b))),.pv (.int .i64 s.c.tr),.pv (.is (arV (some s.b))),.pv (.int .i64 s.c.or),.pv (.int .i64 s.c.size),.pv (.is s.mv),.pv (.int .i64 A.next),.pv (.is s.alv),.pv (.is s.sqv)],RS.hp (arH (some s.b) 65536 s.q),.ob (.val s.mv) (ZnT s.cs s.ck),.ob (.val s.alv) (ZO 36 3 rTx A.all),.ob (.val s.sqv) (ZO 114 2 rSq s.sr),.pt (.val w) 92 [.pv (.is (arV (some s.b))),.pv (.int .i64 c.tr),.pv (.is (arV (some s.b))),.pv (.int .i64 c.or),.pv (.int .i64 c.size)]]
structure ZbV (A:StA) (r:RtA) (s:StC) (c:RtC) (n:Int) (x:StC×RtC):Prop where
 rep:Zan A [r] x.1
 rt:Zb7 x.1.q (arV (some x.1.b)) x.2 r
 room:(x=(s,c)∧s.q.length+n≤65536)∨x.1.q.length≤60000
def ZsH (A:StA) (i:Nat):Int:=A.now.size+((A.snaps.take i).map fun x=>x.2.size).sum
structure Zcn (A:StA) (r:RtA) (qo:List Cell) (av nv:Value) (c1:RtC) (i:Nat) (cs1:List (GE Int RtC)) (qq:List Cell) (sr1:List SqC) (es1:List (GE Int Int)):Prop where
 now:Zb7 qq nv c1 A.now
 keys:cs1.map (·.key)=A.snaps.map (·.1)
 snaps:∀ (j:Nat) (x:Int×RtA),A.snaps[j]? = some x → ∃ c,gGet x.1 cs1=some c∧(j<i→Zb7 qq nv c x.2)∧(¬ j<i→Zb7 qo av c x.2)
 mv:∃ K,(0≤K∧K≤10000*((i:Int)+1))∧MvI A.seqs (Zcw (rootsA A ++ [r]) A.seqs.length) qo qq av nv sr1 es1 K
 alln:∀ p ∈ A.now.orders,0<gvA es1 p.val
 alls:∀ (j:Nat) (x:Int×RtA),j<i→A.snaps[j]? = some x → ∀ p ∈ x.2.orders,0<gvA es1 p.val
 len:(qq.length:Int)≤ZsH A i
theorem ZoE {A:StA} {i:Nat} {x:Int×RtA} (h:A.snaps[i]? = some x):ZsH A (i+1)=ZsH A i+x.2.size:=by
 obtain ⟨hi,e⟩:=YG.1 h
 unfold ZsH
 rw [YaW hi,YZ,YaT,e]
 simp;omega
theorem ZnY {A:StA} (hk:ZaJ A) (i:Nat):ZsH A i≤10000:=by
 have h1:=hk.held
 have h2:((A.snaps.take i).map fun x=>x.2.size).sum≤(A.snaps.map fun x=>x.2.size).sum:=by
  have e:A.snaps=A.snaps.take i++A.snaps.drop i:=(YX i A.snaps).symm
  have h3:=Zdg (l:=A.snaps.drop i) fun x hx=>hk.nn x (YaU hx)
  have e2:(A.snaps.map fun x=>x.2.size).sum=((A.snaps.take i).map fun x=>x.2.size).sum+((A.snaps.drop i).map fun x=>x.2.size).sum:=by
   conv=>lhs;rw [e]
   rw [YZ,YaT]
  omega
 unfold Za2 at h1
 unfold ZsH;omega
theorem live_of {A:StA} {r r1:RtA} (hr:r1 ∈ rootsA A ++ [r]) (hov:∀ p ∈ r1.orders,0≤p.val):∀ p ∈ r1.orders,Zcw (rootsA A ++ [r]) A.seqs.length p.val.toNat:=fun p hp=>.inl ⟨r1,hr,p,hp,(Ybm (hov p hp)).symm⟩
theorem snap_root {A:StA} {r:RtA} {i:Nat} {x:Int×RtA} (h:A.snaps[i]? = some x):x.2 ∈ rootsA A ++ [r]:=by
 have h1:x ∈ A.snaps:=Yaz h
 simp only [rootsA,Y0,Yo,YB]
 exact .inr (.inl (YC.2 ⟨x,h1,rfl⟩))
theorem Zcn.start {A:StA} {r:RtA} {s:StC} {nv:Value} (hk:ZaJ A) (h:Zan A [r] s) {x:MvC} (hp:Ze6 A.seqs (Zcw (rootsA A ++ [r]) A.seqs.length) A.now s.q [] (arV (some s.b)) nv [] 0 x):Zcn A r s.q (arV (some s.b)) nv x.c 0 s.cs x.q x.sr x.es:=by
 refine ⟨hp.rt,h.keys,fun j y hy=>?_,⟨0+A.now.orders.length,⟨by omega,?_⟩,hp.mv⟩,hp.all,fun j y hj=>absurd hj (YJ j),?_⟩
 ·obtain ⟨c,hc,hr⟩:=h.snaps y (Yaz hy)
  exact ⟨c,hc,fun hj=>absurd hj (YJ j),fun _=>hr⟩
 ·have h1:=hk.now_le
  have h2:=Zco A.all A.seqs A.now
  omega
 ·obtain ⟨e,he,hl⟩:=hp.app
  rw [he]
  have h1:=Zbf A.all A.seqs A.now
  have h2:=hk.szn
  unfold ZsH
  simp;omega
theorem Zcn.step {A:StA} {r:RtA} {qo qq:List Cell} {av nv:Value} {c1:RtC} {i:Nat} {cs1:List (GE Int RtC)} {cc:Nat} {sr1:List SqC} {es1:List (GE Int Int)} {K:Int} (hk:ZaJ A) (h:Zcn A r qo av nv c1 i cs1 qq sr1 es1) (hK:0≤K∧K≤10000*((i:Int)+1)) {y:Int×RtA} (hy:A.snaps[i]? = some y) {x:MvC} (hp:Ze6 A.seqs (Zcw (rootsA A ++ [r]) A.seqs.length) y.2 qo qq av nv es1 K x):Zcn A r qo av nv c1 (i+1) (gPut y.1 x.c (cs1,cc)).1 x.q x.sr x.es:=by
 obtain ⟨e,he,hl⟩:=hp.app
 have hym:y ∈ A.snaps:=Yaz hy
 have hyk:y.1 ∈ cs1.map (·.key):=by rw [h.keys];exact YC.2 ⟨y,hym,rfl⟩
 have hsl:=hk.snap_le hym
 have hst:=Zco A.all A.seqs y.2
 refine ⟨by rw [he];exact h.now.app,by rw [Zkl,Yf hyk];exact h.keys,fun j z hz=>?_,⟨K+y.2.orders.length,⟨by omega,by omega⟩,hp.mv⟩,fun p hq=>hp.keep _ (h.alln p hq),fun j z hj hz p hq=>?_,?_⟩
 ·rw [ZeC]
  by_cases hjz:z.1=y.1
  ·have hji:j=i:=by
    obtain ⟨hj1,e1⟩:=YG.1 hz
    obtain ⟨hi1,e2⟩:=YG.1 hy
    have hpw:=Y2.1 hk.ids
    rcases Ybg j i with h1 | h1 | h1
    ·have:=hpw j i (by simpa using hj1) (by simpa using hi1) h1
     rw [Yan,Yan,e1,e2] at this;omega
    ·exact h1
    ·have:=hpw i j (by simpa using hi1) (by simpa using hj1) h1
     rw [Yan,Yan,e1,e2] at this;omega
   subst hji
   rw [hz] at hy
   cases hy
   rw [Yf rfl]
   exact ⟨x.c,rfl,fun _=>hp.rt,fun hn=>absurd (Nat.lt_succ_self _) hn⟩
  ·rw [Yb hjz]
   obtain ⟨c,hc,h1,h2⟩:=h.snaps j z hz
   have hne:j≠i:=fun e9=>by subst e9;rw [hz] at hy;cases hy;exact hjz rfl
   exact ⟨c,hc,fun hj=>by rw [he];exact (h1 ow).app,fun hj=>h2 ow⟩
 ·rcases Yy (YD hj) with h1 | h1
  ·exact hp.keep _ (h.alls j z h1 hz p hq)
  ·subst h1
   rw [hz] at hy
   cases hy
   exact hp.all p hq
 ·have h1:=Zbf A.all A.seqs y.2
  have h2:=hk.szs y hym
  have h3:=h.len
  rw [ZoE hy,he,Yc]
  omega
theorem Zcn.cur {A:StA} {r:RtA} {qo qq:List Cell} {av nv:Value} {c1:RtC} {i:Nat} {cs1:List (GE Int RtC)} {sr1:List SqC} {es1:List (GE Int Int)} (h:Zcn A r qo av nv c1 i cs1 qq sr1 es1) {y:Int×RtA} (hy:A.snaps[i]? = some y):∃ c,gGet y.1 cs1=some c∧Zb7 qo av c y.2:=by
 obtain ⟨c,hc,_,h2⟩:=h.snaps i y hy
 exact ⟨c,hc,h2 (Nat.lt_irrefl i)⟩
theorem Zcn.done {A:StA} {r:RtA} {qo qq:List Cell} {av:Value} {nb:Nat} {c1:RtC} {i:Nat} {cs1:List (GE Int RtC)} {sr1 sr2:List SqC} {es1:List (GE Int Int)} {K:Int} {q2:List Cell} {cc:Nat} {mv alv sqv:Value} (h:Zcn A r qo av (arV (some nb)) c1 i cs1 qq sr1 es1) (hi:i=A.snaps.length) {x:MvC} (hp:Ze6 A.seqs (Zcw (rootsA A ++ [r]) A.seqs.length) r qo qq av (arV (some nb)) es1 K x) (hq:∃ e,q2=x.q++e) (hl:sr2.length=A.seqs.length) (hall:∀ i:Nat,i<A.seqs.length→0<gvA x.es i→(Nn sr2 i).av=arV (some nb)∧Zbe q2 (Nn sr2 i).root (Nn A.seqs i)) (hlast:0<A.seqs.length→(Nn sr2 (A.seqs.length - 1)).av=arV (some nb)∧Zbe q2 (Nn sr2 (A.seqs.length - 1)).root (Nn A.seqs (A.seqs.length - 1))) :
  Zan A [r] ⟨nb,q2,c1,cs1,cc,mv,alv,sqv,sr2⟩∧Zb7 q2 (arV (some nb)) x.c r:=by
 obtain ⟨e,he⟩:=hq
 obtain ⟨e1,he1,_⟩:=hp.app
 refine ⟨⟨by show Zb7 q2 _ c1 A.now;rw [he,he1];exact (h.now.app).app,h.keys,fun y hy=>?_,hl,fun j hj hlv=>?_⟩,by rw [he];exact hp.rt.app⟩
 ·obtain ⟨j,hj,e9⟩:=YH hy
  obtain ⟨c,hc,h1,_⟩:=h.snaps j y (by rw [YaL hj,e9])
  exact ⟨c,hc,by show Zb7 q2 _ c y.2;rw [he,he1];exact ((h1 ow).app).app⟩
 ·rcases hlv with ⟨r1,hr1,p,hpm,e9⟩ | h1
  ·refine hall j hj ?_
   rw [← e9]
   simp only [rootsA,Y0,Yo,YB,YC,YaC,Ya4] at hr1
   rcases hr1 with rfl | ⟨y,hy,rfl⟩ | rfl
   ·exact hp.keep _ (h.alln p hpm)
   ·obtain ⟨k,hk,e8⟩:=YH hy
    exact hp.keep _ (h.alls k y ow (by rw [YaL hk,e8]) p hpm)
   ·exact hp.all p hpm
  ·have h2:=hlast ow
   rw [show A.seqs.length - 1=j by omega] at h2
   exact h2
theorem Zrm (mv:Value):FnP prog 122 [.is mv] (.clos 188 [.ref [.is mv]]):=by
 refine FnP.mk func122 Z ntmps122 Z fun B a w F V hfr O=>Ya ?_
 refine Zb O (qf (Zl8 101 .t Zh3) r1 qz (qC qZ)) V [2,1] [101,0] (fun _=>rfl) (fun _=>rfl) fun τ a w F O=>?_
 try dsimp only [RS.sub,SF.sub,CF.sub,csub,Anc.sub,List.map,zCF] at O
 generalize τ 1=v1 at O
 obtain ⟨F,O⟩:=O.giveRef 101 1 Z Z rfl
 obtain ⟨F,O⟩:=O.nM [2,1] [0]
 try dsimp only [Go.Gm.unCF] at O
 refine Za (Ya (rZ O (qf (ZcL (Args.one .t)) r1 qz (qO rr qZ)) V [2] [0] fun O=>Yh ?_))
 refine ZB hfr O Z Z Z .refl
theorem Zoh (mv:Value) (es:List (GE Int RtC)) (ck:Nat) (ks:List Int) (hke:es.map (·.key)=ks) (hkr:ks.Pairwise (· < ·)) (hl9:es.length≤100000):FnG prog 102 2 [.clos 188 [.ref [.is mv]]] [ZnT es ck mv,.star []] (PV.one) (fun v=>[ZnT es ck mv,ZO 3 1 Zs ks v]):=by
 refine FnG.mk func102 Z ntmps102 Z kr fun B F0 a w F V hG O=>Ya ?_
 refine rZ O (qC qZ) V [2,0] [2,1,0] fun O=>Ya ?_
 refine Zb O (qR rr (qf (ZjW 1 2 (Zls (fun c:RtC=>PV.agg (rRt c)) mv es ck ow) func166 Z kr Z (Args.one .t) Zf1) r1 r2 (qO rr qZ))) V [3,2] [2,1,0] (fun _=>rfl) (fun _=>rfl) fun τ a w F O=>?_
 try dsimp only [RS.sub,SF.sub,CF.sub,csub,Anc.sub,List.map,Zs] at O
 generalize τ 5=v5 at O
 replace O:=O.turn 2 Z (r':=RS.hp (HP.ex fun l:List Int=>HP.and (l.Perm (es.map fun z:GE Int RtC=>z.key)) (ZO 3 1 Zs l v5))) (fun _ _ _ _ h=>h)
 obtain ⟨ks2,O⟩:=O.open_ex 2 rfl
 obtain ⟨hks,O⟩:=O.open_and 2 rfl
 replace O:=O.turn 2 Z (r':=.ob (.val v5) (ZO 3 1 Zs ks2)) (fun _ _ _ _ h=>h)
 have hkl:ks2.length≤1000000:=by have h1:=hks.length_eq;rw [YP] at h1;omega
 obtain ⟨F,O⟩:=O.nM [3,2] [2,1,0]
 refine Za (Ya (Zh O (qR rr (qf (ZW 2 (Zmq _ ks2 hkl) func92 Z kr (Args.one .t)) r1 r1 qZ)) V [3,2] [2,1,0] Z Z fun a w F O=>?_))
 rw [ZpX (hks.trans (by rw [hke])) hkr] at O
 refine Za (Ya (rZ O (qR rr (qO rr qZ)) V [2] [2,1,0] fun O=>Yh ?_))
 have O:=O.turn 2 Z (r':=RS.hp (ZO 3 1 Zs ks v5)) (fun _ _ _ _ h=>h)
 refine Zs6 (k2:=fun v=>ZO 3 1 Zs ks v) hG O Z (.tmp Z .nil) (.one .one) Z rfl
theorem Zj1 {b:Nat} {room:Int} {q:List Cell} {w:World} {f y:Ys} (h:(HP.named (fun b=>arV (some b)) (fun b=>arH (some b) room q) (arV (some b))).p w f y):(arH (some b) room q).p w f y:=by
 obtain ⟨b',e,h⟩:=h
 have e2:b=b':=by simpa [arV] using e
 subst e2;exact h
theorem ZkX {v:Value} {room:Int} {q:List Cell} {w:World} {f y:Ys} (h:(HP.named (fun b=>arV (some b)) (fun b=>arH (some b) room q) v).p w f y):∃ b,v=arV (some b):=by
 obtain ⟨b,e,_⟩:=h
 exact ⟨b,e⟩
theorem Ztg (n room:Int) (hr:Zb8 n=room):FnG prog 45 1 [.int .i64 n] [.star []] PV.ptr (fun v=>[HP.named (fun b=>arV (some b)) (fun b=>arH (some b) room []) v]):=by
 subst hr
 exact FnG.newNamed (ZoU n) fun v w f y h=>by obtain ⟨b,rfl⟩:=Zik h;exact ⟨b,rfl,h⟩
theorem ZsD (b:Nat) (room:Int) (q:List Cell):FnG prog 120 1 [.is (arV (some b))] [arH (some b) room q] (.int .i64 (room - q.length)) (fun _=>[arH (some b) room q]):=ZlN b room q
theorem Zfa (b wb:Nat) (A:StA) (hok:ZaJ A) (hfit:Zb1 A) (r:RtA) (hrok:Zlh A.all A.seqs r) (hrz:sizeH (Za4 A.all A.seqs r)≤40000) (sc:StC) (c:RtC) (n:Int) (hk:Zan A [r] sc) (hr:Zb7 sc.q (arV (some sc.b)) c r) (hn:0≤n∧n≤5000):FnG prog 64 1 [.is (.pointer (some ⟨b,0,none⟩)),.is (.pointer (some ⟨wb,0,none⟩)),.int .i64 n] [.star (ZbK (.pointer (some ⟨b,0,none⟩)) (.pointer (some ⟨wb,0,none⟩)) A sc c)] (.tup []) (fun _=>[.ex fun x:StC×RtC=>.and (ZbV A r sc c n x) (.star (ZbK (.pointer (some ⟨b,0,none⟩)) (.pointer (some ⟨wb,0,none⟩)) A x.1 x.2))]):=by
 refine FnG.mk func64 Z ntmps64 Z kr fun B F0 a w F V hG O=>?_
 obtain ⟨F,O⟩:=O.peel 1 2 Z rfl
 obtain ⟨F,O⟩:=O.peel 1 3 Z rfl
 obtain ⟨F,O⟩:=O.peel 1 4 Z rfl
 obtain ⟨F,O⟩:=O.peel 1 5 Z rfl
 obtain ⟨F,O⟩:=O.peel 1 6 Z rfl
 obtain ⟨F,O⟩:=O.peel 1 7 Z rfl
 obtain ⟨F,O⟩:=O.nM [2,1,0] [7,6,5,4,3,2,0]
 have hnl:=hok.now_le
 have hncl:=Zbf A.all A.seqs A.now
 have hsf8:=hfit.seqs
 refine Ya (Ya (rZ O (qR rr (qf (o_nilCheck 2 .is (by rfl)) r1 r1 (qf (oF 0 2 .adr) r1 r1 (qa 2 r1 r1 (qf (o_callG1 3 (ZsD sc.b 65536 sc.q) func120 Z kr (Args.one .t)) r1 r1 (qR rr (qf (Zcx .t .t) r2 qz qZ))))))) V [16,1,0] [7,6,5,4,3,2,0] fun O=>?_))
 refine Zc O Z (fun hc0=>?_) (fun hc0=>?_)
 ·refine Yh (Zf ?_)
  have O:=O.fresh 1 rfl
  obtain ⟨F,O⟩:=O.push 1 7 Z Z Z kr
  obtain ⟨F,O⟩:=O.push 1 6 Z Z Z kr
  obtain ⟨F,O⟩:=O.push 1 5 Z Z Z kr
  obtain ⟨F,O⟩:=O.push 1 4 Z Z Z kr
  obtain ⟨F,O⟩:=O.push 1 3 Z Z Z kr
  obtain ⟨F,O⟩:=O.push 1 2 Z Z Z kr
  have O:=O.turn 1 Z (r':=RS.hp (.ex fun x:StC×RtC=>.and (ZbV A r sc c n x) (.star (ZbK (.pointer (some ⟨b,0,none⟩)) (.pointer (some ⟨wb,0,none⟩)) A x.1 x.2)))) (fun _ _ _ _ h=>⟨(sc,c),⟨hk,hr,.inl ⟨rfl,by simp at hc0;omega⟩⟩,h⟩)
  obtain ⟨F,O⟩:=O.nM [] [1,0]
  refine ZE hG O Z .nil .none rfl
 refine Yd (Za (Ya ?_))
 replace O:=O.fresh 8 rfl
 obtain ⟨F,O⟩:=O.nM [16,1,0] [8,7,6,5,4,3,2,0]
 refine Zb O (qR rr (qf (Zc3 8 (Ztg 65536 65536 (by decide)) func45 Z kr (Args.one qi) PV.ptr_one) qz r1 (qf (o_nilCheck 2 .is (by rfl)) r1 r1 (qf (oF 0 2 .adr) r1 r1 (qf (ZbD 2 .adr kr kr) r2 r1 qZ))))) V [1,0] [8,7,6,5,4,3,2,0] (fun _=>rfl) (fun _=>rfl) fun τ a w F O=>?_
 try dsimp only [RS.sub,SF.sub,CF.sub,csub,Anc.sub,List.map,Zd,xL,xM,Nat.reduceAdd,xD,xE,xT,xU,xC,xN,zCF,rRt,rSq,ZC,rTx,Zv,Zl,Zs,rOp] at O
 generalize τ 18=v18 at O
 obtain ⟨_,_,_,ho⟩:=O.obGet 8 rfl
 obtain ⟨nb,rfl⟩:=ZkX ho
 clear ho
 replace O:=O.turn 8 Z (r':=RS.hp (arH (some nb) 65536 [])) (fun _ _ _ _ h=>Zj1 h)
 obtain ⟨F,O⟩:=O.nM [1,0] [8,7,6,5,4,3,2,0]
 refine Za (Ya (Zb O (qf (ZcU (ek:=(fun c:Int=>PV.int .i64 c)) (ok:=(fun n:Int=>inR .i64 n)) (kv:=(fun n:Int=>Value.int .i64 n)) 101) trivial qz (qO rr qZ)) V [6,1,0] [101,8,7,6,5,4,3,2,0] (fun _=>rfl) (fun _=>rfl) fun τ a w F O=>?_))
 try dsimp only [RS.sub,SF.sub,CF.sub,csub,Anc.sub,List.map,Zd,xL,xM,Nat.reduceAdd,xD,xE,xT,xU,xC,xN,zCF,rRt,rSq,ZC,rTx,Zv,Zl,Zs,rOp] at O
 generalize τ 21=v21 at O
 refine Za (Ya (Zbo 5 O kr (cG Z (oM .t) r1 trivial (cG Z (oM .t) r1 trivial (cG Z (o_nilCheck 2 .is (by rfl)) r1 r1 (cG Z (oF 1 2 .adr) r1 r1 (cG Z (oM .t) r1 trivial Zaz.nil))))) kr (by rw [V];kernel_rfl) fun a w F O=>?_))
 obtain ⟨F,O⟩:=O.nM [26,25,22,6,1,0] [101,8,7,6,5,4,3,2,0]
 try dsimp only [rRt,rSq,ZC,rTx,Zv,Zl,Zs,rOp] at O
 replace O:=O.fresh 9 rfl
 obtain ⟨F,O⟩:=O.push 9 101 Z Z Z kr
 obtain ⟨F,O⟩:=O.push 9 6 Z Z Z kr
 obtain ⟨F,O⟩:=O.push 9 8 Z Z Z kr
 obtain ⟨F,O⟩:=O.push 9 3 Z Z Z kr
 obtain ⟨F,O⟩:=O.push 9 2 Z Z Z kr
 replace O:=O.turn 9 Z (r':=RS.hp (.star (ZqH (.pointer (some ⟨b,0,none⟩)) (arV (some sc.b)) sc.b nb sc.q [] sc.c sc.mv A.next sc.alv sc.sqv sc.sr v21 [] 0))) (fun _ _ _ _ h=>h)
 obtain ⟨F,O⟩:=O.nM [26,25,22,6,1,0] [9,7,5,4,0]
 refine ZbZ O kr (cG Z (o_callG1 9 (ZoZ b sc.b nb A.seqs (Zcw (rootsA A ++ [r]) A.seqs.length) sc.q [] sc.c sc.mv A.next sc.alv sc.sqv sc.sr v21 [] 0 0 A.now (MvI.start hk (arV (some nb))) hk.now ow hok.okn.ov (live_of (by simp [rootsA]) (fun p hp=>(hok.okn.ov p hp).1)) (by simp only [Yq];omega) ow) func121 Z kr (Args.three .t (.conv .t ((Ent.adrK (by rfl)))) .t)) r3 r1 Zaz.nil) kr (by rw [V];kernel_rfl) fun a w F O=>?_
 obtain ⟨F,O⟩:=O.nM [6,1,0] [9,7,5,4,0]
 try dsimp only [rRt,rSq,ZC,rTx,Zv,Zl,Zs,rOp] at O
 obtain ⟨x1,O⟩:=O.open_ex 9 rfl
 obtain ⟨hp1,O⟩:=O.open_and 9 rfl
 obtain ⟨F,O⟩:=O.peel 9 2 Z rfl
 obtain ⟨F,O⟩:=O.peel 9 3 Z rfl
 obtain ⟨F,O⟩:=O.peel 9 8 Z rfl
 obtain ⟨F,O⟩:=O.peel 9 6 Z rfl
 obtain ⟨F,O⟩:=O.peel 9 101 Z rfl
 dsimp only [ZqI] at O
 obtain ⟨F,O⟩:=O.nM [6,1,0] [101,8,7,6,5,4,3,2,0]
 refine Za (Ya (Ya ?_))
 obtain ⟨ks,hks⟩:∃ z,z=A.snaps.map (·.1):=⟨_,rfl⟩
 have hkl9:ks.length=A.snaps.length:=by rw [hks,YP]
 have hsf:=hfit.snaps
 replace O:=O.fresh 60 rfl
 replace O:=O.turn 4 Z (r':=RS.hp (ZnT sc.cs sc.ck sc.mv)) (fun _ _ _ _ h=>h)
 obtain ⟨F,O⟩:=O.nM [6,1,0] [101,60,8,7,6,5,4,3,2,0]
 refine Zbo 6 O kr (cG Z (oM .t) r1 trivial (cG Z (o_nilCheck 2 .is (by rfl)) r1 r1 (cG Z (oF 6 2 .adr) r1 r1 (cG Z (oL false 1 2 .adr) r1 r1 (cG Z (oP (Zrm sc.mv) func122 (Args.one .t)) r1 trivial (cG Z (ZjW 4 60 (Zoh sc.mv sc.cs sc.ck ks (by rw [hks];exact hk.keys) (by rw [hks];exact hok.ids) (by have:=hk.cslen;omega)) func102 Z kr Z (Args.one .t) Zf1) r1 r2 Zaz.nil)))))) kr (by rw [V];kernel_rfl) fun a w F O=>?_
 replace O:=O.sub
 obtain ⟨F,O⟩:=O.nM [33,6,1,0] [101,60,8,7,6,5,4,3,2,0]
 try dsimp only [RS.sub,SF.sub,CF.sub,csub,Anc.sub,List.map,xD,xE,xT,xU,ldSF,rRt,rSq,ZC,rTx,Zv,Zl,Zs,rOp] at O
 generalize Act.tau a 33=v33 at O
 replace O:=O.turn 60 Z (r':=.ob (.val v33) (ZO 3 1 Zs ks)) (fun _ _ _ _ h=>h)
 replace O:=O.turn 4 Z (r':=.ob (.val sc.mv) (ZnT sc.cs sc.ck)) (fun _ _ _ _ h=>h)
 obtain ⟨F,O⟩:=O.give 60 33 Z rfl
 obtain ⟨F,O⟩:=O.nM [33,6,1,0] [101,8,7,6,5,4,3,2,0]
 refine ZbZ O kr (cG Z (ZbA YbO .t) r1 trivial (cG Z (oM (.ci kr)) trivial trivial Zaz.nil)) kr (by rw [V];kernel_rfl) fun a w F O=>?_
 obtain ⟨F,O⟩:=O.nM [35,34,33,6,1,0] [101,8,7,6,5,4,3,2,0]
 try dsimp only [rRt,rSq,ZC,rTx,Zv,Zl,Zs,rOp] at O
 refine Za (Ye (Zk (σ:=(Nat)×(List (GE Int RtC))×(Nat)×(List Cell)×(List SqC)×(List (GE Int Int))×(Nat)) [0,1,6,33,34] [0,2,3,5,7] (fun s=>[(35,.pv (.int .i64 (s.1:Int)))]) (fun s=>[(4,.ob (.val sc.mv) (ZnT s.2.1 s.2.2.1)),(8,RS.hp (arH (some nb) 65536 s.2.2.2.1)),(6,.ob (.val sc.sqv) (ZO 114 2 rSq s.2.2.2.2.1)),(101,.ob (.val v21) (MPI s.2.2.2.2.2.1 s.2.2.2.2.2.2))]) (fun s=>s.1≤ks.length∧(Zcn A r sc.q (arV (some sc.b)) (arV (some nb)) x1.c s.1 s.2.1 s.2.2.2.1 s.2.2.2.2.1 s.2.2.2.2.2.1)) (fun s=>ks.length - s.1) ((0),(sc.cs),(sc.ck),(x1.q),(x1.sr),(x1.es),(x1.ck)) O ⟨rfl,rfl,rfl,rfl,rfl,rfl,tv⟩ ⟨rfl,rfl,rfl,rfl,rfl,rfl,rfl,rfl,rfl,tv⟩ ⟨Yt _,(Zcn.start hok hk hp1)⟩ ?_))
 clear O;intro s a w F hC O
 obtain ⟨i,cs1,cc1,qq,sr1,es1,ck1⟩:=s
 try dsimp only at hC
 obtain ⟨F,O⟩:=O.nM [35,34,33,6,1,0] [101,8,7,6,5,4,3,2,0]
 try dsimp only at O
 obtain ⟨hi,hq⟩:=hC
 refine Ya (rZ O (qL r2) V [36,35,34,33,6,1,0] [101,8,7,6,5,4,3,2,0] fun O=>Ya ?_)
 refine Zc O Z (fun hc1=>?_) (fun hc1=>?_)
 ·have hil:i<ks.length:=by simp at hc1;omega
  refine Yd (Za (Ya (Ye (Ya (Zh O (qy 1 YbO r2 (qf (oR false 1 .t) r1 qz (qO rr qZ))) V [35,34,33,8,6,1,0] [101,8,7,6,5,4,3,2,0] Z Z fun a w F O=>?_)))))
  try simp only [Yg] at O
  refine Za (Ya (Zb O (qR rr (qf (o_nilCheck 2 .is (by rfl)) r1 r1 (qf (oF 6 2 .adr) r1 r1 (qa 2 r1 r1 (qR rr (qf (ZaL (ek:=(fun c:RtC=>PV.agg (rRt c))) (z0:=(default:RtC)) 4 YbZ (Za5 YbS) kr (fun _ _=>⟨[_,_,_,_,_],rfl,⟨rfl,rfl,rfl⟩,⟨rfl,rfl,ZhL⟩,⟨rfl,rfl,rfl⟩,⟨rfl,rfl,ZhL⟩,⟨rfl,rfl,ZhL⟩,tv⟩) .is (Z6.intR .t Z)) r2 r1 (qf (oH [.pointer none,.int .i64 0,.pointer none,.int .i64 0,.int .i64 0] 102) trivial qz (qf (oA 5 102 .same (.conv .t .agg)) r2 r1 qZ)))))))) V [35,34,33,9,8,6,1,0] [102,101,8,7,6,5,4,3,2,0] (fun _=>rfl) (fun _=>rfl) fun τ a w F O=>?_))
  try dsimp only [RS.sub,SF.sub,CF.sub,csub,Anc.sub,List.map,Zd,xL,xM,Nat.reduceAdd,xD,xE,xT,xU,xC,xN,zCF,ldSF,rRt,rSq,ZC,rTx,Zv,Zl,Zs,rOp] at O
  generalize τ 9=v9 at O
  have hyl:i<A.snaps.length:=by omega
  obtain ⟨y,hy⟩:∃ y,A.snaps[i]? = some y:=⟨_,YaL hyl⟩
  have hky:(Nn ks i)=y.1:=by rw [Zy ow];have h1:=YG.1 hy;simp only [hks,Yan];rw [h1.2]
  obtain ⟨c9,hc9,hr9⟩:=hq.cur hy
  rw [← hky] at hc9
  rw [hc9] at O
  try dsimp only [Option.getD] at O
  rw [hr9.a] at O
  obtain ⟨K,hK,hmI⟩:=hq.mv
  have hyo:=hok.oks y (Yaz hy)
  have hysz:=hok.snap_le (Yaz hy)
  have hycl:=Zbf A.all A.seqs y.2
  have hyql:=hq.len
  have hysn:=ZnY hok i
  obtain ⟨F,O⟩:=O.nM [35,34,33,9,8,6,1,0] [102,101,8,7,6,5,4,3,2,0]
  refine Za (Ya ?_)
  replace O:=O.fresh 9 rfl
  obtain ⟨F,O⟩:=O.push 9 102 Z Z Z kr
  obtain ⟨F,O⟩:=O.push 9 101 Z Z Z kr
  obtain ⟨F,O⟩:=O.push 9 6 Z Z Z kr
  obtain ⟨F,O⟩:=O.push 9 8 Z Z Z kr
  obtain ⟨F,O⟩:=O.push 9 3 Z Z Z kr
  obtain ⟨F,O⟩:=O.push 9 2 Z Z Z kr
  replace O:=O.turn 9 Z (r':=RS.hp (.star (Ztn (.pointer (some ⟨b,0,none⟩)) (arV (some sc.b)) sc.b nb sc.q qq x1.c sc.mv A.next sc.alv sc.sqv sr1 v21 es1 ck1 v9 c9))) (fun _ _ _ _ h=>h)
  obtain ⟨F,O⟩:=O.nM [35,34,33,9,8,6,1,0] [9,7,5,4,0]
  refine Zh O (qR rr (qR rr (qf (o_callG1 9 (ZjF b sc.b nb A.seqs (Zcw (rootsA A ++ [r]) A.seqs.length) sc.q qq c9 sc.mv A.next sc.alv sc.sqv sr1 v21 es1 ck1 K y.2 x1.c v9 hmI hr9 ow hyo.1.ov (live_of (snap_root hy) (fun p hp=>(hyo.1.ov p hp).1)) ow ow) func121 Z kr (Args.three .t .t .t)) r3 r1 qZ))) V [35,34,33,9,8,6,1,0] [9,7,5,4,0] Z Z fun a w F O=>?_
  obtain ⟨x2,O⟩:=O.open_ex 9 rfl
  obtain ⟨hp2,O⟩:=O.open_and 9 rfl
  obtain ⟨F,O⟩:=O.peel 9 2 Z rfl
  obtain ⟨F,O⟩:=O.peel 9 3 Z rfl
  obtain ⟨F,O⟩:=O.peel 9 8 Z rfl
  obtain ⟨F,O⟩:=O.peel 9 6 Z rfl
  obtain ⟨F,O⟩:=O.peel 9 101 Z rfl
  obtain ⟨F,O⟩:=O.peel 9 102 Z rfl
  dsimp only [ZqI] at O
  obtain ⟨F,O⟩:=O.nM [35,34,33,9,8,6,1,0] [102,101,8,7,6,5,4,3,2,0]
  refine Za (Zu O (qR rr (qf (o_nilCheck 2 .is (by rfl)) r1 r1 (qf (oF 6 2 .adr) r1 r1 (qa 2 r1 r1 (qR rr (qe 5 102 r1 r1 (qf (Zbq (ek:=(fun c:RtC=>PV.agg (rRt c))) (v:=x2.c) 4 YbZ (Za5 YbS) .is (Z6.intR .t Z) (.conv (.pagg .t) (Ent.rt hp2.rt.a))) r3 r1 qZ))))))) V [35,34,33,6,1,0] [102,101,8,7,6,5,4,3,2,0] Z Z fun a w F O=>?_)
  try dsimp only [List.map,xD,xE,xT,xU,ldSF,rRt,rSq,ZC,rTx,Zv,Zl,Zs,rOp] at O
  have hN3:=hq.step (cc:=cc1) hok hK hy hp2
  rw [← hky] at hN3
  refine Zi (Za (rZ O (qp r1 (qR rr qZ)) V [35,34,33,6,1,0] [102,101,8,7,6,5,4,3,2,0] fun O=>?_))
  replace O:=O.ent (i:=35) (s':=.pv (.int .i64 ((i+1:Nat):Int))) Z (.int (Ze ow))
  obtain ⟨F,O⟩:=O.nM [34,33,6,1,0,35] [7,5,3,2,0,101,6,8,4]
  exact ⟨((i+1),((gPut (Nn ks i) x2.c (cs1,cc1)).1),((gPut (Nn ks i) x2.c (cs1,cc1)).2),(x2.q),(x2.sr),(x2.es),(x2.ck)),F,⟨by omega,hN3⟩,O,by omega⟩
 have hil:i=ks.length:=by simp at hc1;omega
 obtain ⟨K,hK,hmI⟩:=hq.mv
 have hwsz:=Zbf A.all A.seqs r
 have hwql:=hq.len
 have hwsn:=ZnY hok i
 have hwof:=hrok.ov
 have hwi:i=A.snaps.length:=by omega
 have hsf9:=hfit.snaps
 refine Ym (Zg (Zg (Zo (Za (Ya ?_)))))
 replace O:=O.fresh 9 rfl
 obtain ⟨F,O⟩:=O.push 9 7 Z Z Z kr
 obtain ⟨F,O⟩:=O.push 9 101 Z Z Z kr
 obtain ⟨F,O⟩:=O.push 9 6 Z Z Z kr
 obtain ⟨F,O⟩:=O.push 9 8 Z Z Z kr
 obtain ⟨F,O⟩:=O.push 9 3 Z Z Z kr
 obtain ⟨F,O⟩:=O.push 9 2 Z Z Z kr
 replace O:=O.turn 9 Z (r':=RS.hp (.star (Ztn (.pointer (some ⟨b,0,none⟩)) (arV (some sc.b)) sc.b nb sc.q qq x1.c sc.mv A.next sc.alv sc.sqv sr1 v21 es1 ck1 (.pointer (some ⟨wb,0,none⟩)) c))) (fun _ _ _ _ h=>h)
 obtain ⟨F,O⟩:=O.nM [36,35,34,33,6,1,0] [9,5,4,0]
 refine Zh O (qR rr (qR rr (qR rr (qf (o_callG1 9 (ZjF b sc.b nb A.seqs (Zcw (rootsA A ++ [r]) A.seqs.length) sc.q qq c sc.mv A.next sc.alv sc.sqv sr1 v21 es1 ck1 K r x1.c (.pointer (some ⟨wb,0,none⟩)) hmI hr ow hrok.ov (live_of (by simp) (fun p hp=>(hrok.ov p hp).1)) ow ow) func121 Z kr (Args.three .t .t .t)) r3 r1 qZ)))) V [6,0] [9,5,4,0] Z Z fun a w F O=>?_
 obtain ⟨x3,O⟩:=O.open_ex 9 rfl
 obtain ⟨hp3,O⟩:=O.open_and 9 rfl
 obtain ⟨F,O⟩:=O.peel 9 2 Z rfl
 obtain ⟨F,O⟩:=O.peel 9 3 Z rfl
 obtain ⟨F,O⟩:=O.peel 9 8 Z rfl
 obtain ⟨F,O⟩:=O.peel 9 6 Z rfl
 obtain ⟨F,O⟩:=O.peel 9 101 Z rfl
 obtain ⟨F,O⟩:=O.peel 9 7 Z rfl
 dsimp only [ZqI] at O
 obtain ⟨F,O⟩:=O.nM [6,0] [101,8,7,6,5,4,3,2,0]
 obtain ⟨e9,he9,hel9⟩:=hp3.app
 have hx3q:x3.q.length≤52000:=by rw [he9,Yc];omega
 have hx3l:=hp3.mv.len
 refine Za (Ya (rZ O (qR rr (qf (o_nilCheck 2 .is (by rfl)) r1 r1 (qf (oF 9 2 .adr) r1 r1 (qa 2 r1 r1 (qf (Zap 6 YbV .is) r1 r1 (qf (Zal .t qi) r1 qz qZ)))))) V [64,6,0] [101,8,7,6,5,4,3,2,0] fun O=>?_))
 refine Zc O Z (fun hc2=>?_) (fun hc2=>?_)
 ·have hn0:0<A.seqs.length:=by simp at hc2;omega
  replace O:=O.fresh 9 rfl
  obtain ⟨F,O⟩:=O.push 9 101 Z Z Z kr
  obtain ⟨F,O⟩:=O.push 9 6 Z Z Z kr
  obtain ⟨F,O⟩:=O.push 9 8 Z Z Z kr
  obtain ⟨F,O⟩:=O.push 9 3 Z Z Z kr
  obtain ⟨F,O⟩:=O.push 9 2 Z Z Z kr
  replace O:=O.turn 9 Z (r':=RS.hp (.star (ZqH (.pointer (some ⟨b,0,none⟩)) (arV (some nb)) sc.b nb sc.q x3.q x1.c sc.mv A.next sc.alv sc.sqv x3.sr v21 x3.es x3.ck))) (fun _ _ _ _ h=>h)
  obtain ⟨F,O⟩:=O.nM [64,6,0] [9,7,5,4,0]
  refine Zh O (qR rr (qR rr (qf (o_callG1 9 (Zqc b sc.b nb A.seqs (Zcw (rootsA A ++ [r]) A.seqs.length) sc.q x3.q x1.c sc.mv A.next sc.alv sc.sqv x3.sr v21 x3.es x3.ck (K+r.orders.length) hp3.mv ow ow (.inr ow) (by have:=hfit.len _ (ZU (show A.seqs.length - 1<A.seqs.length by omega));omega)) func123 Z kr (Args.two .t .t)) r2 r1 qZ))) V [] [9,7,5,4,0] Z Z fun a w F O=>?_
  obtain ⟨x4,O⟩:=O.open_ex 9 rfl
  obtain ⟨hp4,O⟩:=O.open_and 9 rfl
  obtain ⟨F,O⟩:=O.peel 9 2 Z rfl
  obtain ⟨F,O⟩:=O.peel 9 3 Z rfl
  obtain ⟨F,O⟩:=O.peel 9 8 Z rfl
  obtain ⟨F,O⟩:=O.peel 9 6 Z rfl
  obtain ⟨F,O⟩:=O.peel 9 101 Z rfl
  dsimp only [ZqI] at O
  obtain ⟨F,O⟩:=O.nM [] [101,8,7,6,5,4,3,2,0]
  obtain ⟨h41,h42,⟨e4,h43,h44⟩,h45,h46⟩:=hp4
  have hlf:=hfit.len _ (ZU (show A.seqs.length - 1<A.seqs.length by omega))
  have hfin:ZbV A r sc c n ((⟨nb,x4.q,x1.c,cs1,cc1,sc.mv,sc.alv,sc.sqv,x4.sr⟩:StC),x3.c):=by
    obtain ⟨k1,k2⟩:=hq.done (cc:=cc1) (mv:=sc.mv) (alv:=sc.alv) (sqv:=sc.sqv) hwi hp3 ⟨e4,h43⟩ h41 h42 (fun _=>⟨h45,h46⟩)
    exact ⟨k1,k2,.inr (by show x4.q.length≤60000;rw [h43,Yc];omega)⟩
  have O:=O.fresh 1 rfl
  obtain ⟨F,O⟩:=O.push 1 7 Z Z Z kr
  obtain ⟨F,O⟩:=O.push 1 6 Z Z Z kr
  obtain ⟨F,O⟩:=O.push 1 5 Z Z Z kr
  obtain ⟨F,O⟩:=O.push 1 4 Z Z Z kr
  obtain ⟨F,O⟩:=O.push 1 8 Z Z Z kr
  obtain ⟨F,O⟩:=O.push 1 2 Z Z Z kr
  have O:=O.turn 1 Z (r':=RS.hp (.ex fun x:StC×RtC=>.and (ZbV A r sc c n x) (.star (ZbK (.pointer (some ⟨b,0,none⟩)) (.pointer (some ⟨wb,0,none⟩)) A x.1 x.2)))) (fun _ _ _ _ h=>⟨((⟨nb,x4.q,x1.c,cs1,cc1,sc.mv,sc.alv,sc.sqv,x4.sr⟩:StC),x3.c),hfin,h⟩)
  obtain ⟨F,O⟩:=O.nM [] [1,0]
  refine ZE hG O Z .nil .none rfl
 have hn0:A.seqs.length=0:=by rw [Yi] at hc2;omega
 have hfin:ZbV A r sc c n ((⟨nb,x3.q,x1.c,cs1,cc1,sc.mv,sc.alv,sc.sqv,x3.sr⟩:StC),x3.c):=by
   obtain ⟨k1,k2⟩:=hq.done (cc:=cc1) (mv:=sc.mv) (alv:=sc.alv) (sqv:=sc.sqv) hwi hp3 ⟨[],by simp⟩ hx3l hp3.mv.new (fun h9=>by omega)
   exact ⟨k1,k2,.inr (by show x3.q.length≤60000;omega)⟩
 refine Yd ?_
 have O:=O.fresh 1 rfl
 obtain ⟨F,O⟩:=O.push 1 7 Z Z Z kr
 obtain ⟨F,O⟩:=O.push 1 6 Z Z Z kr
 obtain ⟨F,O⟩:=O.push 1 5 Z Z Z kr
 obtain ⟨F,O⟩:=O.push 1 4 Z Z Z kr
 obtain ⟨F,O⟩:=O.push 1 8 Z Z Z kr
 obtain ⟨F,O⟩:=O.push 1 2 Z Z Z kr
 have O:=O.turn 1 Z (r':=RS.hp (.ex fun x:StC×RtC=>.and (ZbV A r sc c n x) (.star (ZbK (.pointer (some ⟨b,0,none⟩)) (.pointer (some ⟨wb,0,none⟩)) A x.1 x.2)))) (fun _ _ _ _ h=>⟨((⟨nb,x3.q,x1.c,cs1,cc1,sc.mv,sc.alv,sc.sqv,x3.sr⟩:StC),x3.c),hfin,h⟩)
 obtain ⟨F,O⟩:=O.nM [] [1,0]
 refine ZE hG O Z .nil .none rfl
theorem ZhR {k v:Int} {p:ZF} : ∀ {l:List ZF} {d:Bool},p ∈ ZaN k v l d ↔ (p ∈ l∧p.key≠k)∨(d=false∧p = ⟨k,v⟩)
 | [],d=>by cases d <;> simp [ZaN]
 | x :: l,d=>by
  have hA:p ∈ (if d=false∧k≤x.key then [(⟨k,v⟩:ZF)] else []) ↔ (d=false∧k≤x.key)∧p = ⟨k,v⟩:=by
   by_cases h:d=false∧k≤x.key
   ·rw [Yf h,Yn];exact ⟨fun e=>⟨h,e⟩,fun e=>e.2⟩
   ·rw [Yb h];exact ⟨fun e=>(by cases e),fun e=>absurd e.1 h⟩
  have V:p ∈ (if x.key=k then [] else [x]) ↔ x.key≠k∧p=x:=by
   by_cases h:x.key=k
   ·rw [Yf h];exact ⟨fun e=>(by cases e),fun e=>absurd h e.1⟩
   ·rw [Yb h,Yn];exact ⟨fun e=>⟨h,e⟩,fun e=>e.2⟩
  have hC:((d || decide (k≤x.key))=false) ↔ (d=false∧¬ k≤x.key):=by cases d <;> simp
  rw [ZaN,YB,YB,ZhR (l:=l),hA,V,hC,Yo]
  constructor
  ·rintro ((⟨⟨h1,_⟩,h3⟩ | ⟨h1,rfl⟩) | ⟨h1,h2⟩ | ⟨⟨h1,_⟩,h3⟩)
   ·exact .inr ⟨h1,h3⟩
   ·exact .inl ⟨.inl rfl,h1⟩
   ·exact .inl ⟨.inr h1,h2⟩
   ·exact .inr ⟨h1,h3⟩
  ·rintro (⟨rfl | h1,h2⟩ | ⟨h1,h2⟩)
   ·exact .inl (.inr ⟨h2,rfl⟩)
   ·exact .inr (.inl ⟨h1,h2⟩)
   ·by_cases h:k≤x.key
    ·exact .inl (.inl ⟨⟨h1,h⟩,h2⟩)
    ·exact .inr (.inr ⟨⟨h1,h⟩,h2⟩)
theorem Zfi {l:List ZF} {k v:Int} {p:ZF} : p ∈ putP l k v ↔ (p ∈ l∧p.key≠k)∨p = ⟨k,v⟩:=by
 unfold putP;rw [ZhR];simp
theorem Zfb {l:List ZF} {k:Int} {p:ZF} : p ∈ delP l k ↔ p ∈ l∧p.key≠k:=by
 unfold delP;rw [YT];simp
def Zdm (l:List ZF) (ks:List Int):List ZF:=ks.foldl delP l
theorem Zdq {p:ZF} : ∀ {ks:List Int} {l:List ZF},p ∈ Zdm l ks ↔ p ∈ l∧p.key ∉ ks
 | [],l=>by simp [Zdm]
 | k :: ks,l=>by
  show p ∈ Zdm (delP l k) ks ↔ _
  rw [Zdq,Zfb,Yo]
  constructor
  ·rintro ⟨⟨h1,h2⟩,h3⟩;exact ⟨h1,fun h=>h.elim h2 h3⟩
  ·rintro ⟨h1,h2⟩;exact ⟨⟨h1,fun h=>h2 (.inl h)⟩,fun h=>h2 (.inr h)⟩
theorem Zj5:∀ {ks:List Int} {l:List ZF},Inc l→Inc (Zdm l ks)
 | [],_,h=>h
 | _ :: ks,_,h=>Zj5 (ks:=ks) (Zgf h)
theorem ZnA (l:List ZF) (ks:List Int) (k:Int):Zdm l (ks ++ [k])=delP (Zdm l ks) k:=by unfold Zdm;rw [YaO];rfl
def putsS (l:List ZF) (n:Int) (ks:List Int):List ZF×Int:=ks.foldl (fun s k=>(putP s.1 k s.2,s.2+1)) (l,n)
def putsL (l:List ZF) (n:Int) (ks:List Int):List ZF:=(putsS l n ks).1
theorem Zpn (l:List ZF) (n:Int) (ks:List Int):(putsS l n ks).2=n+ks.length:=by
 have key:∀ (ks:List Int) (s:List ZF×Int),(ks.foldl (fun s k=>(putP s.1 k s.2,s.2+1)) s).2=s.2+ks.length:=by
  intro ks
  induction ks with
  | nil=>intro s;simp
  | cons k ks ih=>intro s;rw [Yaw,ih,Yl];show s.2+1+_=_;omega
 exact key ks (l,n)
theorem Zij (l:List ZF) (n:Int) (ks:List Int) (k:Int):putsL l n (ks ++ [k])=putP (putsL l n ks) k (n+ks.length):=by
 have h:=Zpn l n ks
 unfold putsL putsS at *
 rw [YaO,Yaw,List.foldl_nil,h]
theorem Zoz {l:List ZF} {n:Int} (h:Inc l) (ks:List Int):Inc (putsL l n ks):=by
 have key:∀ (ks:List Int) (s:List ZF×Int),Inc s.1→Inc (ks.foldl (fun s k=>(putP s.1 k s.2,s.2+1)) s).1:=by
  intro ks
  induction ks with
  | nil=>intro s h;exact h
  | cons k ks ih=>intro s h;exact ih _ (putP_inc h)
 exact key ks (l,n) h
theorem ZpN {l:List ZF} {n:Int} {ks:List Int} (hn:ks.Nodup):∀ (i:Nat),i≤ks.length → ∀ p,p ∈ putsL l n (ks.take i) ↔ (p ∈ l∧p.key ∉ ks.take i) ∨ ∃ j:Nat,j<i∧p = ⟨Nn ks j,n+j⟩:=by
 intro i
 induction i with
 | zero=>intro _ p;simp [putsL,putsS]
 | succ i ih=>
  intro hi p
  have hil:i<ks.length:=by omega
  rw [ZQ hil,Zij,Zfi,ih ow,YB,Yn,Yk,Y7 ow]
  have hne:∀ j,j<i→Nn ks j≠Nn ks i:=fun j hj e=>by
   rw [Zy ow,Zy hil] at e
   exact (Y2.1 (List.nodup_iff_pairwise_ne.1 hn)) j i ow hil hj e
  constructor
  ·rintro (⟨⟨h1,h2⟩ | ⟨j,h1,rfl⟩,h3⟩ | rfl)
   ·exact .inl ⟨h1,fun h=>h.elim h2 h3⟩
   ·exact .inr ⟨j,by omega,rfl⟩
   ·exact .inr ⟨i,by omega,rfl⟩
  ·rintro (⟨h1,h2⟩ | ⟨j,h1,rfl⟩)
   ·exact .inl ⟨.inl ⟨h1,fun h=>h2 (.inl h)⟩,fun h=>h2 (.inr h)⟩
   ·by_cases h:j=i
    ·subst h;exact .inr rfl
    ·exact .inl ⟨.inr ⟨j,by omega,rfl⟩,hne j ow⟩
theorem Zj4 {α:Type} [Inhabited α] [DecidableEq α] {κ:α→Int} {f:ZF→α} {l:List ZF} (hi:Inc l) (hk:∀ p ∈ l,κ (f p)=p.key) {was now:List α} {n:Int} (hf:∀ j:Nat,j<now.length→f ⟨κ (Nn now j),n+j⟩ = Nn now j) (hn:Z5 κ now) (hfit:Zbj κ (l.map f) was now=true) :
  (putsL (Zdm l (was.map κ)) n (now.map κ)).map f=Zev κ (l.map f) was now:=by
 have hnd:(now.map κ).Nodup:=by
  rw [List.nodup_iff_pairwise_ne,YaP]
  exact List.Pairwise.imp (fun h=>by omega) hn
 have hmem:=fun p=>ZpN (l:=Zdm l (was.map κ)) (n:=n) hnd (now.map κ).length (YA _) p
 rw [YE] at hmem
 have hrl:Z5 κ (l.map f):=by
  unfold Z5
  rw [YaP]
  refine List.Pairwise.imp_of_mem (fun ha hb h=>?_) hi
  rw [hk _ ha,hk _ hb];exact h
 have hnth:∀ j,j<now.length→Nn (now.map κ) j=κ (Nn now j):=fun j hj=>by
  rw [Zy (by simpa using hj),Zy hj,Yan]
 have hkey:∀ p ∈ putsL (Zdm l (was.map κ)) n (now.map κ),κ (f p)=p.key:=fun p hp=>by
  rcases (hmem p).1 hp with ⟨h1,_⟩ | ⟨j,h1,rfl⟩
  ·exact hk p (Zdq.1 h1).1
  ·have hj:j<now.length:=by simpa using h1
   rw [hnth j hj,hf j hj]
 refine Zfc ?_ (Zkr hrl.unl hn.unl hfit) fun x=>?_
 ·unfold Z5
  rw [YaP]
  refine List.Pairwise.imp_of_mem (fun ha hb h=>?_) (Zoz (Zj5 hi) _)
  rw [hkey _ ha,hkey _ hb];exact h
 ·rw [Zd5,YC]
  constructor
  ·rintro ⟨p,hp,rfl⟩
   rcases (hmem p).1 hp with ⟨h1,h2⟩ | ⟨j,h1,rfl⟩
   ·obtain ⟨h3,h4⟩:=Zdq.1 h1
    refine .inl ⟨YC.2 ⟨p,h3,rfl⟩,fun y hy e=>h4 (YC.2 ⟨y,hy,?_⟩)⟩
    rw [e,hk p h3]
   ·have hj:j<now.length:=by simpa using h1
    rw [hnth j hj,hf j hj]
    exact .inr (ZU hj)
  ·rintro (⟨h1,h2⟩ | h1)
   ·obtain ⟨p,hp,rfl⟩:=YC.1 h1
    have hw:p.key ∉ was.map κ:=fun h=>by
     obtain ⟨y,hy,e⟩:=YC.1 h
     exact h2 y hy (by rw [e,hk p hp])
    refine ⟨p,(hmem p).2 (.inl ⟨Zdq.2 ⟨hp,hw⟩,fun h=>?_⟩),rfl⟩
    obtain ⟨y,hy,e⟩:=YC.1 h
    unfold Zbj at hfit
    rw [Yv,Yau] at hfit
    have h3:=hfit.2 y hy
    have h4:(ZL κ (l.map f) (κ y)).isSome=true:=ZdW.2 ⟨f p,h1,by rw [hk p hp,e]⟩
    have h5:(ZL κ was (κ y)).isSome=false:=by
     cases e2:(ZL κ was (κ y)).isSome with
     | false=>rfl
     | true=>
      obtain ⟨z,hz,ez⟩:=ZdW.1 e2
      exact absurd (YC.2 ⟨z,hz,ez.trans e⟩) hw
    rw [h4,h5] at h3
    cases h3
   ·obtain ⟨j,hj,rfl⟩:=YH h1
    have e:Nn now j=now[j]:=Zy hj
    refine ⟨⟨Nn (now.map κ) j,n+j⟩,(hmem _).2 (.inr ⟨j,by simpa using hj,rfl⟩),?_⟩
    rw [hnth j hj,hf j hj,e]
theorem Zs7 (b:Nat) {q:List Cell} {root:Int} {t:Zae} {l:List ZF} (k v:Int) (ht:ZcN q t root) (hl:tList t=l) (hs:l.length<1000000) (hr:q.length+3*(Zm t+1)≤65536) :
  ∃ (e:List Cell) (r:Int),FnG prog 119 1 [.agg [.is (arV (some b)),.int .i64 root],.int .i64 k,.int .i64 v] [arH (some b) 65536 q] (.tup [.agg [.is (arV (some b)),.int .i64 r],.int .i64 0]) (fun _=>[arH (some b) 65536 (q++e)])∧Zjr (q++e) r (putP l k v):=by
 have hz:=ZS t
 rw [hl] at hz
 rcases ht.put (room:=65536) k v ow with ⟨e,r,h1,h2,h3⟩ | ⟨_,h3⟩
 ·have:=ZtA (some b) 65536 q root k v t ht.rep
  rw [h1] at this
  exact ⟨e,r,this,_,h2,by rw [Zff _ ht.inc,hl]⟩
 ·omega
theorem ZsS (b:Nat) {q:List Cell} {root:Int} {t:Zae} {l:List ZF} (k:Int) (ht:ZcN q t root) (hl:tList t=l) (hs:l.length<1000000) (hr:q.length+3*(Zm t+1)≤65536) (hk:(getL k l).2=true) :
  ∃ (e:List Cell) (r:Int),FnG prog 118 1 [.agg [.is (arV (some b)),.int .i64 root],.int .i64 k] [arH (some b) 65536 q] (.tup [.agg [.is (arV (some b)),.int .i64 r],.int .i64 0]) (fun _=>[arH (some b) 65536 (q++e)])∧Zjr (q++e) r (delP l k):=by
 have hz:=ZS t
 rw [hl] at hz
 rcases ht.del (room:=65536) k ow with ⟨h1,_⟩ | ⟨_,⟨e,r,h1,h2,h3⟩ | ⟨_,h3⟩⟩
 ·rw [ZdV k ht.inc,hl] at h1;exact absurd hk h1
 ·have:=Ztt (some b) 65536 q root k t ht.rep
  rw [h1] at this
  exact ⟨e,r,this,_,h2,by rw [ZeF _ ht.inc,hl]⟩
 ·omega
theorem Zan.app {A:StA} {ex:List RtA} {s:StC} (h:Zan A ex s) (e:List Cell):Zan A ex ⟨s.b,s.q++e,s.c,s.cs,s.ck,s.mv,s.alv,s.sqv,s.sr⟩:=
 ⟨h.now.app,h.keys,fun x hx=>by obtain ⟨c,hc,hr⟩:=h.snaps x hx;exact ⟨c,hc,hr.app⟩,h.len,fun i hi hl=>⟨(h.seqs i hi hl).1,(h.seqs i hi hl).2.app⟩⟩
theorem Zan.exMono {A:StA} {ex ex':List RtA} {s:StC} (h:Zan A ex s) (hm:∀ i:Nat,Zcw (rootsA A++ex') A.seqs.length i→Zcw (rootsA A++ex) A.seqs.length i):Zan A ex' s:=⟨h.now,h.keys,h.snaps,h.len,fun i hi hl=>h.seqs i hi (hm i hl)⟩
theorem Zje {A:StA} {r r':RtA} {i:Nat} (hp:∀ p ∈ r'.orders,p ∈ r.orders∨p.val+1=A.seqs.length) (h:Zcw (rootsA A ++ [r']) A.seqs.length i):Zcw (rootsA A ++ [r]) A.seqs.length i:=by
 rcases h with ⟨r1,hr1,p,hpm,e⟩ | h
 ·rcases YB.1 hr1 with h1 | h1
  ·exact .inl ⟨r1,Yas _ h1,p,hpm,e⟩
  ·rw [Yn] at h1
   subst h1
   rcases hp p hpm with h2 | h2
   ·exact .inl ⟨r,by simp,p,h2,e⟩
   ·exact .inr ow
 ·exact .inr h
def Zbs (v w:Value) (A:StA) (r:RtA):HP:=.ex fun x:StC×RtC=>.and (Zan A [r] x.1∧Zb7 x.1.q (arV (some x.1.b)) x.2 r) (.star (ZbK v w A x.1 x.2))
theorem ZbV.treeT {A:StA} {r:RtA} {s:StC} {c:RtC} {t0:Zae} {x:StC×RtC} (h:ZbV A r s c (3*(Zm t0+1)) x) (h0:ZcN s.q t0 c.tr) (hl:tList t0=r.txs) (hs:r.txs.length<1000000):∃ t1,ZcN x.1.q t1 x.2.tr∧tList t1=r.txs∧x.1.q.length+3*(Zm t1+1)≤65536:=by
 rcases h.room with ⟨e,h1⟩ | h1
 ·subst e;exact ⟨t0,h0,hl,h1⟩
 ·obtain ⟨t1,h2,h3⟩:=h.rt.t
  have hz:=ZS t1
  rw [h3] at hz
  have:=h2.high ow
  exact ⟨t1,h2,h3,by omega⟩
theorem ZbV.treeO {A:StA} {r:RtA} {s:StC} {c:RtC} {t0:Zae} {x:StC×RtC} (h:ZbV A r s c (3*(Zm t0+1)) x) (h0:ZcN s.q t0 c.or) (hl:tList t0=r.orders) (hs:r.orders.length<1000000):∃ t1,ZcN x.1.q t1 x.2.or∧tList t1=r.orders∧x.1.q.length+3*(Zm t1+1)≤65536:=by
 rcases h.room with ⟨e,h1⟩ | h1
 ·subst e;exact ⟨t0,h0,hl,h1⟩
 ·obtain ⟨t1,h2,h3⟩:=h.rt.o
  have hz:=ZS t1
  rw [h3] at hz
  have:=h2.high ow
  exact ⟨t1,h2,h3,by omega⟩
theorem Zgh (o:Option Nat) (room:Int) (q:List Cell) (root:Int) (t:Zae) (hr:Rep id q t root):FnG prog 117 1 [.agg [.is (arV o),.int .i64 root]] [arH o room q] (.int .i64 (Zm t)) (fun _=>[arH o room q]):=by
 have:=Zr7 o room q root
 rwa [hr.high] at this
theorem Zqg (b wb:Nat) (A:StA) (hok:ZaJ A) (hfit:Zb1 A) (r:RtA) (hrok:Zlh A.all A.seqs r) (hrz:sizeH (Za4 A.all A.seqs r)≤40000) (n at9:Int):FnG prog 63 1 [.is (.pointer (some ⟨b,0,none⟩)),.is (.pointer (some ⟨wb,0,none⟩)),.is (shift 0 (.pointer (some ⟨wb,0,none⟩))),.int .i64 n,.int .i64 at9] [Zbs (.pointer (some ⟨b,0,none⟩)) (.pointer (some ⟨wb,0,none⟩)) A r] (.tup []) (fun _=>[Zbs (.pointer (some ⟨b,0,none⟩)) (.pointer (some ⟨wb,0,none⟩)) A (⟨putP r.txs n at9,r.orders,r.size⟩:RtA)]):=by
 refine FnG.mk func63 Z ntmps63 Z kr fun B F0 a w F V hG O=>?_
 replace O:=O.ent (i:=2) (s':=.adr (.val (.pointer (some ⟨wb,0,none⟩))) 0) Z Ent.kAdr
 obtain ⟨⟨sc,c⟩,O⟩:=O.open_ex 1 rfl
 obtain ⟨⟨hk,hr⟩,O⟩:=O.open_and 1 rfl
 obtain ⟨F,O⟩:=O.peel 1 2 Z rfl
 obtain ⟨F,O⟩:=O.peel 1 3 Z rfl
 obtain ⟨F,O⟩:=O.peel 1 4 Z rfl
 obtain ⟨F,O⟩:=O.peel 1 5 Z rfl
 obtain ⟨F,O⟩:=O.peel 1 6 Z rfl
 obtain ⟨F,O⟩:=O.peel 1 7 Z rfl
 try dsimp only at O
 dsimp only at hk hr
 obtain ⟨F,O⟩:=O.nM [4,3,2,1,0] [7,6,5,4,3,2,0]
 have hrl:=Zco A.all A.seqs r
 obtain ⟨t0,ht0,hl0⟩:=hr.t
 have hz0:=ZS t0
 rw [hl0] at hz0
 have hh0:=ht0.high ow
 refine Ya (Zbo 8 O kr (cG Z (oM .t) r1 trivial (cG Z (oM .t) r1 trivial (cG Z (oM .t) r1 trivial (cG Z (o_nilCheck 7 .adr (by rfl)) r1 r1 (cG Z (oL true 2 7 .adr) r1 r1 (cG Z (o_callG1 3 (Zgh (some sc.b) 65536 sc.q c.tr t0 ht0.rep) func117 Z kr (Args.one (.pagg .t))) r1 r1 (cG Z (o_add .t (.ci kr)) r1 trivial (cG Z (Zf4 (.ci kr) .t) r1 trivial Zaz.nil)))))))) kr (by rw [V];kernel_rfl) fun a w F O=>?_)
 obtain ⟨F,O⟩:=O.nM [17,11,10,4,3,2] [7,6,5,4,3,2,0]
 try dsimp only [List.map,xD,xE,xT,xU,ldSF,rRt,rSq,ZC,rTx,Zv,Zl,Zs,rOp] at O
 have hwn:IntKind.wrap .i64 (3*IntKind.wrap .i64 (Zm t0+1))=3*(Zm t0+1):=by rw [Zj (x:=Zm t0+1) ow,Zj ow]
 rw [hwn] at O
 replace O:=O.fresh 9 rfl
 obtain ⟨F,O⟩:=O.push 9 7 Z Z Z kr
 obtain ⟨F,O⟩:=O.push 9 6 Z Z Z kr
 obtain ⟨F,O⟩:=O.push 9 5 Z Z Z kr
 obtain ⟨F,O⟩:=O.push 9 4 Z Z Z kr
 obtain ⟨F,O⟩:=O.push 9 3 Z Z Z kr
 obtain ⟨F,O⟩:=O.push 9 2 Z Z Z kr
 replace O:=O.turn 9 Z (r':=RS.hp (.star (ZbK (.pointer (some ⟨b,0,none⟩)) (.pointer (some ⟨wb,0,none⟩)) A sc c))) (fun _ _ _ _ h=>h)
 obtain ⟨F,O⟩:=O.nM [17,11,10,4,3,2] [9,0]
 refine ZbZ O kr (cG Z (o_callG1 9 (Zfa b wb A hok hfit r hrok hrz sc c (3*(Zm t0+1)) hk hr ow) func64 Z kr (Args.three .t .t .t)) r3 r1 Zaz.nil) kr (by rw [V];kernel_rfl) fun a w F O=>?_
 obtain ⟨F,O⟩:=O.nM [4,3,2] [9,0]
 try dsimp only [rRt,rSq,ZC,rTx,Zv,Zl,Zs,rOp] at O
 obtain ⟨⟨s2,c2⟩,O⟩:=O.open_ex 9 rfl
 obtain ⟨hp2,O⟩:=O.open_and 9 rfl
 obtain ⟨F,O⟩:=O.peel 9 2 Z rfl
 obtain ⟨F,O⟩:=O.peel 9 3 Z rfl
 obtain ⟨F,O⟩:=O.peel 9 4 Z rfl
 obtain ⟨F,O⟩:=O.peel 9 5 Z rfl
 obtain ⟨F,O⟩:=O.peel 9 6 Z rfl
 obtain ⟨F,O⟩:=O.peel 9 7 Z rfl
 try dsimp only at O
 obtain ⟨F,O⟩:=O.nM [4,3,2] [7,6,5,4,3,2,0]
 obtain ⟨t1,ht1,hl1,hrm1⟩:=hp2.treeT ht0 hl0 ow
 obtain ⟨e1,ro1,hM1,hR1⟩:=Zs7 s2.b n at9 ht1 hl1 ow hrm1
 refine Za (Zh O (qR rr (qR rr (qf (o_nilCheck 7 .adr (by rfl)) r1 r1 (qf (oL true 2 7 .adr) r1 r1 (qR rr (qR rr (qf (o_callG1 3 (hM1) func119 Z kr (Args.three (.pagg .t) .t .t)) r3 r1 (qR rr (qf (o_extract .t Z) r1 qz (qf (o_extract .t Z) r1 qz (qf (o_nilCheck 7 .adr (by rfl)) r1 r1 (qf (oA 2 7 .adr (.conv .t .agg)) r2 r1 qZ)))))))))))) V [] [7,6,5,4,3,2,0] Z Z fun a w F O=>?_)
 have O:=O.fresh 1 rfl
 obtain ⟨F,O⟩:=O.push 1 7 Z Z Z kr
 obtain ⟨F,O⟩:=O.push 1 6 Z Z Z kr
 obtain ⟨F,O⟩:=O.push 1 5 Z Z Z kr
 obtain ⟨F,O⟩:=O.push 1 4 Z Z Z kr
 obtain ⟨F,O⟩:=O.push 1 3 Z Z Z kr
 obtain ⟨F,O⟩:=O.push 1 2 Z Z Z kr
 have O:=O.turn 1 Z (r':=RS.hp (Zbs (.pointer (some ⟨b,0,none⟩)) (.pointer (some ⟨wb,0,none⟩)) A (⟨putP r.txs n at9,r.orders,r.size⟩:RtA))) (fun _ _ _ _ h=>⟨((⟨s2.b,s2.q++e1,s2.c,s2.cs,s2.ck,s2.mv,s2.alv,s2.sqv,s2.sr⟩:StC),(⟨arV (some s2.b),ro1,c2.or,c2.size⟩:RtC)),⟨(hp2.rep.app e1).exMono (fun i h=>Zje (r:=r) (r':=(⟨putP r.txs n at9,r.orders,r.size⟩:RtA)) (fun p hp=>.inl hp) h),⟨rfl,hR1,hp2.rt.o.app,hp2.rt.s⟩⟩,h⟩)
 obtain ⟨F,O⟩:=O.nM [] [1,0]
 refine ZE hG O Z .nil .none rfl
theorem Zrq (b wb:Nat) (A:StA) (hok:ZaJ A) (hfit:Zb1 A) (r:RtA) (hrok:Zlh A.all A.seqs r) (hrz:sizeH (Za4 A.all A.seqs r)≤40000) (n at9:Int) (hat:at9+1=A.seqs.length):FnG prog 63 1 [.is (.pointer (some ⟨b,0,none⟩)),.is (.pointer (some ⟨wb,0,none⟩)),.is (shift 2 (.pointer (some ⟨wb,0,none⟩))),.int .i64 n,.int .i64 at9] [Zbs (.pointer (some ⟨b,0,none⟩)) (.pointer (some ⟨wb,0,none⟩)) A r] (.tup []) (fun _=>[Zbs (.pointer (some ⟨b,0,none⟩)) (.pointer (some ⟨wb,0,none⟩)) A (⟨r.txs,putP r.orders n at9,r.size⟩:RtA)]):=by
 refine FnG.mk func63 Z ntmps63 Z kr fun B F0 a w F V hG O=>?_
 replace O:=O.ent (i:=2) (s':=.adr (.val (.pointer (some ⟨wb,0,none⟩))) 2) Z Ent.kAdr
 obtain ⟨⟨sc,c⟩,O⟩:=O.open_ex 1 rfl
 obtain ⟨⟨hk,hr⟩,O⟩:=O.open_and 1 rfl
 obtain ⟨F,O⟩:=O.peel 1 2 Z rfl
 obtain ⟨F,O⟩:=O.peel 1 3 Z rfl
 obtain ⟨F,O⟩:=O.peel 1 4 Z rfl
 obtain ⟨F,O⟩:=O.peel 1 5 Z rfl
 obtain ⟨F,O⟩:=O.peel 1 6 Z rfl
 obtain ⟨F,O⟩:=O.peel 1 7 Z rfl
 try dsimp only at O
 dsimp only at hk hr
 obtain ⟨F,O⟩:=O.nM [4,3,2,1,0] [7,6,5,4,3,2,0]
 have hrl:=Zco A.all A.seqs r
 obtain ⟨t0,ht0,hl0⟩:=hr.o
 have hz0:=ZS t0
 rw [hl0] at hz0
 have hh0:=ht0.high ow
 refine Ya (Zbo 8 O kr (cG Z (oM .t) r1 trivial (cG Z (oM .t) r1 trivial (cG Z (oM .t) r1 trivial (cG Z (o_nilCheck 7 .adr (by rfl)) r1 r1 (cG Z (oL true 2 7 .adr) r1 r1 (cG Z (o_callG1 3 (Zgh (some sc.b) 65536 sc.q c.or t0 ht0.rep) func117 Z kr (Args.one (.pagg .t))) r1 r1 (cG Z (o_add .t (.ci kr)) r1 trivial (cG Z (Zf4 (.ci kr) .t) r1 trivial Zaz.nil)))))))) kr (by rw [V];kernel_rfl) fun a w F O=>?_)
 obtain ⟨F,O⟩:=O.nM [17,11,10,4,3,2] [7,6,5,4,3,2,0]
 try dsimp only [List.map,xD,xE,xT,xU,ldSF,rRt,rSq,ZC,rTx,Zv,Zl,Zs,rOp] at O
 have hwn:IntKind.wrap .i64 (3*IntKind.wrap .i64 (Zm t0+1))=3*(Zm t0+1):=by rw [Zj (x:=Zm t0+1) ow,Zj ow]
 rw [hwn] at O
 replace O:=O.fresh 9 rfl
 obtain ⟨F,O⟩:=O.push 9 7 Z Z Z kr
 obtain ⟨F,O⟩:=O.push 9 6 Z Z Z kr
 obtain ⟨F,O⟩:=O.push 9 5 Z Z Z kr
 obtain ⟨F,O⟩:=O.push 9 4 Z Z Z kr
 obtain ⟨F,O⟩:=O.push 9 3 Z Z Z kr
 obtain ⟨F,O⟩:=O.push 9 2 Z Z Z kr
 replace O:=O.turn 9 Z (r':=RS.hp (.star (ZbK (.pointer (some ⟨b,0,none⟩)) (.pointer (some ⟨wb,0,none⟩)) A sc c))) (fun _ _ _ _ h=>h)
 obtain ⟨F,O⟩:=O.nM [17,11,10,4,3,2] [9,0]
 refine ZbZ O kr (cG Z (o_callG1 9 (Zfa b wb A hok hfit r hrok hrz sc c (3*(Zm t0+1)) hk hr ow) func64 Z kr (Args.three .t .t .t)) r3 r1 Zaz.nil) kr (by rw [V];kernel_rfl) fun a w F O=>?_
 obtain ⟨F,O⟩:=O.nM [4,3,2] [9,0]
 try dsimp only [rRt,rSq,ZC,rTx,Zv,Zl,Zs,rOp] at O
 obtain ⟨⟨s2,c2⟩,O⟩:=O.open_ex 9 rfl
 obtain ⟨hp2,O⟩:=O.open_and 9 rfl
 obtain ⟨F,O⟩:=O.peel 9 2 Z rfl
 obtain ⟨F,O⟩:=O.peel 9 3 Z rfl
 obtain ⟨F,O⟩:=O.peel 9 4 Z rfl
 obtain ⟨F,O⟩:=O.peel 9 5 Z rfl
 obtain ⟨F,O⟩:=O.peel 9 6 Z rfl
 obtain ⟨F,O⟩:=O.peel 9 7 Z rfl
 try dsimp only at O
 obtain ⟨F,O⟩:=O.nM [4,3,2] [7,6,5,4,3,2,0]
 obtain ⟨t1,ht1,hl1,hrm1⟩:=hp2.treeO ht0 hl0 ow
 obtain ⟨e1,ro1,hM1,hR1⟩:=Zs7 s2.b n at9 ht1 hl1 ow hrm1
 refine Za (Zh O (qR rr (qR rr (qf (o_nilCheck 7 .adr (by rfl)) r1 r1 (qf (oL true 2 7 .adr) r1 r1 (qR rr (qR rr (qf (o_callG1 3 (hM1) func119 Z kr (Args.three (.pagg .t) .t .t)) r3 r1 (qR rr (qf (o_extract .t Z) r1 qz (qf (o_extract .t Z) r1 qz (qf (o_nilCheck 7 .adr (by rfl)) r1 r1 (qf (oA 2 7 .adr (.conv .t .agg)) r2 r1 qZ)))))))))))) V [] [7,6,5,4,3,2,0] Z Z fun a w F O=>?_)
 have O:=O.fresh 1 rfl
 obtain ⟨F,O⟩:=O.push 1 7 Z Z Z kr
 obtain ⟨F,O⟩:=O.push 1 6 Z Z Z kr
 obtain ⟨F,O⟩:=O.push 1 5 Z Z Z kr
 obtain ⟨F,O⟩:=O.push 1 4 Z Z Z kr
 obtain ⟨F,O⟩:=O.push 1 3 Z Z Z kr
 obtain ⟨F,O⟩:=O.push 1 2 Z Z Z kr
 have O:=O.turn 1 Z (r':=RS.hp (Zbs (.pointer (some ⟨b,0,none⟩)) (.pointer (some ⟨wb,0,none⟩)) A (⟨r.txs,putP r.orders n at9,r.size⟩:RtA))) (fun _ _ _ _ h=>⟨((⟨s2.b,s2.q++e1,s2.c,s2.cs,s2.ck,s2.mv,s2.alv,s2.sqv,s2.sr⟩:StC),(⟨arV (some s2.b),c2.tr,ro1,c2.size⟩:RtC)),⟨(hp2.rep.app e1).exMono (fun i h=>Zje (r:=r) (r':=(⟨r.txs,putP r.orders n at9,r.size⟩:RtA)) (fun p hp=>by rcases Zfi.1 hp with h1 | h1;exact .inl h1.1;subst h1;exact .inr hat) h),⟨rfl,hp2.rt.t.app,hR1,hp2.rt.s⟩⟩,h⟩)
 obtain ⟨F,O⟩:=O.nM [] [1,0]
 refine ZE hG O Z .nil .none rfl
theorem Zom (b wb:Nat) (A:StA) (hok:ZaJ A) (hfit:Zb1 A) (r:RtA) (hrok:Zlh A.all A.seqs r) (hrz:sizeH (Za4 A.all A.seqs r)≤40000) (n:Int) (hit:(getL n r.txs).2=true):FnG prog 62 1 [.is (.pointer (some ⟨b,0,none⟩)),.is (.pointer (some ⟨wb,0,none⟩)),.is (shift 0 (.pointer (some ⟨wb,0,none⟩))),.int .i64 n] [Zbs (.pointer (some ⟨b,0,none⟩)) (.pointer (some ⟨wb,0,none⟩)) A r] (.tup []) (fun _=>[Zbs (.pointer (some ⟨b,0,none⟩)) (.pointer (some ⟨wb,0,none⟩)) A (⟨delP r.txs n,r.orders,r.size⟩:RtA)]):=by
 refine FnG.mk func62 Z ntmps62 Z kr fun B F0 a w F V hG O=>?_
 replace O:=O.ent (i:=2) (s':=.adr (.val (.pointer (some ⟨wb,0,none⟩))) 0) Z Ent.kAdr
 obtain ⟨⟨sc,c⟩,O⟩:=O.open_ex 1 rfl
 obtain ⟨⟨hk,hr⟩,O⟩:=O.open_and 1 rfl
 obtain ⟨F,O⟩:=O.peel 1 2 Z rfl
 obtain ⟨F,O⟩:=O.peel 1 3 Z rfl
 obtain ⟨F,O⟩:=O.peel 1 4 Z rfl
 obtain ⟨F,O⟩:=O.peel 1 5 Z rfl
 obtain ⟨F,O⟩:=O.peel 1 6 Z rfl
 obtain ⟨F,O⟩:=O.peel 1 7 Z rfl
 try dsimp only at O
 dsimp only at hk hr
 obtain ⟨F,O⟩:=O.nM [3,2,1,0] [7,6,5,4,3,2,0]
 have hrl:=Zco A.all A.seqs r
 obtain ⟨t0,ht0,hl0⟩:=hr.t
 have hz0:=ZS t0
 rw [hl0] at hz0
 have hh0:=ht0.high ow
 refine Ya (Zbo 8 O kr (cG Z (oM .t) r1 trivial (cG Z (oM .t) r1 trivial (cG Z (oM .t) r1 trivial (cG Z (o_nilCheck 7 .adr (by rfl)) r1 r1 (cG Z (oL true 2 7 .adr) r1 r1 (cG Z (o_callG1 3 (Zgh (some sc.b) 65536 sc.q c.tr t0 ht0.rep) func117 Z kr (Args.one (.pagg .t))) r1 r1 (cG Z (o_add .t (.ci kr)) r1 trivial (cG Z (Zf4 (.ci kr) .t) r1 trivial Zaz.nil)))))))) kr (by rw [V];kernel_rfl) fun a w F O=>?_)
 obtain ⟨F,O⟩:=O.nM [15,9,8,3,2] [7,6,5,4,3,2,0]
 try dsimp only [List.map,xD,xE,xT,xU,ldSF,rRt,rSq,ZC,rTx,Zv,Zl,Zs,rOp] at O
 have hwn:IntKind.wrap .i64 (3*IntKind.wrap .i64 (Zm t0+1))=3*(Zm t0+1):=by rw [Zj (x:=Zm t0+1) ow,Zj ow]
 rw [hwn] at O
 replace O:=O.fresh 9 rfl
 obtain ⟨F,O⟩:=O.push 9 7 Z Z Z kr
 obtain ⟨F,O⟩:=O.push 9 6 Z Z Z kr
 obtain ⟨F,O⟩:=O.push 9 5 Z Z Z kr
 obtain ⟨F,O⟩:=O.push 9 4 Z Z Z kr
 obtain ⟨F,O⟩:=O.push 9 3 Z Z Z kr
 obtain ⟨F,O⟩:=O.push 9 2 Z Z Z kr
 replace O:=O.turn 9 Z (r':=RS.hp (.star (ZbK (.pointer (some ⟨b,0,none⟩)) (.pointer (some ⟨wb,0,none⟩)) A sc c))) (fun _ _ _ _ h=>h)
 obtain ⟨F,O⟩:=O.nM [15,9,8,3,2] [9,0]
 refine ZbZ O kr (cG Z (o_callG1 9 (Zfa b wb A hok hfit r hrok hrz sc c (3*(Zm t0+1)) hk hr ow) func64 Z kr (Args.three .t .t .t)) r3 r1 Zaz.nil) kr (by rw [V];kernel_rfl) fun a w F O=>?_
 obtain ⟨F,O⟩:=O.nM [3,2] [9,0]
 try dsimp only [rRt,rSq,ZC,rTx,Zv,Zl,Zs,rOp] at O
 obtain ⟨⟨s2,c2⟩,O⟩:=O.open_ex 9 rfl
 obtain ⟨hp2,O⟩:=O.open_and 9 rfl
 obtain ⟨F,O⟩:=O.peel 9 2 Z rfl
 obtain ⟨F,O⟩:=O.peel 9 3 Z rfl
 obtain ⟨F,O⟩:=O.peel 9 4 Z rfl
 obtain ⟨F,O⟩:=O.peel 9 5 Z rfl
 obtain ⟨F,O⟩:=O.peel 9 6 Z rfl
 obtain ⟨F,O⟩:=O.peel 9 7 Z rfl
 try dsimp only at O
 obtain ⟨F,O⟩:=O.nM [3,2] [7,6,5,4,3,2,0]
 obtain ⟨t1,ht1,hl1,hrm1⟩:=hp2.treeT ht0 hl0 ow
 obtain ⟨e1,ro1,hM1,hR1⟩:=ZsS s2.b n ht1 hl1 ow hrm1 hit
 refine Za (Zh O (qR rr (qR rr (qf (o_nilCheck 7 .adr (by rfl)) r1 r1 (qf (oL true 2 7 .adr) r1 r1 (qR rr (qf (o_callG1 3 (hM1) func118 Z kr (Args.two (.pagg .t) .t)) r2 r1 (qR rr (qf (o_extract .t Z) r1 qz (qf (o_extract .t Z) r1 qz (qf (o_nilCheck 7 .adr (by rfl)) r1 r1 (qf (oA 2 7 .adr (.conv .t .agg)) r2 r1 qZ))))))))))) V [] [7,6,5,4,3,2,0] Z Z fun a w F O=>?_)
 have O:=O.fresh 1 rfl
 obtain ⟨F,O⟩:=O.push 1 7 Z Z Z kr
 obtain ⟨F,O⟩:=O.push 1 6 Z Z Z kr
 obtain ⟨F,O⟩:=O.push 1 5 Z Z Z kr
 obtain ⟨F,O⟩:=O.push 1 4 Z Z Z kr
 obtain ⟨F,O⟩:=O.push 1 3 Z Z Z kr
 obtain ⟨F,O⟩:=O.push 1 2 Z Z Z kr
 have O:=O.turn 1 Z (r':=RS.hp (Zbs (.pointer (some ⟨b,0,none⟩)) (.pointer (some ⟨wb,0,none⟩)) A (⟨delP r.txs n,r.orders,r.size⟩:RtA))) (fun _ _ _ _ h=>⟨((⟨s2.b,s2.q++e1,s2.c,s2.cs,s2.ck,s2.mv,s2.alv,s2.sqv,s2.sr⟩:StC),(⟨arV (some s2.b),ro1,c2.or,c2.size⟩:RtC)),⟨(hp2.rep.app e1).exMono (fun i h=>Zje (r:=r) (r':=(⟨delP r.txs n,r.orders,r.size⟩:RtA)) (fun p hp=>.inl hp) h),⟨rfl,hR1,hp2.rt.o.app,hp2.rt.s⟩⟩,h⟩)
 obtain ⟨F,O⟩:=O.nM [] [1,0]
 refine ZE hG O Z .nil .none rfl
theorem Zp5 (b wb:Nat) (A:StA) (hok:ZaJ A) (hfit:Zb1 A) (r:RtA) (hrok:Zlh A.all A.seqs r) (hrz:sizeH (Za4 A.all A.seqs r)≤40000) (n:Int) (hit:(getL n r.orders).2=true):FnG prog 62 1 [.is (.pointer (some ⟨b,0,none⟩)),.is (.pointer (some ⟨wb,0,none⟩)),.is (shift 2 (.pointer (some ⟨wb,0,none⟩))),.int .i64 n] [Zbs (.pointer (some ⟨b,0,none⟩)) (.pointer (some ⟨wb,0,none⟩)) A r] (.tup []) (fun _=>[Zbs (.pointer (some ⟨b,0,none⟩)) (.pointer (some ⟨wb,0,none⟩)) A (⟨r.txs,delP r.orders n,r.size⟩:RtA)]):=by
 refine FnG.mk func62 Z ntmps62 Z kr fun B F0 a w F V hG O=>?_
 replace O:=O.ent (i:=2) (s':=.adr (.val (.pointer (some ⟨wb,0,none⟩))) 2) Z Ent.kAdr
 obtain ⟨⟨sc,c⟩,O⟩:=O.open_ex 1 rfl
 obtain ⟨⟨hk,hr⟩,O⟩:=O.open_and 1 rfl
 obtain ⟨F,O⟩:=O.peel 1 2 Z rfl
 obtain ⟨F,O⟩:=O.peel 1 3 Z rfl
 obtain ⟨F,O⟩:=O.peel 1 4 Z rfl
 obtain ⟨F,O⟩:=O.peel 1 5 Z rfl
 obtain ⟨F,O⟩:=O.peel 1 6 Z rfl
 obtain ⟨F,O⟩:=O.peel 1 7 Z rfl
 try dsimp only at O
 dsimp only at hk hr
 obtain ⟨F,O⟩:=O.nM [3,2,1,0] [7,6,5,4,3,2,0]
 have hrl:=Zco A.all A.seqs r
 obtain ⟨t0,ht0,hl0⟩:=hr.o
 have hz0:=ZS t0
 rw [hl0] at hz0
 have hh0:=ht0.high ow
 refine Ya (Zbo 8 O kr (cG Z (oM .t) r1 trivial (cG Z (oM .t) r1 trivial (cG Z (oM .t) r1 trivial (cG Z (o_nilCheck 7 .adr (by rfl)) r1 r1 (cG Z (oL true 2 7 .adr) r1 r1 (cG Z (o_callG1 3 (Zgh (some sc.b) 65536 sc.q c.or t0 ht0.rep) func117 Z kr (Args.one (.pagg .t))) r1 r1 (cG Z (o_add .t (.ci kr)) r1 trivial (cG Z (Zf4 (.ci kr) .t) r1 trivial Zaz.nil)))))))) kr (by rw [V];kernel_rfl) fun a w F O=>?_)
 obtain ⟨F,O⟩:=O.nM [15,9,8,3,2] [7,6,5,4,3,2,0]
 try dsimp only [List.map,xD,xE,xT,xU,ldSF,rRt,rSq,ZC,rTx,Zv,Zl,Zs,rOp] at O
 have hwn:IntKind.wrap .i64 (3*IntKind.wrap .i64 (Zm t0+1))=3*(Zm t0+1):=by rw [Zj (x:=Zm t0+1) ow,Zj ow]
 rw [hwn] at O
 replace O:=O.fresh 9 rfl
 obtain ⟨F,O⟩:=O.push 9 7 Z Z Z kr
 obtain ⟨F,O⟩:=O.push 9 6 Z Z Z kr
 obtain ⟨F,O⟩:=O.push 9 5 Z Z Z kr
 obtain ⟨F,O⟩:=O.push 9 4 Z Z Z kr
 obtain ⟨F,O⟩:=O.push 9 3 Z Z Z kr
 obtain ⟨F,O⟩:=O.push 9 2 Z Z Z kr
 replace O:=O.turn 9 Z (r':=RS.hp (.star (ZbK (.pointer (some ⟨b,0,none⟩)) (.pointer (some ⟨wb,0,none⟩)) A sc c))) (fun _ _ _ _ h=>h)
 obtain ⟨F,O⟩:=O.nM [15,9,8,3,2] [9,0]
 refine ZbZ O kr (cG Z (o_callG1 9 (Zfa b wb A hok hfit r hrok hrz sc c (3*(Zm t0+1)) hk hr ow) func64 Z kr (Args.three .t .t .t)) r3 r1 Zaz.nil) kr (by rw [V];kernel_rfl) fun a w F O=>?_
 obtain ⟨F,O⟩:=O.nM [3,2] [9,0]
 try dsimp only [rRt,rSq,ZC,rTx,Zv,Zl,Zs,rOp] at O
 obtain ⟨⟨s2,c2⟩,O⟩:=O.open_ex 9 rfl
 obtain ⟨hp2,O⟩:=O.open_and 9 rfl
 obtain ⟨F,O⟩:=O.peel 9 2 Z rfl
 obtain ⟨F,O⟩:=O.peel 9 3 Z rfl
 obtain ⟨F,O⟩:=O.peel 9 4 Z rfl
 obtain ⟨F,O⟩:=O.peel 9 5 Z rfl
 obtain ⟨F,O⟩:=O.peel 9 6 Z rfl
 obtain ⟨F,O⟩:=O.peel 9 7 Z rfl
 try dsimp only at O
 obtain ⟨F,O⟩:=O.nM [3,2] [7,6,5,4,3,2,0]
 obtain ⟨t1,ht1,hl1,hrm1⟩:=hp2.treeO ht0 hl0 ow
 obtain ⟨e1,ro1,hM1,hR1⟩:=ZsS s2.b n ht1 hl1 ow hrm1 hit
 refine Za (Zh O (qR rr (qR rr (qf (o_nilCheck 7 .adr (by rfl)) r1 r1 (qf (oL true 2 7 .adr) r1 r1 (qR rr (qf (o_callG1 3 (hM1) func118 Z kr (Args.two (.pagg .t) .t)) r2 r1 (qR rr (qf (o_extract .t Z) r1 qz (qf (o_extract .t Z) r1 qz (qf (o_nilCheck 7 .adr (by rfl)) r1 r1 (qf (oA 2 7 .adr (.conv .t .agg)) r2 r1 qZ))))))))))) V [] [7,6,5,4,3,2,0] Z Z fun a w F O=>?_)
 have O:=O.fresh 1 rfl
 obtain ⟨F,O⟩:=O.push 1 7 Z Z Z kr
 obtain ⟨F,O⟩:=O.push 1 6 Z Z Z kr
 obtain ⟨F,O⟩:=O.push 1 5 Z Z Z kr
 obtain ⟨F,O⟩:=O.push 1 4 Z Z Z kr
 obtain ⟨F,O⟩:=O.push 1 3 Z Z Z kr
 obtain ⟨F,O⟩:=O.push 1 2 Z Z Z kr
 have O:=O.turn 1 Z (r':=RS.hp (Zbs (.pointer (some ⟨b,0,none⟩)) (.pointer (some ⟨wb,0,none⟩)) A (⟨r.txs,delP r.orders n,r.size⟩:RtA))) (fun _ _ _ _ h=>⟨((⟨s2.b,s2.q++e1,s2.c,s2.cs,s2.ck,s2.mv,s2.alv,s2.sqv,s2.sr⟩:StC),(⟨arV (some s2.b),c2.tr,ro1,c2.size⟩:RtC)),⟨(hp2.rep.app e1).exMono (fun i h=>Zje (r:=r) (r':=(⟨r.txs,delP r.orders n,r.size⟩:RtA)) (fun p hp=>.inl (Zfb.1 hp).1) h),⟨rfl,hp2.rt.t.app,hR1,hp2.rt.s⟩⟩,h⟩)
 obtain ⟨F,O⟩:=O.nM [] [1,0]
 refine ZE hG O Z .nil .none rfl
section
variable {P:Program} {ps:List (Nat×SF)}
theorem OpC.push {o:Oper} {q:SF} {pr:List (Nat×RS)} {qr:List (Nat×RS)} {n m:Nat} {r:RS} {rs:List RS} (h:OpC P o ⟨ps,(n,RS.hp (.star (r :: rs))) :: pr,q,qr⟩) (hd:r.deps = []) (hmn:m≠n) (hpm:∀ x ∈ pr,x.1≠m∧x.1≠n) (hqm:∀ x ∈ qr,x.1≠m) (hn:n ∈ qr.map (·.1)):OpC P o ⟨ps,(n,RS.hp (.star rs)) :: (m,r) :: pr,q,(m,RS.hp (.star [])) :: qr⟩:=fun a w F K Q hw hs hp ht=>by
 obtain ⟨G,hG⟩:∃ G:Fp,G=fun k b=>(k=n∧(F n b∨F m b))∨(k≠n∧k≠m∧F k b):=⟨_,rfl⟩
 have hGn:∀ b,G n b ↔ F n b∨F m b:=fun b=>by rw [hG];simp
 have hGm:∀ b,¬ G m b:=fun b=>by rw [hG];simp [hmn]
 have hGk:∀ k b,k≠n→k≠m→(G k b ↔ F k b):=fun k b h1 h2=>by rw [hG];simp [h1,h2]
 have hin:∀ k b,G k b → ∃ j,F j b∧(k=n∧(j=n∨j=m)∨k≠n∧k≠m∧j=k):=fun k b hk=>by
  rw [hG] at hk
  rcases hk with ⟨h1,h2 | h2⟩ | ⟨h1,h2,h3⟩
  ·exact ⟨n,h2,.inl ⟨h1,.inl rfl⟩⟩
  ·exact ⟨m,h2,.inl ⟨h1,.inr rfl⟩⟩
  ·exact ⟨k,h3,.inr ⟨h1,h2,rfl⟩⟩
 have hU:U G=U F:=by
  funext b
  refine propext ⟨fun ⟨k,hk⟩=>?_,fun ⟨k,hk⟩=>?_⟩
  ·obtain ⟨j,hj,_⟩:=hin k b hk
   exact ⟨j,hj⟩
  ·by_cases h1:k=n
   ·exact ⟨n,(hGn b).2 (.inl (h1 ▸ hk))⟩
   ·by_cases h2:k=m
    ·exact ⟨n,(hGn b).2 (.inr (h2 ▸ hk))⟩
    ·exact ⟨k,(hGk k b h1 h2).2 hk⟩
 have hw2:Wf G w:=by
  refine ⟨fun i j b hi hj=>?_,fun i b hi=>?_⟩
  ·obtain ⟨i2,h1,h2⟩:=hin i b hi
   obtain ⟨j2,h3,h4⟩:=hin j b hj
   have h5:=hw.dis i2 j2 b h1 h3
   omega
  ·obtain ⟨i2,h1,_⟩:=hin i b hi
   exact hw.bd i2 b h1
 refine h a w G K Q hw2 (by rw [hU];exact hs) (fun x hx=>?_) fun v w' F' h1 h2 h3 h4=>?_
 ·rw [hU]
  rcases Yo.1 hx with rfl | hx
  ·refine ⟨F m,F n,fun b=>(hGn b).trans Or.comm,fun b k1 k2=>hmn (hw.dis m n b k1 k2),hd,RS.closed hd (hp (m,r) (by simp)),hp (n,RS.hp (.star rs)) (by simp)⟩
  ·have h9:=hpm x hx
   have e:G x.1=F x.1:=by funext b;exact propext (hGk x.1 b h9.2 h9.1)
   rw [e];exact hp x (by simp [hx])
 ·have hmW:m ∉ qr.map (·.1):=fun hm=>by
   obtain ⟨x,hx,e⟩:=YC.1 hm
   exact hqm x hx e
  have hm0:F' m=G m:=h2.fkeep m hmW
  refine ht v w' F' h1 ⟨h2.os,h2.tape,h2.output,h2.size,fun b hb hn9=>h2.keep b hb fun k hk hGb=>?_,fun k hk=>?_,fun k hk b hb=>?_⟩ h3 (fun x hx=>?_)
  ·obtain ⟨j,hj,hc⟩:=hin k b hGb
   refine hn9 j ?_ hj
   show j ∈ m :: qr.map (·.1)
   rcases hc with ⟨_,h5 | h5⟩ | ⟨_,_,h5⟩
   ·rw [h5];exact YM _ hn
   ·rw [h5];exact Yap
   ·rw [h5];exact YM _ hk
  ·have hk2:k≠m∧k ∉ qr.map (·.1):=by
    have:k ∉ m :: qr.map (·.1):=hk
    rw [Yo] at this
    exact ⟨fun e=>this (.inl e),fun e=>this (.inr e)⟩
   have hkn:k≠n:=fun e=>hk2.2 (e ▸ hn)
   rw [h2.fkeep k hk2.2]
   funext b
   exact propext (hGk k b hkn hk2.1)
  ·rcases Yo.1 (show k ∈ m :: qr.map (·.1) from hk) with e | hk
   ·subst e
    rw [hm0] at hb
    exact absurd hb (hGm b)
   ·rcases h2.fnew k hk b hb with ⟨j,hj,hGb⟩ | h5
    ·obtain ⟨j2,hj2,hc⟩:=hin j b hGb
     refine .inl ⟨j2,?_,hj2⟩
     show j2 ∈ m :: qr.map (·.1)
     rcases hc with ⟨_,h5 | h5⟩ | ⟨_,_,h5⟩
     ·rw [h5];exact YM _ hn
     ·rw [h5];exact Yap
     ·rw [h5];exact YM _ hj
    ·exact .inr h5
  ·rcases Yo.1 hx with rfl | hx
   ·show ∀ b,¬ F' m b
    intro b hb
    rw [hm0] at hb
    exact hGm b hb
   ·exact h4 x hx
theorem FnG.pre1 {f:FuncId} {args:List PV} {k1 k2:HP} {q:PV} {qr:Value→List HP} (h:FnG P f 1 args [k1] q qr) (hi:∀ w f y,k2.p w f y→k1.p w f y):FnG P f 1 args [k2] q qr:=fun w F vs hw hle hvs hpr=>h w F vs hw hle hvs (fun i x hx=>by
 match i,hx with
 | 0,hx=>
  simp only [Ybk,Yab] at hx
  subst hx
  exact hi _ _ _ (hpr 0 k2 rfl))
end
theorem Zf0 {α:Type} [Inhabited α] {f:α→Int} {l:List α} {i:Nat} (h:i<l.length):(l.map f).take (i+1)=(l.map f).take i ++ [f (Nn l i)]:=by
 rw [ZQ (by rw [YP];exact h),Zy (by rw [YP];exact h),Zy h,Yan]
theorem Zh0 {α:Type} [Inhabited α] {f:α→Int} {l:List α} {i:Nat} (t:List ZF) (h:i<l.length):delP (Zdm t ((l.map f).take i)) (f (Nn l i))=Zdm t ((l.map f).take (i+1)):=by rw [Zf0 h,ZnA]
theorem Zin {α:Type} [Inhabited α] {f:α→Int} {l:List α} {i:Nat} (t:List ZF) (n:Int) (h:i<l.length):putP (putsL t n ((l.map f).take i)) (f (Nn l i)) (n+i)=putsL t n ((l.map f).take (i+1)):=by
 rw [Zf0 h,Zij,Yk,YP,Y7 ow]
theorem ZmP {α:Type} [Inhabited α] [DecidableEq α] {κ:α→Int} {f:ZF→α} {l:List ZF} {was:List α} (hk:∀ p ∈ l,κ (f p)=p.key) (hr:Z5 κ was) (hf:Zag κ was (l.map f) = []) {i:Nat} (hi:i<was.length):(getL (κ (Nn was i)) (Zdm l ((was.map κ).take i))).2=true:=by
 cases hg:(getL (κ (Nn was i)) (Zdm l ((was.map κ).take i))).2 with
 | true=>rfl
 | false=>
  exfalso
  have hx:=ZU hi
  have h1:ZL κ (l.map f) (κ (Nn was i))=some (Nn was i):=by
   refine Yae fun h=>?_
   have:Nn was i ∈ Zag κ was (l.map f):=YT.2 ⟨hx,by simpa using h⟩
   rw [hf] at this;cases this
  obtain ⟨p,hp,e⟩:=YC.1 (Zfe h1).1
  have hpk:p.key=κ (Nn was i):=by rw [← hk p hp,e]
  refine Zmw hg p (Zdq.2 ⟨hp,fun hm=>?_⟩) hpk
  rw [List.mem_take_iff_getElem] at hm
  obtain ⟨j,hj,ej⟩:=hm
  rw [YP] at hj
  rw [Yan] at ej
  have h2:=Y2.1 hr j i ow hi ow
  rw [ej,hpk,Zy hi] at h2
  omega
def wT (A:StA) (d:ZK):List ZF:=Zdm A.now.txs (d.was.map TxD.id)
def wO (A:StA) (d:ZK):List ZF:=Zdm A.now.orders (d.old.map OrdD.key)
def Zlv (A:StA) (d:ZK) (z:Int):RtA:=⟨putsL (wT A d) A.all.length (d.now.map TxD.id),putsL (wO A d) A.seqs.length (d.new.map OrdD.key),z⟩
def doA (A:StA) (d:ZK):StA×Int:=if (ZN (hiA A) d).2≠0 then (A,(ZN (hiA A) d).2) else if Za2 A - A.now.size+sizeH (ZN (hiA A) d).1 > 10000 then (A,2) else (⟨Zlv A d (sizeH (ZN (hiA A) d).1:Nat),A.snaps,A.next,A.all++d.now,A.seqs++d.new.map OrdD.txs⟩,0)
def stA (A:StA) (all':List TxD) (seqs':List (List Int)):StA:=⟨A.now,A.snaps,A.next,A.all++all',A.seqs++seqs'⟩
theorem ZaJ.grow {A:StA} (h:ZaJ A) (e:List TxD) (f:List (List Int)):ZaJ (stA A e f):=
 ⟨h.okn.grow,fun x hx=>⟨(h.oks x hx).1.grow,(h.oks x hx).2⟩,h.ids,by show A.now.size=_;rw [h.szn];exact Yai (fun x=>((sizeH x:Nat):Int)) (ZdY h.okn).symm,fun x hx=>by rw [h.szs x hx];exact Yai (fun x=>((sizeH x:Nat):Int)) (ZdY (h.oks x hx).1).symm,h.held,h.next⟩
structure ZkY (A:StA) (d:ZK):Prop where
 fit:Zb1 A
 all:A.all.length+d.now.length≤100000
 seqs:A.seqs.length+d.new.length≤100000
 ops:∀ t ∈ d.now,t.ops.length≤1000
 len:∀ o ∈ d.new,o.txs.length≤1000
theorem ZkY.grow {A:StA} {d:ZK} (h:ZkY A d) (i j:Nat):Zb1 (stA A (d.now.take i) ((d.new.map OrdD.txs).take j)):=by
 refine ⟨h.fit.next,h.fit.snaps,?_,?_,fun l hl=>?_,fun t ht=>?_⟩
 ·show (A.all++d.now.take i).length≤100000
  rw [Yc,Yk];have:=h.all;omega
 ·show (A.seqs++(d.new.map OrdD.txs).take j).length≤100000
  rw [Yc,Yk,YP];have:=h.seqs;omega
 ·rcases YB.1 hl with hl | hl
  ·exact h.fit.len l hl
  ·obtain ⟨o,ho,rfl⟩:=YC.1 (Yat hl)
   exact h.len o ho
 ·rcases YB.1 ht with ht | ht
  ·exact h.fit.ops t ht
  ·exact h.ops t (Yat ht)
theorem Zhj {f:ZF→Nat} {k v:Int} : ∀ (l:List ZF) (d:Bool),((ZaN k v l d).map f).sum≤(l.map f).sum+if d then 0 else f ⟨k,v⟩
 | [],d=>by cases d <;> simp [ZaN]
 | x :: l,d=>by
  have ht:=Zhj (f:=f) (k:=k) (v:=v) l true
  have hf:=Zhj (f:=f) (k:=k) (v:=v) l false
  rw [ZaN,YZ,YZ,YaT,YaT,YL,YaJ]
  simp only [Yz,Yr,Ya3] at ht hf
  cases d <;> by_cases h1:k≤x.key <;> by_cases h2:x.key=k <;> simp [h1,h2] at * <;> omega
theorem Zq5 {f:ZF→Nat} {k v:Int} (l:List ZF):((putP l k v).map f).sum≤(l.map f).sum+f ⟨k,v⟩:=by
 have:=Zhj (f:=f) (k:=k) (v:=v) l false
 simpa [putP] using this
theorem ZmF (l:List ZF) (k:Int):(delP l k).length≤l.length:=YR _ _
theorem ZsG {f:ZF→Nat} (l:List ZF) (k:Int):((delP l k).map f).sum≤(l.map f).sum:=by
 induction l with
 | nil=>simp [delP]
 | cons x l ih=>
  unfold delP at ih ⊢
  rw [Yax,YL,YaJ]
  split
  ·rw [YL,YaJ];omega
  ·omega
theorem Zhq {seqs f:List (List Int)} {l:List ZF} (h:∀ p ∈ l,0≤p.val∧p.val<seqs.length):Zar (seqs++f) l=Zar seqs l:=by
 unfold Zar
 congr 1
 refine YaB fun p hp=>?_
 have:=h p hp
 rw [ZbU ow]
structure DoOk (A:StA) (r:RtA) (z:Nat):Prop where
 ok:ZaJ A
 rok:Zlh A.all A.seqs r
 sz:r.txs.length+r.orders.length+Zar A.seqs r.orders≤z
theorem DoOk.size {A:StA} {r:RtA} {z:Nat} (h:DoOk A r z):sizeH (Za4 A.all A.seqs r)≤z:=by rw [← Zbf];exact h.sz
theorem DoOk.delT {A:StA} {r:RtA} {z:Nat} (h:DoOk A r z) (k:Int):DoOk A ⟨delP r.txs k,r.orders,r.size⟩ z:=
 ⟨h.ok,⟨Zgf h.rok.ti,h.rok.oi,fun p hp=>h.rok.tv p (Zfb.1 hp).1,h.rok.ov⟩,by have:=h.sz;have:=ZmF r.txs k;show (delP r.txs k).length+r.orders.length+Zar A.seqs r.orders≤z;omega⟩
theorem DoOk.delO {A:StA} {r:RtA} {z:Nat} (h:DoOk A r z) (k:Int):DoOk A ⟨r.txs,delP r.orders k,r.size⟩ z:=
 ⟨h.ok,⟨h.rok.ti,Zgf h.rok.oi,h.rok.tv,fun p hp=>h.rok.ov p (Zfb.1 hp).1⟩,by have:=h.sz;have:=ZmF r.orders k;have h4:Zar A.seqs (delP r.orders k)≤Zar A.seqs r.orders:=ZsG _ _;show r.txs.length+(delP r.orders k).length+Zar A.seqs (delP r.orders k)≤z;omega⟩
theorem Zfk {α:Type} [Inhabited α] (l:List α) (x:α):Nn (l ++ [x]) l.length=x:=by
 rw [Zy (by simp)];simp
theorem DoOk.putT {A:StA} {r:RtA} {z:Nat} (h:DoOk A r z) (t:TxD):DoOk (stA A [t] []) ⟨putP r.txs t.id A.all.length,r.orders,r.size⟩ (z+1):=by
 refine ⟨h.ok.grow _ _,⟨putP_inc h.rok.ti,h.rok.oi,fun p hp=>?_,fun p hp=>?_⟩,?_⟩
 ·rcases Zfi.1 hp with h1 | rfl
  ·have h2:=h.rok.tv p h1.1
   refine ⟨⟨h2.1.1,by show p.val<((A.all ++ [t]).length:Nat);rw [Yc];omega⟩,?_⟩
   show (Nn (A.all ++ [t]) _).id=_
   rw [ZbU ow];exact h2.2
  ·refine ⟨⟨by show (0:Int)≤(A.all.length:Nat);omega,by show ((A.all.length:Nat):Int)<((A.all ++ [t]).length:Nat);rw [Yc,Yaq];omega⟩,?_⟩
   show (Nn (A.all ++ [t]) (((A.all.length:Nat):Int)).toNat).id=t.id
   rw [Yg,Zfk]
 ·have:=h.rok.ov p hp
  exact ⟨this.1,by show p.val<((A.seqs ++ []).length:Nat);rw [YF];exact this.2⟩
 ·have:=h.sz
  have:=Zl1 r.txs t.id A.all.length
  show (putP _ _ _).length+r.orders.length+Zar (A.seqs ++ []) r.orders≤z+1
  rw [YF];omega
theorem DoOk.putO {A:StA} {r:RtA} {z:Nat} (h:DoOk A r z) (k:Int) (l:List Int):DoOk (stA A [] [l]) ⟨r.txs,putP r.orders k A.seqs.length,r.size⟩ (z+1+l.length):=by
 refine ⟨h.ok.grow _ _,⟨h.rok.ti,putP_inc h.rok.oi,fun p hp=>?_,fun p hp=>?_⟩,?_⟩
 ·show (0≤p.val∧p.val<((A.all ++ []).length:Nat))∧(Nn (A.all ++ []) p.val.toNat).id=p.key
  rw [YF];exact h.rok.tv p hp
 ·show 0≤p.val∧p.val<((A.seqs ++ [l]).length:Nat)
  rw [Yc,Yaq]
  rcases Zfi.1 hp with h1 | rfl
  ·have h2:=h.rok.ov p h1.1
   exact ⟨h2.1,by omega⟩
  ·exact ⟨by show (0:Int)≤(A.seqs.length:Nat);omega,by show ((A.seqs.length:Nat):Int)<_;omega⟩
 ·have h1:=h.sz
  have h2:=Zl1 r.orders k A.seqs.length
  have h3:=Zq5 (f:=fun p=>(Nn (A.seqs ++ [l]) p.val.toNat).length) (k:=k) (v:=A.seqs.length) r.orders
  have h4:=Zhq (f:=[l]) h.rok.ov
  have h5:(Nn (A.seqs ++ [l]) (((A.seqs.length:Nat):Int)).toNat).length=l.length:=by rw [Yg,Zfk]
  unfold Zar at h1 h4 ⊢
  show r.txs.length+(putP _ _ _).length+((putP r.orders k A.seqs.length).map fun p=>(Nn (A.seqs ++ [l]) p.val.toNat).length).sum≤_
  simp only at h3
  omega
def stT (A:StA) (d:ZK) (i:Nat):StA:=⟨A.now,A.snaps,A.next,A.all++d.now.take i,A.seqs⟩
def stO (A:StA) (d:ZK) (i:Nat):StA:=⟨A.now,A.snaps,A.next,A.all++d.now,A.seqs++(d.new.map OrdD.txs).take i⟩
def rT1 (A:StA) (d:ZK) (z:Int) (i:Nat):RtA:=⟨Zdm A.now.txs ((d.was.map TxD.id).take i),A.now.orders,z⟩
def rT2 (A:StA) (d:ZK) (z:Int) (i:Nat):RtA:=⟨putsL (wT A d) A.all.length ((d.now.map TxD.id).take i),A.now.orders,z⟩
def rO1 (A:StA) (d:ZK) (z:Int) (i:Nat):RtA:=⟨putsL (wT A d) A.all.length (d.now.map TxD.id),Zdm A.now.orders ((d.old.map OrdD.key).take i),z⟩
def rO2 (A:StA) (d:ZK) (z:Int) (i:Nat):RtA:=⟨putsL (wT A d) A.all.length (d.now.map TxD.id),putsL (wO A d) A.seqs.length ((d.new.map OrdD.key).take i),z⟩
section
variable {A:StA} {d:ZK} {z:Int} {i:Nat}
theorem rT1_next (h:i<d.was.length):rT1 A d z (i+1) = ⟨delP (rT1 A d z i).txs (Nn d.was i).id,(rT1 A d z i).orders,(rT1 A d z i).size⟩:=by unfold rT1;rw [← Zh0 _ h]
theorem Zl2 (h:i<d.now.length):rT2 A d z (i+1) = ⟨putP (rT2 A d z i).txs (Nn d.now i).id ((A.all.length:Int)+i),(rT2 A d z i).orders,(rT2 A d z i).size⟩:=by unfold rT2;rw [← Zin _ _ h]
theorem rO1_next (h:i<d.old.length):rO1 A d z (i+1) = ⟨(rO1 A d z i).txs,delP (rO1 A d z i).orders (Nn d.old i).key,(rO1 A d z i).size⟩:=by unfold rO1;rw [← Zh0 _ h]
theorem ZlS (h:i<d.new.length):rO2 A d z (i+1) = ⟨(rO2 A d z i).txs,putP (rO2 A d z i).orders (Nn d.new i).key ((A.seqs.length:Int)+i),(rO2 A d z i).size⟩:=by unfold rO2;rw [← Zin _ _ h]
theorem rT_join (h:i=d.was.length):rT1 A d z i=rT2 A d z 0:=by
 unfold rT1 rT2 wT
 rw [h,YS (by simp)];rfl
theorem rTO_join (h:i=d.now.length):rT2 A d z i=rO1 A d z 0:=by
 unfold rT2 rO1
 rw [h,YS (by simp)];rfl
theorem rO_join (h:i=d.old.length):rO1 A d z i=rO2 A d z 0:=by
 unfold rO1 rO2 wO
 rw [h,YS (by simp)];rfl
theorem ZoC (h:i=d.new.length):rO2 A d z i=Zlv A d z:=by
 unfold rO2 Zlv
 rw [h,YS (by simp)]
theorem stT_zero:stT A d 0=A:=by unfold stT;rw [List.take_zero,YF]
theorem Zjc (h:i<d.now.length):stT A d (i+1) = ⟨A.now,A.snaps,A.next,(A.all++d.now.take i) ++ [Nn d.now i],A.seqs⟩:=by unfold stT;rw [ZQ h,Yp]
theorem ZpV (h:i<d.now.length):stT A d (i+1)=stA (stT A d i) [Nn d.now i] []:=by rw [Zjc h];unfold stA stT;rw [YF]
theorem stTO_join (h:i=d.now.length):stT A d i=stO A d 0:=by unfold stT stO;rw [h,YE,List.take_zero,YF]
theorem Zkz (h:i<d.new.length):(d.new.map OrdD.txs).take (i+1)=(d.new.map OrdD.txs).take i ++ [(Nn d.new i).txs]:=by
 rw [ZQ (by rw [YP];exact h),Zy (by rw [YP];exact h),Zy h,Yan]
theorem Zq9 (h:i<d.new.length):stO A d (i+1) = ⟨A.now,A.snaps,A.next,A.all++d.now,(A.seqs++(d.new.map OrdD.txs).take i) ++ [(Nn d.new i).txs]⟩:=by unfold stO;rw [Zkz h,Yp]
theorem Zk7 (h:i<d.new.length):stO A d (i+1)=stA (stO A d i) [] [(Nn d.new i).txs]:=by rw [Zq9 h];unfold stA stO;rw [YF]
theorem stT_len (h:i≤d.now.length):(stT A d i).all.length=A.all.length+i:=by unfold stT;rw [Yc,Yk,Y7 h]
theorem Ziu (h:i≤d.new.length):(stO A d i).seqs.length=A.seqs.length+i:=by unfold stO;rw [Yc,Yk,YP,Y7 h]
theorem Zmf (h:i=d.new.length):stO A d i = ⟨A.now,A.snaps,A.next,A.all++d.now,A.seqs++d.new.map OrdD.txs⟩:=by unfold stO;rw [h,YS (by simp)]
theorem ZsF (h:ZkY A d):Zb1 (stT A d i):=by
 have:=h.grow i 0
 unfold stA at this
 rw [List.take_zero,YF] at this
 exact this
theorem ZlC (h:ZkY A d):Zb1 (stO A d i):=by
 have:=h.grow d.now.length i
 rw [YE] at this
 exact this
theorem DoOk.start (h:ZaJ A) (z:Int):DoOk A (rT1 A d z 0) (sizeH (hiA A)):=⟨h,⟨h.okn.ti,h.okn.oi,h.okn.tv,h.okn.ov⟩,by have:=Zbf A.all A.seqs A.now;unfold hiA;show A.now.txs.length+A.now.orders.length+Zar A.seqs A.now.orders≤_;omega⟩
theorem DoOk.growT {r:RtA} {y:Nat} (h:DoOk (stT A d i) r y) (hi:i<d.now.length):DoOk (stT A d (i+1)) r y:=by
 rw [ZpV hi]
 exact ⟨h.ok.grow _ _,h.rok.grow,by show r.txs.length+r.orders.length+Zar ((stT A d i).seqs ++ []) r.orders≤y;rw [YF];exact h.sz⟩
theorem DoOk.growO {r:RtA} {y:Nat} (h:DoOk (stO A d i) r y) (hi:i<d.new.length):DoOk (stO A d (i+1)) r y:=by
 rw [Zk7 hi]
 exact ⟨h.ok.grow _ _,h.rok.grow,by show r.txs.length+r.orders.length+Zar ((stO A d i).seqs ++ [_]) r.orders≤y;rw [Zhq h.rok.ov];exact h.sz⟩
theorem DoOk.nextT {y:Nat} (h:DoOk (stT A d i) (rT2 A d z i) y) (hi:i<d.now.length):DoOk (stT A d (i+1)) (rT2 A d z (i+1)) (y+1):=by
 have:=h.putT (Nn d.now i)
 rw [← ZpV hi,stT_len ow] at this
 rw [Zl2 hi]
 have e:((A.all.length+i:Nat):Int)=(A.all.length:Int)+i:=by omega
 rw [e] at this;exact this
theorem DoOk.nextO {y:Nat} (h:DoOk (stO A d i) (rO2 A d z i) y) (hi:i<d.new.length):DoOk (stO A d (i+1)) (rO2 A d z (i+1)) (y+1+(Nn d.new i).txs.length):=by
 have:=h.putO (Nn d.new i).key (Nn d.new i).txs
 rw [← Zk7 hi,Ziu ow] at this
 rw [ZlS hi]
 have e:((A.seqs.length+i:Nat):Int)=(A.seqs.length:Int)+i:=by omega
 rw [e] at this;exact this
end
theorem ZbQ {g:Zx} {d:ZK} (h:(ZN g d).2=0):(ZG g∧ZdK d)∧ZgR g d=true∧ZG (Zcy g d)∧(ZN g d).1=Zcy g d:=by
 unfold ZN at h ⊢
 by_cases h1:ZG g∧ZdK d
 ·rw [Yb (YQ.2 h1)] at h ⊢
  by_cases h2:ZgR g d=false
  ·rw [Yf h2] at h;exact absurd h (by decide)
  ·rw [Yb h2] at h ⊢
   by_cases h3:ZG (Zcy g d)
   ·rw [Yf h3];exact ⟨h1,by simpa using h2,h3,rfl⟩
   ·rw [Yb h3] at h;exact absurd h (by decide)
 ·rw [Yf h1] at h;exact absurd h (by decide)
theorem Zh8 {α:Type} [DecidableEq α] {κ:α→Int} {l was now:List α} (h:Zbj κ l was now=true):Zag κ was l = []:=by
 unfold Zbj at h
 rw [Yv,Yj] at h
 exact h.1
theorem Zum {A:StA} (h:ZaJ A):∀ p ∈ A.now.txs,TxD.id (Nn A.all p.val.toNat)=p.key:=fun p hp=>(h.okn.tv p hp).2
theorem Zr8 {A:StA} {d:ZK} (hk:ZaJ A) (h:(ZN (hiA A) d).2=0) {z:Int} {i:Nat} (hi:i<d.was.length):(getL (Nn d.was i).id (rT1 A d z i).txs).2=true:=by
 obtain ⟨⟨_,h1,_⟩,h2,_⟩:=ZbQ h
 unfold ZgR at h2
 rw [Yv] at h2
 exact ZmP (κ:=TxD.id) (f:=fun p=>Nn A.all p.val.toNat) (Zum hk) h1 (Zh8 h2.1) hi
theorem ZsM {A:StA} {d:ZK} (hk:ZaJ A) (h:(ZN (hiA A) d).2=0) {z:Int} {i:Nat} (hi:i<d.old.length):(getL (Nn d.old i).key (rO1 A d z i).orders).2=true:=by
 obtain ⟨⟨_,_,_,h1,_⟩,h2,_⟩:=ZbQ h
 unfold ZgR at h2
 rw [Yv] at h2
 exact ZmP (κ:=OrdD.key) (f:=fun p=>(⟨p.key,Nn A.seqs p.val.toNat⟩:OrdD)) (fun p _=>rfl) h1 (Zh8 h2.2) hi
theorem ZoF {α:Type} {κ:α→Int} {f:α→Nat} {l m:List α} : (m.map f).sum≤((Zak κ (l++m)).map f).sum:=by
 have h:=((ZaE (κ:=κ) (l++m)).map f).sum_nat
 rw [h,YZ,YaT];omega
theorem Zqq (g:Zx) (d:ZK):d.now.length+d.new.length+ZbS d.new≤sizeH (Zcy g d):=by
 have h1:d.now.length≤(Zcy g d).txs.length:=by
  show _≤(Zak _ _).length
  rw [ZcR,Yc];omega
 have h2:d.new.length≤(Zcy g d).orders.length:=by
  show _≤(Zak _ _).length
  rw [ZcR,Yc];omega
 have h3:ZbS d.new≤ZbS (Zcy g d).orders:=ZoF
 unfold sizeH;omega
theorem Znm (l:List OrdD) (i:Nat):ZbS (l.take i)≤ZbS l:=by
 have h:l=l.take i++l.drop i:=(YX i l).symm
 have e:ZbS l=ZbS (l.take i)+ZbS (l.drop i):=by
  conv=>lhs;rw [h]
  unfold ZbS
  rw [YZ,YaT]
 omega
theorem ZmC {A:StA} {d:ZK} (hk:ZaJ A) (h:(ZN (hiA A) d).2=0) (z:Int):Za4 (A.all++d.now) (A.seqs++d.new.map OrdD.txs) (Zlv A d z)=(ZN (hiA A) d).1:=by
 obtain ⟨⟨hr,h1,h1n,h3,h3n⟩,h2,_,h4⟩:=ZbQ h
 rw [h4]
 unfold ZgR at h2
 rw [Yv] at h2
 have eT:(hiA A).txs=A.now.txs.map fun p=>Nn (A.all++d.now) p.val.toNat:=by
  unfold hiA Za4
  refine YaB fun p hp=>?_
  have:=(hk.okn.tv p hp).1
  rw [ZbU ow]
 have eO:(hiA A).orders=A.now.orders.map fun p=>(⟨p.key,Nn (A.seqs++d.new.map OrdD.txs) p.val.toNat⟩:OrdD):=by
  unfold hiA Za4
  refine YaB fun p hp=>?_
  have:=hk.okn.ov p hp
  rw [ZbU ow]
 have hT:=Zj4 (κ:=TxD.id) (f:=fun p=>Nn (A.all++d.now) p.val.toNat) (l:=A.now.txs) hk.okn.ti (fun p hp=>by
  have:=hk.okn.tv p hp
  show (Nn (A.all++d.now) p.val.toNat).id=p.key
  rw [ZbU ow];exact this.2) (was:=d.was) (now:=d.now) (n:=A.all.length) (fun j hj=>by
  show Nn (A.all++d.now) (((A.all.length:Nat):Int)+j).toNat=_
  rw [show (((A.all.length:Nat):Int)+j).toNat=A.all.length+j by omega,Zy (by rw [Yc];omega),Zy hj,List.getElem_append_right ow]
  congr 1;omega) h1n (by rw [← eT];exact h2.1)
 have hO:=Zj4 (κ:=OrdD.key) (f:=fun p=>(⟨p.key,Nn (A.seqs++d.new.map OrdD.txs) p.val.toNat⟩:OrdD)) (l:=A.now.orders) hk.okn.oi (fun p hp=>rfl) (was:=d.old) (now:=d.new) (n:=A.seqs.length) (fun j hj=>by
  have e9:Nn (A.seqs++d.new.map OrdD.txs) (((A.seqs.length:Nat):Int)+j).toNat=(Nn d.new j).txs:=by
   rw [show (((A.seqs.length:Nat):Int)+j).toNat=A.seqs.length+j by omega,Zy (by rw [Yc,YP];omega),Zy hj,List.getElem_append_right ow,Yan]
   congr 2;omega
  show (⟨_,Nn (A.seqs++d.new.map OrdD.txs) (((A.seqs.length:Nat):Int)+j).toNat⟩:OrdD)=_
  rw [e9]) h3n (by rw [← eO];exact h2.2)
 unfold Za4 Zcy Zlv wT wO
 rw [eT,eO,← hT,← hO]
theorem Zan.turn {A:StA} {r:RtA} {s:StC} {c:RtC} (h:Zan A [r] s) (hr:Zb7 s.q (arV (some s.b)) c r):Zan ⟨r,A.snaps,A.next,A.all,A.seqs⟩ [] ⟨s.b,s.q,c,s.cs,s.ck,s.mv,s.alv,s.sqv,s.sr⟩:=
 ⟨hr,h.keys,h.snaps,h.len,fun i hi hl=>h.seqs i hi (hl.mono fun r1 hr1=>by
  simp only [rootsA,YF,Yo,Y0,YB,YaC,Ya4] at hr1 ⊢
  rcases hr1 with rfl | hr1
  ·exact .inr (.inr rfl)
  ·exact .inr (.inl hr1))⟩
theorem ZaJ.doA {A:StA} (h:ZaJ A) (d:ZK) (hr:∀ z,(ZN (hiA A) d).2=0→Zlh (A.all++d.now) (A.seqs++d.new.map OrdD.txs) (Zlv A d z)):ZaJ (doA A d).1:=by
 unfold Go.Proofs.YtfecljadegkmdaaGreat.doA
 split
 ·exact h
 ·rename_i h1
  split
  ·exact h
  ·rename_i h2
   have h0:(ZN (hiA A) d).2=0:=YQ.1 h1
   have hg:=h.grow d.now (d.new.map OrdD.txs)
   refine ⟨hr _ h0,hg.oks,h.ids,?_,hg.szs,?_,h.next⟩
   ·show (((sizeH (ZN (hiA A) d).1:Nat)):Int)=_
    exact Yai (fun x=>((sizeH x:Nat):Int)) (ZmC h h0 _).symm
   ·unfold Za2 at h2 ⊢
    show (((sizeH (ZN (hiA A) d).1:Nat)):Int)+(A.snaps.map fun x=>x.2.size).sum≤10000
    omega
section
variable {P:Program} {d:Option Nat} {ty:TypeId} {pos:String} {af:Array Edge} {g:Option (Nat×Bool)} {x:Operand} {ps:List (Nat×SF)}
theorem Ze4 {s:TypeId} {f off b:Nat} (hx:Opd x ps (.pv (.is (.pointer (some ⟨b,0,none⟩))))) (ho:P.fieldOff s f=some off) :
  OpC P ⟨d,.fieldAddr s x f,ty,pos,af,g⟩ ⟨ps,[],.adr (.val (.pointer (some ⟨b,0,none⟩))) off,[]⟩:=
 OpC.pure fun a w yy hp=>by
  obtain ⟨e1,_⟩:=hx a w yy hp
  exact ⟨.pointer (some ⟨b,0+off,none⟩),by simp [execOp,e1,Zcq ho],fun τ _=>rfl⟩
end
theorem Zup (b:Nat) {q:List Cell} (l:List Int) (hr:q.length+l.length≤65536) :
  ∃ (e:List Cell) (r:Int),FnG prog 65 1 [.is (arV (some b)),.sl Zs l] [arH (some b) 65536 q] (.tup [.agg [.is (arV (some b)),.int .i64 r],.int .i64 0]) (fun _=>[arH (some b) 65536 (q++e)])∧Zbe (q++e) r l:=by
 obtain ⟨e,r,h1,h2,h3⟩:=Zbe.of (room:=65536) (q:=q) (l:=l) ow ow
 have:=Zs9 (some b) 65536 q l
 rw [h1] at this
 exact ⟨e,r,this,h2⟩
theorem Zan.addTx {A:StA} {ex:List RtA} {s:StC} (h:Zan A ex s) (e:List TxD) (v:Value):Zan ⟨A.now,A.snaps,A.next,A.all++e,A.seqs⟩ ex ⟨s.b,s.q,s.c,s.cs,s.ck,s.mv,v,s.sqv,s.sr⟩:=⟨h.now,h.keys,h.snaps,h.len,h.seqs⟩
theorem Zan.addSeq {A:StA} {r:RtA} {s:StC} (h:Zan A [r] s) (l:List Int) (e:List Cell) (c:SqC) (hc:c.av=arV (some s.b)∧Zbe (s.q++e) c.root l) (hk:ZaJ A) (hov:∀ p ∈ r.orders,0≤p.val∧p.val<A.seqs.length) (v:Value):Zan (stA A [] [l]) [r] ⟨s.b,s.q++e,s.c,s.cs,s.ck,s.mv,s.alv,v,s.sr ++ [c]⟩:=by
 have hl:=h.len
 refine ⟨h.now.app,h.keys,fun x hx=>by obtain ⟨c,hc,hr⟩:=h.snaps x hx;exact ⟨c,hc,hr.app⟩,by show (s.sr ++ [c]).length=(A.seqs ++ [l]).length;rw [Yc,Yc,hl];rfl,fun i hi hlv=>?_⟩
 have hi:i<(A.seqs ++ [l]).length:=hi
 rw [Yc,Yaq] at hi
 show (Nn (s.sr ++ [c]) i).av=_∧Zbe (s.q++e) (Nn (s.sr ++ [c]) i).root (Nn (A.seqs ++ [l]) i)
 by_cases h1:i=A.seqs.length
 ·rw [h1,Zfk]
  conv=>enter [1];rw [← hl,Zfk]
  conv=>enter [2,2];rw [← hl,Zfk]
  exact hc
 ·have hlt:i<A.seqs.length:=by omega
  rw [ZbU hlt,ZbU (show i<s.sr.length by omega)]
  have hlv2:Zcw (rootsA A ++ [r]) A.seqs.length i:=by
   rcases hlv with h2 | h2
   ·exact .inl h2
   ·have h2:i+1=(A.seqs ++ [l]).length:=h2
    rw [Yc,Yaq] at h2
    omega
  have h3:=h.seqs i hlt hlv2
  exact ⟨h3.1,h3.2.app⟩
theorem ZqA {A:StA} {r:RtA} (h:r.orders=A.now.orders) {n i:Nat} (hl:Zcw (rootsA A ++ [r]) n i):Zcw (rootsA A ++ []) n i:=by
 rcases hl with ⟨r1,hr1,p,hp,e⟩ | h1
 ·rcases YB.1 hr1 with h2 | h2
  ·exact .inl ⟨r1,Yas _ h2,p,hp,e⟩
  ·rw [Yn] at h2
   subst h2
   exact .inl ⟨A.now,by simp [rootsA],p,h ▸ hp,e⟩
 ·exact .inr h1
theorem ZrG (b:Nat) (A:StA) (d:ZK) (hok:ZaJ A) (hdf:ZkY A d) (hsd:Zcu (hiA A) d):FnG prog 23 1 [.is (.pointer (some ⟨b,0,none⟩)),.agg (Zaa d)] [ZX (.pointer (some ⟨b,0,none⟩)) A] (.int .i64 (doA A d).2) (fun _=>[ZX (.pointer (some ⟨b,0,none⟩)) (doA A d).1]):=by
 refine FnG.mk func23 Z ntmps23 Z kr fun B F0 a w F V hG O=>?_
 have hdl1:d.was.length≤1000:=hsd.2.1.1.1.1
 have hdl2:d.now.length≤1000:=hsd.2.1.2.1.1
 have hdl3:d.old.length≤1000:=hsd.2.1.1.2.1
 have hdl4:d.new.length≤1000:=hsd.2.1.2.2.1
 refine Ya (Zb O (qx 101 r1 (qI qZ)) V [4,3,0] [101,1,0] (fun _=>rfl) (fun _=>rfl) fun τ a w F O=>?_)
 try dsimp only [RS.sub,SF.sub,CF.sub,csub,Anc.sub,List.map,zCF,rRt,rSq,ZC,rTx,Zv,Zl,Zs,rOp,Zaa] at O
 generalize τ 3=v3 at O
 refine Za (Ya (Ya (rZ O (qR rr (qf (Zab _ YbT Z .t) r1 qz qZ)) V [19,4,3,0] [101,1,0] fun O=>?_)))
 refine Zc O Z (fun hc0=>?_) (fun hc0=>?_)
 ·simp at hc0
 refine Yd (Za (Ya (ZaK O (qR rr (qf (o_callG1 1 (Zgk b A hok hdf.fit) func14 Z kr (Args.one .t)) r1 r1 (qe 4 101 r1 r1 (qf (oP (ZqY (hiA A) d hsd) func60 (Args.two .t (.pagg .t))) r2 qz (qR rr (qf (o_extract .t Z) r1 qz (qf (o_extract .t Z) r1 qz (qf (oH [.slice none 0 0,.slice none 0 0] 102) trivial qz (qf (oA 2 102 .same (.conv .t .agg)) r2 r1 (qO rr qZ)))))))))) V [6,5,4,3,0] [102,101,1,0] (fun _=>rfl) (fun _=>rfl) fun τ a w F O=>?_)))
 try dsimp only [RS.sub,SF.sub,CF.sub,csub,Anc.sub,List.map,Zd,xL,xM,Nat.reduceAdd,xD,xE,xT,xU,xC,xN,zCF,ldSF,rRt,rSq,ZC,rTx,Zv,Zl,Zs,rOp,Zaa] at O
 generalize τ 5=v5 at O
 refine Za (Ya (Ye (Ya (rZ O (qR rr (qf (o_neq .t qi) r1 qz (qO rr qZ))) V [27,6,5,4,3,0] [102,101,1,0] fun O=>?_))))
 refine Zc O Z (fun hc1=>?_) (fun hc1=>?_)
 ·have hne:(ZN (hiA A) d).2≠0:=by simpa using hc1
  have hg:doA A d=(A,(ZN (hiA A) d).2):=by unfold doA;rw [Yf hne]
  refine Ya (rZ O (qR rr (qO rr qZ)) V [5,4,3,0] [102,101,1,0] fun O=>(Yh (Zr (Zf ?_))))
  have O:=O.turn 1 Z (r':=RS.hp (ZX (.pointer (some ⟨b,0,none⟩)) (doA A d).1)) (fun _ _ _ _ h=>by rw [hg];exact h)
  obtain ⟨F,O⟩:=O.nM [4] [1,0]
  refine ZE hG O Z (.tmp Z .nil) (.one (.int (by rw [hg]))) rfl
 have h0:(ZN (hiA A) d).2=0:=by simpa using hc1
 have hsm:Zbb (ZN (hiA A) d).1:=by rw [(ZbQ h0).2.2.2];exact hsd.2.2
 have hzs:=Zqq (hiA A) d
 rw [← (ZbQ h0).2.2.2] at hzs
 have hnl9:=hok.now_le
 have hs09:sizeH (hiA A)≤10000:=hok.now_le
 have hfit:=hdf.fit
 obtain ⟨sc,O⟩:=O.open_ex 1 rfl
 obtain ⟨hk,O⟩:=O.open_and 1 rfl
 obtain ⟨F,O⟩:=O.peel 1 2 Z rfl
 obtain ⟨F,O⟩:=O.peel 1 3 Z rfl
 obtain ⟨F,O⟩:=O.peel 1 4 Z rfl
 obtain ⟨F,O⟩:=O.peel 1 5 Z rfl
 obtain ⟨F,O⟩:=O.peel 1 6 Z rfl
 try dsimp only at O
 obtain ⟨F,O⟩:=O.nM [27,6,5,4,3,0] [102,101,6,5,4,3,2,0]
 have hka:=hk.now.a
 have hks:=hk.now.s
 have hhb:=hok.held
 have hnz:=hok.szn
 have hnl:=hok.now_le
 have hnx:=hok.next
 have hnf:=hfit.next
 have hhn:0≤Za2 A:=by have:=Zdg hok.nn;unfold Za2;omega
 have hsz9:sizeH (ZN (hiA A) d).1≤2000000:=by have h1:=hsm.1.1;have h2:=hsm.2.1;have h3:=Zi3 hsm.2.2;unfold sizeH;omega
 refine Ya (Zu O (qR rr (qf (OpC.still (ZiF (cells:=[.pv _,.pv _,.pv _,.pv _,.pv _,.pv _,.pv _,.pv _,.pv _,.pv _]) (cells':=[.pv _,.pv _,.pv _,.pv _,.pv _,.pv _,.pv _,.pv _,.pv _,.pv _]) 2 4 Z Z (Zhy b A hok hdf.fit sc hk) func15 Z kr Z (Args.one .t)) (ZhB Ziv (ZgJ Zi0))) r1 r2 (qR rr (qf (o_nilCheck 2 .is (by rfl)) r1 r1 (qf (oF 1 2 .adr) r1 r1 (qf (oF 4 2 .adr) r1 r1 (qa 2 r1 r1 (qf (o_sub .t .t) r2 qz (qe 2 102 r1 r1 (qf (oP (ZoL (ZN (hiA A) d).1 hsm) func61 (Args.one (.pagg .t))) r1 qz (qf (o_add .t .t) r2 qz (qf (Zal .t qi) r1 qz (qO rr qZ))))))))))))) V [31,5,4,3,0] [102,101,6,5,4,3,2,0] Z Z fun a w F O=>?_)
 try dsimp only [List.map,xD,xE,xT,xU,ldSF,rRt,rSq,ZC,rTx,Zv,Zl,Zs,rOp,Zaa] at O
 refine Za (Zc O Z (fun hc2=>?_) (fun hc2=>?_))
 ·have hg:doA A d=(A,2):=by unfold doA;rw [Yb ow,Yf];rw [hks,Zj (x:=Za2 A - A.now.size) ow,Zj ow] at hc2;simpa using hc2
  refine Ya (rZ O (qI qZ) V [5,4,3,0] [102,101,6,5,4,3,2,0] fun O=>(Yh (Zr (Zf ?_))))
  have O:=O.fresh 1 rfl
  obtain ⟨F,O⟩:=O.push 1 6 Z Z Z kr
  obtain ⟨F,O⟩:=O.push 1 5 Z Z Z kr
  obtain ⟨F,O⟩:=O.push 1 4 Z Z Z kr
  obtain ⟨F,O⟩:=O.push 1 3 Z Z Z kr
  obtain ⟨F,O⟩:=O.push 1 2 Z Z Z kr
  have O:=O.turn 1 Z (r':=RS.hp (ZX (.pointer (some ⟨b,0,none⟩)) (doA A d).1)) (fun _ _ _ _ h=>⟨sc,(by rw [hg];exact hk),(by rw [hg];exact h)⟩)
  obtain ⟨F,O⟩:=O.nM [5,4,3,0] [102,101,1,0]
  refine ZE hG O Z (.tmp Z .nil) (.one (.int (by rw [hg]))) rfl
 have hle9:Za2 A - A.now.size+((sizeH (ZN (hiA A) d).1:Nat):Int)≤10000:=by rw [hks,Zj (x:=Za2 A - A.now.size) ow,Zj ow] at hc2;simpa using hc2
 have hg:doA A d=(⟨Zlv A d ((sizeH (ZN (hiA A) d).1:Nat):Int),A.snaps,A.next,A.all++d.now,A.seqs++d.new.map OrdD.txs⟩,0):=by unfold doA;rw [Yb ow,Yb ow]
 have hnn9:A.now.size≤Za2 A:=by have:=Zdg hok.nn;unfold Za2;omega
 refine Yd (Zi (Za (Ya (Zb O (qR rr (qf (o_nilCheck 2 .is (by rfl)) r1 r1 (qf (oF 1 2 .adr) r1 r1 (qf (oL true 5 2 .adr) r1 r1 (qf (oH [.pointer none,.int .i64 0,.pointer none,.int .i64 0,.int .i64 0] 103) trivial qz (qS 5 103 r2 r1 qZ)))))) V [7,5,4,3,0] [103,102,101,6,5,4,3,2,0] (fun _=>rfl) (fun _=>rfl) fun τ a w F O=>?_))))
 try dsimp only [RS.sub,SF.sub,CF.sub,csub,Anc.sub,List.map,Zd,xL,xM,Nat.reduceAdd,xD,xE,xT,xU,xC,xN,zCF,ldSF,rRt,rSq,ZC,rTx,Zv,Zl,Zs,rOp,Zaa] at O
 generalize τ 7=v7 at O
 obtain ⟨wb,rfl⟩:=O.shape 103 rfl
 obtain ⟨F,O⟩:=O.nM [7,5,4,3,0] [103,102,101,6,5,4,3,2,0]
 refine Za (Ya (Zh O (qe 2 102 r1 r1 (qf (oP (ZoL (ZN (hiA A) d).1 hsm) func61 (Args.one (.pagg .t))) r1 qz (qg 4 103 r1 r1 (qf (ZeU 103 .adr .t one_int kr kr) r2 r1 qZ)))) V [7,4,3,0] [103,102,101,6,5,4,3,2,0] Z Z fun a w F O=>?_))
 have O:=O.fresh 1 rfl
 obtain ⟨F,O⟩:=O.push 1 103 Z Z Z kr
 obtain ⟨F,O⟩:=O.push 1 6 Z Z Z kr
 obtain ⟨F,O⟩:=O.push 1 5 Z Z Z kr
 obtain ⟨F,O⟩:=O.push 1 4 Z Z Z kr
 obtain ⟨F,O⟩:=O.push 1 3 Z Z Z kr
 obtain ⟨F,O⟩:=O.push 1 2 Z Z Z kr
 have O:=O.turn 1 Z (r':=RS.hp (Zbs (.pointer (some ⟨b,0,none⟩)) (.pointer (some ⟨wb,0,none⟩)) A (rT1 A d ((sizeH (ZN (hiA A) d).1:Nat):Int) 0))) (fun _ _ _ _ h=>⟨(sc,⟨arV (some sc.b),sc.c.tr,sc.c.or,((sizeH (ZN (hiA A) d).1:Nat):Int)⟩),⟨hk.exMono (fun i hl=>ZqA (r:=rT1 A d ((sizeH (ZN (hiA A) d).1:Nat):Int) 0) Z hl),⟨rfl,hk.now.t,hk.now.o,rfl⟩⟩,h⟩)
 obtain ⟨F,O⟩:=O.nM [7,4,3,0] [102,101,1,0]
 refine Za (Ya (Ya (rZ O (qg 0 101 r1 r1 (qa 101 r1 r1 (qu YbP r1 (qJ qZ)))) V [54,53,52,7,4,3,0] [102,101,1,0] fun O=>Ye ?_)))
 refine Zk (σ:=(Nat)) [0,3,4,7,52,53] [0,101,102] (fun s=>[(54,.pv (.int .i64 (s:Int)))]) (fun s=>[(1,RS.hp (Zbs (.pointer (some ⟨b,0,none⟩)) (.pointer (some ⟨wb,0,none⟩)) A (rT1 A d ((sizeH (ZN (hiA A) d).1:Nat):Int) s)))]) (fun s=>s≤d.was.length∧(DoOk A (rT1 A d ((sizeH (ZN (hiA A) d).1:Nat):Int) s) (sizeH (hiA A)))) (fun s=>d.was.length - s) (0) O ⟨rfl,rfl,rfl,rfl,rfl,rfl,rfl,tv⟩ ⟨rfl,rfl,rfl,rfl,tv⟩ ⟨Yt _,DoOk.start hok _⟩ ?_
 clear O;intro i a w F hC O
 try dsimp only at hC
 obtain ⟨F,O⟩:=O.nM [54,53,52,7,4,3,0] [102,101,1,0]
 try dsimp only at O
 obtain ⟨hi,hq⟩:=hC
 have hD:=hq
 refine Ya (rZ O (qL r2) V [55,54,53,52,7,4,3,0] [102,101,1,0] fun O=>Ya ?_)
 refine Zc O Z (fun hc3=>?_) (fun hc3=>?_)
 ·have hil:i<d.was.length:=by simp at hc3;omega
  refine Yd (Za (Ya (Ye (Ya (Zb O (qy 3 YbP r2 (qf (oR true 3 .t) r1 qz (qf (oH [.int .i64 0,.bool false,.slice none 0 0] 104) trivial qz (qS 3 104 r2 r1 qZ)))) V [54,53,52,9,7,4,3,0] [104,102,101,1,0] (fun _=>rfl) (fun _=>rfl) fun τ a w F O=>?_)))))
  try dsimp only [RS.sub,SF.sub,CF.sub,csub,Anc.sub,List.map,Zd,xL,xM,Nat.reduceAdd,xD,xE,xT,xU,xC,xN,zCF,ldSF,rRt,rSq,ZC,rTx,Zv,Zl,Zs,rOp,Zaa] at O
  generalize τ 9=v9 at O
  try simp only [Yg] at O
  refine Za (Zh O (qR rr (qf (Ze4 (off:=0) .t kr) r1 qz (qg 0 104 r1 r1 (qa 104 r1 r1 (qf (o_callG1 1 (Zom b wb A hok hdf.fit (rT1 A d ((sizeH (ZN (hiA A) d).1:Nat):Int) i) hD.rok (YW hD.size ow) (Nn d.was i).id (Zr8 hok h0 hil)) func62 Z kr (Args.four .t .t (.conv .t ((Ent.adrK (by rfl)))) .t)) r4 r1 qZ))))) V [54,53,52,7,4,3,0] [104,102,101,1,0] Z Z fun a w F O=>?_)
  rw [← rT1_next hil] at O
  refine Zi (Za (rZ O (qp r1 (qR rr qZ)) V [54,53,52,7,4,3,0] [104,102,101,1,0] fun O=>?_))
  replace O:=O.ent (i:=54) (s':=.pv (.int .i64 ((i+1:Nat):Int))) Z (.int (Ze ow))
  obtain ⟨F,O⟩:=O.nM [53,52,7,4,3,0,54] [102,101,0,1]
  exact ⟨(i+1),F,⟨by omega,(by rw [rT1_next hil];exact hD.delT _)⟩,O,by omega⟩
 have hil:i=d.was.length:=by simp at hc3;omega
 refine Ym (Zg (Zg (Zo (Za (Ya (Ya (rZ O (qg 1 101 r1 r1 (qa 101 r1 r1 (qu YbP r1 (qJ qZ)))) V [67,66,65,7,4,3,0] [102,101,1,0] fun O=>Ye ?_)))))))
 replace O:=O.turn 1 Z (r':=RS.hp (Zbs (.pointer (some ⟨b,0,none⟩)) (.pointer (some ⟨wb,0,none⟩)) (stT A d 0) (rT2 A d ((sizeH (ZN (hiA A) d).1:Nat):Int) 0))) (fun _ _ _ _ h=>by rw [stT_zero,← rT_join hil];exact h)
 refine Zk (σ:=(Nat)) [0,3,4,7,65,66] [0,101,102] (fun s=>[(67,.pv (.int .i64 (s:Int)))]) (fun s=>[(1,RS.hp (Zbs (.pointer (some ⟨b,0,none⟩)) (.pointer (some ⟨wb,0,none⟩)) (stT A d s) (rT2 A d ((sizeH (ZN (hiA A) d).1:Nat):Int) s)))]) (fun s=>s≤d.now.length∧(DoOk (stT A d s) (rT2 A d ((sizeH (ZN (hiA A) d).1:Nat):Int) s) (sizeH (hiA A)+s))) (fun s=>d.now.length - s) (0) O ⟨rfl,rfl,rfl,rfl,rfl,rfl,rfl,tv⟩ ⟨rfl,rfl,rfl,rfl,tv⟩ ⟨Yt _,(by rw [stT_zero,← rT_join hil];exact hD)⟩ ?_
 clear O;intro i a w F hC O
 try dsimp only at hC
 obtain ⟨F,O⟩:=O.nM [67,66,65,7,4,3,0] [102,101,1,0]
 try dsimp only at O
 obtain ⟨hi,hq⟩:=hC
 have hD:=hq
 refine Ya (rZ O (qL r2) V [68,67,66,65,7,4,3,0] [102,101,1,0] fun O=>Ya ?_)
 refine Zc O Z (fun hc4=>?_) (fun hc4=>?_)
 ·have hil:i<d.now.length:=by simp at hc4;omega
  obtain ⟨⟨s2,c2⟩,O⟩:=O.open_ex 1 rfl
  obtain ⟨⟨hk2,hr2⟩,O⟩:=O.open_and 1 rfl
  obtain ⟨F,O⟩:=O.peel 1 2 Z rfl
  obtain ⟨F,O⟩:=O.peel 1 3 Z rfl
  obtain ⟨F,O⟩:=O.peel 1 4 Z rfl
  obtain ⟨F,O⟩:=O.peel 1 5 Z rfl
  obtain ⟨F,O⟩:=O.peel 1 6 Z rfl
  obtain ⟨F,O⟩:=O.peel 1 7 Z rfl
  try dsimp only at O
  dsimp only at hk2 hr2
  obtain ⟨F,O⟩:=O.nM [68,67,66,65,7,4,3,0] [102,101,7,6,5,4,3,2,0]
  refine Yd (Za (Ya (Ye (Ya (Zb O (qy 3 YbP r2 (qf (oR true 3 .t) r1 qz (qf (oH [.int .i64 0,.bool false,.slice none 0 0] 105) trivial qz (qS 3 105 r2 r1 qZ)))) V [67,66,65,11,7,4,3,0] [105,102,101,7,6,5,4,3,2,0] (fun _=>rfl) (fun _=>rfl) fun τ a w F O=>?_)))))
  try dsimp only [RS.sub,SF.sub,CF.sub,csub,Anc.sub,List.map,Zd,xL,xM,Nat.reduceAdd,xD,xE,xT,xU,xC,xN,zCF,ldSF,rRt,rSq,ZC,rTx,Zv,Zl,Zs,rOp,Zaa] at O
  generalize τ 11=v11 at O
  try simp only [Yg] at O
  refine Za (Ya (ZaK O (qR rr (qR rr (qf (o_nilCheck 2 .is (by rfl)) r1 r1 (qf (oF 8 2 .adr) r1 r1 (qa 2 r1 r1 (qe 3 105 r1 r1 (qf (oP (scopied_c (Nn d.now i) (by have:=hdf.ops _ (ZU hil);omega)) func54 (Args.one (.pagg .t))) r1 qz (qf (Zn (sz:=3) (zs:=[.int .i64 0,.bool false,.slice none 0 0]) (r:=[(0,.tmp 77)]) (l:=[_,_,_]) YbP kr kr kr kr Z Z (.agg Z (.conv .t .agg) kr kr .nil) Z) r1 qz (qf (o_append (sz:=3) (bs:=40) 5 (.mk' YbP kr kr) (by intro x;rfl) .is (.arr (l':=[(Nn d.now i)]) .t) (by simp only [Yl,Yq];have h9:=stT_len (A:=A) (d:=d) (i:=i) ow;have h8:=hdf.all;omega) (by decide)) ⟨rfl,rfl,tv⟩ ⟨rfl,tv⟩ (qf (o_nilCheck 2 .is (by rfl)) r1 r1 (qf (oF 8 2 .adr) r1 r1 (qf (ZbD 2 .adr kr kr) r2 r1 qZ)))))))))))) V [67,66,65,11,7,4,3,0] [105,102,101,7,6,5,4,3,2,0] (fun _=>rfl) (fun _=>rfl) fun τ a w F O=>?_))
  try dsimp only [RS.sub,SF.sub,CF.sub,csub,Anc.sub,List.map,Zd,xL,xM,Nat.reduceAdd,xD,xE,xT,xU,xC,xN,zCF,ldSF,rRt,rSq,ZC,rTx,Zv,Zl,Zs,rOp,Zaa] at O
  generalize τ 79=v79 at O
  rw [show (stT A d i).all ++ [(Nn d.now i)] = (stT A d (i+1)).all by rw [Zjc hil];rfl] at O
  have hDg:=hD.growT hil
  have hrep2:Zan (stT A d (i+1)) [(rT2 A d ((sizeH (ZN (hiA A) d).1:Nat):Int) i)] (⟨s2.b,s2.q,s2.c,s2.cs,s2.ck,s2.mv,v79,s2.sqv,s2.sr⟩:StC):=by rw [Zjc hil];exact hk2.addTx [(Nn d.now i)] v79
  refine Za ?_
  replace O:=O.fresh 1 rfl
  obtain ⟨F,O⟩:=O.nM [67,66,65,11,7,4,3,0] [105,102,101,7,6,5,4,3,2,1,0]
  refine Zu O (qR rr (qg 0 7 r1 r1 (qg 0 105 r1 r1 (qa 105 r1 r1 (qR rr (qf (o_nilCheck 2 .is (by rfl)) r1 r1 (qf (oF 8 2 .adr) r1 r1 (qa 2 r1 r1 (qf (Zap 5 YbP .is) r1 r1 (qf (o_sub .t qi) r1 qz (qf (OpC.push (m:=7) (OpC.push (m:=6) (OpC.push (m:=5) (OpC.push (m:=4) (OpC.push (m:=3) (OpC.push (m:=2) (o_callG1 1 (FnG.pre1 (Zqg b wb (stT A d (i+1)) hDg.ok (ZsF hdf) (rT2 A d ((sizeH (ZN (hiA A) d).1:Nat):Int) i) hDg.rok (YW hDg.size ow) (Nn d.now i).id ((A.all.length:Int)+i)) (fun _ _ _ h=>⟨((⟨s2.b,s2.q,s2.c,s2.cs,s2.ck,s2.mv,v79,s2.sqv,s2.sr⟩:StC),c2),⟨hrep2,hr2⟩,h⟩) (k2:=.star (ZbK (.pointer (some ⟨b,0,none⟩)) (.pointer (some ⟨wb,0,none⟩)) (stT A d (i+1)) (⟨s2.b,s2.q,s2.c,s2.cs,s2.ck,s2.mv,v79,s2.sqv,s2.sr⟩:StC) c2))) func63 Z kr (Args.five .t .t (.conv .t ((Ent.adrK (by rfl)))) .t (.conv .t (Ent.int (by rw [stT_len ow];have h8:=hdf.all;rw [Zj ow];omega))))) (by rfl) (by decide) (by simp) (by simp) (by simp)) (by rfl) (by decide) (by simp) (by simp) (by simp)) (by rfl) (by decide) (by simp) (by simp) (by simp)) (by rfl) (by decide) (by simp) (by simp) (by simp)) (by rfl) (by decide) (by simp) (by simp) (by simp)) (by rfl) (by decide) (by simp) (by simp) (by simp)) r5 r7 qZ))))))))))) V [67,66,65,7,4,3,0] [105,102,101,7,6,5,4,3,2,1,0] Z Z fun a w F O=>?_
  try dsimp only [List.map,xD,xE,xT,xU,ldSF,rRt,rSq,ZC,rTx,Zv,Zl,Zs,rOp,Zaa] at O
  rw [← Zl2 hil] at O
  obtain ⟨F,O⟩:=O.nM [67,66,65,7,4,3,0] [105,102,101,1,0]
  refine Zi (Za (rZ O (qp r1 (qR rr qZ)) V [67,66,65,7,4,3,0] [105,102,101,1,0] fun O=>?_))
  replace O:=O.ent (i:=67) (s':=.pv (.int .i64 ((i+1:Nat):Int))) Z (.int (Ze ow))
  obtain ⟨F,O⟩:=O.nM [66,65,7,4,3,0,67] [102,101,0,1]
  exact ⟨(i+1),F,⟨by omega,(hD.nextT hil)⟩,O,by omega⟩
 have hil:i=d.now.length:=by simp at hc4;omega
 refine Ym (Zg (Zg (Zo (Za (Ya (Ya (rZ O (qg 2 101 r1 r1 (qa 101 r1 r1 (qu YbQ r1 (qJ qZ)))) V [97,96,95,7,4,3,0] [102,101,1,0] fun O=>Ye ?_)))))))
 replace O:=O.turn 1 Z (r':=RS.hp (Zbs (.pointer (some ⟨b,0,none⟩)) (.pointer (some ⟨wb,0,none⟩)) (stO A d 0) (rO1 A d ((sizeH (ZN (hiA A) d).1:Nat):Int) 0))) (fun _ _ _ _ h=>by rw [← stTO_join hil,← rTO_join hil];exact h)
 refine Zk (σ:=(Nat)) [0,3,4,7,95,96] [0,101,102] (fun s=>[(97,.pv (.int .i64 (s:Int)))]) (fun s=>[(1,RS.hp (Zbs (.pointer (some ⟨b,0,none⟩)) (.pointer (some ⟨wb,0,none⟩)) (stO A d 0) (rO1 A d ((sizeH (ZN (hiA A) d).1:Nat):Int) s)))]) (fun s=>s≤d.old.length∧(DoOk (stO A d 0) (rO1 A d ((sizeH (ZN (hiA A) d).1:Nat):Int) s) (sizeH (hiA A)+d.now.length))) (fun s=>d.old.length - s) (0) O ⟨rfl,rfl,rfl,rfl,rfl,rfl,rfl,tv⟩ ⟨rfl,rfl,rfl,rfl,tv⟩ ⟨Yt _,(by rw [← stTO_join hil,← rTO_join hil,← hil];exact hD)⟩ ?_
 clear O;intro i a w F hC O
 try dsimp only at hC
 obtain ⟨F,O⟩:=O.nM [97,96,95,7,4,3,0] [102,101,1,0]
 try dsimp only at O
 obtain ⟨hi,hq⟩:=hC
 have hD:=hq
 refine Ya (rZ O (qL r2) V [98,97,96,95,7,4,3,0] [102,101,1,0] fun O=>Ya ?_)
 refine Zc O Z (fun hc5=>?_) (fun hc5=>?_)
 ·have hil:i<d.old.length:=by simp at hc5;omega
  refine Yd (Za (Ya (Ye (Ya (Zb O (qy 2 YbQ r2 (qf (oR true 2 .t) r1 qz (qf (oH [.int .i64 0,.slice none 0 0] 106) trivial qz (qS 2 106 r2 r1 qZ)))) V [97,96,95,13,7,4,3,0] [106,102,101,1,0] (fun _=>rfl) (fun _=>rfl) fun τ a w F O=>?_)))))
  try dsimp only [RS.sub,SF.sub,CF.sub,csub,Anc.sub,List.map,Zd,xL,xM,Nat.reduceAdd,xD,xE,xT,xU,xC,xN,zCF,ldSF,rRt,rSq,ZC,rTx,Zv,Zl,Zs,rOp,Zaa] at O
  generalize τ 13=v13 at O
  try simp only [Yg] at O
  refine Za (Zh O (qR rr (qf (Ze4 (off:=2) .t kr) r1 qz (qg 0 106 r1 r1 (qa 106 r1 r1 (qf (o_callG1 1 (Zp5 b wb (stO A d 0) hD.ok (ZlC hdf) (rO1 A d ((sizeH (ZN (hiA A) d).1:Nat):Int) i) hD.rok (YW hD.size ow) (Nn d.old i).key (ZsM hok h0 hil)) func62 Z kr (Args.four .t .t (.conv .t ((Ent.adrK (by rfl)))) .t)) r4 r1 qZ))))) V [97,96,95,7,4,3,0] [106,102,101,1,0] Z Z fun a w F O=>?_)
  rw [← rO1_next hil] at O
  refine Zi (Za (rZ O (qp r1 (qR rr qZ)) V [97,96,95,7,4,3,0] [106,102,101,1,0] fun O=>?_))
  replace O:=O.ent (i:=97) (s':=.pv (.int .i64 ((i+1:Nat):Int))) Z (.int (Ze ow))
  obtain ⟨F,O⟩:=O.nM [96,95,7,4,3,0,97] [102,101,0,1]
  exact ⟨(i+1),F,⟨by omega,(by rw [rO1_next hil];exact hD.delO _)⟩,O,by omega⟩
 have hil:i=d.old.length:=by simp at hc5;omega
 refine Ym (Zg (Zg (Zo (Za (Ya (Ya (rZ O (qg 3 101 r1 r1 (qa 101 r1 r1 (qu YbQ r1 (qJ qZ)))) V [110,109,108,7,4,0] [102,101,1,0] fun O=>Ye ?_)))))))
 replace O:=O.turn 1 Z (r':=RS.hp (Zbs (.pointer (some ⟨b,0,none⟩)) (.pointer (some ⟨wb,0,none⟩)) (stO A d 0) (rO2 A d ((sizeH (ZN (hiA A) d).1:Nat):Int) 0))) (fun _ _ _ _ h=>by rw [← rO_join hil];exact h)
 refine Zk (σ:=(Nat)) [0,4,7,108,109] [0,101,102] (fun s=>[(110,.pv (.int .i64 (s:Int)))]) (fun s=>[(1,RS.hp (Zbs (.pointer (some ⟨b,0,none⟩)) (.pointer (some ⟨wb,0,none⟩)) (stO A d s) (rO2 A d ((sizeH (ZN (hiA A) d).1:Nat):Int) s)))]) (fun s=>s≤d.new.length∧(DoOk (stO A d s) (rO2 A d ((sizeH (ZN (hiA A) d).1:Nat):Int) s) (sizeH (hiA A)+d.now.length+s+ZbS (d.new.take s)))) (fun s=>d.new.length - s) (0) O ⟨rfl,rfl,rfl,rfl,rfl,rfl,tv⟩ ⟨rfl,rfl,rfl,rfl,tv⟩ ⟨Yt _,(by rw [← rO_join hil];exact hD)⟩ ?_
 clear O;intro i a w F hC O
 try dsimp only at hC
 obtain ⟨F,O⟩:=O.nM [110,109,108,7,4,0] [102,101,1,0]
 try dsimp only at O
 obtain ⟨hi,hq⟩:=hC
 have hD:=hq
 refine Ya (rZ O (qL r2) V [111,110,109,108,7,4,0] [102,101,1,0] fun O=>Ya ?_)
 refine Zc O Z (fun hc6=>?_) (fun hc6=>?_)
 ·have hil:i<d.new.length:=by simp at hc6;omega
  obtain ⟨⟨s2,c2⟩,O⟩:=O.open_ex 1 rfl
  obtain ⟨⟨hk2,hr2⟩,O⟩:=O.open_and 1 rfl
  obtain ⟨F,O⟩:=O.peel 1 2 Z rfl
  obtain ⟨F,O⟩:=O.peel 1 3 Z rfl
  obtain ⟨F,O⟩:=O.peel 1 4 Z rfl
  obtain ⟨F,O⟩:=O.peel 1 5 Z rfl
  obtain ⟨F,O⟩:=O.peel 1 6 Z rfl
  obtain ⟨F,O⟩:=O.peel 1 7 Z rfl
  try dsimp only at O
  dsimp only at hk2 hr2
  obtain ⟨F,O⟩:=O.nM [111,110,109,108,7,4,0] [102,101,7,6,5,4,3,2,0]
  have hot:=Znm d.new i
  refine Yd (Za (Ya (Ye (Ya (Zb O (qy 2 YbQ r2 (qf (oR true 2 .t) r1 qz (qf (oH [.int .i64 0,.slice none 0 0] 107) trivial qz (qS 2 107 r2 r1 qZ)))) V [110,109,108,15,7,4,0] [107,102,101,7,6,5,4,3,2,0] (fun _=>rfl) (fun _=>rfl) fun τ a w F O=>?_)))))
  try dsimp only [RS.sub,SF.sub,CF.sub,csub,Anc.sub,List.map,Zd,xL,xM,Nat.reduceAdd,xD,xE,xT,xU,xC,xN,zCF,ldSF,rRt,rSq,ZC,rTx,Zv,Zl,Zs,rOp,Zaa] at O
  generalize τ 15=v15 at O
  try simp only [Yg] at O
  refine Za (Ya ?_)
  replace O:=O.fresh 9 rfl
  obtain ⟨F,O⟩:=O.push 9 7 Z Z Z kr
  obtain ⟨F,O⟩:=O.push 9 6 Z Z Z kr
  obtain ⟨F,O⟩:=O.push 9 5 Z Z Z kr
  obtain ⟨F,O⟩:=O.push 9 4 Z Z Z kr
  obtain ⟨F,O⟩:=O.push 9 3 Z Z Z kr
  obtain ⟨F,O⟩:=O.push 9 2 Z Z Z kr
  replace O:=O.turn 9 Z (r':=RS.hp (.star (ZbK (.pointer (some ⟨b,0,none⟩)) (.pointer (some ⟨wb,0,none⟩)) (stO A d i) s2 c2))) (fun _ _ _ _ h=>h)
  obtain ⟨F,O⟩:=O.nM [110,109,108,15,7,4,0] [107,102,101,9,0]
  refine Zh O (qR rr (qg 1 107 r1 r1 (qa 107 r1 r1 (qu YbO r1 (qf (o_callG1 9 (Zfa b wb (stO A d i) hD.ok (ZlC hdf) (rO2 A d ((sizeH (ZN (hiA A) d).1:Nat):Int) i) hD.rok (YW hD.size ow) s2 c2 ((Nn d.new i).txs.length:Int) hk2 hr2 (by have:=hdf.len _ (ZU hil);omega)) func64 Z kr (Args.three .t .t .t)) r3 r1 qZ))))) V [110,109,108,15,7,4,0] [107,102,101,9,0] Z Z fun a w F O=>?_
  obtain ⟨⟨s3,c3⟩,O⟩:=O.open_ex 9 rfl
  obtain ⟨hp3,O⟩:=O.open_and 9 rfl
  obtain ⟨F,O⟩:=O.peel 9 2 Z rfl
  obtain ⟨F,O⟩:=O.peel 9 3 Z rfl
  obtain ⟨F,O⟩:=O.peel 9 4 Z rfl
  obtain ⟨F,O⟩:=O.peel 9 5 Z rfl
  obtain ⟨F,O⟩:=O.peel 9 6 Z rfl
  obtain ⟨F,O⟩:=O.peel 9 7 Z rfl
  try dsimp only at O
  obtain ⟨F,O⟩:=O.nM [110,109,108,15,7,4,0] [107,102,101,7,6,5,4,3,2,0]
  have hlq:=hdf.len _ (ZU hil)
  have hrm:s3.q.length+(Nn d.new i).txs.length≤65536:=by rcases hp3.room with ⟨e9,h9⟩ | h9; (· simp only [Prod.mk.injEq] at e9;rw [e9.1];omega);dsimp only at h9;omega
  obtain ⟨e1,ro1,hM1,hR1⟩:=Zup s3.b (q:=s3.q) (Nn d.new i).txs hrm
  refine Za (Ya (ZaK O (qR rr (qf (o_nilCheck 2 .is (by rfl)) r1 r1 (qf (oF 0 2 .adr) r1 r1 (qa 2 r1 r1 (qg 1 107 r1 r1 (qa 107 r1 r1 (qf (o_callG1 3 (hM1) func65 Z kr (Args.two .t .t)) r2 r1 (qR rr (qf (o_extract .t Z) r1 qz (qf (o_extract .t Z) r1 qz (qf (oH [.pointer none,.int .i64 0] 108) trivial qz (qf (oA 2 108 .same (.conv .t .agg)) r2 r1 (qO rr qZ))))))))))))) V [110,109,108,16,15,7,4,0] [108,107,102,101,7,6,5,4,3,2,0] (fun _=>rfl) (fun _=>rfl) fun τ a w F O=>?_))
  try dsimp only [RS.sub,SF.sub,CF.sub,csub,Anc.sub,List.map,Zd,xL,xM,Nat.reduceAdd,xD,xE,xT,xU,xC,xN,zCF,ldSF,rRt,rSq,ZC,rTx,Zv,Zl,Zs,rOp,Zaa] at O
  generalize τ 16=v16 at O
  refine Za (Ya (ZaK O (qR rr (qR rr (qf (o_nilCheck 2 .is (by rfl)) r1 r1 (qf (oF 9 2 .adr) r1 r1 (qa 2 r1 r1 (qe 2 108 r1 r1 (qf (Zn (sz:=2) (zs:=[.pointer none,.int .i64 0]) (r:=[(0,.tmp 134)]) (l:=[_,_]) YbV kr kr kr kr Z Z (.agg Z .t kr kr .nil) Z) r1 qz (qf (o_append (sz:=2) (bs:=16) 6 (.mk' YbV kr kr) (by intro x;rfl) .is (.arr (l':=[(⟨arV (some s3.b),ro1⟩:SqC)]) .t) (by simp only [Yl,Yq];have h9:=hp3.rep.len;have h8:=hdf.seqs;have h7:=Ziu (A:=A) (d:=d) (i:=i) ow;dsimp only at h9;omega) (by decide)) ⟨rfl,rfl,tv⟩ ⟨rfl,tv⟩ (qf (o_nilCheck 2 .is (by rfl)) r1 r1 (qf (oF 9 2 .adr) r1 r1 (qf (ZbD 2 .adr kr kr) r2 r1 qZ))))))))))) V [110,109,108,15,7,4,0] [108,107,102,101,7,6,5,4,3,2,0] (fun _=>rfl) (fun _=>rfl) fun τ a w F O=>?_))
  try dsimp only [RS.sub,SF.sub,CF.sub,csub,Anc.sub,List.map,Zd,xL,xM,Nat.reduceAdd,xD,xE,xT,xU,xC,xN,zCF,ldSF,rRt,rSq,ZC,rTx,Zv,Zl,Zs,rOp,Zaa] at O
  generalize τ 136=v136 at O
  have hDg:=hD.growO hil
  have hr4:=hp3.rt.app (e:=e1)
  have hrep4:Zan (stO A d (i+1)) [(rO2 A d ((sizeH (ZN (hiA A) d).1:Nat):Int) i)] (⟨s3.b,s3.q++e1,s3.c,s3.cs,s3.ck,s3.mv,s3.alv,v136,s3.sr ++ [(⟨arV (some s3.b),ro1⟩:SqC)]⟩:StC):=by rw [Zk7 hil];exact hp3.rep.addSeq (Nn d.new i).txs e1 ⟨arV (some s3.b),ro1⟩ ⟨rfl,hR1⟩ hD.ok hD.rok.ov v136
  refine Za ?_
  replace O:=O.fresh 1 rfl
  obtain ⟨F,O⟩:=O.nM [110,109,108,15,7,4,0] [108,107,102,101,7,6,5,4,3,2,1,0]
  refine Zu O (qR rr (qg 2 7 r1 r1 (qg 0 107 r1 r1 (qa 107 r1 r1 (qR rr (qf (o_nilCheck 2 .is (by rfl)) r1 r1 (qf (oF 9 2 .adr) r1 r1 (qa 2 r1 r1 (qf (Zap 6 YbV .is) r1 r1 (qf (o_sub .t qi) r1 qz (qf (OpC.push (m:=7) (OpC.push (m:=6) (OpC.push (m:=5) (OpC.push (m:=4) (OpC.push (m:=3) (OpC.push (m:=2) (o_callG1 1 (FnG.pre1 (Zrq b wb (stO A d (i+1)) hDg.ok (ZlC hdf) (rO2 A d ((sizeH (ZN (hiA A) d).1:Nat):Int) i) hDg.rok (YW hDg.size ow) (Nn d.new i).key ((A.seqs.length:Int)+i) (by rw [Ziu ow];omega)) (fun _ _ _ h=>⟨((⟨s3.b,s3.q++e1,s3.c,s3.cs,s3.ck,s3.mv,s3.alv,v136,s3.sr ++ [(⟨arV (some s3.b),ro1⟩:SqC)]⟩:StC),c3),⟨hrep4,hr4⟩,h⟩) (k2:=.star (ZbK (.pointer (some ⟨b,0,none⟩)) (.pointer (some ⟨wb,0,none⟩)) (stO A d (i+1)) (⟨s3.b,s3.q++e1,s3.c,s3.cs,s3.ck,s3.mv,s3.alv,v136,s3.sr ++ [(⟨arV (some s3.b),ro1⟩:SqC)]⟩:StC) c3))) func63 Z kr (Args.five .t .t (.conv .t ((Ent.adrK (by rfl)))) .t (.conv .t (Ent.int (by have h9:=hp3.rep.len;have h8:=hdf.seqs;have h7:=Ziu (A:=A) (d:=d) (i:=i) ow;dsimp only at h9;rw [Yc,Yaq,Zj ow];omega))))) (by rfl) (by decide) (by simp) (by simp) (by simp)) (by rfl) (by decide) (by simp) (by simp) (by simp)) (by rfl) (by decide) (by simp) (by simp) (by simp)) (by rfl) (by decide) (by simp) (by simp) (by simp)) (by rfl) (by decide) (by simp) (by simp) (by simp)) (by rfl) (by decide) (by simp) (by simp) (by simp)) r5 r7 qZ))))))))))) V [110,109,108,7,4,0] [108,107,102,101,7,6,5,4,3,2,1,0] Z Z fun a w F O=>?_
  try dsimp only [List.map,xD,xE,xT,xU,ldSF,rRt,rSq,ZC,rTx,Zv,Zl,Zs,rOp,Zaa] at O
  rw [← ZlS hil] at O
  obtain ⟨F,O⟩:=O.nM [110,109,108,7,4,0] [108,107,102,101,1,0]
  refine Zi (Za (rZ O (qp r1 (qR rr qZ)) V [110,109,108,7,4,0] [108,107,102,101,1,0] fun O=>?_))
  replace O:=O.ent (i:=110) (s':=.pv (.int .i64 ((i+1:Nat):Int))) Z (.int (Ze ow))
  obtain ⟨F,O⟩:=O.nM [109,108,7,4,0,110] [102,101,0,1]
  exact ⟨(i+1),F,⟨by omega,(by rw [sizeO_next hil];have h9:=hD.nextO hil;exact (show sizeH (hiA A)+d.now.length+i+ZbS (d.new.take i)+1+(Nn d.new i).txs.length=sizeH (hiA A)+d.now.length+(i+1)+(ZbS (d.new.take i)+(Nn d.new i).txs.length) by omega) ▸ h9)⟩,O,by omega⟩
 have hil:i=d.new.length:=by simp at hc6;omega
 obtain ⟨⟨s5,c5⟩,O⟩:=O.open_ex 1 rfl
 obtain ⟨⟨hk5,hr5⟩,O⟩:=O.open_and 1 rfl
 obtain ⟨F,O⟩:=O.peel 1 2 Z rfl
 obtain ⟨F,O⟩:=O.peel 1 3 Z rfl
 obtain ⟨F,O⟩:=O.peel 1 4 Z rfl
 obtain ⟨F,O⟩:=O.peel 1 5 Z rfl
 obtain ⟨F,O⟩:=O.peel 1 6 Z rfl
 obtain ⟨F,O⟩:=O.peel 1 7 Z rfl
 try dsimp only at O
 dsimp only at hk5 hr5
 obtain ⟨F,O⟩:=O.nM [111,110,109,108,7,4,0] [102,101,7,6,5,4,3,2,0]
 refine Ym (Zg (Zg (Zo (Za (Ya (rZ O (qR rr (qe 5 7 r1 r1 (qf (o_nilCheck 2 .is (by rfl)) r1 r1 (qf (oF 1 2 .adr) r1 r1 (qf (oA 5 2 .adr .t) r2 r1 qZ))))) V [4] [102,101,7,6,5,4,3,2,0] fun O=>Ya ?_))))))
 refine rZ O (qI qZ) V [4] [102,101,7,6,5,4,3,2,0] fun O=>Yh ?_
 have O:=O.fresh 1 rfl
 obtain ⟨F,O⟩:=O.push 1 6 Z Z Z kr
 obtain ⟨F,O⟩:=O.push 1 5 Z Z Z kr
 obtain ⟨F,O⟩:=O.push 1 4 Z Z Z kr
 obtain ⟨F,O⟩:=O.push 1 3 Z Z Z kr
 obtain ⟨F,O⟩:=O.push 1 2 Z Z Z kr
 have O:=O.turn 1 Z (r':=RS.hp (ZX (.pointer (some ⟨b,0,none⟩)) (doA A d).1)) (fun _ _ _ _ h=>⟨(⟨s5.b,s5.q,c5,s5.cs,s5.ck,s5.mv,s5.alv,s5.sqv,s5.sr⟩:StC),(by rw [hg];have h9:=hk5.turn hr5;rw [ZoC hil,Zmf hil] at h9;exact h9),(by rw [hg];exact h)⟩)
 obtain ⟨F,O⟩:=O.nM [4] [1,0]
 refine ZE hG O Z (.tmp Z .nil) (.one (.int (by rw [hg]))) rfl
theorem Zpf  : FnG prog 7 1 [] [.star []] (PV.ptr) (fun v=>[ZX v Zf5]):=by
 refine FnG.mk func7 Z ntmps7 Z kr fun B F0 a w F V hG O=>Ya ?_
 refine rZ O (qC qZ) V [0] [1,0] fun O=>Ya ?_
 replace O:=O.fresh 101 rfl
 refine Zb O (qf (Zc3 101 (ZoU 65536) func45 Z kr (Args.one qi) PV.ptr_one) qz r1 (qO rr qZ)) V [1,0] [101,1,0] (fun _=>rfl) (fun _=>rfl) fun τ a w F O=>?_
 try dsimp only [RS.sub,SF.sub,CF.sub,csub,Anc.sub,List.map,Zl,rTx,Zv,ZY,Zs,rOp] at O
 generalize τ 2=v2 at O
 obtain ⟨_,_,_,ho⟩:=O.obGet 101 rfl
 obtain ⟨b9,rfl⟩:=Zik ho
 clear ho
 replace O:=O.turn 101 Z (r':=RS.hp (ZaV (.pointer (some ⟨b9,0,none⟩)) (Zb8 65536) [])) (fun _ _ _ _ h=>h)
 obtain ⟨F,O⟩:=O.nM [1,0] [101,1,0]
 rw [show Zb8 65536=65536 by decide] at O
 refine Za (Ya (Zb O (qR rr (qR rr (qf (oP (ZqR (some b9)) func46 (Args.one .t)) r1 qz (qf (ZcU (ek:=(fun c:RtC=>PV.agg (rRt c))) (ok:=(fun n:Int=>inR .i64 n)) (kv:=(fun n:Int=>Value.int .i64 n)) 102) trivial qz (qf (oB [(0,.tmp 3),(1,.tmp 5),(2,.tmp 6)] [.pointer none,.pointer none,.int .i64 0,.pointer none,.int .i64 0,.int .i64 0,.map none,.int .i64 0,.slice none 0 0,.slice none 0 0] [(0,1),(1,5),(6,1),(7,1),(8,1),(9,1)] (.one Z .t Zh3 kr (.agg Z (.conv .t .agg) kr kr (.same Z kr .nil)))) r3 qz (qf (oX 103 .t) r1 qz (qO rr qZ))))))) V [0] [103,102,101,1,0] (fun _=>rfl) (fun _=>rfl) fun τ a w F O=>?_))
 try dsimp only [RS.sub,SF.sub,CF.sub,csub,Anc.sub,List.map,Zd,xL,xM,Nat.reduceAdd,xD,xE,xT,xU,xC,xN,zCF,Zl,rTx,Zv,ZY,Zs,rOp] at O
 generalize τ 8=v8,τ 6=v6 at O
 refine Za (Yh ?_)
 obtain ⟨b,rfl⟩:=O.shape 103 rfl
 replace O:=O.fresh 80 rfl
 replace O:=O.turn 80 Z (ZaC (T:=36) (sz:=3) (R:=rTx))
 replace O:=O.fresh 81 rfl
 replace O:=O.turn 81 Z (ZaC (T:=114) (sz:=2) (R:=rSq))
 obtain ⟨F,O⟩:=O.push 1 81 Z Z Z kr
 obtain ⟨F,O⟩:=O.push 1 80 Z Z Z kr
 obtain ⟨F,O⟩:=O.push 1 102 Z Z Z kr
 obtain ⟨F,O⟩:=O.push 1 101 Z Z Z kr
 obtain ⟨F,O⟩:=O.push 1 103 Z Z Z kr
 replace O:=O.turn 1 Z (r':=RS.hp (ZX (.pointer (some ⟨b,0,none⟩)) Zf5)) (fun _ _ _ _ h=>⟨_,Zan.zero b9 v6 (.slice none 0 0) (.slice none 0 0),h⟩)
 refine Zed (h':=fun v=>ZX v Zf5) hG O Z (.tmp Z .nil) (.one .ptr) rfl
theorem Zeu {l:List TxD} {id:Int} : (Zbk l id).isSome=isK TxD.id id l:=by
 unfold Zbk isK
 rw [Y6,List.find?_isSome,Ya9]
theorem Zd7 {g:Zx} (h:ZG g):NE g.orders:=fun o ho=>by
 have h2:=(Zdb g).2 h.2.2
 obtain ⟨j,hj,e⟩:=YH ho
 have:=(h2.2 j hj).2.1
 rwa [Zy hj,e] at this
theorem Ztq {g:Zx} {t:TxD} {there:Int} {wanted:Bool} (h:¬ ZG g):Zjs g t there wanted=(0,5):=Yf h
theorem Zty {g:Zx} {t:TxD} {there:Int} {wanted:Bool} (h:ZG g) (h2:Zaf t≠0):Zjs g t there wanted=(0,Zaf t):=by unfold Zjs;rw [Yb (YQ.2 h),Yf h2]
theorem Ztw {g:Zx} {t:TxD} {there:Int} {wanted:Bool} (h:ZG g) (h2:Zaf t=0) (h3:isK TxD.id t.id g.txs≠wanted):Zjs g t there wanted=(0,there):=by unfold Zjs;rw [Yb (YQ.2 h),Yb (YQ.2 h2),Yf h3]
theorem Ztj {g:Zx} {t:TxD} {there:Int} {wanted:Bool} (h:ZG g) (h2:Zaf t=0) (h3:isK TxD.id t.id g.txs=wanted) (h4:Za3 g t=false):Zjs g t there wanted=(0,6):=by unfold Zjs;rw [Yb (YQ.2 h),Yb (YQ.2 h2),Yb (YQ.2 h3),Yf h4]
theorem Zqs {g:Zx} {t:TxD} {there:Int} {wanted:Bool} (h:ZG g) (h2:Zaf t=0) (h3:isK TxD.id t.id g.txs=wanted) (h4:Za3 g t=true):Zjs g t there wanted=(((lowK TxD.id t.id g.txs:Nat):Int),0):=by unfold Zjs;rw [Yb (YQ.2 h),Yb (YQ.2 h2),Yb (YQ.2 h3),Yb (by simp [h4])]
theorem Ziz {g:Zx} {t:TxD} {e:Int} (h:Zjs g t 4 false=(0,e)) (he:e≠0):Zbz g t=(Zbi,e):=by unfold Zbz;rw [h];exact Yf he
theorem Zmv {g:Zx} {t:TxD} {e:Int} (h:Zjs g t 3 true=(0,e)) (he:e≠0):ZcA g t=(Zbi,e):=by unfold ZcA;rw [h];exact Yf he
theorem Zqt {g:Zx} {t:TxD} (h:ZG g) (h2:Zaf t=0) (h3:isK TxD.id t.id g.txs=false) (h4:Za3 g t=true) (h5:4096≤g.txs.length):Zbz g t=(Zbi,2):=by
 have:=h.1
 unfold Zbz
 rw [Zqs h h2 h3 h4,Yb (by simp),Yf ow]
theorem Zri {g:Zx} {t:TxD} (hs:ZbG g.orders) (h:ZG g) (h2:Zaf t=0) (h3:isK TxD.id t.id g.txs=false) (h4:Za3 g t=true) (h5:¬ 4096≤g.txs.length):Zbz g t=(⟨putGR TxD.id t g.txs false,ZcS t g.orders⟩,0):=by
 have hr:=ZaF h
 unfold Zbz
 rw [Zqs h h2 h3 h4,Yb (by simp),Yb ow,Zfz hr.2 hs (Zd7 h),Zhi (ZT.1 hr.1) h3]
theorem ZrZ {g:Zx} {t:TxD} (h:ZG g) (h2:Zaf t=0) (h3:isK TxD.id t.id g.txs=true) (h4:Za3 g t=true) (h5:Zg6 g t=true):ZcA g t=(Zbi,7):=by
 unfold ZcA
 rw [Zqs h h2 h3 h4,Yb (by simp),Yf h5]
theorem Zse {g:Zx} {t:TxD} (hs:ZbG g.orders) (h:ZG g) (h2:Zaf t=0) (h3:isK TxD.id t.id g.txs=true) (h4:Za3 g t=true) (h5:Zg6 g t=false):ZcA g t=(⟨putGR TxD.id t g.txs false,ZcS t g.orders⟩,0):=by
 have hr:=ZaF h
 unfold ZcA
 rw [Zqs h h2 h3 h4,Yb (by simp),Yb (by simp [h5]),Zfz hr.2 hs (Zd7 h),Zhp (ZT.1 hr.1) h3]
theorem ZtO {g:Zx} {id:Int} (h:¬ ZG g):Zbl g id=(Zbi,5):=Yf h
theorem ZtP {g:Zx} {id:Int} (h:ZG g) (h2:isK TxD.id id g.txs=false):Zbl g id=(Zbi,3):=by unfold Zbl;rw [Yb (YQ.2 h),Yf h2]
theorem Zt1 {g:Zx} {id:Int} (h:ZG g) (h2:isK TxD.id id g.txs=true) (h3:Zg6 g (Zey id)=true):Zbl g id=(Zbi,7):=by unfold Zbl;rw [Yb (YQ.2 h),Yb (by simp [h2]),Yf h3]
theorem ZtU {g:Zx} {id:Int} (hs:ZbG g.orders) (h:ZG g) (h2:isK TxD.id id g.txs=true) (h3:Zg6 g (Zey id)=false):Zbl g id=(⟨g.txs.filter fun x=>!decide (x.id=id),ZcS (Zey id) g.orders⟩,0):=by
 have hr:=ZaF h
 unfold Zbl
 rw [Yb (YQ.2 h),Yb (by simp [h2]),Yb (by simp [h3]),Zfz hr.2 hs (Zd7 h),ZhU (ZT.1 hr.1) h2]
theorem Zn7 {os:List OrdD} {k:Int} (hr:ZeA OrdD.key os) (h:isK OrdD.key k os=true):getO os k=(Nn os (lowK OrdD.key k os)).txs:=by
 obtain ⟨h1,h2⟩:=Zjn hr h
 have:=Zd4 (ZT.1 hr) (ZU h1)
 rwa [h2] at this
theorem ZoW {os:List OrdD} {k:Int} (hr:ZeA OrdD.key os) (hn:NE os):getO os k = [] ↔ isK OrdD.key k os=false:=by
 constructor
 ·intro h
  cases hk:isK OrdD.key k os with
  | false=>rfl
  | true=>
   rw [Zn7 hr hk] at h
   exact absurd h (hn _ (ZU (Zjn hr hk).1))
 ·exact ZpY
theorem Zp4 {g:Zx} {key:Int} {rule:List Int→List Int×Int} (h:¬ ZG g):ZbJ g key rule=(Zbi,5):=Yf h
theorem Zpp {g:Zx} {key:Int} {rule:List Int→List Int×Int} (h:ZG g) (h2:getO g.orders key = []):ZbJ g key rule=(Zbi,3):=by
 unfold ZbJ
 rw [Yb (YQ.2 h),Yf ((ZoW (ZaF h).2 (Zd7 h)).1 h2)]
theorem ZpF {g:Zx} {key:Int} (h:ZG g) (h2:getO g.orders key≠[]):isK OrdD.key key g.orders=true:=by
 cases hk:isK OrdD.key key g.orders with
 | true=>rfl
 | false=>exact absurd ((ZoW (ZaF h).2 (Zd7 h)).2 hk) h2
theorem Zpq {g:Zx} {key:Int} {rule:List Int→List Int×Int} (h:ZG g) (h2:getO g.orders key≠[]) (h3:(rule (getO g.orders key)).2≠0):ZbJ g key rule=(Zbi,(rule (getO g.orders key)).2):=by
 have hk:=ZpF h h2
 have hg:=Zn7 (ZaF h).2 hk
 unfold ZbJ
 rw [Yb (YQ.2 h),Yb (by simp [hk]),← hg,Yf h3]
theorem ZoV {g:Zx} {key:Int} {rule:List Int→List Int×Int} (h:ZG g) (h2:getO g.orders key≠[]) (h3:(rule (getO g.orders key)).2=0) (h4:(rule (getO g.orders key)).1≠[]):ZbJ g key rule=(⟨g.txs,putGR OrdD.key ⟨key,(rule (getO g.orders key)).1⟩ g.orders (decide ((rule (getO g.orders key)).1 = []))⟩,0):=by
 have hk:=ZpF h h2
 have hr:=(ZaF h).2
 have hg:=Zn7 hr hk
 unfold ZbJ
 rw [Yb (YQ.2 h),Yb (by simp [hk]),← hg,Yb (by simp [h3]),Yu h4,Zhp (κ:=OrdD.key) (t:=⟨key,(rule (getO g.orders key)).1⟩) (ZT.1 hr) hk,(Zjn hr hk).2]
theorem ZkL {l:List Int} {id place:Int} (h:(Zcp l id place).2=0):(Zcp l id place).1.Perm l:=by
 have h9:=h
 unfold Zcp at h9
 split at h9
 ·simp at h9
 ·rename_i h1
  split at h9
  ·simp at h9
  ·rename_i h2
   refine Znv ?_ (YQ.1 h2)
   refine Yae fun hm=>h1 ?_
   rw [Zjh hm];decide
structure EdD where
 kind:Int
 t:TxD
 o:OrdD
 place:Int
 deriving DecidableEq,Inhabited
def rEd (e:EdD):List PV:=[.int .i64 e.kind,.int .i64 e.t.id,.bool e.t.done,.sl rOp e.t.ops,.int .i64 e.o.key,.sl Zs e.o.txs,.int .i64 e.place]
def doH (g:Zx) (e:EdD):Zx×Int:=if e.kind=0 then Zbz g e.t else if e.kind=1 then Zbl g e.t.id else if e.kind=2 then ZcA g e.t else if e.kind=3 then ZcB g e.o else if e.kind=4 then ZjM g e.o.key e.t.id e.place else (Zbi,5)
def ZeG (e:EdD):Prop:=e.t.ops.length≤24∧e.o.txs.length≤24
instance (e:EdD):Decidable (ZeG e):=by unfold ZeG;exact inferInstance
def ZrB (l:List EdD):Prop:=l.length≤24 ∧ ∀ e ∈ l,ZeG e
instance (l:List EdD):Decidable (ZrB l):=by unfold ZrB;exact inferInstance
theorem Zlo (g:Zx) (t:TxD) (hs:Zbb g) (ht:t.ops.length≤1000):FnP prog 69 [.agg (Zl g),.agg (rTx t)] (.tup [.agg (Zl (Zbz g t).1),.int .i64 (Zbz g t).2]):=by
 refine FnP.mk func69 Z ntmps69 Z fun B a w F V hfr O=>?_
 have hsl:=hs.1.1
 refine Ya (Zb O (qx 101 r1 (qx 102 r1 (qf (oH [.slice none 0 0,.slice none 0 0] 103) trivial qz (qI qZ)))) V [5,4,3,2] [103,102,101,0] (fun _=>rfl) (fun _=>rfl) fun τ a w F O=>?_)
 try dsimp only [RS.sub,SF.sub,CF.sub,csub,Anc.sub,List.map,zCF,Zl,rTx,Zv,ZY,Zs,rOp] at O
 generalize τ 2=v2,τ 3=v3,τ 4=v4 at O
 refine Za (Ya (Ya (rZ O (qe 2 101 r1 r1 (qf (oP (Zbg g hs) func128 (Args.one (.pagg .t))) r1 qz (qf (Z1 .t) r1 qz qZ))) V [11,5,4,3,2] [103,102,101,0] fun O=>?_)))
 refine Zc O Z (fun hc0=>?_) (fun hc0=>?_)
 ·have hr:¬ ZG g:=by simpa using hc0
  have hg:=Ziz (t:=t) (Ztq hr) (by decide)
  refine Ya (rZ O (qf (oB [] [.slice none 0 0,.slice none 0 0] [(0,1),(1,1)] .nil) trivial qz (qs 2 103 r2 r1 (qI qZ))) V [5,4,3,2] [103,102,101,0] fun O=>(Yh (Zf ?_)))
  refine Z3 hfr O Z (.cl 103 true 2 Z Z (.tmp Z .nil)) (.two (by rw [hg];first | exact .aggU Z Z | exact .aggLe Z ⟨Zay.nilSl,Zay.nilSl,tv⟩) (.int (by rw [hg])))
 have hr:ZG g:=by simpa using hc0
 refine Yd (Za (Ya (Ya (rZ O (qe 3 102 r1 r1 (qf (oP (Zdv t) func131 (Args.one (.pagg .t))) r1 qz (qO rr qZ))) V [6,5,4,3,2] [103,102,101,0] fun O=>Ya ?_))))
 refine rZ O (qR rr (qf (o_neq .t qi) r1 qz qZ)) V [16,6,5,4,3,2] [103,102,101,0] fun O=>?_
 refine Zc O Z (fun hc1=>?_) (fun hc1=>?_)
 ·have hrt:Zaf t≠0:=by simpa using hc1
  have hg:=Ziz (Zty hr hrt) hrt
  refine Ya (rZ O (qf (oB [] [.slice none 0 0,.slice none 0 0] [(0,1),(1,1)] .nil) trivial qz (qR rr (qs 2 103 r2 r1 (qO rr qZ)))) V [5,4,3,2] [103,102,101,0] fun O=>(Yh (Zf ?_)))
  refine Z3 hfr O Z (.cl 103 true 2 Z Z (.tmp Z .nil)) (.two (by rw [hg];first | exact .aggU Z Z | exact .aggLe Z ⟨Zay.nilSl,Zay.nilSl,tv⟩) (.int (by rw [hg])))
 have hrt:Zaf t=0:=by simpa using hc1
 refine Yd (Za (Ya (Ya (Zb O (qe 2 101 r1 r1 (qg 0 102 r1 r1 (qa 102 r1 r1 (qf (oP (ZdQ g t.id hs.1) func12 (Args.two (.pagg .t) .t)) r2 qz (qR rr (qf (o_extract .t Z) r1 qz (qf (o_extract .t Z) r1 qz (qf (oH [.int .i64 0,.bool false,.slice none 0 0] 104) trivial qz (qf (oA 3 104 .same (.conv .t .agg)) r2 r1 (qO rr qZ)))))))))) V [8,5,4,3,2] [104,103,102,101,0] (fun _=>rfl) (fun _=>rfl) fun τ a w F O=>?_))))
 try dsimp only [RS.sub,SF.sub,CF.sub,csub,Anc.sub,List.map,Zd,xL,xM,Nat.reduceAdd,xD,xE,xT,xU,xC,xN,zCF,ldSF,Zl,rTx,Zv,ZY,Zs,rOp] at O
 generalize τ 7=v7 at O
 refine Za (Ya (rZ O (qR rr qZ) V [26,5,4,3,2] [104,103,102,101,0] fun O=>?_))
 refine Zc O Z (fun hc2=>?_) (fun hc2=>?_)
 ·have hik:isK TxD.id t.id g.txs=true:=by rw [← Zeu];simpa using hc2
  have hg:=Ziz (Ztw hr hrt (by rw [hik];decide)) (by decide)
  refine Ya (rZ O (qf (oB [] [.slice none 0 0,.slice none 0 0] [(0,1),(1,1)] .nil) trivial qz (qs 2 103 r2 r1 (qI qZ))) V [5,4,3,2] [104,103,102,101,0] fun O=>(Yh (Zf ?_)))
  refine Z3 hfr O Z (.cl 103 true 2 Z Z (.tmp Z .nil)) (.two (by rw [hg];first | exact .aggU Z Z | exact .aggLe Z ⟨Zay.nilSl,Zay.nilSl,tv⟩) (.int (by rw [hg])))
 have hik:isK TxD.id t.id g.txs=false:=by rw [← Zeu];simpa using hc2
 refine Yd (Za (Ya (Ya (rZ O (qe 2 101 r1 r1 (qe 3 102 r1 r1 (qf (oP (Zew g t hs.1 ht) func132 (Args.two (.pagg .t) (.pagg .t))) r2 qz (qf (Z1 .t) r1 qz qZ)))) V [31,5,4,3,2] [104,103,102,101,0] fun O=>?_))))
 refine Zc O Z (fun hc3=>?_) (fun hc3=>?_)
 ·have hg:=Ziz (Ztj hr hrt hik (by simpa using hc3)) (by decide)
  refine Ya (rZ O (qf (oB [] [.slice none 0 0,.slice none 0 0] [(0,1),(1,1)] .nil) trivial qz (qs 2 103 r2 r1 (qI qZ))) V [5,4,3,2] [104,103,102,101,0] fun O=>(Yh (Zf ?_)))
  refine Z3 hfr O Z (.cl 103 true 2 Z Z (.tmp Z .nil)) (.two (by rw [hg];first | exact .aggU Z Z | exact .aggLe Z ⟨Zay.nilSl,Zay.nilSl,tv⟩) (.int (by rw [hg])))
 have hnd:Za3 g t=true:=by simpa using hc3
 refine Yd (Za (Ya (Ya (rZ O (qg 0 101 r1 r1 (qa 101 r1 r1 (qu YbP r1 (qf (Zcx .t qi) r1 qz qZ)))) V [36,5,4,3,2] [104,103,102,101,0] fun O=>?_))))
 refine Zc O Z (fun hc4=>?_) (fun hc4=>?_)
 ·have hg:=Zqt hr hrt hik hnd (by simp at hc4;omega)
  refine Ya (rZ O (qf (oB [] [.slice none 0 0,.slice none 0 0] [(0,1),(1,1)] .nil) trivial qz (qs 2 103 r2 r1 (qI qZ))) V [5,4,3,2] [104,103,102,101,0] fun O=>(Yh (Zf ?_)))
  refine Z3 hfr O Z (.cl 103 true 2 Z Z (.tmp Z .nil)) (.two (by rw [hg];first | exact .aggU Z Z | exact .aggLe Z ⟨Zay.nilSl,Zay.nilSl,tv⟩) (.int (by rw [hg])))
 have hg:=Zri hs.2 hr hrt hik hnd (by simp at hc4;omega)
 refine Yd (Za (Ya (Zu O (qg 0 101 r1 r1 (qa 101 r1 r1 (qe 3 102 r1 r1 (qf (oP (Zn9 g.txs t ow) func133 (Args.two .t (.pagg .t))) r2 qz (qg 1 101 r1 r1 (qa 101 r1 r1 (qe 3 102 r1 r1 (qf (oP (Zer g.orders t hs.2 ht) func134 (Args.two .t (.pagg .t))) r2 qz (qf (oB [(0,.tmp 41),(1,.tmp 45)] [.slice none 0 0,.slice none 0 0] [(0,1),(1,1)] (.one Z .t Zas kr (.one Z .t Zas kr .nil))) r2 qz (qs 2 103 r2 r1 (qI qZ))))))))))) V [5,4] [104,103,102,101,0] Z Z fun a w F O=>?_)))
 try dsimp only [List.map,Zd,xL,xM,Nat.reduceAdd,xD,xE,xT,xU,xC,xN,zCF,ldSF,Zl,rTx,Zv,ZY,Zs,rOp] at O
 refine Za (Yh (Z3 hfr O Z (.cl 103 true 2 Z Z (.tmp Z .nil)) (.two (by rw [hg];first | exact .aggU Z Z | exact .aggLe Z ⟨Zay.nilSl,Zay.nilSl,tv⟩) (.int (by rw [hg])))))
theorem Zm8 (g:Zx) (t:TxD) (hs:Zbb g) (ht:t.ops.length≤1000):FnP prog 71 [.agg (Zl g),.agg (rTx t)] (.tup [.agg (Zl (ZcA g t).1),.int .i64 (ZcA g t).2]):=by
 refine FnP.mk func71 Z ntmps71 Z fun B a w F V hfr O=>?_
 have hsl:=hs.1.1
 refine Ya (Zb O (qx 101 r1 (qx 102 r1 (qf (oH [.slice none 0 0,.slice none 0 0] 103) trivial qz (qI qZ)))) V [5,4,3,2] [103,102,101,0] (fun _=>rfl) (fun _=>rfl) fun τ a w F O=>?_)
 try dsimp only [RS.sub,SF.sub,CF.sub,csub,Anc.sub,List.map,zCF,Zl,rTx,Zv,ZY,Zs,rOp] at O
 generalize τ 2=v2,τ 3=v3,τ 4=v4 at O
 refine Za (Ya (Ya (rZ O (qe 2 101 r1 r1 (qf (oP (Zbg g hs) func128 (Args.one (.pagg .t))) r1 qz (qf (Z1 .t) r1 qz qZ))) V [11,5,4,3,2] [103,102,101,0] fun O=>?_)))
 refine Zc O Z (fun hc0=>?_) (fun hc0=>?_)
 ·have hr:¬ ZG g:=by simpa using hc0
  have hg:=Zmv (t:=t) (Ztq hr) (by decide)
  refine Ya (rZ O (qf (oB [] [.slice none 0 0,.slice none 0 0] [(0,1),(1,1)] .nil) trivial qz (qs 2 103 r2 r1 (qI qZ))) V [5,4,3,2] [103,102,101,0] fun O=>(Yh (Zf ?_)))
  refine Z3 hfr O Z (.cl 103 true 2 Z Z (.tmp Z .nil)) (.two (by rw [hg];first | exact .aggU Z Z | exact .aggLe Z ⟨Zay.nilSl,Zay.nilSl,tv⟩) (.int (by rw [hg])))
 have hr:ZG g:=by simpa using hc0
 refine Yd (Za (Ya (Ya (rZ O (qe 3 102 r1 r1 (qf (oP (Zdv t) func131 (Args.one (.pagg .t))) r1 qz (qO rr qZ))) V [6,5,4,3,2] [103,102,101,0] fun O=>Ya ?_))))
 refine rZ O (qR rr (qf (o_neq .t qi) r1 qz qZ)) V [16,6,5,4,3,2] [103,102,101,0] fun O=>?_
 refine Zc O Z (fun hc1=>?_) (fun hc1=>?_)
 ·have hrt:Zaf t≠0:=by simpa using hc1
  have hg:=Zmv (Zty hr hrt) hrt
  refine Ya (rZ O (qf (oB [] [.slice none 0 0,.slice none 0 0] [(0,1),(1,1)] .nil) trivial qz (qR rr (qs 2 103 r2 r1 (qO rr qZ)))) V [5,4,3,2] [103,102,101,0] fun O=>(Yh (Zf ?_)))
  refine Z3 hfr O Z (.cl 103 true 2 Z Z (.tmp Z .nil)) (.two (by rw [hg];first | exact .aggU Z Z | exact .aggLe Z ⟨Zay.nilSl,Zay.nilSl,tv⟩) (.int (by rw [hg])))
 have hrt:Zaf t=0:=by simpa using hc1
 refine Yd (Za (Ya (Ya (Zb O (qe 2 101 r1 r1 (qg 0 102 r1 r1 (qa 102 r1 r1 (qf (oP (ZdQ g t.id hs.1) func12 (Args.two (.pagg .t) .t)) r2 qz (qR rr (qf (o_extract .t Z) r1 qz (qf (o_extract .t Z) r1 qz (qf (oH [.int .i64 0,.bool false,.slice none 0 0] 104) trivial qz (qf (oA 3 104 .same (.conv .t .agg)) r2 r1 (qO rr qZ)))))))))) V [8,5,4,3,2] [104,103,102,101,0] (fun _=>rfl) (fun _=>rfl) fun τ a w F O=>?_))))
 try dsimp only [RS.sub,SF.sub,CF.sub,csub,Anc.sub,List.map,Zd,xL,xM,Nat.reduceAdd,xD,xE,xT,xU,xC,xN,zCF,ldSF,Zl,rTx,Zv,ZY,Zs,rOp] at O
 generalize τ 7=v7 at O
 refine Za (Ya (rZ O (qR rr (qf (Z1 .t) r1 qz qZ)) V [27,5,4,3,2] [104,103,102,101,0] fun O=>?_))
 refine Zc O Z (fun hc2=>?_) (fun hc2=>?_)
 ·have hik:isK TxD.id t.id g.txs=false:=by rw [← Zeu];simpa using hc2
  have hg:=Zmv (Ztw hr hrt (by rw [hik];decide)) (by decide)
  refine Ya (rZ O (qf (oB [] [.slice none 0 0,.slice none 0 0] [(0,1),(1,1)] .nil) trivial qz (qs 2 103 r2 r1 (qI qZ))) V [5,4,3,2] [104,103,102,101,0] fun O=>(Yh (Zf ?_)))
  refine Z3 hfr O Z (.cl 103 true 2 Z Z (.tmp Z .nil)) (.two (by rw [hg];first | exact .aggU Z Z | exact .aggLe Z ⟨Zay.nilSl,Zay.nilSl,tv⟩) (.int (by rw [hg])))
 have hik:isK TxD.id t.id g.txs=true:=by rw [← Zeu];simpa using hc2
 refine Yd (Za (Ya (Ya (rZ O (qe 2 101 r1 r1 (qe 3 102 r1 r1 (qf (oP (Zew g t hs.1 ht) func132 (Args.two (.pagg .t) (.pagg .t))) r2 qz (qf (Z1 .t) r1 qz qZ)))) V [32,5,4,3,2] [104,103,102,101,0] fun O=>?_))))
 refine Zc O Z (fun hc3=>?_) (fun hc3=>?_)
 ·have hg:=Zmv (Ztj hr hrt hik (by simpa using hc3)) (by decide)
  refine Ya (rZ O (qf (oB [] [.slice none 0 0,.slice none 0 0] [(0,1),(1,1)] .nil) trivial qz (qs 2 103 r2 r1 (qI qZ))) V [5,4,3,2] [104,103,102,101,0] fun O=>(Yh (Zf ?_)))
  refine Z3 hfr O Z (.cl 103 true 2 Z Z (.tmp Z .nil)) (.two (by rw [hg];first | exact .aggU Z Z | exact .aggLe Z ⟨Zay.nilSl,Zay.nilSl,tv⟩) (.int (by rw [hg])))
 have hnd:Za3 g t=true:=by simpa using hc3
 refine Yd (Za (Ya (Ya (rZ O (qe 2 101 r1 r1 (qe 3 102 r1 r1 (qf (oP (Zkj g t hs.1 ht) func135 (Args.two (.pagg .t) (.pagg .t))) r2 qz qZ))) V [36,5,4,3,2] [104,103,102,101,0] fun O=>?_))))
 refine Zc O Z (fun hc4=>?_) (fun hc4=>?_)
 ·have hg:=ZrZ hr hrt hik hnd (by simpa using hc4)
  refine Ya (rZ O (qf (oB [] [.slice none 0 0,.slice none 0 0] [(0,1),(1,1)] .nil) trivial qz (qs 2 103 r2 r1 (qI qZ))) V [5,4,3,2] [104,103,102,101,0] fun O=>(Yh (Zf ?_)))
  refine Z3 hfr O Z (.cl 103 true 2 Z Z (.tmp Z .nil)) (.two (by rw [hg];first | exact .aggU Z Z | exact .aggLe Z ⟨Zay.nilSl,Zay.nilSl,tv⟩) (.int (by rw [hg])))
 have hg:=Zse hs.2 hr hrt hik hnd (by simpa using hc4)
 refine Yd (Za (Ya (Zu O (qg 0 101 r1 r1 (qa 101 r1 r1 (qe 3 102 r1 r1 (qf (oP (Zn9 g.txs t ow) func133 (Args.two .t (.pagg .t))) r2 qz (qg 1 101 r1 r1 (qa 101 r1 r1 (qe 3 102 r1 r1 (qf (oP (Zer g.orders t hs.2 ht) func134 (Args.two .t (.pagg .t))) r2 qz (qf (oB [(0,.tmp 41),(1,.tmp 45)] [.slice none 0 0,.slice none 0 0] [(0,1),(1,1)] (.one Z .t Zas kr (.one Z .t Zas kr .nil))) r2 qz (qs 2 103 r2 r1 (qI qZ))))))))))) V [5,4] [104,103,102,101,0] Z Z fun a w F O=>?_)))
 try dsimp only [List.map,Zd,xL,xM,Nat.reduceAdd,xD,xE,xT,xU,xC,xN,zCF,ldSF,Zl,rTx,Zv,ZY,Zs,rOp] at O
 refine Za (Yh (Z3 hfr O Z (.cl 103 true 2 Z Z (.tmp Z .nil)) (.two (by rw [hg];first | exact .aggU Z Z | exact .aggLe Z ⟨Zay.nilSl,Zay.nilSl,tv⟩) (.int (by rw [hg])))))
theorem ZkV (g:Zx) (id:Int) (hs:Zbb g):FnP prog 70 [.agg (Zl g),.int .i64 id] (.tup [.agg (Zl (Zbl g id).1),.int .i64 (Zbl g id).2]):=by
 refine FnP.mk func70 Z ntmps70 Z fun B a w F V hfr O=>?_
 have hsl:=hs.1.1
 refine Ya (Zb O (qx 101 r1 (qf (oH [.slice none 0 0,.slice none 0 0] 102) trivial qz (qI qZ))) V [5,4,2,1] [102,101,0] (fun _=>rfl) (fun _=>rfl) fun τ a w F O=>?_)
 try dsimp only [RS.sub,SF.sub,CF.sub,csub,Anc.sub,List.map,zCF,Zl,rTx,Zv,ZY,Zs,rOp] at O
 generalize τ 2=v2,τ 4=v4 at O
 refine Za (Ya (Ya (rZ O (qe 2 101 r1 r1 (qf (oP (Zbg g hs) func128 (Args.one (.pagg .t))) r1 qz (qf (Z1 .t) r1 qz qZ))) V [13,5,4,2,1] [102,101,0] fun O=>?_)))
 refine Zc O Z (fun hc0=>?_) (fun hc0=>?_)
 ·have hr:¬ ZG g:=by simpa using hc0
  have hg:=ZtO (id:=id) hr
  refine Ya (rZ O (qf (oB [] [.slice none 0 0,.slice none 0 0] [(0,1),(1,1)] .nil) trivial qz (qs 2 102 r2 r1 (qI qZ))) V [5,4,2,1] [102,101,0] fun O=>(Yh (Zf ?_)))
  refine Z3 hfr O Z (.cl 102 true 2 Z Z (.tmp Z .nil)) (.two (by rw [hg];first | exact .aggU Z Z | exact .aggLe Z ⟨Zay.nilSl,Zay.nilSl,tv⟩) (.int (by rw [hg])))
 have hr:ZG g:=by simpa using hc0
 refine Yd (Za (Ya (Ya (Zb O (qe 2 101 r1 r1 (qR rr (qf (oP (ZdQ g id hs.1) func12 (Args.two (.pagg .t) .t)) r2 qz (qR rr (qf (o_extract .t Z) r1 qz (qf (o_extract .t Z) r1 qz (qf (oH [.int .i64 0,.bool false,.slice none 0 0] 103) trivial qz (qf (oA 3 103 .same (.conv .t .agg)) r2 r1 (qO rr qZ))))))))) V [7,5,4,2,1] [103,102,101,0] (fun _=>rfl) (fun _=>rfl) fun τ a w F O=>?_))))
 try dsimp only [RS.sub,SF.sub,CF.sub,csub,Anc.sub,List.map,Zd,xL,xM,Nat.reduceAdd,xD,xE,xT,xU,xC,xN,zCF,ldSF,Zl,rTx,Zv,ZY,Zs,rOp] at O
 generalize τ 6=v6 at O
 refine Za (Ya (rZ O (qR rr (qf (Z1 .t) r1 qz qZ)) V [22,5,4,2,1] [103,102,101,0] fun O=>?_))
 refine Zc O Z (fun hc1=>?_) (fun hc1=>?_)
 ·have hg:=ZtP (id:=id) hr (by rw [← Zeu];simpa using hc1)
  refine Ya (rZ O (qf (oB [] [.slice none 0 0,.slice none 0 0] [(0,1),(1,1)] .nil) trivial qz (qs 2 102 r2 r1 (qI qZ))) V [5,4,2,1] [103,102,101,0] fun O=>(Yh (Zf ?_)))
  refine Z3 hfr O Z (.cl 102 true 2 Z Z (.tmp Z .nil)) (.two (by rw [hg];first | exact .aggU Z Z | exact .aggLe Z ⟨Zay.nilSl,Zay.nilSl,tv⟩) (.int (by rw [hg])))
 have hik:isK TxD.id id g.txs=true:=by rw [← Zeu];simpa using hc1
 refine Yd (Za (Ya (Ya (rZ O (qe 2 101 r1 r1 (qR rr (qf (oB [(0,.tmp 25)] [.int .i64 0,.bool false,.slice none 0 0] [(0,1),(1,1),(2,1)] (.one Z .t one_int kr .nil)) r1 qz (qf (oP (Zkj g (Zey id) hs.1 (by simp [Zey])) func135 (Args.two (.pagg .t) (.conv (.pagg .t) (Ent.paggLe (l:=[.int .i64 id,.bool false,.is (.slice none 0 0)]) (l':=[.int .i64 id,.bool false,.sl rOp []]) ⟨Zay.refl,Zay.refl,Zay.nilSl,tv⟩)))) r2 qz qZ)))) V [27,5,4,2,1] [103,102,101,0] fun O=>?_))))
 refine Zc O Z (fun hc2=>?_) (fun hc2=>?_)
 ·have hg:=Zt1 (id:=id) hr hik (by simpa using hc2)
  refine Ya (rZ O (qf (oB [] [.slice none 0 0,.slice none 0 0] [(0,1),(1,1)] .nil) trivial qz (qs 2 102 r2 r1 (qI qZ))) V [5,4,2,1] [103,102,101,0] fun O=>(Yh (Zf ?_)))
  refine Z3 hfr O Z (.cl 102 true 2 Z Z (.tmp Z .nil)) (.two (by rw [hg];first | exact .aggU Z Z | exact .aggLe Z ⟨Zay.nilSl,Zay.nilSl,tv⟩) (.int (by rw [hg])))
 have hud:Zg6 g (Zey id)=false:=by simpa using hc2
 refine Yd (Za (Ya (rZ O (qC qZ) V [8,5,4,2,1] [103,102,101,0] fun O=>(Ya (Ya ?_)))))
 refine rZ O (qg 0 101 r1 r1 (qa 101 r1 r1 (qu YbP r1 (qJ qZ)))) V [32,31,30,8,5,4,2,1] [103,102,101,0] fun O=>Ye ?_
 replace O:=O.fresh 50 rfl
 replace O:=O.turn 50 Z (ZaC (T:=36) (sz:=3) (R:=rTx))
 refine Zk (σ:=(Nat)×(Value)×(List TxD)) [1,2,4,5,30,31] [0,101,102,103] (fun s=>[(32,.pv (.int .i64 (s.1:Int))),(8,.pv (.is s.2.1))]) (fun s=>[(50,.ob (.val s.2.1) (ZO 36 3 rTx s.2.2))]) (fun s=>s.1≤g.txs.length∧(s.2.2=((g.txs.take s.1).filter fun x=>!decide (x.id=id)))) (fun s=>g.txs.length - s.1) ((0),(.slice none 0 0),([])) O ⟨rfl,rfl,rfl,rfl,rfl,rfl,rfl,rfl,tv⟩ ⟨rfl,rfl,rfl,rfl,rfl,tv⟩ ⟨Yt _,rfl⟩ ?_
 clear O;intro s a w F hC O
 obtain ⟨i,v,out⟩:=s
 try dsimp only at hC
 obtain ⟨F,O⟩:=O.nM [32,31,30,8,5,4,2,1] [103,102,101,50,0]
 try dsimp only at O
 obtain ⟨hi,hq⟩:=hC
 have hol:out.length≤i:=by rw [hq];exact YW (YR _ _) (by rw [Yk];omega)
 refine Ya (rZ O (qL r2) V [33,32,31,30,8,5,4,2,1] [103,102,101,50,0] fun O=>Ya ?_)
 refine Zc O Z (fun hc3=>?_) (fun hc3=>?_)
 ·have hil:i<g.txs.length:=by simp at hc3;omega
  refine Yd (Za (Ya (Ye (Ya (Zb O (qy 3 YbP r2 (qf (oR true 3 .t) r1 qz (qf (oH [.int .i64 0,.bool false,.slice none 0 0] 104) trivial qz (qS 3 104 r2 r1 qZ)))) V [32,31,30,10,8,5,4,2,1] [104,103,102,101,50,0] (fun _=>rfl) (fun _=>rfl) fun τ a w F O=>?_)))))
  try dsimp only [RS.sub,SF.sub,CF.sub,csub,Anc.sub,List.map,Zd,xL,xM,Nat.reduceAdd,xD,xE,xT,xU,xC,xN,zCF,ldSF,Zl,rTx,Zv,ZY,Zs,rOp] at O
  generalize τ 10=v10 at O
  try simp only [Yg] at O
  refine Za (Ya (rZ O (qg 0 104 r1 r1 (qa 104 r1 r1 (qR rr (qf (o_neq .t .t) r2 qz qZ)))) V [39,32,31,30,10,8,5,4,2,1] [104,103,102,101,50,0] fun O=>?_))
  refine Zc O Z (fun hc4=>?_) (fun hc4=>?_)
  ·have hst9:out ++ [(Nn g.txs i)] = ((g.txs.take (i+1)).filter fun x=>!decide (x.id=id)):=by rw [ZQ hil,Y3,← hq,Y9 (by simpa using hc4)];rfl
   refine Zb O (qR rr (qe 3 104 r1 r1 (qf (Zn (sz:=3) (zs:=[.int .i64 0,.bool false,.slice none 0 0]) (r:=[(0,.tmp 41)]) (l:=[_,_,_]) YbP kr kr kr kr Z Z (.agg Z .t kr kr .nil) Z) r1 qz (qf (o_append (sz:=3) (bs:=40) 50 (.mk' YbP kr kr) (by intro x;rfl) .is (.arr (l':=[(Nn g.txs i)]) .t) (by simp only [Yc,Yl,Yq];omega) (by decide)) ⟨rfl,rfl,tv⟩ ⟨rfl,tv⟩ (qO rr qZ))))) V [32,31,30,8,5,4,2,1] [104,103,102,101,50,0] (fun _=>rfl) (fun _=>rfl) fun τ a w F O=>?_
   try dsimp only [RS.sub,SF.sub,CF.sub,csub,Anc.sub,List.map,Zd,xL,xM,Nat.reduceAdd,xD,xE,xT,xU,xC,xN,zCF,ldSF,Zl,rTx,Zv,ZY,Zs,rOp] at O
   generalize τ 43=v43 at O
   refine Zi (Za (rZ O (qp r1 (qR rr qZ)) V [32,31,30,8,5,4,2,1] [104,103,102,101,50,0] fun O=>?_))
   replace O:=O.ent (i:=32) (s':=.pv (.int .i64 ((i+1:Nat):Int))) Z (.int (Ze ow))
   obtain ⟨F,O⟩:=O.nM [31,30,5,4,2,1,8,32] [103,102,101,0,50]
   exact ⟨((i+1),_,_),F,⟨by omega,hst9⟩,O,by omega⟩
  have hst9:out=((g.txs.take (i+1)).filter fun x=>!decide (x.id=id)):=by rw [ZQ hil,Y3,← hq,Yaa (by simpa using hc4),YbE,YF]
  refine Yd (Zi (Za (rZ O (qp r1 (qR rr qZ)) V [32,31,30,8,5,4,2,1] [104,103,102,101,50,0] fun O=>?_)))
  replace O:=O.ent (i:=32) (s':=.pv (.int .i64 ((i+1:Nat):Int))) Z (.int (Ze ow))
  obtain ⟨F,O⟩:=O.nM [31,30,5,4,2,1,8,32] [103,102,101,0,50]
  exact ⟨((i+1),_,_),F,⟨by omega,hst9⟩,O,by omega⟩
 have hil:i=g.txs.length:=by simp at hc3;omega
 have hout:out=g.txs.filter fun x=>!decide (x.id=id):=by rw [hq,hil,YE]
 subst hout
 have hg:=ZtU (id:=id) hs.2 hr hik hud
 refine Ym (Zg (Zg (Zo (Za (Ya ?_)))))
 obtain ⟨F,O⟩:=O.give 50 8 Z rfl
 obtain ⟨F,O⟩:=O.nM [33,32,31,30,8,5,4,2,1] [103,102,101,0]
 refine rZ O (qR rr (qg 1 101 r1 r1 (qa 101 r1 r1 (qR rr (qf (oB [(0,.tmp 48)] [.int .i64 0,.bool false,.slice none 0 0] [(0,1),(1,1),(2,1)] (.one Z .t one_int kr .nil)) r1 qz (qf (oP (Zer g.orders (Zey id) hs.2 (by simp [Zey])) func134 (Args.two .t (.conv (.pagg .t) (Ent.paggLe (l:=[.int .i64 id,.bool false,.is (.slice none 0 0)]) (l':=[.int .i64 id,.bool false,.sl rOp []]) ⟨Zay.refl,Zay.refl,Zay.nilSl,tv⟩)))) r2 qz (qf (oB [(0,.tmp 45),(1,.tmp 50)] [.slice none 0 0,.slice none 0 0] [(0,1),(1,1)] (.one Z .t Zas kr (.one Z .t Zas kr .nil))) r2 qz (qs 2 102 r2 r1 (qI qZ))))))))) V [5,4] [103,102,101,0] fun O=>Yh ?_
 refine Z3 hfr O Z (.cl 102 true 2 Z Z (.tmp Z .nil)) (.two (by rw [hg];first | exact .aggU Z Z | exact .aggLe Z ⟨Zay.nilSl,Zay.nilSl,tv⟩) (.int (by rw [hg])))
theorem Zkq (g:Zx) (o:OrdD) (hs:Zbb g) (ho:o.txs.length≤1000):FnP prog 72 [.agg (Zl g),.agg (Zv o)] (.tup [.agg (Zl (ZcB g o).1),.int .i64 (ZcB g o).2]):=by
 refine FnP.mk func72 Z ntmps72 Z fun B a w F V hfr O=>?_
 have hso:=hs.2.1
 refine Ya (Zb O (qx 101 r1 (qx 102 r1 (qf (oH [.slice none 0 0,.slice none 0 0] 103) trivial qz (qI qZ)))) V [5,4,3,2] [103,102,101,0] (fun _=>rfl) (fun _=>rfl) fun τ a w F O=>?_)
 try dsimp only [RS.sub,SF.sub,CF.sub,csub,Anc.sub,List.map,zCF,Zl,rTx,Zv,ZY,Zs,rOp] at O
 generalize τ 2=v2,τ 3=v3,τ 4=v4 at O
 refine Za (Ya (Ya (rZ O (qe 2 101 r1 r1 (qf (oP (Zbg g hs) func128 (Args.one (.pagg .t))) r1 qz (qf (Z1 .t) r1 qz qZ))) V [9,5,4,3,2] [103,102,101,0] fun O=>?_)))
 refine Zc O Z (fun hc0=>?_) (fun hc0=>?_)
 ·have hr:¬ ZG g:=by simpa using hc0
  have hg:ZcB g o=(Zbi,5):=Zp4 hr
  refine Ya (rZ O (qf (oB [] [.slice none 0 0,.slice none 0 0] [(0,1),(1,1)] .nil) trivial qz (qs 2 103 r2 r1 (qI qZ))) V [5,4,3,2] [103,102,101,0] fun O=>(Yh (Zf ?_)))
  refine Z3 hfr O Z (.cl 103 true 2 Z Z (.tmp Z .nil)) (.two (by rw [hg];first | exact .aggU Z Z | exact .aggLe Z ⟨Zay.nilSl,Zay.nilSl,tv⟩) (.int (by rw [hg])))
 have hr:ZG g:=by simpa using hc0
 refine Yd (Za (Ya (rZ O (qe 2 101 r1 r1 (qg 0 102 r1 r1 (qa 102 r1 r1 (qf (oP (ZfG g o.key) func20 (Args.two (.pagg .t) .t)) r2 qz (qO rr qZ))))) V [6,5,4,3,2] [103,102,101,0] fun O=>(Ya (Ya ?_)))))
 refine rZ O (qR rr (qu YbO r1 (qf (o_eql .t qi) r1 qz qZ))) V [17,6,5,4,3,2] [103,102,101,0] fun O=>?_
 refine Zc O Z (fun hc1=>?_) (fun hc1=>?_)
 ·have hg:ZcB g o=(Zbi,3):=Zpp hr (by simpa using hc1)
  refine Ya (rZ O (qf (oB [] [.slice none 0 0,.slice none 0 0] [(0,1),(1,1)] .nil) trivial qz (qs 2 103 r2 r1 (qI qZ))) V [6,5,4,3,2] [103,102,101,0] fun O=>(Yh (Zf ?_)))
  refine Z3 hfr O Z (.cl 103 true 2 Z Z (.tmp Z .nil)) (.two (by rw [hg];first | exact .aggU Z Z | exact .aggLe Z ⟨Zay.nilSl,Zay.nilSl,tv⟩) (.int (by rw [hg])))
 have hgn:(getO g.orders o.key)≠[]:=by simpa using hc1
 have hwl:=Zi6 hs.2 o.key
 refine Yd (Za (Ya (Ya (rZ O (qR rr (qg 1 102 r1 r1 (qa 102 r1 r1 (qf (oP (ZmM (getO g.orders o.key) o.txs) func136 (Args.two .t .t)) r2 qz (qf (Z1 .t) r1 qz qZ))))) V [23,5,4,3,2] [103,102,101,0] fun O=>?_))))
 refine Zc O Z (fun hc2=>?_) (fun hc2=>?_)
 ·have hp:¬ (getO g.orders o.key).Perm o.txs:=by simpa using hc2
  have hru:Zi4 o (getO g.orders o.key)=([],8):=Yb hp
  have hg:ZcB g o=(Zbi,8):=by have:=Zpq (rule:=Zi4 o) hr hgn (by rw [hru];decide);rw [hru] at this;exact this
  refine Ya (rZ O (qf (oB [] [.slice none 0 0,.slice none 0 0] [(0,1),(1,1)] .nil) trivial qz (qs 2 103 r2 r1 (qI qZ))) V [5,4,3,2] [103,102,101,0] fun O=>(Yh (Zf ?_)))
  refine Z3 hfr O Z (.cl 103 true 2 Z Z (.tmp Z .nil)) (.two (by rw [hg];first | exact .aggU Z Z | exact .aggLe Z ⟨Zay.nilSl,Zay.nilSl,tv⟩) (.int (by rw [hg])))
 have hp:(getO g.orders o.key).Perm o.txs:=by simpa using hc2
 have hru:Zi4 o (getO g.orders o.key)=(o.txs,0):=Yf hp
 have hg:ZcB g o=(⟨g.txs,putGR OrdD.key o g.orders (decide (o.txs = []))⟩,0):=by have:=ZoV (rule:=Zi4 o) hr hgn (by rw [hru]) (by rw [hru];intro e;have e:o.txs = []:=e;rw [e] at hp;exact hgn hp.eq_nil);rw [hru] at this;exact this
 refine Yd (Za (Ya (Zu O (qg 0 101 r1 r1 (qa 101 r1 r1 (qg 1 101 r1 r1 (qa 101 r1 r1 (qe 2 102 r1 r1 (qf (oP (ZdZ g.orders o ow) func137 (Args.two .t (.pagg .t))) r2 qz (qf (oB [(0,.tmp 26),(1,.tmp 30)] [.slice none 0 0,.slice none 0 0] [(0,1),(1,1)] (.one Z .t Zas kr (.one Z .t Zas kr .nil))) r2 qz (qs 2 103 r2 r1 (qI qZ))))))))) V [5,4] [103,102,101,0] Z Z fun a w F O=>?_)))
 try dsimp only [List.map,Zd,xL,xM,Nat.reduceAdd,xD,xE,xT,xU,xC,xN,zCF,ldSF,Zl,rTx,Zv,ZY,Zs,rOp] at O
 refine Za (Yh (Z3 hfr O Z (.cl 103 true 2 Z Z (.tmp Z .nil)) (.two (by rw [hg];first | exact .aggU Z Z | exact .aggLe Z ⟨Zay.nilSl,Zay.nilSl,tv⟩) (.int (by rw [hg])))))
theorem Zpb (g:Zx) (key id place:Int) (hs:Zbb g):FnP prog 73 [.agg (Zl g),.int .i64 key,.int .i64 id,.int .i64 place] (.tup [.agg (Zl (ZjM g key id place).1),.int .i64 (ZjM g key id place).2]):=by
 refine FnP.mk func73 Z ntmps73 Z fun B a w F V hfr O=>?_
 have hso:=hs.2.1
 refine Ya (Zb O (qx 101 r1 (qf (oH [.slice none 0 0,.slice none 0 0] 102) trivial qz (qI qZ))) V [9,8,4,3,2,1] [102,101,0] (fun _=>rfl) (fun _=>rfl) fun τ a w F O=>?_)
 try dsimp only [RS.sub,SF.sub,CF.sub,csub,Anc.sub,List.map,zCF,Zl,rTx,Zv,ZY,Zs,rOp] at O
 generalize τ 4=v4,τ 8=v8 at O
 refine Za (Ya (Ya (rZ O (qe 2 101 r1 r1 (qf (oP (Zbg g hs) func128 (Args.one (.pagg .t))) r1 qz (qf (Z1 .t) r1 qz qZ))) V [15,9,8,4,3,2,1] [102,101,0] fun O=>?_)))
 refine Zc O Z (fun hc0=>?_) (fun hc0=>?_)
 ·have hr:¬ ZG g:=by simpa using hc0
  have hg:ZjM g key id place=(Zbi,5):=Zp4 hr
  refine Ya (rZ O (qf (oB [] [.slice none 0 0,.slice none 0 0] [(0,1),(1,1)] .nil) trivial qz (qs 2 102 r2 r1 (qI qZ))) V [9,8,4,3,2,1] [102,101,0] fun O=>(Yh (Zf ?_)))
  refine Z3 hfr O Z (.cl 102 true 2 Z Z (.tmp Z .nil)) (.two (by rw [hg];first | exact .aggU Z Z | exact .aggLe Z ⟨Zay.nilSl,Zay.nilSl,tv⟩) (.int (by rw [hg])))
 have hr:ZG g:=by simpa using hc0
 have hwl:=Zi6 hs.2 key
 refine Yd (Za (Ya (rZ O (qe 2 101 r1 r1 (qR rr (qf (oP (ZfG g key) func20 (Args.two (.pagg .t) .t)) r2 qz (qO rr qZ)))) V [10,9,8,4,3,2,1] [102,101,0] fun O=>(Ya (Ya ?_)))))
 refine rZ O (qR rr (qu YbO r1 (qf (o_eql .t qi) r1 qz qZ))) V [22,10,9,8,4,3,2,1] [102,101,0] fun O=>?_
 refine Zc O Z (fun hc1=>?_) (fun hc1=>?_)
 ·have hg:ZjM g key id place=(Zbi,3):=Zpp hr (by simpa using hc1)
  refine Ya (rZ O (qf (oB [] [.slice none 0 0,.slice none 0 0] [(0,1),(1,1)] .nil) trivial qz (qs 2 102 r2 r1 (qI qZ))) V [10,9,8,4,3,2,1] [102,101,0] fun O=>(Yh (Zf ?_)))
  refine Z3 hfr O Z (.cl 102 true 2 Z Z (.tmp Z .nil)) (.two (by rw [hg];first | exact .aggU Z Z | exact .aggLe Z ⟨Zay.nilSl,Zay.nilSl,tv⟩) (.int (by rw [hg])))
 have hgn:(getO g.orders key)≠[]:=by simpa using hc1
 refine Yd (Za (Ya (rZ O (qR rr (qR rr (qR rr (qf (oP (Zrn (getO g.orders key) id place ow) func138 (Args.three .t .t .t)) r3 qz (qR rr (qf (o_extract .t Z) r1 qz (qf (o_extract .t Z) r1 qz (qO rr (qO rr qZ))))))))) V [12,11,9,8,4,1] [102,101,0] fun O=>(Ya (Ya ?_)))))
 refine rZ O (qR rr (qf (o_neq .t qi) r1 qz qZ)) V [32,12,11,9,8,4,1] [102,101,0] fun O=>?_
 refine Zc O Z (fun hc2=>?_) (fun hc2=>?_)
 ·have hg:ZjM g key id place=(Zbi,(Zcp (getO g.orders key) id place).2):=Zpq (rule:=fun l=>Zcp l id place) hr hgn (by simpa using hc2)
  refine Ya (rZ O (qf (oB [] [.slice none 0 0,.slice none 0 0] [(0,1),(1,1)] .nil) trivial qz (qR rr (qs 2 102 r2 r1 (qO rr qZ)))) V [11,9,8,4,1] [102,101,0] fun O=>(Yh (Zf ?_)))
  refine Z3 hfr O Z (.cl 102 true 2 Z Z (.tmp Z .nil)) (.two (by rw [hg];first | exact .aggU Z Z | exact .aggLe Z ⟨Zay.nilSl,Zay.nilSl,tv⟩) (.int (by rw [hg])))
 have hm0:(Zcp (getO g.orders key) id place).2=0:=by simpa using hc2
 have hg:ZjM g key id place=(⟨g.txs,putGR OrdD.key ⟨key,(Zcp (getO g.orders key) id place).1⟩ g.orders (decide ((Zcp (getO g.orders key) id place).1 = []))⟩,0):=ZoV (rule:=fun l=>Zcp l id place) hr hgn hm0 (fun e=>hgn (by have hp:=ZkL hm0;rw [e] at hp;exact hp.symm.eq_nil))
 refine Yd (Za (Ya (Zu O (qg 0 101 r1 r1 (qa 101 r1 r1 (qg 1 101 r1 r1 (qa 101 r1 r1 (qR rr (qR rr (qf (oB [(0,.tmp 39),(1,.tmp 40)] [.int .i64 0,.slice none 0 0] [(0,1),(1,1)] (.one Z .t one_int kr (.one Z .t Zas kr .nil))) r2 qz (qf (oP (ZdZ g.orders ⟨key,(Zcp (getO g.orders key) id place).1⟩ ow) func137 (Args.two .t (.pagg .t))) r2 qz (qf (oB [(0,.tmp 36),(1,.tmp 42)] [.slice none 0 0,.slice none 0 0] [(0,1),(1,1)] (.one Z .t Zas kr (.one Z .t Zas kr .nil))) r2 qz (qs 2 102 r2 r1 (qI qZ))))))))))) V [9,8] [102,101,0] Z Z fun a w F O=>?_)))
 try dsimp only [List.map,Zd,xL,xM,Nat.reduceAdd,xD,xE,xT,xU,xC,xN,zCF,ldSF,Zl,rTx,Zv,ZY,Zs,rOp] at O
 refine Za (Yh (Z3 hfr O Z (.cl 102 true 2 Z Z (.tmp Z .nil)) (.two (by rw [hg];first | exact .aggU Z Z | exact .aggLe Z ⟨Zay.nilSl,Zay.nilSl,tv⟩) (.int (by rw [hg])))))
theorem ZoX {os:List OrdD} {ks:List Int} {t:TxD} {o:OrdD} (h:o ∈ Zeq t os ks):o ∈ os∨o.txs = []:=by
 unfold Zeq at h
 split at h
 ·have key:∀ (ks:List Int) (os:List OrdD),o ∈ ks.foldl Zjf os→o ∈ os∨o.txs = []:=by
   intro ks
   induction ks with
   | nil=>intro os h;exact .inl h
   | cons k ks ih=>
    intro os h
    rcases ih _ h with h | h
    ·rcases Zmp h with h | h
     ·exact .inl h
     ·exact .inr (by rw [h])
    ·exact .inr h
  exact key ks os h
 ·exact .inl h
theorem Zsh (g:Zx) (e:EdD) (hs:Zbb g) (he:ZeG e):FnP prog 30 [.agg (Zl g),.agg (rEd e)] (.tup [.agg (Zl (doH g e).1),.int .i64 (doH g e).2]):=by
 refine FnP.mk func30 Z ntmps30 Z fun B a w F V hfr O=>Ya ?_
 refine Zb O (qx 101 r1 (qx 102 r1 (qf (oH [.slice none 0 0,.slice none 0 0] 103) trivial qz (qI qZ)))) V [5,4,3,2] [103,102,101,0] (fun _=>rfl) (fun _=>rfl) fun τ a w F O=>?_
 try dsimp only [RS.sub,SF.sub,CF.sub,csub,Anc.sub,List.map,zCF,Zl,rTx,Zv,ZY,Zs,rOp,rEd] at O
 generalize τ 2=v2,τ 3=v3,τ 4=v4 at O
 refine Za (Ya (Ya (rZ O (qg 0 102 r1 r1 (qa 102 r1 r1 qZ)) V [7,5,4,3,2] [103,102,101,0] fun O=>(Ye (Ya ?_)))))
 refine rZ O (qf (o_eql .t qi) r1 qz (qO rr qZ)) V [8,7,5,4,3,2] [103,102,101,0] fun O=>?_
 refine Zc O Z (fun hc0=>?_) (fun hc0=>?_)
 ·have hg:doH g e=Zbz g e.t:=by unfold doH;rw [Yf (by simpa using hc0)]
  refine Ya (rZ O (qe 2 101 r1 r1 (qg 1 102 r1 r1 (qf (oL true 3 102 .adr) r1 r1 (qf (oP (Zlo g e.t hs (by have:=he.1;omega)) func69 (Args.two (.pagg .t) (.pagg .t))) r2 qz (qf (o_extract .t Z) r1 qz (qf (o_extract .t Z) r1 qz (qf (oA 2 103 .is (.conv .t .agg)) r2 r1 (qO rr qZ)))))))) V [5,4] [103,102,101,0] fun O=>(Yh (Zr (Zf ?_))))
  refine Z3 hfr O Z (.cl 103 true 2 Z Z (.tmp Z .nil)) (.two (by rw [hg];first | exact .aggU Z Z | exact .aggLe Z ⟨Zay.nilSl,Zay.nilSl,tv⟩) (.int (by rw [hg])))
 have k0:¬ e.kind=0:=by simpa using hc0
 refine Ya (rZ O (qf (o_eql .t qi) r1 qz (qO rr qZ)) V [16,7,5,4,3,2] [103,102,101,0] fun O=>?_)
 refine Zc O Z (fun hc1=>?_) (fun hc1=>?_)
 ·have hg:doH g e=Zbl g e.t.id:=by unfold doH;rw [Yb k0,Yf (by simpa using hc1)]
  refine Ya (rZ O (qe 2 101 r1 r1 (qg 1 102 r1 r1 (qf (oF 0 102 .adr) r1 r1 (qa 102 r1 r1 (qf (oP (ZkV g e.t.id hs) func70 (Args.two (.pagg .t) .t)) r2 qz (qf (o_extract .t Z) r1 qz (qf (o_extract .t Z) r1 qz (qf (oA 2 103 .is (.conv .t .agg)) r2 r1 (qO rr qZ))))))))) V [5,4] [103,102,101,0] fun O=>(Yh (Zr (Zf ?_))))
  refine Z3 hfr O Z (.cl 103 true 2 Z Z (.tmp Z .nil)) (.two (by rw [hg];first | exact .aggU Z Z | exact .aggLe Z ⟨Zay.nilSl,Zay.nilSl,tv⟩) (.int (by rw [hg])))
 have k1:¬ e.kind=1:=by simpa using hc1
 refine Ya (rZ O (qf (o_eql .t qi) r1 qz (qO rr qZ)) V [25,7,5,4,3,2] [103,102,101,0] fun O=>?_)
 refine Zc O Z (fun hc2=>?_) (fun hc2=>?_)
 ·have hg:doH g e=ZcA g e.t:=by unfold doH;rw [Yb k0,Yb k1,Yf (by simpa using hc2)]
  refine Ya (rZ O (qe 2 101 r1 r1 (qg 1 102 r1 r1 (qf (oL true 3 102 .adr) r1 r1 (qf (oP (Zm8 g e.t hs (by have:=he.1;omega)) func71 (Args.two (.pagg .t) (.pagg .t))) r2 qz (qf (o_extract .t Z) r1 qz (qf (o_extract .t Z) r1 qz (qf (oA 2 103 .is (.conv .t .agg)) r2 r1 (qO rr qZ)))))))) V [5,4] [103,102,101,0] fun O=>(Yh (Zr (Zf ?_))))
  refine Z3 hfr O Z (.cl 103 true 2 Z Z (.tmp Z .nil)) (.two (by rw [hg];first | exact .aggU Z Z | exact .aggLe Z ⟨Zay.nilSl,Zay.nilSl,tv⟩) (.int (by rw [hg])))
 have k2:¬ e.kind=2:=by simpa using hc2
 refine Ya (rZ O (qf (o_eql .t qi) r1 qz (qO rr qZ)) V [33,7,5,4,3,2] [103,102,101,0] fun O=>?_)
 refine Zc O Z (fun hc3=>?_) (fun hc3=>?_)
 ·have hg:doH g e=ZcB g e.o:=by unfold doH;rw [Yb k0,Yb k1,Yb k2,Yf (by simpa using hc3)]
  refine Ya (rZ O (qe 2 101 r1 r1 (qg 4 102 r1 r1 (qf (oL true 2 102 .adr) r1 r1 (qf (oP (Zkq g e.o hs (by have:=he.2;omega)) func72 (Args.two (.pagg .t) (.pagg .t))) r2 qz (qf (o_extract .t Z) r1 qz (qf (o_extract .t Z) r1 qz (qf (oA 2 103 .is (.conv .t .agg)) r2 r1 (qO rr qZ)))))))) V [5,4] [103,102,101,0] fun O=>(Yh (Zr (Zf ?_))))
  refine Z3 hfr O Z (.cl 103 true 2 Z Z (.tmp Z .nil)) (.two (by rw [hg];first | exact .aggU Z Z | exact .aggLe Z ⟨Zay.nilSl,Zay.nilSl,tv⟩) (.int (by rw [hg])))
 have k3:¬ e.kind=3:=by simpa using hc3
 refine Ya (rZ O (qf (o_eql .t qi) r1 qz (qO rr qZ)) V [41,5,4,3,2] [103,102,101,0] fun O=>?_)
 refine Zc O Z (fun hc4=>?_) (fun hc4=>?_)
 ·have hg:doH g e=ZjM g e.o.key e.t.id e.place:=by unfold doH;rw [Yb k0,Yb k1,Yb k2,Yb k3,Yf (by simpa using hc4)]
  refine Ya (rZ O (qe 2 101 r1 r1 (qg 4 102 r1 r1 (qf (oF 0 102 .adr) r1 r1 (qa 102 r1 r1 (qg 1 102 r1 r1 (qf (oF 0 102 .adr) r1 r1 (qa 102 r1 r1 (qg 6 102 r1 r1 (qa 102 r1 r1 (qf (oP (Zpb g e.o.key e.t.id e.place hs) func73 (Args.four (.pagg .t) .t .t .t)) r4 qz (qf (o_extract .t Z) r1 qz (qf (o_extract .t Z) r1 qz (qf (oA 2 103 .is (.conv .t .agg)) r2 r1 (qO rr qZ)))))))))))))) V [5,4] [103,102,101,0] fun O=>(Yh (Zr (Zf ?_))))
  refine Z3 hfr O Z (.cl 103 true 2 Z Z (.tmp Z .nil)) (.two (by rw [hg];first | exact .aggU Z Z | exact .aggLe Z ⟨Zay.nilSl,Zay.nilSl,tv⟩) (.int (by rw [hg])))
 have hg:doH g e=(Zbi,5):=by unfold doH;rw [Yb k0,Yb k1,Yb k2,Yb k3,Yb (by simpa using hc4)]
 refine Yd (Zi (Za (Ya (rZ O (qf (oB [] [.slice none 0 0,.slice none 0 0] [(0,1),(1,1)] .nil) trivial qz (qs 2 103 r2 r1 (qI qZ))) V [5,4] [103,102,101,0] fun O=>Yh ?_))))
 refine Z3 hfr O Z (.cl 103 true 2 Z Z (.tmp Z .nil)) (.two (by rw [hg];first | exact .aggU Z Z | exact .aggLe Z ⟨Zay.nilSl,Zay.nilSl,tv⟩) (.int (by rw [hg])))
theorem Zqx (e:EdD):FnP prog 47 [.agg (rEd e)] (.bool (decide (ZeG e))):=by
 refine FnP.mk func47 Z ntmps47 Z fun B a w F V hfr O=>Ya ?_
 refine Zb O (qx 101 r1 qB) V [2,1] [101,0] (fun _=>rfl) (fun _=>rfl) fun τ a w F O=>?_
 try dsimp only [RS.sub,SF.sub,CF.sub,csub,Anc.sub,List.map,zCF,Zl,rTx,Zv,ZY,Zs,rOp,rEd] at O
 generalize τ 1=v1 at O
 refine Za (Ya (rZ O (qg 1 101 r1 r1 (qf (oF 2 101 .adr) r1 r1 (qa 101 r1 r1 (qu YbR r1 (qf (ZhO .t qi) r1 qz (qR rr (qv 4 101 Z r2 r1 (qk Z (fun h=>oF 1 101 (.w h .adr)) r2 r1 (qw 101 Z r2 r1 (qk Z (fun h=>ZbA YbO (.w h)) r2 qz (qk Z (fun h=>ZhO (.w h) qi) r2 qz (qf (ZJ .t .t) r2 qz (qO rr qZ))))))))))))) V [2] [101,0] fun O=>Yh ?_))
 refine ZB hfr O Z Z Z (.bool (by rw [Y6,Yj,Yv,Yj,Yj];unfold ZeG;omega))
instance (l:List TxD):Decidable (ZaW l):=by unfold ZaW;exact inferInstance
instance (l:List OrdD):Decidable (ZbG l):=by unfold ZbG;exact inferInstance
instance (g:Zx):Decidable (Zbb g):=by unfold Zbb;exact inferInstance
end Go.Proofs.YtfecljadegkmdaaGreat
