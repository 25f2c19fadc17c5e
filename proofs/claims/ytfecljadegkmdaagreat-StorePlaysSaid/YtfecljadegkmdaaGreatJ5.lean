/- Laws and walks. No condition beyond what each says. -/
import Derived.Test.YtfecljadegkmdaaGreatJ4
namespace Go.Proofs.YtfecljadegkmdaaGreat
open Go Go.Gm Tryz
set_option linter.unusedVariables false
set_option linter.unusedSimpArgs false
set_option maxHeartbeats 4000000
set_option maxRecDepth 8000
theorem ZoU (b ob nb:Nat) (seqs:List (List Int)) (Live:Nat→Prop) (qo q:List Cell) (c:RtC) (mv:Value) (nx:Int) (alv sqv:Value) (sr:List SqC) (mm:Value) (es:List (GE Int Int)) (ck:Nat) (K:Int) (r:RtA) (hI:MvI seqs Live qo q (arV (some ob)) (arV (some nb)) sr es K) (hr:Zch qo (arV (some ob)) c r) (hti:r.txs.length≤65536) (hov:∀ p ∈ r.orders,0≤p.val∧p.val<seqs.length) (hlv:∀ p ∈ r.orders,Live p.val.toNat) (hroom:q.length+r.txs.length+r.orders.length+Zar seqs r.orders≤65536) (hK:0≤K∧K≤1000000000000):FnG prog 121 1 [.is (.pointer (some ⟨b,0,none⟩)),.is (shift 1 (.pointer (some ⟨b,0,none⟩))),.is mm] [.star (Zq6 (.pointer (some ⟨b,0,none⟩)) (arV (some ob)) ob nb qo q c mv nx alv sqv sr mm es ck)] (.tup []) (fun _=>[.ex fun x:MvC=>.and (Zfy seqs Live r qo q (arV (some ob)) (arV (some nb)) es K x) (.star (Zq6 (.pointer (some ⟨b,0,none⟩)) (arV (some nb)) ob nb qo x.q x.c mv nx alv sqv x.sr mm x.es x.ck))]):=by
 refine FnG.mk func121 Z ntmps121 Z kr fun B F0 a w F V hG O=>?_
 obtain ⟨F,O⟩:=O.peel 1 2 Z rfl
 obtain ⟨F,O⟩:=O.peel 1 3 Z rfl
 obtain ⟨F,O⟩:=O.peel 1 4 Z rfl
 obtain ⟨F,O⟩:=O.peel 1 5 Z rfl
 obtain ⟨F,O⟩:=O.peel 1 6 Z rfl
 dsimp only [Zrd] at O
 replace O:=O.ent (i:=1) (s':=.adr (.val (.pointer (some ⟨b,0,none⟩))) 1) Z Ent.kAdr
 obtain ⟨F,O⟩:=O.nM Jq QR
 obtain ⟨e1,ro1,hM1,hR1,hE1⟩:=Znl ob nb (q:=q) hr.t ow
 obtain ⟨e2,ro2,hM2,hR2,hE2⟩:=Znl ob nb (q:=q++e1) hr.o WT
 refine Ya (Zr O (qR rr (qR rr (qf (o_nilCheck 2 .adr Wd) r1 r1 (qf (oF 0 2 .adr) r1 r1 (qf (oL true 2 2 .adr) r1 r1 (qR rr (qf (o_nilCheck 2 .is Wd) r1 r1 (qf (oF 0 2 .adr) r1 r1 (qa 2 r1 r1 (qf (o_callG2c 3 4 (hM1) func186 Z kr Z (Args.two (.pagg .t) .t)) r2 r2 (qR rr (qf (o_extract .t Z) r1 qz (qf (o_extract .t Z) r1 qz (qf (o_nilCheck 2 .adr Wd) r1 r1 (qf (oF 0 2 .adr) r1 r1 (qf (oA 2 2 .adr (.conv .t .agg)) r2 r1 qZ)))))))))))))))) V Jq QR Z Z fun a w F O=>?_)
 have O:=Xj
 refine Za (Ya (Zr O (qR rr (qR rr (qf (o_nilCheck 2 .adr Wd) r1 r1 (qf (oF 2 2 .adr) r1 r1 (qf (oL true 2 2 .adr) r1 r1 (qR rr (qf (o_nilCheck 2 .is Wd) r1 r1 (qf (oF 0 2 .adr) r1 r1 (qa 2 r1 r1 (qf (o_callG2c 3 4 (hM2) func186 Z kr Z (Args.two (.pagg .t) .t)) r2 r2 (qR rr (qf (o_extract .t Z) r1 qz (qf (o_extract .t Z) r1 qz (qf (o_nilCheck 2 .adr Wd) r1 r1 (qf (oF 2 2 .adr) r1 r1 (qf (oA 2 2 .adr (.conv .t .agg)) r2 r1 qZ)))))))))))))))) V Jq QR Z Z fun a w F O=>?_))
 have O:=Xj
 refine Za (Ya (rZ O (qR rr (qf (o_nilCheck 2 .adr Wd) r1 r1 (qf (oF 2 2 .adr) r1 r1 (qf (oL true 2 2 .adr) r1 r1 (qf (o_callG1 4 (Zgm nb hR2 ow) func56 Z kr (Args.one (.pagg .t))) r1 r1 (qu YbX r1 (qJ qZ))))))) V Jz QR fun O=>Ye ?_))
 refine Zh (σ:=(Nat)×(List Cell)×(List SqC)×(List (GE Int Int))×(Nat)) [0,2,42,43] [0,2,3] (fun s=>[(44,.pv (.int .i64 (s.1:Int)))]) (fun s=>[(4,RS.hp (arH (some nb) 65536 s.2.1)),(5,.ob (.val sqv) (ZM 114 2 rSq s.2.2.1)),(6,.ob (.val mm) (MPI s.2.2.2.1 s.2.2.2.2))]) (fun s=>s.1≤r.orders.length∧(MvI seqs Live qo s.2.1 (arV (some ob)) (arV (some nb)) s.2.2.1 s.2.2.2.1 (K+(s.1:Int))∧(∃ e,s.2.1=q++e1++e2++e∧e.length≤Zar seqs (r.orders.take s.1))∧(∀ k,0<gvA es k→0<gvA s.2.2.2.1 k) ∧ ∀ j,j<s.1→0<gvA s.2.2.2.1 (Nn r.orders j).val)) (fun s=>r.orders.length - s.1) ((0),(q++e1++e2),(sr),(es),(ck)) O ⟨rfl,rfl,rfl,rfl,rfl,tv⟩ ⟨rfl,rfl,rfl,rfl,rfl,rfl,tv⟩ ⟨Yo _,⟨KA,⟨[],W5,Yo _⟩,fun _ h=>h,fun j hj=>absurd hj (YI j)⟩⟩ ?_
 clear O;intro s a w F hC O
 obtain ⟨i,qq,sr1,es1,ck1⟩:=s
 have hC:=X3
 obtain ⟨F,O⟩:=O.nM Jz QR
 have O:=X2
 obtain ⟨hi,hq⟩:=hC
 obtain ⟨hI1,⟨e0,hqq,hql⟩,hkp,hal⟩:=hq
 refine Ya (rZ O (qL r2) V [45,44,43,42,2,0] QR fun O=>Ya ?_)
 refine Zb O Z (fun hc0=>?_) (fun hc0=>?_)
 ·have hil:i<r.orders.length:=WI
  have hv:=hov _ (ZP hil)
  have hsl:=hI1.len
  have hcl:=Zic (seqs:=seqs) hil
  have hgb:=hI1.gv (Nn r.orders i).val
  have hqn:=Yai List.length hqq
  simp only [Yc] at hqn
  refine Yd (Za (Ya (Ye (Ya (rS O (qy 2 YbX r2 (qf (oR true 2 .t) r1 qz (qf (oH [.int .i64 0,.int .i64 0] 101) trivial qz (qS 2 101 r2 r1 qZ)))) V Dr QO fun τ O=>?_)))))
  have O:=X7
  generalize τ 7=v7 at O
  try simp only [Yf] at O
  refine Za (Ya (Zg O (qR rr (qg 1 101 r1 r1 (qa 101 r1 r1 (qf (ZaP (ek:=(fun c:Int=>PV.int .i64 c)) (z0:=(0:Int)) 6 Yb4 (Zbg YbV) kr (fun _ _=>⟨rfl,ZhX⟩) .is (Z5.intR .t Z)) r2 r1 (qp r1 (qf (Zbx (ek:=(fun c:Int=>PV.int .i64 c)) 6 Yb4 (Zbg YbV) .is (Z5.intR .t Z) .t) r3 r1 qZ)))))) V Dr QO Z Z fun a w F O=>?_))
  have hw1:IntKind.wrap .i64 ((gGet (Nn r.orders i).val es1).getD 0+1)=gvA es1 (Nn r.orders i).val+1:=Zj KB
  rw [hw1] at O
  obtain ⟨es2,hes⟩:∃ z,z=(gPut (Nn r.orders i).val (gvA es1 (Nn r.orders i).val+1) (es1,ck1)).1:=⟨_,rfl⟩
  obtain ⟨ck2,hck⟩:∃ z,z=(gPut (Nn r.orders i).val (gvA es1 (Nn r.orders i).val+1) (es1,ck1)).2:=⟨_,rfl⟩
  rw [← hes,← hck] at O
  have hgv2:∀ k,gvA es2 k=if k=(Nn r.orders i).val then gvA es1 (Nn r.orders i).val+1 else gvA es1 k:=fun k=>by rw [hes];exact Zsx k
  refine Za (Ya (rZ O (qR rr (qg 1 101 r1 r1 (qa 101 r1 r1 (qf (ZaP (ek:=(fun c:Int=>PV.int .i64 c)) (z0:=(0:Int)) 6 Yb4 (Zbg YbV) kr (fun _ _=>⟨rfl,ZhX⟩) .is (Z5.intR .t Z)) r2 r1 (qf (o_eql .t qi) r1 qz qZ))))) V [57,44,43,42,7,2,0] QO fun O=>?_))
  refine Zb O Z (fun hc1=>?_) (fun hc1=>?_)
  ·have h19:gvA es2 (Nn r.orders i).val=1:=Qv
   rw [hgv2,Yg rfl] at h19
   have hg0:gvA es1 ((Nn r.orders i).val.toNat:Int)=0:=by rw [Ybo hv.1];omega
   have hold:=hI1.old (Nn r.orders i).val.toNat ow (hlv _ (ZP hil)) hg0
   obtain ⟨e3,ro3,hM3,hR3,hE3⟩:=ZpN ob nb (q:=qq) (c:=Nn sr1 (Nn r.orders i).val.toNat) hold ow
   have hI3:MvI seqs Live qo (qq++e3) (arV (some ob)) (arV (some nb)) (sr1.set (Nn r.orders i).val.toNat ⟨(arV (some nb)),ro3⟩) es2 (K+((i+1:Nat):Int)):=KQ
   have hq3:∃ e,qq++e3=q++e1++e2++e∧e.length≤Zar seqs (r.orders.take (i+1)):=⟨e0++e3,by rw [hqq];simp,by rw [Zcw hil,Yc];omega⟩
   have hkp3:∀ k,0<gvA es k→0<gvA es2 k:=fun k hk9=>by have h1:=hkp k hk9;have h2:=(hI1.gv (Nn r.orders i).val).1;rw [hgv2];split <;> omega
   have hal3:∀ j,j<i+1→0<gvA es2 (Nn r.orders j).val:=fun j hj=>by
     have h2:=(hI1.gv (Nn r.orders i).val).1
     rw [hgv2]
     rcases Yw (YC hj) with h9 | h9
     ·have h1:=hal j h9;split <;> omega
     ·subst h9;rw [Yg rfl];omega
   refine Zr O (qR rr (qf (o_nilCheck 2 .is Wd) r1 r1 (qf (oF 9 2 .adr) r1 r1 (qa 2 r1 r1 (qg 1 101 r1 r1 (qa 101 r1 r1 (qR rr (qf (o_nilCheck 2 .is Wd) r1 r1 (qf (oF 9 2 .adr) r1 r1 (qa 2 r1 r1 (qg 1 101 r1 r1 (qa 101 r1 r1 (qf (o_indexAddr_row (sz:=2) 5 (.mk YbZ kr) .is .t ow ow Wd) r2 r1 (qf (Zs (ag:=true) (sz':=2) (sz:=2) 5 .t Wt ow kr kr kr) r1 r1 (qR rr (qf (o_nilCheck 2 .is Wd) r1 r1 (qf (oF 0 2 .adr) r1 r1 (qa 2 r1 r1 (qf (o_callG2c 3 4 (hM3) func187 Z kr Z (Args.two (.pagg .t) .t)) r2 r2 (qR rr (qf (o_extract .t Z) r1 qz (qf (o_extract .t Z) r1 qz (qf (o_indexAddr_row (sz:=2) 5 (.mk YbZ kr) .is .t ow ow Wd) r2 r1 (qf (Z1 (R:=rSq) (v:=⟨(arV (some nb)),ro3⟩) (sz:=2) 5 .t Wt ow .t kr) r2 r1 qZ)))))))))))))))))))))))) V Jz QO Z Z fun a w F O=>?_
   have O:=Xj
   try simp only [Yf] at O
   refine Zf (Za (rZ O (qp r1 (qR rr qZ)) V Jz QO fun O=>?_))
   replace O:=O.eI 44 i
   obtain ⟨F,O⟩:=O.nM Xa3 [3,2,0,6,5,4]
   exact ⟨((i+1),(qq++e3),(sr1.set (Nn r.orders i).val.toNat ⟨(arV (some nb)),ro3⟩),(es2),(ck2)),F,⟨ow,⟨hI3,hq3,hkp3,hal3⟩⟩,O,ow⟩
  have h19:gvA es2 (Nn r.orders i).val≠1:=Qv
  rw [hgv2,Yg rfl] at h19
  have hI3:MvI seqs Live qo qq (arV (some ob)) (arV (some nb)) sr1 es2 (K+((i+1:Nat):Int)):=KU
  have hq3:∃ e,qq=q++e1++e2++e∧e.length≤Zar seqs (r.orders.take (i+1)):=⟨e0,hqq,by rw [Zcw hil];omega⟩
  have hkp3:∀ k,0<gvA es k→0<gvA es2 k:=fun k hk9=>by have h1:=hkp k hk9;have h2:=(hI1.gv (Nn r.orders i).val).1;rw [hgv2];split <;> omega
  have hal3:∀ j,j<i+1→0<gvA es2 (Nn r.orders j).val:=fun j hj=>by
    have h2:=(hI1.gv (Nn r.orders i).val).1
    rw [hgv2]
    rcases Yw (YC hj) with h9 | h9
    ·have h1:=hal j h9;split <;> omega
    ·subst h9;rw [Yg rfl];omega
  refine Yd (Zf (Za (rZ O (qp r1 (qR rr qZ)) V Jz QO fun O=>?_)))
  replace O:=O.eI 44 i
  obtain ⟨F,O⟩:=O.nM Xa3 [3,2,0,6,5,4]
  exact ⟨((i+1),(qq),(sr1),(es2),(ck2)),F,⟨ow,⟨hI3,hq3,hkp3,hal3⟩⟩,O,ow⟩
 have hil:i=r.orders.length:=WI
 have hpost:Zfy seqs Live r qo q (arV (some ob)) (arV (some nb)) es K ⟨qq,⟨(arV (some nb)),ro1,ro2,c.size⟩,sr1,es1,ck1⟩:=by
   rw [hil] at hI1 hql
   rw [Yy] at hql
   exact ⟨⟨e1++e2++e0,by show qq=_;rw [hqq];simp,by simp only [Yc];omega⟩,⟨rfl,by show ZjP qq ro1 r.txs;rw [hqq,Yt,Yt];rw [← Yt q];exact hR1.app,by show ZjP qq ro2 r.orders;rw [hqq];exact hR2.app,hr.s⟩,hI1,hkp,Zsi fun j hj=>hal j ow⟩
 refine Ym (Ze (Ze (Zk ?_)))
 have O:=O.fresh 1 rfl
 obtain ⟨F,O⟩:=O.push 1 6 Z Z Z kr
 obtain ⟨F,O⟩:=O.push 1 5 Z Z Z kr
 obtain ⟨F,O⟩:=O.push 1 4 Z Z Z kr
 obtain ⟨F,O⟩:=O.push 1 3 Z Z Z kr
 obtain ⟨F,O⟩:=O.push 1 2 Z Z Z kr
 have O:=O.turn 1 Z (r':=RS.hp (.ex fun x:MvC=>.and (Zfy seqs Live r qo q (arV (some ob)) (arV (some nb)) es K x) (.star (Zq6 (.pointer (some ⟨b,0,none⟩)) (arV (some nb)) ob nb qo x.q x.c mv nx alv sqv x.sr mm x.es x.ck)))) (fun _ _ _ _ h=>⟨⟨qq,⟨(arV (some nb)),ro1,ro2,c.size⟩,sr1,es1,ck1⟩,hpost,h⟩)
 obtain ⟨F,O⟩:=O.nM [] QL
 refine Zz hG O Z .nil .none rfl
theorem Zkn (b ob nb:Nat) (seqs:List (List Int)) (Live:Nat→Prop) (qo q:List Cell) (c:RtC) (mv:Value) (nx:Int) (alv sqv:Value) (sr:List SqC) (mm:Value) (es:List (GE Int Int)) (ck:Nat) (K:Int) (r:RtA) (cn:RtC) (rv:Value) (hI:MvI seqs Live qo q (arV (some ob)) (arV (some nb)) sr es K) (hr:Zch qo (arV (some ob)) c r) (hti:r.txs.length≤65536) (hov:∀ p ∈ r.orders,0≤p.val∧p.val<seqs.length) (hlv:∀ p ∈ r.orders,Live p.val.toNat) (hroom:q.length+r.txs.length+r.orders.length+Zar seqs r.orders≤65536) (hK:0≤K∧K≤1000000000000):FnG prog 121 1 [.is (.pointer (some ⟨b,0,none⟩)),.is rv,.is mm] [.star (ZtQ (.pointer (some ⟨b,0,none⟩)) (arV (some ob)) ob nb qo q cn mv nx alv sqv sr mm es ck rv c)] (.tup []) (fun _=>[.ex fun x:MvC=>.and (Zfy seqs Live r qo q (arV (some ob)) (arV (some nb)) es K x) (.star (ZtQ (.pointer (some ⟨b,0,none⟩)) (arV (some nb)) ob nb qo x.q cn mv nx alv sqv x.sr mm x.es x.ck rv x.c))]):=by
 refine FnG.mk func121 Z ntmps121 Z kr fun B F0 a w F V hG O=>?_
 obtain ⟨F,O⟩:=O.peel 1 2 Z rfl
 obtain ⟨F,O⟩:=O.peel 1 3 Z rfl
 obtain ⟨F,O⟩:=O.peel 1 4 Z rfl
 obtain ⟨F,O⟩:=O.peel 1 5 Z rfl
 obtain ⟨F,O⟩:=O.peel 1 6 Z rfl
 obtain ⟨F,O⟩:=O.peel 1 7 Z rfl
 dsimp only [Zrd] at O
 obtain ⟨F,O⟩:=O.nM Jq QV
 obtain ⟨e1,ro1,hM1,hR1,hE1⟩:=Znl ob nb (q:=q) hr.t ow
 obtain ⟨e2,ro2,hM2,hR2,hE2⟩:=Znl ob nb (q:=q++e1) hr.o WT
 refine Ya (Zr O (qR rr (qR rr (qf (o_nilCheck 7 .is Wd) r1 r1 (qf (oF 0 7 .adr) r1 r1 (qf (oL true 2 7 .adr) r1 r1 (qR rr (qf (o_nilCheck 2 .is Wd) r1 r1 (qf (oF 0 2 .adr) r1 r1 (qa 2 r1 r1 (qf (o_callG2c 3 4 (hM1) func186 Z kr Z (Args.two (.pagg .t) .t)) r2 r2 (qR rr (qf (o_extract .t Z) r1 qz (qf (o_extract .t Z) r1 qz (qf (o_nilCheck 7 .is Wd) r1 r1 (qf (oF 0 7 .adr) r1 r1 (qf (oA 2 7 .adr (.conv .t .agg)) r2 r1 qZ)))))))))))))))) V Jq QV Z Z fun a w F O=>?_)
 have O:=Xj
 refine Za (Ya (Zr O (qR rr (qR rr (qf (o_nilCheck 7 .is Wd) r1 r1 (qf (oF 2 7 .adr) r1 r1 (qf (oL true 2 7 .adr) r1 r1 (qR rr (qf (o_nilCheck 2 .is Wd) r1 r1 (qf (oF 0 2 .adr) r1 r1 (qa 2 r1 r1 (qf (o_callG2c 3 4 (hM2) func186 Z kr Z (Args.two (.pagg .t) .t)) r2 r2 (qR rr (qf (o_extract .t Z) r1 qz (qf (o_extract .t Z) r1 qz (qf (o_nilCheck 7 .is Wd) r1 r1 (qf (oF 2 7 .adr) r1 r1 (qf (oA 2 7 .adr (.conv .t .agg)) r2 r1 qZ)))))))))))))))) V Jq QV Z Z fun a w F O=>?_))
 have O:=Xj
 refine Za (Ya (rZ O (qR rr (qf (o_nilCheck 7 .is Wd) r1 r1 (qf (oF 2 7 .adr) r1 r1 (qf (oL true 2 7 .adr) r1 r1 (qf (o_callG1 4 (Zgm nb hR2 ow) func56 Z kr (Args.one (.pagg .t))) r1 r1 (qu YbX r1 (qJ qZ))))))) V Jz QV fun O=>Ye ?_))
 refine Zh (σ:=(Nat)×(List Cell)×(List SqC)×(List (GE Int Int))×(Nat)) [0,2,42,43] [0,2,3,7] (fun s=>[(44,.pv (.int .i64 (s.1:Int)))]) (fun s=>[(4,RS.hp (arH (some nb) 65536 s.2.1)),(5,.ob (.val sqv) (ZM 114 2 rSq s.2.2.1)),(6,.ob (.val mm) (MPI s.2.2.2.1 s.2.2.2.2))]) (fun s=>s.1≤r.orders.length∧(MvI seqs Live qo s.2.1 (arV (some ob)) (arV (some nb)) s.2.2.1 s.2.2.2.1 (K+(s.1:Int))∧(∃ e,s.2.1=q++e1++e2++e∧e.length≤Zar seqs (r.orders.take s.1))∧(∀ k,0<gvA es k→0<gvA s.2.2.2.1 k) ∧ ∀ j,j<s.1→0<gvA s.2.2.2.1 (Nn r.orders j).val)) (fun s=>r.orders.length - s.1) ((0),(q++e1++e2),(sr),(es),(ck)) O ⟨rfl,rfl,rfl,rfl,rfl,tv⟩ ⟨rfl,rfl,rfl,rfl,rfl,rfl,rfl,tv⟩ ⟨Yo _,⟨KA,⟨[],W5,Yo _⟩,fun _ h=>h,fun j hj=>absurd hj (YI j)⟩⟩ ?_
 clear O;intro s a w F hC O
 obtain ⟨i,qq,sr1,es1,ck1⟩:=s
 have hC:=X3
 obtain ⟨F,O⟩:=O.nM Jz QV
 have O:=X2
 obtain ⟨hi,hq⟩:=hC
 obtain ⟨hI1,⟨e0,hqq,hql⟩,hkp,hal⟩:=hq
 refine Ya (rZ O (qL r2) V [45,44,43,42,2,0] QV fun O=>Ya ?_)
 refine Zb O Z (fun hc0=>?_) (fun hc0=>?_)
 ·have hil:i<r.orders.length:=WI
  have hv:=hov _ (ZP hil)
  have hsl:=hI1.len
  have hcl:=Zic (seqs:=seqs) hil
  have hgb:=hI1.gv (Nn r.orders i).val
  have hqn:=Yai List.length hqq
  simp only [Yc] at hqn
  refine Yd (Za (Ya (Ye (Ya (rS O (qy 2 YbX r2 (qf (oR true 2 .t) r1 qz (qf (oH [.int .i64 0,.int .i64 0] 101) trivial qz (qS 2 101 r2 r1 qZ)))) V Dr JW fun τ O=>?_)))))
  have O:=X7
  generalize τ 7=v7 at O
  try simp only [Yf] at O
  refine Za (Ya (Zg O (qR rr (qg 1 101 r1 r1 (qa 101 r1 r1 (qf (ZaP (ek:=(fun c:Int=>PV.int .i64 c)) (z0:=(0:Int)) 6 Yb4 (Zbg YbV) kr (fun _ _=>⟨rfl,ZhX⟩) .is (Z5.intR .t Z)) r2 r1 (qp r1 (qf (Zbx (ek:=(fun c:Int=>PV.int .i64 c)) 6 Yb4 (Zbg YbV) .is (Z5.intR .t Z) .t) r3 r1 qZ)))))) V Dr JW Z Z fun a w F O=>?_))
  have hw1:IntKind.wrap .i64 ((gGet (Nn r.orders i).val es1).getD 0+1)=gvA es1 (Nn r.orders i).val+1:=Zj KB
  rw [hw1] at O
  obtain ⟨es2,hes⟩:∃ z,z=(gPut (Nn r.orders i).val (gvA es1 (Nn r.orders i).val+1) (es1,ck1)).1:=⟨_,rfl⟩
  obtain ⟨ck2,hck⟩:∃ z,z=(gPut (Nn r.orders i).val (gvA es1 (Nn r.orders i).val+1) (es1,ck1)).2:=⟨_,rfl⟩
  rw [← hes,← hck] at O
  have hgv2:∀ k,gvA es2 k=if k=(Nn r.orders i).val then gvA es1 (Nn r.orders i).val+1 else gvA es1 k:=fun k=>by rw [hes];exact Zsx k
  refine Za (Ya (rZ O (qR rr (qg 1 101 r1 r1 (qa 101 r1 r1 (qf (ZaP (ek:=(fun c:Int=>PV.int .i64 c)) (z0:=(0:Int)) 6 Yb4 (Zbg YbV) kr (fun _ _=>⟨rfl,ZhX⟩) .is (Z5.intR .t Z)) r2 r1 (qf (o_eql .t qi) r1 qz qZ))))) V [57,44,43,42,7,2,0] JW fun O=>?_))
  refine Zb O Z (fun hc1=>?_) (fun hc1=>?_)
  ·have h19:gvA es2 (Nn r.orders i).val=1:=Qv
   rw [hgv2,Yg rfl] at h19
   have hg0:gvA es1 ((Nn r.orders i).val.toNat:Int)=0:=by rw [Ybo hv.1];omega
   have hold:=hI1.old (Nn r.orders i).val.toNat ow (hlv _ (ZP hil)) hg0
   obtain ⟨e3,ro3,hM3,hR3,hE3⟩:=ZpN ob nb (q:=qq) (c:=Nn sr1 (Nn r.orders i).val.toNat) hold ow
   have hI3:MvI seqs Live qo (qq++e3) (arV (some ob)) (arV (some nb)) (sr1.set (Nn r.orders i).val.toNat ⟨(arV (some nb)),ro3⟩) es2 (K+((i+1:Nat):Int)):=KQ
   have hq3:∃ e,qq++e3=q++e1++e2++e∧e.length≤Zar seqs (r.orders.take (i+1)):=⟨e0++e3,by rw [hqq];simp,by rw [Zcw hil,Yc];omega⟩
   have hkp3:∀ k,0<gvA es k→0<gvA es2 k:=fun k hk9=>by have h1:=hkp k hk9;have h2:=(hI1.gv (Nn r.orders i).val).1;rw [hgv2];split <;> omega
   have hal3:∀ j,j<i+1→0<gvA es2 (Nn r.orders j).val:=fun j hj=>by
     have h2:=(hI1.gv (Nn r.orders i).val).1
     rw [hgv2]
     rcases Yw (YC hj) with h9 | h9
     ·have h1:=hal j h9;split <;> omega
     ·subst h9;rw [Yg rfl];omega
   refine Zr O (qR rr (qf (o_nilCheck 2 .is Wd) r1 r1 (qf (oF 9 2 .adr) r1 r1 (qa 2 r1 r1 (qg 1 101 r1 r1 (qa 101 r1 r1 (qR rr (qf (o_nilCheck 2 .is Wd) r1 r1 (qf (oF 9 2 .adr) r1 r1 (qa 2 r1 r1 (qg 1 101 r1 r1 (qa 101 r1 r1 (qf (o_indexAddr_row (sz:=2) 5 (.mk YbZ kr) .is .t ow ow Wd) r2 r1 (qf (Zs (ag:=true) (sz':=2) (sz:=2) 5 .t Wt ow kr kr kr) r1 r1 (qR rr (qf (o_nilCheck 2 .is Wd) r1 r1 (qf (oF 0 2 .adr) r1 r1 (qa 2 r1 r1 (qf (o_callG2c 3 4 (hM3) func187 Z kr Z (Args.two (.pagg .t) .t)) r2 r2 (qR rr (qf (o_extract .t Z) r1 qz (qf (o_extract .t Z) r1 qz (qf (o_indexAddr_row (sz:=2) 5 (.mk YbZ kr) .is .t ow ow Wd) r2 r1 (qf (Z1 (R:=rSq) (v:=⟨(arV (some nb)),ro3⟩) (sz:=2) 5 .t Wt ow .t kr) r2 r1 qZ)))))))))))))))))))))))) V Jz JW Z Z fun a w F O=>?_
   have O:=Xj
   try simp only [Yf] at O
   refine Zf (Za (rZ O (qp r1 (qR rr qZ)) V Jz JW fun O=>?_))
   replace O:=O.eI 44 i
   obtain ⟨F,O⟩:=O.nM Xa3 [7,3,2,0,6,5,4]
   exact ⟨((i+1),(qq++e3),(sr1.set (Nn r.orders i).val.toNat ⟨(arV (some nb)),ro3⟩),(es2),(ck2)),F,⟨ow,⟨hI3,hq3,hkp3,hal3⟩⟩,O,ow⟩
  have h19:gvA es2 (Nn r.orders i).val≠1:=Qv
  rw [hgv2,Yg rfl] at h19
  have hI3:MvI seqs Live qo qq (arV (some ob)) (arV (some nb)) sr1 es2 (K+((i+1:Nat):Int)):=KU
  have hq3:∃ e,qq=q++e1++e2++e∧e.length≤Zar seqs (r.orders.take (i+1)):=⟨e0,hqq,by rw [Zcw hil];omega⟩
  have hkp3:∀ k,0<gvA es k→0<gvA es2 k:=fun k hk9=>by have h1:=hkp k hk9;have h2:=(hI1.gv (Nn r.orders i).val).1;rw [hgv2];split <;> omega
  have hal3:∀ j,j<i+1→0<gvA es2 (Nn r.orders j).val:=fun j hj=>by
    have h2:=(hI1.gv (Nn r.orders i).val).1
    rw [hgv2]
    rcases Yw (YC hj) with h9 | h9
    ·have h1:=hal j h9;split <;> omega
    ·subst h9;rw [Yg rfl];omega
  refine Yd (Zf (Za (rZ O (qp r1 (qR rr qZ)) V Jz JW fun O=>?_)))
  replace O:=O.eI 44 i
  obtain ⟨F,O⟩:=O.nM Xa3 [7,3,2,0,6,5,4]
  exact ⟨((i+1),(qq),(sr1),(es2),(ck2)),F,⟨ow,⟨hI3,hq3,hkp3,hal3⟩⟩,O,ow⟩
 have hil:i=r.orders.length:=WI
 have hpost:Zfy seqs Live r qo q (arV (some ob)) (arV (some nb)) es K ⟨qq,⟨(arV (some nb)),ro1,ro2,c.size⟩,sr1,es1,ck1⟩:=by
   rw [hil] at hI1 hql
   rw [Yy] at hql
   exact ⟨⟨e1++e2++e0,by show qq=_;rw [hqq];simp,by simp only [Yc];omega⟩,⟨rfl,by show ZjP qq ro1 r.txs;rw [hqq,Yt,Yt];rw [← Yt q];exact hR1.app,by show ZjP qq ro2 r.orders;rw [hqq];exact hR2.app,hr.s⟩,hI1,hkp,Zsi fun j hj=>hal j ow⟩
 refine Ym (Ze (Ze (Zk ?_)))
 have O:=O.fresh 1 rfl
 obtain ⟨F,O⟩:=O.push 1 7 Z Z Z kr
 obtain ⟨F,O⟩:=O.push 1 6 Z Z Z kr
 obtain ⟨F,O⟩:=O.push 1 5 Z Z Z kr
 obtain ⟨F,O⟩:=O.push 1 4 Z Z Z kr
 obtain ⟨F,O⟩:=O.push 1 3 Z Z Z kr
 obtain ⟨F,O⟩:=O.push 1 2 Z Z Z kr
 have O:=O.turn 1 Z (r':=RS.hp (.ex fun x:MvC=>.and (Zfy seqs Live r qo q (arV (some ob)) (arV (some nb)) es K x) (.star (ZtQ (.pointer (some ⟨b,0,none⟩)) (arV (some nb)) ob nb qo x.q cn mv nx alv sqv x.sr mm x.es x.ck rv x.c)))) (fun _ _ _ _ h=>⟨⟨qq,⟨(arV (some nb)),ro1,ro2,c.size⟩,sr1,es1,ck1⟩,hpost,h⟩)
 obtain ⟨F,O⟩:=O.nM [] QL
 refine Zz hG O Z .nil .none rfl
theorem ZrJ (b ob nb:Nat) (seqs:List (List Int)) (Live:Nat→Prop) (qo q:List Cell) (c:RtC) (mv:Value) (nx:Int) (alv sqv:Value) (sr:List SqC) (mm:Value) (es:List (GE Int Int)) (ck:Nat) (K:Int) (hI:MvI seqs Live qo q (arV (some ob)) (arV (some nb)) sr es K) (hn0:0<seqs.length) (hn1:seqs.length≤1000000) (hll:Live (seqs.length - 1)) (hroom:q.length+(Nn seqs (seqs.length - 1)).length≤65536):FnG prog 123 1 [.is (.pointer (some ⟨b,0,none⟩)),.is mm] [.star (Zq6 (.pointer (some ⟨b,0,none⟩)) (arV (some nb)) ob nb qo q c mv nx alv sqv sr mm es ck)] (.tup []) (fun _=>[.ex fun x:MvC=>.and (x.sr.length=seqs.length∧(∀ i:Nat,i<seqs.length→0<gvA es i→(Nn x.sr i).av=(arV (some nb))∧Zbm x.q (Nn x.sr i).root (Nn seqs i))∧(∃ e,x.q=q++e∧e.length≤(Nn seqs (seqs.length - 1)).length)∧(Nn x.sr (seqs.length - 1)).av=(arV (some nb))∧Zbm x.q (Nn x.sr (seqs.length - 1)).root (Nn seqs (seqs.length - 1))) (.star (Zq6 (.pointer (some ⟨b,0,none⟩)) (arV (some nb)) ob nb qo x.q c mv nx alv sqv x.sr mm es ck))]):=by
 refine FnG.mk func123 Z ntmps123 Z kr fun B F0 a w F V hG O=>?_
 obtain ⟨F,O⟩:=O.peel 1 2 Z rfl
 obtain ⟨F,O⟩:=O.peel 1 3 Z rfl
 obtain ⟨F,O⟩:=O.peel 1 4 Z rfl
 obtain ⟨F,O⟩:=O.peel 1 5 Z rfl
 obtain ⟨F,O⟩:=O.peel 1 6 Z rfl
 dsimp only [Zrd] at O
 obtain ⟨F,O⟩:=O.nM QL QR
 refine Ya (Zg O (qR rr (qf (o_nilCheck 2 .is Wd) r1 r1 (qf (oF 9 2 .adr) r1 r1 (qa 2 r1 r1 (qf (Zam 5 YbZ .is) r1 r1 (qf (o_sub .t qi) r1 qz (qO rr qZ))))))) V J0 QR Z Z fun a w F O=>?_)
 have hsl:=hI.len
 have hlw:IntKind.wrap .i64 ((sr.length:Int) - 1)=((seqs.length - 1:Nat):Int):=K8
 rw [hlw] at O
 refine Za (Ya (rZ O (qR rr (qR rr (qf (ZaP (ek:=(fun c:Int=>PV.int .i64 c)) (z0:=(0:Int)) 6 Yb4 (Zbg YbV) kr (fun _ _=>⟨rfl,ZhX⟩) .is (Z5.intR .t Z)) r2 r1 (qf (o_eql .t qi) r1 qz qZ)))) V [14,4,0] QR fun O=>?_))
 refine Zb O Z (fun hc0=>?_) (fun hc0=>?_)
 ·have hg0:gvA es ((seqs.length - 1:Nat):Int)=0:=by simpa [gvA] using hc0
  have hold:=hI.old (seqs.length - 1) ow hll hg0
  obtain ⟨e3,ro3,hM3,hR3,hE3⟩:=ZpN ob nb (q:=q) (c:=(Nn sr (seqs.length - 1))) hold ow
  have hpost:(sr.set (seqs.length - 1) ⟨(arV (some nb)),ro3⟩).length=seqs.length∧(∀ i:Nat,i<seqs.length→0<gvA es i→(Nn (sr.set (seqs.length - 1) ⟨(arV (some nb)),ro3⟩) i).av=(arV (some nb))∧Zbm (q++e3) (Nn (sr.set (seqs.length - 1) ⟨(arV (some nb)),ro3⟩) i).root (Nn seqs i))∧(∃ e,(q++e3)=q++e∧e.length≤(Nn seqs (seqs.length - 1)).length)∧(Nn (sr.set (seqs.length - 1) ⟨(arV (some nb)),ro3⟩) (seqs.length - 1)).av=(arV (some nb))∧Zbm (q++e3) (Nn (sr.set (seqs.length - 1) ⟨(arV (some nb)),ro3⟩) (seqs.length - 1)).root (Nn seqs (seqs.length - 1)):=by
   have hset:Nn (sr.set (seqs.length - 1) (⟨(arV (some nb)),ro3⟩:SqC)) (seqs.length - 1) = ⟨(arV (some nb)),ro3⟩:=by rw [Zgz ow,Yg rfl]
   refine ⟨by rw [YR];exact hI.len,fun i hi hg=>?_,⟨e3,rfl,ow⟩,by rw [hset],by rw [hset];exact hR3⟩
   have hne:i≠seqs.length - 1:=fun h9=>by rw [h9,hg0] at hg;omega
   rw [Zgz ow,Yb hne]
   exact ⟨(hI.new i hi hg).1,(hI.new i hi hg).2.app⟩
  refine Zr O (qR rr (qf (o_nilCheck 2 .is Wd) r1 r1 (qf (oF 9 2 .adr) r1 r1 (qa 2 r1 r1 (qR rr (qR rr (qf (o_nilCheck 2 .is Wd) r1 r1 (qf (oF 9 2 .adr) r1 r1 (qa 2 r1 r1 (qR rr (qf (o_indexAddr_row (sz:=2) 5 (.mk YbZ kr) .is .t ow ow Wd) r2 r1 (qf (Zs (ag:=true) (sz':=2) (sz:=2) 5 .t Wt (by rw [Yf];omega) kr kr kr) r1 r1 (qR rr (qf (o_nilCheck 2 .is Wd) r1 r1 (qf (oF 0 2 .adr) r1 r1 (qa 2 r1 r1 (qf (o_callG2c 3 4 (hM3) func187 Z kr Z (Args.two (.pagg .t) .t)) r2 r2 (qR rr (qf (o_extract .t Z) r1 qz (qf (o_extract .t Z) r1 qz (qf (o_indexAddr_row (sz:=2) 5 (.mk YbZ kr) .is .t ow ow Wd) r2 r1 (qf (Z1 (R:=rSq) (v:=⟨(arV (some nb)),ro3⟩) (sz:=2) 5 .t Wt (by rw [Yf];omega) .t kr) r2 r1 qZ)))))))))))))))))))))) V [] QR Z Z fun a w F O=>?_
  have O:=Xj
  try simp only [Yf] at O
  have O:=O.fresh 1 rfl
  obtain ⟨F,O⟩:=O.push 1 6 Z Z Z kr
  obtain ⟨F,O⟩:=O.push 1 5 Z Z Z kr
  obtain ⟨F,O⟩:=O.push 1 4 Z Z Z kr
  obtain ⟨F,O⟩:=O.push 1 3 Z Z Z kr
  obtain ⟨F,O⟩:=O.push 1 2 Z Z Z kr
  have O:=O.turn 1 Z (r':=RS.hp (.ex fun x:MvC=>.and (x.sr.length=seqs.length∧(∀ i:Nat,i<seqs.length→0<gvA es i→(Nn x.sr i).av=(arV (some nb))∧Zbm x.q (Nn x.sr i).root (Nn seqs i))∧(∃ e,x.q=q++e∧e.length≤(Nn seqs (seqs.length - 1)).length)∧(Nn x.sr (seqs.length - 1)).av=(arV (some nb))∧Zbm x.q (Nn x.sr (seqs.length - 1)).root (Nn seqs (seqs.length - 1))) (.star (Zq6 (.pointer (some ⟨b,0,none⟩)) (arV (some nb)) ob nb qo x.q c mv nx alv sqv x.sr mm es ck)))) (fun _ _ _ _ h=>⟨⟨q++e3,c,sr.set (seqs.length - 1) ⟨(arV (some nb)),ro3⟩,es,ck⟩,hpost,h⟩)
  obtain ⟨F,O⟩:=O.nM [] QL
  refine Zz hG O Z .nil .none rfl
 have hg0:gvA es ((seqs.length - 1:Nat):Int)≠0:=by simpa [gvA] using hc0
 have hgp:=(hI.gv ((seqs.length - 1:Nat):Int)).1
 have hnew:=hI.new (seqs.length - 1) ow ow
 have hpost:sr.length=seqs.length∧(∀ i:Nat,i<seqs.length→0<gvA es i→(Nn sr i).av=(arV (some nb))∧Zbm q (Nn sr i).root (Nn seqs i))∧(∃ e,q=q++e∧e.length≤(Nn seqs (seqs.length - 1)).length)∧(Nn sr (seqs.length - 1)).av=(arV (some nb))∧Zbm q (Nn sr (seqs.length - 1)).root (Nn seqs (seqs.length - 1)):=⟨hI.len,hI.new,⟨[],by simp,Yo _⟩,hnew.1,hnew.2⟩
 refine Yd ?_
 have O:=O.fresh 1 rfl
 obtain ⟨F,O⟩:=O.push 1 6 Z Z Z kr
 obtain ⟨F,O⟩:=O.push 1 5 Z Z Z kr
 obtain ⟨F,O⟩:=O.push 1 4 Z Z Z kr
 obtain ⟨F,O⟩:=O.push 1 3 Z Z Z kr
 obtain ⟨F,O⟩:=O.push 1 2 Z Z Z kr
 have O:=O.turn 1 Z (r':=RS.hp (.ex fun x:MvC=>.and (x.sr.length=seqs.length∧(∀ i:Nat,i<seqs.length→0<gvA es i→(Nn x.sr i).av=(arV (some nb))∧Zbm x.q (Nn x.sr i).root (Nn seqs i))∧(∃ e,x.q=q++e∧e.length≤(Nn seqs (seqs.length - 1)).length)∧(Nn x.sr (seqs.length - 1)).av=(arV (some nb))∧Zbm x.q (Nn x.sr (seqs.length - 1)).root (Nn seqs (seqs.length - 1))) (.star (Zq6 (.pointer (some ⟨b,0,none⟩)) (arV (some nb)) ob nb qo x.q c mv nx alv sqv x.sr mm es ck)))) (fun _ _ _ _ h=>⟨⟨q,c,sr,es,ck⟩,hpost,h⟩)
 obtain ⟨F,O⟩:=O.nM [] QL
 refine Zz hG O Z .nil .none rfl
theorem ZoB {l ks:List Int} (hp:l.Perm ks) (h:ks.Pairwise (· < ·)):l.mergeSort leI=ks:=by
 have hs:List.Pairwise (fun x y=>x≤y) (l.mergeSort leI):=by
  have:=Ybk (le:=leI) (fun a b c h1 h2=>by simp [leI] at *;omega) (fun a b=>by simp [leI];omega) l
  exact List.Pairwise.imp (fun h=>by simpa [leI] using h) this
 exact List.Perm.eq_of_pairwise (fun x y _ _ h1 h2=>Int.le_antisymm h1 h2) hs (List.Pairwise.imp (fun h=>Ybs h) h) ((YaO l leI).trans hp)
def ZbY (v w:Value) (A:StA) (s:StC) (c:RtC):List RS:=[.pt (.val v) 97 [.pv (.is (arV (some s.b))),.pv (.is (arV (some s.b))),.pv (.int .i64 s.c.tr),.pv (.is (arV (some s.b))),.pv (.int .i64 s.c.or),.pv (.int .i64 s.c.size),.pv (.is s.mv),.pv (.int .i64 A.next),.pv (.is s.alv),.pv (.is s.sqv)],RS.hp (arH (some s.b) 65536 s.q),.ob (.val s.mv) (Zox s.cs s.ck),.ob (.val s.alv) (ZM 36 3 rTx A.all),.ob (.val s.sqv) (ZM 114 2 rSq s.sr),.pt (.val w) 92 [.pv (.is (arV (some s.b))),.pv (.int .i64 c.tr),.pv (.is (arV (some s.b))),.pv (.int .i64 c.or),.pv (.int .i64 c.size)]]
structure Zb1 (A:StA) (r:RtA) (s:StC) (c:RtC) (n:Int) (x:StC×RtC):Prop where
 rep:Zap A [r] x.1
 rt:Zch x.1.q (arV (some x.1.b)) x.2 r
 room:(x=(s,c)∧s.q.length+n≤65536)∨x.1.q.length≤60000
def ZsW (A:StA) (i:Nat):Int:=A.now.size+((A.snaps.take i).map fun x=>x.2.size).sum
structure Zcv (A:StA) (r:RtA) (qo:List Cell) (av nv:Value) (c1:RtC) (i:Nat) (cs1:List (GE Int RtC)) (qq:List Cell) (sr1:List SqC) (es1:List (GE Int Int)):Prop where
 now:Zch qq nv c1 A.now
 keys:cs1.map (·.key)=A.snaps.map (·.1)
 snaps:∀ (j:Nat) (x:Int×RtA),A.snaps[j]? = some x → ∃ c,gGet x.1 cs1=some c∧(j<i→Zch qq nv c x.2)∧(¬ j<i→Zch qo av c x.2)
 mv:∃ K,(0≤K∧K≤10000*((i:Int)+1))∧MvI A.seqs (ZcA (rootsA A ++ [r]) A.seqs.length) qo qq av nv sr1 es1 K
 alln:∀ p ∈ A.now.orders,0<gvA es1 p.val
 alls:∀ (j:Nat) (x:Int×RtA),j<i→A.snaps[j]? = some x → ∀ p ∈ x.2.orders,0<gvA es1 p.val
 len:(qq.length:Int)≤ZsW A i
theorem Zph {A:StA} {i:Nat} {x:Int×RtA} (h:A.snaps[i]? = some x):ZsW A (i+1)=ZsW A i+x.2.size:=by
 obtain ⟨hi,e⟩:=YK.1 h
 unfold ZsW
 rw [YaX hi,YZ,YaE,e]
 simp;omega
theorem Zo0 {A:StA} (hk:Zaz A) (i:Nat):ZsW A i≤10000:=by
 have h1:=hk.held
 have h2:((A.snaps.take i).map fun x=>x.2.size).sum≤(A.snaps.map fun x=>x.2.size).sum:=by
  have e:A.snaps=A.snaps.take i++A.snaps.drop i:=(YY i A.snaps).symm
  have h3:=Zdo (l:=A.snaps.drop i) fun x hx=>hk.nn x (YaW hx)
  have e2:(A.snaps.map fun x=>x.2.size).sum=((A.snaps.take i).map fun x=>x.2.size).sum+((A.snaps.drop i).map fun x=>x.2.size).sum:=by
   conv=>lhs;rw [e]
   rw [YZ,YaE]
  omega
 unfold ZaT at h1
 unfold ZsW;omega
theorem live_of {A:StA} {r r1:RtA} (hr:r1 ∈ rootsA A ++ [r]) (hov:∀ p ∈ r1.orders,0≤p.val):∀ p ∈ r1.orders,ZcA (rootsA A ++ [r]) A.seqs.length p.val.toNat:=fun p hp=>.inl ⟨r1,hr,p,hp,(Ybo (hov p hp)).symm⟩
theorem snap_root {A:StA} {r:RtA} {i:Nat} {x:Int×RtA} (h:A.snaps[i]? = some x):x.2 ∈ rootsA A ++ [r]:=by
 have h1:x ∈ A.snaps:=YaD h
 simp only [rootsA,Y1,Yp,YH]
 exact .inr (.inl (YG.2 ⟨x,h1,rfl⟩))
theorem Zcv.start {A:StA} {r:RtA} {s:StC} {nv:Value} (hk:Zaz A) (h:Zap A [r] s) {x:MvC} (hp:Zfy A.seqs (ZcA (rootsA A ++ [r]) A.seqs.length) A.now s.q [] (arV (some s.b)) nv [] 0 x):Zcv A r s.q (arV (some s.b)) nv x.c 0 s.cs x.q x.sr x.es:=by
 refine ⟨hp.rt,h.keys,fun j y hy=>?_,⟨0+A.now.orders.length,⟨ow,?_⟩,hp.mv⟩,hp.all,fun j y hj=>absurd hj (YI j),?_⟩
 ·obtain ⟨c,hc,hr⟩:=h.snaps y (YaD hy)
  exact ⟨c,hc,fun hj=>absurd hj (YI j),fun _=>hr⟩
 ·have h1:=hk.now_le
  have h2:=ZcD A.all A.seqs A.now
  omega
 ·obtain ⟨e,he,hl⟩:=hp.app
  rw [he]
  have h1:=Zbr A.all A.seqs A.now
  have h2:=hk.szn
  unfold ZsW
  simp;omega
theorem Zcv.step {A:StA} {r:RtA} {qo qq:List Cell} {av nv:Value} {c1:RtC} {i:Nat} {cs1:List (GE Int RtC)} {cc:Nat} {sr1:List SqC} {es1:List (GE Int Int)} {K:Int} (hk:Zaz A) (h:Zcv A r qo av nv c1 i cs1 qq sr1 es1) (hK:0≤K∧K≤10000*((i:Int)+1)) {y:Int×RtA} (hy:A.snaps[i]? = some y) {x:MvC} (hp:Zfy A.seqs (ZcA (rootsA A ++ [r]) A.seqs.length) y.2 qo qq av nv es1 K x):Zcv A r qo av nv c1 (i+1) (gPut y.1 x.c (cs1,cc)).1 x.q x.sr x.es:=by
 obtain ⟨e,he,hl⟩:=hp.app
 have hym:y ∈ A.snaps:=YaD hy
 have hyk:y.1 ∈ cs1.map (·.key):=by rw [h.keys];exact YG.2 ⟨y,hym,rfl⟩
 have hsl:=hk.snap_le hym
 have hst:=ZcD A.all A.seqs y.2
 refine ⟨by rw [he];exact h.now.app,by rw [Zkz,Yg hyk];exact h.keys,fun j z hz=>?_,⟨K+y.2.orders.length,⟨ow,ow⟩,hp.mv⟩,fun p hq=>hp.keep _ (h.alln p hq),fun j z hj hz p hq=>?_,?_⟩
 ·rw [Zfh]
  by_cases hjz:z.1=y.1
  ·have hji:j=i:=by
    obtain ⟨hj1,e1⟩:=YK.1 hz
    obtain ⟨hi1,e2⟩:=YK.1 hy
    have hpw:=Y9.1 hk.ids
    rcases Ybw j i with h1 | h1 | h1
    ·have:=hpw j i (by simpa using hj1) (by simpa using hi1) h1
     rw [Yaq,Yaq,e1,e2] at this;omega
    ·exact h1
    ·have:=hpw i j (by simpa using hi1) (by simpa using hj1) h1
     rw [Yaq,Yaq,e1,e2] at this;omega
   subst hji
   rw [hz] at hy
   cases hy
   rw [Yg rfl]
   exact ⟨x.c,rfl,fun _=>hp.rt,fun hn=>absurd (Nat.lt_succ_self _) hn⟩
  ·rw [Yb hjz]
   obtain ⟨c,hc,h1,h2⟩:=h.snaps j z hz
   have hne:j≠i:=fun e9=>by subst e9;rw [hz] at hy;cases hy;exact hjz rfl
   exact ⟨c,hc,fun hj=>by rw [he];exact (h1 ow).app,fun hj=>h2 ow⟩
 ·rcases Yw (YC hj) with h1 | h1
  ·exact hp.keep _ (h.alls j z h1 hz p hq)
  ·subst h1
   rw [hz] at hy
   cases hy
   exact hp.all p hq
 ·have h1:=Zbr A.all A.seqs y.2
  have h2:=hk.szs y hym
  have h3:=h.len
  rw [Zph hy,he,Yc]
  omega
theorem Zcv.cur {A:StA} {r:RtA} {qo qq:List Cell} {av nv:Value} {c1:RtC} {i:Nat} {cs1:List (GE Int RtC)} {sr1:List SqC} {es1:List (GE Int Int)} (h:Zcv A r qo av nv c1 i cs1 qq sr1 es1) {y:Int×RtA} (hy:A.snaps[i]? = some y):∃ c,gGet y.1 cs1=some c∧Zch qo av c y.2:=by
 obtain ⟨c,hc,_,h2⟩:=h.snaps i y hy
 exact ⟨c,hc,h2 (Nat.lt_irrefl i)⟩
theorem Zcv.done {A:StA} {r:RtA} {qo qq:List Cell} {av:Value} {nb:Nat} {c1:RtC} {i:Nat} {cs1:List (GE Int RtC)} {sr1 sr2:List SqC} {es1:List (GE Int Int)} {K:Int} {q2:List Cell} {cc:Nat} {mv alv sqv:Value} (h:Zcv A r qo av (arV (some nb)) c1 i cs1 qq sr1 es1) (hi:i=A.snaps.length) {x:MvC} (hp:Zfy A.seqs (ZcA (rootsA A ++ [r]) A.seqs.length) r qo qq av (arV (some nb)) es1 K x) (hq:∃ e,q2=x.q++e) (hl:sr2.length=A.seqs.length) (hall:∀ i:Nat,i<A.seqs.length→0<gvA x.es i→(Nn sr2 i).av=arV (some nb)∧Zbm q2 (Nn sr2 i).root (Nn A.seqs i)) (hlast:0<A.seqs.length→(Nn sr2 (A.seqs.length - 1)).av=arV (some nb)∧Zbm q2 (Nn sr2 (A.seqs.length - 1)).root (Nn A.seqs (A.seqs.length - 1))) :
  Zap A [r] ⟨nb,q2,c1,cs1,cc,mv,alv,sqv,sr2⟩∧Zch q2 (arV (some nb)) x.c r:=by
 obtain ⟨e,he⟩:=hq
 obtain ⟨e1,he1,_⟩:=hp.app
 refine ⟨⟨by show Zch q2 _ c1 A.now;rw [he,he1];exact (h.now.app).app,h.keys,fun y hy=>?_,hl,fun j hj hlv=>?_⟩,by rw [he];exact hp.rt.app⟩
 ·obtain ⟨j,hj,e9⟩:=YL hy
  obtain ⟨c,hc,h1,_⟩:=h.snaps j y (by rw [YaP hj,e9])
  exact ⟨c,hc,by show Zch q2 _ c y.2;rw [he,he1];exact ((h1 ow).app).app⟩
 ·rcases hlv with ⟨r1,hr1,p,hpm,e9⟩ | h1
  ·refine hall j hj ?_
   rw [← e9]
   simp only [rootsA,Y1,Yp,YH,YG,YaF,Ya8] at hr1
   rcases hr1 with rfl | ⟨y,hy,rfl⟩ | rfl
   ·exact hp.keep _ (h.alln p hpm)
   ·obtain ⟨k,hk,e8⟩:=YL hy
    exact hp.keep _ (h.alls k y ow (by rw [YaP hk,e8]) p hpm)
   ·exact hp.all p hpm
  ·have h2:=hlast ow
   rw [show A.seqs.length - 1=j by omega] at h2
   exact h2
theorem ZrY (mv:Value):FnP prog 122 [.is mv] (.clos 188 [.ref [.is mv]]):=by
 refine FnP.mk func122 Z ntmps122 Z fun B a w F V hfr O=>Ya ?_
 refine rS O (qf (Zm9 101 .t Ziw) r1 qz (qC qZ)) V J5 QK fun τ O=>?_
 have O:=Xa
 generalize τ 1=v1 at O
 obtain ⟨F,O⟩:=O.giveRef 101 1 Z Z rfl
 obtain ⟨F,O⟩:=O.nM J5 [0]
 have O:=XW
 refine Za (Ya (rZ O (qf (ZcX (Args.one .t)) r1 qz (qO rr qZ)) V [2] [0] fun O=>Yh ?_))
 refine Zx hfr O Z Z Z .refl
theorem ZoQ (mv:Value) (es:List (GE Int RtC)) (ck:Nat) (ks:List Int) (hke:es.map (·.key)=ks) (hkr:ks.Pairwise (· < ·)) (hl9:es.length≤100000):FnG prog 102 2 [.clos 188 [.ref [.is mv]]] [Zox es ck mv,.star []] (PV.one) (fun v=>[Zox es ck mv,ZM 3 1 Zo ks v]):=by
 refine FnG.mk func102 Z ntmps102 Z kr fun B F0 a w F V hG O=>Ya ?_
 refine rZ O (qC qZ) V Ju Jq fun O=>Ya ?_
 refine rS O (qR rr (qf (Zj3 1 2 (Zlm (fun c:RtC=>PV.agg (rRt c)) mv es ck ow) func166 Z kr Z (Args.one .t) Zf1) r1 r2 (qO rr qZ))) V Xap Jq fun τ O=>?_
 have O:=XN
 generalize τ 5=v5 at O
 replace O:=O.turn 2 Z (r':=RS.hp (HP.ex fun l:List Int=>HP.and (l.Perm (es.map fun z:GE Int RtC=>z.key)) (ZM 3 1 Zo l v5))) (fun _ _ _ _ h=>h)
 obtain ⟨ks2,O⟩:=O.open_ex 2 rfl
 obtain ⟨hks,O⟩:=O.open_and 2 rfl
 replace O:=O.turn 2 Z (r':=.ob (.val v5) (ZM 3 1 Zo ks2)) (fun _ _ _ _ h=>h)
 have hkl:ks2.length≤1000000:=by have h1:=hks.length_eq;rw [YO] at h1;omega
 obtain ⟨F,O⟩:=O.nM Xap Jq
 refine Za (Ya (Zg O (qR rr (qf (ZY 2 (Zmv _ ks2 hkl) func92 Z kr (Args.one .t)) r1 r1 qZ)) V Xap Jq Z Z fun a w F O=>?_))
 rw [ZoB (hks.trans (by rw [hke])) hkr] at O
 refine Za (Ya (rZ O (qR rr (qO rr qZ)) V [2] Jq fun O=>Yh ?_))
 have O:=O.turn 2 Z (r':=RS.hp (ZM 3 1 Zo ks v5)) (fun _ _ _ _ h=>h)
 refine ZtM (k2:=fun v=>ZM 3 1 Zo ks v) hG O Z (.tmp Z .nil) (.one .one) Z rfl
theorem ZkJ {b:Nat} {room:Int} {q:List Cell} {w:World} {f y:Ys} (h:(HP.named (fun b=>arV (some b)) (fun b=>arH (some b) room q) (arV (some b))).p w f y):(arH (some b) room q).p w f y:=by
 obtain ⟨b',e,h⟩:=h
 have e2:b=b':=by simpa [arV] using e
 subst e2;exact h
theorem Zlu {v:Value} {room:Int} {q:List Cell} {w:World} {f y:Ys} (h:(HP.named (fun b=>arV (some b)) (fun b=>arH (some b) room q) v).p w f y):∃ b,v=arV (some b):=by
 obtain ⟨b,e,_⟩:=h
 exact ⟨b,e⟩
theorem Zus (n room:Int) (hr:Zcg n=room):FnG prog 45 1 [.int .i64 n] [.star []] PV.ptr (fun v=>[HP.named (fun b=>arV (some b)) (fun b=>arH (some b) room []) v]):=by
 subst hr
 exact FnG.newNamed (Zpm n) fun v w f y h=>by obtain ⟨b,rfl⟩:=ZiD h;exact ⟨b,rfl,h⟩
theorem ZsF (b:Nat) (room:Int) (q:List Cell):FnG prog 120 1 [.is (arV (some b))] [arH (some b) room q] (.int .i64 (room - q.length)) (fun _=>[arH (some b) room q]):=Znq b room q
theorem Ze8 (b wb:Nat) (A:StA) (hok:Zaz A) (hfit:ZbR A) (r:RtA) (hrok:ZlN A.all A.seqs r) (hrz:sizeH (histA A.all A.seqs r)≤40000) (sc:StC) (c:RtC) (n:Int) (hk:Zap A [r] sc) (hr:Zch sc.q (arV (some sc.b)) c r) (hn:0≤n∧n≤5000):FnG prog 64 1 [.is (.pointer (some ⟨b,0,none⟩)),.is (.pointer (some ⟨wb,0,none⟩)),.int .i64 n] [.star (ZbY (.pointer (some ⟨b,0,none⟩)) (.pointer (some ⟨wb,0,none⟩)) A sc c)] (.tup []) (fun _=>[.ex fun x:StC×RtC=>.and (Zb1 A r sc c n x) (.star (ZbY (.pointer (some ⟨b,0,none⟩)) (.pointer (some ⟨wb,0,none⟩)) A x.1 x.2))]):=by
 refine FnG.mk func64 Z ntmps64 Z kr fun B F0 a w F V hG O=>?_
 obtain ⟨F,O⟩:=O.peel 1 2 Z rfl
 obtain ⟨F,O⟩:=O.peel 1 3 Z rfl
 obtain ⟨F,O⟩:=O.peel 1 4 Z rfl
 obtain ⟨F,O⟩:=O.peel 1 5 Z rfl
 obtain ⟨F,O⟩:=O.peel 1 6 Z rfl
 obtain ⟨F,O⟩:=O.peel 1 7 Z rfl
 obtain ⟨F,O⟩:=O.nM Jq QV
 have hnl:=hok.now_le
 have hncl:=Zbr A.all A.seqs A.now
 have hsf8:=hfit.seqs
 refine Ya (Ya (rZ O (qR rr (qf (o_nilCheck 2 .is Wd) r1 r1 (qf (oF 0 2 .adr) r1 r1 (qa 2 r1 r1 (qf (o_callG1 3 (ZsF sc.b 65536 sc.q) func120 Z kr (Args.one .t)) r1 r1 (qR rr (qf (Zcb .t .t) r2 qz qZ))))))) V [16,1,0] QV fun O=>?_))
 refine Zb O Z (fun hc0=>?_) (fun hc0=>?_)
 ·refine Yh (Zd ?_)
  have O:=O.fresh 1 rfl
  obtain ⟨F,O⟩:=O.push 1 7 Z Z Z kr
  obtain ⟨F,O⟩:=O.push 1 6 Z Z Z kr
  obtain ⟨F,O⟩:=O.push 1 5 Z Z Z kr
  obtain ⟨F,O⟩:=O.push 1 4 Z Z Z kr
  obtain ⟨F,O⟩:=O.push 1 3 Z Z Z kr
  obtain ⟨F,O⟩:=O.push 1 2 Z Z Z kr
  have O:=O.turn 1 Z (r':=RS.hp (.ex fun x:StC×RtC=>.and (Zb1 A r sc c n x) (.star (ZbY (.pointer (some ⟨b,0,none⟩)) (.pointer (some ⟨wb,0,none⟩)) A x.1 x.2)))) (fun _ _ _ _ h=>⟨(sc,c),⟨hk,hr,.inl ⟨rfl,by simp at hc0;omega⟩⟩,h⟩)
  obtain ⟨F,O⟩:=O.nM [] QL
  refine Zz hG O Z .nil .none rfl
 refine Yd (Za (Ya ?_))
 replace O:=O.fresh 8 rfl
 obtain ⟨F,O⟩:=O.nM [16,1,0] Xan
 refine rS O (qR rr (qf (Zdq 8 (Zus 65536 65536 We) func45 Z kr (Args.one qi) PV.ptr_one) qz r1 (qf (o_nilCheck 2 .is Wd) r1 r1 (qf (oF 0 2 .adr) r1 r1 (qf (Zbo 2 .adr kr kr) r2 r1 qZ))))) V QL Xan fun τ O=>?_
 have O:=Xp
 generalize τ 18=v18 at O
 obtain ⟨_,_,_,ho⟩:=O.obGet 8 rfl
 obtain ⟨nb,rfl⟩:=Zlu ho
 clear ho
 replace O:=O.turn 8 Z (r':=RS.hp (arH (some nb) 65536 [])) (fun _ _ _ _ h=>ZkJ h)
 obtain ⟨F,O⟩:=O.nM QL Xan
 refine Za (Ya (rS O (qf (Zc6 (ek:=(fun c:Int=>PV.int .i64 c)) (ok:=(fun n:Int=>inR .i64 n)) (kv:=(fun n:Int=>Value.int .i64 n)) 101) trivial qz (qO rr qZ)) V [6,1,0] J7 fun τ O=>?_))
 have O:=Xp
 generalize τ 21=v21 at O
 refine Za (Ya (ZbB 5 O kr (cG Z (oM .t) r1 trivial (cG Z (oM .t) r1 trivial (cG Z (o_nilCheck 2 .is Wd) r1 r1 (cG Z (oF 1 2 .adr) r1 r1 (cG Z (oM .t) r1 trivial ZaD.nil))))) kr Wq fun a w F O=>?_))
 obtain ⟨F,O⟩:=O.nM [26,25,22,6,1,0] J7
 have O:=Xy
 replace O:=O.fresh 9 rfl
 obtain ⟨F,O⟩:=O.push 9 101 Z Z Z kr
 obtain ⟨F,O⟩:=O.push 9 6 Z Z Z kr
 obtain ⟨F,O⟩:=O.push 9 8 Z Z Z kr
 obtain ⟨F,O⟩:=O.push 9 3 Z Z Z kr
 obtain ⟨F,O⟩:=O.push 9 2 Z Z Z kr
 replace O:=O.turn 9 Z (r':=RS.hp (.star (Zq6 (.pointer (some ⟨b,0,none⟩)) (arV (some sc.b)) sc.b nb sc.q [] sc.c sc.mv A.next sc.alv sc.sqv sc.sr v21 [] 0))) (fun _ _ _ _ h=>h)
 obtain ⟨F,O⟩:=O.nM [26,25,22,6,1,0] Dm
 refine Zb6 O kr (cG Z (o_callG1 9 (ZoU b sc.b nb A.seqs (ZcA (rootsA A ++ [r]) A.seqs.length) sc.q [] sc.c sc.mv A.next sc.alv sc.sqv sc.sr v21 [] 0 0 A.now (MvI.start hk (arV (some nb))) hk.now ow hok.okn.ov (live_of (by simp [rootsA]) (fun p hp=>(hok.okn.ov p hp).1)) WW ow) func121 Z kr (Args.three .t (.conv .t ((Ent.adrK Wd))) .t)) r3 r1 ZaD.nil) kr Wq fun a w F O=>?_
 obtain ⟨F,O⟩:=O.nM [6,1,0] Dm
 have O:=Xy
 obtain ⟨x1,O⟩:=O.open_ex 9 rfl
 obtain ⟨hp1,O⟩:=O.open_and 9 rfl
 obtain ⟨F,O⟩:=O.peel 9 2 Z rfl
 obtain ⟨F,O⟩:=O.peel 9 3 Z rfl
 obtain ⟨F,O⟩:=O.peel 9 8 Z rfl
 obtain ⟨F,O⟩:=O.peel 9 6 Z rfl
 obtain ⟨F,O⟩:=O.peel 9 101 Z rfl
 dsimp only [Zrd] at O
 obtain ⟨F,O⟩:=O.nM [6,1,0] J7
 refine Za (Ya (Ya ?_))
 obtain ⟨ks,hks⟩:∃ z,z=A.snaps.map (·.1):=⟨_,rfl⟩
 have hkl9:ks.length=A.snaps.length:=by rw [hks,YO]
 have hsf:=hfit.snaps
 replace O:=O.fresh 60 rfl
 replace O:=O.turn 4 Z (r':=RS.hp (Zox sc.cs sc.ck sc.mv)) (fun _ _ _ _ h=>h)
 obtain ⟨F,O⟩:=O.nM [6,1,0] Xaz
 refine ZbB 6 O kr (cG Z (oM .t) r1 trivial (cG Z (o_nilCheck 2 .is Wd) r1 r1 (cG Z (oF 6 2 .adr) r1 r1 (cG Z (oL false 1 2 .adr) r1 r1 (cG Z (oP (ZrY sc.mv) func122 (Args.one .t)) r1 trivial (cG Z (Zj3 4 60 (ZoQ sc.mv sc.cs sc.ck ks (by rw [hks];exact hk.keys) (by rw [hks];exact hok.ids) (by have:=hk.cslen;omega)) func102 Z kr Z (Args.one .t) Zf1) r1 r2 ZaD.nil)))))) kr Wq fun a w F O=>?_
 replace O:=O.sub
 obtain ⟨F,O⟩:=O.nM [33,6,1,0] Xaz
 have O:=XC
 generalize Act.tau a 33=v33 at O
 replace O:=O.turn 60 Z (r':=.ob (.val v33) (ZM 3 1 Zo ks)) (fun _ _ _ _ h=>h)
 replace O:=O.turn 4 Z (r':=.ob (.val sc.mv) (Zox sc.cs sc.ck)) (fun _ _ _ _ h=>h)
 obtain ⟨F,O⟩:=O.give 60 33 Z rfl
 obtain ⟨F,O⟩:=O.nM [33,6,1,0] J7
 refine Zb6 O kr (cG Z (Zbp YbT .t) r1 trivial (cG Z (oM (.ci kr)) trivial trivial ZaD.nil)) kr Wq fun a w F O=>?_
 obtain ⟨F,O⟩:=O.nM Ds J7
 have O:=Xy
 refine Za (Ye (Zh (σ:=(Nat)×(List (GE Int RtC))×(Nat)×(List Cell)×(List SqC)×(List (GE Int Int))×(Nat)) [0,1,6,33,34] [0,2,3,5,7] (fun s=>[(35,.pv (.int .i64 (s.1:Int)))]) (fun s=>[(4,.ob (.val sc.mv) (Zox s.2.1 s.2.2.1)),(8,RS.hp (arH (some nb) 65536 s.2.2.2.1)),(6,.ob (.val sc.sqv) (ZM 114 2 rSq s.2.2.2.2.1)),(101,.ob (.val v21) (MPI s.2.2.2.2.2.1 s.2.2.2.2.2.2))]) (fun s=>s.1≤ks.length∧(Zcv A r sc.q (arV (some sc.b)) (arV (some nb)) x1.c s.1 s.2.1 s.2.2.2.1 s.2.2.2.2.1 s.2.2.2.2.2.1)) (fun s=>ks.length - s.1) ((0),(sc.cs),(sc.ck),(x1.q),(x1.sr),(x1.es),(x1.ck)) O ⟨rfl,rfl,rfl,rfl,rfl,rfl,tv⟩ ⟨rfl,rfl,rfl,rfl,rfl,rfl,rfl,rfl,rfl,tv⟩ ⟨Yo _,(Zcv.start hok hk hp1)⟩ ?_))
 clear O;intro s a w F hC O
 obtain ⟨i,cs1,cc1,qq,sr1,es1,ck1⟩:=s
 have hC:=X3
 obtain ⟨F,O⟩:=O.nM Ds J7
 have O:=X2
 obtain ⟨hi,hq⟩:=hC
 refine Ya (rZ O (qL r2) V [36,35,34,33,6,1,0] J7 fun O=>Ya ?_)
 refine Zb O Z (fun hc1=>?_) (fun hc1=>?_)
 ·have hil:i<ks.length:=WH
  refine Yd (Za (Ya (Ye (Ya (Zg O (qy 1 YbT r2 (qf (oR false 1 .t) r1 qz (qO rr qZ))) V [35,34,33,8,6,1,0] J7 Z Z fun a w F O=>?_)))))
  try simp only [Yf] at O
  refine Za (Ya (rS O (qR rr (qf (o_nilCheck 2 .is Wd) r1 r1 (qf (oF 6 2 .adr) r1 r1 (qa 2 r1 r1 (qR rr (qf (ZaP (ek:=(fun c:RtC=>PV.agg (rRt c))) (z0:=(default:RtC)) 4 Yb3 (Zbg YbV) kr (fun _ _=>⟨[_,_,_,_,_],rfl,⟨rfl,rfl,rfl⟩,⟨rfl,rfl,ZhX⟩,⟨rfl,rfl,rfl⟩,⟨rfl,rfl,ZhX⟩,⟨rfl,rfl,ZhX⟩,tv⟩) .is (Z5.intR .t Z)) r2 r1 (qf (oH [.pointer none,.int .i64 0,.pointer none,.int .i64 0,.int .i64 0] 102) trivial qz (qf (oA 5 102 .same (.conv .t .agg)) r2 r1 qZ)))))))) V Gc JN fun τ O=>?_))
  have O:=X7
  generalize τ 9=v9 at O
  have hyl:i<A.snaps.length:=ow
  obtain ⟨y,hy⟩:∃ y,A.snaps[i]? = some y:=⟨_,YaP hyl⟩
  have hky:(Nn ks i)=y.1:=by rw [Zu ow];have h1:=YK.1 hy;simp only [hks,Yaq];rw [h1.2]
  obtain ⟨c9,hc9,hr9⟩:=hq.cur hy
  rw [← hky] at hc9
  rw [hc9] at O
  try dsimp only [Option.getD] at O
  rw [hr9.a] at O
  obtain ⟨K,hK,hmI⟩:=hq.mv
  have hyo:=hok.oks y (YaD hy)
  have hysz:=hok.snap_le (YaD hy)
  have hycl:=Zbr A.all A.seqs y.2
  have hyql:=hq.len
  have hysn:=Zo0 hok i
  obtain ⟨F,O⟩:=O.nM Gc JN
  refine Za (Ya ?_)
  replace O:=O.fresh 9 rfl
  obtain ⟨F,O⟩:=O.push 9 102 Z Z Z kr
  obtain ⟨F,O⟩:=O.push 9 101 Z Z Z kr
  obtain ⟨F,O⟩:=O.push 9 6 Z Z Z kr
  obtain ⟨F,O⟩:=O.push 9 8 Z Z Z kr
  obtain ⟨F,O⟩:=O.push 9 3 Z Z Z kr
  obtain ⟨F,O⟩:=O.push 9 2 Z Z Z kr
  replace O:=O.turn 9 Z (r':=RS.hp (.star (ZtQ (.pointer (some ⟨b,0,none⟩)) (arV (some sc.b)) sc.b nb sc.q qq x1.c sc.mv A.next sc.alv sc.sqv sr1 v21 es1 ck1 v9 c9))) (fun _ _ _ _ h=>h)
  obtain ⟨F,O⟩:=O.nM Gc Dm
  refine Zg O (qR rr (qR rr (qf (o_callG1 9 (Zkn b sc.b nb A.seqs (ZcA (rootsA A ++ [r]) A.seqs.length) sc.q qq c9 sc.mv A.next sc.alv sc.sqv sr1 v21 es1 ck1 K y.2 x1.c v9 hmI hr9 ow hyo.1.ov (live_of (snap_root hy) (fun p hp=>(hyo.1.ov p hp).1)) ow ow) func121 Z kr (Args.three .t .t .t)) r3 r1 qZ))) V Gc Dm Z Z fun a w F O=>?_
  obtain ⟨x2,O⟩:=O.open_ex 9 rfl
  obtain ⟨hp2,O⟩:=O.open_and 9 rfl
  obtain ⟨F,O⟩:=O.peel 9 2 Z rfl
  obtain ⟨F,O⟩:=O.peel 9 3 Z rfl
  obtain ⟨F,O⟩:=O.peel 9 8 Z rfl
  obtain ⟨F,O⟩:=O.peel 9 6 Z rfl
  obtain ⟨F,O⟩:=O.peel 9 101 Z rfl
  obtain ⟨F,O⟩:=O.peel 9 102 Z rfl
  dsimp only [Zrd] at O
  obtain ⟨F,O⟩:=O.nM Gc JN
  refine Za (Zr O (qR rr (qf (o_nilCheck 2 .is Wd) r1 r1 (qf (oF 6 2 .adr) r1 r1 (qa 2 r1 r1 (qR rr (qe 5 102 r1 r1 (qf (Zbx (ek:=(fun c:RtC=>PV.agg (rRt c))) (v:=x2.c) 4 Yb3 (Zbg YbV) .is (Z5.intR .t Z) (.conv (.pagg .t) (Ent.rt hp2.rt.a))) r3 r1 qZ))))))) V Ds JN Z Z fun a w F O=>?_)
  have O:=Xn
  have hN3:=hq.step (cc:=cc1) hok hK hy hp2
  rw [← hky] at hN3
  refine Zf (Za (rZ O (qp r1 (qR rr qZ)) V Ds JN fun O=>?_))
  replace O:=O.eI 35 i
  obtain ⟨F,O⟩:=O.nM [34,33,6,1,0,35] [7,5,3,2,0,101,6,8,4]
  exact ⟨((i+1),((gPut (Nn ks i) x2.c (cs1,cc1)).1),((gPut (Nn ks i) x2.c (cs1,cc1)).2),(x2.q),(x2.sr),(x2.es),(x2.ck)),F,⟨ow,hN3⟩,O,ow⟩
 have hil:i=ks.length:=WH
 obtain ⟨K,hK,hmI⟩:=hq.mv
 have hwsz:=Zbr A.all A.seqs r
 have hwql:=hq.len
 have hwsn:=Zo0 hok i
 have hwof:=hrok.ov
 have hwi:i=A.snaps.length:=ow
 have hsf9:=hfit.snaps
 refine Ym (Ze (Ze (Zk (Za (Ya ?_)))))
 replace O:=O.fresh 9 rfl
 obtain ⟨F,O⟩:=O.push 9 7 Z Z Z kr
 obtain ⟨F,O⟩:=O.push 9 101 Z Z Z kr
 obtain ⟨F,O⟩:=O.push 9 6 Z Z Z kr
 obtain ⟨F,O⟩:=O.push 9 8 Z Z Z kr
 obtain ⟨F,O⟩:=O.push 9 3 Z Z Z kr
 obtain ⟨F,O⟩:=O.push 9 2 Z Z Z kr
 replace O:=O.turn 9 Z (r':=RS.hp (.star (ZtQ (.pointer (some ⟨b,0,none⟩)) (arV (some sc.b)) sc.b nb sc.q qq x1.c sc.mv A.next sc.alv sc.sqv sr1 v21 es1 ck1 (.pointer (some ⟨wb,0,none⟩)) c))) (fun _ _ _ _ h=>h)
 obtain ⟨F,O⟩:=O.nM [36,35,34,33,6,1,0] [9,5,4,0]
 refine Zg O (qR rr (qR rr (qR rr (qf (o_callG1 9 (Zkn b sc.b nb A.seqs (ZcA (rootsA A ++ [r]) A.seqs.length) sc.q qq c sc.mv A.next sc.alv sc.sqv sr1 v21 es1 ck1 K r x1.c (.pointer (some ⟨wb,0,none⟩)) hmI hr ow hrok.ov (live_of W5 (fun p hp=>(hrok.ov p hp).1)) ow ow) func121 Z kr (Args.three .t .t .t)) r3 r1 qZ)))) V [6,0] [9,5,4,0] Z Z fun a w F O=>?_
 obtain ⟨x3,O⟩:=O.open_ex 9 rfl
 obtain ⟨hp3,O⟩:=O.open_and 9 rfl
 obtain ⟨F,O⟩:=O.peel 9 2 Z rfl
 obtain ⟨F,O⟩:=O.peel 9 3 Z rfl
 obtain ⟨F,O⟩:=O.peel 9 8 Z rfl
 obtain ⟨F,O⟩:=O.peel 9 6 Z rfl
 obtain ⟨F,O⟩:=O.peel 9 101 Z rfl
 obtain ⟨F,O⟩:=O.peel 9 7 Z rfl
 dsimp only [Zrd] at O
 obtain ⟨F,O⟩:=O.nM [6,0] J7
 obtain ⟨e9,he9,hel9⟩:=hp3.app
 have hx3q:x3.q.length≤52000:=by rw [he9,Yc];omega
 have hx3l:=hp3.mv.len
 refine Za (Ya (rZ O (qR rr (qf (o_nilCheck 2 .is Wd) r1 r1 (qf (oF 9 2 .adr) r1 r1 (qa 2 r1 r1 (qf (Zam 6 YbZ .is) r1 r1 (qf (o_gtr .t qi) r1 qz qZ)))))) V [64,6,0] J7 fun O=>?_))
 refine Zb O Z (fun hc2=>?_) (fun hc2=>?_)
 ·have hn0:0<A.seqs.length:=KM
  replace O:=O.fresh 9 rfl
  obtain ⟨F,O⟩:=O.push 9 101 Z Z Z kr
  obtain ⟨F,O⟩:=O.push 9 6 Z Z Z kr
  obtain ⟨F,O⟩:=O.push 9 8 Z Z Z kr
  obtain ⟨F,O⟩:=O.push 9 3 Z Z Z kr
  obtain ⟨F,O⟩:=O.push 9 2 Z Z Z kr
  replace O:=O.turn 9 Z (r':=RS.hp (.star (Zq6 (.pointer (some ⟨b,0,none⟩)) (arV (some nb)) sc.b nb sc.q x3.q x1.c sc.mv A.next sc.alv sc.sqv x3.sr v21 x3.es x3.ck))) (fun _ _ _ _ h=>h)
  obtain ⟨F,O⟩:=O.nM [64,6,0] Dm
  refine Zg O (qR rr (qR rr (qf (o_callG1 9 (ZrJ b sc.b nb A.seqs (ZcA (rootsA A ++ [r]) A.seqs.length) sc.q x3.q x1.c sc.mv A.next sc.alv sc.sqv x3.sr v21 x3.es x3.ck (K+r.orders.length) hp3.mv ow ow (.inr ow) (by have:=hfit.len _ (ZP (show A.seqs.length - 1<A.seqs.length by omega));omega)) func123 Z kr (Args.two .t .t)) r2 r1 qZ))) V [] Dm Z Z fun a w F O=>?_
  obtain ⟨x4,O⟩:=O.open_ex 9 rfl
  obtain ⟨hp4,O⟩:=O.open_and 9 rfl
  obtain ⟨F,O⟩:=O.peel 9 2 Z rfl
  obtain ⟨F,O⟩:=O.peel 9 3 Z rfl
  obtain ⟨F,O⟩:=O.peel 9 8 Z rfl
  obtain ⟨F,O⟩:=O.peel 9 6 Z rfl
  obtain ⟨F,O⟩:=O.peel 9 101 Z rfl
  dsimp only [Zrd] at O
  obtain ⟨F,O⟩:=O.nM [] J7
  obtain ⟨h41,h42,⟨e4,h43,h44⟩,h45,h46⟩:=hp4
  have hlf:=hfit.len _ (ZP (show A.seqs.length - 1<A.seqs.length by omega))
  have hfin:Zb1 A r sc c n ((⟨nb,x4.q,x1.c,cs1,cc1,sc.mv,sc.alv,sc.sqv,x4.sr⟩:StC),x3.c):=by
    obtain ⟨k1,k2⟩:=hq.done (cc:=cc1) (mv:=sc.mv) (alv:=sc.alv) (sqv:=sc.sqv) hwi hp3 ⟨e4,h43⟩ h41 h42 (fun _=>⟨h45,h46⟩)
    exact ⟨k1,k2,.inr (by show x4.q.length≤60000;rw [h43,Yc];omega)⟩
  have O:=O.fresh 1 rfl
  obtain ⟨F,O⟩:=O.push 1 7 Z Z Z kr
  obtain ⟨F,O⟩:=O.push 1 6 Z Z Z kr
  obtain ⟨F,O⟩:=O.push 1 5 Z Z Z kr
  obtain ⟨F,O⟩:=O.push 1 4 Z Z Z kr
  obtain ⟨F,O⟩:=O.push 1 8 Z Z Z kr
  obtain ⟨F,O⟩:=O.push 1 2 Z Z Z kr
  have O:=O.turn 1 Z (r':=RS.hp (.ex fun x:StC×RtC=>.and (Zb1 A r sc c n x) (.star (ZbY (.pointer (some ⟨b,0,none⟩)) (.pointer (some ⟨wb,0,none⟩)) A x.1 x.2)))) (fun _ _ _ _ h=>⟨((⟨nb,x4.q,x1.c,cs1,cc1,sc.mv,sc.alv,sc.sqv,x4.sr⟩:StC),x3.c),hfin,h⟩)
  obtain ⟨F,O⟩:=O.nM [] QL
  refine Zz hG O Z .nil .none rfl
 have hn0:A.seqs.length=0:=by rw [Yi] at hc2;omega
 have hfin:Zb1 A r sc c n ((⟨nb,x3.q,x1.c,cs1,cc1,sc.mv,sc.alv,sc.sqv,x3.sr⟩:StC),x3.c):=by
   obtain ⟨k1,k2⟩:=hq.done (cc:=cc1) (mv:=sc.mv) (alv:=sc.alv) (sqv:=sc.sqv) hwi hp3 ⟨[],by simp⟩ hx3l hp3.mv.new (fun h9=>by omega)
   exact ⟨k1,k2,.inr (by show x3.q.length≤60000;omega)⟩
 refine Yd ?_
 have O:=O.fresh 1 rfl
 obtain ⟨F,O⟩:=O.push 1 7 Z Z Z kr
 obtain ⟨F,O⟩:=O.push 1 6 Z Z Z kr
 obtain ⟨F,O⟩:=O.push 1 5 Z Z Z kr
 obtain ⟨F,O⟩:=O.push 1 4 Z Z Z kr
 obtain ⟨F,O⟩:=O.push 1 8 Z Z Z kr
 obtain ⟨F,O⟩:=O.push 1 2 Z Z Z kr
 have O:=O.turn 1 Z (r':=RS.hp (.ex fun x:StC×RtC=>.and (Zb1 A r sc c n x) (.star (ZbY (.pointer (some ⟨b,0,none⟩)) (.pointer (some ⟨wb,0,none⟩)) A x.1 x.2)))) (fun _ _ _ _ h=>⟨((⟨nb,x3.q,x1.c,cs1,cc1,sc.mv,sc.alv,sc.sqv,x3.sr⟩:StC),x3.c),hfin,h⟩)
 obtain ⟨F,O⟩:=O.nM [] QL
 refine Zz hG O Z .nil .none rfl
theorem Ziv {k v:Int} {p:ZD} : ∀ {l:List ZD} {d:Bool},p ∈ ZaQ k v l d ↔ (p ∈ l∧p.key≠k)∨(d=false∧p = ⟨k,v⟩)
 | [],d=>by cases d <;> simp [ZaQ]
 | x :: l,d=>by
  have hA:p ∈ (if d=false∧k≤x.key then [(⟨k,v⟩:ZD)] else []) ↔ (d=false∧k≤x.key)∧p = ⟨k,v⟩:=by
   by_cases h:d=false∧k≤x.key
   ·rw [Yg h,Yr];exact ⟨fun e=>⟨h,e⟩,fun e=>e.2⟩
   ·rw [Yb h];exact ⟨fun e=>(by cases e),fun e=>absurd e.1 h⟩
  have V:p ∈ (if x.key=k then [] else [x]) ↔ x.key≠k∧p=x:=by
   by_cases h:x.key=k
   ·rw [Yg h];exact ⟨fun e=>(by cases e),fun e=>absurd h e.1⟩
   ·rw [Yb h,Yr];exact ⟨fun e=>⟨h,e⟩,fun e=>e.2⟩
  have hC:((d || decide (k≤x.key))=false) ↔ (d=false∧¬ k≤x.key):=by cases d <;> simp
  rw [ZaQ,YH,YH,Ziv (l:=l),hA,V,hC,Yp]
  constructor
  ·rintro ((⟨⟨h1,_⟩,h3⟩ | ⟨h1,rfl⟩) | ⟨h1,h2⟩ | ⟨⟨h1,_⟩,h3⟩)
   ·exact .inr ⟨h1,h3⟩
   ·exact .inl ⟨.inl rfl,h1⟩
   ·exact .inl ⟨.inr h1,h2⟩
   ·exact .inr ⟨h1,h3⟩
  ·rintro (⟨rfl | h1,h2⟩ | ⟨h1,h2⟩)
   ·exact .inl (.inr ⟨h2,rfl⟩)
   ·exact .inr (.inl ⟨h1,h2⟩)
   ·by_cases h:k≤x.key
    ·exact .inl (.inl ⟨⟨h1,h⟩,h2⟩)
    ·exact .inr (.inr ⟨⟨h1,h⟩,h2⟩)
theorem Zff {l:List ZD} {k v:Int} {p:ZD} : p ∈ putP l k v ↔ (p ∈ l∧p.key≠k)∨p = ⟨k,v⟩:=by
 unfold putP;rw [Ziv];simp
theorem Zfp {l:List ZD} {k:Int} {p:ZD} : p ∈ delP l k ↔ p ∈ l∧p.key≠k:=by
 unfold delP;rw [YV];simp
def Zdw (l:List ZD) (ks:List Int):List ZD:=ks.foldl delP l
theorem ZdF {p:ZD} : ∀ {ks:List Int} {l:List ZD},p ∈ Zdw l ks ↔ p ∈ l∧p.key ∉ ks
 | [],l=>by simp [Zdw]
 | k :: ks,l=>by
  show p ∈ Zdw (delP l k) ks ↔ _
  rw [ZdF,Zfp,Yp]
  constructor
  ·rintro ⟨⟨h1,h2⟩,h3⟩;exact ⟨h1,fun h=>h.elim h2 h3⟩
  ·rintro ⟨h1,h2⟩;exact ⟨⟨h1,fun h=>h2 (.inl h)⟩,fun h=>h2 (.inr h)⟩
theorem ZkE:∀ {ks:List Int} {l:List ZD},Inc l→Inc (Zdw l ks)
 | [],_,h=>h
 | _ :: ks,_,h=>ZkE (ks:=ks) (Zgy h)
theorem Zot (l:List ZD) (ks:List Int) (k:Int):Zdw l (ks ++ [k])=delP (Zdw l ks) k:=by unfold Zdw;rw [YaC];rfl
def putsS (l:List ZD) (n:Int) (ks:List Int):List ZD×Int:=ks.foldl (fun s k=>(putP s.1 k s.2,s.2+1)) (l,n)
def putsL (l:List ZD) (n:Int) (ks:List Int):List ZD:=(putsS l n ks).1
theorem Zo2 (l:List ZD) (n:Int) (ks:List Int):(putsS l n ks).2=n+ks.length:=by
 have key:∀ (ks:List Int) (s:List ZD×Int),(ks.foldl (fun s k=>(putP s.1 k s.2,s.2+1)) s).2=s.2+ks.length:=by
  intro ks
  induction ks with
  | nil=>intro s;simp
  | cons k ks ih=>intro s;rw [Yas,ih,Yl];show s.2+1+_=_;omega
 exact key ks (l,n)
theorem Zh5 (l:List ZD) (n:Int) (ks:List Int) (k:Int):putsL l n (ks ++ [k])=putP (putsL l n ks) k (n+ks.length):=by
 have h:=Zo2 l n ks
 unfold putsL putsS at *
 rw [YaC,Yas,List.foldl_nil,h]
theorem ZoP {l:List ZD} {n:Int} (h:Inc l) (ks:List Int):Inc (putsL l n ks):=by
 have key:∀ (ks:List Int) (s:List ZD×Int),Inc s.1→Inc (ks.foldl (fun s k=>(putP s.1 k s.2,s.2+1)) s).1:=by
  intro ks
  induction ks with
  | nil=>intro s h;exact h
  | cons k ks ih=>intro s h;exact ih _ (putP_inc h)
 exact key ks (l,n) h
theorem Zqg {l:List ZD} {n:Int} {ks:List Int} (hn:ks.Nodup):∀ (i:Nat),i≤ks.length → ∀ p,p ∈ putsL l n (ks.take i) ↔ (p ∈ l∧p.key ∉ ks.take i) ∨ ∃ j:Nat,j<i∧p = ⟨Nn ks j,n+j⟩:=by
 intro i
 induction i with
 | zero=>intro _ p;simp [putsL,putsS]
 | succ i ih=>
  intro hi p
  have hil:i<ks.length:=ow
  rw [ZN hil,Zh5,Zff,ih ow,YH,Yr,Yk,Yab ow]
  have hne:∀ j,j<i→Nn ks j≠Nn ks i:=fun j hj e=>by
   rw [Zu ow,Zu hil] at e
   exact (Y9.1 (List.nodup_iff_pairwise_ne.1 hn)) j i ow hil hj e
  constructor
  ·rintro (⟨⟨h1,h2⟩ | ⟨j,h1,rfl⟩,h3⟩ | rfl)
   ·exact .inl ⟨h1,fun h=>h.elim h2 h3⟩
   ·exact .inr ⟨j,ow,rfl⟩
   ·exact .inr ⟨i,ow,rfl⟩
  ·rintro (⟨h1,h2⟩ | ⟨j,h1,rfl⟩)
   ·exact .inl ⟨.inl ⟨h1,fun h=>h2 (.inl h)⟩,fun h=>h2 (.inr h)⟩
   ·by_cases h:j=i
    ·subst h;exact .inr rfl
    ·exact .inl ⟨.inr ⟨j,ow,rfl⟩,hne j ow⟩
theorem Zkr {α:Type} [Inhabited α] [DecidableEq α] {κ:α→Int} {f:ZD→α} {l:List ZD} (hi:Inc l) (hk:∀ p ∈ l,κ (f p)=p.key) {was now:List α} {n:Int} (hf:∀ j:Nat,j<now.length→f ⟨κ (Nn now j),n+j⟩ = Nn now j) (hn:ZZ κ now) (hfit:ZaZ κ (l.map f) was now=true) :
  (putsL (Zdw l (was.map κ)) n (now.map κ)).map f=Zc8 κ (l.map f) was now:=by
 have hnd:(now.map κ).Nodup:=by
  rw [List.nodup_iff_pairwise_ne,YaT]
  exact List.Pairwise.imp (fun h=>by omega) hn
 have hmem:=fun p=>Zqg (l:=Zdw l (was.map κ)) (n:=n) hnd (now.map κ).length (YE _) p
 rw [Yy] at hmem
 have hrl:ZZ κ (l.map f):=by
  unfold ZZ
  rw [YaT]
  refine List.Pairwise.imp_of_mem (fun ha hb h=>?_) hi
  rw [hk _ ha,hk _ hb];exact h
 have hnth:∀ j,j<now.length→Nn (now.map κ) j=κ (Nn now j):=fun j hj=>by
  rw [Zu XY,Zu hj,Yaq]
 have hkey:∀ p ∈ putsL (Zdw l (was.map κ)) n (now.map κ),κ (f p)=p.key:=fun p hp=>by
  rcases (hmem p).1 hp with ⟨h1,_⟩ | ⟨j,h1,rfl⟩
  ·exact hk p (ZdF.1 h1).1
  ·have hj:j<now.length:=Wj
   rw [hnth j hj,hf j hj]
 refine Ze5 ?_ (Zki hrl.unl hn.unl hfit) fun x=>?_
 ·unfold ZZ
  rw [YaT]
  refine List.Pairwise.imp_of_mem (fun ha hb h=>?_) (ZoP (ZkE hi) _)
  rw [hkey _ ha,hkey _ hb];exact h
 ·rw [Zd4,YG]
  constructor
  ·rintro ⟨p,hp,rfl⟩
   rcases (hmem p).1 hp with ⟨h1,h2⟩ | ⟨j,h1,rfl⟩
   ·obtain ⟨h3,h4⟩:=ZdF.1 h1
    refine .inl ⟨YG.2 ⟨p,h3,rfl⟩,fun y hy e=>h4 (YG.2 ⟨y,hy,?_⟩)⟩
    rw [e,hk p h3]
   ·have hj:j<now.length:=Wj
    rw [hnth j hj,hf j hj]
    exact .inr (ZP hj)
  ·rintro (⟨h1,h2⟩ | h1)
   ·obtain ⟨p,hp,rfl⟩:=YG.1 h1
    have hw:p.key ∉ was.map κ:=fun h=>by
     obtain ⟨y,hy,e⟩:=YG.1 h
     exact h2 y hy (by rw [e,hk p hp])
    refine ⟨p,(hmem p).2 (.inl ⟨ZdF.2 ⟨hp,hw⟩,fun h=>?_⟩),rfl⟩
    obtain ⟨y,hy,e⟩:=YG.1 h
    unfold ZaZ at hfit
    rw [Yx,Yam] at hfit
    have h3:=hfit.2 y hy
    have h4:(ZH κ (l.map f) (κ y)).isSome=true:=Zd2.2 ⟨f p,h1,by rw [hk p hp,e]⟩
    have h5:(ZH κ was (κ y)).isSome=false:=by
     cases e2:(ZH κ was (κ y)).isSome with
     | false=>rfl
     | true=>
      obtain ⟨z,hz,ez⟩:=Zd2.1 e2
      exact absurd (YG.2 ⟨z,hz,ez.trans e⟩) hw
    rw [h4,h5] at h3
    cases h3
   ·obtain ⟨j,hj,rfl⟩:=YL h1
    have e:Nn now j=now[j]:=Zu hj
    refine ⟨⟨Nn (now.map κ) j,n+j⟩,(hmem _).2 (.inr ⟨j,by simpa using hj,rfl⟩),?_⟩
    rw [hnth j hj,hf j hj,e]
theorem ZtX (b:Nat) {q:List Cell} {root:Int} {t:Zae} {l:List ZD} (k v:Int) (ht:Zc5 q t root) (hl:tList t=l) (hs:l.length<1000000) (hr:q.length+3*(Zn t+1)≤65536) :
  ∃ (e:List Cell) (r:Int),FnG prog 119 1 [.agg [.is (arV (some b)),.int .i64 root],.int .i64 k,.int .i64 v] [arH (some b) 65536 q] (.tup [.agg [.is (arV (some b)),.int .i64 r],.int .i64 0]) (fun _=>[arH (some b) 65536 (q++e)])∧ZjP (q++e) r (putP l k v):=by
 have hz:=ZT t
 rw [hl] at hz
 rcases ht.put (room:=65536) k v ow with ⟨e,r,h1,h2,h3⟩ | ⟨_,h3⟩
 ·have:=Zt1 (some b) 65536 q root k v t ht.rep
  rw [h1] at this
  exact ⟨e,r,this,_,h2,by rw [ZeQ _ ht.inc,hl]⟩
 ·omega
theorem ZtT (b:Nat) {q:List Cell} {root:Int} {t:Zae} {l:List ZD} (k:Int) (ht:Zc5 q t root) (hl:tList t=l) (hs:l.length<1000000) (hr:q.length+3*(Zn t+1)≤65536) (hk:(getL k l).2=true) :
  ∃ (e:List Cell) (r:Int),FnG prog 118 1 [.agg [.is (arV (some b)),.int .i64 root],.int .i64 k] [arH (some b) 65536 q] (.tup [.agg [.is (arV (some b)),.int .i64 r],.int .i64 0]) (fun _=>[arH (some b) 65536 (q++e)])∧ZjP (q++e) r (delP l k):=by
 have hz:=ZT t
 rw [hl] at hz
 rcases ht.del (room:=65536) k ow with ⟨h1,_⟩ | ⟨_,⟨e,r,h1,h2,h3⟩ | ⟨_,h3⟩⟩
 ·rw [Zd6 k ht.inc,hl] at h1;exact absurd hk h1
 ·have:=ZtH (some b) 65536 q root k t ht.rep
  rw [h1] at this
  exact ⟨e,r,this,_,h2,by rw [ZeN _ ht.inc,hl]⟩
 ·omega
theorem Zap.app {A:StA} {ex:List RtA} {s:StC} (h:Zap A ex s) (e:List Cell):Zap A ex ⟨s.b,s.q++e,s.c,s.cs,s.ck,s.mv,s.alv,s.sqv,s.sr⟩:=
 ⟨h.now.app,h.keys,fun x hx=>by obtain ⟨c,hc,hr⟩:=h.snaps x hx;exact ⟨c,hc,hr.app⟩,h.len,fun i hi hl=>⟨(h.seqs i hi hl).1,(h.seqs i hi hl).2.app⟩⟩
theorem Zap.exMono {A:StA} {ex ex':List RtA} {s:StC} (h:Zap A ex s) (hm:∀ i:Nat,ZcA (rootsA A++ex') A.seqs.length i→ZcA (rootsA A++ex) A.seqs.length i):Zap A ex' s:=⟨h.now,h.keys,h.snaps,h.len,fun i hi hl=>h.seqs i hi (hm i hl)⟩
theorem ZjE {A:StA} {r r':RtA} {i:Nat} (hp:∀ p ∈ r'.orders,p ∈ r.orders∨p.val+1=A.seqs.length) (h:ZcA (rootsA A ++ [r']) A.seqs.length i):ZcA (rootsA A ++ [r]) A.seqs.length i:=by
 rcases h with ⟨r1,hr1,p,hpm,e⟩ | h
 ·rcases YH.1 hr1 with h1 | h1
  ·exact .inl ⟨r1,Yaw _ h1,p,hpm,e⟩
  ·rw [Yr] at h1
   subst h1
   rcases hp p hpm with h2 | h2
   ·exact .inl ⟨r,by simp,p,h2,e⟩
   ·exact .inr ow
 ·exact .inr h
def ZbD (v w:Value) (A:StA) (r:RtA):HP:=.ex fun x:StC×RtC=>.and (Zap A [r] x.1∧Zch x.1.q (arV (some x.1.b)) x.2 r) (.star (ZbY v w A x.1 x.2))
theorem Zb1.treeT {A:StA} {r:RtA} {s:StC} {c:RtC} {t0:Zae} {x:StC×RtC} (h:Zb1 A r s c (3*(Zn t0+1)) x) (h0:Zc5 s.q t0 c.tr) (hl:tList t0=r.txs) (hs:r.txs.length<1000000):∃ t1,Zc5 x.1.q t1 x.2.tr∧tList t1=r.txs∧x.1.q.length+3*(Zn t1+1)≤65536:=by
 rcases h.room with ⟨e,h1⟩ | h1
 ·subst e;exact ⟨t0,h0,hl,h1⟩
 ·obtain ⟨t1,h2,h3⟩:=h.rt.t
  have hz:=ZT t1
  rw [h3] at hz
  have:=h2.high ow
  exact ⟨t1,h2,h3,ow⟩
theorem Zb1.treeO {A:StA} {r:RtA} {s:StC} {c:RtC} {t0:Zae} {x:StC×RtC} (h:Zb1 A r s c (3*(Zn t0+1)) x) (h0:Zc5 s.q t0 c.or) (hl:tList t0=r.orders) (hs:r.orders.length<1000000):∃ t1,Zc5 x.1.q t1 x.2.or∧tList t1=r.orders∧x.1.q.length+3*(Zn t1+1)≤65536:=by
 rcases h.room with ⟨e,h1⟩ | h1
 ·subst e;exact ⟨t0,h0,hl,h1⟩
 ·obtain ⟨t1,h2,h3⟩:=h.rt.o
  have hz:=ZT t1
  rw [h3] at hz
  have:=h2.high ow
  exact ⟨t1,h2,h3,ow⟩
theorem Zgo (o:Option Nat) (room:Int) (q:List Cell) (root:Int) (t:Zae) (hr:Rep id q t root):FnG prog 117 1 [.agg [.is (arV o),.int .i64 root]] [arH o room q] (.int .i64 (Zn t)) (fun _=>[arH o room q]):=by
 have:=Zs7 o room q root
 rwa [hr.high] at this
theorem ZrA (b wb:Nat) (A:StA) (hok:Zaz A) (hfit:ZbR A) (r:RtA) (hrok:ZlN A.all A.seqs r) (hrz:sizeH (histA A.all A.seqs r)≤40000) (n at9:Int):FnG prog 63 1 [.is (.pointer (some ⟨b,0,none⟩)),.is (.pointer (some ⟨wb,0,none⟩)),.is (shift 0 (.pointer (some ⟨wb,0,none⟩))),.int .i64 n,.int .i64 at9] [ZbD (.pointer (some ⟨b,0,none⟩)) (.pointer (some ⟨wb,0,none⟩)) A r] (.tup []) (fun _=>[ZbD (.pointer (some ⟨b,0,none⟩)) (.pointer (some ⟨wb,0,none⟩)) A (⟨putP r.txs n at9,r.orders,r.size⟩:RtA)]):=by
 refine FnG.mk func63 Z ntmps63 Z kr fun B F0 a w F V hG O=>?_
 replace O:=O.ent (i:=2) (s':=.adr (.val (.pointer (some ⟨wb,0,none⟩))) 0) Z Ent.kAdr
 obtain ⟨⟨sc,c⟩,O⟩:=O.open_ex 1 rfl
 obtain ⟨⟨hk,hr⟩,O⟩:=O.open_and 1 rfl
 obtain ⟨F,O⟩:=O.peel 1 2 Z rfl
 obtain ⟨F,O⟩:=O.peel 1 3 Z rfl
 obtain ⟨F,O⟩:=O.peel 1 4 Z rfl
 obtain ⟨F,O⟩:=O.peel 1 5 Z rfl
 obtain ⟨F,O⟩:=O.peel 1 6 Z rfl
 obtain ⟨F,O⟩:=O.peel 1 7 Z rfl
 have O:=X2
 dsimp only at hk hr
 obtain ⟨F,O⟩:=O.nM [4,3,2,1,0] QV
 have hrl:=ZcD A.all A.seqs r
 obtain ⟨t0,ht0,hl0⟩:=hr.t
 have hz0:=ZT t0
 rw [hl0] at hz0
 have hh0:=ht0.high ow
 refine Ya (ZbB 8 O kr (cG Z (oM .t) r1 trivial (cG Z (oM .t) r1 trivial (cG Z (oM .t) r1 trivial (cG Z (o_nilCheck 7 .adr Wd) r1 r1 (cG Z (oL true 2 7 .adr) r1 r1 (cG Z (o_callG1 3 (Zgo (some sc.b) 65536 sc.q c.tr t0 ht0.rep) func117 Z kr (Args.one (.pagg .t))) r1 r1 (cG Z (o_add .t (.ci kr)) r1 trivial (cG Z (Zgh (.ci kr) .t) r1 trivial ZaD.nil)))))))) kr Wq fun a w F O=>?_)
 obtain ⟨F,O⟩:=O.nM Dt QV
 have O:=Xn
 have hwn:IntKind.wrap .i64 (3*IntKind.wrap .i64 (Zn t0+1))=3*(Zn t0+1):=Qk
 rw [hwn] at O
 replace O:=O.fresh 9 rfl
 obtain ⟨F,O⟩:=O.push 9 7 Z Z Z kr
 obtain ⟨F,O⟩:=O.push 9 6 Z Z Z kr
 obtain ⟨F,O⟩:=O.push 9 5 Z Z Z kr
 obtain ⟨F,O⟩:=O.push 9 4 Z Z Z kr
 obtain ⟨F,O⟩:=O.push 9 3 Z Z Z kr
 obtain ⟨F,O⟩:=O.push 9 2 Z Z Z kr
 replace O:=O.turn 9 Z (r':=RS.hp (.star (ZbY (.pointer (some ⟨b,0,none⟩)) (.pointer (some ⟨wb,0,none⟩)) A sc c))) (fun _ _ _ _ h=>h)
 obtain ⟨F,O⟩:=O.nM Dt XaW
 refine Zb6 O kr (cG Z (o_callG1 9 (Ze8 b wb A hok hfit r hrok hrz sc c (3*(Zn t0+1)) hk hr ow) func64 Z kr (Args.three .t .t .t)) r3 r1 ZaD.nil) kr Wq fun a w F O=>?_
 obtain ⟨F,O⟩:=O.nM Jj XaW
 have O:=Xy
 obtain ⟨⟨s2,c2⟩,O⟩:=O.open_ex 9 rfl
 obtain ⟨hp2,O⟩:=O.open_and 9 rfl
 obtain ⟨F,O⟩:=O.peel 9 2 Z rfl
 obtain ⟨F,O⟩:=O.peel 9 3 Z rfl
 obtain ⟨F,O⟩:=O.peel 9 4 Z rfl
 obtain ⟨F,O⟩:=O.peel 9 5 Z rfl
 obtain ⟨F,O⟩:=O.peel 9 6 Z rfl
 obtain ⟨F,O⟩:=O.peel 9 7 Z rfl
 have O:=X2
 obtain ⟨F,O⟩:=O.nM Jj QV
 obtain ⟨t1,ht1,hl1,hrm1⟩:=hp2.treeT ht0 hl0 ow
 obtain ⟨e1,ro1,hM1,hR1⟩:=ZtX s2.b n at9 ht1 hl1 ow hrm1
 refine Za (Zg O (qR rr (qR rr (qf (o_nilCheck 7 .adr Wd) r1 r1 (qf (oL true 2 7 .adr) r1 r1 (qR rr (qR rr (qf (o_callG1 3 (hM1) func119 Z kr (Args.three (.pagg .t) .t .t)) r3 r1 (qR rr (qf (o_extract .t Z) r1 qz (qf (o_extract .t Z) r1 qz (qf (o_nilCheck 7 .adr Wd) r1 r1 (qf (oA 2 7 .adr (.conv .t .agg)) r2 r1 qZ)))))))))))) V [] QV Z Z fun a w F O=>?_)
 have O:=O.fresh 1 rfl
 obtain ⟨F,O⟩:=O.push 1 7 Z Z Z kr
 obtain ⟨F,O⟩:=O.push 1 6 Z Z Z kr
 obtain ⟨F,O⟩:=O.push 1 5 Z Z Z kr
 obtain ⟨F,O⟩:=O.push 1 4 Z Z Z kr
 obtain ⟨F,O⟩:=O.push 1 3 Z Z Z kr
 obtain ⟨F,O⟩:=O.push 1 2 Z Z Z kr
 have O:=O.turn 1 Z (r':=RS.hp (ZbD (.pointer (some ⟨b,0,none⟩)) (.pointer (some ⟨wb,0,none⟩)) A (⟨putP r.txs n at9,r.orders,r.size⟩:RtA))) (fun _ _ _ _ h=>⟨((⟨s2.b,s2.q++e1,s2.c,s2.cs,s2.ck,s2.mv,s2.alv,s2.sqv,s2.sr⟩:StC),(⟨arV (some s2.b),ro1,c2.or,c2.size⟩:RtC)),⟨(hp2.rep.app e1).exMono (fun i h=>ZjE (r:=r) (r':=(⟨putP r.txs n at9,r.orders,r.size⟩:RtA)) (fun p hp=>.inl hp) h),⟨rfl,hR1,hp2.rt.o.app,hp2.rt.s⟩⟩,h⟩)
 obtain ⟨F,O⟩:=O.nM [] QL
 refine Zz hG O Z .nil .none rfl
theorem ZqW (b wb:Nat) (A:StA) (hok:Zaz A) (hfit:ZbR A) (r:RtA) (hrok:ZlN A.all A.seqs r) (hrz:sizeH (histA A.all A.seqs r)≤40000) (n at9:Int) (hat:at9+1=A.seqs.length):FnG prog 63 1 [.is (.pointer (some ⟨b,0,none⟩)),.is (.pointer (some ⟨wb,0,none⟩)),.is (shift 2 (.pointer (some ⟨wb,0,none⟩))),.int .i64 n,.int .i64 at9] [ZbD (.pointer (some ⟨b,0,none⟩)) (.pointer (some ⟨wb,0,none⟩)) A r] (.tup []) (fun _=>[ZbD (.pointer (some ⟨b,0,none⟩)) (.pointer (some ⟨wb,0,none⟩)) A (⟨r.txs,putP r.orders n at9,r.size⟩:RtA)]):=by
 refine FnG.mk func63 Z ntmps63 Z kr fun B F0 a w F V hG O=>?_
 replace O:=O.ent (i:=2) (s':=.adr (.val (.pointer (some ⟨wb,0,none⟩))) 2) Z Ent.kAdr
 obtain ⟨⟨sc,c⟩,O⟩:=O.open_ex 1 rfl
 obtain ⟨⟨hk,hr⟩,O⟩:=O.open_and 1 rfl
 obtain ⟨F,O⟩:=O.peel 1 2 Z rfl
 obtain ⟨F,O⟩:=O.peel 1 3 Z rfl
 obtain ⟨F,O⟩:=O.peel 1 4 Z rfl
 obtain ⟨F,O⟩:=O.peel 1 5 Z rfl
 obtain ⟨F,O⟩:=O.peel 1 6 Z rfl
 obtain ⟨F,O⟩:=O.peel 1 7 Z rfl
 have O:=X2
 dsimp only at hk hr
 obtain ⟨F,O⟩:=O.nM [4,3,2,1,0] QV
 have hrl:=ZcD A.all A.seqs r
 obtain ⟨t0,ht0,hl0⟩:=hr.o
 have hz0:=ZT t0
 rw [hl0] at hz0
 have hh0:=ht0.high ow
 refine Ya (ZbB 8 O kr (cG Z (oM .t) r1 trivial (cG Z (oM .t) r1 trivial (cG Z (oM .t) r1 trivial (cG Z (o_nilCheck 7 .adr Wd) r1 r1 (cG Z (oL true 2 7 .adr) r1 r1 (cG Z (o_callG1 3 (Zgo (some sc.b) 65536 sc.q c.or t0 ht0.rep) func117 Z kr (Args.one (.pagg .t))) r1 r1 (cG Z (o_add .t (.ci kr)) r1 trivial (cG Z (Zgh (.ci kr) .t) r1 trivial ZaD.nil)))))))) kr Wq fun a w F O=>?_)
 obtain ⟨F,O⟩:=O.nM Dt QV
 have O:=Xn
 have hwn:IntKind.wrap .i64 (3*IntKind.wrap .i64 (Zn t0+1))=3*(Zn t0+1):=Qk
 rw [hwn] at O
 replace O:=O.fresh 9 rfl
 obtain ⟨F,O⟩:=O.push 9 7 Z Z Z kr
 obtain ⟨F,O⟩:=O.push 9 6 Z Z Z kr
 obtain ⟨F,O⟩:=O.push 9 5 Z Z Z kr
 obtain ⟨F,O⟩:=O.push 9 4 Z Z Z kr
 obtain ⟨F,O⟩:=O.push 9 3 Z Z Z kr
 obtain ⟨F,O⟩:=O.push 9 2 Z Z Z kr
 replace O:=O.turn 9 Z (r':=RS.hp (.star (ZbY (.pointer (some ⟨b,0,none⟩)) (.pointer (some ⟨wb,0,none⟩)) A sc c))) (fun _ _ _ _ h=>h)
 obtain ⟨F,O⟩:=O.nM Dt XaW
 refine Zb6 O kr (cG Z (o_callG1 9 (Ze8 b wb A hok hfit r hrok hrz sc c (3*(Zn t0+1)) hk hr ow) func64 Z kr (Args.three .t .t .t)) r3 r1 ZaD.nil) kr Wq fun a w F O=>?_
 obtain ⟨F,O⟩:=O.nM Jj XaW
 have O:=Xy
 obtain ⟨⟨s2,c2⟩,O⟩:=O.open_ex 9 rfl
 obtain ⟨hp2,O⟩:=O.open_and 9 rfl
 obtain ⟨F,O⟩:=O.peel 9 2 Z rfl
 obtain ⟨F,O⟩:=O.peel 9 3 Z rfl
 obtain ⟨F,O⟩:=O.peel 9 4 Z rfl
 obtain ⟨F,O⟩:=O.peel 9 5 Z rfl
 obtain ⟨F,O⟩:=O.peel 9 6 Z rfl
 obtain ⟨F,O⟩:=O.peel 9 7 Z rfl
 have O:=X2
 obtain ⟨F,O⟩:=O.nM Jj QV
 obtain ⟨t1,ht1,hl1,hrm1⟩:=hp2.treeO ht0 hl0 ow
 obtain ⟨e1,ro1,hM1,hR1⟩:=ZtX s2.b n at9 ht1 hl1 ow hrm1
 refine Za (Zg O (qR rr (qR rr (qf (o_nilCheck 7 .adr Wd) r1 r1 (qf (oL true 2 7 .adr) r1 r1 (qR rr (qR rr (qf (o_callG1 3 (hM1) func119 Z kr (Args.three (.pagg .t) .t .t)) r3 r1 (qR rr (qf (o_extract .t Z) r1 qz (qf (o_extract .t Z) r1 qz (qf (o_nilCheck 7 .adr Wd) r1 r1 (qf (oA 2 7 .adr (.conv .t .agg)) r2 r1 qZ)))))))))))) V [] QV Z Z fun a w F O=>?_)
 have O:=O.fresh 1 rfl
 obtain ⟨F,O⟩:=O.push 1 7 Z Z Z kr
 obtain ⟨F,O⟩:=O.push 1 6 Z Z Z kr
 obtain ⟨F,O⟩:=O.push 1 5 Z Z Z kr
 obtain ⟨F,O⟩:=O.push 1 4 Z Z Z kr
 obtain ⟨F,O⟩:=O.push 1 3 Z Z Z kr
 obtain ⟨F,O⟩:=O.push 1 2 Z Z Z kr
 have O:=O.turn 1 Z (r':=RS.hp (ZbD (.pointer (some ⟨b,0,none⟩)) (.pointer (some ⟨wb,0,none⟩)) A (⟨r.txs,putP r.orders n at9,r.size⟩:RtA))) (fun _ _ _ _ h=>⟨((⟨s2.b,s2.q++e1,s2.c,s2.cs,s2.ck,s2.mv,s2.alv,s2.sqv,s2.sr⟩:StC),(⟨arV (some s2.b),c2.tr,ro1,c2.size⟩:RtC)),⟨(hp2.rep.app e1).exMono (fun i h=>ZjE (r:=r) (r':=(⟨r.txs,putP r.orders n at9,r.size⟩:RtA)) (fun p hp=>by rcases Zff.1 hp with h1 | h1;exact .inl h1.1;subst h1;exact .inr hat) h),⟨rfl,hp2.rt.t.app,hR1,hp2.rt.s⟩⟩,h⟩)
 obtain ⟨F,O⟩:=O.nM [] QL
 refine Zz hG O Z .nil .none rfl
theorem ZqM (b wb:Nat) (A:StA) (hok:Zaz A) (hfit:ZbR A) (r:RtA) (hrok:ZlN A.all A.seqs r) (hrz:sizeH (histA A.all A.seqs r)≤40000) (n:Int) (hit:(getL n r.txs).2=true):FnG prog 62 1 [.is (.pointer (some ⟨b,0,none⟩)),.is (.pointer (some ⟨wb,0,none⟩)),.is (shift 0 (.pointer (some ⟨wb,0,none⟩))),.int .i64 n] [ZbD (.pointer (some ⟨b,0,none⟩)) (.pointer (some ⟨wb,0,none⟩)) A r] (.tup []) (fun _=>[ZbD (.pointer (some ⟨b,0,none⟩)) (.pointer (some ⟨wb,0,none⟩)) A (⟨delP r.txs n,r.orders,r.size⟩:RtA)]):=by
 refine FnG.mk func62 Z ntmps62 Z kr fun B F0 a w F V hG O=>?_
 replace O:=O.ent (i:=2) (s':=.adr (.val (.pointer (some ⟨wb,0,none⟩))) 0) Z Ent.kAdr
 obtain ⟨⟨sc,c⟩,O⟩:=O.open_ex 1 rfl
 obtain ⟨⟨hk,hr⟩,O⟩:=O.open_and 1 rfl
 obtain ⟨F,O⟩:=O.peel 1 2 Z rfl
 obtain ⟨F,O⟩:=O.peel 1 3 Z rfl
 obtain ⟨F,O⟩:=O.peel 1 4 Z rfl
 obtain ⟨F,O⟩:=O.peel 1 5 Z rfl
 obtain ⟨F,O⟩:=O.peel 1 6 Z rfl
 obtain ⟨F,O⟩:=O.peel 1 7 Z rfl
 have O:=X2
 dsimp only at hk hr
 obtain ⟨F,O⟩:=O.nM DA QV
 have hrl:=ZcD A.all A.seqs r
 obtain ⟨t0,ht0,hl0⟩:=hr.t
 have hz0:=ZT t0
 rw [hl0] at hz0
 have hh0:=ht0.high ow
 refine Ya (ZbB 8 O kr (cG Z (oM .t) r1 trivial (cG Z (oM .t) r1 trivial (cG Z (oM .t) r1 trivial (cG Z (o_nilCheck 7 .adr Wd) r1 r1 (cG Z (oL true 2 7 .adr) r1 r1 (cG Z (o_callG1 3 (Zgo (some sc.b) 65536 sc.q c.tr t0 ht0.rep) func117 Z kr (Args.one (.pagg .t))) r1 r1 (cG Z (o_add .t (.ci kr)) r1 trivial (cG Z (Zgh (.ci kr) .t) r1 trivial ZaD.nil)))))))) kr Wq fun a w F O=>?_)
 obtain ⟨F,O⟩:=O.nM XaA QV
 have O:=Xn
 have hwn:IntKind.wrap .i64 (3*IntKind.wrap .i64 (Zn t0+1))=3*(Zn t0+1):=Qk
 rw [hwn] at O
 replace O:=O.fresh 9 rfl
 obtain ⟨F,O⟩:=O.push 9 7 Z Z Z kr
 obtain ⟨F,O⟩:=O.push 9 6 Z Z Z kr
 obtain ⟨F,O⟩:=O.push 9 5 Z Z Z kr
 obtain ⟨F,O⟩:=O.push 9 4 Z Z Z kr
 obtain ⟨F,O⟩:=O.push 9 3 Z Z Z kr
 obtain ⟨F,O⟩:=O.push 9 2 Z Z Z kr
 replace O:=O.turn 9 Z (r':=RS.hp (.star (ZbY (.pointer (some ⟨b,0,none⟩)) (.pointer (some ⟨wb,0,none⟩)) A sc c))) (fun _ _ _ _ h=>h)
 obtain ⟨F,O⟩:=O.nM XaA XaW
 refine Zb6 O kr (cG Z (o_callG1 9 (Ze8 b wb A hok hfit r hrok hrz sc c (3*(Zn t0+1)) hk hr ow) func64 Z kr (Args.three .t .t .t)) r3 r1 ZaD.nil) kr Wq fun a w F O=>?_
 obtain ⟨F,O⟩:=O.nM Xap XaW
 have O:=Xy
 obtain ⟨⟨s2,c2⟩,O⟩:=O.open_ex 9 rfl
 obtain ⟨hp2,O⟩:=O.open_and 9 rfl
 obtain ⟨F,O⟩:=O.peel 9 2 Z rfl
 obtain ⟨F,O⟩:=O.peel 9 3 Z rfl
 obtain ⟨F,O⟩:=O.peel 9 4 Z rfl
 obtain ⟨F,O⟩:=O.peel 9 5 Z rfl
 obtain ⟨F,O⟩:=O.peel 9 6 Z rfl
 obtain ⟨F,O⟩:=O.peel 9 7 Z rfl
 have O:=X2
 obtain ⟨F,O⟩:=O.nM Xap QV
 obtain ⟨t1,ht1,hl1,hrm1⟩:=hp2.treeT ht0 hl0 ow
 obtain ⟨e1,ro1,hM1,hR1⟩:=ZtT s2.b n ht1 hl1 ow hrm1 hit
 refine Za (Zg O (qR rr (qR rr (qf (o_nilCheck 7 .adr Wd) r1 r1 (qf (oL true 2 7 .adr) r1 r1 (qR rr (qf (o_callG1 3 (hM1) func118 Z kr (Args.two (.pagg .t) .t)) r2 r1 (qR rr (qf (o_extract .t Z) r1 qz (qf (o_extract .t Z) r1 qz (qf (o_nilCheck 7 .adr Wd) r1 r1 (qf (oA 2 7 .adr (.conv .t .agg)) r2 r1 qZ))))))))))) V [] QV Z Z fun a w F O=>?_)
 have O:=O.fresh 1 rfl
 obtain ⟨F,O⟩:=O.push 1 7 Z Z Z kr
 obtain ⟨F,O⟩:=O.push 1 6 Z Z Z kr
 obtain ⟨F,O⟩:=O.push 1 5 Z Z Z kr
 obtain ⟨F,O⟩:=O.push 1 4 Z Z Z kr
 obtain ⟨F,O⟩:=O.push 1 3 Z Z Z kr
 obtain ⟨F,O⟩:=O.push 1 2 Z Z Z kr
 have O:=O.turn 1 Z (r':=RS.hp (ZbD (.pointer (some ⟨b,0,none⟩)) (.pointer (some ⟨wb,0,none⟩)) A (⟨delP r.txs n,r.orders,r.size⟩:RtA))) (fun _ _ _ _ h=>⟨((⟨s2.b,s2.q++e1,s2.c,s2.cs,s2.ck,s2.mv,s2.alv,s2.sqv,s2.sr⟩:StC),(⟨arV (some s2.b),ro1,c2.or,c2.size⟩:RtC)),⟨(hp2.rep.app e1).exMono (fun i h=>ZjE (r:=r) (r':=(⟨delP r.txs n,r.orders,r.size⟩:RtA)) (fun p hp=>.inl hp) h),⟨rfl,hR1,hp2.rt.o.app,hp2.rt.s⟩⟩,h⟩)
 obtain ⟨F,O⟩:=O.nM [] QL
 refine Zz hG O Z .nil .none rfl
theorem ZoT (b wb:Nat) (A:StA) (hok:Zaz A) (hfit:ZbR A) (r:RtA) (hrok:ZlN A.all A.seqs r) (hrz:sizeH (histA A.all A.seqs r)≤40000) (n:Int) (hit:(getL n r.orders).2=true):FnG prog 62 1 [.is (.pointer (some ⟨b,0,none⟩)),.is (.pointer (some ⟨wb,0,none⟩)),.is (shift 2 (.pointer (some ⟨wb,0,none⟩))),.int .i64 n] [ZbD (.pointer (some ⟨b,0,none⟩)) (.pointer (some ⟨wb,0,none⟩)) A r] (.tup []) (fun _=>[ZbD (.pointer (some ⟨b,0,none⟩)) (.pointer (some ⟨wb,0,none⟩)) A (⟨r.txs,delP r.orders n,r.size⟩:RtA)]):=by
 refine FnG.mk func62 Z ntmps62 Z kr fun B F0 a w F V hG O=>?_
 replace O:=O.ent (i:=2) (s':=.adr (.val (.pointer (some ⟨wb,0,none⟩))) 2) Z Ent.kAdr
 obtain ⟨⟨sc,c⟩,O⟩:=O.open_ex 1 rfl
 obtain ⟨⟨hk,hr⟩,O⟩:=O.open_and 1 rfl
 obtain ⟨F,O⟩:=O.peel 1 2 Z rfl
 obtain ⟨F,O⟩:=O.peel 1 3 Z rfl
 obtain ⟨F,O⟩:=O.peel 1 4 Z rfl
 obtain ⟨F,O⟩:=O.peel 1 5 Z rfl
 obtain ⟨F,O⟩:=O.peel 1 6 Z rfl
 obtain ⟨F,O⟩:=O.peel 1 7 Z rfl
 have O:=X2
 dsimp only at hk hr
 obtain ⟨F,O⟩:=O.nM DA QV
 have hrl:=ZcD A.all A.seqs r
 obtain ⟨t0,ht0,hl0⟩:=hr.o
 have hz0:=ZT t0
 rw [hl0] at hz0
 have hh0:=ht0.high ow
 refine Ya (ZbB 8 O kr (cG Z (oM .t) r1 trivial (cG Z (oM .t) r1 trivial (cG Z (oM .t) r1 trivial (cG Z (o_nilCheck 7 .adr Wd) r1 r1 (cG Z (oL true 2 7 .adr) r1 r1 (cG Z (o_callG1 3 (Zgo (some sc.b) 65536 sc.q c.or t0 ht0.rep) func117 Z kr (Args.one (.pagg .t))) r1 r1 (cG Z (o_add .t (.ci kr)) r1 trivial (cG Z (Zgh (.ci kr) .t) r1 trivial ZaD.nil)))))))) kr Wq fun a w F O=>?_)
 obtain ⟨F,O⟩:=O.nM XaA QV
 have O:=Xn
 have hwn:IntKind.wrap .i64 (3*IntKind.wrap .i64 (Zn t0+1))=3*(Zn t0+1):=Qk
 rw [hwn] at O
 replace O:=O.fresh 9 rfl
 obtain ⟨F,O⟩:=O.push 9 7 Z Z Z kr
 obtain ⟨F,O⟩:=O.push 9 6 Z Z Z kr
 obtain ⟨F,O⟩:=O.push 9 5 Z Z Z kr
 obtain ⟨F,O⟩:=O.push 9 4 Z Z Z kr
 obtain ⟨F,O⟩:=O.push 9 3 Z Z Z kr
 obtain ⟨F,O⟩:=O.push 9 2 Z Z Z kr
 replace O:=O.turn 9 Z (r':=RS.hp (.star (ZbY (.pointer (some ⟨b,0,none⟩)) (.pointer (some ⟨wb,0,none⟩)) A sc c))) (fun _ _ _ _ h=>h)
 obtain ⟨F,O⟩:=O.nM XaA XaW
 refine Zb6 O kr (cG Z (o_callG1 9 (Ze8 b wb A hok hfit r hrok hrz sc c (3*(Zn t0+1)) hk hr ow) func64 Z kr (Args.three .t .t .t)) r3 r1 ZaD.nil) kr Wq fun a w F O=>?_
 obtain ⟨F,O⟩:=O.nM Xap XaW
 have O:=Xy
 obtain ⟨⟨s2,c2⟩,O⟩:=O.open_ex 9 rfl
 obtain ⟨hp2,O⟩:=O.open_and 9 rfl
 obtain ⟨F,O⟩:=O.peel 9 2 Z rfl
 obtain ⟨F,O⟩:=O.peel 9 3 Z rfl
 obtain ⟨F,O⟩:=O.peel 9 4 Z rfl
 obtain ⟨F,O⟩:=O.peel 9 5 Z rfl
 obtain ⟨F,O⟩:=O.peel 9 6 Z rfl
 obtain ⟨F,O⟩:=O.peel 9 7 Z rfl
 have O:=X2
 obtain ⟨F,O⟩:=O.nM Xap QV
 obtain ⟨t1,ht1,hl1,hrm1⟩:=hp2.treeO ht0 hl0 ow
 obtain ⟨e1,ro1,hM1,hR1⟩:=ZtT s2.b n ht1 hl1 ow hrm1 hit
 refine Za (Zg O (qR rr (qR rr (qf (o_nilCheck 7 .adr Wd) r1 r1 (qf (oL true 2 7 .adr) r1 r1 (qR rr (qf (o_callG1 3 (hM1) func118 Z kr (Args.two (.pagg .t) .t)) r2 r1 (qR rr (qf (o_extract .t Z) r1 qz (qf (o_extract .t Z) r1 qz (qf (o_nilCheck 7 .adr Wd) r1 r1 (qf (oA 2 7 .adr (.conv .t .agg)) r2 r1 qZ))))))))))) V [] QV Z Z fun a w F O=>?_)
 have O:=O.fresh 1 rfl
 obtain ⟨F,O⟩:=O.push 1 7 Z Z Z kr
 obtain ⟨F,O⟩:=O.push 1 6 Z Z Z kr
 obtain ⟨F,O⟩:=O.push 1 5 Z Z Z kr
 obtain ⟨F,O⟩:=O.push 1 4 Z Z Z kr
 obtain ⟨F,O⟩:=O.push 1 3 Z Z Z kr
 obtain ⟨F,O⟩:=O.push 1 2 Z Z Z kr
 have O:=O.turn 1 Z (r':=RS.hp (ZbD (.pointer (some ⟨b,0,none⟩)) (.pointer (some ⟨wb,0,none⟩)) A (⟨r.txs,delP r.orders n,r.size⟩:RtA))) (fun _ _ _ _ h=>⟨((⟨s2.b,s2.q++e1,s2.c,s2.cs,s2.ck,s2.mv,s2.alv,s2.sqv,s2.sr⟩:StC),(⟨arV (some s2.b),c2.tr,ro1,c2.size⟩:RtC)),⟨(hp2.rep.app e1).exMono (fun i h=>ZjE (r:=r) (r':=(⟨r.txs,delP r.orders n,r.size⟩:RtA)) (fun p hp=>.inl (Zfp.1 hp).1) h),⟨rfl,hp2.rt.t.app,hR1,hp2.rt.s⟩⟩,h⟩)
 obtain ⟨F,O⟩:=O.nM [] QL
 refine Zz hG O Z .nil .none rfl
section
variable {P:Program} {ps:List (Nat×SF)}
theorem OpC.push {o:Oper} {q:SF} {pr:List (Nat×RS)} {qr:List (Nat×RS)} {n m:Nat} {r:RS} {rs:List RS} (h:OpC P o ⟨ps,(n,RS.hp (.star (r :: rs))) :: pr,q,qr⟩) (hd:r.deps = []) (hmn:m≠n) (hpm:∀ x ∈ pr,x.1≠m∧x.1≠n) (hqm:∀ x ∈ qr,x.1≠m) (hn:n ∈ qr.map (·.1)):OpC P o ⟨ps,(n,RS.hp (.star rs)) :: (m,r) :: pr,q,(m,RS.hp (.star [])) :: qr⟩:=fun a w F K Q hw hs hp ht=>by
 obtain ⟨G,hG⟩:∃ G:Fp,G=fun k b=>(k=n∧(F n b∨F m b))∨(k≠n∧k≠m∧F k b):=⟨_,rfl⟩
 have hGn:∀ b,G n b ↔ F n b∨F m b:=fun b=>by rw [hG];simp
 have hGm:∀ b,¬ G m b:=fun b=>by rw [hG];simp [hmn]
 have hGk:∀ k b,k≠n→k≠m→(G k b ↔ F k b):=fun k b h1 h2=>by rw [hG];simp [h1,h2]
 have hin:∀ k b,G k b → ∃ j,F j b∧(k=n∧(j=n∨j=m)∨k≠n∧k≠m∧j=k):=fun k b hk=>by
  rw [hG] at hk
  rcases hk with ⟨h1,h2 | h2⟩ | ⟨h1,h2,h3⟩
  ·exact ⟨n,h2,.inl ⟨h1,.inl rfl⟩⟩
  ·exact ⟨m,h2,.inl ⟨h1,.inr rfl⟩⟩
  ·exact ⟨k,h3,.inr ⟨h1,h2,rfl⟩⟩
 have hU:U G=U F:=by
  funext b
  refine propext ⟨fun ⟨k,hk⟩=>?_,fun ⟨k,hk⟩=>?_⟩
  ·obtain ⟨j,hj,_⟩:=hin k b hk
   exact ⟨j,hj⟩
  ·by_cases h1:k=n
   ·exact ⟨n,(hGn b).2 (.inl (h1 ▸ hk))⟩
   ·by_cases h2:k=m
    ·exact ⟨n,(hGn b).2 (.inr (h2 ▸ hk))⟩
    ·exact ⟨k,(hGk k b h1 h2).2 hk⟩
 have hw2:Wf G w:=by
  refine ⟨fun i j b hi hj=>?_,fun i b hi=>?_⟩
  ·obtain ⟨i2,h1,h2⟩:=hin i b hi
   obtain ⟨j2,h3,h4⟩:=hin j b hj
   have h5:=hw.dis i2 j2 b h1 h3
   omega
  ·obtain ⟨i2,h1,_⟩:=hin i b hi
   exact hw.bd i2 b h1
 refine h a w G K Q hw2 (by rw [hU];exact hs) (fun x hx=>?_) fun v w' F' h1 h2 h3 h4=>?_
 ·rw [hU]
  rcases Yp.1 hx with rfl | hx
  ·refine ⟨F m,F n,fun b=>(hGn b).trans Or.comm,fun b k1 k2=>hmn (hw.dis m n b k1 k2),hd,RS.closed hd (hp (m,r) W5),hp (n,RS.hp (.star rs)) W5⟩
  ·have h9:=hpm x hx
   have e:G x.1=F x.1:=by funext b;exact propext (hGk x.1 b h9.2 h9.1)
   rw [e];exact hp x W7
 ·have hmW:m ∉ qr.map (·.1):=fun hm=>by
   obtain ⟨x,hx,e⟩:=YG.1 hm
   exact hqm x hx e
  have hm0:F' m=G m:=h2.fkeep m hmW
  refine ht v w' F' h1 ⟨h2.os,h2.tape,h2.output,h2.size,fun b hb hn9=>h2.keep b hb fun k hk hGb=>?_,fun k hk=>?_,fun k hk b hb=>?_⟩ h3 (fun x hx=>?_)
  ·obtain ⟨j,hj,hc⟩:=hin k b hGb
   refine hn9 j ?_ hj
   show j ∈ m :: qr.map (·.1)
   rcases hc with ⟨_,h5 | h5⟩ | ⟨_,_,h5⟩
   ·rw [h5];exact YP _ hn
   ·rw [h5];exact Yan
   ·rw [h5];exact YP _ hk
  ·have hk2:k≠m∧k ∉ qr.map (·.1):=by
    have:k ∉ m :: qr.map (·.1):=hk
    rw [Yp] at this
    exact ⟨fun e=>this (.inl e),fun e=>this (.inr e)⟩
   have hkn:k≠n:=fun e=>hk2.2 (e ▸ hn)
   rw [h2.fkeep k hk2.2]
   funext b
   exact propext (hGk k b hkn hk2.1)
  ·rcases Yp.1 (show k ∈ m :: qr.map (·.1) from hk) with e | hk
   ·subst e
    rw [hm0] at hb
    exact absurd hb (hGm b)
   ·rcases h2.fnew k hk b hb with ⟨j,hj,hGb⟩ | h5
    ·obtain ⟨j2,hj2,hc⟩:=hin j b hGb
     refine .inl ⟨j2,?_,hj2⟩
     show j2 ∈ m :: qr.map (·.1)
     rcases hc with ⟨_,h5 | h5⟩ | ⟨_,_,h5⟩
     ·rw [h5];exact YP _ hn
     ·rw [h5];exact Yan
     ·rw [h5];exact YP _ hj
    ·exact .inr h5
  ·rcases Yp.1 hx with rfl | hx
   ·show ∀ b,¬ F' m b
    intro b hb
    rw [hm0] at hb
    exact hGm b hb
   ·exact h4 x hx
theorem FnG.pre1 {f:FuncId} {args:List PV} {k1 k2:HP} {q:PV} {qr:Value→List HP} (h:FnG P f 1 args [k1] q qr) (hi:∀ w f y,k2.p w f y→k1.p w f y):FnG P f 1 args [k2] q qr:=fun w F vs hw hle hvs hpr=>h w F vs hw hle hvs (fun i x hx=>by
 match i,hx with
 | 0,hx=>
  simp only [Ybl,Yae] at hx
  subst hx
  exact hi _ _ _ (hpr 0 k2 rfl))
end
theorem Zf6 {α:Type} [Inhabited α] {f:α→Int} {l:List α} {i:Nat} (h:i<l.length):(l.map f).take (i+1)=(l.map f).take i ++ [f (Nn l i)]:=by
 rw [ZN KC,Zu KC,Zu h,Yaq]
theorem Zh6 {α:Type} [Inhabited α] {f:α→Int} {l:List α} {i:Nat} (t:List ZD) (h:i<l.length):delP (Zdw t ((l.map f).take i)) (f (Nn l i))=Zdw t ((l.map f).take (i+1)):=by rw [Zf6 h,Zot]
theorem Zia {α:Type} [Inhabited α] {f:α→Int} {l:List α} {i:Nat} (t:List ZD) (n:Int) (h:i<l.length):putP (putsL t n ((l.map f).take i)) (f (Nn l i)) (n+i)=putsL t n ((l.map f).take (i+1)):=by
 rw [Zf6 h,Zh5,Yk,YO,Yab ow]
theorem Zns {α:Type} [Inhabited α] [DecidableEq α] {κ:α→Int} {f:ZD→α} {l:List ZD} {was:List α} (hk:∀ p ∈ l,κ (f p)=p.key) (hr:ZZ κ was) (hf:Zaa κ was (l.map f) = []) {i:Nat} (hi:i<was.length):(getL (κ (Nn was i)) (Zdw l ((was.map κ).take i))).2=true:=by
 cases hg:(getL (κ (Nn was i)) (Zdw l ((was.map κ).take i))).2 with
 | true=>rfl
 | false=>
  exfalso
  have hx:=ZP hi
  have h1:ZH κ (l.map f) (κ (Nn was i))=some (Nn was i):=by
   refine Y3 fun h=>?_
   have:Nn was i ∈ Zaa κ was (l.map f):=YV.2 ⟨hx,by simpa using h⟩
   rw [hf] at this;cases this
  obtain ⟨p,hp,e⟩:=YG.1 (ZeY h1).1
  have hpk:p.key=κ (Nn was i):=by rw [← hk p hp,e]
  refine Zmk hg p (ZdF.2 ⟨hp,fun hm=>?_⟩) hpk
  rw [List.mem_take_iff_getElem] at hm
  obtain ⟨j,hj,ej⟩:=hm
  rw [YO] at hj
  rw [Yaq] at ej
  have h2:=Y9.1 hr j i ow hi ow
  rw [ej,hpk,Zu hi] at h2
  omega
def wT (A:StA) (d:ZK):List ZD:=Zdw A.now.txs (d.was.map TxD.id)
def wO (A:StA) (d:ZK):List ZD:=Zdw A.now.orders (d.old.map OrdD.key)
def ZlL (A:StA) (d:ZK) (z:Int):RtA:=⟨putsL (wT A d) A.all.length (d.now.map TxD.id),putsL (wO A d) A.seqs.length (d.new.map OrdD.key),z⟩
def doA (A:StA) (d:ZK):StA×Int:=if (ZE (hiA A) d).2≠0 then (A,(ZE (hiA A) d).2) else if ZaT A - A.now.size+sizeH (ZE (hiA A) d).1 > 10000 then (A,2) else (⟨ZlL A d (sizeH (ZE (hiA A) d).1:Nat),A.snaps,A.next,A.all++d.now,A.seqs++d.new.map OrdD.txs⟩,0)
def stA (A:StA) (all':List TxD) (seqs':List (List Int)):StA:=⟨A.now,A.snaps,A.next,A.all++all',A.seqs++seqs'⟩
theorem Zaz.grow {A:StA} (h:Zaz A) (e:List TxD) (f:List (List Int)):Zaz (stA A e f):=
 ⟨h.okn.grow,fun x hx=>⟨(h.oks x hx).1.grow,(h.oks x hx).2⟩,h.ids,by show A.now.size=_;rw [h.szn];exact Yai (fun x=>((sizeH x:Nat):Int)) (Zed h.okn).symm,fun x hx=>by rw [h.szs x hx];exact Yai (fun x=>((sizeH x:Nat):Int)) (Zed (h.oks x hx).1).symm,h.held,h.next⟩
structure ZlU (A:StA) (d:ZK):Prop where
 fit:ZbR A
 all:A.all.length+d.now.length≤100000
 seqs:A.seqs.length+d.new.length≤100000
 ops:∀ t ∈ d.now,t.ops.length≤1000
 len:∀ o ∈ d.new,o.txs.length≤1000
theorem ZlU.grow {A:StA} {d:ZK} (h:ZlU A d) (i j:Nat):ZbR (stA A (d.now.take i) ((d.new.map OrdD.txs).take j)):=by
 refine ⟨h.fit.next,h.fit.snaps,?_,?_,fun l hl=>?_,fun t ht=>?_⟩
 ·show (A.all++d.now.take i).length≤100000
  rw [Yc,Yk];have:=h.all;omega
 ·show (A.seqs++(d.new.map OrdD.txs).take j).length≤100000
  rw [Yc,Yk,YO];have:=h.seqs;omega
 ·rcases YH.1 hl with hl | hl
  ·exact h.fit.len l hl
  ·obtain ⟨o,ho,rfl⟩:=YG.1 (Yax hl)
   exact h.len o ho
 ·rcases YH.1 ht with ht | ht
  ·exact h.fit.ops t ht
  ·exact h.ops t (Yax ht)
theorem Zg4 {f:ZD→Nat} {k v:Int} : ∀ (l:List ZD) (d:Bool),((ZaQ k v l d).map f).sum≤(l.map f).sum+if d then 0 else f ⟨k,v⟩
 | [],d=>by cases d <;> simp [ZaQ]
 | x :: l,d=>by
  have ht:=Zg4 (f:=f) (k:=k) (v:=v) l true
  have hf:=Zg4 (f:=f) (k:=k) (v:=v) l false
  rw [ZaQ,YZ,YZ,YaE,YaE,YM,YaN]
  simp only [YD,Yu,Ya7] at ht hf
  cases d <;> by_cases h1:k≤x.key <;> by_cases h2:x.key=k <;> simp [h1,h2] at * <;> omega
theorem Zr0 {f:ZD→Nat} {k v:Int} (l:List ZD):((putP l k v).map f).sum≤(l.map f).sum+f ⟨k,v⟩:=by
 have:=Zg4 (f:=f) (k:=k) (v:=v) l false
 simpa [putP] using this
theorem ZmI (l:List ZD) (k:Int):(delP l k).length≤l.length:=YJ _ _
theorem Ztr {f:ZD→Nat} (l:List ZD) (k:Int):((delP l k).map f).sum≤(l.map f).sum:=by
 induction l with
 | nil=>simp [delP]
 | cons x l ih=>
  unfold delP at ih ⊢
  rw [YaA,YM,YaN]
  split
  ·rw [YM,YaN];omega
  ·omega
theorem ZhT {seqs f:List (List Int)} {l:List ZD} (h:∀ p ∈ l,0≤p.val∧p.val<seqs.length):Zar (seqs++f) l=Zar seqs l:=by
 unfold Zar
 congr 1
 refine Yav fun p hp=>?_
 have:=h p hp
 rw [Zb2 ow]
structure DoOk (A:StA) (r:RtA) (z:Nat):Prop where
 ok:Zaz A
 rok:ZlN A.all A.seqs r
 sz:r.txs.length+r.orders.length+Zar A.seqs r.orders≤z
theorem DoOk.size {A:StA} {r:RtA} {z:Nat} (h:DoOk A r z):sizeH (histA A.all A.seqs r)≤z:=by rw [← Zbr];exact h.sz
theorem DoOk.delT {A:StA} {r:RtA} {z:Nat} (h:DoOk A r z) (k:Int):DoOk A ⟨delP r.txs k,r.orders,r.size⟩ z:=
 ⟨h.ok,⟨Zgy h.rok.ti,h.rok.oi,fun p hp=>h.rok.tv p (Zfp.1 hp).1,h.rok.ov⟩,by have:=h.sz;have:=ZmI r.txs k;show (delP r.txs k).length+r.orders.length+Zar A.seqs r.orders≤z;omega⟩
theorem DoOk.delO {A:StA} {r:RtA} {z:Nat} (h:DoOk A r z) (k:Int):DoOk A ⟨r.txs,delP r.orders k,r.size⟩ z:=
 ⟨h.ok,⟨h.rok.ti,Zgy h.rok.oi,h.rok.tv,fun p hp=>h.rok.ov p (Zfp.1 hp).1⟩,by have:=h.sz;have:=ZmI r.orders k;have h4:Zar A.seqs (delP r.orders k)≤Zar A.seqs r.orders:=Ztr _ _;show r.txs.length+(delP r.orders k).length+Zar A.seqs (delP r.orders k)≤z;omega⟩
theorem ZfA {α:Type} [Inhabited α] (l:List α) (x:α):Nn (l ++ [x]) l.length=x:=by
 rw [Zu W5];simp
theorem DoOk.putT {A:StA} {r:RtA} {z:Nat} (h:DoOk A r z) (t:TxD):DoOk (stA A [t] []) ⟨putP r.txs t.id A.all.length,r.orders,r.size⟩ (z+1):=by
 refine ⟨h.ok.grow _ _,⟨putP_inc h.rok.ti,h.rok.oi,fun p hp=>?_,fun p hp=>?_⟩,?_⟩
 ·rcases Zff.1 hp with h1 | rfl
  ·have h2:=h.rok.tv p h1.1
   refine ⟨⟨h2.1.1,by show p.val<((A.all ++ [t]).length:Nat);rw [Yc];omega⟩,?_⟩
   show (Nn (A.all ++ [t]) _).id=_
   rw [Zb2 ow];exact h2.2
  ·refine ⟨⟨by show (0:Int)≤(A.all.length:Nat);omega,by show ((A.all.length:Nat):Int)<((A.all ++ [t]).length:Nat);rw [Yc,Yat];omega⟩,?_⟩
   show (Nn (A.all ++ [t]) (((A.all.length:Nat):Int)).toNat).id=t.id
   rw [Yf,ZfA]
 ·have:=h.rok.ov p hp
  exact ⟨this.1,by show p.val<((A.seqs ++ []).length:Nat);rw [YF];exact this.2⟩
 ·have:=h.sz
  have:=Znt r.txs t.id A.all.length
  show (putP _ _ _).length+r.orders.length+Zar (A.seqs ++ []) r.orders≤z+1
  rw [YF];omega
theorem DoOk.putO {A:StA} {r:RtA} {z:Nat} (h:DoOk A r z) (k:Int) (l:List Int):DoOk (stA A [] [l]) ⟨r.txs,putP r.orders k A.seqs.length,r.size⟩ (z+1+l.length):=by
 refine ⟨h.ok.grow _ _,⟨h.rok.ti,putP_inc h.rok.oi,fun p hp=>?_,fun p hp=>?_⟩,?_⟩
 ·show (0≤p.val∧p.val<((A.all ++ []).length:Nat))∧(Nn (A.all ++ []) p.val.toNat).id=p.key
  rw [YF];exact h.rok.tv p hp
 ·show 0≤p.val∧p.val<((A.seqs ++ [l]).length:Nat)
  rw [Yc,Yat]
  rcases Zff.1 hp with h1 | rfl
  ·have h2:=h.rok.ov p h1.1
   exact ⟨h2.1,ow⟩
  ·exact ⟨by show (0:Int)≤(A.seqs.length:Nat);omega,by show ((A.seqs.length:Nat):Int)<_;omega⟩
 ·have h1:=h.sz
  have h2:=Znt r.orders k A.seqs.length
  have h3:=Zr0 (f:=fun p=>(Nn (A.seqs ++ [l]) p.val.toNat).length) (k:=k) (v:=A.seqs.length) r.orders
  have h4:=ZhT (f:=[l]) h.rok.ov
  have h5:(Nn (A.seqs ++ [l]) (((A.seqs.length:Nat):Int)).toNat).length=l.length:=by rw [Yf,ZfA]
  unfold Zar at h1 h4 ⊢
  show r.txs.length+(putP _ _ _).length+((putP r.orders k A.seqs.length).map fun p=>(Nn (A.seqs ++ [l]) p.val.toNat).length).sum≤_
  simp only at h3
  omega
def stT (A:StA) (d:ZK) (i:Nat):StA:=⟨A.now,A.snaps,A.next,A.all++d.now.take i,A.seqs⟩
def stO (A:StA) (d:ZK) (i:Nat):StA:=⟨A.now,A.snaps,A.next,A.all++d.now,A.seqs++(d.new.map OrdD.txs).take i⟩
def rT1 (A:StA) (d:ZK) (z:Int) (i:Nat):RtA:=⟨Zdw A.now.txs ((d.was.map TxD.id).take i),A.now.orders,z⟩
def rT2 (A:StA) (d:ZK) (z:Int) (i:Nat):RtA:=⟨putsL (wT A d) A.all.length ((d.now.map TxD.id).take i),A.now.orders,z⟩
def rO1 (A:StA) (d:ZK) (z:Int) (i:Nat):RtA:=⟨putsL (wT A d) A.all.length (d.now.map TxD.id),Zdw A.now.orders ((d.old.map OrdD.key).take i),z⟩
def rO2 (A:StA) (d:ZK) (z:Int) (i:Nat):RtA:=⟨putsL (wT A d) A.all.length (d.now.map TxD.id),putsL (wO A d) A.seqs.length ((d.new.map OrdD.key).take i),z⟩
section
variable {A:StA} {d:ZK} {z:Int} {i:Nat}
theorem rT1_next (h:i<d.was.length):rT1 A d z (i+1) = ⟨delP (rT1 A d z i).txs (Nn d.was i).id,(rT1 A d z i).orders,(rT1 A d z i).size⟩:=by unfold rT1;rw [← Zh6 _ h]
theorem Zm0 (h:i<d.now.length):rT2 A d z (i+1) = ⟨putP (rT2 A d z i).txs (Nn d.now i).id ((A.all.length:Int)+i),(rT2 A d z i).orders,(rT2 A d z i).size⟩:=by unfold rT2;rw [← Zia _ _ h]
theorem rO1_next (h:i<d.old.length):rO1 A d z (i+1) = ⟨(rO1 A d z i).txs,delP (rO1 A d z i).orders (Nn d.old i).key,(rO1 A d z i).size⟩:=by unfold rO1;rw [← Zh6 _ h]
theorem ZmJ (h:i<d.new.length):rO2 A d z (i+1) = ⟨(rO2 A d z i).txs,putP (rO2 A d z i).orders (Nn d.new i).key ((A.seqs.length:Int)+i),(rO2 A d z i).size⟩:=by unfold rO2;rw [← Zia _ _ h]
theorem rT_join (h:i=d.was.length):rT1 A d z i=rT2 A d z 0:=by
 unfold rT1 rT2 wT
 rw [h,YU W5];rfl
theorem rTO_join (h:i=d.now.length):rT2 A d z i=rO1 A d z 0:=by
 unfold rT2 rO1
 rw [h,YU W5];rfl
theorem rO_join (h:i=d.old.length):rO1 A d z i=rO2 A d z 0:=by
 unfold rO1 rO2 wO
 rw [h,YU W5];rfl
theorem Zpv (h:i=d.new.length):rO2 A d z i=ZlL A d z:=by
 unfold rO2 ZlL
 rw [h,YU W5]
theorem stT_zero:stT A d 0=A:=by unfold stT;rw [List.take_zero,YF]
theorem Zja (h:i<d.now.length):stT A d (i+1) = ⟨A.now,A.snaps,A.next,(A.all++d.now.take i) ++ [Nn d.now i],A.seqs⟩:=by unfold stT;rw [ZN h,Yt]
theorem Zp5 (h:i<d.now.length):stT A d (i+1)=stA (stT A d i) [Nn d.now i] []:=by rw [Zja h];unfold stA stT;rw [YF]
theorem stTO_join (h:i=d.now.length):stT A d i=stO A d 0:=by unfold stT stO;rw [h,Yy,List.take_zero,YF]
theorem ZjV (h:i<d.new.length):(d.new.map OrdD.txs).take (i+1)=(d.new.map OrdD.txs).take i ++ [(Nn d.new i).txs]:=by
 rw [ZN KC,Zu KC,Zu h,Yaq]
theorem Zsb (h:i<d.new.length):stO A d (i+1) = ⟨A.now,A.snaps,A.next,A.all++d.now,(A.seqs++(d.new.map OrdD.txs).take i) ++ [(Nn d.new i).txs]⟩:=by unfold stO;rw [ZjV h,Yt]
theorem Zl5 (h:i<d.new.length):stO A d (i+1)=stA (stO A d i) [] [(Nn d.new i).txs]:=by rw [Zsb h];unfold stA stO;rw [YF]
theorem stT_len (h:i≤d.now.length):(stT A d i).all.length=A.all.length+i:=by unfold stT;rw [Yc,Yk,Yab h]
theorem Zjy (h:i≤d.new.length):(stO A d i).seqs.length=A.seqs.length+i:=by unfold stO;rw [Yc,Yk,YO,Yab h]
theorem Znn (h:i=d.new.length):stO A d i = ⟨A.now,A.snaps,A.next,A.all++d.now,A.seqs++d.new.map OrdD.txs⟩:=by unfold stO;rw [h,YU (by simp)]
theorem ZtD (h:ZlU A d):ZbR (stT A d i):=by
 have:=h.grow i 0
 unfold stA at this
 rw [List.take_zero,YF] at this
 exact this
theorem Zlx (h:ZlU A d):ZbR (stO A d i):=by
 have:=h.grow d.now.length i
 rw [Yy] at this
 exact this
theorem DoOk.start (h:Zaz A) (z:Int):DoOk A (rT1 A d z 0) (sizeH (hiA A)):=⟨h,⟨h.okn.ti,h.okn.oi,h.okn.tv,h.okn.ov⟩,by have:=Zbr A.all A.seqs A.now;unfold hiA;show A.now.txs.length+A.now.orders.length+Zar A.seqs A.now.orders≤_;omega⟩
theorem DoOk.growT {r:RtA} {y:Nat} (h:DoOk (stT A d i) r y) (hi:i<d.now.length):DoOk (stT A d (i+1)) r y:=by
 rw [Zp5 hi]
 exact ⟨h.ok.grow _ _,h.rok.grow,by show r.txs.length+r.orders.length+Zar ((stT A d i).seqs ++ []) r.orders≤y;rw [YF];exact h.sz⟩
theorem DoOk.growO {r:RtA} {y:Nat} (h:DoOk (stO A d i) r y) (hi:i<d.new.length):DoOk (stO A d (i+1)) r y:=by
 rw [Zl5 hi]
 exact ⟨h.ok.grow _ _,h.rok.grow,by show r.txs.length+r.orders.length+Zar ((stO A d i).seqs ++ [_]) r.orders≤y;rw [ZhT h.rok.ov];exact h.sz⟩
theorem DoOk.nextT {y:Nat} (h:DoOk (stT A d i) (rT2 A d z i) y) (hi:i<d.now.length):DoOk (stT A d (i+1)) (rT2 A d z (i+1)) (y+1):=by
 have:=h.putT (Nn d.now i)
 rw [← Zp5 hi,stT_len ow] at this
 rw [Zm0 hi]
 have e:((A.all.length+i:Nat):Int)=(A.all.length:Int)+i:=ow
 rw [e] at this;exact this
theorem DoOk.nextO {y:Nat} (h:DoOk (stO A d i) (rO2 A d z i) y) (hi:i<d.new.length):DoOk (stO A d (i+1)) (rO2 A d z (i+1)) (y+1+(Nn d.new i).txs.length):=by
 have:=h.putO (Nn d.new i).key (Nn d.new i).txs
 rw [← Zl5 hi,Zjy ow] at this
 rw [ZmJ hi]
 have e:((A.seqs.length+i:Nat):Int)=(A.seqs.length:Int)+i:=ow
 rw [e] at this;exact this
end
theorem Zby {g:Zw} {d:ZK} (h:(ZE g d).2=0):(ZG g∧Zcy d)∧Zcm g d=true∧ZG (Zca g d)∧(ZE g d).1=Zca g d:=by
 unfold ZE at h ⊢
 by_cases h1:ZG g∧Zcy d
 ·rw [Yb (YS.2 h1)] at h ⊢
  by_cases h2:Zcm g d=false
  ·rw [Yg h2] at h;exact absurd h We
  ·rw [Yb h2] at h ⊢
   by_cases h3:ZG (Zca g d)
   ·rw [Yg h3];exact ⟨h1,by simpa using h2,h3,rfl⟩
   ·rw [Yb h3] at h;exact absurd h We
 ·rw [Yg h1] at h;exact absurd h We
theorem Zii {α:Type} [DecidableEq α] {κ:α→Int} {l was now:List α} (h:ZaZ κ l was now=true):Zaa κ was l = []:=by
 unfold ZaZ at h
 rw [Yx,Yj] at h
 exact h.1
theorem Zve {A:StA} (h:Zaz A):∀ p ∈ A.now.txs,TxD.id (Nn A.all p.val.toNat)=p.key:=fun p hp=>(h.okn.tv p hp).2
theorem Zs3 {A:StA} {d:ZK} (hk:Zaz A) (h:(ZE (hiA A) d).2=0) {z:Int} {i:Nat} (hi:i<d.was.length):(getL (Nn d.was i).id (rT1 A d z i).txs).2=true:=by
 obtain ⟨⟨_,h1,_⟩,h2,_⟩:=Zby h
 unfold Zcm at h2
 rw [Yx] at h2
 exact Zns (κ:=TxD.id) (f:=fun p=>Nn A.all p.val.toNat) (Zve hk) h1 (Zii h2.1) hi
theorem Zs1 {A:StA} {d:ZK} (hk:Zaz A) (h:(ZE (hiA A) d).2=0) {z:Int} {i:Nat} (hi:i<d.old.length):(getL (Nn d.old i).key (rO1 A d z i).orders).2=true:=by
 obtain ⟨⟨_,_,_,h1,_⟩,h2,_⟩:=Zby h
 unfold Zcm at h2
 rw [Yx] at h2
 exact Zns (κ:=OrdD.key) (f:=fun p=>(⟨p.key,Nn A.seqs p.val.toNat⟩:OrdD)) (fun p _=>rfl) h1 (Zii h2.2) hi
theorem ZoX {α:Type} {κ:α→Int} {f:α→Nat} {l m:List α} : (m.map f).sum≤((Zak κ (l++m)).map f).sum:=by
 have h:=((ZaG (κ:=κ) (l++m)).map f).sum_nat
 rw [h,YZ,YaE];omega
theorem ZqS (g:Zw) (d:ZK):d.now.length+d.new.length+Zbj d.new≤sizeH (Zca g d):=by
 have h1:d.now.length≤(Zca g d).txs.length:=by
  show _≤(Zak _ _).length
  rw [ZcV,Yc];omega
 have h2:d.new.length≤(Zca g d).orders.length:=by
  show _≤(Zak _ _).length
  rw [ZcV,Yc];omega
 have h3:Zbj d.new≤Zbj (Zca g d).orders:=ZoX
 unfold sizeH;omega
theorem ZnJ (l:List OrdD) (i:Nat):Zbj (l.take i)≤Zbj l:=by
 have h:l=l.take i++l.drop i:=(YY i l).symm
 have e:Zbj l=Zbj (l.take i)+Zbj (l.drop i):=by
  conv=>lhs;rw [h]
  unfold Zbj
  rw [YZ,YaE]
 omega
theorem Zjj {A:StA} {d:ZK} (hk:Zaz A) (h:(ZE (hiA A) d).2=0) (z:Int):histA (A.all++d.now) (A.seqs++d.new.map OrdD.txs) (ZlL A d z)=(ZE (hiA A) d).1:=by
 obtain ⟨⟨hr,h1,h1n,h3,h3n⟩,h2,_,h4⟩:=Zby h
 rw [h4]
 unfold Zcm at h2
 rw [Yx] at h2
 have eT:(hiA A).txs=A.now.txs.map fun p=>Nn (A.all++d.now) p.val.toNat:=by
  unfold hiA histA
  refine Yav fun p hp=>?_
  have:=(hk.okn.tv p hp).1
  rw [Zb2 ow]
 have eO:(hiA A).orders=A.now.orders.map fun p=>(⟨p.key,Nn (A.seqs++d.new.map OrdD.txs) p.val.toNat⟩:OrdD):=by
  unfold hiA histA
  refine Yav fun p hp=>?_
  have:=hk.okn.ov p hp
  rw [Zb2 ow]
 have hT:=Zkr (κ:=TxD.id) (f:=fun p=>Nn (A.all++d.now) p.val.toNat) (l:=A.now.txs) hk.okn.ti (fun p hp=>by
  have:=hk.okn.tv p hp
  show (Nn (A.all++d.now) p.val.toNat).id=p.key
  rw [Zb2 ow];exact this.2) (was:=d.was) (now:=d.now) (n:=A.all.length) (fun j hj=>by
  show Nn (A.all++d.now) (((A.all.length:Nat):Int)+j).toNat=_
  rw [show (((A.all.length:Nat):Int)+j).toNat=A.all.length+j by omega,Zu WT,Zu hj,List.getElem_append_right ow]
  congr 1;omega) h1n (by rw [← eT];exact h2.1)
 have hO:=Zkr (κ:=OrdD.key) (f:=fun p=>(⟨p.key,Nn (A.seqs++d.new.map OrdD.txs) p.val.toNat⟩:OrdD)) (l:=A.now.orders) hk.okn.oi (fun p hp=>rfl) (was:=d.old) (now:=d.new) (n:=A.seqs.length) (fun j hj=>by
  have e9:Nn (A.seqs++d.new.map OrdD.txs) (((A.seqs.length:Nat):Int)+j).toNat=(Nn d.new j).txs:=by
   rw [show (((A.seqs.length:Nat):Int)+j).toNat=A.seqs.length+j by omega,Zu (by rw [Yc,YO];omega),Zu hj,List.getElem_append_right ow,Yaq]
   congr 2;omega
  show (⟨_,Nn (A.seqs++d.new.map OrdD.txs) (((A.seqs.length:Nat):Int)+j).toNat⟩:OrdD)=_
  rw [e9]) h3n (by rw [← eO];exact h2.2)
 unfold histA Zca ZlL wT wO
 rw [eT,eO,← hT,← hO]
theorem Zap.turn {A:StA} {r:RtA} {s:StC} {c:RtC} (h:Zap A [r] s) (hr:Zch s.q (arV (some s.b)) c r):Zap ⟨r,A.snaps,A.next,A.all,A.seqs⟩ [] ⟨s.b,s.q,c,s.cs,s.ck,s.mv,s.alv,s.sqv,s.sr⟩:=
 ⟨hr,h.keys,h.snaps,h.len,fun i hi hl=>h.seqs i hi (hl.mono fun r1 hr1=>by
  simp only [rootsA,YF,Yp,Y1,YH,YaF,Ya8] at hr1 ⊢
  rcases hr1 with rfl | hr1
  ·exact .inr (.inr rfl)
  ·exact .inr (.inl hr1))⟩
theorem Zaz.doA {A:StA} (h:Zaz A) (d:ZK) (hr:∀ z,(ZE (hiA A) d).2=0→ZlN (A.all++d.now) (A.seqs++d.new.map OrdD.txs) (ZlL A d z)):Zaz (doA A d).1:=by
 unfold Go.Proofs.YtfecljadegkmdaaGreat.doA
 split
 ·exact h
 ·rename_i h1
  split
  ·exact h
  ·rename_i h2
   have h0:(ZE (hiA A) d).2=0:=YS.1 h1
   have hg:=h.grow d.now (d.new.map OrdD.txs)
   refine ⟨hr _ h0,hg.oks,h.ids,?_,hg.szs,?_,h.next⟩
   ·show (((sizeH (ZE (hiA A) d).1:Nat)):Int)=_
    exact Yai (fun x=>((sizeH x:Nat):Int)) (Zjj h h0 _).symm
   ·unfold ZaT at h2 ⊢
    show (((sizeH (ZE (hiA A) d).1:Nat)):Int)+(A.snaps.map fun x=>x.2.size).sum≤10000
    omega
section
variable {P:Program} {d:Option Nat} {ty:TypeId} {pos:String} {af:Array Edge} {g:Option (Nat×Bool)} {x:Operand} {ps:List (Nat×SF)}
theorem ZeU {s:TypeId} {f off b:Nat} (hx:Opd x ps (.pv (.is (.pointer (some ⟨b,0,none⟩))))) (ho:P.fieldOff s f=some off) :
  OpC P ⟨d,.fieldAddr s x f,ty,pos,af,g⟩ ⟨ps,[],.adr (.val (.pointer (some ⟨b,0,none⟩))) off,[]⟩:=
 OpC.pure fun a w yy hp=>by
  obtain ⟨e1,_⟩:=hx a w yy hp
  exact ⟨.pointer (some ⟨b,0+off,none⟩),by simp [execOp,e1,ZcC ho],fun τ _=>rfl⟩
end
theorem Zvf (b:Nat) {q:List Cell} (l:List Int) (hr:q.length+l.length≤65536) :
  ∃ (e:List Cell) (r:Int),FnG prog 65 1 [.is (arV (some b)),.sl Zo l] [arH (some b) 65536 q] (.tup [.agg [.is (arV (some b)),.int .i64 r],.int .i64 0]) (fun _=>[arH (some b) 65536 (q++e)])∧Zbm (q++e) r l:=by
 obtain ⟨e,r,h1,h2,h3⟩:=Zbm.of (room:=65536) (q:=q) (l:=l) ow ow
 have:=Zt9 (some b) 65536 q l
 rw [h1] at this
 exact ⟨e,r,this,h2⟩
theorem Zap.addTx {A:StA} {ex:List RtA} {s:StC} (h:Zap A ex s) (e:List TxD) (v:Value):Zap ⟨A.now,A.snaps,A.next,A.all++e,A.seqs⟩ ex ⟨s.b,s.q,s.c,s.cs,s.ck,s.mv,v,s.sqv,s.sr⟩:=⟨h.now,h.keys,h.snaps,h.len,h.seqs⟩
theorem Zap.addSeq {A:StA} {r:RtA} {s:StC} (h:Zap A [r] s) (l:List Int) (e:List Cell) (c:SqC) (hc:c.av=arV (some s.b)∧Zbm (s.q++e) c.root l) (hk:Zaz A) (hov:∀ p ∈ r.orders,0≤p.val∧p.val<A.seqs.length) (v:Value):Zap (stA A [] [l]) [r] ⟨s.b,s.q++e,s.c,s.cs,s.ck,s.mv,s.alv,v,s.sr ++ [c]⟩:=by
 have hl:=h.len
 refine ⟨h.now.app,h.keys,fun x hx=>by obtain ⟨c,hc,hr⟩:=h.snaps x hx;exact ⟨c,hc,hr.app⟩,by show (s.sr ++ [c]).length=(A.seqs ++ [l]).length;rw [Yc,Yc,hl];rfl,fun i hi hlv=>?_⟩
 have hi:i<(A.seqs ++ [l]).length:=hi
 rw [Yc,Yat] at hi
 show (Nn (s.sr ++ [c]) i).av=_∧Zbm (s.q++e) (Nn (s.sr ++ [c]) i).root (Nn (A.seqs ++ [l]) i)
 by_cases h1:i=A.seqs.length
 ·rw [h1,ZfA]
  conv=>enter [1];rw [← hl,ZfA]
  conv=>enter [2,2];rw [← hl,ZfA]
  exact hc
 ·have hlt:i<A.seqs.length:=ow
  rw [Zb2 hlt,Zb2 (show i<s.sr.length by omega)]
  have hlv2:ZcA (rootsA A ++ [r]) A.seqs.length i:=by
   rcases hlv with h2 | h2
   ·exact .inl h2
   ·have h2:i+1=(A.seqs ++ [l]).length:=h2
    rw [Yc,Yat] at h2
    omega
  have h3:=h.seqs i hlt hlv2
  exact ⟨h3.1,h3.2.app⟩
theorem ZqZ {A:StA} {r:RtA} (h:r.orders=A.now.orders) {n i:Nat} (hl:ZcA (rootsA A ++ [r]) n i):ZcA (rootsA A ++ []) n i:=by
 rcases hl with ⟨r1,hr1,p,hp,e⟩ | h1
 ·rcases YH.1 hr1 with h2 | h2
  ·exact .inl ⟨r1,Yaw _ h2,p,hp,e⟩
  ·rw [Yr] at h2
   subst h2
   exact .inl ⟨A.now,by simp [rootsA],p,h ▸ hp,e⟩
 ·exact .inr h1
theorem ZkF (b:Nat) (A:StA) (d:ZK) (hok:Zaz A) (hdf:ZlU A d) (hsd:ZbG (hiA A) d):FnG prog 23 1 [.is (.pointer (some ⟨b,0,none⟩)),.agg (ZC d)] [ZO (.pointer (some ⟨b,0,none⟩)) A] (.int .i64 (doA A d).2) (fun _=>[ZO (.pointer (some ⟨b,0,none⟩)) (doA A d).1]):=by
 refine FnG.mk func23 Z ntmps23 Z kr fun B F0 a w F V hG O=>?_
 have hdl1:d.was.length≤1000:=hsd.2.1.1.1.1
 have hdl2:d.now.length≤1000:=hsd.2.1.2.1.1
 have hdl3:d.old.length≤1000:=hsd.2.1.1.2.1
 have hdl4:d.new.length≤1000:=hsd.2.1.2.2.1
 refine Ya (rS O (qx 101 r1 (qI qZ)) V DC QW fun τ O=>?_)
 try dsimp only [RS.sub,SF.sub,CF.sub,csub,Anc.sub,List.map,zCF,rRt,rSq,Zt,rTx,Zp,Zi,Zo,rOp,ZC] at O
 generalize τ 3=v3 at O
 refine Za (Ya (Ya (rZ O (qR rr (qf (Zab _ YbW Z .t) r1 qz qZ)) V [19,4,3,0] QW fun O=>?_)))
 refine Zb O Z (fun hc0=>?_) (fun hc0=>?_)
 ·simp at hc0
 refine Yd (Za (Ya (rT O (qR rr (qf (o_callG1 1 (Zjg b A hok hdf.fit) func14 Z kr (Args.one .t)) r1 r1 (qe 4 101 r1 r1 (qf (oP (ZqU (hiA A) d hsd) func60 (Args.two .t (.pagg .t))) r2 qz (qR rr (qf (o_extract .t Z) r1 qz (qf (o_extract .t Z) r1 qz (qf (oH [.slice none 0 0,.slice none 0 0] 102) trivial qz (qf (oA 2 102 .same (.conv .t .agg)) r2 r1 (qO rr qZ)))))))))) V Xa5 QP fun τ O=>?_)))
 have O:=X6
 generalize τ 5=v5 at O
 refine Za (Ya (Ye (Ya (rZ O (qR rr (qf (o_neq .t qi) r1 qz (qO rr qZ))) V [27,6,5,4,3,0] QP fun O=>?_))))
 refine Zb O Z (fun hc1=>?_) (fun hc1=>?_)
 ·have hne:(ZE (hiA A) d).2≠0:=WE
  have hg:doA A d=(A,(ZE (hiA A) d).2):=by unfold doA;rw [Yg hne]
  refine Ya (rZ O (qR rr (qO rr qZ)) V Gq QP fun O=>(Yh (Zl (Zd ?_))))
  have O:=O.turn 1 Z (r':=RS.hp (ZO (.pointer (some ⟨b,0,none⟩)) (doA A d).1)) (fun _ _ _ _ h=>by rw [hg];exact h)
  obtain ⟨F,O⟩:=O.nM [4] QL
  refine Zz hG O Z (.tmp Z .nil) (.one (.int Wr)) rfl
 have h0:(ZE (hiA A) d).2=0:=WE
 have hsm:Za8 (ZE (hiA A) d).1:=by rw [(Zby h0).2.2.2];exact hsd.2.2
 have hzs:=ZqS (hiA A) d
 rw [← (Zby h0).2.2.2] at hzs
 have hnl9:=hok.now_le
 have hs09:sizeH (hiA A)≤10000:=hok.now_le
 have hfit:=hdf.fit
 obtain ⟨sc,O⟩:=O.open_ex 1 rfl
 obtain ⟨hk,O⟩:=O.open_and 1 rfl
 obtain ⟨F,O⟩:=O.peel 1 2 Z rfl
 obtain ⟨F,O⟩:=O.peel 1 3 Z rfl
 obtain ⟨F,O⟩:=O.peel 1 4 Z rfl
 obtain ⟨F,O⟩:=O.peel 1 5 Z rfl
 obtain ⟨F,O⟩:=O.peel 1 6 Z rfl
 have O:=X2
 obtain ⟨F,O⟩:=O.nM [27,6,5,4,3,0] J4
 have hka:=hk.now.a
 have hks:=hk.now.s
 have hhb:=hok.held
 have hnz:=hok.szn
 have hnl:=hok.now_le
 have hnx:=hok.next
 have hnf:=hfit.next
 have hhn:0≤ZaT A:=Qc
 have hsz9:sizeH (ZE (hiA A) d).1≤2000000:=by have h1:=hsm.1.1;have h2:=hsm.2.1;have h3:=Zmt hsm.2.2;unfold sizeH;omega
 refine Ya (Zr O (qR rr (qf (OpC.still (ZjB (cells:=[.pv _,.pv _,.pv _,.pv _,.pv _,.pv _,.pv _,.pv _,.pv _,.pv _]) (cells':=[.pv _,.pv _,.pv _,.pv _,.pv _,.pv _,.pv _,.pv _,.pv _,.pv _]) 2 4 Z Z (ZgV b A hok hdf.fit sc hk) func15 Z kr Z (Args.one .t)) (Zhs Zjt (ZgP Zjs))) r1 r2 (qR rr (qf (o_nilCheck 2 .is Wd) r1 r1 (qf (oF 1 2 .adr) r1 r1 (qf (oF 4 2 .adr) r1 r1 (qa 2 r1 r1 (qf (o_sub .t .t) r2 qz (qe 2 102 r1 r1 (qf (oP (Zqh (ZE (hiA A) d).1 hsm) func61 (Args.one (.pagg .t))) r1 qz (qf (o_add .t .t) r2 qz (qf (o_gtr .t qi) r1 qz (qO rr qZ))))))))))))) V [31,5,4,3,0] J4 Z Z fun a w F O=>?_)
 have O:=XG
 refine Za (Zb O Z (fun hc2=>?_) (fun hc2=>?_))
 ·have hg:doA A d=(A,2):=by unfold doA;rw [Yb ow,Yg];rw [hks,Zj (x:=ZaT A - A.now.size) ow,Zj ow] at hc2;simpa using hc2
  refine Ya (rZ O (qI qZ) V Gq J4 fun O=>(Yh (Zl (Zd ?_))))
  have O:=O.fresh 1 rfl
  obtain ⟨F,O⟩:=O.push 1 6 Z Z Z kr
  obtain ⟨F,O⟩:=O.push 1 5 Z Z Z kr
  obtain ⟨F,O⟩:=O.push 1 4 Z Z Z kr
  obtain ⟨F,O⟩:=O.push 1 3 Z Z Z kr
  obtain ⟨F,O⟩:=O.push 1 2 Z Z Z kr
  have O:=O.turn 1 Z (r':=RS.hp (ZO (.pointer (some ⟨b,0,none⟩)) (doA A d).1)) (fun _ _ _ _ h=>⟨sc,Kx,Ky⟩)
  obtain ⟨F,O⟩:=O.nM Gq QP
  refine Zz hG O Z (.tmp Z .nil) (.one (.int Wr)) rfl
 have hle9:ZaT A - A.now.size+((sizeH (ZE (hiA A) d).1:Nat):Int)≤10000:=by rw [hks,Zj (x:=ZaT A - A.now.size) ow,Zj ow] at hc2;simpa using hc2
 have hg:doA A d=(⟨ZlL A d ((sizeH (ZE (hiA A) d).1:Nat):Int),A.snaps,A.next,A.all++d.now,A.seqs++d.new.map OrdD.txs⟩,0):=by unfold doA;rw [Yb ow,Yb ow]
 have hnn9:A.now.size≤ZaT A:=Qc
 refine Yd (Zf (Za (Ya (rS O (qR rr (qf (o_nilCheck 2 .is Wd) r1 r1 (qf (oF 1 2 .adr) r1 r1 (qf (oL true 5 2 .adr) r1 r1 (qf (oH [.pointer none,.int .i64 0,.pointer none,.int .i64 0,.int .i64 0] 103) trivial qz (qS 5 103 r2 r1 qZ)))))) V [7,5,4,3,0] GO fun τ O=>?_))))
 have O:=X6
 generalize τ 7=v7 at O
 obtain ⟨wb,rfl⟩:=O.shape 103 rfl
 obtain ⟨F,O⟩:=O.nM [7,5,4,3,0] GO
 refine Za (Ya (Zg O (qe 2 102 r1 r1 (qf (oP (Zqh (ZE (hiA A) d).1 hsm) func61 (Args.one (.pagg .t))) r1 qz (qg 4 103 r1 r1 (qf (ZbI 103 .adr .t one_int kr kr) r2 r1 qZ)))) V [7,4,3,0] GO Z Z fun a w F O=>?_))
 have O:=O.fresh 1 rfl
 obtain ⟨F,O⟩:=O.push 1 103 Z Z Z kr
 obtain ⟨F,O⟩:=O.push 1 6 Z Z Z kr
 obtain ⟨F,O⟩:=O.push 1 5 Z Z Z kr
 obtain ⟨F,O⟩:=O.push 1 4 Z Z Z kr
 obtain ⟨F,O⟩:=O.push 1 3 Z Z Z kr
 obtain ⟨F,O⟩:=O.push 1 2 Z Z Z kr
 have O:=O.turn 1 Z (r':=RS.hp (ZbD (.pointer (some ⟨b,0,none⟩)) (.pointer (some ⟨wb,0,none⟩)) A (rT1 A d ((sizeH (ZE (hiA A) d).1:Nat):Int) 0))) (fun _ _ _ _ h=>⟨(sc,⟨arV (some sc.b),sc.c.tr,sc.c.or,((sizeH (ZE (hiA A) d).1:Nat):Int)⟩),⟨hk.exMono (fun i hl=>ZqZ (r:=rT1 A d ((sizeH (ZE (hiA A) d).1:Nat):Int) 0) Z hl),⟨rfl,hk.now.t,hk.now.o,rfl⟩⟩,h⟩)
 obtain ⟨F,O⟩:=O.nM [7,4,3,0] QP
 refine Za (Ya (Ya (rZ O (qg 0 101 r1 r1 (qa 101 r1 r1 (qu YbR r1 (qJ qZ)))) V GZ QP fun O=>Ye ?_)))
 refine Zh (σ:=(Nat)) [0,3,4,7,52,53] [0,101,102] (fun s=>[(54,.pv (.int .i64 (s:Int)))]) (fun s=>[(1,RS.hp (ZbD (.pointer (some ⟨b,0,none⟩)) (.pointer (some ⟨wb,0,none⟩)) A (rT1 A d ((sizeH (ZE (hiA A) d).1:Nat):Int) s)))]) (fun s=>s≤d.was.length∧(DoOk A (rT1 A d ((sizeH (ZE (hiA A) d).1:Nat):Int) s) (sizeH (hiA A)))) (fun s=>d.was.length - s) (0) O ⟨rfl,rfl,rfl,rfl,rfl,rfl,rfl,tv⟩ ⟨rfl,rfl,rfl,rfl,tv⟩ ⟨Yo _,DoOk.start hok _⟩ ?_
 clear O;intro i a w F hC O
 have hC:=X3
 obtain ⟨F,O⟩:=O.nM GZ QP
 have O:=X2
 obtain ⟨hi,hq⟩:=hC
 have hD:=hq
 refine Ya (rZ O (qL r2) V [55,54,53,52,7,4,3,0] QP fun O=>Ya ?_)
 refine Zb O Z (fun hc3=>?_) (fun hc3=>?_)
 ·have hil:i<d.was.length:=WV
  refine Yd (Za (Ya (Ye (Ya (rS O (qy 3 YbR r2 (qf (oR true 3 .t) r1 qz (qf (oH [.int .i64 0,.bool false,.slice none 0 0] 104) trivial qz (qS 3 104 r2 r1 qZ)))) V [54,53,52,9,7,4,3,0] G8 fun τ O=>?_)))))
  have O:=X6
  generalize τ 9=v9 at O
  try simp only [Yf] at O
  refine Za (Zg O (qR rr (qf (ZeU (off:=0) .t kr) r1 qz (qg 0 104 r1 r1 (qa 104 r1 r1 (qf (o_callG1 1 (ZqM b wb A hok hdf.fit (rT1 A d ((sizeH (ZE (hiA A) d).1:Nat):Int) i) hD.rok (YT hD.size ow) (Nn d.was i).id (Zs3 hok h0 hil)) func62 Z kr (Args.four .t .t (.conv .t ((Ent.adrK Wd))) .t)) r4 r1 qZ))))) V GZ G8 Z Z fun a w F O=>?_)
  rw [← rT1_next hil] at O
  refine Zf (Za (rZ O (qp r1 (qR rr qZ)) V GZ G8 fun O=>?_))
  replace O:=O.eI 54 i
  obtain ⟨F,O⟩:=O.nM [53,52,7,4,3,0,54] Xal
  exact ⟨(i+1),F,⟨ow,(by rw [rT1_next hil];exact hD.delT _)⟩,O,ow⟩
 have hil:i=d.was.length:=WV
 refine Ym (Ze (Ze (Zk (Za (Ya (Ya (rZ O (qg 1 101 r1 r1 (qa 101 r1 r1 (qu YbR r1 (qJ qZ)))) V Gr QP fun O=>Ye ?_)))))))
 replace O:=O.turn 1 Z (r':=RS.hp (ZbD (.pointer (some ⟨b,0,none⟩)) (.pointer (some ⟨wb,0,none⟩)) (stT A d 0) (rT2 A d ((sizeH (ZE (hiA A) d).1:Nat):Int) 0))) (fun _ _ _ _ h=>by rw [stT_zero,← rT_join hil];exact h)
 refine Zh (σ:=(Nat)) [0,3,4,7,65,66] [0,101,102] (fun s=>[(67,.pv (.int .i64 (s:Int)))]) (fun s=>[(1,RS.hp (ZbD (.pointer (some ⟨b,0,none⟩)) (.pointer (some ⟨wb,0,none⟩)) (stT A d s) (rT2 A d ((sizeH (ZE (hiA A) d).1:Nat):Int) s)))]) (fun s=>s≤d.now.length∧(DoOk (stT A d s) (rT2 A d ((sizeH (ZE (hiA A) d).1:Nat):Int) s) (sizeH (hiA A)+s))) (fun s=>d.now.length - s) (0) O ⟨rfl,rfl,rfl,rfl,rfl,rfl,rfl,tv⟩ ⟨rfl,rfl,rfl,rfl,tv⟩ ⟨Yo _,(by rw [stT_zero,← rT_join hil];exact hD)⟩ ?_
 clear O;intro i a w F hC O
 have hC:=X3
 obtain ⟨F,O⟩:=O.nM Gr QP
 have O:=X2
 obtain ⟨hi,hq⟩:=hC
 have hD:=hq
 refine Ya (rZ O (qL r2) V [68,67,66,65,7,4,3,0] QP fun O=>Ya ?_)
 refine Zb O Z (fun hc4=>?_) (fun hc4=>?_)
 ·have hil:i<d.now.length:=Qb
  obtain ⟨⟨s2,c2⟩,O⟩:=O.open_ex 1 rfl
  obtain ⟨⟨hk2,hr2⟩,O⟩:=O.open_and 1 rfl
  obtain ⟨F,O⟩:=O.peel 1 2 Z rfl
  obtain ⟨F,O⟩:=O.peel 1 3 Z rfl
  obtain ⟨F,O⟩:=O.peel 1 4 Z rfl
  obtain ⟨F,O⟩:=O.peel 1 5 Z rfl
  obtain ⟨F,O⟩:=O.peel 1 6 Z rfl
  obtain ⟨F,O⟩:=O.peel 1 7 Z rfl
  have O:=X2
  dsimp only at hk2 hr2
  obtain ⟨F,O⟩:=O.nM [68,67,66,65,7,4,3,0] JT
  refine Yd (Za (Ya (Ye (Ya (rS O (qy 3 YbR r2 (qf (oR true 3 .t) r1 qz (qf (oH [.int .i64 0,.bool false,.slice none 0 0] 105) trivial qz (qS 3 105 r2 r1 qZ)))) V DD Xa9 fun τ O=>?_)))))
  have O:=X6
  generalize τ 11=v11 at O
  try simp only [Yf] at O
  refine Za (Ya (rT O (qR rr (qR rr (qf (o_nilCheck 2 .is Wd) r1 r1 (qf (oF 8 2 .adr) r1 r1 (qa 2 r1 r1 (qe 3 105 r1 r1 (qf (oP (scopied_c (Nn d.now i) (by have:=hdf.ops _ (ZP hil);omega)) func54 (Args.one (.pagg .t))) r1 qz (qf (o_buildSliceE (sz:=3) (zs:=[.int .i64 0,.bool false,.slice none 0 0]) (r:=[(0,.tmp 77)]) (l:=[_,_,_]) YbR kr kr kr kr Z Z (.agg Z (.conv .t .agg) kr kr .nil) Z) r1 qz (qf (o_append (sz:=3) (bs:=40) 5 (.mk' YbR kr kr) Wt .is (.arr (l':=[(Nn d.now i)]) .t) (by simp only [Yl,Yn];have h9:=stT_len (A:=A) (d:=d) (i:=i) ow;have h8:=hdf.all;omega) We) ⟨rfl,rfl,tv⟩ ⟨rfl,tv⟩ (qf (o_nilCheck 2 .is Wd) r1 r1 (qf (oF 8 2 .adr) r1 r1 (qf (Zbo 2 .adr kr kr) r2 r1 qZ)))))))))))) V DD Xa9 fun τ O=>?_))
  have O:=X6
  generalize τ 79=v79 at O
  rw [show (stT A d i).all ++ [(Nn d.now i)] = (stT A d (i+1)).all by rw [Zja hil];rfl] at O
  have hDg:=hD.growT hil
  have hrep2:Zap (stT A d (i+1)) [(rT2 A d ((sizeH (ZE (hiA A) d).1:Nat):Int) i)] (⟨s2.b,s2.q,s2.c,s2.cs,s2.ck,s2.mv,v79,s2.sqv,s2.sr⟩:StC):=by rw [Zja hil];exact hk2.addTx [(Nn d.now i)] v79
  refine Za ?_
  replace O:=O.fresh 1 rfl
  obtain ⟨F,O⟩:=O.nM DD DR
  refine Zr O (qR rr (qg 0 7 r1 r1 (qg 0 105 r1 r1 (qa 105 r1 r1 (qR rr (qf (o_nilCheck 2 .is Wd) r1 r1 (qf (oF 8 2 .adr) r1 r1 (qa 2 r1 r1 (qf (Zam 5 YbR .is) r1 r1 (qf (o_sub .t qi) r1 qz (qf (OpC.push (m:=7) (OpC.push (m:=6) (OpC.push (m:=5) (OpC.push (m:=4) (OpC.push (m:=3) (OpC.push (m:=2) (o_callG1 1 (FnG.pre1 (ZrA b wb (stT A d (i+1)) hDg.ok (ZtD hdf) (rT2 A d ((sizeH (ZE (hiA A) d).1:Nat):Int) i) hDg.rok (YT hDg.size ow) (Nn d.now i).id ((A.all.length:Int)+i)) (fun _ _ _ h=>⟨((⟨s2.b,s2.q,s2.c,s2.cs,s2.ck,s2.mv,v79,s2.sqv,s2.sr⟩:StC),c2),⟨hrep2,hr2⟩,h⟩) (k2:=.star (ZbY (.pointer (some ⟨b,0,none⟩)) (.pointer (some ⟨wb,0,none⟩)) (stT A d (i+1)) (⟨s2.b,s2.q,s2.c,s2.cs,s2.ck,s2.mv,v79,s2.sqv,s2.sr⟩:StC) c2))) func63 Z kr (Args.five .t .t (.conv .t ((Ent.adrK Wd))) .t (.conv .t (Ent.int (by rw [stT_len ow];have h8:=hdf.all;rw [Zj ow];omega))))) Wd We W5 W5 W5) Wd We W5 W5 W5) Wd We W5 W5 W5) Wd We W5 W5 W5) Wd We W5 W5 W5) Wd We W5 W5 W5) r5 r7 qZ))))))))))) V Gr DR Z Z fun a w F O=>?_
  have O:=XG
  rw [← Zm0 hil] at O
  obtain ⟨F,O⟩:=O.nM Gr [105,102,101,1,0]
  refine Zf (Za (rZ O (qp r1 (qR rr qZ)) V Gr [105,102,101,1,0] fun O=>?_))
  replace O:=O.eI 67 i
  obtain ⟨F,O⟩:=O.nM [66,65,7,4,3,0,67] Xal
  exact ⟨(i+1),F,⟨ow,(hD.nextT hil)⟩,O,ow⟩
 have hil:i=d.now.length:=Qb
 refine Ym (Ze (Ze (Zk (Za (Ya (Ya (rZ O (qg 2 101 r1 r1 (qa 101 r1 r1 (qu YbS r1 (qJ qZ)))) V D0 QP fun O=>Ye ?_)))))))
 replace O:=O.turn 1 Z (r':=RS.hp (ZbD (.pointer (some ⟨b,0,none⟩)) (.pointer (some ⟨wb,0,none⟩)) (stO A d 0) (rO1 A d ((sizeH (ZE (hiA A) d).1:Nat):Int) 0))) (fun _ _ _ _ h=>by rw [← stTO_join hil,← rTO_join hil];exact h)
 refine Zh (σ:=(Nat)) [0,3,4,7,95,96] [0,101,102] (fun s=>[(97,.pv (.int .i64 (s:Int)))]) (fun s=>[(1,RS.hp (ZbD (.pointer (some ⟨b,0,none⟩)) (.pointer (some ⟨wb,0,none⟩)) (stO A d 0) (rO1 A d ((sizeH (ZE (hiA A) d).1:Nat):Int) s)))]) (fun s=>s≤d.old.length∧(DoOk (stO A d 0) (rO1 A d ((sizeH (ZE (hiA A) d).1:Nat):Int) s) (sizeH (hiA A)+d.now.length))) (fun s=>d.old.length - s) (0) O ⟨rfl,rfl,rfl,rfl,rfl,rfl,rfl,tv⟩ ⟨rfl,rfl,rfl,rfl,tv⟩ ⟨Yo _,(by rw [← stTO_join hil,← rTO_join hil,← hil];exact hD)⟩ ?_
 clear O;intro i a w F hC O
 have hC:=X3
 obtain ⟨F,O⟩:=O.nM D0 QP
 have O:=X2
 obtain ⟨hi,hq⟩:=hC
 have hD:=hq
 refine Ya (rZ O (qL r2) V [98,97,96,95,7,4,3,0] QP fun O=>Ya ?_)
 refine Zb O Z (fun hc5=>?_) (fun hc5=>?_)
 ·have hil:i<d.old.length:=Qa
  refine Yd (Za (Ya (Ye (Ya (rS O (qy 2 YbS r2 (qf (oR true 2 .t) r1 qz (qf (oH [.int .i64 0,.slice none 0 0] 106) trivial qz (qS 2 106 r2 r1 qZ)))) V [97,96,95,13,7,4,3,0] Xao fun τ O=>?_)))))
  have O:=X6
  generalize τ 13=v13 at O
  try simp only [Yf] at O
  refine Za (Zg O (qR rr (qf (ZeU (off:=2) .t kr) r1 qz (qg 0 106 r1 r1 (qa 106 r1 r1 (qf (o_callG1 1 (ZoT b wb (stO A d 0) hD.ok (Zlx hdf) (rO1 A d ((sizeH (ZE (hiA A) d).1:Nat):Int) i) hD.rok (YT hD.size ow) (Nn d.old i).key (Zs1 hok h0 hil)) func62 Z kr (Args.four .t .t (.conv .t ((Ent.adrK Wd))) .t)) r4 r1 qZ))))) V D0 Xao Z Z fun a w F O=>?_)
  rw [← rO1_next hil] at O
  refine Zf (Za (rZ O (qp r1 (qR rr qZ)) V D0 Xao fun O=>?_))
  replace O:=O.eI 97 i
  obtain ⟨F,O⟩:=O.nM [96,95,7,4,3,0,97] Xal
  exact ⟨(i+1),F,⟨ow,(by rw [rO1_next hil];exact hD.delO _)⟩,O,ow⟩
 have hil:i=d.old.length:=Qa
 refine Ym (Ze (Ze (Zk (Za (Ya (Ya (rZ O (qg 3 101 r1 r1 (qa 101 r1 r1 (qu YbS r1 (qJ qZ)))) V Gj QP fun O=>Ye ?_)))))))
 replace O:=O.turn 1 Z (r':=RS.hp (ZbD (.pointer (some ⟨b,0,none⟩)) (.pointer (some ⟨wb,0,none⟩)) (stO A d 0) (rO2 A d ((sizeH (ZE (hiA A) d).1:Nat):Int) 0))) (fun _ _ _ _ h=>by rw [← rO_join hil];exact h)
 refine Zh (σ:=(Nat)) [0,4,7,108,109] [0,101,102] (fun s=>[(110,.pv (.int .i64 (s:Int)))]) (fun s=>[(1,RS.hp (ZbD (.pointer (some ⟨b,0,none⟩)) (.pointer (some ⟨wb,0,none⟩)) (stO A d s) (rO2 A d ((sizeH (ZE (hiA A) d).1:Nat):Int) s)))]) (fun s=>s≤d.new.length∧(DoOk (stO A d s) (rO2 A d ((sizeH (ZE (hiA A) d).1:Nat):Int) s) (sizeH (hiA A)+d.now.length+s+Zbj (d.new.take s)))) (fun s=>d.new.length - s) (0) O ⟨rfl,rfl,rfl,rfl,rfl,rfl,tv⟩ ⟨rfl,rfl,rfl,rfl,tv⟩ ⟨Yo _,(by rw [← rO_join hil];exact hD)⟩ ?_
 clear O;intro i a w F hC O
 have hC:=X3
 obtain ⟨F,O⟩:=O.nM Gj QP
 have O:=X2
 obtain ⟨hi,hq⟩:=hC
 have hD:=hq
 refine Ya (rZ O (qL r2) V D7 QP fun O=>Ya ?_)
 refine Zb O Z (fun hc6=>?_) (fun hc6=>?_)
 ·have hil:i<d.new.length:=by simp at hc6;omega
  obtain ⟨⟨s2,c2⟩,O⟩:=O.open_ex 1 rfl
  obtain ⟨⟨hk2,hr2⟩,O⟩:=O.open_and 1 rfl
  obtain ⟨F,O⟩:=O.peel 1 2 Z rfl
  obtain ⟨F,O⟩:=O.peel 1 3 Z rfl
  obtain ⟨F,O⟩:=O.peel 1 4 Z rfl
  obtain ⟨F,O⟩:=O.peel 1 5 Z rfl
  obtain ⟨F,O⟩:=O.peel 1 6 Z rfl
  obtain ⟨F,O⟩:=O.peel 1 7 Z rfl
  have O:=X2
  dsimp only at hk2 hr2
  obtain ⟨F,O⟩:=O.nM D7 JT
  have hot:=ZnJ d.new i
  refine Yd (Za (Ya (Ye (Ya (rS O (qy 2 YbS r2 (qf (oR true 2 .t) r1 qz (qf (oH [.int .i64 0,.slice none 0 0] 107) trivial qz (qS 2 107 r2 r1 qZ)))) V JK Xaa fun τ O=>?_)))))
  have O:=X6
  generalize τ 15=v15 at O
  try simp only [Yf] at O
  refine Za (Ya ?_)
  replace O:=O.fresh 9 rfl
  obtain ⟨F,O⟩:=O.push 9 7 Z Z Z kr
  obtain ⟨F,O⟩:=O.push 9 6 Z Z Z kr
  obtain ⟨F,O⟩:=O.push 9 5 Z Z Z kr
  obtain ⟨F,O⟩:=O.push 9 4 Z Z Z kr
  obtain ⟨F,O⟩:=O.push 9 3 Z Z Z kr
  obtain ⟨F,O⟩:=O.push 9 2 Z Z Z kr
  replace O:=O.turn 9 Z (r':=RS.hp (.star (ZbY (.pointer (some ⟨b,0,none⟩)) (.pointer (some ⟨wb,0,none⟩)) (stO A d i) s2 c2))) (fun _ _ _ _ h=>h)
  obtain ⟨F,O⟩:=O.nM JK [107,102,101,9,0]
  refine Zg O (qR rr (qg 1 107 r1 r1 (qa 107 r1 r1 (qu YbT r1 (qf (o_callG1 9 (Ze8 b wb (stO A d i) hD.ok (Zlx hdf) (rO2 A d ((sizeH (ZE (hiA A) d).1:Nat):Int) i) hD.rok (YT hD.size ow) s2 c2 ((Nn d.new i).txs.length:Int) hk2 hr2 (by have:=hdf.len _ (ZP hil);omega)) func64 Z kr (Args.three .t .t .t)) r3 r1 qZ))))) V JK [107,102,101,9,0] Z Z fun a w F O=>?_
  obtain ⟨⟨s3,c3⟩,O⟩:=O.open_ex 9 rfl
  obtain ⟨hp3,O⟩:=O.open_and 9 rfl
  obtain ⟨F,O⟩:=O.peel 9 2 Z rfl
  obtain ⟨F,O⟩:=O.peel 9 3 Z rfl
  obtain ⟨F,O⟩:=O.peel 9 4 Z rfl
  obtain ⟨F,O⟩:=O.peel 9 5 Z rfl
  obtain ⟨F,O⟩:=O.peel 9 6 Z rfl
  obtain ⟨F,O⟩:=O.peel 9 7 Z rfl
  have O:=X2
  obtain ⟨F,O⟩:=O.nM JK Xaa
  have hlq:=hdf.len _ (ZP hil)
  have hrm:s3.q.length+(Nn d.new i).txs.length≤65536:=by rcases hp3.room with ⟨e9,h9⟩ | h9; (· simp only [Prod.mk.injEq] at e9;rw [e9.1];omega);dsimp only at h9;omega
  obtain ⟨e1,ro1,hM1,hR1⟩:=Zvf s3.b (q:=s3.q) (Nn d.new i).txs hrm
  refine Za (Ya (rT O (qR rr (qf (o_nilCheck 2 .is Wd) r1 r1 (qf (oF 0 2 .adr) r1 r1 (qa 2 r1 r1 (qg 1 107 r1 r1 (qa 107 r1 r1 (qf (o_callG1 3 (hM1) func65 Z kr (Args.two .t .t)) r2 r1 (qR rr (qf (o_extract .t Z) r1 qz (qf (o_extract .t Z) r1 qz (qf (oH [.pointer none,.int .i64 0] 108) trivial qz (qf (oA 2 108 .same (.conv .t .agg)) r2 r1 (qO rr qZ))))))))))))) V [110,109,108,16,15,7,4,0] DG fun τ O=>?_))
  have O:=X6
  generalize τ 16=v16 at O
  refine Za (Ya (rT O (qR rr (qR rr (qf (o_nilCheck 2 .is Wd) r1 r1 (qf (oF 9 2 .adr) r1 r1 (qa 2 r1 r1 (qe 2 108 r1 r1 (qf (o_buildSliceE (sz:=2) (zs:=[.pointer none,.int .i64 0]) (r:=[(0,.tmp 134)]) (l:=[_,_]) YbZ kr kr kr kr Z Z (.agg Z .t kr kr .nil) Z) r1 qz (qf (o_append (sz:=2) (bs:=16) 6 (.mk' YbZ kr kr) Wt .is (.arr (l':=[(⟨arV (some s3.b),ro1⟩:SqC)]) .t) (by simp only [Yl,Yn];have h9:=hp3.rep.len;have h8:=hdf.seqs;have h7:=Zjy (A:=A) (d:=d) (i:=i) ow;dsimp only at h9;omega) We) ⟨rfl,rfl,tv⟩ ⟨rfl,tv⟩ (qf (o_nilCheck 2 .is Wd) r1 r1 (qf (oF 9 2 .adr) r1 r1 (qf (Zbo 2 .adr kr kr) r2 r1 qZ))))))))))) V JK DG fun τ O=>?_))
  have O:=X6
  generalize τ 136=v136 at O
  have hDg:=hD.growO hil
  have hr4:=hp3.rt.app (e:=e1)
  have hrep4:Zap (stO A d (i+1)) [(rO2 A d ((sizeH (ZE (hiA A) d).1:Nat):Int) i)] (⟨s3.b,s3.q++e1,s3.c,s3.cs,s3.ck,s3.mv,s3.alv,v136,s3.sr ++ [(⟨arV (some s3.b),ro1⟩:SqC)]⟩:StC):=by rw [Zl5 hil];exact hp3.rep.addSeq (Nn d.new i).txs e1 ⟨arV (some s3.b),ro1⟩ ⟨rfl,hR1⟩ hD.ok hD.rok.ov v136
  refine Za ?_
  replace O:=O.fresh 1 rfl
  obtain ⟨F,O⟩:=O.nM JK Dn
  refine Zr O (qR rr (qg 2 7 r1 r1 (qg 0 107 r1 r1 (qa 107 r1 r1 (qR rr (qf (o_nilCheck 2 .is Wd) r1 r1 (qf (oF 9 2 .adr) r1 r1 (qa 2 r1 r1 (qf (Zam 6 YbZ .is) r1 r1 (qf (o_sub .t qi) r1 qz (qf (OpC.push (m:=7) (OpC.push (m:=6) (OpC.push (m:=5) (OpC.push (m:=4) (OpC.push (m:=3) (OpC.push (m:=2) (o_callG1 1 (FnG.pre1 (ZqW b wb (stO A d (i+1)) hDg.ok (Zlx hdf) (rO2 A d ((sizeH (ZE (hiA A) d).1:Nat):Int) i) hDg.rok (YT hDg.size ow) (Nn d.new i).key ((A.seqs.length:Int)+i) (by rw [Zjy ow];omega)) (fun _ _ _ h=>⟨((⟨s3.b,s3.q++e1,s3.c,s3.cs,s3.ck,s3.mv,s3.alv,v136,s3.sr ++ [(⟨arV (some s3.b),ro1⟩:SqC)]⟩:StC),c3),⟨hrep4,hr4⟩,h⟩) (k2:=.star (ZbY (.pointer (some ⟨b,0,none⟩)) (.pointer (some ⟨wb,0,none⟩)) (stO A d (i+1)) (⟨s3.b,s3.q++e1,s3.c,s3.cs,s3.ck,s3.mv,s3.alv,v136,s3.sr ++ [(⟨arV (some s3.b),ro1⟩:SqC)]⟩:StC) c3))) func63 Z kr (Args.five .t .t (.conv .t ((Ent.adrK Wd))) .t (.conv .t (Ent.int (by have h9:=hp3.rep.len;have h8:=hdf.seqs;have h7:=Zjy (A:=A) (d:=d) (i:=i) ow;dsimp only at h9;rw [Yc,Yat,Zj ow];omega))))) Wd We W5 W5 W5) Wd We W5 W5 W5) Wd We W5 W5 W5) Wd We W5 W5 W5) Wd We W5 W5 W5) Wd We W5 W5 W5) r5 r7 qZ))))))))))) V Gj Dn Z Z fun a w F O=>?_
  have O:=XG
  rw [← ZmJ hil] at O
  obtain ⟨F,O⟩:=O.nM Gj [108,107,102,101,1,0]
  refine Zf (Za (rZ O (qp r1 (qR rr qZ)) V Gj [108,107,102,101,1,0] fun O=>?_))
  replace O:=O.eI 110 i
  obtain ⟨F,O⟩:=O.nM [109,108,7,4,0,110] Xal
  exact ⟨(i+1),F,⟨ow,(by rw [sizeO_next hil];have h9:=hD.nextO hil;exact (show sizeH (hiA A)+d.now.length+i+Zbj (d.new.take i)+1+(Nn d.new i).txs.length=sizeH (hiA A)+d.now.length+(i+1)+(Zbj (d.new.take i)+(Nn d.new i).txs.length) by omega) ▸ h9)⟩,O,ow⟩
 have hil:i=d.new.length:=by simp at hc6;omega
 obtain ⟨⟨s5,c5⟩,O⟩:=O.open_ex 1 rfl
 obtain ⟨⟨hk5,hr5⟩,O⟩:=O.open_and 1 rfl
 obtain ⟨F,O⟩:=O.peel 1 2 Z rfl
 obtain ⟨F,O⟩:=O.peel 1 3 Z rfl
 obtain ⟨F,O⟩:=O.peel 1 4 Z rfl
 obtain ⟨F,O⟩:=O.peel 1 5 Z rfl
 obtain ⟨F,O⟩:=O.peel 1 6 Z rfl
 obtain ⟨F,O⟩:=O.peel 1 7 Z rfl
 have O:=X2
 dsimp only at hk5 hr5
 obtain ⟨F,O⟩:=O.nM D7 JT
 refine Ym (Ze (Ze (Zk (Za (Ya (rZ O (qR rr (qe 5 7 r1 r1 (qf (o_nilCheck 2 .is Wd) r1 r1 (qf (oF 1 2 .adr) r1 r1 (qf (oA 5 2 .adr .t) r2 r1 qZ))))) V [4] JT fun O=>Ya ?_))))))
 refine rZ O (qI qZ) V [4] JT fun O=>Yh ?_
 have O:=O.fresh 1 rfl
 obtain ⟨F,O⟩:=O.push 1 6 Z Z Z kr
 obtain ⟨F,O⟩:=O.push 1 5 Z Z Z kr
 obtain ⟨F,O⟩:=O.push 1 4 Z Z Z kr
 obtain ⟨F,O⟩:=O.push 1 3 Z Z Z kr
 obtain ⟨F,O⟩:=O.push 1 2 Z Z Z kr
 have O:=O.turn 1 Z (r':=RS.hp (ZO (.pointer (some ⟨b,0,none⟩)) (doA A d).1)) (fun _ _ _ _ h=>⟨(⟨s5.b,s5.q,c5,s5.cs,s5.ck,s5.mv,s5.alv,s5.sqv,s5.sr⟩:StC),(by rw [hg];have h9:=hk5.turn hr5;rw [Zpv hil,Znn hil] at h9;exact h9),Ky⟩)
 obtain ⟨F,O⟩:=O.nM [4] QL
 refine Zz hG O Z (.tmp Z .nil) (.one (.int Wr)) rfl
theorem Zpg  : FnG prog 7 1 [] [.star []] (PV.ptr) (fun v=>[ZO v Zg3]):=by
 refine FnG.mk func7 Z ntmps7 Z kr fun B F0 a w F V hG O=>Ya ?_
 refine rZ O (qC qZ) V [0] QL fun O=>Ya ?_
 replace O:=O.fresh 101 rfl
 refine rS O (qf (Zdq 101 (Zpm 65536) func45 Z kr (Args.one qi) PV.ptr_one) qz r1 (qO rr qZ)) V QL QW fun τ O=>?_
 try dsimp only [RS.sub,SF.sub,CF.sub,csub,Anc.sub,List.map,Zi,rTx,Zp,ZR,Zo,rOp] at O
 generalize τ 2=v2 at O
 obtain ⟨_,_,_,ho⟩:=O.obGet 101 rfl
 obtain ⟨b9,rfl⟩:=ZiD ho
 clear ho
 replace O:=O.turn 101 Z (r':=RS.hp (Za2 (.pointer (some ⟨b9,0,none⟩)) (Zcg 65536) [])) (fun _ _ _ _ h=>h)
 obtain ⟨F,O⟩:=O.nM QL QW
 rw [show Zcg 65536=65536 by decide] at O
 refine Za (Ya (rS O (qR rr (qR rr (qf (oP (Zrt (some b9)) func46 (Args.one .t)) r1 qz (qf (Zc6 (ek:=(fun c:RtC=>PV.agg (rRt c))) (ok:=(fun n:Int=>inR .i64 n)) (kv:=(fun n:Int=>Value.int .i64 n)) 102) trivial qz (qf (oB [(0,.tmp 3),(1,.tmp 5),(2,.tmp 6)] [.pointer none,.pointer none,.int .i64 0,.pointer none,.int .i64 0,.int .i64 0,.map none,.int .i64 0,.slice none 0 0,.slice none 0 0] [(0,1),(1,5),(6,1),(7,1),(8,1),(9,1)] (.one Z .t Ziw kr (.agg Z (.conv .t .agg) kr kr (.same Z kr .nil)))) r3 qz (qf (oX 103 .t) r1 qz (qO rr qZ))))))) V [0] QZ fun τ O=>?_))
 have O:=XE
 generalize τ 8=v8,τ 6=v6 at O
 refine Za (Yh ?_)
 obtain ⟨b,rfl⟩:=O.shape 103 rfl
 replace O:=O.fresh 80 rfl
 replace O:=O.turn 80 Z (Zas (T:=36) (sz:=3) (R:=rTx))
 replace O:=O.fresh 81 rfl
 replace O:=O.turn 81 Z (Zas (T:=114) (sz:=2) (R:=rSq))
 obtain ⟨F,O⟩:=O.push 1 81 Z Z Z kr
 obtain ⟨F,O⟩:=O.push 1 80 Z Z Z kr
 obtain ⟨F,O⟩:=O.push 1 102 Z Z Z kr
 obtain ⟨F,O⟩:=O.push 1 101 Z Z Z kr
 obtain ⟨F,O⟩:=O.push 1 103 Z Z Z kr
 replace O:=O.turn 1 Z (r':=RS.hp (ZO (.pointer (some ⟨b,0,none⟩)) Zg3)) (fun _ _ _ _ h=>⟨_,Zap.zero b9 v6 (.slice none 0 0) (.slice none 0 0),h⟩)
 refine Zen (h':=fun v=>ZO v Zg3) hG O Z (.tmp Z .nil) (.one .ptr) rfl
theorem Zew {l:List TxD} {id:Int} : (ZaV l id).isSome=isK TxD.id id l:=by
 unfold ZaV isK
 rw [Yaa,List.find?_isSome,Ybc]
theorem Zec {g:Zw} (h:ZG g):NE g.orders:=fun o ho=>by
 have h2:=(Zdk g).2 h.2.2
 obtain ⟨j,hj,e⟩:=YL ho
 have:=(h2.2 j hj).2.1
 rwa [Zu hj,e] at this
theorem ZtV {g:Zw} {t:TxD} {there:Int} {wanted:Bool} (h:¬ ZG g):ZjQ g t there wanted=(0,5):=Yg h
theorem Zup {g:Zw} {t:TxD} {there:Int} {wanted:Bool} (h:ZG g) (h2:Zag t≠0):ZjQ g t there wanted=(0,Zag t):=by unfold ZjQ;rw [Yb (YS.2 h),Yg h2]
theorem Zun {g:Zw} {t:TxD} {there:Int} {wanted:Bool} (h:ZG g) (h2:Zag t=0) (h3:isK TxD.id t.id g.txs≠wanted):ZjQ g t there wanted=(0,there):=by unfold ZjQ;rw [Yb (YS.2 h),Yb (YS.2 h2),Yg h3]
theorem Zuo {g:Zw} {t:TxD} {there:Int} {wanted:Bool} (h:ZG g) (h2:Zag t=0) (h3:isK TxD.id t.id g.txs=wanted) (h4:Zbb g t=false):ZjQ g t there wanted=(0,6):=by unfold ZjQ;rw [Yb (YS.2 h),Yb (YS.2 h2),Yb (YS.2 h3),Yg h4]
theorem Zsg {g:Zw} {t:TxD} {there:Int} {wanted:Bool} (h:ZG g) (h2:Zag t=0) (h3:isK TxD.id t.id g.txs=wanted) (h4:Zbb g t=true):ZjQ g t there wanted=(((lowK TxD.id t.id g.txs:Nat):Int),0):=by unfold ZjQ;rw [Yb (YS.2 h),Yb (YS.2 h2),Yb (YS.2 h3),Yb (by simp [h4])]
theorem Zji {g:Zw} {t:TxD} {e:Int} (h:ZjQ g t 4 false=(0,e)) (he:e≠0):ZbH g t=(Zbq,e):=by unfold ZbH;rw [h];exact Yg he
theorem Znj {g:Zw} {t:TxD} {e:Int} (h:ZjQ g t 3 true=(0,e)) (he:e≠0):ZcK g t=(Zbq,e):=by unfold ZcK;rw [h];exact Yg he
theorem ZrX {g:Zw} {t:TxD} (h:ZG g) (h2:Zag t=0) (h3:isK TxD.id t.id g.txs=false) (h4:Zbb g t=true) (h5:4096≤g.txs.length):ZbH g t=(Zbq,2):=by
 have:=h.1
 unfold ZbH
 rw [Zsg h h2 h3 h4,Yb W5,Yg ow]
theorem Zr4 {g:Zw} {t:TxD} (hs:ZbS g.orders) (h:ZG g) (h2:Zag t=0) (h3:isK TxD.id t.id g.txs=false) (h4:Zbb g t=true) (h5:¬ 4096≤g.txs.length):ZbH g t=(⟨putGR TxD.id t g.txs false,ZcZ t g.orders⟩,0):=by
 have hr:=ZaF h
 unfold ZbH
 rw [Zsg h h2 h3 h4,Yb W5,Yb ow,ZfO hr.2 hs (Zec h),Ze3 (ZV.1 hr.1) h3]
theorem Ztm {g:Zw} {t:TxD} (h:ZG g) (h2:Zag t=0) (h3:isK TxD.id t.id g.txs=true) (h4:Zbb g t=true) (h5:Zhm g t=true):ZcK g t=(Zbq,7):=by
 unfold ZcK
 rw [Zsg h h2 h3 h4,Yb W5,Yg h5]
theorem ZsL {g:Zw} {t:TxD} (hs:ZbS g.orders) (h:ZG g) (h2:Zag t=0) (h3:isK TxD.id t.id g.txs=true) (h4:Zbb g t=true) (h5:Zhm g t=false):ZcK g t=(⟨putGR TxD.id t g.txs false,ZcZ t g.orders⟩,0):=by
 have hr:=ZaF h
 unfold ZcK
 rw [Zsg h h2 h3 h4,Yb W5,Yb (by simp [h5]),ZfO hr.2 hs (Zec h),ZhP (ZV.1 hr.1) h3]
theorem ZuU {g:Zw} {id:Int} (h:¬ ZG g):Zbu g id=(Zbq,5):=Yg h
theorem ZuL {g:Zw} {id:Int} (h:ZG g) (h2:isK TxD.id id g.txs=false):Zbu g id=(Zbq,3):=by unfold Zbu;rw [Yb (YS.2 h),Yg h2]
theorem ZuG {g:Zw} {id:Int} (h:ZG g) (h2:isK TxD.id id g.txs=true) (h3:Zhm g (Zey id)=true):Zbu g id=(Zbq,7):=by unfold Zbu;rw [Yb (YS.2 h),Yb (by simp [h2]),Yg h3]
theorem ZuH {g:Zw} {id:Int} (hs:ZbS g.orders) (h:ZG g) (h2:isK TxD.id id g.txs=true) (h3:Zhm g (Zey id)=false):Zbu g id=(⟨g.txs.filter fun x=>!decide (x.id=id),ZcZ (Zey id) g.orders⟩,0):=by
 have hr:=ZaF h
 unfold Zbu
 rw [Yb (YS.2 h),Yb (by simp [h2]),Yb (by simp [h3]),ZfO hr.2 hs (Zec h),Zid (ZV.1 hr.1) h2]
theorem ZoK {os:List OrdD} {k:Int} (hr:ZeH OrdD.key os) (h:isK OrdD.key k os=true):getO os k=(Nn os (lowK OrdD.key k os)).txs:=by
 obtain ⟨h1,h2⟩:=Zjr hr h
 have:=Zee (ZV.1 hr) (ZP h1)
 rwa [h2] at this
theorem Zp1 {os:List OrdD} {k:Int} (hr:ZeH OrdD.key os) (hn:NE os):getO os k = [] ↔ isK OrdD.key k os=false:=by
 constructor
 ·intro h
  cases hk:isK OrdD.key k os with
  | false=>rfl
  | true=>
   rw [ZoK hr hk] at h
   exact absurd h (hn _ (ZP (Zjr hr hk).1))
 ·exact Zqv
theorem ZpM {g:Zw} {key:Int} {rule:List Int→List Int×Int} (h:¬ ZG g):ZbV g key rule=(Zbq,5):=Yg h
theorem Zpl {g:Zw} {key:Int} {rule:List Int→List Int×Int} (h:ZG g) (h2:getO g.orders key = []):ZbV g key rule=(Zbq,3):=by
 unfold ZbV
 rw [Yb (YS.2 h),Yg ((Zp1 (ZaF h).2 (Zec h)).1 h2)]
theorem ZpW {g:Zw} {key:Int} (h:ZG g) (h2:getO g.orders key≠[]):isK OrdD.key key g.orders=true:=by
 cases hk:isK OrdD.key key g.orders with
 | true=>rfl
 | false=>exact absurd ((Zp1 (ZaF h).2 (Zec h)).2 hk) h2
theorem Zo9 {g:Zw} {key:Int} {rule:List Int→List Int×Int} (h:ZG g) (h2:getO g.orders key≠[]) (h3:(rule (getO g.orders key)).2≠0):ZbV g key rule=(Zbq,(rule (getO g.orders key)).2):=by
 have hk:=ZpW h h2
 have hg:=ZoK (ZaF h).2 hk
 unfold ZbV
 rw [Yb (YS.2 h),Yb (by simp [hk]),← hg,Yg h3]
theorem Zo3 {g:Zw} {key:Int} {rule:List Int→List Int×Int} (h:ZG g) (h2:getO g.orders key≠[]) (h3:(rule (getO g.orders key)).2=0) (h4:(rule (getO g.orders key)).1≠[]):ZbV g key rule=(⟨g.txs,putGR OrdD.key ⟨key,(rule (getO g.orders key)).1⟩ g.orders (decide ((rule (getO g.orders key)).1 = []))⟩,0):=by
 have hk:=ZpW h h2
 have hr:=(ZaF h).2
 have hg:=ZoK hr hk
 unfold ZbV
 rw [Yb (YS.2 h),Yb (by simp [hk]),← hg,Yb (by simp [h3]),Yq h4,ZhP (κ:=OrdD.key) (t:=⟨key,(rule (getO g.orders key)).1⟩) (ZV.1 hr) hk,(Zjr hr hk).2]
theorem Zj7 {l:List Int} {id place:Int} (h:(ZcB l id place).2=0):(ZcB l id place).1.Perm l:=by
 have h9:=h
 unfold ZcB at h9
 split at h9
 ·simp at h9
 ·rename_i h1
  split at h9
  ·simp at h9
  ·rename_i h2
   refine ZnY ?_ (YS.1 h2)
   refine Y3 fun hm=>h1 ?_
   rw [ZiY hm];decide
structure EdD where
 kind:Int
 t:TxD
 o:OrdD
 place:Int
 deriving DecidableEq,Inhabited
def rEd (e:EdD):List PV:=[.int .i64 e.kind,.int .i64 e.t.id,.bool e.t.done,.sl rOp e.t.ops,.int .i64 e.o.key,.sl Zo e.o.txs,.int .i64 e.place]
def doH (g:Zw) (e:EdD):Zw×Int:=if e.kind=0 then ZbH g e.t else if e.kind=1 then Zbu g e.t.id else if e.kind=2 then ZcK g e.t else if e.kind=3 then ZcL g e.o else if e.kind=4 then ZkL g e.o.key e.t.id e.place else (Zbq,5)
def Zfu (e:EdD):Prop:=e.t.ops.length≤24∧e.o.txs.length≤24
instance (e:EdD):Decidable (Zfu e):=by unfold Zfu;exact inferInstance
def Zsp (l:List EdD):Prop:=l.length≤24 ∧ ∀ e ∈ l,Zfu e
instance (l:List EdD):Decidable (Zsp l):=by unfold Zsp;exact inferInstance
theorem ZlX (g:Zw) (t:TxD) (hs:Za8 g) (ht:t.ops.length≤1000):FnP prog 69 [.agg (Zi g),.agg (rTx t)] (.tup [.agg (Zi (ZbH g t).1),.int .i64 (ZbH g t).2]):=by
 refine FnP.mk func69 Z ntmps69 Z fun B a w F V hfr O=>?_
 have hsl:=hs.1.1
 refine Ya (rS O (qx 101 r1 (qx 102 r1 (qf (oH [.slice none 0 0,.slice none 0 0] 103) trivial qz (qI qZ)))) V J3 QJ fun τ O=>?_)
 have O:=X1
 generalize τ 2=v2,τ 3=v3,τ 4=v4 at O
 refine Za (Ya (Ya (rZ O (qe 2 101 r1 r1 (qf (oP (ZaW g hs) func128 (Args.one (.pagg .t))) r1 qz (qf (ZW .t) r1 qz qZ))) V [11,5,4,3,2] QJ fun O=>?_)))
 refine Zb O Z (fun hc0=>?_) (fun hc0=>?_)
 ·have hr:¬ ZG g:=Wz
  have hg:=Zji (t:=t) (ZtV hr) We
  refine Ya (rZ O (qf (oB [] [.slice none 0 0,.slice none 0 0] [(0,1),(1,1)] .nil) trivial qz (qs 2 103 r2 r1 (qI qZ))) V J3 QJ fun O=>(Yh (Zd ?_)))
  refine ZU hfr O Z (.cl 103 true 2 Z Z (.tmp Z .nil)) (.two KD (.int Wr))
 have hr:ZG g:=Wz
 refine Yd (Za (Ya (Ya (rZ O (qe 3 102 r1 r1 (qf (oP (ZdI t) func131 (Args.one (.pagg .t))) r1 qz (qO rr qZ))) V Xa6 QJ fun O=>Ya ?_))))
 refine rZ O (qR rr (qf (o_neq .t qi) r1 qz qZ)) V [16,6,5,4,3,2] QJ fun O=>?_
 refine Zb O Z (fun hc1=>?_) (fun hc1=>?_)
 ·have hrt:Zag t≠0:=WE
  have hg:=Zji (Zup hr hrt) hrt
  refine Ya (rZ O (qf (oB [] [.slice none 0 0,.slice none 0 0] [(0,1),(1,1)] .nil) trivial qz (qR rr (qs 2 103 r2 r1 (qO rr qZ)))) V J3 QJ fun O=>(Yh (Zd ?_)))
  refine ZU hfr O Z (.cl 103 true 2 Z Z (.tmp Z .nil)) (.two KD (.int Wr))
 have hrt:Zag t=0:=WE
 refine Yd (Za (Ya (Ya (rS O (qe 2 101 r1 r1 (qg 0 102 r1 r1 (qa 102 r1 r1 (qf (oP (Zc0 g t.id hs.1) func12 (Args.two (.pagg .t) .t)) r2 qz (qR rr (qf (o_extract .t Z) r1 qz (qf (o_extract .t Z) r1 qz (qf (oH [.int .i64 0,.bool false,.slice none 0 0] 104) trivial qz (qf (oA 3 104 .same (.conv .t .agg)) r2 r1 (qO rr qZ)))))))))) V [8,5,4,3,2] QN fun τ O=>?_))))
 have O:=X0
 generalize τ 7=v7 at O
 refine Za (Ya (rZ O (qR rr qZ) V [26,5,4,3,2] QN fun O=>?_))
 refine Zb O Z (fun hc2=>?_) (fun hc2=>?_)
 ·have hik:isK TxD.id t.id g.txs=true:=Qm
  have hg:=Zji (Zun hr hrt (by rw [hik];decide)) We
  refine Ya (rZ O (qf (oB [] [.slice none 0 0,.slice none 0 0] [(0,1),(1,1)] .nil) trivial qz (qs 2 103 r2 r1 (qI qZ))) V J3 QN fun O=>(Yh (Zd ?_)))
  refine ZU hfr O Z (.cl 103 true 2 Z Z (.tmp Z .nil)) (.two KD (.int Wr))
 have hik:isK TxD.id t.id g.txs=false:=Qm
 refine Yd (Za (Ya (Ya (rZ O (qe 2 101 r1 r1 (qe 3 102 r1 r1 (qf (oP (ZeD g t hs.1 ht) func132 (Args.two (.pagg .t) (.pagg .t))) r2 qz (qf (ZW .t) r1 qz qZ)))) V [31,5,4,3,2] QN fun O=>?_))))
 refine Zb O Z (fun hc3=>?_) (fun hc3=>?_)
 ·have hg:=Zji (Zuo hr hrt hik WS) We
  refine Ya (rZ O (qf (oB [] [.slice none 0 0,.slice none 0 0] [(0,1),(1,1)] .nil) trivial qz (qs 2 103 r2 r1 (qI qZ))) V J3 QN fun O=>(Yh (Zd ?_)))
  refine ZU hfr O Z (.cl 103 true 2 Z Z (.tmp Z .nil)) (.two KD (.int Wr))
 have hnd:Zbb g t=true:=WS
 refine Yd (Za (Ya (Ya (rZ O (qg 0 101 r1 r1 (qa 101 r1 r1 (qu YbR r1 (qf (Zcb .t qi) r1 qz qZ)))) V [36,5,4,3,2] QN fun O=>?_))))
 refine Zb O Z (fun hc4=>?_) (fun hc4=>?_)
 ·have hg:=ZrX hr hrt hik hnd (by simp at hc4;omega)
  refine Ya (rZ O (qf (oB [] [.slice none 0 0,.slice none 0 0] [(0,1),(1,1)] .nil) trivial qz (qs 2 103 r2 r1 (qI qZ))) V J3 QN fun O=>(Yh (Zd ?_)))
  refine ZU hfr O Z (.cl 103 true 2 Z Z (.tmp Z .nil)) (.two KD (.int Wr))
 have hg:=Zr4 hs.2 hr hrt hik hnd (by simp at hc4;omega)
 refine Yd (Za (Ya (Zr O (qg 0 101 r1 r1 (qa 101 r1 r1 (qe 3 102 r1 r1 (qf (oP (ZqA g.txs t ow) func133 (Args.two .t (.pagg .t))) r2 qz (qg 1 101 r1 r1 (qa 101 r1 r1 (qe 3 102 r1 r1 (qf (oP (Zet g.orders t hs.2 ht) func134 (Args.two .t (.pagg .t))) r2 qz (qf (oB [(0,.tmp 41),(1,.tmp 45)] [.slice none 0 0,.slice none 0 0] [(0,1),(1,1)] (.one Z .t Zaf kr (.one Z .t Zaf kr .nil))) r2 qz (qs 2 103 r2 r1 (qI qZ))))))))))) V Jf QN Z Z fun a w F O=>?_)))
 have O:=Xt
 refine Za (Yh (ZU hfr O Z (.cl 103 true 2 Z Z (.tmp Z .nil)) (.two KD (.int Wr))))
theorem Zoe (g:Zw) (t:TxD) (hs:Za8 g) (ht:t.ops.length≤1000):FnP prog 71 [.agg (Zi g),.agg (rTx t)] (.tup [.agg (Zi (ZcK g t).1),.int .i64 (ZcK g t).2]):=by
 refine FnP.mk func71 Z ntmps71 Z fun B a w F V hfr O=>?_
 have hsl:=hs.1.1
 refine Ya (rS O (qx 101 r1 (qx 102 r1 (qf (oH [.slice none 0 0,.slice none 0 0] 103) trivial qz (qI qZ)))) V J3 QJ fun τ O=>?_)
 have O:=X1
 generalize τ 2=v2,τ 3=v3,τ 4=v4 at O
 refine Za (Ya (Ya (rZ O (qe 2 101 r1 r1 (qf (oP (ZaW g hs) func128 (Args.one (.pagg .t))) r1 qz (qf (ZW .t) r1 qz qZ))) V [11,5,4,3,2] QJ fun O=>?_)))
 refine Zb O Z (fun hc0=>?_) (fun hc0=>?_)
 ·have hr:¬ ZG g:=Wz
  have hg:=Znj (t:=t) (ZtV hr) We
  refine Ya (rZ O (qf (oB [] [.slice none 0 0,.slice none 0 0] [(0,1),(1,1)] .nil) trivial qz (qs 2 103 r2 r1 (qI qZ))) V J3 QJ fun O=>(Yh (Zd ?_)))
  refine ZU hfr O Z (.cl 103 true 2 Z Z (.tmp Z .nil)) (.two KD (.int Wr))
 have hr:ZG g:=Wz
 refine Yd (Za (Ya (Ya (rZ O (qe 3 102 r1 r1 (qf (oP (ZdI t) func131 (Args.one (.pagg .t))) r1 qz (qO rr qZ))) V Xa6 QJ fun O=>Ya ?_))))
 refine rZ O (qR rr (qf (o_neq .t qi) r1 qz qZ)) V [16,6,5,4,3,2] QJ fun O=>?_
 refine Zb O Z (fun hc1=>?_) (fun hc1=>?_)
 ·have hrt:Zag t≠0:=WE
  have hg:=Znj (Zup hr hrt) hrt
  refine Ya (rZ O (qf (oB [] [.slice none 0 0,.slice none 0 0] [(0,1),(1,1)] .nil) trivial qz (qR rr (qs 2 103 r2 r1 (qO rr qZ)))) V J3 QJ fun O=>(Yh (Zd ?_)))
  refine ZU hfr O Z (.cl 103 true 2 Z Z (.tmp Z .nil)) (.two KD (.int Wr))
 have hrt:Zag t=0:=WE
 refine Yd (Za (Ya (Ya (rS O (qe 2 101 r1 r1 (qg 0 102 r1 r1 (qa 102 r1 r1 (qf (oP (Zc0 g t.id hs.1) func12 (Args.two (.pagg .t) .t)) r2 qz (qR rr (qf (o_extract .t Z) r1 qz (qf (o_extract .t Z) r1 qz (qf (oH [.int .i64 0,.bool false,.slice none 0 0] 104) trivial qz (qf (oA 3 104 .same (.conv .t .agg)) r2 r1 (qO rr qZ)))))))))) V [8,5,4,3,2] QN fun τ O=>?_))))
 have O:=X0
 generalize τ 7=v7 at O
 refine Za (Ya (rZ O (qR rr (qf (ZW .t) r1 qz qZ)) V [27,5,4,3,2] QN fun O=>?_))
 refine Zb O Z (fun hc2=>?_) (fun hc2=>?_)
 ·have hik:isK TxD.id t.id g.txs=false:=Qm
  have hg:=Znj (Zun hr hrt (by rw [hik];decide)) We
  refine Ya (rZ O (qf (oB [] [.slice none 0 0,.slice none 0 0] [(0,1),(1,1)] .nil) trivial qz (qs 2 103 r2 r1 (qI qZ))) V J3 QN fun O=>(Yh (Zd ?_)))
  refine ZU hfr O Z (.cl 103 true 2 Z Z (.tmp Z .nil)) (.two KD (.int Wr))
 have hik:isK TxD.id t.id g.txs=true:=Qm
 refine Yd (Za (Ya (Ya (rZ O (qe 2 101 r1 r1 (qe 3 102 r1 r1 (qf (oP (ZeD g t hs.1 ht) func132 (Args.two (.pagg .t) (.pagg .t))) r2 qz (qf (ZW .t) r1 qz qZ)))) V [32,5,4,3,2] QN fun O=>?_))))
 refine Zb O Z (fun hc3=>?_) (fun hc3=>?_)
 ·have hg:=Znj (Zuo hr hrt hik WS) We
  refine Ya (rZ O (qf (oB [] [.slice none 0 0,.slice none 0 0] [(0,1),(1,1)] .nil) trivial qz (qs 2 103 r2 r1 (qI qZ))) V J3 QN fun O=>(Yh (Zd ?_)))
  refine ZU hfr O Z (.cl 103 true 2 Z Z (.tmp Z .nil)) (.two KD (.int Wr))
 have hnd:Zbb g t=true:=WS
 refine Yd (Za (Ya (Ya (rZ O (qe 2 101 r1 r1 (qe 3 102 r1 r1 (qf (oP (Zj4 g t hs.1 ht) func135 (Args.two (.pagg .t) (.pagg .t))) r2 qz qZ))) V [36,5,4,3,2] QN fun O=>?_))))
 refine Zb O Z (fun hc4=>?_) (fun hc4=>?_)
 ·have hg:=Ztm hr hrt hik hnd KE
  refine Ya (rZ O (qf (oB [] [.slice none 0 0,.slice none 0 0] [(0,1),(1,1)] .nil) trivial qz (qs 2 103 r2 r1 (qI qZ))) V J3 QN fun O=>(Yh (Zd ?_)))
  refine ZU hfr O Z (.cl 103 true 2 Z Z (.tmp Z .nil)) (.two KD (.int Wr))
 have hg:=ZsL hs.2 hr hrt hik hnd KE
 refine Yd (Za (Ya (Zr O (qg 0 101 r1 r1 (qa 101 r1 r1 (qe 3 102 r1 r1 (qf (oP (ZqA g.txs t ow) func133 (Args.two .t (.pagg .t))) r2 qz (qg 1 101 r1 r1 (qa 101 r1 r1 (qe 3 102 r1 r1 (qf (oP (Zet g.orders t hs.2 ht) func134 (Args.two .t (.pagg .t))) r2 qz (qf (oB [(0,.tmp 41),(1,.tmp 45)] [.slice none 0 0,.slice none 0 0] [(0,1),(1,1)] (.one Z .t Zaf kr (.one Z .t Zaf kr .nil))) r2 qz (qs 2 103 r2 r1 (qI qZ))))))))))) V Jf QN Z Z fun a w F O=>?_)))
 have O:=Xt
 refine Za (Yh (ZU hfr O Z (.cl 103 true 2 Z Z (.tmp Z .nil)) (.two KD (.int Wr))))
theorem Zli (g:Zw) (id:Int) (hs:Za8 g):FnP prog 70 [.agg (Zi g),.int .i64 id] (.tup [.agg (Zi (Zbu g id).1),.int .i64 (Zbu g id).2]):=by
 refine FnP.mk func70 Z ntmps70 Z fun B a w F V hfr O=>?_
 have hsl:=hs.1.1
 refine Ya (rS O (qx 101 r1 (qf (oH [.slice none 0 0,.slice none 0 0] 102) trivial qz (qI qZ))) V Js QI fun τ O=>?_)
 have O:=X1
 generalize τ 2=v2,τ 4=v4 at O
 refine Za (Ya (Ya (rZ O (qe 2 101 r1 r1 (qf (oP (ZaW g hs) func128 (Args.one (.pagg .t))) r1 qz (qf (ZW .t) r1 qz qZ))) V [13,5,4,2,1] QI fun O=>?_)))
 refine Zb O Z (fun hc0=>?_) (fun hc0=>?_)
 ·have hr:¬ ZG g:=Wz
  have hg:=ZuU (id:=id) hr
  refine Ya (rZ O (qf (oB [] [.slice none 0 0,.slice none 0 0] [(0,1),(1,1)] .nil) trivial qz (qs 2 102 r2 r1 (qI qZ))) V Js QI fun O=>(Yh (Zd ?_)))
  refine ZU hfr O Z (.cl 102 true 2 Z Z (.tmp Z .nil)) (.two KD (.int Wr))
 have hr:ZG g:=Wz
 refine Yd (Za (Ya (Ya (rS O (qe 2 101 r1 r1 (qR rr (qf (oP (Zc0 g id hs.1) func12 (Args.two (.pagg .t) .t)) r2 qz (qR rr (qf (o_extract .t Z) r1 qz (qf (o_extract .t Z) r1 qz (qf (oH [.int .i64 0,.bool false,.slice none 0 0] 103) trivial qz (qf (oA 3 103 .same (.conv .t .agg)) r2 r1 (qO rr qZ))))))))) V [7,5,4,2,1] QJ fun τ O=>?_))))
 have O:=X0
 generalize τ 6=v6 at O
 refine Za (Ya (rZ O (qR rr (qf (ZW .t) r1 qz qZ)) V [22,5,4,2,1] QJ fun O=>?_))
 refine Zb O Z (fun hc1=>?_) (fun hc1=>?_)
 ·have hg:=ZuL (id:=id) hr (by rw [← Zew];simpa using hc1)
  refine Ya (rZ O (qf (oB [] [.slice none 0 0,.slice none 0 0] [(0,1),(1,1)] .nil) trivial qz (qs 2 102 r2 r1 (qI qZ))) V Js QJ fun O=>(Yh (Zd ?_)))
  refine ZU hfr O Z (.cl 102 true 2 Z Z (.tmp Z .nil)) (.two KD (.int Wr))
 have hik:isK TxD.id id g.txs=true:=by rw [← Zew];simpa using hc1
 refine Yd (Za (Ya (Ya (rZ O (qe 2 101 r1 r1 (qR rr (qf (oB [(0,.tmp 25)] [.int .i64 0,.bool false,.slice none 0 0] [(0,1),(1,1),(2,1)] (.one Z .t one_int kr .nil)) r1 qz (qf (oP (Zj4 g (Zey id) hs.1 (by simp [Zey])) func135 (Args.two (.pagg .t) (.conv (.pagg .t) (Ent.paggLe (l:=[.int .i64 id,.bool false,.is (.slice none 0 0)]) (l':=[.int .i64 id,.bool false,.sl rOp []]) ⟨Zay.refl,Zay.refl,Zay.nilSl,tv⟩)))) r2 qz qZ)))) V [27,5,4,2,1] QJ fun O=>?_))))
 refine Zb O Z (fun hc2=>?_) (fun hc2=>?_)
 ·have hg:=ZuG (id:=id) hr hik WD
  refine Ya (rZ O (qf (oB [] [.slice none 0 0,.slice none 0 0] [(0,1),(1,1)] .nil) trivial qz (qs 2 102 r2 r1 (qI qZ))) V Js QJ fun O=>(Yh (Zd ?_)))
  refine ZU hfr O Z (.cl 102 true 2 Z Z (.tmp Z .nil)) (.two KD (.int Wr))
 have hud:Zhm g (Zey id)=false:=WD
 refine Yd (Za (Ya (rZ O (qC qZ) V [8,5,4,2,1] QJ fun O=>(Ya (Ya ?_)))))
 refine rZ O (qg 0 101 r1 r1 (qa 101 r1 r1 (qu YbR r1 (qJ qZ)))) V Gd QJ fun O=>Ye ?_
 replace O:=O.fresh 50 rfl
 replace O:=O.turn 50 Z (Zas (T:=36) (sz:=3) (R:=rTx))
 refine Zh (σ:=(Nat)×(Value)×(List TxD)) [1,2,4,5,30,31] [0,101,102,103] (fun s=>[(32,.pv (.int .i64 (s.1:Int))),(8,.pv (.is s.2.1))]) (fun s=>[(50,.ob (.val s.2.1) (ZM 36 3 rTx s.2.2))]) (fun s=>s.1≤g.txs.length∧(s.2.2=((g.txs.take s.1).filter fun x=>!decide (x.id=id)))) (fun s=>g.txs.length - s.1) ((0),(.slice none 0 0),([])) O ⟨rfl,rfl,rfl,rfl,rfl,rfl,rfl,rfl,tv⟩ ⟨rfl,rfl,rfl,rfl,rfl,tv⟩ ⟨Yo _,rfl⟩ ?_
 clear O;intro s a w F hC O
 obtain ⟨i,v,out⟩:=s
 have hC:=X3
 obtain ⟨F,O⟩:=O.nM Gd J1
 have O:=X2
 obtain ⟨hi,hq⟩:=hC
 have hol:out.length≤i:=KV
 refine Ya (rZ O (qL r2) V XaI J1 fun O=>Ya ?_)
 refine Zb O Z (fun hc3=>?_) (fun hc3=>?_)
 ·have hil:i<g.txs.length:=WV
  refine Yd (Za (Ya (Ye (Ya (rS O (qy 3 YbR r2 (qf (oR true 3 .t) r1 qz (qf (oH [.int .i64 0,.bool false,.slice none 0 0] 104) trivial qz (qS 3 104 r2 r1 qZ)))) V [32,31,30,10,8,5,4,2,1] Je fun τ O=>?_)))))
  have O:=X0
  generalize τ 10=v10 at O
  try simp only [Yf] at O
  refine Za (Ya (rZ O (qg 0 104 r1 r1 (qa 104 r1 r1 (qR rr (qf (o_neq .t .t) r2 qz qZ)))) V [39,32,31,30,10,8,5,4,2,1] Je fun O=>?_))
  refine Zb O Z (fun hc4=>?_) (fun hc4=>?_)
  ·have hst9:out ++ [(Nn g.txs i)] = ((g.txs.take (i+1)).filter fun x=>!decide (x.id=id)):=by rw [ZN hil,Y5,← hq,Yac KE];rfl
   refine rS O (qR rr (qe 3 104 r1 r1 (qf (o_buildSliceE (sz:=3) (zs:=[.int .i64 0,.bool false,.slice none 0 0]) (r:=[(0,.tmp 41)]) (l:=[_,_,_]) YbR kr kr kr kr Z Z (.agg Z .t kr kr .nil) Z) r1 qz (qf (o_append (sz:=3) (bs:=40) 50 (.mk' YbR kr kr) Wt .is (.arr (l':=[(Nn g.txs i)]) .t) Wx We) ⟨rfl,rfl,tv⟩ ⟨rfl,tv⟩ (qO rr qZ))))) V Gd Je fun τ O=>?_
   have O:=X0
   generalize τ 43=v43 at O
   refine Zf (Za (rZ O (qp r1 (qR rr qZ)) V Gd Je fun O=>?_))
   replace O:=O.eI 32 i
   obtain ⟨F,O⟩:=O.nM [31,30,5,4,2,1,8,32] [103,102,101,0,50]
   exact ⟨((i+1),_,_),F,⟨ow,hst9⟩,O,ow⟩
  have hst9:out=((g.txs.take (i+1)).filter fun x=>!decide (x.id=id)):=by rw [ZN hil,Y5,← hq,Yad KE,YbG,YF]
  refine Yd (Zf (Za (rZ O (qp r1 (qR rr qZ)) V Gd Je fun O=>?_)))
  replace O:=O.eI 32 i
  obtain ⟨F,O⟩:=O.nM [31,30,5,4,2,1,8,32] [103,102,101,0,50]
  exact ⟨((i+1),_,_),F,⟨ow,hst9⟩,O,ow⟩
 have hil:i=g.txs.length:=WV
 have hout:out=g.txs.filter fun x=>!decide (x.id=id):=Q8
 subst hout
 have hg:=ZuH (id:=id) hs.2 hr hik hud
 refine Ym (Ze (Ze (Zk (Za (Ya ?_)))))
 obtain ⟨F,O⟩:=O.give 50 8 Z rfl
 obtain ⟨F,O⟩:=O.nM XaI QJ
 refine rZ O (qR rr (qg 1 101 r1 r1 (qa 101 r1 r1 (qR rr (qf (oB [(0,.tmp 48)] [.int .i64 0,.bool false,.slice none 0 0] [(0,1),(1,1),(2,1)] (.one Z .t one_int kr .nil)) r1 qz (qf (oP (Zet g.orders (Zey id) hs.2 (by simp [Zey])) func134 (Args.two .t (.conv (.pagg .t) (Ent.paggLe (l:=[.int .i64 id,.bool false,.is (.slice none 0 0)]) (l':=[.int .i64 id,.bool false,.sl rOp []]) ⟨Zay.refl,Zay.refl,Zay.nilSl,tv⟩)))) r2 qz (qf (oB [(0,.tmp 45),(1,.tmp 50)] [.slice none 0 0,.slice none 0 0] [(0,1),(1,1)] (.one Z .t Zaf kr (.one Z .t Zaf kr .nil))) r2 qz (qs 2 102 r2 r1 (qI qZ))))))))) V Jf QJ fun O=>Yh ?_
 refine ZU hfr O Z (.cl 102 true 2 Z Z (.tmp Z .nil)) (.two KD (.int Wr))
theorem Zk4 (g:Zw) (o:OrdD) (hs:Za8 g) (ho:o.txs.length≤1000):FnP prog 72 [.agg (Zi g),.agg (Zp o)] (.tup [.agg (Zi (ZcL g o).1),.int .i64 (ZcL g o).2]):=by
 refine FnP.mk func72 Z ntmps72 Z fun B a w F V hfr O=>?_
 have hso:=hs.2.1
 refine Ya (rS O (qx 101 r1 (qx 102 r1 (qf (oH [.slice none 0 0,.slice none 0 0] 103) trivial qz (qI qZ)))) V J3 QJ fun τ O=>?_)
 have O:=X1
 generalize τ 2=v2,τ 3=v3,τ 4=v4 at O
 refine Za (Ya (Ya (rZ O (qe 2 101 r1 r1 (qf (oP (ZaW g hs) func128 (Args.one (.pagg .t))) r1 qz (qf (ZW .t) r1 qz qZ))) V [9,5,4,3,2] QJ fun O=>?_)))
 refine Zb O Z (fun hc0=>?_) (fun hc0=>?_)
 ·have hr:¬ ZG g:=Wz
  have hg:ZcL g o=(Zbq,5):=ZpM hr
  refine Ya (rZ O (qf (oB [] [.slice none 0 0,.slice none 0 0] [(0,1),(1,1)] .nil) trivial qz (qs 2 103 r2 r1 (qI qZ))) V J3 QJ fun O=>(Yh (Zd ?_)))
  refine ZU hfr O Z (.cl 103 true 2 Z Z (.tmp Z .nil)) (.two KD (.int Wr))
 have hr:ZG g:=Wz
 refine Yd (Za (Ya (rZ O (qe 2 101 r1 r1 (qg 0 102 r1 r1 (qa 102 r1 r1 (qf (oP (Zeb g o.key) func20 (Args.two (.pagg .t) .t)) r2 qz (qO rr qZ))))) V Xa6 QJ fun O=>(Ya (Ya ?_)))))
 refine rZ O (qR rr (qu YbT r1 (qf (o_eql .t qi) r1 qz qZ))) V [17,6,5,4,3,2] QJ fun O=>?_
 refine Zb O Z (fun hc1=>?_) (fun hc1=>?_)
 ·have hg:ZcL g o=(Zbq,3):=Zpl hr WE
  refine Ya (rZ O (qf (oB [] [.slice none 0 0,.slice none 0 0] [(0,1),(1,1)] .nil) trivial qz (qs 2 103 r2 r1 (qI qZ))) V Xa6 QJ fun O=>(Yh (Zd ?_)))
  refine ZU hfr O Z (.cl 103 true 2 Z Z (.tmp Z .nil)) (.two KD (.int Wr))
 have hgn:(getO g.orders o.key)≠[]:=WE
 have hwl:=Zi7 hs.2 o.key
 refine Yd (Za (Ya (Ya (rZ O (qR rr (qg 1 102 r1 r1 (qa 102 r1 r1 (qf (oP (ZmM (getO g.orders o.key) o.txs) func136 (Args.two .t .t)) r2 qz (qf (ZW .t) r1 qz qZ))))) V [23,5,4,3,2] QJ fun O=>?_))))
 refine Zb O Z (fun hc2=>?_) (fun hc2=>?_)
 ·have hp:¬ (getO g.orders o.key).Perm o.txs:=WD
  have hru:Zi5 o (getO g.orders o.key)=([],8):=Yb hp
  have hg:ZcL g o=(Zbq,8):=by have:=Zo9 (rule:=Zi5 o) hr hgn (by rw [hru];decide);rw [hru] at this;exact this
  refine Ya (rZ O (qf (oB [] [.slice none 0 0,.slice none 0 0] [(0,1),(1,1)] .nil) trivial qz (qs 2 103 r2 r1 (qI qZ))) V J3 QJ fun O=>(Yh (Zd ?_)))
  refine ZU hfr O Z (.cl 103 true 2 Z Z (.tmp Z .nil)) (.two KD (.int Wr))
 have hp:(getO g.orders o.key).Perm o.txs:=WD
 have hru:Zi5 o (getO g.orders o.key)=(o.txs,0):=Yg hp
 have hg:ZcL g o=(⟨g.txs,putGR OrdD.key o g.orders (decide (o.txs = []))⟩,0):=by have:=Zo3 (rule:=Zi5 o) hr hgn (by rw [hru]) (by rw [hru];intro e;have e:o.txs = []:=e;rw [e] at hp;exact hgn hp.eq_nil);rw [hru] at this;exact this
 refine Yd (Za (Ya (Zr O (qg 0 101 r1 r1 (qa 101 r1 r1 (qg 1 101 r1 r1 (qa 101 r1 r1 (qe 2 102 r1 r1 (qf (oP (Zeg g.orders o ow) func137 (Args.two .t (.pagg .t))) r2 qz (qf (oB [(0,.tmp 26),(1,.tmp 30)] [.slice none 0 0,.slice none 0 0] [(0,1),(1,1)] (.one Z .t Zaf kr (.one Z .t Zaf kr .nil))) r2 qz (qs 2 103 r2 r1 (qI qZ))))))))) V Jf QJ Z Z fun a w F O=>?_)))
 have O:=Xt
 refine Za (Yh (ZU hfr O Z (.cl 103 true 2 Z Z (.tmp Z .nil)) (.two KD (.int Wr))))
theorem ZoM (g:Zw) (key id place:Int) (hs:Za8 g):FnP prog 73 [.agg (Zi g),.int .i64 key,.int .i64 id,.int .i64 place] (.tup [.agg (Zi (ZkL g key id place).1),.int .i64 (ZkL g key id place).2]):=by
 refine FnP.mk func73 Z ntmps73 Z fun B a w F V hfr O=>?_
 have hso:=hs.2.1
 refine Ya (rS O (qx 101 r1 (qf (oH [.slice none 0 0,.slice none 0 0] 102) trivial qz (qI qZ))) V [9,8,4,3,2,1] QI fun τ O=>?_)
 have O:=X1
 generalize τ 4=v4,τ 8=v8 at O
 refine Za (Ya (Ya (rZ O (qe 2 101 r1 r1 (qf (oP (ZaW g hs) func128 (Args.one (.pagg .t))) r1 qz (qf (ZW .t) r1 qz qZ))) V [15,9,8,4,3,2,1] QI fun O=>?_)))
 refine Zb O Z (fun hc0=>?_) (fun hc0=>?_)
 ·have hr:¬ ZG g:=Wz
  have hg:ZkL g key id place=(Zbq,5):=ZpM hr
  refine Ya (rZ O (qf (oB [] [.slice none 0 0,.slice none 0 0] [(0,1),(1,1)] .nil) trivial qz (qs 2 102 r2 r1 (qI qZ))) V [9,8,4,3,2,1] QI fun O=>(Yh (Zd ?_)))
  refine ZU hfr O Z (.cl 102 true 2 Z Z (.tmp Z .nil)) (.two KD (.int Wr))
 have hr:ZG g:=Wz
 have hwl:=Zi7 hs.2 key
 refine Yd (Za (Ya (rZ O (qe 2 101 r1 r1 (qR rr (qf (oP (Zeb g key) func20 (Args.two (.pagg .t) .t)) r2 qz (qO rr qZ)))) V [10,9,8,4,3,2,1] QI fun O=>(Ya (Ya ?_)))))
 refine rZ O (qR rr (qu YbT r1 (qf (o_eql .t qi) r1 qz qZ))) V [22,10,9,8,4,3,2,1] QI fun O=>?_
 refine Zb O Z (fun hc1=>?_) (fun hc1=>?_)
 ·have hg:ZkL g key id place=(Zbq,3):=Zpl hr WE
  refine Ya (rZ O (qf (oB [] [.slice none 0 0,.slice none 0 0] [(0,1),(1,1)] .nil) trivial qz (qs 2 102 r2 r1 (qI qZ))) V [10,9,8,4,3,2,1] QI fun O=>(Yh (Zd ?_)))
  refine ZU hfr O Z (.cl 102 true 2 Z Z (.tmp Z .nil)) (.two KD (.int Wr))
 have hgn:(getO g.orders key)≠[]:=WE
 refine Yd (Za (Ya (rZ O (qR rr (qR rr (qR rr (qf (oP (ZqY (getO g.orders key) id place ow) func138 (Args.three .t .t .t)) r3 qz (qR rr (qf (o_extract .t Z) r1 qz (qf (o_extract .t Z) r1 qz (qO rr (qO rr qZ))))))))) V [12,11,9,8,4,1] QI fun O=>(Ya (Ya ?_)))))
 refine rZ O (qR rr (qf (o_neq .t qi) r1 qz qZ)) V [32,12,11,9,8,4,1] QI fun O=>?_
 refine Zb O Z (fun hc2=>?_) (fun hc2=>?_)
 ·have hg:ZkL g key id place=(Zbq,(ZcB (getO g.orders key) id place).2):=Zo9 (rule:=fun l=>ZcB l id place) hr hgn WD
  refine Ya (rZ O (qf (oB [] [.slice none 0 0,.slice none 0 0] [(0,1),(1,1)] .nil) trivial qz (qR rr (qs 2 102 r2 r1 (qO rr qZ)))) V [11,9,8,4,1] QI fun O=>(Yh (Zd ?_)))
  refine ZU hfr O Z (.cl 102 true 2 Z Z (.tmp Z .nil)) (.two KD (.int Wr))
 have hm0:(ZcB (getO g.orders key) id place).2=0:=WD
 have hg:ZkL g key id place=(⟨g.txs,putGR OrdD.key ⟨key,(ZcB (getO g.orders key) id place).1⟩ g.orders (decide ((ZcB (getO g.orders key) id place).1 = []))⟩,0):=Zo3 (rule:=fun l=>ZcB l id place) hr hgn hm0 (fun e=>hgn (by have hp:=Zj7 hm0;rw [e] at hp;exact hp.symm.eq_nil))
 refine Yd (Za (Ya (Zr O (qg 0 101 r1 r1 (qa 101 r1 r1 (qg 1 101 r1 r1 (qa 101 r1 r1 (qR rr (qR rr (qf (oB [(0,.tmp 39),(1,.tmp 40)] [.int .i64 0,.slice none 0 0] [(0,1),(1,1)] (.one Z .t one_int kr (.one Z .t Zaf kr .nil))) r2 qz (qf (oP (Zeg g.orders ⟨key,(ZcB (getO g.orders key) id place).1⟩ ow) func137 (Args.two .t (.pagg .t))) r2 qz (qf (oB [(0,.tmp 36),(1,.tmp 42)] [.slice none 0 0,.slice none 0 0] [(0,1),(1,1)] (.one Z .t Zaf kr (.one Z .t Zaf kr .nil))) r2 qz (qs 2 102 r2 r1 (qI qZ))))))))))) V [9,8] QI Z Z fun a w F O=>?_)))
 have O:=Xt
 refine Za (Yh (ZU hfr O Z (.cl 102 true 2 Z Z (.tmp Z .nil)) (.two KD (.int Wr))))
theorem ZpF {os:List OrdD} {ks:List Int} {t:TxD} {o:OrdD} (h:o ∈ Zeu t os ks):o ∈ os∨o.txs = []:=by
 unfold Zeu at h
 split at h
 ·have key:∀ (ks:List Int) (os:List OrdD),o ∈ ks.foldl Zjz os→o ∈ os∨o.txs = []:=by
   intro ks
   induction ks with
   | nil=>intro os h;exact .inl h
   | cons k ks ih=>
    intro os h
    rcases ih _ h with h | h
    ·rcases Zmm h with h | h
     ·exact .inl h
     ·exact .inr (by rw [h])
    ·exact .inr h
  exact key ks os h
 ·exact .inl h
theorem Zts (g:Zw) (e:EdD) (hs:Za8 g) (he:Zfu e):FnP prog 30 [.agg (Zi g),.agg (rEd e)] (.tup [.agg (Zi (doH g e).1),.int .i64 (doH g e).2]):=by
 refine FnP.mk func30 Z ntmps30 Z fun B a w F V hfr O=>Ya ?_
 refine rS O (qx 101 r1 (qx 102 r1 (qf (oH [.slice none 0 0,.slice none 0 0] 103) trivial qz (qI qZ)))) V J3 QJ fun τ O=>?_
 have O:=XQ
 generalize τ 2=v2,τ 3=v3,τ 4=v4 at O
 refine Za (Ya (Ya (rZ O (qg 0 102 r1 r1 (qa 102 r1 r1 qZ)) V [7,5,4,3,2] QJ fun O=>(Ye (Ya ?_)))))
 refine rZ O (qf (o_eql .t qi) r1 qz (qO rr qZ)) V [8,7,5,4,3,2] QJ fun O=>?_
 refine Zb O Z (fun hc0=>?_) (fun hc0=>?_)
 ·have hg:doH g e=ZbH g e.t:=by unfold doH;rw [Yg Wz]
  refine Ya (rZ O (qe 2 101 r1 r1 (qg 1 102 r1 r1 (qf (oL true 3 102 .adr) r1 r1 (qf (oP (ZlX g e.t hs (by have:=he.1;omega)) func69 (Args.two (.pagg .t) (.pagg .t))) r2 qz (qf (o_extract .t Z) r1 qz (qf (o_extract .t Z) r1 qz (qf (oA 2 103 .is (.conv .t .agg)) r2 r1 (qO rr qZ)))))))) V Jf QJ fun O=>(Yh (Zl (Zd ?_))))
  refine ZU hfr O Z (.cl 103 true 2 Z Z (.tmp Z .nil)) (.two KD (.int Wr))
 have k0:¬ e.kind=0:=Wz
 refine Ya (rZ O (qf (o_eql .t qi) r1 qz (qO rr qZ)) V [16,7,5,4,3,2] QJ fun O=>?_)
 refine Zb O Z (fun hc1=>?_) (fun hc1=>?_)
 ·have hg:doH g e=Zbu g e.t.id:=by unfold doH;rw [Yb k0,Yg WE]
  refine Ya (rZ O (qe 2 101 r1 r1 (qg 1 102 r1 r1 (qf (oF 0 102 .adr) r1 r1 (qa 102 r1 r1 (qf (oP (Zli g e.t.id hs) func70 (Args.two (.pagg .t) .t)) r2 qz (qf (o_extract .t Z) r1 qz (qf (o_extract .t Z) r1 qz (qf (oA 2 103 .is (.conv .t .agg)) r2 r1 (qO rr qZ))))))))) V Jf QJ fun O=>(Yh (Zl (Zd ?_))))
  refine ZU hfr O Z (.cl 103 true 2 Z Z (.tmp Z .nil)) (.two KD (.int Wr))
 have k1:¬ e.kind=1:=WE
 refine Ya (rZ O (qf (o_eql .t qi) r1 qz (qO rr qZ)) V [25,7,5,4,3,2] QJ fun O=>?_)
 refine Zb O Z (fun hc2=>?_) (fun hc2=>?_)
 ·have hg:doH g e=ZcK g e.t:=by unfold doH;rw [Yb k0,Yb k1,Yg WD]
  refine Ya (rZ O (qe 2 101 r1 r1 (qg 1 102 r1 r1 (qf (oL true 3 102 .adr) r1 r1 (qf (oP (Zoe g e.t hs (by have:=he.1;omega)) func71 (Args.two (.pagg .t) (.pagg .t))) r2 qz (qf (o_extract .t Z) r1 qz (qf (o_extract .t Z) r1 qz (qf (oA 2 103 .is (.conv .t .agg)) r2 r1 (qO rr qZ)))))))) V Jf QJ fun O=>(Yh (Zl (Zd ?_))))
  refine ZU hfr O Z (.cl 103 true 2 Z Z (.tmp Z .nil)) (.two KD (.int Wr))
 have k2:¬ e.kind=2:=WD
 refine Ya (rZ O (qf (o_eql .t qi) r1 qz (qO rr qZ)) V [33,7,5,4,3,2] QJ fun O=>?_)
 refine Zb O Z (fun hc3=>?_) (fun hc3=>?_)
 ·have hg:doH g e=ZcL g e.o:=by unfold doH;rw [Yb k0,Yb k1,Yb k2,Yg WS]
  refine Ya (rZ O (qe 2 101 r1 r1 (qg 4 102 r1 r1 (qf (oL true 2 102 .adr) r1 r1 (qf (oP (Zk4 g e.o hs (by have:=he.2;omega)) func72 (Args.two (.pagg .t) (.pagg .t))) r2 qz (qf (o_extract .t Z) r1 qz (qf (o_extract .t Z) r1 qz (qf (oA 2 103 .is (.conv .t .agg)) r2 r1 (qO rr qZ)))))))) V Jf QJ fun O=>(Yh (Zl (Zd ?_))))
  refine ZU hfr O Z (.cl 103 true 2 Z Z (.tmp Z .nil)) (.two KD (.int Wr))
 have k3:¬ e.kind=3:=WS
 refine Ya (rZ O (qf (o_eql .t qi) r1 qz (qO rr qZ)) V [41,5,4,3,2] QJ fun O=>?_)
 refine Zb O Z (fun hc4=>?_) (fun hc4=>?_)
 ·have hg:doH g e=ZkL g e.o.key e.t.id e.place:=by unfold doH;rw [Yb k0,Yb k1,Yb k2,Yb k3,Yg KE]
  refine Ya (rZ O (qe 2 101 r1 r1 (qg 4 102 r1 r1 (qf (oF 0 102 .adr) r1 r1 (qa 102 r1 r1 (qg 1 102 r1 r1 (qf (oF 0 102 .adr) r1 r1 (qa 102 r1 r1 (qg 6 102 r1 r1 (qa 102 r1 r1 (qf (oP (ZoM g e.o.key e.t.id e.place hs) func73 (Args.four (.pagg .t) .t .t .t)) r4 qz (qf (o_extract .t Z) r1 qz (qf (o_extract .t Z) r1 qz (qf (oA 2 103 .is (.conv .t .agg)) r2 r1 (qO rr qZ)))))))))))))) V Jf QJ fun O=>(Yh (Zl (Zd ?_))))
  refine ZU hfr O Z (.cl 103 true 2 Z Z (.tmp Z .nil)) (.two KD (.int Wr))
 have hg:doH g e=(Zbq,5):=by unfold doH;rw [Yb k0,Yb k1,Yb k2,Yb k3,Yb KE]
 refine Yd (Zf (Za (Ya (rZ O (qf (oB [] [.slice none 0 0,.slice none 0 0] [(0,1),(1,1)] .nil) trivial qz (qs 2 103 r2 r1 (qI qZ))) V Jf QJ fun O=>Yh ?_))))
 refine ZU hfr O Z (.cl 103 true 2 Z Z (.tmp Z .nil)) (.two KD (.int Wr))
theorem Zrc (e:EdD):FnP prog 47 [.agg (rEd e)] (.bool (decide (Zfu e))):=by
 refine FnP.mk func47 Z ntmps47 Z fun B a w F V hfr O=>Ya ?_
 refine rS O (qx 101 r1 qB) V J5 QK fun τ O=>?_
 have O:=XQ
 generalize τ 1=v1 at O
 refine Za (Ya (rZ O (qg 1 101 r1 r1 (qf (oF 2 101 .adr) r1 r1 (qa 101 r1 r1 (qu YbU r1 (qf (Zh1 .t qi) r1 qz (qR rr (qv 4 101 Z r2 r1 (qk Z (fun h=>oF 1 101 (.w h .adr)) r2 r1 (qw 101 Z r2 r1 (qk Z (fun h=>Zbp YbT (.w h)) r2 qz (qk Z (fun h=>Zh1 (.w h) qi) r2 qz (qf (ZF .t .t) r2 qz (qO rr qZ))))))))))))) V [2] QK fun O=>Yh ?_))
 refine Zx hfr O Z Z Z (.bool (by rw [Yaa,Yj,Yx,Yj,Yj];unfold Zfu;omega))
instance (l:List TxD):Decidable (Za3 l):=by unfold Za3;exact inferInstance
instance (l:List OrdD):Decidable (ZbS l):=by unfold ZbS;exact inferInstance
instance (g:Zw):Decidable (Za8 g):=by unfold Za8;exact inferInstance
end Go.Proofs.YtfecljadegkmdaaGreat
