/- Laws and walks. No condition beyond what each says. -/
import Derived.Test.YtfecljadegkmdaaGreatJ7
namespace Go.Proofs.YtfecljadegkmdaaGreat
open Go Go.Gm Tryz
set_option linter.unusedVariables false
set_option linter.unusedSimpArgs false
set_option maxHeartbeats 4000000
set_option maxRecDepth 8000
theorem ZjO (g:ZS) (hs:Zel g):FnP prog 74 [.agg (Zs g)] (.bool (decide (Zat g))):=by
 refine FnP.mk func74 Z ntmps74 Z fun B a w F V hfr O=>?_
 have hsl:=hs.1.1
 have hso:=hs.2.1
 refine Ya (Zb O (qx 101 r1 qB) V [2,1] [101,0] (fun _=>rfl) (fun _=>rfl) fun τ a w F O=>?_)
 try dsimp only [RS.sub,SF.sub,CF.sub,csub,Anc.sub,List.map,zCF,Zs,rTx,ZB,Zaq,ZG,rOp] at O
 generalize τ 1=v1 at O
 refine Za (Ya (Ya (rZ O (qg 0 101 r1 r1 (qa 101 r1 r1 (qu Ybw r1 (qf (Zas .t qi) r1 qz qZ)))) V [11,2,1] [101,0] fun O=>?_)))
 refine Zd O Z (fun hc0=>?_) (fun hc0=>?_)
 ·have hg:=Zf3 (h:=g) (by simp at hc0;omega)
  refine Ya (rZ O qB V [2,1] [101,0] fun O=>(Yi (Zk ?_)))
  refine ZP hfr O Z Z Z (.bool hg)
 have hlong:g.txs.length≤4096:=by simp at hc0;omega
 refine Yf (Za (Ya (Ya (rZ O (qg 0 101 r1 r1 (qa 101 r1 r1 (qu Ybw r1 (qJ qZ)))) V [15,14,13,2,1] [101,0] fun O=>Ye ?_))))
 refine Zo (σ:=(Nat)) [1,2,13,14] [0,101] (fun s=>[(15,.pv (.int .i64 (s:Int)))]) (fun s=>[]) (fun s=>s≤g.txs.length∧(∀ k,k<s→Znb g k)) (fun s=>g.txs.length - s) (0) O ⟨rfl,rfl,rfl,rfl,rfl,tv⟩ ⟨rfl,rfl,tv⟩ ⟨Yz _,fun k hk=>absurd hk (YR k)⟩ ?_
 clear O;intro i a w F hC O
 try dsimp only at hC
 obtain ⟨F,O⟩:=O.nM [15,14,13,2,1] [101,0]
 try dsimp only at O
 obtain ⟨hi,hq⟩:=hC
 have hxl:=fun hil:i<g.txs.length=>hs.1.at hil
 have hiw:0<i→IntKind.wrap .i64 ((i:Int) - 1)=((i - 1:Nat):Int):=fun h0=>by rw [Zc ow];omega
 refine Ya (rZ O (qL r2) V [16,15,14,13,2,1] [101,0] fun O=>Ya ?_)
 refine Zd O Z (fun hc1=>?_) (fun hc1=>?_)
 ·have hil:i<g.txs.length:=by simp at hc1;omega
  refine Yf (Za (Ya (Ye (Ya (Zb O (qR rr (qy 3 Ybw r2 (qf (oR true 3 .t) r1 qz (qf (oH [.int .i64 0,.bool false,.slice none 0 0] 102) trivial qz (qO rr (qS 3 102 r2 r1 qZ)))))) V [15,14,13,4,3,2,1] [102,101,0] (fun _=>rfl) (fun _=>rfl) fun τ a w F O=>?_)))))
  try dsimp only [RS.sub,SF.sub,CF.sub,csub,Anc.sub,List.map,Ze,xL,xM,Nat.reduceAdd,xD,xE,xT,xU,xC,xN,zCF,ldSF,Zs,rTx,ZB,Zaq,ZG,rOp] at O
  generalize τ 4=v4 at O
  try simp only [Yg] at O
  refine Za (Ya (Zq O (qR rr (qf (Zas .t qi) r1 qz (qR rr (qv 0 101 Z r2 r1 (qw 101 Z r2 r1 (qm Z Z Z Z (qk Z (fun h=>o_sub (.w h) qi) r2 qz (qk Z (fun h=>ZaS (sz:=3) (.mk Ybw kr) (by intro x;rfl) (.w h) (.w h) (by rw [hiw (by simpa using h)];omega) (by rw [hiw (by simpa using h)];omega)) r3 qz (qk Z (fun h=>oG 0 (.w h)) r2 qz (qk Z (fun h=>oR false 1 (.w h)) r2 qz (qv 0 102 Z r2 r1 (qw 102 Z r2 r1 (qk Z (fun h=>ZeG (.w h) (.w h)) r3 qz (qf (ZT .t .t) r2 qz (qR rr (qk Z (fun h=>oL true 3 102 .is) r2 r1 (qk Z (fun h=>oP (ZmC (Nn g.txs i)) func85 (Args.one (.pagg (.w h)))) r2 qz (qk Z (fun h=>o_neq (.w h) qi) r2 qz (qf (ZaQ .t .t) r2 qz (qR rr (qk Z (fun h=>oL true 2 101 .is) r2 r1 (qk Z (fun h=>oL true 3 102 .is) r2 r1 (qk Z (fun h=>oP (ZnF g (Nn g.txs i) hs.1 (by have:=hxl hil;omega)) func139 (Args.two (.pagg (.w h)) (.pagg (.w h)))) r3 qz (qk Z (fun h=>ZaA (.w h)) r2 qz (qf (ZaQ .t .t) r2 qz qZ))))))))))))))))))))))))) V [44,15,14,13,2,1] [102,101,0] Z Z fun a w F O=>?_))
  try dsimp only [List.map,xD,xE,xT,xU,ldSF,Zs,rTx,ZB,Zaq,ZG,rOp] at O
  try simp only [Yg] at O
  refine Za (Zd O Z (fun hc2=>?_) (fun hc2=>?_))
  ·have hbad:¬ Znb g i:=by
     rintro ⟨g1,g2,g3⟩
     have h9:=hc2
     by_cases hi0:0<i
     · rw [hiw hi0,Yg] at h9
       have:=g1 hi0
       simp [g2,g3] at h9
       omega
     · have hi1:i=0:=by omega
       subst hi1
       simp [g2,g3] at h9
   have hg:=Zik hil hbad
   refine Ya (rZ O qB V [15,14,13,2,1] [102,101,0] fun O=>(Yi (ZC (Zk (Zk (ZC (Zk ?_)))))))
   refine ZP hfr O Z Z Z (.bool hg)
  have hgood:Znb g i:=by
    have h9:=hc2
    by_cases hi0:0<i
    · rw [hiw hi0,Yg] at h9
      simp at h9
      exact ⟨fun _=>by omega,by omega,h9.2⟩
    · have hi1:i=0:=by omega
      subst hi1
      simp at h9
      exact ⟨fun h0=>absurd h0 (Nat.lt_irrefl 0),h9.1,h9.2⟩
  refine Yf (Zm (Za (rZ O (qp r1 (qR rr qZ)) V [15,14,13,2,1] [102,101,0] fun O=>?_)))
  replace O:=O.ent (i:=15) (s':=.pv (.int .i64 ((i+1:Nat):Int))) Z (.int (Zl ow))
  obtain ⟨F,O⟩:=O.nM [14,13,2,1,15] [101,0]
  exact ⟨(i+1),F,⟨by omega,(fun k hk=>by rcases YG (YN hk) with h9 | h9;exact hq k h9;rw [h9];exact hgood)⟩,O,by omega⟩
 have hil:i=g.txs.length:=by simp at hc1;omega
 have hall:∀ k,k<g.txs.length→Znb g k:=by rw [← hil];exact hq
 have hkn:=Zm0 hs.1
 refine Yr (Zj (Zj (Zv (Za (Ya ?_)))))
 replace O:=O.fresh 103 rfl
 refine Zb O (qe 2 101 r1 r1 (qf (Zck 103 (Zlp g hs.1) func140 Z kr (Args.one (.pagg .t)) ZeB) r1 r1 (qO rr qZ))) V [5,2,1] [103,101,0] (fun _=>rfl) (fun _=>rfl) fun τ a w F O=>?_
 try dsimp only [RS.sub,SF.sub,CF.sub,csub,Anc.sub,List.map,xD,xE,xT,xU,ldSF,Zs,rTx,ZB,Zaq,ZG,rOp] at O
 generalize τ 47=v47 at O
 replace O:=O.turn 103 Z (r':=RS.hp (HP.ex fun s:List (GE Int (List Int))×Nat=>HP.and (WrL s.1 g.txs) (mapG (fun l:List Int=>PV.sl ZG l) (fun _=>True) (fun n:Int=>Value.int .i64 n) s.1 s.2 v47))) (fun _ _ _ _ h=>h)
 obtain ⟨sm,O⟩:=O.open_ex 103 rfl
 obtain ⟨hwm,O⟩:=O.open_and 103 rfl
 obtain ⟨es,ck⟩:=sm
 try dsimp only at hwm O
 replace O:=O.turn 103 Z (r':=.ob (.val v47) (mapG (fun l:List Int=>PV.sl ZG l) (fun _=>True) (fun n:Int=>Value.int .i64 n) es ck)) (fun _ _ _ _ h=>h)
 have hgw:=ZpK hwm
 have hml:=ZpL hwm
 obtain ⟨F,O⟩:=O.nM [5,2,1] [103,101,0]
 refine Za (Ya (Ya (rZ O (qR rr (qf (Zlf 103 underlying127 .is ow) r1 r1 (qg 1 101 r1 r1 (qa 101 r1 r1 (qu Ybx r1 (qf (o_neq .t .t) r2 qz qZ)))))) V [53,5,2,1] [103,101,0] fun O=>?_)))
 refine Zd O Z (fun hc3=>?_) (fun hc3=>?_)
 ·have hg:=Zg6 (h:=g) (by simp at hc3;omega)
  refine Ya (rZ O qB V [5,2,1] [103,101,0] fun O=>(Yi (Zk ?_)))
  refine ZP hfr O Z Z Z (.bool hg)
 have hle:g.orders.length=(ZcM g.txs).length:=by simp at hc3;omega
 refine Yf (Za (Ya (Ya (rZ O (qg 1 101 r1 r1 (qa 101 r1 r1 (qu Ybx r1 (qJ qZ)))) V [57,56,55,5,2,1] [103,101,0] fun O=>Ye ?_))))
 refine Zo (σ:=(Nat)) [1,2,5,55,56] [0,101,103] (fun s=>[(57,.pv (.int .i64 (s:Int)))]) (fun s=>[]) (fun s=>s≤g.orders.length∧(∀ k,k<s→ZfE g k)) (fun s=>g.orders.length - s) (0) O ⟨rfl,rfl,rfl,rfl,rfl,rfl,tv⟩ ⟨rfl,rfl,rfl,tv⟩ ⟨Yz _,fun k hk=>absurd hk (YR k)⟩ ?_
 clear O;intro i a w F hC O
 try dsimp only at hC
 obtain ⟨F,O⟩:=O.nM [57,56,55,5,2,1] [103,101,0]
 try dsimp only at O
 obtain ⟨hi,hq⟩:=hC
 have hol:=fun hil:i<g.orders.length=>hs.2.at hil
 have hwl:=fun k=>Zez g.txs k
 have hiw:0<i→IntKind.wrap .i64 ((i:Int) - 1)=((i - 1:Nat):Int):=fun h0=>by rw [Zc ow];omega
 refine Ya (rZ O (qL r2) V [58,57,56,55,5,2,1] [103,101,0] fun O=>Ya ?_)
 refine Zd O Z (fun hc4=>?_) (fun hc4=>?_)
 ·have hil:i<g.orders.length:=by simp at hc4;omega
  refine Yf (Za (Ya (Ye (Ya (Zb O (qR rr (qy 2 Ybx r2 (qf (oR true 2 .t) r1 qz (qf (oH [.int .i64 0,.slice none 0 0] 104) trivial qz (qO rr (qS 2 104 r2 r1 qZ)))))) V [57,56,55,7,6,5,2,1] [104,103,101,0] (fun _=>rfl) (fun _=>rfl) fun τ a w F O=>?_)))))
  try dsimp only [RS.sub,SF.sub,CF.sub,csub,Anc.sub,List.map,Ze,xL,xM,Nat.reduceAdd,xD,xE,xT,xU,xC,xN,zCF,ldSF,Zs,rTx,ZB,Zaq,ZG,rOp] at O
  generalize τ 7=v7 at O
  try simp only [Yg] at O
  refine Za (Ya (Zq O (qR rr (qf (Zas .t qi) r1 qz (qR rr (qv 1 101 Z r2 r1 (qw 101 Z r2 r1 (qm Z Z Z Z (qk Z (fun h=>o_sub (.w h) qi) r2 qz (qk Z (fun h=>ZaS (sz:=2) (.mk Ybx kr) (by intro x;rfl) (.w h) (.w h) (by rw [hiw (by simpa using h)];omega) (by rw [hiw (by simpa using h)];omega)) r3 qz (qk Z (fun h=>oG 0 (.w h)) r2 qz (qk Z (fun h=>oR false 1 (.w h)) r2 qz (qv 0 104 Z r2 r1 (qw 104 Z r2 r1 (qk Z (fun h=>ZeG (.w h) (.w h)) r3 qz (qf (ZT .t .t) r2 qz (qR rr (qv 1 104 Z r2 r1 (qw 104 Z r2 r1 (qk Z (fun h=>Zco Yby (.w h)) r2 qz (qk Z (fun h=>o_eql (.w h) qi) r2 qz (qf (ZaQ .t .t) r2 qz (qR rr (qv 1 104 Z r2 r1 (qw 104 Z r2 r1 (qm Z Z Z Z (qv 0 104 Z r2 r1 (qw 104 Z r2 r1 (qk Z (fun h=>Zaw (ek:=(fun l:List Int=>PV.sl ZG l)) (z0:=([]:List Int)) 103 underlying127 (Zc3 YbA) kr (fun _ _=>Zp1) (.w h .is) (ZX.int (.w h) Z)) r3 r1 (qk Z (fun h=>oP (Zpt (Nn g.orders i).txs _ (by have:=hol hil;omega) (by rw [hgw];have:=hwl (Nn g.orders i).key;omega)) func37 (Args.two (.w h) (.w h))) r3 qz (qk Z (fun h=>ZaA (.w h)) r2 qz (qf (ZaQ .t .t) r2 qz qZ)))))))))))))))))))))))))))))) V [91,57,56,55,5,2,1] [104,103,101,0] Z Z fun a w F O=>?_))
  try dsimp only [List.map,xD,xE,xT,xU,ldSF,Zs,rTx,ZB,Zaq,ZG,rOp] at O
  try simp only [Yg] at O
  refine Za (Zd O Z (fun hc5=>?_) (fun hc5=>?_))
  ·have hbad:¬ ZfE g i:=by
     rintro ⟨g1,g2,g3⟩
     have h9:=hc5
     rw [hgw] at h9
     have g4:(Nn g.orders i).txs.length≠0:=fun e=>g2 (YS e)
     by_cases hi0:0<i
     · rw [hiw hi0,Yg] at h9
       have:=g1 hi0
       simp [g2,g3] at h9
       omega
     · have hi1:i=0:=by omega
       subst hi1
       simp [g2,g3] at h9
   have hg:=Zf1 hil hbad
   refine Ya (rZ O qB V [57,56,55,5,2,1] [104,103,101,0] fun O=>(Yi (ZC (Zk (Zk (ZC (Zk ?_)))))))
   refine ZP hfr O Z Z Z (.bool hg)
  have hgood:ZfE g i:=by
    have h9:=hc5
    rw [hgw] at h9
    by_cases hi0:0<i
    · rw [hiw hi0,Yg] at h9
      simp at h9
      exact ⟨fun _=>by omega,h9.1.2,h9.2⟩
    · have hi1:i=0:=by omega
      subst hi1
      simp at h9
      exact ⟨fun h0=>absurd h0 (Nat.lt_irrefl 0),h9.1,h9.2⟩
  refine Yf (Zm (Za (rZ O (qp r1 (qR rr qZ)) V [57,56,55,5,2,1] [104,103,101,0] fun O=>?_)))
  replace O:=O.ent (i:=57) (s':=.pv (.int .i64 ((i+1:Nat):Int))) Z (.int (Zl ow))
  obtain ⟨F,O⟩:=O.nM [56,55,5,2,1,57] [103,101,0]
  exact ⟨(i+1),F,⟨by omega,(fun k hk=>by rcases YG (YN hk) with h9 | h9;exact hq k h9;rw [h9];exact hgood)⟩,O,by omega⟩
 have hil:i=g.orders.length:=by simp at hc4;omega
 have hg:=Zi4 hlong hall ow (by rw [← hil];exact hq)
 refine Yr (Zj (Zj (Zv (Za (Ya (rZ O qB V [2] [103,101,0] fun O=>Yi ?_))))))
 refine ZP hfr O Z Z Z (.bool hg)
theorem ZkO (d:ZK):(((decide (ZY TxD.id d.was) && decide (ZY TxD.id d.now)) && decide (ZY Zr.key d.old)) && decide (ZY Zr.key d.new))=decide (ZcH d):=by
 rw [Yap]
 simp only [Yu,Yj]
 exact ⟨fun ⟨⟨⟨h1,h2⟩,h3⟩,h4⟩=>⟨h1,h2,h3,h4⟩,fun ⟨h1,h2,h3,h4⟩=>⟨⟨⟨h1,h2⟩,h3⟩,h4⟩⟩
def Zgw (d:ZK):Prop:=Zel ⟨d.was,d.old⟩∧Zel ⟨d.now,d.new⟩
theorem Zgw.ok {d:ZK} (h:Zgw d):DOk d:=by
 obtain ⟨⟨⟨h1,h2⟩,h3,h4⟩,⟨h5,h6⟩,h7,h8⟩:=h
 dsimp only at h1 h2 h3 h4 h5 h6 h7 h8
 exact ⟨⟨by omega,fun t ht=>by have:=h2 t ht;omega⟩,⟨by omega,fun t ht=>by have:=h6 t ht;omega⟩,⟨by omega,fun t ht=>by have:=h4 t ht;omega⟩,⟨by omega,fun t ht=>by have:=h8 t ht;omega⟩⟩
theorem Zj3:Zdl [.is (.slice none 0 0),.is (.slice none 0 0)] (Zs noH):=⟨.nilSl,.nilSl,tv⟩
def ZbI (g:ZS) (d:ZK):Prop:=Zel g∧Zgw d∧Zel (Zcd g d)
theorem ZbI.turn {g:ZS} {d:ZK} (h:ZbI g d):Zel (Zcd g d):=h.2.2
theorem ZbI.of {g:ZS} {d:ZK} (h1:Zel g) (h2:Zgw d) (h3:g.txs.length+d.now.length≤1000) (h4:g.orders.length+d.new.length≤1000):ZbI g d:=by
 refine ⟨h1,h2,⟨Yac Zj1 h3,fun t ht=>?_⟩,Yac Zj1 h4,fun t ht=>?_⟩
 ·rcases ZeX.1 ht with e | e
  ·exact h1.1.2 t e.1
  ·exact h2.2.1.2 t e
 ·rcases ZeX.1 ht with e | e
  ·exact h1.2.2 t e.1
  ·exact h2.2.2.2 t e
theorem Zk9.of {l:List TxD} (h:Zca l):Zk9 l:=⟨by have:=h.1;omega,fun t ht=>by have:=h.2 t ht;omega⟩
theorem ZgH.of {l:List Zr} (h:Zgc l):ZgH l:=⟨by have:=h.1;omega,fun t ht=>by have:=h.2 t ht;omega⟩
theorem ZnZ (d:ZK) (hd:DOk d):FnP prog 110 [.agg (Zah d)] (.bool (decide (ZcH d))):=by
 refine FnP.mk func110 Z ntmps110 Z fun B a w F V hfr O=>Ya ?_
 refine Zb O (qx 101 r1 qB) V [2,1] [101,0] (fun _=>rfl) (fun _=>rfl) fun τ a w F O=>?_
 try dsimp only [RS.sub,SF.sub,CF.sub,csub,Anc.sub,List.map,zCF,Zs,rTx,ZB,Zaq,ZG,rOp,Zah] at O
 generalize τ 1=v1 at O
 refine Za (Ya (rZ O (qg 0 101 r1 r1 (qa 101 r1 r1 (qf (oP (Zj8 d.was hd.was.1) func176 (Args.two .t (.conv .f (Ent.fnClos)))) r1 qz (qR rr (qv 1 101 Z r2 r1 (qw 101 Z r2 r1 (qk Z (fun h=>oP (Zj8 d.now hd.now.1) func176 (Args.two (.w h) (.conv .f (Ent.fnClos)))) r2 qz (qf (ZT .t .t) r2 qz (qR rr (qv 2 101 Z r2 r1 (qw 101 Z r2 r1 (qk Z (fun h=>oP (Zka d.old hd.old.1) func177 (Args.two (.w h) (.conv .f (Ent.fnClos)))) r2 qz (qf (ZT .t .t) r2 qz (qR rr (qv 3 101 Z r2 r1 (qw 101 Z r2 r1 (qk Z (fun h=>oP (Zka d.new hd.new.1) func177 (Args.two (.w h) (.conv .f (Ent.fnClos)))) r2 qz (qf (ZT .t .t) r2 qz (qO rr qZ))))))))))))))))))) V [2] [101,0] fun O=>Yi ?_))
 refine ZP hfr O Z Z Z (.bool (ZkO d))
theorem Znx (g:ZS) (d:ZK) (hsd:ZbI g d):FnP prog 60 [.agg (Zs g),.agg (Zah d)] (.tup [.agg (Zs (ZN g d).1),.int .i64 (ZN g d).2]):=by
 refine FnP.mk func60 Z ntmps60 Z fun B a w F V hfr O=>Ya ?_
 refine Zb O (qx 101 r1 (qx 102 r1 (qf (oH [.slice none 0 0,.slice none 0 0] 103) trivial qz (qI qZ)))) V [5,4,3,2] [103,102,101,0] (fun _=>rfl) (fun _=>rfl) fun τ a w F O=>?_
 try dsimp only [RS.sub,SF.sub,CF.sub,csub,Anc.sub,List.map,zCF,Zs,rTx,ZB,Zaq,ZG,rOp,Zah] at O
 generalize τ 2=v2,τ 3=v3,τ 4=v4 at O
 refine Za (Ya (Ye (Ya (rZ O (qe 2 101 r1 r1 (qf (oP (ZjO g hsd.1) func74 (Args.one (.pagg .t))) r1 qz (qf (ZaA .t) r1 qz (qR rr (qk Z (fun h=>oL true 4 102 .is) r2 r1 (qk Z (fun h=>oP (ZnZ d hsd.2.1.ok) func110 (Args.one (.pagg (.w h)))) r2 qz (qk Z (fun h=>ZaA (.w h)) r2 qz (qf (ZaQ .t .t) r2 qz (qO rr qZ))))))))) V [7,5,4,3,2] [103,102,101,0] fun O=>?_))))
 refine Zd O Z (fun hc0=>?_) (fun hc0=>?_)
 ·have h9:(!decide (Zat g) || !decide (ZcH d))=true:=hc0
  have hg:ZN g d=(noH,5):=by unfold ZN;rw [Yd (by rintro ⟨e1,e2⟩;rw [YX e1,YX e2] at h9;cases h9)]
  refine Ya (rZ O (qf (oB [] [.slice none 0 0,.slice none 0 0] [(0,1),(1,1)] .nil) trivial qz (qs 2 103 r2 r1 (qI qZ))) V [5,4,3,2] [103,102,101,0] fun O=>(Yi (ZC (Zk ?_))))
  refine Za4 hfr O Z (.cl 103 true 2 Z Z (.tmp Z .nil)) (.two (by rw [hg];first | exact .aggU Z Z | exact .aggLe Z Zj3) (.int (by rw [hg])))
 have h9:(!decide (Zat g) || !decide (ZcH d))=false:=hc0
 have hr:Zat g∧ZcH d:=by simpa using h9
 refine Ya (rZ O (qg 0 101 r1 r1 (qa 101 r1 r1 (qg 0 102 r1 r1 (qa 102 r1 r1 (qg 1 102 r1 r1 (qa 102 r1 r1 (qf (oP (Zpm g.txs d.was d.now (by have:=hsd.2.1.1.1.1;dsimp only at this;omega)) func111 (Args.five .t .t .t (.conv .f (Ent.fnClos)) (.conv .f (Ent.fnClos)))) r3 qz (qf (ZaA .t) r1 qz (qR rr (qv 1 101 Z r2 r1 (qw 101 Z r2 r1 (qv 2 102 Z r2 r1 (qw 102 Z r2 r1 (qv 3 102 Z r2 r1 (qw 102 Z r2 r1 (qk Z (fun h=>oP (ZoP g.orders d.old d.new (by have:=hsd.2.1.1.2.1;dsimp only at this;omega)) func112 (Args.five (.w h) (.w h) (.w h) (.conv .f (Ent.fnClos)) (.conv .f (Ent.fnClos)))) r4 qz (qk Z (fun h=>ZaA (.w h)) r2 qz (qf (ZaQ .t .t) r2 qz (qO rr qZ))))))))))))))))))) V [17,5,4,3,2] [103,102,101,0] fun O=>?_)
 refine Zd O Z (fun hc1=>?_) (fun hc1=>?_)
 ·have h9:(!ZaV TxD.id g.txs d.was d.now || !ZaV Zr.key g.orders d.old d.new)=true:=hc1
  have hg:ZN g d=(noH,17):=by unfold ZN;rw [Yc (by simp [hr]),Yd (by unfold ZfA;rw [← Bool.not_eq_true,Yu];rintro ⟨e1,e2⟩;rw [e1,e2] at h9;cases h9)]
  refine Ya (rZ O (qf (oB [] [.slice none 0 0,.slice none 0 0] [(0,1),(1,1)] .nil) trivial qz (qs 2 103 r2 r1 (qI qZ))) V [5,4,3,2] [103,102,101,0] fun O=>(Yi (ZC (Zk ?_))))
  refine Za4 hfr O Z (.cl 103 true 2 Z Z (.tmp Z .nil)) (.two (by rw [hg];first | exact .aggU Z Z | exact .aggLe Z Zj3) (.int (by rw [hg])))
 have h9:(!ZaV TxD.id g.txs d.was d.now || !ZaV Zr.key g.orders d.old d.new)=false:=hc1
 have hf:ZaV TxD.id g.txs d.was d.now=true∧ZaV Zr.key g.orders d.old d.new=true:=by simpa using h9
 have hfd:¬ ZfA g d=false:=by unfold ZfA;rw [hf.1,hf.2];simp
 refine Yf (Zm (Za (Ya (Zau O (qg 0 101 r1 r1 (qa 101 r1 r1 (qg 0 102 r1 r1 (qa 102 r1 r1 (qg 1 102 r1 r1 (qa 102 r1 r1 (qf (oP (ZlV g.txs d.was d.now (by have:=hsd.1.1.1;omega) (by have:=hsd.2.1.2.1.1;dsimp only at this;omega) (Zhk hr.1.rise.1.unl hr.2.2.1.unl hf.1)) func113 (Args.four .t .t .t (.conv .f (Ent.fnClos)))) r3 qz (qg 1 101 r1 r1 (qa 101 r1 r1 (qg 2 102 r1 r1 (qa 102 r1 r1 (qg 3 102 r1 r1 (qa 102 r1 r1 (qf (oP (Zmx g.orders d.old d.new (by have:=hsd.1.2.1;omega) (by have:=hsd.2.1.2.2.1;dsimp only at this;omega) (Zhk hr.1.rise.2.unl hr.2.2.2.2.unl hf.2)) func114 (Args.four .t .t .t (.conv .f (Ent.fnClos)))) r3 qz (qf (oB [(0,.tmp 43),(1,.tmp 50)] [.slice none 0 0,.slice none 0 0] [(0,1),(1,1)] (.one Z .t Zcc kr (.one Z .t Zcc kr .nil))) r2 qz (qf (oH [.slice none 0 0,.slice none 0 0] 104) trivial qz (qS 2 104 r2 r1 qZ))))))))))))))))) V [6,5,4] [104,103,102,101,0] (fun _=>rfl) (fun _=>rfl) fun τ a w F O=>?_))))
 try dsimp only [RS.sub,SF.sub,CF.sub,csub,Anc.sub,List.map,Ze,xL,xM,Nat.reduceAdd,xD,xE,xT,xU,xC,xN,zCF,ldSF,Zs,rTx,ZB,Zaq,ZG,rOp,Zah] at O
 generalize τ 6=v6 at O
 refine Za (Ya (Ya (rZ O (qe 2 104 r1 r1 (qf (oP (ZjO (Zcd g d) hsd.turn) func74 (Args.one (.pagg .t))) r1 qz (qf (ZaA .t) r1 qz qZ))) V [54,6,5,4] [104,103,102,101,0] fun O=>?_)))
 refine Zd O Z (fun hc2=>?_) (fun hc2=>?_)
 ·have hr2:¬ Zat (Zcd g d):=by simpa using hc2
  have hg:ZN g d=(noH,8):=by unfold ZN;rw [Yc (by simp [hr]),Yc hfd,Yc hr2]
  refine Ya (rZ O (qf (oB [] [.slice none 0 0,.slice none 0 0] [(0,1),(1,1)] .nil) trivial qz (qs 2 103 r2 r1 (qI qZ))) V [6,5,4] [104,103,102,101,0] fun O=>(Yi (Zk ?_)))
  refine Za4 hfr O Z (.cl 103 true 2 Z Z (.tmp Z .nil)) (.two (by rw [hg];first | exact .aggU Z Z | exact .aggLe Z Zj3) (.int (by rw [hg])))
 have hr2:Zat (Zcd g d):=by simpa using hc2
 have hg:ZN g d=(Zcd g d,0):=by unfold ZN;rw [Yc (by simp [hr]),Yc hfd,Yd hr2]
 refine Yf (Za (Ya (Zq O (qg 0 104 r1 r1 (qa 104 r1 r1 (qf (oP (Zqo (Zcd g d).txs (Zk9.of hsd.turn.1).1 (Zk9.of hsd.turn.1).2) func115 (Args.one .t)) r1 qz (qg 1 104 r1 r1 (qa 104 r1 r1 (qf (oP (ZnY (Zcd g d).orders (ZgH.of hsd.turn.2).1 (ZgH.of hsd.turn.2).2) func116 (Args.one .t)) r1 qz (qf (oB [(0,.tmp 58),(1,.tmp 61)] [.slice none 0 0,.slice none 0 0] [(0,1),(1,1)] (.one Z .t Zcc kr (.one Z .t Zcc kr .nil))) r2 qz (qs 2 103 r2 r1 (qI qZ))))))))) V [5,4] [104,103,102,101,0] Z Z fun a w F O=>?_)))
 try dsimp only [List.map,Ze,xL,xM,Nat.reduceAdd,xD,xE,xT,xU,xC,xN,zCF,ldSF,Zs,rTx,ZB,Zaq,ZG,rOp,Zah] at O
 refine Za (Yi (Za4 hfr O Z (.cl 103 true 2 Z Z (.tmp Z .nil)) (.two (by rw [hg];first | exact .aggU Z Z | exact .aggLe Z Zj3) (.int (by rw [hg])))))
section
variable {α:Type} {κ:α→Int}
variable [DecidableEq α]
end
section
variable {P:Program} {d:Option Nat} {ty:TypeId} {pos:String} {af:Array Edge} {g:Option (Nat×Bool)} {x y:Operand} {ps qs:List (Nat×SF)} {t:TypeId} {α:Type}
theorem ZaN {kt:TypeId} (hk:P.underlying kt=some (.int .i64)):Zli P kt (fun n:Int=>inR .i64 n) (fun n:Int=>Value.int .i64 n):=
 ⟨fun b k w _=>(Zc3 hk).check b k w tv,fun es k w _ _=>(Zc3 hk).find es k w trivial fun _ _=>trivial,(Zc3 hk).same⟩
theorem ZX.intR {n k:Int} (h:Opd x ps (.pv (.int .i64 n))) (e:n=k):ZX (fun n:Int=>inR .i64 n) (fun n:Int=>Value.int .i64 n) x ps k:=fun a w yy hp=>by
 subst e
 exact h a w yy hp
end
abbrev MPI (es:List (GE Int Int)) (ck:Nat):Value→HP:=mapG (fun c:Int=>PV.int .i64 c) (fun n:Int=>inR .i64 n) (fun n:Int=>Value.int .i64 n) es ck
end Go.Proofs.YtfecljadegkmdaaGreat
namespace Go.Proofs.YtfecljadegkmdaaGreat
open Go Go.Gm Tryz
set_option linter.unusedVariables false
set_option linter.unusedSimpArgs false
set_option maxHeartbeats 4000000
set_option maxRecDepth 8000
open Go.RowKit Go.Maps Go.Sort Go.Shelf Go.ChangeMaps Go.MapKept
def ZnA (x:Int):List Value:=[.int .i64 x]
def Zmb (x:Int):Value:=.int .i64 x
def ZqP (v:Value):Int:=match v with
 | .int _ x=>x
 | _=>0
theorem Zn2 (x:Int):ZqP (Zmb x)=x:=rfl
theorem ZnI (x:Int):∀ u ∈ [Value.int .i64 x],u.oneCell' = true:=by simp [Value.oneCell']
theorem Zmj {w:World} {y:Ys} : ∀ {l:List Int},(∀ x ∈ l,inR .i64 x)→PVs (l.flatMap ZG) (l.flatMap ZnA) w y
 | [],_=>trivial
 | x :: l,h=>⟨⟨rfl,rfl,h x (by simp)⟩,Zmj fun z hz=>h z (by simp [hz])⟩
end Go.Proofs.YtfecljadegkmdaaGreat
namespace Go.Proofs.YtfecljadegkmdaaGreat
open Go Go.Gm Tryz
set_option linter.unusedVariables false
set_option linter.unusedSimpArgs false
set_option maxHeartbeats 4000000
set_option maxRecDepth 8000
open Go.RowKit Go.Maps Go.Sort Go.Shelf Go.ChangeMaps Go.MapKept
theorem ZmF (w:World) (l:List Value) (t:TypeId):∀ j u,l[j]? = some u→(w.alloc (.cells l.toArray t)).cell? ((⟨w.heap.size,0,none⟩:Addr).add j)=some u:=by
 intro j u hj
 rw [show (⟨w.heap.size,0,none⟩:Addr).add j = ⟨w.heap.size,j,none⟩ from by cases j <;> simp [Addr.add]]
 rw [Za5 (vs:=l.toArray) (T:=t) (fr:=(0,0)) (World.alloc_heap_new w _)]
 simpa using hj
def Zei : Code := (Code.region 2 #[{ dst := some 5, op := Op.assign (Operand.tmp 7), type := 3, pos := "iter.go:51", after := #[], guard := none }] false)
def Zhd : Code := (Code.block 1 (Code.region 3 #[{ dst := some 8, op := Op.load 37 (Operand.tmp 2), type := 37, pos := "iter.go:52", after := #[], guard := none }, { dst := some 9, op := Op.move (Operand.tmp 5), type := 3, pos := "iter.go:52", after := #[], guard := none }, { dst := some 10, op := Op.buildSlice 37 1 #[(0, Operand.tmp 9)], type := 37, pos := "iter.go:52", after := #[{ on := 1, ground := Ground.data }], guard := none }, { dst := some 11, op := Op.call { callee := Callee.builtin Builtin.append, args := #[Operand.tmp 8, Operand.tmp 10], argTypes := #[37, 37] }, type := 37, pos := "iter.go:52", after := #[{ on := 0, ground := Ground.data }, { on := 2, ground := Ground.data }], guard := none }, { dst := none, op := Op.store 37 (Operand.tmp 2) (Operand.tmp 11), type := 0, pos := "iter.go:52", after := #[{ on := 3, ground := Ground.data }, { on := 3, ground := Ground.chain }, { on := 0, ground := Ground.phase }, { on := 1, ground := Ground.phase }, { on := 2, ground := Ground.phase }, { on := 3, ground := Ground.phase }], guard := none }] false))
def kcApRec (fn:FuncId) (sv:Value) (Bs D:Nat) (st:LoopState) (pend:Option Code):Loop:=
 { state:=st,pending:=pend,fn,tmps:=#[.slice none 0 0,sv,.pointer (some ⟨Bs,0,none⟩),undef,.slice none 0 0,undef,sv,undef,undef,undef,undef,undef,undef],params:=#[7],assign:=Zei,body:=Zhd,defers:=D }
structure Ziy (w0:World) (fn:FuncId) (sv:Value) (Bs l D:Nat) (ss:List Int) (W:World):Prop where
 box:∃ v,W.heap[Bs]? = some (.cells #[v] 37 (0,0))∧W.ownsRow w0.heap.size 3 1 v ss.length (ss.flatMap ZnA)∧(v = .slice none 0 0 ↔ ss = [])
 L:W.heap[l]? = some (.loop (kcApRec fn sv Bs D .ready none))
 K:W.heap[D]? = some (.deferred (some []))
 below:Below w0.heap.size w0 W
theorem ZiS (w0:World) (fn:FuncId) (sv:Value) (Bs l D B:Nat) (V:w0.heap.size≤B):AbidesFrom B (Ziy w0 fn sv Bs l D):=fun s W W' row h hg hrow=>by
 have hrow':∀ r,row=some r → ∃ o:Obj,W.heap[r]? = some o∧o.isWalk=true:=fun r e=>(hrow r e).2
 obtain ⟨v,hv,hr,hn⟩:=h.box
 exact ⟨⟨v,(grownBy_keeps hg hrow' hv rfl).trans hv,ownsRow_abides_a hr hg hrow',hn⟩,(grownBy_keeps hg hrow' h.L rfl).trans h.L,(grownBy_keeps hg hrow' h.K rfl).trans h.K,
  h.below.grown hg h.below.size (fun k e=>Yac V (hrow k e).1)⟩
set_option maxRecDepth 100000 in
set_option maxHeartbeats 2000000 in
theorem Zl1 (F:Fence) (m:Nat) (w0:World) (fn:FuncId) (hfn:F.fn fn) (sv:Value) (Bs l D:Nat) (hBl:Bs≠l) (hDl:D≠l) (hDB:D≠Bs) (h0B:w0.heap.size≤Bs) (h0l:w0.heap.size≤l)
   (N:Nat) (hN:N≤maxLen) (hNb:N*8≤140737488355328) (ss:List Int) (x:Int) (W:World) (h:Ziy w0 fn sv Bs l D ss W) (hlen:ss.length<N) :
   YieldAt F m prog l #[(.int .i64 x)] W fun e W'=>e = .returned (.bool true)∧Ziy w0 fn sv Bs l D (ss ++ [x]) W' ∧ KeepsWalks W W':=by
 have hne:37≠3:=by decide
 obtain ⟨i0,hi,hz0,hz1,hz2⟩:=info_parts (show (prog.info? 3).map (fun i=>(i.zero,i.size,i.bytes))=some (some (.int .i64 0),1,8) from by kernel_rfl)
 obtain ⟨v,hv,hrow,_⟩:=h.box
 refine ⟨fn,#[.slice none 0 0,sv,.pointer (some ⟨Bs,0,none⟩),undef,.slice none 0 0,undef,sv,(.int .i64 x),undef,undef,undef,undef,undef],Zei,Zhd,by simpa [kcApRec] using run_yield (P:=prog) (args:=#[(.int .i64 x)]) h.L rfl,roundIn_of_wpIn hfn ?_⟩
 have hl:l<W.heap.size:=(YU.1 h.L).1
 have hbr:=run_beginRound (P:=prog) h.L rfl
 obtain ⟨W2,hW2⟩:∃ W2,W.putObj l (.loop { kcApRec fn sv Bs D .ready none with state:=.busy })=W2:=⟨_,rfl⟩
 rw [hW2] at hbr
 have hg2:W.grownBy W2 (some l):=by rw [← hW2];exact grownBy_putObj_a _ _ _
 have hk2:KeepsWalks W W2:=by rw [← hW2];exact KeepsWalks.putObj _ h.L rfl
 have hv2:W2.heap[Bs]? = some (.cells #[v] 37 (0,0)):=by rw [← hW2];exact (World.putObj_heap_other hBl).trans hv
 have hK2:W2.heap[D]? = some (.deferred (some [])):=by rw [← hW2];exact (World.putObj_heap_other hDl).trans h.K
 have hL2:W2.heap[l]? = some (.loop { kcApRec fn sv Bs D .ready none with state:=.busy }):=by rw [← hW2];exact World.putObj_heap_same hl
 have hrow2:W2.ownsRow w0.heap.size 3 1 v ss.length (ss.flatMap ZnA):=hrow.kept hg2 (ownsRow_ne_a hrow h.L (fun cur e=>by first | cases e | exact hne (Ya7 e).2.1))
 have hb2:Below w0.heap.size w0 W2:=h.below.grown hg2 h.below.size (fun k e=>by cases e;exact h0l)
 obtain ⟨hc2,hf2⟩:=cell_of_box_a hv2
 have hBlt:Bs<W2.heap.size:=(YU.1 hv2).1
 have hl2:l<W2.heap.size:=(YU.1 hL2).1
 have hDlt:D<W2.heap.size:=(YU.1 hK2).1
 have ne_of:∀ {j:Nat} {o:Obj},W2.heap[j]? = some o→(∀ cur,o ≠ .cells cur 3 (0,0))→some j≠v.ownBlock:=fun hj hno=>by
   rcases ownsRow_ne_a hrow2 hj hno with e | e
   · rw [e];simp
   · exact fun e'=>e e'.symm
 clear hW2
 unfold Zei
 gi_wp2_with gi_round_op_a
 unfold Zhd
 gi_wp2_with (first
   | (gi_at_builtin;refine wpListIn_append_own _ rfl _ _ 37 rfl w0.heap.size 3 i0 (.int .i64 0) 1 8 Yby hi hz0 hz1 hz2 rfl (by decide) _ _ _ rfl (hrow2.alloc _) ⟨W2.heap.size,0,none⟩ 1 1 ([.int .i64 x]) rfl rfl (ZmF _ _ _) (ZnI x) ow ow (by have:=hb2.size;simp;omega) ?_;intro v' w3 hown' hg3 hnil3
      have hv3:w3.heap[Bs]? = some (.cells #[v] 37 (0,0)):=(hg3.block Bs (by simp;omega) (ne_of hv2 (fun cur e=>by first | cases e | exact hne (Ya7 e).2.1))).trans ((Below.heap_alloc _ _ Bs hBlt).trans hv2)
      obtain ⟨hc3,hf3⟩:=cell_of_box_a hv3
      obtain ⟨g',cap',cur',rfl,hbase',hgb',hr1,hr2,hr3,hr4⟩:∃ g' cap' cur',v' = .slice (some ⟨g',0,none⟩) (ss.length+1) cap' ∧ w0.heap.size≤g' ∧ w3.heap[g']? = some (.cells cur' 3 (0,0))∧ss.length+1≤cap' ∧ cap' ≤ maxLen∧cur'.size=cap' * 1∧cur'.toList.take ((ss.length+1)*1)=ss.flatMap ZnA ++ [.int .i64 x]:=by
        rcases hown'.2 with ⟨_,h0⟩ | h'
        · exact absurd h0 ow
        · exact h'
      go_frame)
   | gi_round_op_a)
 have hg3':(W2.alloc (.cells ([.int .i64 x]).toArray 3)).grownBy w3 v.ownBlock:=hg3
 have hL3:w3.heap[l]? = some (.loop { kcApRec fn sv Bs D .ready none with state:=.busy }):=(hg3'.block l (by simp;omega) (ne_of hL2 (fun cur e=>by first | cases e | exact hne (Ya7 e).2.1))).trans ((Below.heap_alloc _ _ l hl2).trans hL2)
 have hK3:w3.heap[D]? = some (.deferred (some [])):=(hg3'.block D (by simp;omega) (ne_of hK2 (fun cur e=>by first | cases e | exact hne (Ya7 e).2.1))).trans ((Below.heap_alloc _ _ D hDlt).trans hK2)
 obtain ⟨w4,hw4⟩:∃ w4,w3.setCell ⟨Bs,0,none⟩ (.slice (some ⟨g',0,none⟩) (ss.length+1) cap')=w4:=⟨_,rfl⟩
 rw [hw4]
 have hg4:w3.grownBy w4 (some Bs):=by rw [← hw4];exact grownBy_setCell0_a _ _ _
 have hv4:w4.heap[Bs]? = some (.cells #[.slice (some ⟨g',0,none⟩) (ss.length+1) cap'] 37 (0,0)):=by rw [← hw4];exact heap_setCell_box_a _ hv3
 have hL4:w4.heap[l]? = some (.loop { kcApRec fn sv Bs D .ready none with state:=.busy }):=(hg4.block l (YU.1 hL3).1 (fun e=>hBl (by cases e;rfl))).trans hL3
 have hK4:w4.heap[D]? = some (.deferred (some [])):=(hg4.block D (YU.1 hK3).1 (fun e=>hDB (by cases e;rfl))).trans hK3
 have hrow4:=hown'.kept hg4 (ownsRow_ne_a hown' hv3 (fun cur e=>by first | cases e | exact hne (Ya7 e).2.1))
 have hl4:l<w4.heap.size:=(YU.1 hL4).1
 have hb3:Below w0.heap.size w0 w3:=(hb2.alloc hb2.size _).grown hg3' (by have:=hb2.size;simp;omega) (fun k e=>(hrow2.lt k e).1)
 have hb4:Below w0.heap.size w0 w4:=hb3.grown hg4 hb3.size (fun k e=>by cases e;exact h0B)
 have hk4:KeepsWalks W w4:=((hk2.trans (KeepsWalks.alloc _ _)).trans (KeepsWalks.of_grownBy hg3' (ownsRow_not_walk_a (hrow2.alloc _)))).trans (by rw [← hw4];exact KeepsWalks.setCell _ _ _)
 clear hw4
 refine ⟨_,_,run_endRound none hL4,rfl,⟨⟨_,(World.putObj_heap_other hBl).trans hv4,?_,by simp⟩,World.putObj_heap_same hl4,(World.putObj_heap_other hDl).trans hK4,hb4.grown (grownBy_putObj_a _ _ _) hb4.size (fun k e=>by cases e;exact h0l)⟩,hk4.trans (KeepsWalks.putObj _ hL4 Z)⟩
 have:=hrow4.kept (grownBy_putObj_a w4 l (.loop { { kcApRec fn sv Bs D .ready none with state:=.busy } with state:=if (none:Option Code).isNone then .ready else .done,pending:=none })) (ownsRow_ne_a hrow4 hL4 (fun cur e=>by first | cases e | exact hne (Ya7 e).2.1))
 rw [List.flatMap_append,show [x].flatMap ZnA = [.int .i64 x] from rfl,Yb]
 simpa using this
set_option maxRecDepth 100000 in
set_option maxHeartbeats 2000000 in
theorem Zf2 (F:Fence) (n:Nat) (h11:F.fn 241) (hro:F.round=none) (hn:2≤n) (g:Nat) (lb:Array Value) (hFg:F.fn g) (eg:∀ args w,(callFunc g args).run prog w = .ok (.enter g args) w)
  (S:List Int→Prop) (N:Nat) (hN:N≤maxLen) (hNb:N*8≤140737488355328) (w:World) (hseq:SeqGives F (n - 1) prog g lb Zmb S N w) :
  CallsIn F n prog 241 #[.slice none 0 0,.func (.func g) #[] lb] w fun e w'=>∃ (v:Value) (ss:List Int),e = .returned v∧S ss∧w'.ownsRow w.heap.size 3 1 v ss.length (ss.flatMap ZnA)∧(v = .slice none 0 0 ↔ ss = [])∧Below w.heap.size w w':=by
 have h1:1≤n:=by omega
 have hne:37≠3:=by decide
 refine callsIn_of_wp_marks func241 Z h11 ?_ hro
 simp only [ntmps241,Yav,Yp,Yx,Nat.reduceAdd,Nat.reduceSub,Array.replicate_succ,Array.replicate_zero,List.push_toArray,List.append_toArray,Yaz,YO]
 gi_wp2
 refine wpIn_rangeFunc ?_
 intro fn hfn
 rw [hro]
 obtain ⟨W0,hW0⟩:∃ W0,w.alloc (.cells #[.slice none 0 0] 37)=W0:=⟨_,rfl⟩
 have hs0:W0.heap.size=w.heap.size+1:=by rw [← hW0];simp
 have hv0:W0.heap[w.heap.size]? = some (.cells #[.slice none 0 0] 37 (0,0)):=by rw [← hW0];exact World.alloc_heap_new w _
 have hb0:Below w.heap.size w W0:=by rw [← hW0];exact (Below.refl _ w).alloc (Yw _) _
 rw [hW0]
 obtain ⟨W1,hW1⟩:∃ W1,(W0.alloc (.deferred (some []))).alloc (.loop (kcApRec fn (.func (.func g) #[] lb) w.heap.size W0.heap.size .ready none))=W1:=⟨_,rfl⟩
 have hold:∀ k,k<W0.heap.size→W1.heap[k]? = W0.heap[k]?:=fun k hk=>by
  rw [← hW1];exact (Below.heap_alloc _ _ k (by simp;omega)).trans (Below.heap_alloc _ _ k hk)
 have hb1:Below w.heap.size w W1:=by rw [← hW1];exact (hb0.alloc hb0.size _).alloc (by have:=hb0.size;simp;omega) _
 have hs1:W1.heap.size=W0.heap.size+2:=by rw [← hW1];simp
 have hM:Ziy w fn (.func (.func g) #[] lb) w.heap.size (W0.heap.size+1) W0.heap.size [] W1:=
  ⟨⟨_,(hold w.heap.size ow).trans hv0,⟨rfl,.inl ⟨rfl,rfl⟩⟩,by simp⟩,
   by rw [← hW1];have:=World.alloc_heap_new (W0.alloc (.deferred (some []))) (.loop (kcApRec fn (.func (.func g) #[] lb) w.heap.size W0.heap.size .ready none));rwa [World.size_alloc] at this,
   by rw [← hW1];exact (Below.heap_alloc _ _ _ (by simp)).trans (World.alloc_heap_new W0 _),hb1⟩
 refine ⟨W0.heap.size+1,[{ target:=.collected W0.heap.size,args:=#[] }],W1,{ target:=.fn (.func g) lb,args:=#[.func (.yield (W0.heap.size+1)) #[] #[]] },W1,g,
  #[.func (.yield (W0.heap.size+1)) #[] #[]] ++ lb,W1,?_,?_,?_,?_,fun _=>h1,?_⟩
 ·rw [← hW1];exact run_enterLoop_outer _ _ _ _ _
 ·simp [resolve,go_sem]
 ·intro f' hf';simp [Target.leads] at hf';subst hf';exact hFg
 ·simp [invoke,go_sem,eg]
 ·refine (hseq (W0.heap.size+1) (Ziy w fn (.func (.func g) #[] lb) w.heap.size (W0.heap.size+1) W0.heap.size) W1 hb1 (ZiS _ _ _ _ _ _ _ hb1.size)
    (fun pre x W hJ hl=>Zl1 F (n - 1 - 1) w fn hfn _ w.heap.size (W0.heap.size+1) W0.heap.size ow ow ow (Yw _) ow N hN hNb pre x W hJ hl) hM).mono ?_
  rintro e W2 ⟨⟨v0,rfl⟩,ss,O,h2⟩
  obtain ⟨v,hv,hrow,hnil⟩:=h2.box
  have hend:=run_endLoop (P:=prog) h2.L (by simp [kcApRec])
  obtain ⟨W3,hW3⟩:∃ W3,W2.putObj (W0.heap.size+1) (.loop { kcApRec fn (.func (.func g) #[] lb) w.heap.size W0.heap.size .ready none with state:=.exhausted })=W3:=⟨_,rfl⟩
  rw [hW3] at hend
  have hg3:W2.grownBy W3 (some (W0.heap.size+1)):=by rw [← hW3];exact grownBy_putObj_a _ _ _
  have hv3:W3.heap[w.heap.size]? = some (.cells #[v] 37 (0,0)):=by rw [← hW3];exact (World.putObj_heap_other ow).trans hv
  have hK3:W3.heap[W0.heap.size]? = some (.deferred (some [])):=by rw [← hW3];exact (World.putObj_heap_other ow).trans h2.K
  have hrow3:=hrow.kept hg3 (ownsRow_ne_a hrow h2.L (fun cur e=>by first | cases e | exact hne (Ya7 e).2.1))
  have hb3:Below w.heap.size w W3:=h2.below.grown hg3 h2.below.size (fun k e=>by cases e;omega)
  obtain ⟨hc3,hf3⟩:=cell_of_box_a hv3
  clear hW3
  refine ⟨none,W3,hend,?_⟩
  gi_wp2
  rw [← hs0]
  refine ⟨by simp,.inl ⟨_,_,rfl,run_takeDeferred hK3,?_⟩⟩
  exact ⟨_,results_tmp rfl _ _ _,v,ss,rfl,O,hrow3.kept (grownBy_putObj_a _ _ _) (ownsRow_ne_a hrow3 hK3 (fun cur e=>by first | cases e | exact hne (Ya7 e).2.1)),hnil,hb3.grown (grownBy_putObj_a _ _ _) hb3.size (fun k e=>by cases e;omega)⟩
set_option maxHeartbeats 1000000 in
theorem ZhH (F:Fence) (n:Nat) (h8:F.fn 166) (h11:F.fn 241) (hro:F.round=none) (hn:3≤n) (g:Nat) (lb:Array Value) (hFg:F.fn g) (eg:∀ args w,(callFunc g args).run prog w = .ok (.enter g args) w)
  (S:List Int→Prop) (N:Nat) (hN:N≤maxLen) (hNb:N*8≤140737488355328) (w:World) (hseq:SeqGives F (n - 1 - 1) prog g lb Zmb S N w) :
  CallsIn F n prog 166 #[.func (.func g) #[] lb] w fun e w'=>∃ (v:Value) (ss:List Int),e = .returned v∧S ss∧w'.ownsRow w.heap.size 3 1 v ss.length (ss.flatMap ZnA)∧(v = .slice none 0 0 ↔ ss = [])∧Below w.heap.size w w':=by
 have h1:1≤n:=by omega
 have e11:∀ args w,(callFunc 241 args).run prog w = .ok (.enter 241 args) w:=enters_of func241 kr rfl
 refine callsIn_of_wp func166 Z h8 ?_ hro
 simp only [ntmps166,Yav,Yp,Yx,Nat.reduceAdd,Nat.reduceSub,Array.replicate_succ,Array.replicate_zero,List.push_toArray,List.append_toArray,Yaz,YO]
 gi_wp2_with (gi_at_fn 241;refine (Zf2 F (n - 1) h11 hro ow g lb hFg eg S N hN hNb _ hseq).mono ?_;rintro e w' ⟨v,ss,rfl,O,hrow,hnil,hb⟩)
 go_ret
 exact ⟨v,ss,rfl,O,hrow,hnil,hb⟩
end Go.Proofs.YtfecljadegkmdaaGreat
namespace Go.Proofs.YtfecljadegkmdaaGreat
open Go Go.Gm Tryz
set_option linter.unusedVariables false
set_option linter.unusedSimpArgs false
set_option maxHeartbeats 4000000
set_option maxRecDepth 8000
def Zk2 (room2:Int) (q2:List Cell) (t:Z5):St:=Zcn q2.length (allS room2 ((tList t).length+1) q2 0 (tList t))
theorem ZoA (o:Option Nat) (room:Int) (q:List Cell) (root:Int) (t0:Z5) (hr0:Rep id q t0 root) (hs:Zw t0≤1000000) (o2:Option Nat) (room2:Int) (q2:List Cell):FnG prog 186 2 [.agg [.is (arV o),.int .i64 root],.is (arV o2)] [arH o room q,arH o2 room2 q2] (.tup [.agg [.is (arV o2),.int .i64 (Zk2 room2 q2 t0).2.2],.int .i64 (Zk2 room2 q2 t0).2.1]) (fun _=>[arH o room q,arH o2 room2 (Zk2 room2 q2 t0).1]):=by
 refine FnG.mk func186 Z ntmps186 Z kr fun B F0 a w F V hG O=>?_
 have hg:(Zk2 room2 q2 t0)=Zcn q2.length (allS room2 ((tList t0).length+1) q2 0 (tList t0)):=rfl
 refine Ya (Zb O (qx 101 r1 (qf (oH [.pointer none,.int .i64 0] 102) trivial qz (qI qZ))) V [5,4,2,1] [102,101,2,1,0] (fun _=>rfl) (fun _=>rfl) fun τ a w F O=>?_)
 try dsimp only [RS.sub,SF.sub,CF.sub,csub,Anc.sub,List.map,zCF,ZW,Zx] at O
 generalize τ 2=v2,τ 4=v4 at O
 refine Za (Ya (Zb O (qR rr (qf (oP (Ziu o2) func104 (Args.one .t)) r1 qz (qf (oB [(0,.tmp 9)] [.pointer none,.int .i64 0,.int .i64 0] [(0,2),(2,1)] (.agg Z (.conv .t .agg) kr kr .nil)) r1 qz (qf (oX 103 .t) r1 qz (qO rr qZ))))) V [6,5,4,2,1] [103,102,101,2,1,0] (fun _=>rfl) (fun _=>rfl) fun τ a w F O=>?_))
 try dsimp only [RS.sub,SF.sub,CF.sub,csub,Anc.sub,List.map,Ze,xL,xM,Nat.reduceAdd,xD,xE,xT,xU,xC,xN,zCF,ZW,Zx] at O
 generalize τ 11=v11 at O
 refine Za (Ya (rZ O (qR rr (qf (o_callG1 2 (Zkg o2 room2 q2) func182 Z kr (Args.one .t)) r1 r1 (qO rr qZ))) V [7,6,5,4,2] [103,102,101,2,1,0] fun O=>Ya ?_))
 obtain ⟨b,rfl⟩:=O.shape 103 rfl
 have O:=O.fresh 4 rfl
 obtain ⟨F,O⟩:=O.push 4 2 Z Z Z kr
 obtain ⟨F,O⟩:=O.push 4 103 Z Z Z kr
 have O:=O.turn 4 Z (r':=RS.hp (Zam 242 (.pointer (some ⟨b,0,none⟩)) o2 0 0 room2 q2)) (fun _ _ _ _ h=>h)
 obtain ⟨F,O⟩:=O.nM [7,6,5,4,2] [102,101,4,1,0]
 refine rZ O (qR rr (qR rr (qe 2 101 r1 r1 (qf (o_callG1 1 (ZlE o room q root t0 hr0 hs) func56 Z kr (Args.one (.pagg .t))) r1 r1 (qf (o_callG1 4 (ZpG b o2 0 room2 ((tList t0).length+1) q2 0 (tList t0) (Nat.lt_succ_self _)) func250 Z kr (Args.two .t .t)) r2 r1 (qR rr (qf (o_callG1 4 (ZiU b o2 0 (allS room2 ((tList t0).length+1) q2 0 (tList t0)).2.1 room2 (allS room2 ((tList t0).length+1) q2 0 (tList t0)).1 (allS room2 ((tList t0).length+1) q2 0 (tList t0)).2.2 q2.length) func183 Z kr (Args.three .t .t .t)) r3 r1 (qf (o_extract .t Z) r1 qz (qf (o_extract .t Z) r1 qz (qf (oA 2 102 .is (.conv .t .agg)) r2 r1 (qO rr qZ))))))))))) V [5,4] [102,4,1,0] fun O=>Yi ?_
 obtain ⟨F,O⟩:=O.peel 4 7 Z rfl
 obtain ⟨F,O⟩:=O.peel 4 2 Z rfl
 have O:=O.turn 2 Z (r':=RS.hp (arH o2 room2 (Zk2 room2 q2 t0).1)) (fun _ _ _ _ h=>by rw [hg];exact h)
 refine ZiM hG O Z (.cl 102 true 2 Z Z (.tmp Z .nil)) (.two (.aggU Z (by first | (rw [hg];done) | (rw [hg];rfl))) (.int (by first | (rw [hg];done) | (rw [hg];rfl)))) Z rfl
def Zbd (l:List Zr):Nat:=(l.map fun o=>o.txs.length).sum
def sizeH (h:ZS):Nat:=h.txs.length+h.orders.length+Zbd h.orders
theorem sizeO_next {l:List Zr} {i:Nat} (h:i<l.length):Zbd (l.take (i+1))=Zbd (l.take i)+(Nn l i).txs.length:=by
 unfold Zbd
 rw [Z9 h,YL,YaB];simp
theorem Zn4 {l:List Zr} {n:Nat} (h:∀ o ∈ l,o.txs.length≤n):Zbd l≤n*l.length:=by
 unfold Zbd
 induction l with
 | nil=>simp
 | cons o l ih=>
  have h1:=h o Yag
  have h2:=ih fun x hx=>h x (YA _ hx)
  rw [Yy,YaC,Yp,Nat.mul_add];omega
theorem Zl5 (h:ZS) (hs:Zel h):FnP prog 61 [.agg (Zs h)] (.int .i64 ((sizeH h:Nat):Int)):=by
 refine FnP.mk func61 Z ntmps61 Z fun B a w F V hfr O=>?_
 have hl1:=hs.1.1
 have hl2:=hs.2.1
 refine Ya (Zb O (qx 101 r1 (qI qZ)) V [2,1] [101,0] (fun _=>rfl) (fun _=>rfl) fun τ a w F O=>?_)
 try dsimp only [RS.sub,SF.sub,CF.sub,csub,Anc.sub,List.map,zCF,Zs,rTx,ZB,Zaq,ZG,rOp] at O
 generalize τ 1=v1 at O
 refine Za (Ya (rZ O (qg 0 101 r1 r1 (qa 101 r1 r1 (qu Ybw r1 (qg 1 101 r1 r1 (qa 101 r1 r1 (qu Ybx r1 (qf (o_add .t .t) r2 qz (qO rr qZ)))))))) V [3,2,1] [101,0] fun O=>(Ya (Ya ?_))))
 refine rZ O (qg 1 101 r1 r1 (qa 101 r1 r1 (qu Ybx r1 (qJ qZ)))) V [16,15,14,3,2] [101,0] fun O=>Ye ?_
 replace O:=O.ent (i:=3) (s':=.pv (.int .i64 ((h.txs.length+h.orders.length+Zbd (h.orders.take 0):Nat):Int))) Z (.int (by rw [Zc ow];simp [Zbd]))
 refine Zo (σ:=(Nat)) [2,14,15] [0,101] (fun s=>[(16,.pv (.int .i64 (s:Int))),(3,.pv (.int .i64 ((h.txs.length+h.orders.length+Zbd (h.orders.take s):Nat):Int)))]) (fun s=>[]) (fun s=>s≤h.orders.length∧(Zbd (h.orders.take s)≤1000*s)) (fun s=>h.orders.length - s) (0) O ⟨rfl,rfl,rfl,rfl,rfl,tv⟩ ⟨rfl,rfl,tv⟩ ⟨Yz _,(by simp [Zbd])⟩ ?_
 clear O;intro i a w F hC O
 try dsimp only at hC
 obtain ⟨F,O⟩:=O.nM [16,15,14,3,2] [101,0]
 try dsimp only at O
 obtain ⟨hi,hq⟩:=hC
 refine Ya (rZ O (qL r2) V [17,16,15,14,3,2] [101,0] fun O=>Ya ?_)
 refine Zd O Z (fun hc0=>?_) (fun hc0=>?_)
 ·have hil:i<h.orders.length:=by simp at hc0;omega
  have hx9:=hs.2.2 _ (Z8 hil)
  have hq2:Zbd (h.orders.take (i+1))≤1000*(i+1):=by rw [sizeO_next hil];omega
  refine Yf (Za (Ya (Ye (Ya (Zb O (qy 2 Ybx r2 (qf (oR true 2 .t) r1 qz (qf (oH [.int .i64 0,.slice none 0 0] 102) trivial qz (qS 2 102 r2 r1 qZ)))) V [16,15,14,5,3,2] [102,101,0] (fun _=>rfl) (fun _=>rfl) fun τ a w F O=>?_)))))
  try dsimp only [RS.sub,SF.sub,CF.sub,csub,Anc.sub,List.map,Ze,xL,xM,Nat.reduceAdd,xD,xE,xT,xU,xC,xN,zCF,ldSF,Zs,rTx,ZB,Zaq,ZG,rOp] at O
  generalize τ 5=v5 at O
  try simp only [Yg] at O
  refine Za (Zf O (qR rr (qg 1 102 r1 r1 (qa 102 r1 r1 (qu Yby r1 (qf (o_add .t .t) r2 qz (qO rr qZ)))))) V [16,15,14,3,2] [102,101,0] Z Z fun a w F O=>Zm (Za ?_))
  refine rZ O (qp r1 (qR rr qZ)) V [16,15,14,3,2] [102,101,0] fun O=>?_
  replace O:=O.ent (i:=16) (s':=.pv (.int .i64 ((i+1:Nat):Int))) Z (.int (Zl ow))
  replace O:=O.ent (i:=3) (s':=.pv (.int .i64 ((h.txs.length+h.orders.length+Zbd (h.orders.take (i+1)):Nat):Int))) Z (.int (by rw [Zc ow,sizeO_next hil];omega))
  obtain ⟨F,O⟩:=O.nM [15,14,2,3,16] [101,0]
  exact ⟨(i+1),F,⟨by omega,hq2⟩,O,by omega⟩
 have hil:i=h.orders.length:=by simp at hc0;omega
 refine Yr (Zj (Zj (Zv (Za (Ya (rZ O (qR rr (qO rr qZ)) V [2] [101,0] fun O=>Yi ?_))))))
 refine ZP hfr O Z Z Z (.int (by unfold sizeH;rw [hil,YM]))
theorem scopied_c (t:TxD) (hl:t.ops.length≤1000000):FnP prog 54 [.agg (rTx t)] (.agg (rTx t)):=by
 refine FnP.mk func54 Z ntmps54 Z fun B a w F V hfr O=>Ya ?_
 refine Zb O (qx 101 r1 (qf (oH [.int .i64 0,.bool false,.slice none 0 0] 102) trivial qz qZ)) V [2,1] [102,101,0] (fun _=>rfl) (fun _=>rfl) fun τ a w F O=>?_
 try dsimp only [RS.sub,SF.sub,CF.sub,csub,Anc.sub,List.map,zCF,Zs,rTx,ZB,Zaq,ZG,rOp] at O
 generalize τ 1=v1,τ 2=v2 at O
 refine Za (Ya ?_)
 replace O:=O.fresh 103 rfl
 refine Zb O (qg 2 101 r1 r1 (qa 101 r1 r1 (qf (Zck 103 (ZjF t.ops hl) func86 Z kr (Args.one .t) ZeB) r1 r1 (qg 2 101 r1 r1 (qf (ZaU 101 .adr kr kr) r2 r1 qZ))))) V [2,1] [103,102,101,0] (fun _=>rfl) (fun _=>rfl) fun τ a w F O=>?_
 try dsimp only [RS.sub,SF.sub,CF.sub,csub,Anc.sub,List.map,Ze,xL,xM,Nat.reduceAdd,xD,xE,xT,xU,xC,xN,zCF,ldSF,Zs,rTx,ZB,Zaq,ZG,rOp] at O
 generalize τ 5=v5 at O
 obtain ⟨F,O⟩:=O.giveCell 103 101 2 Z Z Z Z rfl
 try dsimp only [List.set] at O
 obtain ⟨F,O⟩:=O.nM [2,1] [102,101,0]
 refine Za (Ya (rZ O (qe 3 101 r1 r1 (qs 3 102 r2 r1 qZ)) V [2] [102,101,0] fun O=>Yi ?_))
 refine Za4 hfr O Z (.cl 102 true 3 Z Z .nil) (.one (.aggU Z Z))
theorem Znq (o:Option Nat):FnP prog 46 [.is (arV o)] (.agg [.is (arV o),.int .i64 0,.is (arV o),.int .i64 0,.int .i64 0]):=by
 refine FnP.mk func46 Z ntmps46 Z fun B a w F V hfr O=>Ya ?_
 refine Zb O (qf (oH [.pointer none,.int .i64 0,.pointer none,.int .i64 0,.int .i64 0] 101) trivial qz qZ) V [2,0] [101,0] (fun _=>rfl) (fun _=>rfl) fun τ a w F O=>?_
 try dsimp only [RS.sub,SF.sub,CF.sub,csub,Anc.sub,List.map,zCF,Zs,rTx,ZB,Zaq,ZG,rOp] at O
 generalize τ 2=v2 at O
 refine Za (Ya (rZ O (qR rr (qf (oP (Ziu o) func104 (Args.one .t)) r1 qz (qR rr (qf (oP (Ziu o) func104 (Args.one .t)) r1 qz (qf (oB [(0,.tmp 4),(1,.tmp 6)] [.pointer none,.int .i64 0,.pointer none,.int .i64 0,.int .i64 0] [(0,2),(2,2),(4,1)] (.agg Z (.conv .t .agg) kr kr (.agg Z (.conv .t .agg) kr kr .nil))) r2 qz (qs 5 101 r2 r1 qZ)))))) V [2] [101,0] fun O=>Yi ?_))
 refine Za4 hfr O Z (.cl 101 true 5 Z Z .nil) (.one (.aggU Z Z))
theorem Zhz {k v:Int} {p:Zz} : ∀ (l:List Zz) (d:Bool),p ∈ Zaz k v l d→p ∈ l∨p = ⟨k,v⟩
 | [],d,h=>by cases d <;> simp [Zaz] at h;exact .inr h
 | x :: l,d,h=>by
  rw [Zaz,YJ,YJ] at h
  rcases h with (h | h) | h
  ·split at h <;> simp at h;exact .inr h
  ·split at h <;> simp at h;exact .inl (by simp [h])
  ·rcases Zhz l _ h with h | h
   ·exact .inl (by simp [h])
   ·exact .inr h
theorem Zf8 {k v:Int} : ∀ {l:List Zz},(∀ p ∈ l,k<p.key)→Zaz k v l true=l
 | [],_=>rfl
 | p :: l,h=>by
  have:=h p (by simp)
  rw [Zaz,Bool.true_or,Zf8 fun x hx=>h x (by simp [hx]),Yc (by simp),Yc ow]
  rfl
theorem putP_inc {k v:Int} : ∀ {l:List Zz},Inc l→Inc (putP l k v)
 | [],_=>by simp [putP,Zaz,Inc]
 | x :: l,h=>by
  have h':=YI.1 h
  unfold putP
  by_cases h1:x.key<k
  ·have e:Zaz k v (x :: l) false=x :: putP l k v:=ZaZ (l:=[x]) (m:=l) (by simpa using h1)
   rw [e]
   refine YI.2 ⟨fun p hp=>?_,putP_inc h'.2⟩
   rcases Zhz l false hp with hp | rfl
   ·exact h'.1 p hp
   ·exact h1
  ·by_cases h2:x.key=k
   ·rw [Zaz,Yd ⟨rfl,by omega⟩,Yd h2,show (false || decide (k≤x.key))=true by simp;omega,Zf8 fun p hp=>by have:=h'.1 p hp;omega]
    exact YI.2 ⟨fun p hp=>by have:=h'.1 p hp;show k<p.key;omega,h'.2⟩
   ·rw [Zij (fun p hp=>by
     rcases Yo.1 hp with rfl | hp
     ·omega
     ·have:=h'.1 p hp;omega)]
    refine YI.2 ⟨fun p hp=>?_,h⟩
    show k<p.key
    rcases Yo.1 hp with rfl | hp
    ·omega
    ·have:=h'.1 p hp;omega
theorem ZeW {k:Int} {l:List Zz} (h:Inc l):Inc (delP l k):=List.Pairwise.filter _ h
structure Zb6 (q:List Cell) (t:Z5) (root:Int):Prop where
 rep:Rep id q t root
 bal:Bal t
 inc:Inc (tList t)
theorem Zb6.app {q e:List Cell} {t:Z5} {root:Int} (h:Zb6 q t root):Zb6 (q++e) t root:=⟨h.rep.app e,h.bal,h.inc⟩
theorem Zb6.nil (q:List Cell):Zb6 q .nil 0:=⟨rfl,tv,List.Pairwise.nil⟩
theorem Zb6.put {room:Int} {q:List Cell} {t:Z5} {root:Int} (h:Zb6 q t root) (k v:Int) (hs:Zw t<1000000) :
  (∃ (e:List Cell) (r:Int),Zoi room q ⟨k,v⟩ t root=(q++e,0,r)∧Zb6 (q++e) (putT ⟨k,v⟩ t) r∧(e.length:Int)≤3*(Zg t+1))∨(Zoi room q ⟨k,v⟩ t root=(q,2,0)∧room<q.length+3*(Zg t+1)):=by
 rcases Zc1 (ZfG (room:=room) (p:=⟨k,v⟩) rfl h.rep hs) with ⟨e,e1,e2,e3,e4,e5⟩ | ⟨e1,e2⟩
 ·refine .inl ⟨e,(Zoi room q ⟨k,v⟩ t root).2.2,?_,⟨e3,(Zhn _ h.bal).1,?_⟩,e5⟩
  ·exact Prod.ext e1 (Prod.ext e2 rfl)
  ·rw [Zdu _ h.inc];exact putP_inc h.inc
 ·exact .inr ⟨e1,e2⟩
theorem Zb6.del {room:Int} {q:List Cell} {t:Z5} {root:Int} (h:Zb6 q t root) (k:Int) (hs:Zw t≤1000000) :
  (¬ (Zby k t).2=true∧Zl0 room q k t root=(q,3,0))∨(Zby k t).2=true∧((∃ (e:List Cell) (r:Int),Zl0 room q k t root=(q++e,0,r)∧Zb6 (q++e) (delT k t) r∧(e.length:Int)≤3*(Zg t+1))∨(Zl0 room q k t root=(q,2,0)∧room<q.length+3*(Zg t+1))):=by
 by_cases hl:(Zby k t).2=true
 ·refine .inr ⟨hl,?_⟩
  have hd:Zl0 room q k t root=Zcn q.length (Za9 id room q 0 k t root):=Yd hl
  rw [hd]
  rcases Zc1 (Zfj (room:=room) h.rep (Zd8.1 hl) hs (fun _ _=>rfl)) with ⟨e,e1,e2,e3,e4,e5⟩ | ⟨e1,e2⟩
  ·refine .inl ⟨e,_,?_,⟨e3,(ZgS _ h.bal).1,?_⟩,e5⟩
   ·exact Prod.ext e1 (Prod.ext e2 rfl)
   ·rw [Zd0 _ h.inc];exact ZeW h.inc
  ·exact .inr ⟨e1,e2⟩
 ·exact .inl ⟨hl,Yc hl⟩
theorem Zb6.high {q:List Cell} {t:Z5} {root:Int} (h:Zb6 q t root) (hs:Zw t≤1000000):0≤Zg t∧Zg t≤40:=⟨Z4 t,ZkJ h.bal hs⟩
structure RtA where
 txs:List Zz
 orders:List Zz
 size:Int
 deriving Inhabited
def Zbm (all:List TxD) (seqs:List (List Int)) (r:RtA):ZS:=⟨r.txs.map fun p=>Nn all p.val.toNat,r.orders.map fun p=>⟨p.key,Nn seqs p.val.toNat⟩⟩
structure ZiH (all:List TxD) (seqs:List (List Int)) (r:RtA):Prop where
 ti:Inc r.txs
 oi:Inc r.orders
 tv:∀ p ∈ r.txs,(0≤p.val∧p.val<all.length)∧(Nn all p.val.toNat).id=p.key
 ov:∀ p ∈ r.orders,0≤p.val∧p.val<seqs.length
theorem Zbi {α:Type} [Inhabited α] {l e:List α} {k:Nat} (h:k<l.length):Nn (l++e) k=Nn l k:=by
 rw [ZE (by simp;omega),ZE h,List.getElem_append_left h]
theorem Zgi {all e:List TxD} {seqs f:List (List Int)} {r:RtA} (h:ZiH all seqs r):Zbm (all++e) (seqs++f) r=Zbm all seqs r:=by
 unfold Zbm
 congr 1
 ·refine Yar fun p hp=>?_
  have:=(h.tv p hp).1
  rw [Zbi ow]
 ·refine Yar fun p hp=>?_
  have:=h.ov p hp
  rw [Zbi ow]
theorem ZiH.grow {all e:List TxD} {seqs f:List (List Int)} {r:RtA} (h:ZiH all seqs r):ZiH (all++e) (seqs++f) r:=
 ⟨h.ti,h.oi,fun p hp=>by
  have h1:=h.tv p hp
  refine ⟨⟨h1.1.1,by rw [Yb];omega⟩,?_⟩
  rw [Zbi ow];exact h1.2,fun p hp=>by
  have h1:=h.ov p hp
  exact ⟨h1.1,by rw [Yb];omega⟩⟩
def Zho (q:List Cell) (root:Int) (l:List Zz):Prop:=∃ t,Zb6 q t root∧tList t=l
theorem Zho.app {q e:List Cell} {root:Int} {l:List Zz} (h:Zho q root l):Zho (q++e) root l:=let ⟨t,h1,h2⟩:=h; ⟨t,h1.app,h2⟩
def ZaT (q:List Cell) (root:Int) (l:List Int):Prop:=∃ t,Rep kz q t root∧Zbc t=l
theorem ZaT.app {q e:List Cell} {root:Int} {l:List Int} (h:ZaT q root l):ZaT (q++e) root l:=let ⟨s,h1,h2⟩:=h; ⟨s,h1.app e,h2⟩
theorem ZjW (t:Z5):Zw t=(Zbc t).length:=by unfold Zbc;rw [YF];exact ZM t
theorem Zho.move {room:Int} {q2:List Cell} {t:Z5} (h:Inc (tList t)) (hs:(tList t).length≤1000000) (hr:q2.length+(tList t).length≤room) :
  ∃ (e:List Cell) (r:Int),Zk2 room q2 t=(q2++e,0,r)∧Zho (q2++e) r (tList t)∧e.length=(tList t).length:=by
 rcases Zc1 (Zdt (kf:=id) (room:=room) ((tList t).length+1) q2 (tList t) ow ow (fun _ _=>rfl)) with ⟨e,e1,e2,e3,e4,e5⟩ | ⟨e1,e2⟩
 ·exact ⟨e,_,Prod.ext e1 (Prod.ext e2 rfl),⟨_,⟨e3,(Zfq _ _ ow).2,by rw [ZbQ _ _ ow];exact h⟩,ZbQ _ _ ow⟩,by omega⟩
 ·omega
theorem ZaT.of {room:Int} {q:List Cell} {l:List Int} (hs:l.length≤1000000) (hr:q.length+l.length≤room) :
  ∃ (e:List Cell) (r:Int),Zol room q l=(q++e,0,r)∧ZaT (q++e) r l∧e.length=l.length:=by
 have e:Zol room q l=Zcn q.length (allQ room (l.length+1) q 0 l):=rfl
 rw [e,ZlT]
 rcases Zc1 (Zdt (kf:=kz) (room:=room) (l.length+1) q (l.map kp) (by simp) (by simpa using hs) (fun p hp=>by obtain ⟨x,_,rfl⟩:=Yv.1 hp;rfl)) with ⟨e,e1,e2,e3,e4,e5⟩ | ⟨e1,e2⟩
 ·rw [YF] at e4 e5
  exact ⟨e,_,Prod.ext e1 (Prod.ext e2 rfl),⟨_,e3,ZnB l⟩,by omega⟩
 ·rw [YF] at e2;omega
structure RtC where
 av:Value
 tr:Int
 or:Int
 size:Int
def rRt (c:RtC):List PV:=[.is c.av,.int .i64 c.tr,.is c.av,.int .i64 c.or,.int .i64 c.size]
structure Zbs (q:List Cell) (av:Value) (c:RtC) (r:RtA):Prop where
 a:c.av=av
 t:Zho q c.tr r.txs
 o:Zho q c.or r.orders
 s:c.size=r.size
theorem Zbs.app {q e:List Cell} {av:Value} {c:RtC} {r:RtA} (h:Zbs q av c r):Zbs (q++e) av c r:=⟨h.a,h.t.app,h.o.app,h.s⟩
structure SqC where
 av:Value
 root:Int
instance:Inhabited SqC:=⟨⟨.nilIface,0⟩⟩
instance:Inhabited RtC:=⟨⟨.pointer none,0,0,0⟩⟩
def rSq (c:SqC):List PV:=[.is c.av,.int .i64 c.root]
structure StA where
 now:RtA
 snaps:List (Int×RtA)
 next:Int
 all:List TxD
 seqs:List (List Int)
def ZbN (rs:List RtA) (n:Nat) (i:Nat):Prop:=(∃ r ∈ rs,∃ p ∈ r.orders,p.val=(i:Int))∨i+1=n
def rootsA (A:StA):List RtA:=A.now :: A.snaps.map (·.2)
structure StC where
 b:Nat
 q:List Cell
 c:RtC
 cs:List (GE Int RtC)
 ck:Nat
 mv:Value
 alv:Value
 sqv:Value
 sr:List SqC
abbrev Zlj:List (GE Int RtC)→Nat→Value→HP:=mapG (fun c:RtC=>PV.agg (rRt c)) (fun n:Int=>inR .i64 n) (fun n:Int=>Value.int .i64 n)
structure Zac (A:StA) (ex:List RtA) (s:StC):Prop where
 now:Zbs s.q (arV (some s.b)) s.c A.now
 keys:s.cs.map (·.key)=A.snaps.map (·.1)
 snaps:∀ x ∈ A.snaps,∃ c,gGet x.1 s.cs=some c∧Zbs s.q (arV (some s.b)) c x.2
 len:s.sr.length=A.seqs.length
 seqs:∀ i,i<A.seqs.length→ZbN (rootsA A++ex) A.seqs.length i→(Nn s.sr i).av=arV (some s.b)∧ZaT s.q (Nn s.sr i).root (Nn A.seqs i)
def ZaH (A:StA):Int:=A.now.size+(A.snaps.map fun x=>x.2.size).sum
structure Zax (A:StA):Prop where
 okn:ZiH A.all A.seqs A.now
 oks:∀ x ∈ A.snaps,ZiH A.all A.seqs x.2∧0≤x.1∧x.1<A.next
 ids:(A.snaps.map (·.1)).Pairwise (· < ·)
 szn:A.now.size=sizeH (Zbm A.all A.seqs A.now)
 szs:∀ x ∈ A.snaps,x.2.size=sizeH (Zbm A.all A.seqs x.2)
 held:ZaH A≤10000
 next:0≤A.next
structure Zba (A:StA):Prop where
 next:A.next≤100000
 snaps:A.snaps.length≤100000
 all:A.all.length≤100000
 seqs:A.seqs.length≤100000
 len:∀ l ∈ A.seqs,l.length≤1000
 ops:∀ t ∈ A.all,t.ops.length≤1000
def Zku (v:Value) (A:StA) (s:StC):List RS:=[.pt (.val v) 97 [.pv (.is (arV (some s.b))),.pv (.is (arV (some s.b))),.pv (.int .i64 s.c.tr),.pv (.is (arV (some s.b))),.pv (.int .i64 s.c.or),.pv (.int .i64 s.c.size),.pv (.is s.mv),.pv (.int .i64 A.next),.pv (.is s.alv),.pv (.is s.sqv)],RS.hp (arH (some s.b) 65536 s.q),.ob (.val s.mv) (Zlj s.cs s.ck),.ob (.val s.alv) (ZJ 36 3 rTx A.all),.ob (.val s.sqv) (ZJ 114 2 rSq s.sr)]
def ZR (v:Value) (A:StA):HP:=.ex fun s:StC=>.and (Zac A [] s) (.star (Zku v A s))
theorem ZgI {v:Value} {A:StA} {w:World} {f y:Ys} (h:(ZR v A).p w f y):∃ b,v = .pointer (some ⟨b,0,none⟩):=by
 obtain ⟨_,_,h⟩:=h
 exact HP.star_pt h
def Zc8:StA:=⟨⟨[],[],0⟩,[],0,[],[]⟩
theorem Zbs.zero (q:List Cell) (av:Value):Zbs q av ⟨av,0,0,0⟩ ⟨[],[],0⟩:=⟨rfl,⟨.nil,.nil q,rfl⟩,⟨.nil,.nil q,rfl⟩,rfl⟩
theorem Zac.zero (b:Nat) (mv alv sqv:Value):Zac Zc8 [] ⟨b,[],⟨arV (some b),0,0,0⟩,[],0,mv,alv,sqv,[]⟩:=
 ⟨Zbs.zero _ _,rfl,fun x hx=>(by cases hx),rfl,fun i hi=>absurd hi (YR i)⟩
theorem Zax.zero:Zax Zc8:=
 ⟨⟨List.Pairwise.nil,List.Pairwise.nil,fun p hp=>(by cases hp),fun p hp=>(by cases hp)⟩,fun x hx=>(by cases hx),List.Pairwise.nil,rfl,fun x hx=>(by cases hx),by decide,Yak 0⟩
theorem Zcl {l:List (Int×RtA)} (h:∀ x ∈ l,0≤x.2.size):0≤(l.map fun x=>x.2.size).sum:=by
 induction l with
 | nil=>simp
 | cons x l ih=>
  have h1:=h x Yag
  have h2:=ih fun z hz=>h z (YA _ hz)
  rw [Yy,YaC];omega
theorem ZmQ {l:List (Int×RtA)} (h:∀ x ∈ l,0≤x.2.size) {x:Int×RtA} (hx:x ∈ l):x.2.size≤(l.map fun x=>x.2.size).sum:=by
 induction l with
 | nil=>cases hx
 | cons y l ih=>
  have h1:=h y Yag
  have h3:=Zcl fun z hz=>h z (YA _ hz)
  rw [Yy,YaC]
  rcases Yo.1 hx with rfl | h4
  ·omega
  ·have h2:=ih (fun z hz=>h z (YA _ hz)) h4
   omega
theorem Zax.nn {A:StA} (h:Zax A):∀ x ∈ A.snaps,0≤x.2.size:=fun x hx=>by rw [h.szs x hx];omega
theorem Zax.now_le {A:StA} (h:Zax A):sizeH (Zbm A.all A.seqs A.now)≤10000:=by
 have h1:=h.held
 have h2:=Zcl h.nn
 have h3:=h.szn
 unfold ZaH at h1
 omega
theorem Zax.snap_le {A:StA} (h:Zax A) {x:Int×RtA} (hx:x ∈ A.snaps):sizeH (Zbm A.all A.seqs x.2)≤10000:=by
 have h1:=h.held
 have h2:=ZmQ h.nn hx
 have h3:=h.szs x hx
 have h4:=h.szn
 unfold ZaH at h1
 omega
theorem ZbL (all:List TxD) (seqs:List (List Int)) (r:RtA):r.txs.length+r.orders.length≤sizeH (Zbm all seqs r):=by
 unfold sizeH Zbm;simp only [YF];omega
theorem Zax.nodup {A:StA} (h:Zax A):(A.snaps.map (·.1)).Nodup:=by
 rw [List.nodup_iff_pairwise_ne]
 exact List.Pairwise.imp (fun h=>by omega) h.ids
theorem Zac.nd {A:StA} {ex:List RtA} {s:StC} (h:Zac A ex s) (hk:Zax A):GNd s.cs:=by
 unfold GNd;rw [h.keys];exact hk.nodup
theorem ZjN {cs:List (GE Int RtC)} (h:GNd cs) {e:GE Int RtC} (he:e ∈ cs):gGet e.key cs=some e.val:=Zl7 (k:=e.key) (v:=e.val) h e he
theorem Zac.val {A:StA} {ex:List RtA} {s:StC} (h:Zac A ex s) (hk:Zax A) {e:GE Int RtC} (he:e ∈ s.cs):∃ x ∈ A.snaps,x.1=e.key∧Zbs s.q (arV (some s.b)) e.val x.2:=by
 have h1:e.key ∈ A.snaps.map (·.1):=h.keys ▸ Yv.2 ⟨e,he,rfl⟩
 obtain ⟨x,hx,ex⟩:=Yv.1 h1
 obtain ⟨c,hc,hr⟩:=h.snaps x hx
 rw [ex,ZjN (h.nd hk) he] at hc
 cases hc
 exact ⟨x,hx,ex,hr⟩
theorem Zac.cslen {A:StA} {ex:List RtA} {s:StC} (h:Zac A ex s):s.cs.length=A.snaps.length:=by
 have:=Yaf List.length h.keys
 simpa using this
def Zaa (seen:List Nat) (cs:List (GE Int RtC)):Int:=(cs.map fun e=>if e.born ∈ seen then e.val.size else 0).sum
theorem ZfK (cs:List (GE Int RtC)):Zaa [] cs=0:=by
 unfold Zaa
 induction cs with
 | nil=>rfl
 | cons e cs ih=>rw [Yy,YaC,ih];simp
theorem Zdp {seen:List Nat} {e:GE Int RtC} (hs:e.born ∉ seen):∀ {cs:List (GE Int RtC)},(cs.map (·.born)).Nodup→e ∈ cs→Zaa (seen ++ [e.born]) cs=Zaa seen cs+e.val.size
 | [],_,he=>by cases he
 | x :: cs,hn,he=>by
  rw [Yy,YaT] at hn
  have hc:∀ seen cs,Zaa seen (x :: cs)=(if x.born ∈ seen then x.val.size else 0)+Zaa seen cs:=fun _ _=>by unfold Zaa;rw [Yy,YaC]
  rw [hc,hc]
  rcases Yo.1 he with rfl | he
  ·have h1:Zaa (seen ++ [e.born]) cs=Zaa seen cs:=by
    unfold Zaa
    congr 1
    refine Yar fun y hy=>?_
    have h2:y.born≠e.born:=fun h=>hn.1 (Yv.2 ⟨y,hy,h⟩)
    simp [h2]
   rw [h1,Yd (by simp),Yc hs];omega
  ·have h2:x.born≠e.born:=fun h=>hn.1 (Yv.2 ⟨e,he,h.symm⟩)
   rw [Zdp hs hn.2 he]
   have h3:(x.born ∈ seen ++ [e.born])=(x.born ∈ seen):=by simp [h2]
   simp only [h3];omega
theorem ZiN {seen:List Nat} {cs:List (GE Int RtC)} (h:∀ e ∈ cs,e.born ∈ seen):Zaa seen cs=(cs.map fun e=>e.val.size).sum:=by
 unfold Zaa
 congr 1
 exact Yar fun e he=>Yd (h e he)
theorem Zgd {seen:List Nat} : ∀ {cs:List (GE Int RtC)},(∀ e ∈ cs,0≤e.val.size)→0≤Zaa seen cs∧Zaa seen cs≤(cs.map fun e=>e.val.size).sum
 | [],_=>by simp [Zaa]
 | x :: cs,h=>by
  have h1:=Zgd (seen:=seen) (cs:=cs) fun e he=>h e (YA _ he)
  have h2:=h x Yag
  have hc:Zaa seen (x :: cs)=(if x.born ∈ seen then x.val.size else 0)+Zaa seen cs:=by unfold Zaa;rw [Yy,YaC]
  rw [hc,Yy,YaC]
  split <;> omega
theorem Zac.sizes {A:StA} {ex:List RtA} {s:StC} (h:Zac A ex s) (hk:Zax A):(s.cs.map fun e=>e.val.size).sum=(A.snaps.map fun x=>x.2.size).sum:=by
 have e1:(s.cs.map fun e=>e.val.size)=(s.cs.map (·.key)).map fun k=>((gGet k s.cs).getD default).size:=by
  rw [YaG]
  refine Yar fun e he=>?_
  show _=((gGet e.key s.cs).getD default).size
  rw [ZjN (h.nd hk) he];rfl
 have e2:(A.snaps.map fun x=>x.2.size)=(A.snaps.map (·.1)).map fun k=>((gGet k s.cs).getD default).size:=by
  rw [YaG]
  refine Yar fun x hx=>?_
  obtain ⟨c,hc,hr⟩:=h.snaps x hx
  show _=((gGet x.1 s.cs).getD default).size
  rw [hc];exact hr.s.symm
 rw [e1,e2,h.keys]
theorem Zac.held {A:StA} {ex:List RtA} {s:StC} (h:Zac A ex s) (hk:Zax A) (seen:List Nat):0≤A.now.size+Zaa seen s.cs∧A.now.size+Zaa seen s.cs≤10000:=by
 have h1:=Zgd (seen:=seen) (cs:=s.cs) fun e he=>by
  obtain ⟨x,hx,_,hr⟩:=h.val hk he
  rw [hr.s];exact hk.nn x hx
 have h2:=h.sizes hk
 have h3:=hk.held
 have h4:=hk.szn
 unfold ZaH at h3
 omega
theorem Zac.held_all {A:StA} {ex:List RtA} {s:StC} (h:Zac A ex s) (hk:Zax A) {seen:List Nat} (ha:∀ e ∈ s.cs,e.born ∈ seen):A.now.size+Zaa seen s.cs=ZaH A:=by
 rw [ZiN ha,h.sizes hk];rfl
end Go.Proofs.YtfecljadegkmdaaGreat
namespace Go.Proofs.YtfecljadegkmdaaGreat
open Go Go.Gm Tryz
set_option linter.unusedVariables false
set_option linter.unusedSimpArgs false
set_option maxHeartbeats 4000000
set_option maxRecDepth 8000
open Go.RowKit Go.Maps Go.Sort Go.Shelf Go.ChangeMaps Go.MapKept
set_option maxRecDepth 100000 in
set_option maxHeartbeats 1000000 in
theorem ZoI (F:Fence) (n:Nat) (h10:F.fn 188) (hro:F.round=none) (hn:1≤n) (l Bm off b clock:Nat) (es:Array MapEntry) (hnd:(es.toList.map (·.born)).Nodup) (hold:∀ x ∈ es.toList,x.born<clock) (hkv:∀ e ∈ es.toList,∃ k:Int,e.key=Zmb k) (J:List Int→World→Prop)
  (hY:∀ pre x W,J pre W→pre.length<es.size→YieldAt F (n - 1) prog l #[Zmb x] W fun e W'=>e = .returned (.bool true)∧J (pre ++ [x]) W' ∧ KeepsWalks W W')
  (W:World) (hJ:AbidesFrom W.heap.size J) (hm:W.cell? ⟨Bm,off,none⟩ = some (.map (some b))) (hb:W.heap[b]? = some (.map es clock)) (h0:J [] W) :
  CallsIn F n prog 188 #[.func (.yield l) #[] #[],.pointer (some ⟨Bm,off,none⟩)] W fun e W'=>(∃ v,e = .returned v) ∧ ∃ ss:List Int,(ss.map Zmb).Perm (es.toList.map (·.key))∧J ss W':=by
 have hbl:b<W.heap.size:=(YU.1 hb).1
 refine callsIn_of_wp func188 Z h10 ?_ hro
 simp only [ntmps188,Yav,Yp,Yx,Nat.reduceAdd,Nat.reduceSub,Array.replicate_succ,Array.replicate_zero,List.push_toArray,List.append_toArray,Yaz,YO]
 gi_wp2_with (first
  | (gi_at_range;refine ZdJ rfl _ 94 rfl 3 92 kr b es clock rfl hb ?_)
  | gi_in)
 go_frame
 have hg0:W.grownBy (W.alloc (.mapIter (some b) clock #[] clock)) none:=World.grownBy_alloc W _ none
 have hr0:(W.alloc (.mapIter (some b) clock #[] clock)).heap[W.heap.size]? = some (.mapIter (some b) clock #[] clock):=World.alloc_heap_new W _
 have hb0:(W.alloc (.mapIter (some b) clock #[] clock)).heap[b]? = some (.map es clock):=(Below.heap_alloc _ _ b hbl).trans hb
 generalize W.alloc (.mapIter (some b) clock #[] clock)=w0 at hg0 hr0 hb0 ⊢
 gi_loopw [3] (fun _ wr=>∃ (seen:Array Nat) (c0:Nat) (ss:List Int),wr.heap[W.heap.size]? = some (.mapIter (some b) clock seen c0)∧clock≤c0∧wr.heap[b]? = some (.map es clock)∧(ss.map Zmb).Perm ((es.toList.filter fun x=>seen.contains x.born).map (·.key))∧ss.length+(leftOf es seen).size≤es.size∧J ss wr)
  (fun _ wr=>(leftOf es (wr.iterSeen W.heap.size)).size)
 case atStart=>
  exact ⟨#[],clock,[],hr0,Yw _,hb0,by rw [Zme];exact .nil,by rw [Zlt];simp,hJ [] W w0 none h0 hg0 (fun r e=>by cases e)⟩
 case round=>
  obtain ⟨seen,c0,ss,hr,hsc,hbr,hp,hcs,hJs⟩:=hrel
  gi_wp2_with (first
   | (gi_at_next;refine Zep rfl _ rfl W.heap.size b clock c0 seen es rfl hr hbr hold hsc ow hnd ?_ ?_)
   | gi_in)
  ·intro hl0
   gi_wp2
   go_end0
   exact ⟨⟨_,rfl⟩,ss,by rw [ZnG hl0] at hp;exact hp,hJs⟩
  ·intro e w2 hN
   obtain ⟨hem,hes⟩:=mem_left hN.left
   obtain ⟨x,hx⟩:=hkv e hem
   have hr2:=hN.it
   have hb2:=hN.mp
   have hen:=hN.entry
   have hlt:=left_shrinks es seen e hN.left
   have hJ2:J ss w2:=hJ ss wr w2 (some W.heap.size) hJs hN.grown (fun r e9=>by cases e9;exact ⟨Yw _,_,hr,rfl⟩)
   rw [hx] at hen
   obtain ⟨fn,tmps,assign,body,hy,hR⟩:=hY ss x w2 hJ2 ow
   rw [hx]
   clear hN
   gi_wp2
   refine hR.mono ?_
   rintro e9 W3 ⟨rfl,hJ3,hk3⟩
   gi_wp2
   have hr3:=hk3.same _ _ hr2 rfl
   have hb3:=hk3.same _ _ hb2 rfl
   go_roundw
   case rel=>
    exact ⟨seen.push e.born,clock,ss ++ [x],hr3,Yw _,hb3,by
     rw [YL,List.map_singleton]
     have h9:=((Ziv hnd hem hes).map (·.key)).symm
     rw [Yy,hx] at h9
     exact ((List.perm_append_singleton _ _).trans (hp.cons _)).trans h9,by rw [Yb,Yah];omega,hJ3⟩
   case measure=>
    simp only [World.iterSeen,hr3,hr]
    exact hlt
end Go.Proofs.YtfecljadegkmdaaGreat
namespace Go.Proofs.YtfecljadegkmdaaGreat
open Go Go.Gm Tryz
set_option linter.unusedVariables false
set_option linter.unusedSimpArgs false
set_option maxHeartbeats 4000000
set_option maxRecDepth 8000
open Go.RowKit Go.Maps Go.Sort Go.Shelf Go.ChangeMaps Go.MapKept
theorem Zmk {α:Type} {enc:α→Value} {dec:Value→α} (h:∀ x,dec (enc x)=x) {l m:List α} (hp:(l.map enc).Perm (m.map enc)):l.Perm m:=by
 have h1:=hp.map dec
 rw [YaG,YaG] at h1
 have e:dec ∘ enc=id:=by funext x;exact h x
 rwa [e,List.map_id,List.map_id] at h1
theorem ZiV {ν:Type} (ek:ν→PV) (mv:Value) (es:List (GE Int ν)) (ck:Nat) (hN:es.length≤1000000000):FnG prog 166 2 [.clos 188 [.ref [.is mv]]] [mapG ek (fun n:Int=>inR .i64 n) (fun n:Int=>Value.int .i64 n) es ck mv,.star []] PV.one (fun v=>[mapG ek (fun n:Int=>inR .i64 n) (fun n:Int=>Value.int .i64 n) es ck mv,.ex fun l:List Int=>.and (l.Perm (es.map (·.key))) (ZJ 3 1 ZG l v)]):=fun w F vs hw hle hvs hpr=>by
 match vs,hvs with
 | [fv],hvs=>
  obtain ⟨caps,hfv,hcaps⟩:=hvs.1
  match caps,hcaps with
  | [cu],hcaps=>
   obtain ⟨Bm,off,us,hcu,hny,hBm,hc,hus⟩:=hcaps.1
   match us,hus with
   | [mu],hus=>
    have hmu:mu=mv:=hus.1.2.1
    subst hmu
    subst hcu
    subst hfv
    obtain ⟨b,rs,hmv,hb,hg,⟨hwf,hkeys⟩,hf⟩:=hpr 0 _ rfl
    have hst:∀ c,¬ F 2 c:=hpr 1 _ rfl
    subst hmv
    have hbl:b<w.heap.size:=(YU.1 hb).1
    have hm:w.cell? ⟨Bm,off,none⟩ = some (.map (some b)):=hc.1
    have hkm:rs.map (·.key)=es.map (·.key):=hg.keys
    have hbm:rs.map (·.born)=es.map (·.born):=hg.borns
    have hnd:(((rs.map (rEnc (fun n:Int=>Value.int .i64 n))).toArray).toList.map (·.born)).Nodup:=by
     have e1:((rs.map (rEnc (fun n:Int=>Value.int .i64 n))).toArray).toList.map (·.born)=rs.map (·.born):=by rw [YaG];rfl
     rw [e1,hbm];exact hwf.1
    have hold:∀ x ∈ ((rs.map (rEnc (fun n:Int=>Value.int .i64 n))).toArray).toList,x.born<ck:=fun x hx=>by
     obtain ⟨r,hr,rfl⟩:=Yv.1 hx
     have h1:r.born ∈ es.map (·.born):=hbm ▸ Yv.2 ⟨r,hr,rfl⟩
     obtain ⟨e,he,e1⟩:=Yv.1 h1
     show r.born<ck
     rw [← e1];exact hwf.2 e he
    have hkv:∀ x ∈ ((rs.map (rEnc (fun n:Int=>Value.int .i64 n))).toArray).toList,∃ k:Int,x.key=Zmb k:=fun x hx=>by
     obtain ⟨r,_,rfl⟩:=Yv.1 hx
     exact ⟨r.key,rfl⟩
    have hlen:((rs.map (rEnc (fun n:Int=>Value.int .i64 n))).toArray).size=es.length:=by
     have h1:=Yaf List.length hkm
     simp at h1 ⊢;exact h1
    have hseq:SeqGives Fence.wide 10 prog 188 #[.pointer (some ⟨Bm,off,none⟩)] Zmb (fun ss=>(ss.map Zmb).Perm (((rs.map (rEnc (fun n:Int=>Value.int .i64 n))).toArray).toList.map (·.key))) ((rs.map (rEnc (fun n:Int=>Value.int .i64 n))).toArray).size w:=fun l J W hW hJ hY h0=>
     ZoI Fence.wide 10 trivial rfl ow l Bm off b ck _ hnd hold hkv J hY W hJ ((hW.cell (p:=⟨Bm,off,none⟩) hBm).trans hm) ((hW.block b hbl).trans hb) h0
    have eg:∀ args w,(callFunc 188 args).run prog w = .ok (.enter 188 args) w:=enters_of func188 kr rfl
    have hcalls:=callsIn_wide.1 (ZhH Fence.wide 12 trivial trivial Z ow 188 #[.pointer (some ⟨Bm,off,none⟩)] trivial eg _ _ (by rw [hlen];unfold maxLen;omega) (by rw [hlen];omega) w hseq)
    refine hcalls.mono ?_
    rintro e w' ⟨v,ss,rfl,O,hrow,hnil,hbel⟩
    have hss:ss.Perm (es.map (·.key)):=by
     have e1:((rs.map (rEnc (fun n:Int=>Value.int .i64 n))).toArray).toList.map (·.key)=(es.map (·.key)).map Zmb:=by
      rw [← hkm,YaG,YaG];rfl
     rw [e1] at O
     exact Zmk Zn2 O
    have hown:∀ c,v.ownBlock=some c→w.heap.size≤c∧c<w'.heap.size:=fun c hc9=>by
     rcases hrow.2 with ⟨rfl,_⟩ | ⟨g,cap,cur,rfl,hbase,hgb,_⟩
     ·simp [Value.ownBlock] at hc9
     ·simp [Value.ownBlock] at hc9
      subst hc9
      exact ⟨hbase,(YU.1 hgb).1⟩
    have hrow0:w'.ownsRow 0 3 1 v ss.length (ss.flatMap ZnA):=⟨hrow.1,by
     rcases hrow.2 with h | ⟨g,cap,cur,h1,_,h3⟩
     ·exact .inl h
     ·exact .inr ⟨g,cap,cur,h1,Yz _,h3⟩⟩
    have hst2:Stp (List.range' 1 2) w F w' (fun n c=>F n c∨(n=2∧v.ownBlock=some c)):=⟨hbel.os,hbel.tape,hbel.output,hbel.size,fun c hc9 _=>hbel.block c hc9,fun n hn=>by
      funext c
      have:n≠2:=fun e=>hn (by subst e;simp)
      simp [this],fun n hn c hc9=>by
      rcases hc9 with h | ⟨_,h⟩
      ·exact .inl ⟨n,hn,h⟩
      ·exact .inr (hown c h).1⟩
    refine ⟨v,_,rfl,⟨fun n m c h1 h2=>?_,fun n c h1=>?_⟩,hst2,fun n c h1=>?_,?_,fun i h hi=>?_⟩
    ·rcases h1 with h1 | ⟨h1,h1'⟩ <;> rcases h2 with h2 | ⟨h2,h2'⟩
     ·exact hw.dis n m c h1 h2
     ·have:=hw.bd n c h1;have:=(hown c h2').1;omega
     ·have:=hw.bd m c h2;have:=(hown c h1').1;omega
     ·omega
    ·rcases h1 with h1 | ⟨_,h1⟩
     ·have:=hw.bd n c h1;have:=hbel.size;omega
     ·exact (hown c h1).2
    ·rcases h1 with h1 | ⟨h1,_⟩
     ·exact hle n c h1
     ·omega
    ·show v.oneCell' = true
     rcases hrow.2 with ⟨rfl,_⟩ | ⟨g,cap,cur,rfl,_⟩ <;> rfl
    ·match i,hi with
     | 0,hi=>
      simp only [Ya6,Y0] at hi
      subst hi
      exact ⟨b,rs,rfl,(hbel.block b hbl).trans hb,hg.mono hst2.ev,⟨hwf,hkeys⟩,fun c=>by rw [← hf c];simp⟩
     | 1,hi=>
      simp only [List.getElem?_cons_succ,Ya6,Y0] at hi
      subst hi
      refine ⟨ss,hss,ss.flatMap ZnA,hrow0,Zmj fun x hx=>?_,fun c=>?_⟩
      ·obtain ⟨e,he,e1⟩:=Yv.1 (hss.mem_iff.1 hx)
       rw [← e1];exact hkeys e he
      ·have:=hst c
       simp [this]
end Go.Proofs.YtfecljadegkmdaaGreat
namespace Go.Proofs.YtfecljadegkmdaaGreat
open Go Go.Gm Tryz
set_option linter.unusedVariables false
set_option linter.unusedSimpArgs false
set_option maxHeartbeats 4000000
set_option maxRecDepth 8000
def Zgv (h:ZS):Prop:=h.txs.length≤12∧h.orders.length≤24∧(∀ j,j<h.txs.length→(Nn h.txs j).ops.length≤24) ∧ ∀ j,j<h.orders.length→(Nn h.orders j).txs.length≤24
instance (h:ZS):Decidable (Zgv h):=by unfold Zgv;exact inferInstance
def Zoe (d:ZK):Prop:=Zgv ⟨d.was,d.old⟩∧Zgv ⟨d.now,d.new⟩
instance (d:ZK):Decidable (Zoe d):=by unfold Zoe;exact inferInstance
instance (h:ZS):Decidable (Zgv h):=by unfold Zgv;exact inferInstance
abbrev ZqQ (T TR:TypeId) (p va:Value) (os:List Zr):HP:=HP.ex fun vb:Value=>HP.star [.pt (.val p) T [.pv (.is va),.pv (.is vb)],.ob (.val vb) (ZJ TR 2 ZB os)]
theorem entArr {α:Type} {R:α→List PV} {l:List PV} {l':List α} (h:Nat.ble l'.length maxLen=true) (e:Zdl l (l'.flatMap R)):Ent (.pv (.arr l'.length l)) (.pv (.sl R l')):=fun _ w y v k=>Zdc.arrSl h e v w y k
section
set_option linter.unusedSectionVars false
variable {α:Type} {κ:α→Int} {t x:α} {l out r:List α} {d:Bool}
end
def getL (k:Int):List Zz→Int×Bool
 | []=>(0,false)
 | p :: l=>if p.key=k then (p.val,true) else getL k l
theorem Zcm {k:Int} {m:List Zz} : ∀ {l:List Zz},(∀ p ∈ l,p.key≠k)→getL k (l++m)=getL k m
 | [],_=>rfl
 | p :: l,h=>by rw [YO,getL,Yc (h p (by simp)),Zcm fun x hx=>h x (by simp [hx])]
theorem ZmX {k:Int} {l:List Zz} (h:∀ p ∈ l,p.key≠k):getL k l=(0,false):=by
 have:=Zcm (m:=[]) h
 rwa [YD] at this
theorem Zfr {k:Int} {m:List Zz} (hm:∀ p ∈ m,p.key≠k):∀ l:List Zz,getL k (l++m)=getL k l
 | []=>ZmX hm
 | p :: l=>by rw [YO,getL,getL,Zfr hm l]
theorem ZcZ (k:Int):∀ {t:Z5},Inc (tList t)→Zby k t=getL k (tList t)
 | .nil,_=>rfl
 | .node l p r,h=>by
  obtain ⟨h1,h2,h3,h4⟩:=Inc.parts h
  show _=getL k (tList l++p :: tList r)
  unfold Zby
  split
  ·rename_i hk
   rw [ZcZ k h1,Zfr fun x hx=>by
    rcases Yo.1 hx with rfl | hx
    ·omega
    ·have:=h4 x hx;omega]
  ·rename_i hk
   rw [Zcm fun x hx=>by have:=h3 x hx;omega,getL]
   split
   ·rw [Yc ow,ZcZ k h2]
   ·rw [Yd ow]
theorem ZmR (b:Nat) {q:List Cell} {root:Int} {l:List Zz} (k:Int) (h:Zho q root l):FnG prog 53 1 [.agg [.is (arV (some b)),.int .i64 root],.int .i64 k] [arH (some b) 65536 q] (.tup [.int .i64 (getL k l).1,.bool (getL k l).2]) (fun _=>[arH (some b) 65536 q]):=by
 obtain ⟨t,ht,hl⟩:=h
 have:=Zoh (some b) 65536 q root k t ht.rep
 rwa [ZcZ k ht.inc,hl] at this
theorem ZeO (b:Nat) {q:List Cell} {root:Int} {l:List Zz} (h:Zho q root l) (hs:l.length≤1000000):FnG prog 56 1 [.agg [.is (arV (some b)),.int .i64 root]] [arH (some b) 65536 q] (.sl Zx l) (fun _=>[arH (some b) 65536 q]):=by
 obtain ⟨t,ht,hl⟩:=h
 have:=ZlE (some b) 65536 q root t ht.rep (by rw [ZM,hl];omega)
 rwa [hl] at this
theorem sListR_c (b:Nat) {q:List Cell} {c:SqC} {l:List Int} (h:c.av=arV (some b)∧ZaT q c.root l) (hs:l.length≤1000000):FnG prog 57 1 [.agg [.is c.av,.int .i64 c.root]] [arH (some b) 65536 q] (.sl ZG l) (fun _=>[arH (some b) 65536 q]):=by
 obtain ⟨h1,t,ht,hl⟩:=h
 have hv:=ZjW t
 rw [hl] at hv
 have:=ZlG (some b) 65536 q c.root t ht ow
 rw [hl] at this
 rw [h1];exact this
theorem lookR_mem {k:Int} : ∀ {l:List Zz},(getL k l).2=true→(⟨k,(getL k l).1⟩:Zz) ∈ l
 | [],h=>by cases h
 | p :: l,h=>by
  rw [getL] at h ⊢
  split at h
  ·rename_i e;rw [Yd e,← e];exact Yag
  ·rename_i e;rw [Yc e];exact YA _ (lookR_mem h)
theorem Zjr {k:Int} : ∀ {l:List Zz},(getL k l).2=false → ∀ p ∈ l,p.key≠k
 | [],h,p,hp=>by cases hp
 | x :: l,h,p,hp=>by
  rw [getL] at h
  split at h
  ·cases h
  ·rename_i e
   rcases Yo.1 hp with rfl | hp
   ·exact e
   ·exact Zjr h p hp
def hiA (A:StA):ZS:=Zbm A.all A.seqs A.now
def txA (A:StA) (id:Int):TxD×Bool:=if (getL id A.now.txs).2=true then (Nn A.all (getL id A.now.txs).1.toNat,true) else (zeroT,false)
def Zf6 (A:StA) (k:Int):List Int:=if (getL k A.now.orders).2=true then Nn A.seqs (getL k A.now.orders).1.toNat else []
theorem ZkE {A:StA} {i:Nat} (h:i<A.now.txs.length):(hiA A).txs.take (i+1)=(hiA A).txs.take i ++ [Nn A.all (Nn A.now.txs i).val.toNat]:=by
 have hl:i<(hiA A).txs.length:=by unfold hiA Zbm;rw [YF];exact h
 rw [Z9 hl,ZE hl,ZE h]
 exact Yaf (fun x=>_ ++ [x]) (Yae _)
theorem ZkF {A:StA} {i:Nat} (h:i<A.now.orders.length):(hiA A).orders.take (i+1)=(hiA A).orders.take i ++ [⟨(Nn A.now.orders i).key,Nn A.seqs (Nn A.now.orders i).val.toNat⟩]:=by
 have hl:i<(hiA A).orders.length:=by unfold hiA Zbm;rw [YF];exact h
 rw [Z9 hl,ZE hl,ZE h]
 exact Yaf (fun x=>_ ++ [x]) (Yae _)
theorem Zm5 {A:StA} {i:Nat} (h:i=A.now.txs.length):(hiA A).txs.take i=(hiA A).txs:=by rw [YH];unfold hiA Zbm;rw [YF];omega
theorem ZmA {A:StA} {i:Nat} (h:i=A.now.orders.length):(hiA A).orders.take i=(hiA A).orders:=by rw [YH];unfold hiA Zbm;rw [YF];omega
theorem Zax.lens {A:StA} (h:Zax A):A.now.txs.length≤10000∧A.now.orders.length≤10000:=by
 have h1:=h.now_le
 have h2:=ZbL A.all A.seqs A.now
 omega
theorem Zac.sq {A:StA} {ex:List RtA} {s:StC} (h:Zac A ex s) (hk:Zax A) {p:Zz} (hp:p ∈ A.now.orders):(Nn s.sr p.val.toNat).av=arV (some s.b)∧ZaT s.q (Nn s.sr p.val.toNat).root (Nn A.seqs p.val.toNat):=by
 have h1:=hk.okn.ov p hp
 refine h.seqs _ ow (.inl ⟨A.now,by simp [rootsA],p,hp,by omega⟩)
def unsn (seen:List Nat) (cs:List (GE Int RtC)):Nat:=(cs.filter fun e=>decide (e.born ∉ seen)).length
theorem Zed {α:Type} {p p':α→Bool} (h:∀ x,p' x=true→p x=true):∀ l:List α,(l.filter p').length≤(l.filter p).length
 | []=>Yw _
 | x :: l=>by
  have ih:=Zed h l
  have hx:=h x
  rw [Yau,Yau]
  cases h1:p' x with
  | true=>rw [hx h1,Yd rfl,Yd rfl,Yp,Yp];omega
  | false=>
   rw [Yc (by simp)]
   split
   ·rw [Yp];omega
   ·exact ih
theorem ZdG {α:Type} {p p':α→Bool} (h:∀ x,p' x=true→p x=true) {e:α} (h1:p e=true) (h2:p' e=false):∀ {l:List α},e ∈ l→(l.filter p').length<(l.filter p).length
 | [],he=>by cases he
 | x :: l,he=>by
  have hle:=Zed h l
  rw [Yau,Yau]
  rcases Yo.1 he with rfl | he
  ·rw [h1,h2,Yc (by simp),Yd rfl,Yp];omega
  ·have ih:=ZdG h h1 h2 he
   have hx:=h x
   cases h3:p' x with
   | true=>rw [hx h3,Yd rfl,Yd rfl,Yp,Yp];omega
   | false=>
    rw [Yc (by simp)]
    split
    ·rw [Yp];omega
    ·exact ih
theorem Zmm {seen:List Nat} {e:GE Int RtC} (hs:e.born ∉ seen) {cs:List (GE Int RtC)} (he:e ∈ cs):unsn (seen ++ [e.born]) cs<unsn seen cs:=by
 unfold unsn
 refine ZdG (e:=e) (fun x hx=>?_) ?_ ?_ he
 ·simp only [Yj] at hx ⊢
  exact fun h=>hx (Yai _ h)
 ·simpa using hs
 ·simp
theorem Zoo {B:Zbo} {E:En} {a:Act} {w:World} {F:Fp} (h:Sat B E a w F) (n:Nat) {mv:Value} {cs:List (GE Int RtC)} {ck:Nat} (hl:Go.Gm.look E.r n=some (.ob (.val mv) (Zlj cs ck))):GWf cs ck ∧ ∀ e ∈ cs,∀ w y,(PV.int .i64 e.key).p (.int .i64 e.key) w y:=by
 obtain ⟨_,_,_,_,_,_,_,_,⟨h1,h2⟩,_⟩:=h.obGet n hl
 exact ⟨h1,fun e he w y=>⟨rfl,h2 e he⟩⟩
end Go.Proofs.YtfecljadegkmdaaGreat
