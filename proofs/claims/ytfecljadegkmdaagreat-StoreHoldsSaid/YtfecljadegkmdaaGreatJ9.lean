/- Laws and walks. No condition beyond what each says. -/
import Derived.Test.YtfecljadegkmdaaGreatJ8
import Derived.Test.YtfecljadegkmdaaGreatLibRg
namespace Go.Proofs.YtfecljadegkmdaaGreat
open Go Go.Gm Tryz
set_option linter.unusedVariables false
set_option linter.unusedSimpArgs false
set_option maxHeartbeats 4000000
set_option maxRecDepth 8000
theorem ZpN (b:Nat) (A:StA) (hok:Zax A) (hfit:Zba A) (id:Int):FnG prog 11 1 [.is (.pointer (some ⟨b,0,none⟩)),.int .i64 id] [ZR (.pointer (some ⟨b,0,none⟩)) A] (.tup [.agg (rTx (txA A id).1),.bool (txA A id).2]) (fun _=>[ZR (.pointer (some ⟨b,0,none⟩)) A]):=by
 refine FnG.mk func11 Z ntmps11 Z kr fun B F0 a w F V hG O=>?_
 obtain ⟨sc,O⟩:=O.open_ex 1 rfl
 obtain ⟨hk,O⟩:=O.open_and 1 rfl
 obtain ⟨F,O⟩:=O.peel 1 2 Z rfl
 obtain ⟨F,O⟩:=O.peel 1 3 Z rfl
 obtain ⟨F,O⟩:=O.peel 1 4 Z rfl
 obtain ⟨F,O⟩:=O.peel 1 5 Z rfl
 obtain ⟨F,O⟩:=O.peel 1 6 Z rfl
 try dsimp only at O
 obtain ⟨F,O⟩:=O.nM [1,0] [6,5,4,3,2,0]
 refine Ya (Zb O (qf (oH [.int .i64 0,.bool false,.slice none 0 0] 101) trivial qz qB) V [5,4,1,0] [101,6,5,4,3,2,0] (fun _=>rfl) (fun _=>rfl) fun τ a w F O=>?_)
 try dsimp only [RS.sub,SF.sub,CF.sub,csub,Anc.sub,List.map,zCF,rRt,rSq,Zx,rTx,ZB,Zs,ZG,rOp] at O
 generalize τ 4=v4 at O
 refine Za (Ya (Ya (rZ O (qR rr (qf (Z3 _ YbB Z .t) r1 qz qZ)) V [9,5,4,1,0] [101,6,5,4,3,2,0] fun O=>?_)))
 refine Zd O Z (fun hc0=>?_) (fun hc0=>?_)
 ·simp at hc0
 refine Yf (Za (Ya (rZ O (qR rr (qf (o_nilCheck 2 .is (by rfl)) r1 r1 (qf (oF 1 2 .adr) r1 r1 (qf (oF 0 2 .adr) r1 r1 (qf (oL true 2 2 .adr) r1 r1 (qR rr (qf (o_callG1 3 (ZmR sc.b id hk.now.t) func53 Z kr (Args.two (.pagg .t) .t)) r2 r1 (qR rr (qf (o_extract .t Z) r1 qz (qf (o_extract .t Z) r1 qz (qO rr (qO rr qZ)))))))))))) V [7,6,5,4,0] [101,6,5,4,3,2,0] fun O=>(Ya (Ya ?_)))))
 refine rZ O (qR rr (qf (ZaA .t) r1 qz qZ)) V [22,6,5,4,0] [101,6,5,4,3,2,0] fun O=>?_
 refine Zd O Z (fun hc1=>?_) (fun hc1=>?_)
 ·have hg:txA A id=(zeroT,false):=by unfold txA;rw [Yc];simpa using hc1
  refine Ya (rZ O (qf (oB [] [.int .i64 0,.bool false,.slice none 0 0] [(0,1),(1,1),(2,1)] .nil) trivial qz (qs 3 101 r2 r1 qB)) V [6,5,4,0] [101,6,5,4,3,2,0] fun O=>(Yi (Zk ?_)))
  have O:=O.fresh 1 rfl
  obtain ⟨F,O⟩:=O.push 1 6 Z Z Z kr
  obtain ⟨F,O⟩:=O.push 1 5 Z Z Z kr
  obtain ⟨F,O⟩:=O.push 1 4 Z Z Z kr
  obtain ⟨F,O⟩:=O.push 1 3 Z Z Z kr
  obtain ⟨F,O⟩:=O.push 1 2 Z Z Z kr
  have O:=O.turn 1 Z (r':=RS.hp (ZR (.pointer (some ⟨b,0,none⟩)) A)) (fun _ _ _ _ h=>⟨sc,hk,h⟩)
  obtain ⟨F,O⟩:=O.nM [6,5,4,0] [101,1,0]
  refine ZA hG O Z (.cl 101 true 3 Z Z (.tmp Z .nil)) (.two (by rw [hg];first | exact .aggU Z Z | exact .aggLe Z ⟨.refl,.refl,.nilSl,tv⟩) (.bool (by rw [hg]))) rfl
 have hl:(getL id A.now.txs).2=true:=by simpa using hc1
 have hg:txA A id=(Nn A.all (getL id A.now.txs).1.toNat,true):=by unfold txA;rw [Yd hl]
 have hv:=(hok.okn.tv _ (lookR_mem hl)).1
 dsimp only at hv
 refine Yf (Za (Ya (Zf O (qR rr (qf (o_nilCheck 2 .is (by rfl)) r1 r1 (qf (oF 8 2 .adr) r1 r1 (qa 2 r1 r1 (qR rr (qf (o_indexAddr_row (sz:=3) 5 (.mk Ybw kr) .is .t ow ow (by rfl)) r2 r1 (qf (Zn (ag:=true) (sz':=3) (sz:=3) 5 .t (by intro x;rfl) ow kr kr kr) r1 r1 (qf (oP (scopied_c (Nn A.all (getL id A.now.txs).1.toNat) (by have:=hfit.ops _ (Z8 (show (getL id A.now.txs).1.toNat<A.all.length by omega));omega)) func54 (Args.one (.pagg .t))) r1 qz (qf (oA 3 101 .is (.conv .t .agg)) r2 r1 qB))))))))) V [5,4] [101,6,5,4,3,2,0] Z Z fun a w F O=>?_)))
 try simp only [Yg] at O
 refine Za (Yi ?_)
 have O:=O.fresh 1 rfl
 obtain ⟨F,O⟩:=O.push 1 6 Z Z Z kr
 obtain ⟨F,O⟩:=O.push 1 5 Z Z Z kr
 obtain ⟨F,O⟩:=O.push 1 4 Z Z Z kr
 obtain ⟨F,O⟩:=O.push 1 3 Z Z Z kr
 obtain ⟨F,O⟩:=O.push 1 2 Z Z Z kr
 have O:=O.turn 1 Z (r':=RS.hp (ZR (.pointer (some ⟨b,0,none⟩)) A)) (fun _ _ _ _ h=>⟨sc,hk,h⟩)
 obtain ⟨F,O⟩:=O.nM [5,4] [101,1,0]
 refine ZA hG O Z (.cl 101 true 3 Z Z (.tmp Z .nil)) (.two (by rw [hg];first | exact .aggU Z Z | exact .aggLe Z ⟨.refl,.refl,.nilSl,tv⟩) (.bool (by rw [hg]))) rfl
theorem Zmg (b:Nat) (A:StA) (hok:Zax A) (hfit:Zba A) (key:Int):FnG prog 19 1 [.is (.pointer (some ⟨b,0,none⟩)),.int .i64 key] [ZR (.pointer (some ⟨b,0,none⟩)) A] (.sl ZG (Zf6 A key)) (fun _=>[ZR (.pointer (some ⟨b,0,none⟩)) A]):=by
 refine FnG.mk func19 Z ntmps19 Z kr fun B F0 a w F V hG O=>?_
 obtain ⟨sc,O⟩:=O.open_ex 1 rfl
 obtain ⟨hk,O⟩:=O.open_and 1 rfl
 obtain ⟨F,O⟩:=O.peel 1 2 Z rfl
 obtain ⟨F,O⟩:=O.peel 1 3 Z rfl
 obtain ⟨F,O⟩:=O.peel 1 4 Z rfl
 obtain ⟨F,O⟩:=O.peel 1 5 Z rfl
 obtain ⟨F,O⟩:=O.peel 1 6 Z rfl
 try dsimp only at O
 obtain ⟨F,O⟩:=O.nM [1,0] [6,5,4,3,2,0]
 refine Ya (rZ O (qC qZ) V [4,1,0] [6,5,4,3,2,0] fun O=>(Ya (Ya ?_)))
 refine rZ O (qR rr (qf (Z3 _ YbB Z .t) r1 qz qZ)) V [8,4,1,0] [6,5,4,3,2,0] fun O=>?_
 refine Zd O Z (fun hc0=>?_) (fun hc0=>?_)
 ·simp at hc0
 refine Yf (Za (Ya (rZ O (qR rr (qf (o_nilCheck 2 .is (by rfl)) r1 r1 (qf (oF 1 2 .adr) r1 r1 (qf (oF 2 2 .adr) r1 r1 (qf (oL true 2 2 .adr) r1 r1 (qR rr (qf (o_callG1 3 (ZmR sc.b key hk.now.o) func53 Z kr (Args.two (.pagg .t) .t)) r2 r1 (qR rr (qf (o_extract .t Z) r1 qz (qf (o_extract .t Z) r1 qz (qO rr (qO rr qZ)))))))))))) V [6,5,4,0] [6,5,4,3,2,0] fun O=>(Ya (Ya ?_)))))
 refine rZ O (qR rr (qf (ZaA .t) r1 qz qZ)) V [20,5,4,0] [6,5,4,3,2,0] fun O=>?_
 refine Zd O Z (fun hc1=>?_) (fun hc1=>?_)
 ·have hg:Zf6 A key = []:=by unfold Zf6;rw [Yc];simpa using hc1
  refine Ya (rZ O (qC qZ) V [5,4,0] [6,5,4,3,2,0] fun O=>(Yi (Zk ?_)))
  have O:=O.fresh 1 rfl
  obtain ⟨F,O⟩:=O.push 1 6 Z Z Z kr
  obtain ⟨F,O⟩:=O.push 1 5 Z Z Z kr
  obtain ⟨F,O⟩:=O.push 1 4 Z Z Z kr
  obtain ⟨F,O⟩:=O.push 1 3 Z Z Z kr
  obtain ⟨F,O⟩:=O.push 1 2 Z Z Z kr
  have O:=O.turn 1 Z (r':=RS.hp (ZR (.pointer (some ⟨b,0,none⟩)) A)) (fun _ _ _ _ h=>⟨sc,hk,h⟩)
  obtain ⟨F,O⟩:=O.nM [5,4,0] [1,0]
  refine ZA hG O Z (.tmp Z .nil) (.one (by rw [hg];first | exact .sl Z | exact .trans .nilSl (.sl Z))) rfl
 have hl:(getL key A.now.orders).2=true:=by simpa using hc1
 have hg:Zf6 A key=Nn A.seqs (getL key A.now.orders).1.toNat:=by unfold Zf6;rw [Yd hl]
 have hm:=lookR_mem hl
 have hv:=hok.okn.ov _ hm
 have hsl:=hk.len
 dsimp only at hv
 refine Yf (Za (Ya (Zf O (qR rr (qf (o_nilCheck 2 .is (by rfl)) r1 r1 (qf (oF 9 2 .adr) r1 r1 (qa 2 r1 r1 (qR rr (qf (o_indexAddr_row (sz:=2) 6 (.mk YbD kr) .is .t ow ow (by rfl)) r2 r1 (qf (Zn (ag:=true) (sz':=2) (sz:=2) 6 .t (by intro x;rfl) ow kr kr kr) r1 r1 (qf (o_callG1 3 (sListR_c sc.b (l:=Nn A.seqs (getL key A.now.orders).1.toNat) (c:=Nn sc.sr (getL key A.now.orders).1.toNat) (hk.sq hok hm) (by have:=hfit.len _ (Z8 (show (getL key A.now.orders).1.toNat<A.seqs.length by omega));omega)) func57 Z kr (Args.one (.pagg .t))) r1 r1 (qO rr qZ))))))))) V [4] [6,5,4,3,2,0] Z Z fun a w F O=>?_)))
 try simp only [Yg] at O
 refine Za (Yi ?_)
 have O:=O.fresh 1 rfl
 obtain ⟨F,O⟩:=O.push 1 6 Z Z Z kr
 obtain ⟨F,O⟩:=O.push 1 5 Z Z Z kr
 obtain ⟨F,O⟩:=O.push 1 4 Z Z Z kr
 obtain ⟨F,O⟩:=O.push 1 3 Z Z Z kr
 obtain ⟨F,O⟩:=O.push 1 2 Z Z Z kr
 have O:=O.turn 1 Z (r':=RS.hp (ZR (.pointer (some ⟨b,0,none⟩)) A)) (fun _ _ _ _ h=>⟨sc,hk,h⟩)
 obtain ⟨F,O⟩:=O.nM [4] [1,0]
 refine ZA hG O Z (.tmp Z .nil) (.one (by rw [hg];first | exact .sl Z | exact .trans .nilSl (.sl Z))) rfl
theorem Zj0 (b:Nat) (A:StA) (hok:Zax A) (hfit:Zba A):FnG prog 14 1 [.is (.pointer (some ⟨b,0,none⟩))] [ZR (.pointer (some ⟨b,0,none⟩)) A] (.agg (Zs (hiA A))) (fun _=>[ZR (.pointer (some ⟨b,0,none⟩)) A]):=by
 refine FnG.mk func14 Z ntmps14 Z kr fun B F0 a w F V hG O=>?_
 obtain ⟨sc,O⟩:=O.open_ex 1 rfl
 obtain ⟨hk,O⟩:=O.open_and 1 rfl
 obtain ⟨F,O⟩:=O.peel 1 2 Z rfl
 obtain ⟨F,O⟩:=O.peel 1 3 Z rfl
 obtain ⟨F,O⟩:=O.peel 1 4 Z rfl
 obtain ⟨F,O⟩:=O.peel 1 5 Z rfl
 obtain ⟨F,O⟩:=O.peel 1 6 Z rfl
 try dsimp only at O
 obtain ⟨F,O⟩:=O.nM [0] [6,5,4,3,2,0]
 have hlen:=hok.lens
 refine Ya (Zb O (qf (oH [.slice none 0 0,.slice none 0 0] 101) trivial qz qZ) V [2,0] [101,6,5,4,3,2,0] (fun _=>rfl) (fun _=>rfl) fun τ a w F O=>?_)
 try dsimp only [RS.sub,SF.sub,CF.sub,csub,Anc.sub,List.map,zCF,rRt,rSq,Zx,rTx,ZB,Zs,ZG,rOp] at O
 generalize τ 2=v2 at O
 refine Za (Ya (Zb O (qf (oH [.slice none 0 0,.slice none 0 0] 102) trivial qz qZ) V [3,2,0] [102,101,6,5,4,3,2,0] (fun _=>rfl) (fun _=>rfl) fun τ a w F O=>?_))
 try dsimp only [RS.sub,SF.sub,CF.sub,csub,Anc.sub,List.map,zCF,rRt,rSq,Zx,rTx,ZB,Zs,ZG,rOp] at O
 generalize τ 3=v3 at O
 refine Za (Ya (Ya (rZ O (qR rr (qf (Z3 _ YbB Z .t) r1 qz qZ)) V [9,3,2,0] [102,101,6,5,4,3,2,0] fun O=>?_)))
 refine Zd O Z (fun hc0=>?_) (fun hc0=>?_)
 ·simp at hc0
 refine Yf (Za (Ya (Ya (rZ O (qR rr (qf (o_nilCheck 2 .is (by rfl)) r1 r1 (qf (oF 1 2 .adr) r1 r1 (qf (oF 0 2 .adr) r1 r1 (qf (oL true 2 2 .adr) r1 r1 (qf (o_callG1 3 (ZeO sc.b hk.now.t ow) func56 Z kr (Args.one (.pagg .t))) r1 r1 (qu YbC r1 (qJ qZ)))))))) V [18,17,16,3,2,0] [102,101,6,5,4,3,2,0] fun O=>Ye ?_))))
 replace O:=O.fresh 50 rfl
 replace O:=O.turn 50 Z (ZaI (T:=36) (sz:=3) (R:=rTx))
 refine Zo (σ:=(Nat)×(Value)×(List TxD)) [0,2,3,16,17] [0,2,3,4,5,6,101] (fun s=>[(18,.pv (.int .i64 (s.1:Int)))]) (fun s=>[(102,.pt (.val v3) 30 [.pv (.is s.2.1),.pv (.is (.slice none 0 0))]),(50,.ob (.val s.2.1) (ZJ 36 3 rTx s.2.2))]) (fun s=>s.1≤A.now.txs.length∧(s.2.2=(hiA A).txs.take s.1)) (fun s=>A.now.txs.length - s.1) ((0),(.slice none 0 0),([])) O ⟨rfl,rfl,rfl,rfl,rfl,rfl,tv⟩ ⟨rfl,rfl,rfl,rfl,rfl,rfl,rfl,rfl,rfl,tv⟩ ⟨Yz _,rfl⟩ ?_
 clear O;intro s a w F hC O
 obtain ⟨i,u,out⟩:=s
 try dsimp only at hC
 obtain ⟨F,O⟩:=O.nM [18,17,16,3,2,0] [102,101,50,6,5,4,3,2,0]
 try dsimp only at O
 obtain ⟨hi,hq⟩:=hC
 have hol:out.length≤i:=by rw [hq,Yk];omega
 refine Ya (rZ O (qL r2) V [19,18,17,16,3,2,0] [102,101,50,6,5,4,3,2,0] fun O=>Ya ?_)
 refine Zd O Z (fun hc1=>?_) (fun hc1=>?_)
 ·have hil:i<A.now.txs.length:=by simp at hc1;omega
  have hv:=(hok.okn.tv _ (Z8 hil)).1
  refine Yf (Za (Ya (Ye (Ya (Zb O (qy 2 YbC r2 (qf (oR true 2 .t) r1 qz (qf (oH [.int .i64 0,.int .i64 0] 103) trivial qz (qS 2 103 r2 r1 qZ)))) V [18,17,16,5,3,2,0] [103,102,101,50,6,5,4,3,2,0] (fun _=>rfl) (fun _=>rfl) fun τ a w F O=>?_)))))
  try dsimp only [RS.sub,SF.sub,CF.sub,csub,Anc.sub,List.map,Ze,xL,xM,Nat.reduceAdd,xD,xE,xT,xU,xC,xN,zCF,ldSF,rRt,rSq,Zx,rTx,ZB,Zs,ZG,rOp] at O
  generalize τ 5=v5 at O
  try simp only [Yg] at O
  refine Za (Zau O (qg 0 102 r1 r1 (qa 102 r1 r1 (qR rr (qf (o_nilCheck 2 .is (by rfl)) r1 r1 (qf (oF 8 2 .adr) r1 r1 (qa 2 r1 r1 (qg 1 103 r1 r1 (qa 103 r1 r1 (qf (o_indexAddr_row (sz:=3) 5 (.mk Ybw kr) .is .t ow ow (by rfl)) r2 r1 (qf (Zn (ag:=true) (sz':=3) (sz:=3) 5 .t (by intro x;rfl) ow kr kr kr) r1 r1 (qf (oP (scopied_c (Nn A.all (Nn A.now.txs i).val.toNat) (by have:=hfit.ops _ (Z8 (show (Nn A.now.txs i).val.toNat<A.all.length by omega));omega)) func54 (Args.one (.pagg .t))) r1 qz (qf (Zy (sz:=3) (zs:=[.int .i64 0,.bool false,.slice none 0 0]) (r:=[(0,.tmp 32)]) (l:=[_,_,_]) Ybw kr kr kr kr Z Z (.agg Z (.conv .t .agg) kr kr .nil) Z) r1 qz (qf (Z1 (sz:=3) (bs:=40) 50 (.mk' Ybw kr kr) (by intro x;rfl) .is (.arr (l':=[Nn A.all (Nn A.now.txs i).val.toNat]) .t) (by simp only [Yp,Yx];omega) (by decide)) ⟨rfl,rfl,tv⟩ ⟨rfl,tv⟩ (qg 0 102 r1 r1 (qf (ZaU 102 .adr kr kr) r2 r1 qZ))))))))))))))) V [18,17,16,3,2,0] [103,102,101,50,6,5,4,3,2,0] (fun _=>rfl) (fun _=>rfl) fun τ a w F O=>?_)
  try dsimp only [RS.sub,SF.sub,CF.sub,csub,Anc.sub,List.map,Ze,xL,xM,Nat.reduceAdd,xD,xE,xT,xU,xC,xN,zCF,ldSF,rRt,rSq,Zx,rTx,ZB,Zs,ZG,rOp] at O
  generalize τ 34=v34 at O
  try simp only [Yg] at O
  refine Zm (Za (rZ O (qp r1 (qR rr qZ)) V [18,17,16,3,2,0] [103,102,101,50,6,5,4,3,2,0] fun O=>?_))
  replace O:=O.ent (i:=18) (s':=.pv (.int .i64 ((i+1:Nat):Int))) Z (.int (Zl ow))
  obtain ⟨F,O⟩:=O.nM [17,16,3,2,0,18] [101,6,5,4,3,2,0,50,102]
  exact ⟨((i+1),_,_),F,⟨by omega,(by rw [hq];exact (ZkE hil).symm)⟩,O,by omega⟩
 have hil:i=A.now.txs.length:=by simp at hc1;omega
 obtain ⟨F,O⟩:=O.giveCell 50 102 0 Z Z Z Z rfl
 try dsimp only [List.set] at O
 obtain ⟨F,O⟩:=O.nM [19,18,17,16,3,2,0] [102,101,6,5,4,3,2,0]
 rw [hq,Zm5 hil] at O
 refine Yr (Zj (Zj (Zv (Za (Ya (Ya (rZ O (qR rr (qf (o_nilCheck 2 .is (by rfl)) r1 r1 (qf (oF 1 2 .adr) r1 r1 (qf (oF 2 2 .adr) r1 r1 (qf (oL true 2 2 .adr) r1 r1 (qf (o_callG1 3 (ZeO sc.b hk.now.o ow) func56 Z kr (Args.one (.pagg .t))) r1 r1 (qu YbC r1 (qJ qZ)))))))) V [44,43,42,3,2,0] [102,101,6,5,4,3,2,0] fun O=>Ye ?_)))))))
 replace O:=O.fresh 51 rfl
 replace O:=O.turn 51 Z (ZaI (T:=39) (sz:=2) (R:=ZB))
 refine Zo (σ:=(Nat)×(Value)×(List Zr)) [0,2,3,42,43] [0,2,3,4,5,6,101] (fun s=>[(44,.pv (.int .i64 (s.1:Int)))]) (fun s=>[(102,.pt (.val v3) 30 [.pv (.sl rTx (hiA A).txs),.pv (.is s.2.1)]),(51,.ob (.val s.2.1) (ZJ 39 2 ZB s.2.2))]) (fun s=>s.1≤A.now.orders.length∧(s.2.2=(hiA A).orders.take s.1)) (fun s=>A.now.orders.length - s.1) ((0),(.slice none 0 0),([])) O ⟨rfl,rfl,rfl,rfl,rfl,rfl,tv⟩ ⟨rfl,rfl,rfl,rfl,rfl,rfl,rfl,rfl,rfl,tv⟩ ⟨Yz _,rfl⟩ ?_
 clear O;intro s a w F hC O
 obtain ⟨i,u,out⟩:=s
 try dsimp only at hC
 obtain ⟨F,O⟩:=O.nM [44,43,42,3,2,0] [102,101,51,6,5,4,3,2,0]
 try dsimp only at O
 obtain ⟨hi,hq⟩:=hC
 have hol:out.length≤i:=by rw [hq,Yk];omega
 refine Ya (rZ O (qL r2) V [45,44,43,42,3,2,0] [102,101,51,6,5,4,3,2,0] fun O=>Ya ?_)
 refine Zd O Z (fun hc2=>?_) (fun hc2=>?_)
 ·have hil:i<A.now.orders.length:=by simp at hc2;omega
  have hv:=hok.okn.ov _ (Z8 hil)
  have hsl:=hk.len
  refine Yf (Za (Ya (Ye (Ya (Zb O (qy 2 YbC r2 (qf (oR true 2 .t) r1 qz (qf (oH [.int .i64 0,.int .i64 0] 104) trivial qz (qS 2 104 r2 r1 qZ)))) V [44,43,42,7,3,2,0] [104,102,101,51,6,5,4,3,2,0] (fun _=>rfl) (fun _=>rfl) fun τ a w F O=>?_)))))
  try dsimp only [RS.sub,SF.sub,CF.sub,csub,Anc.sub,List.map,Ze,xL,xM,Nat.reduceAdd,xD,xE,xT,xU,xC,xN,zCF,ldSF,rRt,rSq,Zx,rTx,ZB,Zs,ZG,rOp] at O
  generalize τ 7=v7 at O
  try simp only [Yg] at O
  refine Za (Zau O (qg 1 102 r1 r1 (qa 102 r1 r1 (qg 0 104 r1 r1 (qa 104 r1 r1 (qR rr (qf (o_nilCheck 2 .is (by rfl)) r1 r1 (qf (oF 9 2 .adr) r1 r1 (qa 2 r1 r1 (qg 1 104 r1 r1 (qa 104 r1 r1 (qf (o_indexAddr_row (sz:=2) 6 (.mk YbD kr) .is .t ow ow (by rfl)) r2 r1 (qf (Zn (ag:=true) (sz':=2) (sz:=2) 6 .t (by intro x;rfl) ow kr kr kr) r1 r1 (qf (o_callG1 3 (sListR_c sc.b (c:=Nn sc.sr (Nn A.now.orders i).val.toNat) (hk.sq hok (Z8 hil)) (by have:=hfit.len _ (Z8 (show (Nn A.now.orders i).val.toNat<A.seqs.length by omega));omega)) func57 Z kr (Args.one (.pagg .t))) r1 r1 (qf (oB [(0,.tmp 51),(1,.tmp 60)] [.int .i64 0,.slice none 0 0] [(0,1),(1,1)] (.one Z .t one_int kr (.one Z .t Zcc kr .nil))) r2 qz (qf (Zy (sz:=2) (zs:=[.int .i64 0,.slice none 0 0]) (r:=[(0,.tmp 61)]) (l:=[_,_]) Ybx kr kr kr kr Z Z (.agg Z .t kr kr .nil) Z) r1 qz (qf (Z1 (sz:=2) (bs:=32) 51 (.mk' Ybx kr kr) (by intro x;rfl) .is (.arr (l':=[(⟨(Nn A.now.orders i).key,Nn A.seqs (Nn A.now.orders i).val.toNat⟩:Zr)]) .t) (by simp only [Yp,Yx];omega) (by decide)) ⟨rfl,rfl,tv⟩ ⟨rfl,tv⟩ (qg 1 102 r1 r1 (qf (ZaU 102 .adr kr kr) r2 r1 qZ)))))))))))))))))) V [44,43,42,3,2,0] [104,102,101,51,6,5,4,3,2,0] (fun _=>rfl) (fun _=>rfl) fun τ a w F O=>?_)
  try dsimp only [RS.sub,SF.sub,CF.sub,csub,Anc.sub,List.map,Ze,xL,xM,Nat.reduceAdd,xD,xE,xT,xU,xC,xN,zCF,ldSF,rRt,rSq,Zx,rTx,ZB,Zs,ZG,rOp] at O
  generalize τ 63=v63 at O
  try simp only [Yg] at O
  refine Zm (Za (rZ O (qp r1 (qR rr qZ)) V [44,43,42,3,2,0] [104,102,101,51,6,5,4,3,2,0] fun O=>?_))
  replace O:=O.ent (i:=44) (s':=.pv (.int .i64 ((i+1:Nat):Int))) Z (.int (Zl ow))
  obtain ⟨F,O⟩:=O.nM [43,42,3,2,0,44] [101,6,5,4,3,2,0,51,102]
  exact ⟨((i+1),_,_),F,⟨by omega,(by rw [hq];exact (ZkF hil).symm)⟩,O,by omega⟩
 have hil:i=A.now.orders.length:=by simp at hc2;omega
 obtain ⟨F,O⟩:=O.giveCell 51 102 1 Z Z Z Z rfl
 try dsimp only [List.set] at O
 obtain ⟨F,O⟩:=O.nM [45,44,43,42,3,2,0] [102,101,6,5,4,3,2,0]
 rw [hq,ZmA hil] at O
 refine Yr (Zj (Zj (Zv (Za (Ya (rZ O (qe 2 102 r1 r1 (qs 2 101 r2 r1 qZ)) V [2] [102,101,6,5,4,3,2,0] fun O=>Yi ?_))))))
 have O:=O.fresh 1 rfl
 obtain ⟨F,O⟩:=O.push 1 6 Z Z Z kr
 obtain ⟨F,O⟩:=O.push 1 5 Z Z Z kr
 obtain ⟨F,O⟩:=O.push 1 4 Z Z Z kr
 obtain ⟨F,O⟩:=O.push 1 3 Z Z Z kr
 obtain ⟨F,O⟩:=O.push 1 2 Z Z Z kr
 have O:=O.turn 1 Z (r':=RS.hp (ZR (.pointer (some ⟨b,0,none⟩)) A)) (fun _ _ _ _ h=>⟨sc,hk,h⟩)
 obtain ⟨F,O⟩:=O.nM [2] [102,101,1,0]
 refine ZA hG O Z (.cl 101 true 2 Z Z .nil) (.one (.aggU Z Z)) rfl
theorem ZjM (b:Nat) (A:StA) (hok:Zax A) (hfit:Zba A):FnG prog 15 1 [.is (.pointer (some ⟨b,0,none⟩))] [ZR (.pointer (some ⟨b,0,none⟩)) A] (.int .i64 (ZaH A)) (fun _=>[ZR (.pointer (some ⟨b,0,none⟩)) A]):=by
 refine FnG.mk func15 Z ntmps15 Z kr fun B F0 a w F V hG O=>?_
 obtain ⟨sc,O⟩:=O.open_ex 1 rfl
 obtain ⟨hk,O⟩:=O.open_and 1 rfl
 obtain ⟨F,O⟩:=O.peel 1 2 Z rfl
 obtain ⟨F,O⟩:=O.peel 1 3 Z rfl
 obtain ⟨F,O⟩:=O.peel 1 4 Z rfl
 obtain ⟨F,O⟩:=O.peel 1 5 Z rfl
 obtain ⟨F,O⟩:=O.peel 1 6 Z rfl
 try dsimp only at O
 obtain ⟨F,O⟩:=O.nM [0] [6,5,4,3,2,0]
 have hnz:=hk.now.s
 obtain ⟨hwf,hKI⟩:=Zoo O 4 rfl
 refine Ya (rZ O (qI qZ) V [2,0] [6,5,4,3,2,0] fun O=>(Ya (Ya ?_)))
 refine rZ O (qR rr (qf (Z3 _ YbB Z .t) r1 qz qZ)) V [7,2,0] [6,5,4,3,2,0] fun O=>?_
 refine Zd O Z (fun hc0=>?_) (fun hc0=>?_)
 ·simp at hc0
 refine Yf (Za (Ya (rZ O (qR rr (qf (o_nilCheck 2 .is (by rfl)) r1 r1 (qf (oF 1 2 .adr) r1 r1 (qf (oF 4 2 .adr) r1 r1 (qa 2 r1 r1 (qO rr qZ)))))) V [3,2,0] [6,5,4,3,2,0] fun O=>(Ya (Ya ?_)))))
 refine Zb O (qR rr (qf (o_nilCheck 2 .is (by rfl)) r1 r1 (qf (oF 6 2 .adr) r1 r1 (qa 2 r1 r1 (qf (Zkh 4 101 YbG .is) r1 r1 qZ))))) V [17,3,2] [101,6,5,4,3,2,0] (fun _=>rfl) (fun _=>rfl) fun τ a w F O=>?_
 try dsimp only [RS.sub,SF.sub,CF.sub,csub,Anc.sub,List.map,xD,xE,xT,xU,ldSF,rRt,rSq,Zx,rTx,ZB,Zs,ZG,rOp] at O
 generalize τ 17=v17 at O
 refine Za (Ye ?_)
 replace O:=O.ent (i:=3) (s':=.pv (.int .i64 (A.now.size+Zaa [] sc.cs))) Z (.int (by rw [ZfK];first | omega | (rw [hk.now.s];omega)))
 refine Zo (σ:=List Nat) [2,17] [0,2,3,4,5,6] (fun s=>[(3,.pv (.int .i64 (A.now.size+Zaa s sc.cs)))]) (fun s=>[(101,.ob (.val v17) (iterM sc.mv sc.ck s))]) (fun s=>True) (fun s=>unsn s sc.cs) ([]) O ⟨rfl,rfl,rfl,tv⟩ ⟨rfl,rfl,rfl,rfl,rfl,rfl,rfl,tv⟩ trivial ?_
 clear O;intro seen a w F hC O
 try dsimp only at hC
 obtain ⟨F,O⟩:=O.nM [17,3,2] [101,6,5,4,3,2,0]
 try dsimp only at O
 refine Ya (Zb O (qf (ZlP 101 4 .is) r1 r2 (qf (ZmE 101 (by decide)) qz r1 qZ)) V [19,17,3,2] [101,6,5,4,3,2,0] (fun _=>rfl) (fun _=>rfl) fun τ a w F O=>?_)
 try dsimp only [RS.sub,SF.sub,CF.sub,csub,Anc.sub,List.map,rRt,rSq,Zx,rTx,ZB,Zs,ZG,rOp] at O
 generalize τ 18=v18 at O
 refine Za (Ya (Zd O Z (fun hc1=>?_) (fun hc1=>?_)))
 ·obtain ⟨e,he,hns,O⟩:=O.nextTrue 101 rfl hc1
  obtain ⟨F,O⟩:=O.nM [19,17,3,2] [101,6,5,4,3,2,0]
  refine Yf (Za (Ye (Ya (Zb O (qf (Zj2 (kp:=.int .i64 e.key) 101 4 he (hKI e he) .is) r1 r2 (qf (o_extract .t Z) r1 qz (qf (oH [.pointer none,.int .i64 0,.pointer none,.int .i64 0,.int .i64 0] 102) trivial qz (qf (oA 5 102 .same (.conv .t .agg)) r2 r1 qZ)))) V [17,5,3,2] [102,101,6,5,4,3,2,0] (fun _=>rfl) (fun _=>rfl) fun τ a w F O=>?_))))
  try dsimp only [RS.sub,SF.sub,CF.sub,csub,Anc.sub,List.map,Ze,xL,xM,Nat.reduceAdd,xD,xE,xT,xU,xC,xN,zCF,rRt,rSq,Zx,rTx,ZB,Zs,ZG,rOp] at O
  generalize τ 5=v5 at O
  refine Za (Zf O (qR rr (qg 4 102 r1 r1 (qa 102 r1 r1 (qf (o_add .t .t) r2 qz (qO rr qZ))))) V [17,3,2] [102,101,6,5,4,3,2,0] Z Z fun a w F O=>Zm (Za ?_))
  replace O:=O.ent (i:=3) (s':=.pv (.int .i64 (A.now.size+Zaa (seen ++ [e.born]) sc.cs))) Z (.int (by have h1:=hk.held hok seen;have h2:=hk.held hok (seen ++ [e.born]);have h3:=Zdp hns hwf.1 he;rw [Zc ow];omega))
  obtain ⟨F,O⟩:=O.nM [17,2,3] [6,5,4,3,2,0,101]
  exact ⟨(seen ++ [e.born]),F,tv,O,Zmm hns he⟩
 obtain ⟨hall,O⟩:=O.nextFalse 101 rfl hc1
 obtain ⟨F,O⟩:=O.nM [19,17,3,2] [101,6,5,4,3,2,0]
 refine Yr (Zj (Zj (Zv (Za (Ya (rZ O (qR rr (qO rr qZ)) V [2] [101,6,5,4,3,2,0] fun O=>Yi ?_))))))
 have O:=O.fresh 1 rfl
 obtain ⟨F,O⟩:=O.push 1 6 Z Z Z kr
 obtain ⟨F,O⟩:=O.push 1 5 Z Z Z kr
 obtain ⟨F,O⟩:=O.push 1 4 Z Z Z kr
 obtain ⟨F,O⟩:=O.push 1 3 Z Z Z kr
 obtain ⟨F,O⟩:=O.push 1 2 Z Z Z kr
 have O:=O.turn 1 Z (r':=RS.hp (ZR (.pointer (some ⟨b,0,none⟩)) A)) (fun _ _ _ _ h=>⟨sc,hk,h⟩)
 obtain ⟨F,O⟩:=O.nM [2] [101,1,0]
 refine ZA hG O Z (.tmp Z .nil) (.one (.int (hk.held_all hok hall))) rfl
section
variable {P:Program} {ty:TypeId} {pos:String} {af:Array Edge} {g:Option (Nat×Bool)} {ps:List (Nat×SF)}
theorem OpC.res2 {o:Oper} {q:SF} {n m:Nat} {r r' r2 r2' s s' s2 s2':RS} (h:OpC P o ⟨ps,[(n,r),(m,s)],q,[(n,r2),(m,s2)]⟩) (hr:∀ τ w fb y,r'.holds τ w fb y→r.holds τ w fb y) (hq:∀ τ w fb y,r2.holds τ w fb y→r2'.holds τ w fb y) (hr2:∀ τ w fb y,s'.holds τ w fb y→s.holds τ w fb y) (hq2:∀ τ w fb y,s2.holds τ w fb y→s2'.holds τ w fb y):OpC P o ⟨ps,[(n,r'),(m,s')],q,[(n,r2'),(m,s2')]⟩:=fun a w F K Q hw hs hp ht=>
 h a w F K Q hw hs (fun x hx=>by
  simp only [Yo,Yat,YaS] at hx
  rcases hx with rfl | rfl
  ·exact hr _ _ _ _ (hp (n,r') (by simp))
  ·exact hr2 _ _ _ _ (hp (m,s') (by simp))) (fun v w' F' h1 h2 h3 h4=>ht v w' F' h1 h2 h3 (fun x hx=>by
  simp only [Yo,Yat,YaS] at hx
  rcases hx with rfl | rfl
  ·exact hq _ _ _ _ (h4 (n,r2) (by simp))
  ·exact hq2 _ _ _ _ (h4 (m,s2) (by simp))))
theorem ZgQ {f:FuncId} {args:Array Operand} {tys:Array TypeId} {d':Nat} {avs:List PV} {T:TypeId} {cells cells':List CF} {v u:Value} {k k':Value→HP} {q:PV} {fn:Func} (n m:Nat) (hd:Zdg (cdeps cells)=true) (hd':Zdg (cdeps cells')=true)
    (hc : FnG P f 2 avs [Zo1 T cells v, k u] q (fun _ => [Zo1 T cells' v, k' u])) (hf : P.funcs[f]? = some fn) (hb : fn.body.isSome = true) (hn : (fn.name == "runtime.NumGoroutine") = false) (hne : Nat.beq n m = false)
    (ha:∀ (a:Act) w y,Hps ps (Act.tau a) w y → ∃ vs:List Value,args.map a.eval=vs.toArray∧PVt avs vs w y) :
    OpC P ⟨some d',.call { callee:=.value (.func f),args:=args,argTypes:=tys },ty,pos,af,g⟩ ⟨ps,[(n,.pt (.val v) T cells),(m,.ob (.val u) k)],.pv q,[(n,.pt (.val v) T cells'),(m,.ob (.val u) k')]⟩:=
  OpC.res2 (o_callG2c n m hc hf hb hn hne ha) (fun τ w fb y h=>Zoz hd τ w fb y h) (fun τ w fb y h=>Zom hd' τ w fb y h) (fun _ _ _ _ h=>h) (fun _ _ _ _ h=>h)
def ZfV (r:RS):Prop:=∀ (τ τ':Tau) (w w':World) (f f' y y':Ys),r.holds τ w f y→r.holds τ' w' f' y' → (∀ c,f c ↔ f' c) ∧ ∀ c,f c→w'.heap[c]? = w.heap[c]?
theorem OpC.still {o:Oper} {q:SF} {pr:List (Nat×RS)} (h:OpC P o ⟨ps,pr,q,pr⟩) (hx:∀ x ∈ pr,ZfV x.2):OpC P o ⟨ps,pr,q,[]⟩:=fun a w F K Q hw hs hp ht=>
 h a w F K Q hw hs hp fun v w' F' h1 h2 h3 h4=>by
  have hF:F' = F:=by
   funext n c
   by_cases hn:n ∈ pr.map (·.1)
   ·obtain ⟨x,hm,rfl⟩:=Yv.1 hn
    exact propext ((hx x hm _ _ _ _ _ _ _ _ (hp x hm) (h4 x hm)).1 c).symm
   ·exact congrFun (h2.fkeep n hn) c
  subst hF
  refine ht v w' F' h1 ⟨h2.os,h2.tape,h2.output,h2.size,fun b hb _=>?_,fun _ _=>rfl,fun n hn=>by cases hn⟩ h3 (fun x hx=>by cases hx)
  by_cases hm:∃ x ∈ pr,F' x.1 b
  ·obtain ⟨x,hm,hb2⟩:=hm
   exact (hx x hm _ _ _ _ _ _ _ _ (hp x hm) (h4 x hm)).2 b hb2
  ·refine h2.keep b hb fun n hn hb2=>?_
   obtain ⟨x,hx2,rfl⟩:=Yv.1 hn
   exact hm ⟨x,hx2,hb2⟩
def Zey (p:PV):Prop:=∃ u,∀ w y v,p.p v w y→v=u
theorem ZfT:∀ {l:List PV},(∀ p ∈ l,Zey p) → ∃ us:List Value,∀ w y vs,PVs l vs w y→vs=us
 | [],_=>⟨[],fun w y vs h=>by cases vs with | nil=>rfl | cons v vs=>exact h.elim⟩
 | p :: l,h=>by
  obtain ⟨u,hu⟩:=h p Yag
  obtain ⟨us,hus⟩:=ZfT fun q hq=>h q (YA _ hq)
  refine ⟨u :: us,fun w y vs k=>?_⟩
  cases vs with
  | nil=>exact k.elim
  | cons v vs=>rw [hu w y v k.1.2,hus w y vs k.2]
theorem ZlH {l:List PV} (h:∀ p ∈ l,Zey p):Zey (.agg l):=by
 obtain ⟨us,hus⟩:=ZfT h
 exact ⟨.agg us.toArray,fun w y v ⟨vs,e,k⟩=>by rw [e,hus w y vs k]⟩
theorem exact_is (v:Value):Zey (.is v):=⟨v,fun _ _ _ h=>h.1⟩
theorem exact_int (k:IntKind) (x:Int):Zey (.int k x):=⟨.int k x,fun _ _ _ h=>h.1⟩
theorem ZnE {v:Value} {T:TypeId} {l:List PV} (h:∀ p ∈ l,Zey p):ZfV (.pt (.val v) T (l.map CF.pv)):=by
 obtain ⟨us,hus⟩:=ZfT h
 have key:∀ {l:List PV} {τ:Tau} {w:World} {y:Ys} {vs:List Value},CFs τ w y (l.map CF.pv) vs→PVs l vs w y:=by
  intro l
  induction l with
  | nil=>intro τ w y vs k;cases vs with | nil=>trivial | cons v vs=>exact k.elim
  | cons p l ih=>intro τ w y vs k;cases vs with | nil=>exact k.elim | cons v vs=>exact ⟨k.1,ih k.2⟩
 intro τ τ' w w' f f' y y' ⟨b,vs,e,hb,hf,hc⟩ ⟨b',vs',e',hb',hf',hc'⟩
 have eb:b=b':=by
  have:=e.symm.trans e'
  simpa using this
 subst eb
 have ev:vs=vs':=by
  have h1:=hus _ _ _ (key hc)
  have h2:=hus _ _ _ (key hc')
  exact Array.toList_inj.1 (h1.trans h2.symm)
 refine ⟨fun c=>(hf c).trans (hf' c).symm,fun c hc9=>?_⟩
 rw [(hf c).1 hc9,hb,hb',ev]
theorem ZfD {κ ν:Type} [DecidableEq κ] {ek:ν→PV} {ok:κ→Prop} {kv:κ→Value} {es:List (GE κ ν)} {ck:Nat} {u:Value} (h:∀ c,Zey (ek c)):ZfV (.ob (.val u) (mapG ek ok kv es ck)):=by
 have key:∀ {es:List (GE κ ν)},∃ rs0:List (GE κ Value),∀ {w:World} {y:Ys} {rs:List (GE κ Value)},GR ek es rs w y→rs=rs0:=by
  intro es
  induction es with
  | nil=>exact ⟨[],fun {w y rs} k=>by cases rs with | nil=>rfl | cons r rs=>exact k.elim⟩
  | cons e es ih=>
   obtain ⟨rs0,h0⟩:=ih
   obtain ⟨u0,hu0⟩:=h e.val
   refine ⟨⟨e.key,u0,e.born⟩ :: rs0,fun {w y rs} k=>?_⟩
   cases rs with
   | nil=>exact k.elim
   | cons r rs=>
    obtain ⟨⟨k1,k2,k3⟩,k4⟩:=k
    rw [h0 k4]
    cases r
    simp only at k1 k2 k3
    rw [← k1,← k2,hu0 _ _ _ k3]
 obtain ⟨rs0,h0⟩:=key (es:=es)
 intro τ τ' w w' f f' y y' ⟨b,rs,e,hb,hg,_,hf⟩ ⟨b',rs',e',hb',hg',_,hf'⟩
 have eb:b=b':=by
  have:=e.symm.trans e'
  simpa using this
 subst eb
 refine ⟨fun c=>(hf c).trans (hf' c).symm,fun c hc9=>?_⟩
 rw [(hf c).1 hc9,hb,hb',h0 hg,h0 hg']
theorem Zhc (c:RtC):Zey (.agg (rRt c)):=ZlH fun p hp=>by
 simp only [rRt,Yo,Yat,YaS] at hp
 rcases hp with rfl | rfl | rfl | rfl | rfl <;> first | exact exact_is _ | exact exact_int _ _
theorem Zhb {v:Value} {T:TypeId} {v1 v2 v3 v4 v5 v6:Value} {i1 i2 i3 i4:Int} : ZfV (.pt (.val v) T [.pv (.is v1),.pv (.is v2),.pv (.int .i64 i1),.pv (.is v3),.pv (.int .i64 i2),.pv (.int .i64 i3),.pv (.is v4),.pv (.int .i64 i4),.pv (.is v5),.pv (.is v6)]):=
 ZnE (l:=[.is v1,.is v2,.int .i64 i1,.is v3,.int .i64 i2,.int .i64 i3,.is v4,.int .i64 i4,.is v5,.is v6]) fun p hp=>by
  simp only [Yo,Yat,YaS] at hp
  rcases hp with rfl | rfl | rfl | rfl | rfl | rfl | rfl | rfl | rfl | rfl <;> first | exact exact_is _ | exact exact_int _ _
theorem ZfJ {n m:Nat} {r s:RS} (h1:ZfV r) (h2:ZfV s):∀ x ∈ [(n,r),(m,s)],ZfV x.2:=fun x hx=>by
 simp only [Yo,Yat,YaS] at hx
 rcases hx with rfl | rfl
 ·exact h1
 ·exact h2
theorem Ent.rt {c:RtC} {v:Value} (h:c.av=v):Ent (.pv (.agg [.is v,.int .i64 c.tr,.is v,.int .i64 c.or,.int .i64 c.size])) (.pv (.agg (rRt c))):=by subst h;exact fun _ _ _ _ h=>h
end
theorem ZfI (b:Nat) (A:StA) (hok:Zax A) (hfit:Zba A) (sc:StC) (hk:Zac A [] sc):FnG prog 15 2 [.is (.pointer (some ⟨b,0,none⟩))] [Zo1 97 [.pv (.is (arV (some sc.b))),.pv (.is (arV (some sc.b))),.pv (.int .i64 sc.c.tr),.pv (.is (arV (some sc.b))),.pv (.int .i64 sc.c.or),.pv (.int .i64 sc.c.size),.pv (.is sc.mv),.pv (.int .i64 A.next),.pv (.is sc.alv),.pv (.is sc.sqv)] (.pointer (some ⟨b,0,none⟩)),Zlj sc.cs sc.ck sc.mv] (.int .i64 (ZaH A)) (fun _=>[Zo1 97 [.pv (.is (arV (some sc.b))),.pv (.is (arV (some sc.b))),.pv (.int .i64 sc.c.tr),.pv (.is (arV (some sc.b))),.pv (.int .i64 sc.c.or),.pv (.int .i64 sc.c.size),.pv (.is sc.mv),.pv (.int .i64 A.next),.pv (.is sc.alv),.pv (.is sc.sqv)] (.pointer (some ⟨b,0,none⟩)),Zlj sc.cs sc.ck sc.mv]):=by
 refine FnG.mk func15 Z ntmps15 Z kr fun B F0 a w F V hG O=>?_
 have hnz:=hk.now.s
 have O:=O.turn 1 Z (r':=.pt (.val (.pointer (some ⟨b,0,none⟩))) 97 [.pv (.is (arV (some sc.b))),.pv (.is (arV (some sc.b))),.pv (.int .i64 sc.c.tr),.pv (.is (arV (some sc.b))),.pv (.int .i64 sc.c.or),.pv (.int .i64 sc.c.size),.pv (.is sc.mv),.pv (.int .i64 A.next),.pv (.is sc.alv),.pv (.is sc.sqv)]) (fun τ w f y h=>Zom Z τ w f y h)
 have O:=O.turn 2 Z (r':=.ob (.val sc.mv) (Zlj sc.cs sc.ck)) (fun _ _ _ _ h=>h)
 obtain ⟨F,O⟩:=O.nM [0] [2,1,0]
 obtain ⟨hwf,hKI⟩:=Zoo O 2 rfl
 refine Ya (rZ O (qI qZ) V [2,0] [2,1,0] fun O=>(Ya (Ya ?_)))
 refine rZ O (qR rr (qf (Z3 _ YbB Z .t) r1 qz qZ)) V [7,2,0] [2,1,0] fun O=>?_
 refine Zd O Z (fun hc0=>?_) (fun hc0=>?_)
 ·simp at hc0
 refine Yf (Za (Ya (rZ O (qR rr (qf (o_nilCheck 1 .is (by rfl)) r1 r1 (qf (oF 1 1 .adr) r1 r1 (qf (oF 4 1 .adr) r1 r1 (qa 1 r1 r1 (qO rr qZ)))))) V [3,2,0] [2,1,0] fun O=>(Ya (Ya ?_)))))
 refine Zb O (qR rr (qf (o_nilCheck 1 .is (by rfl)) r1 r1 (qf (oF 6 1 .adr) r1 r1 (qa 1 r1 r1 (qf (Zkh 2 101 YbG .is) r1 r1 qZ))))) V [17,3,2] [101,2,1,0] (fun _=>rfl) (fun _=>rfl) fun τ a w F O=>?_
 try dsimp only [RS.sub,SF.sub,CF.sub,csub,Anc.sub,List.map,xD,xE,xT,xU,ldSF,rRt,rSq,Zx,rTx,ZB,Zs,ZG,rOp] at O
 generalize τ 17=v17 at O
 refine Za (Ye ?_)
 replace O:=O.ent (i:=3) (s':=.pv (.int .i64 (A.now.size+Zaa [] sc.cs))) Z (.int (by rw [ZfK];first | omega | (rw [hk.now.s];omega)))
 refine Zo (σ:=List Nat) [2,17] [0,1,2] (fun s=>[(3,.pv (.int .i64 (A.now.size+Zaa s sc.cs)))]) (fun s=>[(101,.ob (.val v17) (iterM sc.mv sc.ck s))]) (fun s=>True) (fun s=>unsn s sc.cs) ([]) O ⟨rfl,rfl,rfl,tv⟩ ⟨rfl,rfl,rfl,rfl,tv⟩ trivial ?_
 clear O;intro seen a w F hC O
 try dsimp only at hC
 obtain ⟨F,O⟩:=O.nM [17,3,2] [101,2,1,0]
 try dsimp only at O
 refine Ya (Zb O (qf (ZlP 101 2 .is) r1 r2 (qf (ZmE 101 (by decide)) qz r1 qZ)) V [19,17,3,2] [101,2,1,0] (fun _=>rfl) (fun _=>rfl) fun τ a w F O=>?_)
 try dsimp only [RS.sub,SF.sub,CF.sub,csub,Anc.sub,List.map,rRt,rSq,Zx,rTx,ZB,Zs,ZG,rOp] at O
 generalize τ 18=v18 at O
 refine Za (Ya (Zd O Z (fun hc1=>?_) (fun hc1=>?_)))
 ·obtain ⟨e,he,hns,O⟩:=O.nextTrue 101 rfl hc1
  obtain ⟨F,O⟩:=O.nM [19,17,3,2] [101,2,1,0]
  refine Yf (Za (Ye (Ya (Zb O (qf (Zj2 (kp:=.int .i64 e.key) 101 2 he (hKI e he) .is) r1 r2 (qf (o_extract .t Z) r1 qz (qf (oH [.pointer none,.int .i64 0,.pointer none,.int .i64 0,.int .i64 0] 102) trivial qz (qf (oA 5 102 .same (.conv .t .agg)) r2 r1 qZ)))) V [17,5,3,2] [102,101,2,1,0] (fun _=>rfl) (fun _=>rfl) fun τ a w F O=>?_))))
  try dsimp only [RS.sub,SF.sub,CF.sub,csub,Anc.sub,List.map,Ze,xL,xM,Nat.reduceAdd,xD,xE,xT,xU,xC,xN,zCF,rRt,rSq,Zx,rTx,ZB,Zs,ZG,rOp] at O
  generalize τ 5=v5 at O
  refine Za (Zf O (qR rr (qg 4 102 r1 r1 (qa 102 r1 r1 (qf (o_add .t .t) r2 qz (qO rr qZ))))) V [17,3,2] [102,101,2,1,0] Z Z fun a w F O=>Zm (Za ?_))
  replace O:=O.ent (i:=3) (s':=.pv (.int .i64 (A.now.size+Zaa (seen ++ [e.born]) sc.cs))) Z (.int (by have h1:=hk.held hok seen;have h2:=hk.held hok (seen ++ [e.born]);have h3:=Zdp hns hwf.1 he;rw [Zc ow];omega))
  obtain ⟨F,O⟩:=O.nM [17,2,3] [2,1,0,101]
  exact ⟨(seen ++ [e.born]),F,tv,O,Zmm hns he⟩
 obtain ⟨hall,O⟩:=O.nextFalse 101 rfl hc1
 obtain ⟨F,O⟩:=O.nM [19,17,3,2] [101,2,1,0]
 refine Yr (Zj (Zj (Zv (Za (Ya (rZ O (qR rr (qO rr qZ)) V [2] [101,2,1,0] fun O=>Yi ?_))))))
 have O:=O.turn 1 Z (r':=RS.hp (Zo1 97 [.pv (.is (arV (some sc.b))),.pv (.is (arV (some sc.b))),.pv (.int .i64 sc.c.tr),.pv (.is (arV (some sc.b))),.pv (.int .i64 sc.c.or),.pv (.int .i64 sc.c.size),.pv (.is sc.mv),.pv (.int .i64 A.next),.pv (.is sc.alv),.pv (.is sc.sqv)] (.pointer (some ⟨b,0,none⟩)))) (fun τ w f y h=>Zoz Z τ w f y h)
 have O:=O.turn 2 Z (r':=RS.hp (Zlj sc.cs sc.ck sc.mv)) (fun _ _ _ _ h=>h)
 obtain ⟨F,O⟩:=O.nM [2] [2,1,0]
 refine ZiM hG O Z (.tmp Z .nil) (.one (.int (hk.held_all hok hall))) Z rfl
def Zbj (A:StA):StA×Int×Int:=if ZaH A+A.now.size > 10000 then (A,0,2) else (⟨A.now,A.snaps ++ [(A.next,A.now)],A.next+1,A.all,A.seqs⟩,A.next,0)
def ZeJ (A:StA) (n:Int):Option (Int×RtA):=A.snaps.find? fun x=>decide (x.1=n)
def ZdA (A:StA) (n:Int):StA×Int:=match ZeJ A n with
 | none=>(A,3)
 | some x=>if ZaH A - A.now.size+x.2.size > 10000 then (A,2) else (⟨x.2,A.snaps,A.next,A.all,A.seqs⟩,0)
def Zdn (A:StA) (n:Int):StA×Int:=match ZeJ A n with
 | none=>(A,3)
 | some _=>(⟨A.now,A.snaps.filter fun x=>!decide (x.1=n),A.next,A.all,A.seqs⟩,0)
theorem Zc6 {A:StA} {n:Int} {x:Int×RtA} (h:ZeJ A n=some x):x ∈ A.snaps∧x.1=n:=⟨List.mem_of_find?_eq_some h,by have:=List.find?_some h;simpa using this⟩
theorem Zac.find {A:StA} {ex:List RtA} {s:StC} (h:Zac A ex s) (n:Int):(gGet n s.cs).isSome=(ZeJ A n).isSome:=by
 rw [Yap,Zci,h.keys]
 unfold ZeJ
 rw [List.find?_isSome]
 simp
theorem Zac.found {A:StA} {ex:List RtA} {s:StC} (h:Zac A ex s) {n:Int} {x:Int×RtA} (hx:ZeJ A n=some x):∃ c,gGet n s.cs=some c∧Zbs s.q (arV (some s.b)) c x.2:=by
 obtain ⟨h1,h2⟩:=Zc6 hx
 obtain ⟨c,hc,hr⟩:=h.snaps x h1
 exact ⟨c,by rw [← h2];exact hc,hr⟩
theorem ZbN.mono {rs rs':List RtA} {n i:Nat} (h:ZbN rs n i) (hs:∀ r ∈ rs,r ∈ rs'):ZbN rs' n i:=h.imp (fun ⟨r,hr,p,hp,e⟩=>⟨r,hs r hr,p,hp,e⟩) fun h=>h
theorem Zax.next_new {A:StA} (h:Zax A):A.next ∉ A.snaps.map (·.1):=fun hm=>by
 obtain ⟨x,hx,e⟩:=Yv.1 hm
 have:=(h.oks x hx).2.2
 omega
theorem Zac.keep {A:StA} {s:StC} (h:Zac A [] s) (hk:Zax A) (ck:Nat):Zac ⟨A.now,A.snaps ++ [(A.next,A.now)],A.next+1,A.all,A.seqs⟩ [] ⟨s.b,s.q,s.c,(gPut A.next s.c (s.cs,s.ck)).1,ck,s.mv,s.alv,s.sqv,s.sr⟩:=by
 have hn:A.next ∉ s.cs.map (·.key):=by rw [h.keys];exact hk.next_new
 refine ⟨h.now,?_,fun x hx=>?_,h.len,fun i hi hl=>h.seqs i hi (hl.mono fun r hr=>?_)⟩
 ·show (gPut A.next s.c (s.cs,s.ck)).1.map (·.key)=_
  rw [Zh0,Yc hn,h.keys,YL];rfl
 ·show ∃ c,gGet x.1 (gPut A.next s.c (s.cs,s.ck)).1=some c∧_
  rw [ZdU]
  rcases YJ.1 hx with hx | hx
  ·have h1:x.1≠A.next:=fun e=>by have:=(hk.oks x hx).2.2;omega
   rw [Yc h1];exact h.snaps x hx
  ·rw [Yl.1 hx,Yd rfl]
   exact ⟨s.c,rfl,h.now⟩
 ·simp only [rootsA,YL,Yy,List.map_nil,YD,Yo,YJ] at hr ⊢
  rcases hr with hr | hr | hr | hr
  ·exact .inl hr
  ·exact .inr hr
  ·exact .inl hr
  ·cases hr
theorem Zac.back {A:StA} {s:StC} (h:Zac A [] s) {n:Int} {x:Int×RtA} {c:RtC} (hx:ZeJ A n=some x) (hr:Zbs s.q (arV (some s.b)) c x.2):Zac ⟨x.2,A.snaps,A.next,A.all,A.seqs⟩ [] ⟨s.b,s.q,c,s.cs,s.ck,s.mv,s.alv,s.sqv,s.sr⟩:=
 ⟨hr,h.keys,h.snaps,h.len,fun i hi hl=>h.seqs i hi (hl.mono fun r hr=>by
  have h1:x.2 ∈ A.snaps.map (·.2):=Yv.2 ⟨x,(Zc6 hx).1,rfl⟩
  simp only [rootsA,YD,Yo] at hr ⊢
  rcases hr with rfl | hr
  ·exact .inr h1
  ·exact .inr hr)⟩
theorem Zac.drop {A:StA} {s:StC} (h:Zac A [] s) (hk:Zax A) (n:Int):Zac ⟨A.now,A.snaps.filter fun x=>!decide (x.1=n),A.next,A.all,A.seqs⟩ [] ⟨s.b,s.q,s.c,gDel n s.cs,s.ck,s.mv,s.alv,s.sqv,s.sr⟩:=by
 have hd:∀ cs:List (GE Int RtC),GNd cs→(gDel n cs).map (·.key)=(cs.map (·.key)).filter fun k=>!decide (k=n):=by
  intro cs
  induction cs with
  | nil=>intro _;rfl
  | cons e cs ih=>
   intro hn
   have hn2:e.key ∉ cs.map (·.key)∧GNd cs:=by unfold GNd at hn ⊢;rwa [Yy,YaT] at hn
   unfold gDel
   by_cases he:n=e.key
   ·rw [Yd he,Yy,Yau,Yc (by simp [he]),Ya4.2]
    intro k hk
    have:k≠n:=fun h9=>hn2.1 (by rw [← he,← h9];exact hk)
    simp [this]
   ·rw [Yc he,Yy,Yy,Yau,Yd (by simp;exact fun h9=>he h9.symm),ih hn2.2]
 refine ⟨h.now,?_,fun x hx=>?_,h.len,fun i hi hl=>h.seqs i hi (hl.mono fun r hr=>?_)⟩
 ·show (gDel n s.cs).map (·.key)=_
  rw [hd _ (h.nd hk),h.keys,List.filter_map];rfl
 ·obtain ⟨h1,h2⟩:=Y3.1 hx
  show ∃ c,gGet x.1 (gDel n s.cs)=some c∧_
  rw [Zjv (h.nd hk),Yc (by simpa using h2)]
  exact h.snaps x h1
 ·simp only [rootsA,YD,Yo,Yv] at hr ⊢
  rcases hr with hr | ⟨x,hx,hr⟩
  ·exact .inl hr
  ·exact .inr ⟨x,(Y3.1 hx).1,hr⟩
theorem Zax.keep {A:StA} (h:Zax A):Zax (Zbj A).1:=by
 unfold Zbj
 split
 ·exact h
 ·rename_i hh
  refine ⟨h.okn,fun x hx=>?_,?_,h.szn,fun x hx=>?_,?_,by have:=h.next;show 0≤A.next+1;omega⟩
  ·rcases YJ.1 hx with hx | hx
   ·have:=h.oks x hx
    exact ⟨this.1,this.2.1,by have:=this.2.2;show x.1<A.next+1;omega⟩
   ·rw [Yl.1 hx]
    exact ⟨h.okn,h.next,by show A.next<A.next+1;omega⟩
  ·show ((A.snaps ++ [(A.next,A.now)]).map (·.1)).Pairwise (· < ·)
   rw [YL,Y1]
   refine ⟨h.ids,Yax _ _,fun a ha z hz=>?_⟩
   obtain ⟨x,hx,rfl⟩:=Yv.1 ha
   rw [Yy,List.map_nil,Yl] at hz
   rw [hz];exact (h.oks x hx).2.2
  ·rcases YJ.1 hx with hx | hx
   ·exact h.szs x hx
   ·rw [Yl.1 hx];exact h.szn
  ·unfold ZaH at hh ⊢
   show A.now.size+((A.snaps ++ [(A.next,A.now)]).map fun x=>x.2.size).sum≤10000
   rw [YL,YaB]
   simp;omega
theorem Zg7 {l:List (Int×RtA)} {p:Int×RtA→Bool} (h:∀ x ∈ l,0≤x.2.size):((l.filter p).map fun x=>x.2.size).sum≤(l.map fun x=>x.2.size).sum:=by
 induction l with
 | nil=>simp
 | cons x l ih=>
  have h1:=h x Yag
  have h2:=ih fun z hz=>h z (YA _ hz)
  rw [Yau,Yy,YaC]
  split
  ·rw [Yy,YaC];omega
  ·omega
theorem Zax.drop {A:StA} (h:Zax A) (n:Int):Zax (Zdn A n).1:=by
 unfold Zdn
 split
 ·exact h
 ·refine ⟨h.okn,fun x hx=>h.oks x (Y3.1 hx).1,?_,h.szn,fun x hx=>h.szs x (Y3.1 hx).1,?_,h.next⟩
  ·exact h.ids.sublist (List.Sublist.map _ List.filter_sublist)
  ·have h1:=Zg7 (p:=fun x=>!decide (x.1=n)) h.nn
   have h2:=h.held
   unfold ZaH at h2 ⊢
   show A.now.size+((A.snaps.filter fun x=>!decide (x.1=n)).map fun x=>x.2.size).sum≤10000
   omega
theorem Zj5 (b:Nat) (A:StA) (hok:Zax A) (hfit:Zba A):FnG prog 21 1 [.is (.pointer (some ⟨b,0,none⟩))] [ZR (.pointer (some ⟨b,0,none⟩)) A] (.tup [.int .i64 (Zbj A).2.1,.int .i64 (Zbj A).2.2]) (fun _=>[ZR (.pointer (some ⟨b,0,none⟩)) (Zbj A).1]):=by
 refine FnG.mk func21 Z ntmps21 Z kr fun B F0 a w F V hG O=>?_
 obtain ⟨sc,O⟩:=O.open_ex 1 rfl
 obtain ⟨hk,O⟩:=O.open_and 1 rfl
 obtain ⟨F,O⟩:=O.peel 1 2 Z rfl
 obtain ⟨F,O⟩:=O.peel 1 3 Z rfl
 obtain ⟨F,O⟩:=O.peel 1 4 Z rfl
 obtain ⟨F,O⟩:=O.peel 1 5 Z rfl
 obtain ⟨F,O⟩:=O.peel 1 6 Z rfl
 try dsimp only at O
 obtain ⟨F,O⟩:=O.nM [0] [6,5,4,3,2,0]
 have hka:=hk.now.a
 have hks:=hk.now.s
 have hhb:=hok.held
 have hnz:=hok.szn
 have hnl:=hok.now_le
 have hnx:=hok.next
 have hnf:=hfit.next
 have hhn:0≤ZaH A:=by have:=Zcl hok.nn;unfold ZaH;omega
 refine Ya (rZ O (qI (qI qZ)) V [3,2,0] [6,5,4,3,2,0] fun O=>(Ya (Ye (Ya ?_))))
 refine rZ O (qR rr (qf (Z3 _ YbB Z .t) r1 qz (qO rr qZ))) V [5,3,2,0] [6,5,4,3,2,0] fun O=>?_
 refine Zd O Z (fun hc0=>?_) (fun hc0=>?_)
 ·simp at hc0
 refine Ya (Zq O (qR rr (qf (OpC.still (ZgQ (cells:=[.pv _,.pv _,.pv _,.pv _,.pv _,.pv _,.pv _,.pv _,.pv _,.pv _]) (cells':=[.pv _,.pv _,.pv _,.pv _,.pv _,.pv _,.pv _,.pv _,.pv _,.pv _]) 2 4 Z Z (ZfI b A hok hfit sc hk) func15 Z kr Z (Args.one .t)) (ZfJ Zhb (ZfD Zhc))) r1 r2 (qR rr (qf (o_nilCheck 2 .is (by rfl)) r1 r1 (qf (oF 1 2 .adr) r1 r1 (qf (oF 4 2 .adr) r1 r1 (qa 2 r1 r1 (qf (o_add .t .t) r2 qz (qf (Zas .t qi) r1 qz (qO rr qZ)))))))))) V [8,3,2,0] [6,5,4,3,2,0] Z Z fun a w F O=>?_)
 try dsimp only [List.map,xD,xE,xT,xU,ldSF,rRt,rSq,Zx,rTx,ZB,Zs,ZG,rOp] at O
 refine Za (Zd O Z (fun hc1=>?_) (fun hc1=>?_))
 ·have hg:Zbj A=(A,0,2):=by unfold Zbj;rw [Yd];rw [hks,Zc ow] at hc1;simpa using hc1
  refine Ya (rZ O (qI (qI qZ)) V [3,2,0] [6,5,4,3,2,0] fun O=>(Yi (ZC (Zk ?_))))
  have O:=O.fresh 1 rfl
  obtain ⟨F,O⟩:=O.push 1 6 Z Z Z kr
  obtain ⟨F,O⟩:=O.push 1 5 Z Z Z kr
  obtain ⟨F,O⟩:=O.push 1 4 Z Z Z kr
  obtain ⟨F,O⟩:=O.push 1 3 Z Z Z kr
  obtain ⟨F,O⟩:=O.push 1 2 Z Z Z kr
  have O:=O.turn 1 Z (r':=RS.hp (ZR (.pointer (some ⟨b,0,none⟩)) (Zbj A).1)) (fun _ _ _ _ h=>⟨sc,(by rw [hg];exact hk),(by rw [hg];exact h)⟩)
  obtain ⟨F,O⟩:=O.nM [3,2,0] [1,0]
  refine ZA hG O Z (.tmp Z (.tmp Z .nil)) (.two (.int (by rw [hg])) (.int (by rw [hg]))) rfl
 have hg:Zbj A=(⟨A.now,A.snaps ++ [(A.next,A.now)],A.next+1,A.all,A.seqs⟩,A.next,0):=by unfold Zbj;rw [Yc];rw [hks,Zc ow] at hc1;simpa using hc1
 refine Yf (Zm (Za (Ya (rZ O (qR rr (qf (o_nilCheck 2 .is (by rfl)) r1 r1 (qf (oF 7 2 .adr) r1 r1 (qa 2 r1 r1 (qO rr qZ))))) V [4,3,2,0] [6,5,4,3,2,0] fun O=>Ya ?_))))
 refine Zq O (qR rr (qf (o_nilCheck 2 .is (by rfl)) r1 r1 (qf (oF 6 2 .adr) r1 r1 (qa 2 r1 r1 (qR rr (qR rr (qf (o_nilCheck 2 .is (by rfl)) r1 r1 (qf (oF 1 2 .adr) r1 r1 (qf (oL true 5 2 .adr) r1 r1 (qf (Za3 (ek:=(fun c:RtC=>PV.agg (rRt c))) (v:=sc.c) 4 YbG (ZaN YbA) .is (ZX.intR .t Z) (.conv (.pagg .t) (Ent.rt hka))) r3 r1 qZ)))))))))) V [4,3,2,0] [6,5,4,3,2,0] Z Z fun a w F O=>?_
 try dsimp only [List.map,xD,xE,xT,xU,ldSF,rRt,rSq,Zx,rTx,ZB,Zs,ZG,rOp] at O
 refine Za (Ya (Zf O (qR rr (qf (o_nilCheck 2 .is (by rfl)) r1 r1 (qf (oF 7 2 .adr) r1 r1 (qa 2 r1 r1 (qp r1 (qf (o_nilCheck 2 .is (by rfl)) r1 r1 (qf (oF 7 2 .adr) r1 r1 (qf (Zc2 2 .adr .t one_int kr kr) r2 r1 qZ)))))))) V [4,3,2] [6,5,4,3,2,0] Z Z fun a w F O=>?_))
 rw [Zc (show -9223372036854775808≤A.next+1∧A.next+1≤9223372036854775807 by omega)] at O
 refine Za (Ya (rZ O (qR rr (qO rr (qI qZ))) V [3,2] [6,5,4,3,2,0] fun O=>Yi ?_))
 have O:=O.fresh 1 rfl
 obtain ⟨F,O⟩:=O.push 1 6 Z Z Z kr
 obtain ⟨F,O⟩:=O.push 1 5 Z Z Z kr
 obtain ⟨F,O⟩:=O.push 1 4 Z Z Z kr
 obtain ⟨F,O⟩:=O.push 1 3 Z Z Z kr
 obtain ⟨F,O⟩:=O.push 1 2 Z Z Z kr
 have O:=O.turn 1 Z (r':=RS.hp (ZR (.pointer (some ⟨b,0,none⟩)) (Zbj A).1)) (fun _ _ _ _ h=>⟨(⟨sc.b,sc.q,sc.c,(gPut A.next sc.c (sc.cs,sc.ck)).1,(gPut A.next sc.c (sc.cs,sc.ck)).2,sc.mv,sc.alv,sc.sqv,sc.sr⟩:StC),(by rw [hg];exact hk.keep hok _),(by rw [hg];exact h)⟩)
 obtain ⟨F,O⟩:=O.nM [3,2] [1,0]
 refine ZA hG O Z (.tmp Z (.tmp Z .nil)) (.two (.int (by rw [hg])) (.int (by rw [hg]))) rfl
theorem ZnH (b:Nat) (A:StA) (hok:Zax A) (hfit:Zba A) (n:Int):FnG prog 25 1 [.is (.pointer (some ⟨b,0,none⟩)),.int .i64 n] [ZR (.pointer (some ⟨b,0,none⟩)) A] (.int .i64 (ZdA A n).2) (fun _=>[ZR (.pointer (some ⟨b,0,none⟩)) (ZdA A n).1]):=by
 refine FnG.mk func25 Z ntmps25 Z kr fun B F0 a w F V hG O=>?_
 obtain ⟨sc,O⟩:=O.open_ex 1 rfl
 obtain ⟨hk,O⟩:=O.open_and 1 rfl
 obtain ⟨F,O⟩:=O.peel 1 2 Z rfl
 obtain ⟨F,O⟩:=O.peel 1 3 Z rfl
 obtain ⟨F,O⟩:=O.peel 1 4 Z rfl
 obtain ⟨F,O⟩:=O.peel 1 5 Z rfl
 obtain ⟨F,O⟩:=O.peel 1 6 Z rfl
 try dsimp only at O
 obtain ⟨F,O⟩:=O.nM [1,0] [6,5,4,3,2,0]
 have hka:=hk.now.a
 have hks:=hk.now.s
 have hhb:=hok.held
 have hnz:=hok.szn
 have hnl:=hok.now_le
 have hnx:=hok.next
 have hnf:=hfit.next
 have hhn:0≤ZaH A:=by have:=Zcl hok.nn;unfold ZaH;omega
 refine Ya (rZ O (qI qZ) V [4,1,0] [6,5,4,3,2,0] fun O=>(Ya (Ya ?_)))
 refine rZ O (qR rr (qf (Z3 _ YbB Z .t) r1 qz qZ)) V [8,4,1,0] [6,5,4,3,2,0] fun O=>?_
 refine Zd O Z (fun hc0=>?_) (fun hc0=>?_)
 ·simp at hc0
 refine Yf (Za (Ya (Zb O (qR rr (qf (o_nilCheck 2 .is (by rfl)) r1 r1 (qf (oF 6 2 .adr) r1 r1 (qa 2 r1 r1 (qR rr (qf (Ze2 (ek:=(fun c:RtC=>PV.agg (rRt c))) (z0:=(default:RtC)) 4 YbG (ZaN YbA) kr (fun _ _=>⟨[_,_,_,_,_],rfl,⟨rfl,rfl,rfl⟩,⟨rfl,rfl,Zf0⟩,⟨rfl,rfl,rfl⟩,⟨rfl,rfl,Zf0⟩,⟨rfl,rfl,Zf0⟩,tv⟩) .is (ZX.intR .t Z)) r2 r1 (qR rr (qf (o_extract .t Z) r1 qz (qf (o_extract .t Z) r1 qz (qf (oH [.pointer none,.int .i64 0,.pointer none,.int .i64 0,.int .i64 0] 101) trivial qz (qf (oA 5 101 .same (.conv .t .agg)) r2 r1 (qO rr qZ)))))))))))) V [6,5,4,0] [101,6,5,4,3,2,0] (fun _=>rfl) (fun _=>rfl) fun τ a w F O=>?_)))
 try dsimp only [RS.sub,SF.sub,CF.sub,csub,Anc.sub,List.map,Ze,xL,xM,Nat.reduceAdd,xD,xE,xT,xU,xC,xN,zCF,ldSF,rRt,rSq,Zx,rTx,ZB,Zs,ZG,rOp] at O
 generalize τ 5=v5 at O
 refine Za (Ya (Ye (Ya (rZ O (qR rr (qf (ZaA .t) r1 qz (qO rr qZ))) V [18,5,4,0] [101,6,5,4,3,2,0] fun O=>?_))))
 refine Zd O Z (fun hc1=>?_) (fun hc1=>?_)
 ·have hx:ZeJ A n=none:=Option.not_isSome_iff_eq_none.1 (by rw [← hk.find];simpa using hc1)
  have hg:ZdA A n=(A,3):=by unfold ZdA;rw [hx]
  refine Ya (rZ O (qI qZ) V [5,4,0] [101,6,5,4,3,2,0] fun O=>(Yi (ZC (Zk ?_))))
  have O:=O.fresh 1 rfl
  obtain ⟨F,O⟩:=O.push 1 6 Z Z Z kr
  obtain ⟨F,O⟩:=O.push 1 5 Z Z Z kr
  obtain ⟨F,O⟩:=O.push 1 4 Z Z Z kr
  obtain ⟨F,O⟩:=O.push 1 3 Z Z Z kr
  obtain ⟨F,O⟩:=O.push 1 2 Z Z Z kr
  have O:=O.turn 1 Z (r':=RS.hp (ZR (.pointer (some ⟨b,0,none⟩)) (ZdA A n).1)) (fun _ _ _ _ h=>⟨sc,(by rw [hg];exact hk),(by rw [hg];exact h)⟩)
  obtain ⟨F,O⟩:=O.nM [5,4,0] [101,1,0]
  refine ZA hG O Z (.tmp Z .nil) (.one (.int (by rw [hg]))) rfl
 obtain ⟨x,hx⟩:∃ x,ZeJ A n=some x:=Ya0.1 (by rw [← hk.find];simpa using hc1)
 obtain ⟨c,hc,hrc⟩:=hk.found hx
 have hxm:=(Zc6 hx).1
 have hxs:=hrc.s
 have hxl:=hok.snap_le hxm
 have hxz:=hok.szs x hxm
 rw [hc] at O
 try dsimp only [Option.getD] at O
 rw [hrc.a] at O
 obtain ⟨F,O⟩:=O.nM [18,5,4,0] [101,6,5,4,3,2,0]
 refine Ya (Zq O (qR rr (qf (OpC.still (ZgQ (cells:=[.pv _,.pv _,.pv _,.pv _,.pv _,.pv _,.pv _,.pv _,.pv _,.pv _]) (cells':=[.pv _,.pv _,.pv _,.pv _,.pv _,.pv _,.pv _,.pv _,.pv _,.pv _]) 2 4 Z Z (ZfI b A hok hfit sc hk) func15 Z kr Z (Args.one .t)) (ZfJ Zhb (ZfD Zhc))) r1 r2 (qR rr (qf (o_nilCheck 2 .is (by rfl)) r1 r1 (qf (oF 1 2 .adr) r1 r1 (qf (oF 4 2 .adr) r1 r1 (qa 2 r1 r1 (qf (o_sub .t .t) r2 qz (qg 4 101 r1 r1 (qa 101 r1 r1 (qf (o_add .t .t) r2 qz (qf (Zas .t qi) r1 qz (qO rr qZ))))))))))))) V [21,5,4,0] [101,6,5,4,3,2,0] Z Z fun a w F O=>?_)
 try dsimp only [List.map,xD,xE,xT,xU,ldSF,rRt,rSq,Zx,rTx,ZB,Zs,ZG,rOp] at O
 refine Za (Zd O Z (fun hc2=>?_) (fun hc2=>?_))
 ·have hg:ZdA A n=(A,2):=by unfold ZdA;rw [hx];dsimp only;rw [Yd];rw [hks,hxs,Zc (x:=ZaH A - A.now.size) ow,Zc ow] at hc2;simpa using hc2
  refine Ya (rZ O (qI qZ) V [5,4,0] [101,6,5,4,3,2,0] fun O=>(Yi (ZC (Zk ?_))))
  have O:=O.fresh 1 rfl
  obtain ⟨F,O⟩:=O.push 1 6 Z Z Z kr
  obtain ⟨F,O⟩:=O.push 1 5 Z Z Z kr
  obtain ⟨F,O⟩:=O.push 1 4 Z Z Z kr
  obtain ⟨F,O⟩:=O.push 1 3 Z Z Z kr
  obtain ⟨F,O⟩:=O.push 1 2 Z Z Z kr
  have O:=O.turn 1 Z (r':=RS.hp (ZR (.pointer (some ⟨b,0,none⟩)) (ZdA A n).1)) (fun _ _ _ _ h=>⟨sc,(by rw [hg];exact hk),(by rw [hg];exact h)⟩)
  obtain ⟨F,O⟩:=O.nM [5,4,0] [101,1,0]
  refine ZA hG O Z (.tmp Z .nil) (.one (.int (by rw [hg]))) rfl
 have hg:ZdA A n=(⟨x.2,A.snaps,A.next,A.all,A.seqs⟩,0):=by unfold ZdA;rw [hx];dsimp only;rw [Yc];rw [hks,hxs,Zc (x:=ZaH A - A.now.size) ow,Zc ow] at hc2;simpa using hc2
 refine Yf (Zm (Za (Ya (rZ O (qR rr (qe 5 101 r1 r1 (qf (o_nilCheck 2 .is (by rfl)) r1 r1 (qf (oF 1 2 .adr) r1 r1 (qf (oA 5 2 .adr .t) r2 r1 qZ))))) V [4] [101,6,5,4,3,2,0] fun O=>Ya ?_))))
 refine rZ O (qI qZ) V [4] [101,6,5,4,3,2,0] fun O=>Yi ?_
 have O:=O.fresh 1 rfl
 obtain ⟨F,O⟩:=O.push 1 6 Z Z Z kr
 obtain ⟨F,O⟩:=O.push 1 5 Z Z Z kr
 obtain ⟨F,O⟩:=O.push 1 4 Z Z Z kr
 obtain ⟨F,O⟩:=O.push 1 3 Z Z Z kr
 obtain ⟨F,O⟩:=O.push 1 2 Z Z Z kr
 have O:=O.turn 1 Z (r':=RS.hp (ZR (.pointer (some ⟨b,0,none⟩)) (ZdA A n).1)) (fun _ _ _ _ h=>⟨(⟨sc.b,sc.q,c,sc.cs,sc.ck,sc.mv,sc.alv,sc.sqv,sc.sr⟩:StC),(by rw [hg];exact hk.back hx hrc),(by rw [hg];exact h)⟩)
 obtain ⟨F,O⟩:=O.nM [4] [101,1,0]
 refine ZA hG O Z (.tmp Z .nil) (.one (.int (by rw [hg]))) rfl
theorem ZnJ (b:Nat) (A:StA) (hok:Zax A) (hfit:Zba A) (n:Int):FnG prog 26 1 [.is (.pointer (some ⟨b,0,none⟩)),.int .i64 n] [ZR (.pointer (some ⟨b,0,none⟩)) A] (.int .i64 (Zdn A n).2) (fun _=>[ZR (.pointer (some ⟨b,0,none⟩)) (Zdn A n).1]):=by
 refine FnG.mk func26 Z ntmps26 Z kr fun B F0 a w F V hG O=>?_
 obtain ⟨sc,O⟩:=O.open_ex 1 rfl
 obtain ⟨hk,O⟩:=O.open_and 1 rfl
 obtain ⟨F,O⟩:=O.peel 1 2 Z rfl
 obtain ⟨F,O⟩:=O.peel 1 3 Z rfl
 obtain ⟨F,O⟩:=O.peel 1 4 Z rfl
 obtain ⟨F,O⟩:=O.peel 1 5 Z rfl
 obtain ⟨F,O⟩:=O.peel 1 6 Z rfl
 try dsimp only at O
 obtain ⟨F,O⟩:=O.nM [1,0] [6,5,4,3,2,0]
 refine Ya (rZ O (qI qZ) V [4,1,0] [6,5,4,3,2,0] fun O=>(Ya (Ya ?_)))
 refine rZ O (qR rr (qf (Z3 _ YbB Z .t) r1 qz qZ)) V [8,4,1,0] [6,5,4,3,2,0] fun O=>?_
 refine Zd O Z (fun hc0=>?_) (fun hc0=>?_)
 ·simp at hc0
 refine Yf (Za (Ya (Ya (Zb O (qR rr (qf (o_nilCheck 2 .is (by rfl)) r1 r1 (qf (oF 6 2 .adr) r1 r1 (qa 2 r1 r1 (qR rr (qf (Ze2 (ek:=(fun c:RtC=>PV.agg (rRt c))) (z0:=(default:RtC)) 4 YbG (ZaN YbA) kr (fun _ _=>⟨[_,_,_,_,_],rfl,⟨rfl,rfl,rfl⟩,⟨rfl,rfl,Zf0⟩,⟨rfl,rfl,rfl⟩,⟨rfl,rfl,Zf0⟩,⟨rfl,rfl,Zf0⟩,tv⟩) .is (ZX.intR .t Z)) r2 r1 (qR rr (qf (o_extract .t Z) r1 qz (qf (o_extract .t Z) r1 qz (qf (oH [.pointer none,.int .i64 0,.pointer none,.int .i64 0,.int .i64 0] 101) trivial qz (qf (oA 5 101 .same (.conv .t .agg)) r2 r1 (qO rr qZ)))))))))))) V [6,4,1,0] [101,6,5,4,3,2,0] (fun _=>rfl) (fun _=>rfl) fun τ a w F O=>?_))))
 try dsimp only [RS.sub,SF.sub,CF.sub,csub,Anc.sub,List.map,Ze,xL,xM,Nat.reduceAdd,xD,xE,xT,xU,xC,xN,zCF,ldSF,rRt,rSq,Zx,rTx,ZB,Zs,ZG,rOp] at O
 generalize τ 5=v5 at O
 refine Za (Ya (rZ O (qR rr (qf (ZaA .t) r1 qz qZ)) V [19,4,1,0] [101,6,5,4,3,2,0] fun O=>?_))
 refine Zd O Z (fun hc1=>?_) (fun hc1=>?_)
 ·have hx:ZeJ A n=none:=Option.not_isSome_iff_eq_none.1 (by rw [← hk.find];simpa using hc1)
  have hg:Zdn A n=(A,3):=by unfold Zdn;rw [hx]
  refine Ya (rZ O (qI qZ) V [4,1,0] [101,6,5,4,3,2,0] fun O=>(Yi (Zk ?_)))
  have O:=O.fresh 1 rfl
  obtain ⟨F,O⟩:=O.push 1 6 Z Z Z kr
  obtain ⟨F,O⟩:=O.push 1 5 Z Z Z kr
  obtain ⟨F,O⟩:=O.push 1 4 Z Z Z kr
  obtain ⟨F,O⟩:=O.push 1 3 Z Z Z kr
  obtain ⟨F,O⟩:=O.push 1 2 Z Z Z kr
  have O:=O.turn 1 Z (r':=RS.hp (ZR (.pointer (some ⟨b,0,none⟩)) (Zdn A n).1)) (fun _ _ _ _ h=>⟨sc,(by rw [hg];exact hk),(by rw [hg];exact h)⟩)
  obtain ⟨F,O⟩:=O.nM [4,1,0] [101,1,0]
  refine ZA hG O Z (.tmp Z .nil) (.one (.int (by rw [hg]))) rfl
 obtain ⟨x,hx⟩:∃ x,ZeJ A n=some x:=Ya0.1 (by rw [← hk.find];simpa using hc1)
 obtain ⟨c,hc,hrc⟩:=hk.found hx
 have hxm:=(Zc6 hx).1
 have hxs:=hrc.s
 have hxl:=hok.snap_le hxm
 have hxz:=hok.szs x hxm
 rw [hc] at O
 try dsimp only [Option.getD] at O
 rw [hrc.a] at O
 obtain ⟨F,O⟩:=O.nM [19,4,1,0] [101,6,5,4,3,2,0]
 have hg:Zdn A n=(⟨A.now,A.snaps.filter (fun x=>!decide (x.1=n)),A.next,A.all,A.seqs⟩,0):=by unfold Zdn;rw [hx]
 refine Yf (Za (Ya (rZ O (qR rr (qf (o_nilCheck 2 .is (by rfl)) r1 r1 (qf (oF 6 2 .adr) r1 r1 (qa 2 r1 r1 (qR rr (qf (Zmw 4 YbG (ZaN YbA) .is (ZX.intR .t Z)) r2 r1 qZ)))))) V [4] [101,6,5,4,3,2,0] fun O=>Ya ?_)))
 refine rZ O (qI qZ) V [4] [101,6,5,4,3,2,0] fun O=>Yi ?_
 have O:=O.fresh 1 rfl
 obtain ⟨F,O⟩:=O.push 1 6 Z Z Z kr
 obtain ⟨F,O⟩:=O.push 1 5 Z Z Z kr
 obtain ⟨F,O⟩:=O.push 1 4 Z Z Z kr
 obtain ⟨F,O⟩:=O.push 1 3 Z Z Z kr
 obtain ⟨F,O⟩:=O.push 1 2 Z Z Z kr
 have O:=O.turn 1 Z (r':=RS.hp (ZR (.pointer (some ⟨b,0,none⟩)) (Zdn A n).1)) (fun _ _ _ _ h=>⟨(⟨sc.b,sc.q,sc.c,(gDel n sc.cs),sc.ck,sc.mv,sc.alv,sc.sqv,sc.sr⟩:StC),(by rw [hg];exact hk.drop hok n),(by rw [hg];exact h)⟩)
 obtain ⟨F,O⟩:=O.nM [4] [101,1,0]
 refine ZA hG O Z (.tmp Z .nil) (.one (.int (by rw [hg]))) rfl
def gvA (es:List (GE Int Int)) (k:Int):Int:=(gGet k es).getD 0
structure MvI (seqs:List (List Int)) (Live:Nat→Prop) (qo q:List Cell) (av nv:Value) (sr:List SqC) (es:List (GE Int Int)) (K:Int):Prop where
 len:sr.length=seqs.length
 gv:∀ k:Int,0≤gvA es k∧gvA es k≤K
 old:∀ i:Nat,i<seqs.length→Live i→gvA es i=0→(Nn sr i).av=av∧ZaT qo (Nn sr i).root (Nn seqs i)
 new:∀ i:Nat,i<seqs.length→0<gvA es i→(Nn sr i).av=nv∧ZaT q (Nn sr i).root (Nn seqs i)
section
variable {seqs:List (List Int)} {Live:Nat→Prop} {qo q:List Cell} {av nv:Value} {sr:List SqC} {es es':List (GE Int Int)} {K:Int}
theorem MvI.app (h:MvI seqs Live qo q av nv sr es K) (e:List Cell):MvI seqs Live qo (q++e) av nv sr es K:=
 ⟨h.len,h.gv,h.old,fun i hi hg=>⟨(h.new i hi hg).1,(h.new i hi hg).2.app⟩⟩
theorem ZeY {α:Type} [Inhabited α] {l:List α} {i j:Nat} {x:α} (hi:i<l.length):Nn (l.set i x) j=if j=i then x else Nn l j:=by
 by_cases h:j=i
 ·subst h
  rw [Yd rfl,ZE (by rw [YE];exact hi),List.getElem_set_self]
 ·rw [Yc h]
  by_cases hj:j<l.length
  ·rw [ZE (by rw [YE];exact hj),ZE hj,List.getElem_set_ne (fun e=>h e.symm)]
  ·unfold Nn
   rw [Yad,Yad,List.getElem?_eq_none (by rw [YE];omega),List.getElem?_eq_none ow]
theorem MvI.more (h:MvI seqs Live qo q av nv sr es K) {i:Int} (hg:0<gvA es i) (he:∀ k,gvA es' k=if k=i then gvA es i+1 else gvA es k):MvI seqs Live qo q av nv sr es' (K+1):=by
 refine ⟨h.len,fun k=>?_,fun j hj hl h0=>?_,fun j hj h0=>?_⟩
 ·have h1:=h.gv k
  have h2:=h.gv i
  rw [he];split <;> omega
 ·rw [he] at h0
  split at h0
  ·omega
  ·exact h.old j hj hl h0
 ·rw [he] at h0
  split at h0
  ·rename_i e;exact h.new j hj (by rw [e];exact hg)
  ·exact h.new j hj h0
theorem MvI.first (h:MvI seqs Live qo q av nv sr es K) {i:Nat} (hi:i<seqs.length) (hg:gvA es i=0) (he:∀ k,gvA es' k=if k=(i:Int) then gvA es i+1 else gvA es k) {e:List Cell} {r:Int} (hr:ZaT (q++e) r (Nn seqs i)):MvI seqs Live qo (q++e) av nv (sr.set i ⟨nv,r⟩) es' (K+1):=by
 have hl:=h.len
 refine ⟨by rw [YE];exact h.len,fun k=>?_,fun j hj hl2 h0=>?_,fun j hj h0=>?_⟩
 ·have h1:=h.gv k
  have h2:=h.gv i
  rw [he];split <;> omega
 ·rw [he] at h0
  split at h0
  ·omega
  ·rename_i hne
   rw [ZeY ow,Yc (fun e=>hne (by rw [e]))]
   exact h.old j hj hl2 h0
 ·rw [he] at h0
  rw [ZeY ow]
  split at h0
  ·rename_i e
   have e2:j=i:=by omega
   subst e2
   rw [Yd rfl];exact ⟨rfl,hr⟩
  ·rename_i hne
   rw [Yc (fun e=>hne (by rw [e]))]
   exact ⟨(h.new j hj h0).1,(h.new j hj h0).2.app⟩
end
theorem Zov {es:List (GE Int Int)} {ck:Nat} {i v:Int} (k:Int):gvA (gPut i v (es,ck)).1 k=if k=i then v else gvA es k:=by
 unfold gvA
 rw [ZdU]
 split <;> rfl
theorem MvI.start {A:StA} {ex:List RtA} {s:StC} (h:Zac A ex s) (nv:Value):MvI A.seqs (ZbN (rootsA A++ex) A.seqs.length) s.q [] (arV (some s.b)) nv s.sr [] 0:=
 ⟨h.len,fun k=>⟨Yak 0,Yak 0⟩,fun i hi hl _=>h.seqs i hi hl,fun i hi hg=>absurd hg (by show ¬ (0:Int)<0;omega)⟩
def Zad (seqs:List (List Int)) (l:List Zz):Nat:=(l.map fun p=>(Nn seqs p.val.toNat).length).sum
theorem ZbS {seqs:List (List Int)} {l:List Zz} {i:Nat} (h:i<l.length):Zad seqs (l.take (i+1))=Zad seqs (l.take i)+(Nn seqs (Nn l i).val.toNat).length:=by
 unfold Zad
 rw [Z9 h,YL,YaB];simp
theorem ZaY (all:List TxD) (seqs:List (List Int)) (r:RtA):r.txs.length+r.orders.length+Zad seqs r.orders=sizeH (Zbm all seqs r):=by
 unfold sizeH Zbd Zbm Zad
 simp only [YF,YaG]
 rfl
theorem ZiK {seqs:List (List Int)} (l:List Zz) (i:Nat):Zad seqs (l.take i)≤Zad seqs l:=by
 have h:l=l.take i++l.drop i:=(Y2 i l).symm
 have e:Zad seqs l=Zad seqs (l.take i)+Zad seqs (l.drop i):=by
  conv=>lhs;rw [h]
  unfold Zad
  rw [YL,YaB]
 omega
structure ZpP (A:StA) (ex:List RtA) (qo q:List Cell) (av nv:Value) (sr:List SqC) (es:List (GE Int Int)) (K:Int):Prop where
 mv:MvI A.seqs (ZbN (rootsA A++ex) A.seqs.length) qo q av nv sr es K
 all:∀ r ∈ rootsA A++ex,∀ p ∈ r.orders,0<gvA es p.val
theorem ZpP.seqs {A:StA} {ex:List RtA} {qo q:List Cell} {av nv:Value} {sr:List SqC} {es:List (GE Int Int)} {K:Int} (h:ZpP A ex qo q av nv sr es K) {i:Nat} (hi:i<A.seqs.length) (hl:ZbN (rootsA A++ex) A.seqs.length i) (hlast:i+1=A.seqs.length→(Nn sr i).av=nv∧ZaT q (Nn sr i).root (Nn A.seqs i)):(Nn sr i).av=nv∧ZaT q (Nn sr i).root (Nn A.seqs i):=by
 rcases hl with ⟨r,hr,p,hp,e⟩ | h1
 ·exact h.mv.new i hi (by rw [← e];exact h.all r hr p hp)
 ·exact hlast h1
theorem Zkd (ob nb:Nat) {qo q:List Cell} {root:Int} {l:List Zz} (h:Zho qo root l) (hr:q.length+l.length≤65536) :
  ∃ (e:List Cell) (r:Int),FnG prog 186 2 [.agg [.is (arV (some ob)),.int .i64 root],.is (arV (some nb))] [arH (some ob) 65536 qo,arH (some nb) 65536 q] (.tup [.agg [.is (arV (some nb)),.int .i64 r],.int .i64 0]) (fun _=>[arH (some ob) 65536 qo,arH (some nb) 65536 (q++e)])∧Zho (q++e) r l∧e.length=l.length:=by
 obtain ⟨t,ht,hl⟩:=h
 obtain ⟨e,r,h1,h2,h3⟩:=Zho.move (room:=65536) (q2:=q) (t:=t) ht.inc (by rw [hl];omega) (by rw [hl];omega)
 rw [hl] at h2 h3
 have:=ZoA (some ob) 65536 qo root t ht.rep (by rw [ZM,hl];omega) (some nb) 65536 q
 rw [h1] at this
 exact ⟨e,r,this,h2,h3⟩
theorem Zl4 (ob nb:Nat) {qo q:List Cell} {c:SqC} {l:List Int} (h:c.av=arV (some ob)∧ZaT qo c.root l) (hr:q.length+l.length≤65536) :
  ∃ (e:List Cell) (r:Int),FnG prog 187 2 [.agg [.is c.av,.int .i64 c.root],.is (arV (some nb))] [arH (some ob) 65536 qo,arH (some nb) 65536 q] (.tup [.agg [.is (arV (some nb)),.int .i64 r],.int .i64 0]) (fun _=>[arH (some ob) 65536 qo,arH (some nb) 65536 (q++e)])∧ZaT (q++e) r l∧e.length=l.length:=by
 obtain ⟨ha,t,ht,hl⟩:=h
 have hv:=ZjW t
 rw [hl] at hv
 obtain ⟨e,r,h1,h2,h3⟩:=ZaT.of (room:=65536) (q:=q) (l:=l) ow ow
 have:=ZoL (some ob) 65536 qo c.root t ht ow (some nb) 65536 q
 rw [hl,h1] at this
 rw [ha]
 exact ⟨e,r,this,h2,h3⟩
theorem Ent.adrK {v:Value} {k:Nat} (h:(shift k v).oneCell' = true):Ent (.adr (.val v) k) (.pv (.is (shift k v))):=fun _ _ _ _ e=>⟨e,by
 have e:_=shift k v:=e
 rw [e];exact h⟩
theorem Ent.kAdr {v:Value} {k:Nat} : Ent (.pv (.is (shift k v))) (.adr (.val v) k):=fun _ _ _ _ h=>h.1
structure MvC where
 q:List Cell
 c:RtC
 sr:List SqC
 es:List (GE Int Int)
 ck:Nat
structure Zd7 (seqs:List (List Int)) (Live:Nat→Prop) (r:RtA) (qo q:List Cell) (av nv:Value) (es:List (GE Int Int)) (K:Int) (x:MvC):Prop where
 app:∃ e,x.q=q++e∧e.length≤r.txs.length+r.orders.length+Zad seqs r.orders
 rt:Zbs x.q nv x.c r
 mv:MvI seqs Live qo x.q av nv x.sr x.es (K+r.orders.length)
 keep:∀ k,0<gvA es k→0<gvA x.es k
 all:∀ p ∈ r.orders,0<gvA x.es p.val
def Znw (a0 a1:Value) (c:RtC) (mv:Value) (nx:Int) (alv sqv:Value):List CF:=[.pv (.is a0),.pv (.is a1),.pv (.int .i64 c.tr),.pv (.is a1),.pv (.int .i64 c.or),.pv (.int .i64 c.size),.pv (.is mv),.pv (.int .i64 nx),.pv (.is alv),.pv (.is sqv)]
def Znp (v a1:Value) (ob nb:Nat) (qo q:List Cell) (c:RtC) (mv:Value) (nx:Int) (alv sqv:Value) (sr:List SqC) (mm:Value) (es:List (GE Int Int)) (ck:Nat):List RS:=[.pt (.val v) 97 (Znw (arV (some nb)) a1 c mv nx alv sqv),RS.hp (arH (some ob) 65536 qo),RS.hp (arH (some nb) 65536 q),.ob (.val sqv) (ZJ 114 2 rSq sr),.ob (.val mm) (MPI es ck)]
def ZpV (v a1:Value) (ob nb:Nat) (qo q:List Cell) (cn:RtC) (mv:Value) (nx:Int) (alv sqv:Value) (sr:List SqC) (mm:Value) (es:List (GE Int Int)) (ck:Nat) (rv:Value) (c:RtC):List RS:=[.pt (.val v) 97 (Znw (arV (some nb)) (arV (some nb)) cn mv nx alv sqv),RS.hp (arH (some ob) 65536 qo),RS.hp (arH (some nb) 65536 q),.ob (.val sqv) (ZJ 114 2 rSq sr),.ob (.val mm) (MPI es ck),.pt (.val rv) 92 [.pv (.is a1),.pv (.int .i64 c.tr),.pv (.is a1),.pv (.int .i64 c.or),.pv (.int .i64 c.size)]]
theorem Zgf {seqs:List (List Int)} {l:List Zz} {i:Nat} (h:i<l.length):Zad seqs (l.take i)+(Nn seqs (Nn l i).val.toNat).length≤Zad seqs l:=by
 rw [← ZbS h];exact ZiK l (i+1)
theorem Zow {es:List (GE Int Int)} {l:List Zz} (h:∀ j,j<l.length→0<gvA es (Nn l j).val):∀ p ∈ l,0<gvA es p.val:=fun p hp=>by
 obtain ⟨j,hj,rfl⟩:=Y6 hp
 have:=h j hj
 rwa [ZE hj] at this
end Go.Proofs.YtfecljadegkmdaaGreat
