/- Laws and walks. No condition beyond what each says. -/
import Derived.Test.YtfecljadegkmdaaGreatJ3
import Derived.Test.YtfecljadegkmdaaGreatLibI
namespace Go.Proofs.YtfecljadegkmdaaGreat
open Go Go.Gm Tryz
set_option linter.unusedVariables false
set_option linter.unusedSimpArgs false
set_option maxHeartbeats 4000000
set_option maxRecDepth 8000
theorem Zij (b:Nat) (f:IxF) (n:Int) (h:f.wt=n):FnG prog 35 1 [.is (.pointer (some ⟨b,0,none⟩))] [ZH (.pointer (some ⟨b,0,none⟩)) f] (.int .i64 n) (fun _=>[ZH (.pointer (some ⟨b,0,none⟩)) f]):=by have k:=ZjU b f;rw [h] at k;exact k
theorem ixWritesG_c (b:Nat) (f:IxF) (id key n:Int) (h:f.X ⟨id,key⟩ = n):FnG prog 68 1 [.is (.pointer (some ⟨b,0,none⟩)),.int .i64 id,.int .i64 key] [ZH (.pointer (some ⟨b,0,none⟩)) f] (.int .i64 n) (fun _=>[ZH (.pointer (some ⟨b,0,none⟩)) f]):=by have k:=ZjT b f id key;rw [h] at k;exact k
theorem Zhz (b:Nat) (f:IxF) (key:Int) (l:List Int) (h:f.W key=l) (hf:Zdn f):FnG prog 38 1 [.is (.pointer (some ⟨b,0,none⟩)),.int .i64 key] [ZH (.pointer (some ⟨b,0,none⟩)) f] (.sl Zk l) (fun _=>[ZH (.pointer (some ⟨b,0,none⟩)) f]):=by have k:=Zfq b f key hf;rw [h] at k;exact k
theorem ZnL (b:Nat) (f:IxF) (id:Int) (t:TxD) (h:f.T id=some t) (hf:Zdn f):FnG prog 40 1 [.is (.pointer (some ⟨b,0,none⟩)),.int .i64 id] [ZH (.pointer (some ⟨b,0,none⟩)) f] (.tup [.agg (rTx t),.bool true]) (fun _=>[ZH (.pointer (some ⟨b,0,none⟩)) f]):=by have k:=Zns b f id hf;rw [h] at k;exact k
theorem ZjG  : FnP prog 27 [] (.bool true):=by
 refine FnP.mk func27 O ntmps27 O fun B a w F M hfr G=>Ya ?_
 refine rZ G qB M [0] [0] fun G=>Ya ?_
 replace G:=G.fresh 61 rfl
 obtain ⟨F,G⟩:=G.nM [0] QN
 refine rS G (qf (Zbd 61 (ZlN) func28 O kr Args.nil PV.ptr_one) qz r1 (qO rr qZ)) M Kk QN fun τ G=>?_
 try dsimp only [RS.sub,SF.sub,CF.sub,csub,Anc.sub,List.map,rTx,rOp,Zk,Zy,Zaf,Zv,Zm] at G
 generalize τ 6=v6 at G
 obtain ⟨_,_,_,ho⟩:=G.obGet 61 rfl
 obtain ⟨b1,rfl⟩:=ZfJ ho
 clear ho
 replace G:=G.turn 61 O (r':=RS.hp (ZH (.pointer (some ⟨b1,0,none⟩)) Zc9)) (fun _ _ _ _ h=>h)
 obtain ⟨F,G⟩:=G.nM Kk QN
 refine Za (Ya (Ya (rZ G (qR rr (qf (Zau _ Yby rfl .t) r1 qz qZ)) M [8,1,0] QN fun G=>?_)))
 refine Zb G O (fun hc0=>?_) (fun hc0=>?_)
 ·simp at hc0
 refine Yc (Za (Ya (Zi G (qR rr (qf (oB [(1,_)] [.bool false,.int .i64 0,.int .i64 0,.int .i64 0] [(0,1),(1,1),(2,1),(3,1)] (.one O qi one_int kr .nil)) trivial qz (qf (Zo (sz:=4) (zs:=[.bool false,.int .i64 0,.int .i64 0,.int .i64 0]) (r:=[(0,.tmp 10)]) (l:=[_,_,_,_]) Ybv kr kr kr kr O O (.agg O .t kr kr .nil) O) r1 qz (qf (oB [(0,_),(1,_),(2,.tmp 11)] [.int .i64 0,.bool false,.slice none 0 0] [(0,1),(1,1),(2,1)] (.one O qi one_int kr (.one O .cb Zl8 kr (.one O .t ZnJ kr .nil)))) r1 qz (qf (o_callG1 61 (Zk4 b1 Zc9 (⟨3,true,[⟨false,5,0,0⟩]⟩:TxD) (ZbJ.zero.fit XJ (fun t h=>by cases h)) XJ) func33 O kr (Args.two .t (.conv (.pagg .t) (Ent.paggLe (l:=[.int .i64 3,.bool true,.arr 1 (([⟨false,5,0,0⟩]:List OpD).flatMap rOp)]) (l':=[.int .i64 3,.bool true,.sl rOp ([⟨false,5,0,0⟩]:List OpD)]) ⟨ZW.refl,ZW.refl,ZW.arrSl (R:=rOp) (l':=([⟨false,5,0,0⟩]:List OpD)) O Zee.refl,tv⟩)))) r2 r1 (qO rr qZ)))))) M Qf QN O O fun a w F G=>?_)))
 obtain ⟨f1,hf1⟩:∃ z,z=(ZhF Zc9 (⟨3,true,[⟨false,5,0,0⟩]⟩:TxD)).1:=⟨_,rfl⟩
 rw [← hf1] at G
 rw [show (ZhF Zc9 (⟨3,true,[⟨false,5,0,0⟩]⟩:TxD)).2=0 from by decide +kernel] at G
 have hf9:Zdn f1:=by rw [hf1];exact (ZbJ.zero.put (t:=(⟨3,true,[⟨false,5,0,0⟩]⟩:TxD)) (fun x h=>by cases h) (by decide +kernel)).2.fit XJ (fun t ht=>by simp at ht;subst ht;decide)
 have hw3:f1.W 5 = [3]:=by rw [hf1];decide +kernel
 have hx3:f1.X ⟨3,5⟩ = 1:=by rw [hf1];decide +kernel
 refine Za (Ya (rZ G (qR rr (qf (o_callG1 61 (Zhz b1 f1 5 [3] hw3 hf9) func38 O kr (Args.two .t qi)) r1 r1 (qO rr qZ))) M [3,2,1,0] QN fun G=>Ya ?_))
 refine rS G (qf (oB [] [.slice none 0 0,.slice none 0 0] [(0,1),(1,1)] .nil) trivial qz (qf (oB [] [.slice none 0 0,.slice none 0 0] [(0,1),(1,1)] .nil) trivial qz (qf (oP (Zo7 (⟨[],[]⟩:Zs) (⟨[],[]⟩:Zs) XJ XJ) func31 (Args.two (.conv (.pagg .t) (Ent.paggLe (l:=[.is (.slice none 0 0),.is (.slice none 0 0)]) (l':=Zm (⟨[],[]⟩:Zs)) ⟨ZW.nilSl,ZW.nilSl,tv⟩)) (.conv (.pagg .t) (Ent.paggLe (l:=[.is (.slice none 0 0),.is (.slice none 0 0)]) (l':=Zm (⟨[],[]⟩:Zs)) ⟨ZW.nilSl,ZW.nilSl,tv⟩)))) r2 qz (qR rr (qf (Zn .t O) r1 qz (qf (Zn .t O) r1 qz (qf (oH [.slice none 0 0,.slice none 0 0,.slice none 0 0,.slice none 0 0] 101) trivial qz (qf (oA 4 101 .same (.conv .t .agg)) r2 r1 (qO rr qZ))))))))) M [5,4,3,2,1,0] KT fun τ G=>?_
 try dsimp only [RS.sub,SF.sub,CF.sub,csub,Anc.sub,List.map,Zc,xL,xM,Nat.reduceAdd,xD,xE,xT,xU,xC,xN,zCF,rTx,rOp,Zk,Zy,Zaf,Zv,Zm] at G
 generalize τ 4=v4 at G
 rw [show ofD (⟨[],[]⟩:Zs) (⟨[],[]⟩:Zs)=(noD,0) from by decide +kernel] at G
 refine Za (Ya (Zi G (qR rr (qf (o_eql .t qi) r1 qz (qR rr (Chain.cons (Cert.run O O (WH) (o_move .t XI)) r2 qz (Chain.cons (Cert.run O O (WH) (ZbV Ybs .t)) r2 qz (Chain.cons (Cert.run O O (WH) (o_eql .t qi)) r2 qz (qf (o_and2 .t (.conv .t (Ent.sure WH))) r2 qz (qR rr (Chain.cons (Cert.run O O (WH) (o_move .t XI)) r2 qz (Chain.cons (Cert.run O O (WH) (ZP (sz:=1) (.mk Ybs kr) XW .t qi XJ XJ)) r2 qz (Chain.cons (Cert.run O O (WH) (oR false 1 .t)) r2 qz (Chain.cons (Cert.run O O (WH) (o_eql .t qi)) r2 qz (qf (o_and2 .t (.conv .t (Ent.sure WH))) r2 qz (qR rr (Chain.cons (Cert.run O O (WH) (o_move .t XI)) r2 qz (Chain.cons (Cert.run O O (WH) (o_eql .t qi)) r2 qz (qf (o_and2 .t (.conv .t (Ent.sure WH))) r2 qz (qR rr (Chain.cons (Cert.run O O (WH) (oL true 4 101 .is)) r2 r1 (Chain.cons (Cert.run O O (WH) (oP (emptyD_c noD (DLight.ok XJ)) func67 (Args.one (.pagg .t)))) r2 qz (qf (o_and2 .t (.conv .t (Ent.sure WH))) r2 qz (qR rr (Chain.cons (Cert.run O O (WH) (o_move .t XI)) r2 qz (Chain.cons (Cert.run O O (WH) (o_callG1 61 (ixWritesG_c b1 f1 3 5 1 hx3) func68 O kr (Args.three .t qi qi))) r2 r1 (Chain.cons (Cert.run O O (WH) (o_eql .t qi)) r2 qz (qf (o_and2 .t (.conv .t (Ent.sure WH))) r2 qz (qO rr qZ))))))))))))))))))))))))))) M [0] KT O O fun a w F G=>?_))
 try dsimp only [List.map,xD,xE,xT,xU,ldSF,rTx,rOp,Zk,Zy,Zaf,Zv,Zm] at G
 try simp only [Yg] at G
 refine Za (Yh (Zr hfr G O O O (.bool WH)))
theorem Zg3 (l:List EdD) (key:Int):FnP prog 6 [.sl rEd l,.int .i64 key] (.bool true):=by
 refine FnP.mk func6 O ntmps6 O fun B a w F M hfr G=>?_
 have hll:=Sat.lenSl G (i:=0) rfl
 refine Ya (rZ G qB M Kr [0] fun G=>(Ya (Ya ?_)))
 refine rZ G (qf (oP (ZjG) func27 Args.nil) trivial qz (qf (o_not .t) r1 qz qZ)) M [24,4,1,0] [0] fun G=>?_
 refine Zb G O (fun hc0=>?_) (fun hc0=>?_)
 ·simp at hc0
 refine Yc (Za (Ya ?_))
 replace G:=G.fresh 61 rfl
 obtain ⟨F,G⟩:=G.nM [24,4,1,0] QN
 refine rS G (qf (Zbd 61 (ZlN) func28 O kr Args.nil PV.ptr_one) qz r1 (qO rr qZ)) M KA QN fun τ G=>?_
 try dsimp only [RS.sub,SF.sub,CF.sub,csub,Anc.sub,List.map,rTx,rOp,Zk,Zy,Zaf,Zv,Zm,rEd] at G
 generalize τ 25=v25 at G
 obtain ⟨_,_,_,ho⟩:=G.obGet 61 rfl
 obtain ⟨b1,rfl⟩:=ZfJ ho
 clear ho
 replace G:=G.turn 61 O (r':=RS.hp (ZH (.pointer (some ⟨b1,0,none⟩)) Zc9)) (fun _ _ _ _ h=>h)
 obtain ⟨F,G⟩:=G.nM KA QN
 refine Za (Ya (Ya (Zi G (qR rr (qf (Zau _ Yby rfl .t) r1 qz (qR rr (Chain.cons (Cert.run O O (WH) (o_move .t XI)) r2 qz (Chain.cons (Cert.run O O (WH) (oP (ZmW l) func29 (Args.one .t))) r2 qz (Chain.cons (Cert.run O O (WH) (o_not .t)) r2 qz (qf (ZaU .t (.conv .t (Ent.sure WH))) r2 qz qZ))))))) M [32,5,4,1,0] QN O O fun a w F G=>?_)))
 try dsimp only [rTx,rOp,Zk,Zy,Zaf,Zv,Zm,rEd] at G
 refine Za (Zb G O (fun hc1=>?_) (fun hc1=>?_))
 ·refine Ya (rZ G (qR rr (qf (Zlc _ Yby rfl .t) r1 qz (qO rr qZ))) M KA QN fun G=>(Yh (Ze ?_)))
  refine Zr hfr G O O O (.bool WH)
 have hl:Zfb l:=by have h9:=hc1;simp at h9;exact h9
 have hll9:=hl.1
 refine Yc (Za (Ya (rS G (qf (oH [.slice none 0 0,.slice none 0 0] 101) trivial qz qZ) M Kx KT fun τ G=>?_)))
 try dsimp only [RS.sub,SF.sub,CF.sub,csub,Anc.sub,List.map,zCF,rTx,rOp,Zk,Zy,Zaf,Zv,Zm,rEd] at G
 generalize τ 6=v6 at G
 replace G:=G.turn 101 O (r':=RS.pt (.val v6) 30 [.pv (.sl rTx []),.pv (.sl Zv [])]) (Zp6 O O ⟨ZW.nilSl,ZW.nilSl,tv⟩)
 obtain ⟨F,G⟩:=G.nM Kx KT
 refine Za (Ya (Ya (rZ G (qR rr (qu underlying72 r1 (qJ qZ))) M Qi KT fun G=>Yf ?_)))
 refine Zj (σ:=(Nat)×(IxF)×(Zs)) [1,4,5,6,35,36] [0] (fun s=>[(37,.pv (.int .i64 (s.1:Int)))]) (fun s=>[(61,RS.hp (ZH (.pointer (some ⟨b1,0,none⟩)) s.2.1)),(101,.pt (.val v6) 30 [.pv (.sl rTx (Zs.txs s.2.2)),.pv (.sl Zv (Zs.orders s.2.2))])]) (fun s=>s.1≤l.length∧(ZcJ s.2.1 s.2.2 s.1)) (fun s=>l.length - s.1) ((0),(Zc9),(⟨[],[]⟩)) G ⟨rfl,rfl,rfl,rfl,rfl,rfl,rfl,tv⟩ ⟨rfl,rfl,rfl,tv⟩ ⟨Yp _,ZcJ.start⟩ ?_
 clear G;intro s a w F hC G
 obtain ⟨i,f9,g9⟩:=s
 have hC:=X4
 obtain ⟨F,G⟩:=G.nM Qi KT
 have G:=X2
 obtain ⟨hi,hq⟩:=hC
 have hI9:=hq
 refine Ya (rZ G (qL r2) M [38,37,36,35,6,5,4,1] KT fun G=>Ya ?_)
 refine Zb G O (fun hc2=>?_) (fun hc2=>?_)
 ·have hil:i<l.length:=WI
  have hi9:=hil
  have hle:=Zmc hl.2 hil
  have hs9:=hI9.fit.small ow
  refine Yc (Za (Ya (Yf (Ya (rS G (qy 7 underlying72 r2 (qf (oR true 7 .t) r1 qz (qf (oH [.int .i64 0,.int .i64 0,.bool false,.slice none 0 0,.int .i64 0,.slice none 0 0,.int .i64 0] 102) trivial qz (qS 7 102 r2 r1 qZ)))) M [37,36,35,8,6,5,4,1] [102,101,61,0] fun τ G=>?_)))))
  have G:=X5
  generalize τ 8=v8 at G
  try simp only [Yg] at G
  refine Za (Ya (rS G (qe 2 101 r1 r1 (qe 7 102 r1 r1 (qf (oP (Zot g9 (Nn l i) hs9 hle) func30 (Args.two (.pagg .t) (.pagg .t))) r2 qz (qR rr (qf (Zn .t O) r1 qz (qf (Zn .t O) r1 qz (qf (oH [.slice none 0 0,.slice none 0 0] 103) trivial qz (qf (oA 2 103 .same (.conv .t .agg)) r2 r1 (qO rr qZ))))))))) M [37,36,35,10,9,6,5,4,1] Jb fun τ G=>?_))
  have G:=X5
  generalize τ 9=v9 at G
  refine Za (Ya (Ya (rZ G (qR rr (qf (o_neq .t qi) r1 qz qZ)) M [48,37,36,35,9,6,5,4,1] Jb fun G=>?_)))
  refine Zb G O (fun hc3=>?_) (fun hc3=>?_)
  ·refine Yt (Zg (Zp (Za (rZ G (qp r1 (qR rr qZ)) M Qi Jb fun G=>?_))))
   replace G:=G.eI 37 i
   obtain ⟨F,G⟩:=G.nM [36,35,6,5,4,1,37] [0,101,61]
   exact ⟨((i+1),(f9),(g9)),F,⟨ow,hI9.up⟩,G,ow⟩
  have hd0:(doH g9 (Nn l i)).2=0:=Wi
  obtain ⟨y9,hy9⟩:∃ z,z=(doH g9 (Nn l i)).1:=⟨_,rfl⟩
  rw [← hy9] at G
  have hr9:=Zmj hs9 hd0
  have hF9:=hI9.fit.doH hle
  rw [← hy9] at hr9 hF9
  have hs2:=hF9.small ow
  obtain ⟨ws,hws⟩:∃ z,z=ZN TxD.id g9.txs y9.txs:=⟨_,rfl⟩
  obtain ⟨nw,hnw⟩:∃ z,z=ZN TxD.id y9.txs g9.txs:=⟨_,rfl⟩
  have hof:=ZoT hI9.right hr9
  rw [← hws,← hnw] at hof
  have hg100:g9.txs.length≤100:=by have:=hI9.fit.1.1;omega
  have hy100:y9.txs.length≤100:=by have:=hF9.1.1;omega
  have hwl:=Zbi (κ:=TxD.id) g9.txs y9.txs
  have hnl:=Zbi (κ:=TxD.id) y9.txs g9.txs
  rw [← hws] at hwl
  rw [← hnw] at hnl
  have hrg:=Zga hI9.right
  have hry:=Zga hr9
  have hrr:∀ t ∈ y9.txs,ZF t=0:=fun t ht=>((ZaG.1 hr9).2.2.1 t ht).1
  refine Yc (Za (Ya (rS G (qe 2 101 r1 r1 (qe 2 103 r1 r1 (qf (oP (Zo7 g9 y9 hs9 hs2) func31 (Args.two (.pagg .t) (.pagg .t))) r2 qz (qR rr (qf (Zn .t O) r1 qz (qf (Zn .t O) r1 qz (qf (oH [.slice none 0 0,.slice none 0 0,.slice none 0 0,.slice none 0 0] 104) trivial qz (qf (oA 4 104 .same (.conv .t .agg)) r2 r1 (qO rr qZ))))))))) M [37,36,35,12,11,9,6,5,4,1] Kv fun τ G=>?_)))
  have G:=X5
  generalize τ 11=v11 at G
  rw [hof] at G
  have G:=X2
  refine Za (Ya (Ya (rZ G (qR rr (qf (o_neq .t qi) r1 qz qZ)) M [56,37,36,35,11,9,6,5,4,1] Kv fun G=>?_)))
  refine Zb G O (fun hc4=>?_) (fun hc4=>?_)
  ·simp at hc4
  refine Yc (Za (Ya (Ya (rZ G (qg 0 104 r1 r1 (qa 104 r1 r1 (qu Ybt r1 (qJ qZ)))) M Qc Kv fun G=>Yf ?_))))
  refine Zj (σ:=(Nat)×(IxF)) [1,4,5,6,9,11,35,36,37,58,59] [0,101,102,103,104] (fun s=>[(60,.pv (.int .i64 (s.1:Int)))]) (fun s=>[(61,RS.hp (ZH (.pointer (some ⟨b1,0,none⟩)) s.2))]) (fun s=>s.1≤ws.length∧(ZbJ s.2 (stD g9.txs ws s.1))) (fun s=>ws.length - s.1) ((0),(f9)) G ⟨rfl,rfl,rfl,rfl,rfl,rfl,rfl,rfl,rfl,rfl,rfl,rfl,tv⟩ ⟨rfl,rfl,rfl,rfl,rfl,rfl,tv⟩ ⟨Yp _,(by rw [Zmv];exact hI9.ix)⟩ ?_
  clear G;intro s a w F hC G
  obtain ⟨j,f8⟩:=s
  have hC:=X4
  obtain ⟨F,G⟩:=G.nM Qc Kv
  have G:=X2
  obtain ⟨hi,hq⟩:=hC
  have hI8:=hq
  have hf8:=hI8.fitD hg100 hI9.fit.1.2
  refine Ya (rZ G (qL r2) M [61,60,59,58,37,36,35,11,9,6,5,4,1] Kv fun G=>Ya ?_)
  refine Zb G O (fun hc5=>?_) (fun hc5=>?_)
  ·have hil:j<ws.length:=by simp at hc5;omega
   refine Yc (Za (Ya (Yf (Ya (rS G (qy 3 Ybt r2 (qf (oR true 3 .t) r1 qz (qf (oH [.int .i64 0,.bool false,.slice none 0 0] 105) trivial qz (qS 3 105 r2 r1 qZ)))) M [60,59,58,37,36,35,14,11,9,6,5,4,1] Qs fun τ G=>?_)))))
   have G:=X5
   generalize τ 14=v14 at G
   try simp only [Yg] at G
   refine Za (Ya (Zi G (qR rr (qg 0 105 r1 r1 (qa 105 r1 r1 (qf (o_callG1 61 (ZiR b1 f8 (Nn ws j).id hf8) func32 O kr (Args.two .t .t)) r2 r1 (qf (o_neq .t qi) r1 qz qZ))))) M [68,60,59,58,37,36,35,11,9,6,5,4,1] Qs O O fun a w F G=>?_))
   obtain ⟨hz8,hD8⟩:=hI8.dropS hws hrg hil
   refine Za (Zb G O (fun hc6=>?_) (fun hc6=>?_))
   ·rw [hz8] at hc6
    simp at hc6
   refine Yc (Zh (Za (rZ G (qp r1 (qR rr qZ)) M Qc Qs fun G=>?_)))
   replace G:=G.eI 60 j
   obtain ⟨F,G⟩:=G.nM [59,58,37,36,35,11,9,6,5,4,1,60] [104,103,102,101,0,61]
   exact ⟨((j+1),((ZaZ f8 (Nn ws j).id).1)),F,⟨ow,hD8⟩,G,ow⟩
  have hil:j=ws.length:=by simp at hc5;omega
  rw [hil] at hI8
  refine Yt (Zg (Zg (Zp (Za (Ya (Ya (rZ G (qg 1 104 r1 r1 (qa 104 r1 r1 (qu Ybt r1 (qJ qZ)))) M Ql Kv fun G=>Yf ?_)))))))
  refine Zj (σ:=(Nat)×(IxF)) [1,4,5,6,9,35,36,37,71,72] [0,101,102,103,104] (fun s=>[(73,.pv (.int .i64 (s.1:Int)))]) (fun s=>[(61,RS.hp (ZH (.pointer (some ⟨b1,0,none⟩)) s.2))]) (fun s=>s.1≤nw.length∧(ZbJ s.2 (stD g9.txs ws ws.length++nw.take s.1))) (fun s=>nw.length - s.1) ((0),(f8)) G ⟨rfl,rfl,rfl,rfl,rfl,rfl,rfl,rfl,rfl,rfl,rfl,tv⟩ ⟨rfl,rfl,rfl,rfl,rfl,rfl,tv⟩ ⟨Yp _,(by rw [List.take_zero,Y3];exact hI8)⟩ ?_
  clear G;intro s a w F hC G
  obtain ⟨k,f7⟩:=s
  have hC:=X4
  obtain ⟨F,G⟩:=G.nM Ql Kv
  have G:=X2
  obtain ⟨hi,hq⟩:=hC
  have hI7:=hq
  have hf7:=hI7.fitP hnw hg100 hI9.fit.1.2 hy100 hF9.1.2
  refine Ya (rZ G (qL r2) M [74,73,72,71,37,36,35,9,6,5,4,1] Kv fun G=>Ya ?_)
  refine Zb G O (fun hc7=>?_) (fun hc7=>?_)
  ·have hil:k<nw.length:=by simp at hc7;omega
   have ho7:(Nn nw k).ops.length≤1000:=by have:=hF9.1.2 _ (Zbh (κ:=TxD.id) (b:=g9.txs) (by rw [← hnw];exact ZT hil));omega
   refine Yc (Za (Ya (Yf (Ya (rS G (qy 3 Ybt r2 (qf (oR true 3 .t) r1 qz (qf (oH [.int .i64 0,.bool false,.slice none 0 0] 106) trivial qz (qS 3 106 r2 r1 qZ)))) M [73,72,71,37,36,35,16,9,6,5,4,1] Qt fun τ G=>?_)))))
   have G:=X5
   generalize τ 16=v16 at G
   try simp only [Yg] at G
   refine Za (Ya (Zi G (qR rr (qe 3 106 r1 r1 (qf (o_callG1 61 (Zk4 b1 f7 (Nn nw k) hf7 ho7) func33 O kr (Args.two .t (.pagg .t))) r2 r1 (qf (o_neq .t qi) r1 qz qZ)))) M [80,73,72,71,37,36,35,9,6,5,4,1] Qt O O fun a w F G=>?_))
   obtain ⟨hz7,hP7⟩:=hI7.putS hws hnw hrg hry hrr hil
   refine Za (Zb G O (fun hc8=>?_) (fun hc8=>?_))
   ·rw [hz7] at hc8
    simp at hc8
   refine Yc (Zh (Za (rZ G (qp r1 (qR rr qZ)) M Ql Qt fun G=>?_)))
   replace G:=G.eI 73 k
   obtain ⟨F,G⟩:=G.nM [72,71,37,36,35,9,6,5,4,1,73] [104,103,102,101,0,61]
   exact ⟨((k+1),((ZhF f7 (Nn nw k)).1)),F,⟨ow,hP7⟩,G,ow⟩
  have hil:k=nw.length:=by simp at hc7;omega
  rw [hil] at hI7
  have hE:ZbJ f7 y9.txs:=hI7.endS hws hnw hrg hry
  have hE9:ZcJ f7 y9 (i+1):=⟨hE,hr9,hF9⟩
  have hfE:=hE9.fitI ow
  have hpm:=hE.writers hr9 key
  have hwk:=(hfE.w key).2
  have hgk:=hpm.length_eq
  refine Yt (Zg (Zg (Zp (Za (Ya (rZ G (qe 2 103 r1 r1 (qs 2 101 r2 r1 qZ)) M Qi Kv fun G=>Ya ?_))))))
  refine ZA G (qR rr (qf (o_callG1 61 (ZlQ b1 f7 (hE.lacks hr9)) func34 O kr (Args.one .t)) r1 r1 (qu Ybw r1 (qf (o_neq .t qi) r1 qz (qR rr (Chain.cons (Cert.run O O (WH) (o_move .t XI)) r2 qz (Chain.cons (Cert.run O O (WH) (o_callG1 61 (Zij b1 f7 _ hE.wt) func35 O kr (Args.one .t))) r2 r1 (Chain.cons (Cert.run O O (WH) (oL true 2 101 .is)) r2 r1 (Chain.cons (Cert.run O O (WH) (oP (Zlz y9 hs2.1) func36 (Args.one (.pagg .t)))) r2 qz (Chain.cons (Cert.run O O (WH) (o_neq .t .t)) r3 qz (qf (ZaU .t (.conv .t (Ent.sure WH))) r2 qz (qR rr (Chain.cons (Cert.run O O (WH) (o_move .t XI)) r2 qz (Chain.cons (Cert.run O O (WH) (o_move .t XI)) r2 qz (Chain.cons (Cert.run O O (WH) (o_callG1 61 (Zfq b1 f7 key hfE) func38 O kr (Args.two .t .t))) r3 r1 (Chain.cons (Cert.run O O (WH) (oL true 2 101 .is)) r2 r1 (Chain.cons (Cert.run O O (WH) (o_move .t XI)) r2 qz (Chain.cons (Cert.run O O (WH) (oP (Zml y9 key hs2.2) func39 (Args.two (.pagg .t) .t))) r3 qz (Chain.cons (Cert.run O O (WH) (oP (Zna (f7.W key) (getO y9.orders key) ow ow) func37 (Args.two .t .t))) r3 qz (Chain.cons (Cert.run O O (WH) (o_not .t)) r2 qz (qf (ZaU .t (.conv .t (Ent.sure WH))) r2 qz qZ))))))))))))))))))))) M [103,37,36,35,6,5,4,1] Kv O O fun a w F G=>?_
  have G:=Xn
  refine Za (Zb G O (fun hc9=>?_) (fun hc9=>?_))
  ·have h9:=hc9
   simp [hpm] at h9
  refine Yc (Zh (Za (rZ G (qp r1 (qR rr qZ)) M Qi Kv fun G=>?_)))
  replace G:=G.eI 37 i
  obtain ⟨F,G⟩:=G.nM [36,35,6,5,4,1,37] [0,101,61]
  exact ⟨((i+1),(f7),(y9)),F,⟨ow,hE9⟩,G,ow⟩
 have hil:i=l.length:=WI
 have hf9:=hI9.fitI ow
 have hs9:=hI9.fit.small ow
 have hki:Za3 (g9.txs.map TxD.id):=YaN.2 (Zga hI9.right)
 have hkl:(g9.txs.map TxD.id).length≤100000:=by rw [Y9];have:=hs9.1.1;omega
 have hgl9:=hs9.1.1
 refine Yt (Zg (Zg (Zp (Za (Ya (Ya (rZ G (qg 0 101 r1 r1 (qa 101 r1 r1 (qu Ybt r1 (qJ qZ)))) M J3 KT fun G=>Yf ?_)))))))
 refine Zj (σ:=(Nat)) [4,5,6,106,107] [0,61,101] (fun s=>[(108,.pv (.int .i64 (s:Int)))]) (fun s=>[]) (fun s=>s≤g9.txs.length∧(True)) (fun s=>g9.txs.length - s) (0) G ⟨rfl,rfl,rfl,rfl,rfl,rfl,tv⟩ ⟨rfl,rfl,rfl,tv⟩ ⟨Yp _,tv⟩ ?_
 clear G;intro j a w F hC G
 have hC:=X4
 obtain ⟨F,G⟩:=G.nM J3 KT
 have G:=X2
 obtain ⟨hi,hq⟩:=hC
 refine Ya (rZ G (qL r2) M [109,108,107,106,6,5,4] KT fun G=>Ya ?_)
 refine Zb G O (fun hc10=>?_) (fun hc10=>?_)
 ·have hil:j<g9.txs.length:=by simp at hc10;omega
  have hT:=ZT hil
  have hTf:f9.T (Nn g9.txs j).id=some (Nn g9.txs j):=(hI9.ix.t _).trans (ZaQ (κ:=TxD.id) (Zga hI9.right).unl hT)
  have hU:=hI9.ix.users hI9.right hT
  have hUb:decide ((ZR g9 (Nn g9.txs j).id).2=7)=decide ((0:Int)<(((g9.txs.map TxD.id).filter fun b9=>decide (0<f9.U ⟨b9,(Nn g9.txs j).id⟩)).length:Nat)):=by rw [YaW,hU,← List.length_pos_iff];omega
  refine Yc (Za (Ya (Yf (Ya (rS G (qy 3 Ybt r2 (qf (oR true 3 .t) r1 qz (qf (oH [.int .i64 0,.bool false,.slice none 0 0] 107) trivial qz (qS 3 107 r2 r1 qZ)))) M [108,107,106,18,6,5,4] [107,101,61,0] fun τ G=>?_)))))
  have G:=X5
  generalize τ 18=v18 at G
  try simp only [Yg] at G
  refine Za (Ya (rS G (qR rr (qg 0 107 r1 r1 (qa 107 r1 r1 (qf (o_callG1 61 (ZnL b1 f9 (Nn g9.txs j).id (Nn g9.txs j) hTf hf9) func40 O kr (Args.two .t .t)) r2 r1 (qR rr (qf (Zn .t O) r1 qz (qf (Zn .t O) r1 qz (qf (oH [.int .i64 0,.bool false,.slice none 0 0] 108) trivial qz (qf (oA 3 108 .same (.conv .t .agg)) r2 r1 (qO rr qZ)))))))))) M [108,107,106,20,19,18,6,5,4] [108,107,101,61,0] fun τ G=>?_))
  have G:=X5
  generalize τ 19=v19 at G
  refine Za (Ya (rS G (qe 2 101 r1 r1 (qg 0 107 r1 r1 (qa 107 r1 r1 (qf (oP (Zkj g9 (Nn g9.txs j).id hs9) func41 (Args.two (.pagg .t) .t)) r2 qz (qR rr (qf (Zn .t O) r1 qz (qf (Zn .t O) r1 qz (qf (oH [.slice none 0 0,.slice none 0 0] 109) trivial qz (qf (oA 2 109 .same (.conv .t .agg)) r2 r1 (qO rr qZ)))))))))) M [108,107,106,22,20,19,18,6,5,4] QO fun τ G=>?_))
  have G:=X5
  generalize τ 21=v21 at G
  refine Za (Ya (Zi G (qR rr (qf (o_not .t) r1 qz (qR rr (Chain.cons (Cert.run O O (WH) (oL true 3 107 .is)) r2 r1 (Chain.cons (Cert.run O O (WH) (oL true 3 108 .is)) r2 r1 (Chain.cons (Cert.run O O (WH) (oP (ZiU (Nn g9.txs j) (Nn g9.txs j)) func42 (Args.two (.pagg .t) (.pagg .t)))) r3 qz (Chain.cons (Cert.run O O (WH) (o_not .t)) r2 qz (qf (ZaU .t (.conv .t (Ent.sure WH))) r2 qz (qR rr (Chain.cons (Cert.run O O (WH) (o_move .t XI)) r2 qz (Chain.cons (Cert.run O O (WH) (o_eql .t qi)) r2 qz (Chain.cons (Cert.run O O (WH) (o_move .t XI)) r2 qz (Chain.cons (Cert.run O O (WH) (oF 0 107 .is)) r2 r1 (Chain.cons (Cert.run O O (WH) (oL false 1 107 .adr)) r2 r1 (Chain.cons (Cert.run O O (WH) (o_callG1 61 (ZlU b1 f9 (Nn g9.txs j).id hf9 (g9.txs.map TxD.id) hki hI9.ix.ids hkl) func43 O kr (Args.two .t .t))) r3 r1 (Chain.cons (Cert.run O O (WH) (ZbV Ybs .t)) r2 qz (Chain.cons (Cert.run O O (WH) (Za7 .t qi)) r2 qz (Chain.cons (Cert.run O O (WH) (ZoY underlying4 .t .t)) r3 qz (qf (ZaU .t (.conv .t (Ent.sure WH))) r2 qz qZ))))))))))))))))))) M [144,108,107,106,6,5,4] QO O O fun a w F G=>?_))
  have G:=Xn
  refine Za (Zb G O (fun hc11=>?_) (fun hc11=>?_))
  ·have h9:=hc11
   rw [hUb] at h9
   simp at h9
  refine Yc (Zh (Za (rZ G (qp r1 (qR rr qZ)) M J3 QO fun G=>?_)))
  replace G:=G.eI 108 j
  obtain ⟨F,G⟩:=G.nM [107,106,6,5,4,108] KT
  exact ⟨(j+1),F,⟨ow,tv⟩,G,ow⟩
 have hil:j=g9.txs.length:=by simp at hc10;omega
 refine Yt (Zg (Zg (Zp (Za (Ya (ZA G (qR rr (qf (o_callG1 61 (ZlO b1 f9 (g9.txs.map TxD.id) hki hI9.ix.ids hkl) func44 O kr (Args.one .t)) r1 r1 (qu Ybs r1 (qg 0 101 r1 r1 (qa 101 r1 r1 (qu Ybt r1 (qf (o_eql .t .t) r2 qz (qO rr qZ)))))))) M [4] KT O O fun a w F G=>?_))))))
 have G:=Xn
 refine Za (Yh (Zr hfr G O O O (.bool WH)))
end Go.Proofs.YtfecljadegkmdaaGreat
