/- Laws and walks. No condition beyond what each says. -/
import Derived.Test.YtlkpllemoepamaaGreatJ0
namespace Go.Proofs.YtlkpllemoepamaaGreat
open Go Go.Gm Tryz
set_option linter.unusedVariables false
set_option linter.unusedSimpArgs false
set_option maxHeartbeats 4000000
set_option maxRecDepth 8000
theorem ZjO (t:TxD) (hl:t.ops.length*32≤140737488351232):FnP prog 62 [.agg (rTx t)] (.agg (rTx t)):=by
 refine FnP.mk func62 Z ntmps62 Z fun B a w F V hfr G=>Ya ?_
 refine Zb G (qx 101 r1 (qf (oH [.int .i64 0,.bool false,.slice none 0 0] 102) trivial qz qZ)) V [2,1] [102,101,0] (fun _=>rfl) (fun _=>rfl) fun τ a w F G=>?_
 try dsimp only [RS.sub,SF.sub,CF.sub,csub,Anc.sub,List.map,zCF,Zv,rTx,ZH,ZU,Zn,rOp] at G
 generalize τ 1=v1,τ 2=v2 at G
 refine Za (Ya ?_)
 replace G:=G.fresh 103 rfl
 refine Zb G (qg 2 101 r1 r1 (qa 101 r1 r1 (qf (Zap 103 (Zmr t.ops hl) func102 Z kr (Args.one .t) pvOne1) r1 r1 (qg 2 101 r1 r1 (qf (o_storeS 101 .adr kr kr) r2 r1 qZ))))) V [2,1] [103,102,101,0] (fun _=>rfl) (fun _=>rfl) fun τ a w F G=>?_
 try dsimp only [RS.sub,SF.sub,CF.sub,csub,Anc.sub,List.map,Zf,xL,xM,Nat.reduceAdd,xD,xE,xT,xU,xC,xN,zCF,ldSF,Zv,rTx,ZH,ZU,Zn,rOp] at G
 generalize τ 5=v5 at G
 obtain ⟨F,G⟩:=G.giveCell 103 101 2 Z Z Z Z rfl
 try dsimp only [List.set] at G
 obtain ⟨F,G⟩:=G.nM [2,1] [102,101,0]
 refine Za (Ya (rZ G (qe 3 101 r1 r1 (qs 3 102 r2 r1 qZ)) V [2] [102,101,0] fun G=>Yh ?_))
 refine Zaa hfr G Z (.cl 102 true 3 Z Z .nil) (.one (.aggU Z Z))
theorem ZrP (t:TxD) (hl:t.ops.length≤1000000):FnP prog 62 [.agg (rTx t)] (.agg (rTx t)):=ZjO t ow
theorem ZoK (g:Zr) (id:Int) (hb:∀ t ∈ g.txs,t.ops.length*32≤140737488351232):FnP prog 28 [.agg (Zv g),.int .i64 id] (.tup [.agg (rTx ((Z3 g.txs id).getD zeroT)),.bool (Z3 g.txs id).isSome]):=by
 refine FnP.mk func28 Z ntmps28 Z fun B a w F V hfr G=>?_
 obtain ⟨hxl,hyl⟩:=Sat.lenHist G (i:=0) rfl
 refine Ya (Zb G (qx 101 r1 (qf (oH [.int .i64 0,.bool false,.slice none 0 0] 102) trivial qz qB)) V [5,4,2,1] [102,101,0] (fun _=>rfl) (fun _=>rfl) fun τ a w F G=>?_)
 try dsimp only [RS.sub,SF.sub,CF.sub,csub,Anc.sub,List.map,zCF,Zv,rTx,ZH,ZU,Zn,rOp] at G
 generalize τ 2=v2,τ 4=v4 at G
 refine Za (Ya (Ya (rZ G (qg 0 101 r1 r1 (qa 101 r1 r1 (qu Yci r1 (qJ qZ)))) V [11,10,9,5,4,1] [102,101,0] fun G=>Yg ?_)))
 refine Zk (σ:=(Nat)) [1,4,5,9,10] [0,101,102] (fun s=>[(11,.pv (.int .i64 (s:Int)))]) (fun s=>[]) (fun s=>s≤g.txs.length∧(∀ k,k<s→(Nn g.txs k).id≠id)) (fun s=>g.txs.length - s) (0) G ⟨rfl,rfl,rfl,rfl,rfl,rfl,tv⟩ ⟨rfl,rfl,rfl,tv⟩ ⟨Yw _,fun k hk=>absurd hk (Y3 k)⟩ ?_
 clear G;intro i a w F hC G
 try dsimp only at hC
 obtain ⟨F,G⟩:=G.nM [11,10,9,5,4,1] [102,101,0]
 try dsimp only at G
 obtain ⟨hi,hq⟩:=hC
 refine Ya (rZ G (qL r2) V [12,11,10,9,5,4,1] [102,101,0] fun G=>Ya ?_)
 refine Zc G Z (fun hc0=>?_) (fun hc0=>?_)
 ·have hil:i<g.txs.length:=by simp at hc0;omega
  refine Ye (Za (Ya (Yg (Ya (Zb G (qy 3 Yci r2 (qf (oR true 3 .t) r1 qz (qf (oH [.int .i64 0,.bool false,.slice none 0 0] 103) trivial qz (qS 3 103 r2 r1 qZ)))) V [11,10,9,7,5,4,1] [103,102,101,0] (fun _=>rfl) (fun _=>rfl) fun τ a w F G=>?_)))))
  try dsimp only [RS.sub,SF.sub,CF.sub,csub,Anc.sub,List.map,Zf,xL,xM,Nat.reduceAdd,xD,xE,xT,xU,xC,xN,zCF,ldSF,Zv,rTx,ZH,ZU,Zn,rOp] at G
  generalize τ 7=v7 at G
  try simp only [Yb] at G
  refine Za (Ya (rZ G (qg 0 103 r1 r1 (qa 103 r1 r1 (qR rr (qf (o_eql .t .t) r2 qz qZ)))) V [18,11,10,9,7,5,4,1] [103,102,101,0] fun G=>?_))
  refine Zc G Z (fun hc1=>?_) (fun hc1=>?_)
  ·have hg:Z3 g.txs id=some (Nn g.txs i):=ZrV hil (by simpa using hc1) hq
   refine Ya (rZ G (qe 3 103 r1 r1 (qf (oP (ZjO (Nn g.txs i) (hb _ (nth_mem hil))) func62 (Args.one (.pagg .t))) r1 qz (qf (oA 3 102 .is (.conv .t .agg)) r2 r1 qB))) V [11,10,9,5,4,1] [103,102,101,0] fun G=>(Yh (Zz (Zl (Zl (Zz (Zl ?_)))))))
   refine Zaa hfr G Z (.cl 102 true 3 Z Z (.tmp Z .nil)) (.two (by rw [hg];first | exact .aggU Z Z | exact .aggLe Z ⟨.refl,.refl,.nilSl,tv⟩) (.bool (by rw [hg];rfl)))
  have hne:(Nn g.txs i).id≠id:=by simpa using hc1
  refine Ye (Zi (Za (rZ G (qp r1 (qR rr qZ)) V [11,10,9,5,4,1] [103,102,101,0] fun G=>?_)))
  replace G:=G.ent (i:=11) (s':=.pv (.int .i64 ((i+1:Nat):Int))) Z (.int (Zd ow))
  obtain ⟨F,G⟩:=G.nM [10,9,5,4,1,11] [102,101,0]
  exact ⟨(i+1),F,⟨by omega,(fun k hk=>by rcases YX (Y6 hk) with h9 | h9;exact hq k h9;rw [h9];exact hne)⟩,G,by omega⟩
 have hil:i=g.txs.length:=by simp at hc0;omega
 have hg:Z3 g.txs id=none:=Zm8 (by rw [← hil];exact hq)
 refine Yx (Zj (Zj (Zo (Za (Ya (rZ G (qf (oB [] [.int .i64 0,.bool false,.slice none 0 0] [(0,1),(1,1),(2,1)] .nil) trivial qz (qs 3 102 r2 r1 qB)) V [5,4] [102,101,0] fun G=>Yh ?_))))))
 refine Zaa hfr G Z (.cl 102 true 3 Z Z (.tmp Z .nil)) (.two (by rw [hg];first | exact .aggU Z Z | exact .aggLe Z ⟨.refl,.refl,.nilSl,tv⟩) (.bool (by rw [hg];rfl)))
theorem Zs6 (g:Zr) (id:Int) (hs:ZaX g.txs):FnP prog 28 [.agg (Zv g),.int .i64 id] (.tup [.agg (rTx ((Z3 g.txs id).getD zeroT)),.bool (Z3 g.txs id).isSome]):=ZoK g id fun t ht=>by have:=hs.2 t ht;omega
theorem Zwt (g:Zr) (v:ZbS) (hs:ZaX g.txs):FnP prog 90 [.agg (Zv g),.agg (ZU v)] (.bool (Zkd g v)):=by
 refine FnP.mk func90 Z ntmps90 Z fun B a w F V hfr G=>Ya ?_
 refine Zb G (qx 101 r1 (qx 102 r1 qB)) V [4,3,2] [102,101,0] (fun _=>rfl) (fun _=>rfl) fun τ a w F G=>?_
 try dsimp only [RS.sub,SF.sub,CF.sub,csub,Anc.sub,List.map,zCF,Zv,rTx,ZH,ZU,Zn,rOp] at G
 generalize τ 2=v2,τ 3=v3 at G
 refine Za (Ya (Ya (rZ G (qg 0 102 r1 r1 (qa 102 r1 r1 (qf (o_eql .t qi) r1 qz (qR rr (qv 2 102 Z r2 r1 (qw 102 Z r2 r1 (qk Z (fun h=>o_eql (.w h) qi) r2 qz (qf (ZE .t .t) r2 qz qZ)))))))) V [14,4,3,2] [102,101,0] fun G=>?_)))
 refine Zc G Z (fun hc0=>?_) (fun hc0=>?_)
 ·have h0:(v.tx=0∧v.nth=0):=by simpa using hc0
  have hu:Zkd g v=decide (1≤v.key∧v.key≤1048575):=by unfold Zkd;rw [Yf h0]
  refine Ya (rZ G (qg 1 102 r1 r1 (qa 102 r1 r1 (qf (Zbs .t qi) r1 qz (qR rr (qv 1 102 Z r2 r1 (qw 102 Z r2 r1 (qk Z (fun h=>Zkk (.w h) qi) r2 qz (qf (ZE .t .t) r2 qz (qO rr qZ))))))))) V [4,3,2] [102,101,0] fun G=>(Yh (Zl ?_)))
  refine Zs hfr G Z Z Z (.bool (by first | (rw [hu,Yb5];done) | (rw [hu];unfold idB;rw [Yb5];done) | (unfold Zkd wcnt;rw [Yc h0,Bool.and_assoc])))
 have h0:¬ (v.tx=0∧v.nth=0):=by simpa using hc0
 have hfl:((Z3 g.txs v.tx).getD zeroT).ops.length≤1000:=by cases hf:Z3 g.txs v.tx with | none=>simp [zeroT] | some t=>exact hs.2 _ (findT_mem hf).1
 refine Ye (Za (Ya (Zb G (qe 2 101 r1 r1 (qg 0 102 r1 r1 (qa 102 r1 r1 (qf (oP (Zs6 g v.tx hs) func28 (Args.two (.pagg .t) .t)) r2 qz (qR rr (qf (Zh .t Z) r1 qz (qf (Zh .t Z) r1 qz (qf (oH [.int .i64 0,.bool false,.slice none 0 0] 103) trivial qz (qf (oA 3 103 .same (.conv .t .agg)) r2 r1 (qO rr qZ)))))))))) V [6,5,4,3] [103,102,101,0] (fun _=>rfl) (fun _=>rfl) fun τ a w F G=>?_)))
 try dsimp only [RS.sub,SF.sub,CF.sub,csub,Anc.sub,List.map,Zf,xL,xM,Nat.reduceAdd,xD,xE,xT,xU,xC,xN,zCF,ldSF,Zv,rTx,ZH,ZU,Zn,rOp] at G
 generalize τ 5=v5 at G
 refine Za (Ya (Zw G (qR rr (qR rr (qv 2 102 Z r2 r1 (qw 102 Z r2 r1 (qk Z (fun h=>Zbs (.w h) qi) r2 qz (qf (ZE .t .t) r2 qz (qR rr (qk Z (fun h=>oL true 3 103 .is) r2 r1 (qv 1 102 Z r2 r1 (qw 102 Z r2 r1 (qk Z (fun h=>oP (Zdb ((Z3 g.txs v.tx).getD zeroT) v.key ow) func29 (Args.two (.pagg (.w h)) (.w h))) r3 qz (qv 2 102 Z r2 r1 (qw 102 Z r2 r1 (qk Z (fun h=>Zbs (.w h) (.w h)) r3 qz (qf (ZE .t .t) r2 qz (qO rr qZ)))))))))))))))) V [4] [103,102,101,0] Z Z fun a w F G=>?_))
 try dsimp only [List.map,xD,xE,xT,xU,ldSF,Zv,rTx,ZH,ZU,Zn,rOp] at G
 refine Za (Yh (Zs hfr G Z Z Z (.bool (by first | (rw [hu,Yb5];done) | (rw [hu];unfold idB;rw [Yb5];done) | (unfold Zkd wcnt;rw [Yc h0,Bool.and_assoc])))))
theorem ZiI {α:Type} [Inhabited α] {p:α→Bool} {l:List α} : decide (0≤Z2 p l)=l.any p:=by
 rcases Zaw p l with ⟨h1,h2⟩ | ⟨i,h1,h2,h3,h4⟩
 ·rw [h1,Yaj,show decide ((0:Int) ≤ -1)=false by decide,Ybl]
  intro x hx
  obtain ⟨k,hk,e⟩:=Yae hx
  have:=h2 k hk
  rw [nth_eq hk,e] at this
  simp [this]
 ·rw [h1,show decide ((0:Int)≤(i:Int))=true by simp,Yaj,YaD]
  exact ⟨_,nth_mem h2,h3⟩
theorem Zua {α:Type} {p:α→Bool} {l:List α} : (!l.any fun v=>!p v)=l.all p:=by
 induction l with
 | nil=>rfl
 | cons x l ih=>rw [YbT,List.all_cons,← ih];cases p x <;> simp
theorem Zuc (l : List ZbS) (p : ZbS → Bool) (f : FuncId) (fn : Func) (cps : List PV) (hf : prog.funcs[f]? = some fn) (hb : fn.body.isSome = true) (hnn : (fn.name == "runtime.NumGoroutine") = false) (hw : ∀ x, FnP prog f (.agg (ZU x) :: cps) (.bool (p x))) : FnP prog 138 [.sl ZU l, .clos f cps] (.int .i64 (Z2 p l)) := by
 refine FnP.mk func138 Z ntmps138 Z fun B a w F V hfr G=>?_
 have hll:=Sat.lenSl G (i:=0) rfl
 refine Ya (rZ G (qI qZ) V [4,1,0] [0] fun G=>(Ya (Ya ?_)))
 refine rZ G (qR rr (qu Ycx r1 (qJ qZ))) V [8,7,4,1,0] [0] fun G=>Yg ?_
 refine Zk (σ:=(Nat)) [0,1,4,7] [0] (fun s=>[(8,.pv (.int .i64 (s:Int)))]) (fun s=>[]) (fun s=>s≤l.length∧(∀ k,k<s→p (Nn l k)=false)) (fun s=>l.length - s) (0) G ⟨rfl,rfl,rfl,rfl,rfl,tv⟩ ⟨rfl,tv⟩ ⟨Yw _,fun k hk=>absurd hk (Y3 k)⟩ ?_
 clear G;intro i a w F hC G
 try dsimp only at hC
 obtain ⟨F,G⟩:=G.nM [8,7,4,1,0] [0]
 try dsimp only at G
 obtain ⟨hi,hq⟩:=hC
 refine Ya (rZ G (qL r2) V [9,8,7,4,1,0] [0] fun G=>Ya ?_)
 refine Zc G Z (fun hc0=>?_) (fun hc0=>?_)
 ·skip
  have hil:i<l.length:=by simp at hc0;omega
  refine Ye (Za (Ya (Yg (Ya (rZ G (qR rr (qO rr qZ)) V [8,7,5,4,1,0] [0] fun G=>Ya ?_)))))
  refine Ze G (qR rr (qR rr (qR rr (qy 3 Ycx r2 (qf (oR true 3 .t) r1 qz (qf (ZN (avs:=[.agg (ZU (Nn l i))]) .t (hw (Nn l i)) hf hb hnn (Args.one (.pagg .t))) r2 qz qZ)))))) V [16,8,7,5,4,1,0] [0] Z Z fun a w F G=>?_
  try simp only [Yb] at G
  refine Za (Zc G Z (fun hc1=>?_) (fun hc1=>?_))
  ·skip
   have hg:(i:Int)=Z2 p l:=(Zcd hil hc1 hq).symm
   refine Ya (rZ G (qR rr (qO rr qZ)) V [8,7,4,1,0] [0] fun G=>(Yh (Zz (Zl (Zl (Zz (Zl ?_)))))))
   refine Zs hfr G Z Z Z (.int hg)
  have hne:p (Nn l i)=false:=hc1
  refine Ye (Zi (Za (rZ G (qp r1 (qR rr qZ)) V [8,7,4,1,0] [0] fun G=>?_)))
  replace G:=G.ent (i:=8) (s':=.pv (.int .i64 ((i+1:Nat):Int))) Z (.int (Zd ow))
  obtain ⟨F,G⟩:=G.nM [7,4,1,0,8] [0]
  exact ⟨(i+1),F,⟨by omega,(fun k hk=>by rcases YX (Y6 hk) with h | h;exact hq k h;rw [h];exact hne)⟩,G,by omega⟩
 have hil:i=l.length:=by simp at hc0;omega
 have hg : -1=Z2 p l:=(Zbk fun k hk=>hq k (by simp at hc0;omega)).symm
 refine Yx (Zj (Zj (Zo (Za (Ya (rZ G (qI qZ) V [4] [0] fun G=>Yh ?_))))))
 refine Zs hfr G Z Z Z (.int hg)
theorem Ztv (l : List ZbS) (p : ZbS → Bool) (f : FuncId) (fn : Func) (cps : List PV) (hf : prog.funcs[f]? = some fn) (hb : fn.body.isSome = true) (hnn : (fn.name == "runtime.NumGoroutine") = false) (hw : ∀ x, FnP prog f (.agg (ZU x) :: cps) (.bool (p x))) : FnP prog 87 [.sl ZU l, .clos f cps] (.bool (l.any p)) := by
 refine FnP.mk func87 Z ntmps87 Z fun B a w F V hfr G=>Ya ?_
 refine rZ G qB V [4,1,0] [0] fun G=>Ya ?_
 refine rZ G (qR rr (qR rr (qf (oP (Zuc l p f fn cps hf hb hnn hw) func138 (Args.two .t .t)) r2 qz (qf (Zbs .t qi) r1 qz (qO rr qZ))))) V [4] [0] fun G=>Yh ?_
 refine Zs hfr G Z Z Z (.bool (by rw [ZiI]))
theorem ZnU (v:ZbS) (g:Zr) (hs:ZaX g.txs):FnP prog 89 [.agg (ZU v),.ref (Zv g)] (.bool (!Zkd g v)):=by
 refine FnP.mk func89 Z ntmps89 Z fun B a w F V hfr G=>Ya ?_
 refine Zb G (qx 101 r1 qB) V [3,2,1] [101,0] (fun _=>rfl) (fun _=>rfl) fun τ a w F G=>?_
 try dsimp only [RS.sub,SF.sub,CF.sub,csub,Anc.sub,List.map,zCF,Zv,rTx,ZH,ZU,Zn,rOp] at G
 generalize τ 2=v2 at G
 refine Za (Ya (rZ G (qf (oR true 2 .t) r1 qz (qe 3 101 r1 r1 (qf (oP (Zwt g v hs) func90 (Args.two (.pagg .t) (.pagg .t))) r2 qz (qf (o_not .t) r1 qz (qO rr qZ))))) V [3] [101,0] fun G=>Yh ?_))
 refine Zs hfr G Z Z Z .refl
theorem ZsN (g:Zr) (t:TxD) (hs:ZaX g.txs) (ht:t.ops.length≤1000):FnP prog 45 [.agg (Zv g),.agg (rTx t)] (.bool (ZfJ g t)):=by
 refine FnP.mk func45 Z ntmps45 Z fun B a w F V hfr G=>Ya ?_
 refine Zb G (qx 101 r1 (qx 102 r1 qB)) V [4,3,2] [102,101,0] (fun _=>rfl) (fun _=>rfl) fun τ a w F G=>?_
 try dsimp only [RS.sub,SF.sub,CF.sub,csub,Anc.sub,List.map,zCF,Zv,rTx,ZH,ZU,Zn,rOp] at G
 generalize τ 2=v2,τ 3=v3 at G
 refine Za (Ya (Zao 2 G kr (cG Z (oL true 3 102 .is) r1 r1 (cG Z (oP (Zjo t ow) func88 (Args.one (.pagg .t))) r1 trivial ChainN.nil)) kr (by rw [V];kernel_rfl) fun a w F G=>?_))
 obtain ⟨F,G⟩:=G.nM [6,4,2] [102,101,0]
 try dsimp only [List.map,xD,xE,xT,xU,ldSF,Zv,rTx,ZH,ZU,Zn,rOp] at G
 obtain ⟨F,G⟩:=G.giveRef 101 2 Z Z rfl
 obtain ⟨F,G⟩:=G.nM [6,4,2] [102,0]
 try dsimp only [Go.Gm.unCF] at G
 refine ZaE G kr (cG Z (ZaO (Args.one .t)) r1 trivial (cG Z (oP (Ztv (Zbl t) (fun v=>!Zkd g v) 89 f89 [.ref (Zv g)] func89 Z kr (fun v=>ZnU v g hs)) func87 (Args.two .t .t)) r2 trivial (cG Z (o_not .t) r1 trivial (cG Z (oN .t) r1 trivial ChainN.nil)))) kr (by rw [V];kernel_rfl) fun a w F G=>?_
 obtain ⟨F,G⟩:=G.nM [4] [102,0]
 try dsimp only [Zv,rTx,ZH,ZU,Zn,rOp] at G
 refine Za (Yh (Zs hfr G Z Z Z (.bool (by rw [Zua];rfl))))
theorem Zn9 (g:Zr) (hs:ZaX g.txs):FnG prog 46 1 [.agg (Zv g)] [.star []] (PV.one) (fun v=>[HP.ex fun s:List (GE Int (List Int))×Nat=>HP.and (WrL s.1 g.txs) (ZbN (fun l:List Int=>PV.sl Zn l) (fun _=>True) (fun n:Int=>Value.int .i64 n) s.1 s.2 v)]):=by
 refine FnG.mk func46 Z ntmps46 Z kr fun B F0 a w F V hG G=>?_
 have hsl:=hs.1
 obtain ⟨F,G⟩:=G.nM [0] [0]
 refine Ya (Zb G (qx 101 r1 (qC qZ)) V [2,1] [101,0] (fun _=>rfl) (fun _=>rfl) fun τ a w F G=>?_)
 try dsimp only [RS.sub,SF.sub,CF.sub,csub,Anc.sub,List.map,zCF,Zv,rTx,ZH,ZU,Zn,rOp] at G
 generalize τ 1=v1 at G
 refine Za (Ya (Zb G (qf (ZaZ (ek:=(fun p:Value×List Int=>PV.is p.1)) (ok:=(fun _=>True)) (kv:=(fun n:Int=>Value.int .i64 n)) 102) trivial qz (qO rr qZ)) V [3,2,1] [102,101,0] (fun _=>rfl) (fun _=>rfl) fun τ a w F G=>?_))
 try dsimp only [RS.sub,SF.sub,CF.sub,csub,Anc.sub,List.map,Zf,xL,xM,Nat.reduceAdd,xD,xE,xT,xU,xC,xN,zCF,Zv,rTx,ZH,ZU,Zn,rOp] at G
 generalize τ 8=v8 at G
 replace G:=G.fresh 60 rfl
 replace G:=G.turn 60 Z (r':=ZqK 3 1 Zn ([]:List (GE Int (Value×List Int)))) (fun _ _ _ _ h=>h)
 obtain ⟨F,G⟩:=G.nM [3,2,1] [102,101,60,0]
 refine Za (Ya (Ya (rZ G (qg 0 101 r1 r1 (qa 101 r1 r1 (qu Yci r1 (qJ qZ)))) V [12,11,10,3,2] [102,101,60,0] fun G=>Yg ?_)))
 refine Zk (σ:=(Nat)×(List (GE Int (Value×List Int)))×(Nat)) [2,3,10,11] [0,101] (fun s=>[(12,.pv (.int .i64 (s.1:Int)))]) (fun s=>[(102,.ob (.val v8) (ZbN (fun p:Value×List Int=>PV.is p.1) (fun _=>True) (fun n:Int=>Value.int .i64 n) s.2.1 s.2.2)),(60,ZqK 3 1 Zn s.2.1)]) (fun s=>s.1≤g.txs.length∧(WrV s.2.1 (g.txs.take s.1) 0 [])) (fun s=>g.txs.length - s.1) ((0),([]),(0)) G ⟨rfl,rfl,rfl,rfl,rfl,tv⟩ ⟨rfl,rfl,rfl,rfl,tv⟩ ⟨Yw _,Zts⟩ ?_
 clear G;intro s a w F hC G
 obtain ⟨i,es,ck⟩:=s
 try dsimp only at hC
 obtain ⟨F,G⟩:=G.nM [12,11,10,3,2] [102,101,60,0]
 try dsimp only at G
 obtain ⟨hi,hq⟩:=hC
 have hxl:=fun hil:i<g.txs.length=>hs.at hil
 refine Ya (rZ G (qL r2) V [13,12,11,10,3,2] [102,101,60,0] fun G=>Ya ?_)
 refine Zc G Z (fun hc0=>?_) (fun hc0=>?_)
 ·have hil:i<g.txs.length:=by simp at hc0;omega
  have hio:=hil
  have hw0:=hq
  have htl:=hxl hil
  have hkt:=Zen (Nn g.txs i)
  have hsl:=hs.1
  refine Ye (Za (Ya (Yg (Ya (Zb G (qy 3 Yci r2 (qf (oR true 3 .t) r1 qz (qf (oH [.int .i64 0,.bool false,.slice none 0 0] 103) trivial qz (qS 3 103 r2 r1 qZ)))) V [12,11,10,5,3,2] [103,102,101,60,0] (fun _=>rfl) (fun _=>rfl) fun τ a w F G=>?_)))))
  try dsimp only [RS.sub,SF.sub,CF.sub,csub,Anc.sub,List.map,Zf,xL,xM,Nat.reduceAdd,xD,xE,xT,xU,xC,xN,zCF,ldSF,Zv,rTx,ZH,ZU,Zn,rOp] at G
  generalize τ 5=v5 at G
  try simp only [Yb] at G
  refine Za (Ya (Ya (rZ G (qg 1 103 r1 r1 (qa 103 r1 r1 (qf (o_not .t) r1 qz qZ))) V [18,12,11,10,5,3,2] [103,102,101,60,0] fun G=>?_)))
  refine Zc G Z (fun hc1=>?_) (fun hc1=>?_)
  ·have hdn:(Nn g.txs i).done=false:=by simpa using hc1
   obtain ⟨es2,he2⟩:∃ z,z=es:=⟨_,rfl⟩
   obtain ⟨ck2,hc2⟩:∃ z,z=ck:=⟨_,rfl⟩
   have hR2:WrV es2 (g.txs.take (i+1)) 0 []:=by rw [he2];exact ZtS hw0 hio hdn
   rw [← he2,← hc2] at G
   refine Yx (Zj (Zo (Za (rZ G (qp r1 (qR rr qZ)) V [12,11,10,3,2] [103,102,101,60,0] fun G=>?_))))
   replace G:=G.ent (i:=12) (s':=.pv (.int .i64 ((i+1:Nat):Int))) Z (.int (Zd ow))
   obtain ⟨F,G⟩:=G.nM [11,10,3,2,12] [101,0,60,102]
   exact ⟨((i+1),(es2),(ck2)),F,⟨by omega,hR2⟩,G,by omega⟩
  have hdn:(Nn g.txs i).done=true:=by simpa using hc1
  refine Ye (Za (Ya (Ze G (qe 3 103 r1 r1 (qf (oP (ZoI (Nn g.txs i) (by have:=hxl hio;omega)) func91 (Args.one (.pagg .t))) r1 qz (qu Ycf r1 (qJ qZ)))) V [22,21,20,12,11,10,5,3,2] [103,102,101,60,0] Z Z fun a w F G=>?_)))
  rw [show Zbt (((Nn g.txs i).ops.filter fun o=>!o.read).map OpD.key)=Z6 (Nn g.txs i) from rfl] at G
  refine Za (Yg (Zk (σ:=(Nat)×(List (GE Int (Value×List Int)))×(Nat)) [2,3,5,10,11,12,20,21] [0,101,103] (fun s=>[(22,.pv (.int .i64 (s.1:Int)))]) (fun s=>[(102,.ob (.val v8) (ZbN (fun p:Value×List Int=>PV.is p.1) (fun _=>True) (fun n:Int=>Value.int .i64 n) s.2.1 s.2.2)),(60,ZqK 3 1 Zn s.2.1)]) (fun s=>s.1≤(Z6 (Nn g.txs i)).length∧(WrV s.2.1 (g.txs.take i) (Nn g.txs i).id ((Z6 (Nn g.txs i)).take s.1))) (fun s=>(Z6 (Nn g.txs i)).length - s.1) ((0),(es),(ck)) G ⟨rfl,rfl,rfl,rfl,rfl,rfl,rfl,rfl,rfl,tv⟩ ⟨rfl,rfl,rfl,rfl,rfl,tv⟩ ⟨Yw _,(by simpa using ZqO hw0)⟩ ?_))
  clear G;intro s a w F hC G
  obtain ⟨j,es,ck⟩:=s
  try dsimp only at hC
  obtain ⟨F,G⟩:=G.nM [22,21,20,12,11,10,5,3,2] [103,102,101,60,0]
  try dsimp only at G
  obtain ⟨hi,hq⟩:=hC
  refine Ya (rZ G (qL r2) V [23,22,21,20,12,11,10,5,3,2] [103,102,101,60,0] fun G=>Ya ?_)
  refine Zc G Z (fun hc2=>?_) (fun hc2=>?_)
  ·have hil:j<(Z6 (Nn g.txs i)).length:=by simp at hc2;omega
   have hwo:=Ztb hq (ZfT _) hil
   have hwn:=ZeT (g.txs.take i) (Nn (Z6 (Nn g.txs i)) j)
   rw [Yi] at hwn
   rw [← hwo] at hwn
   refine Ye (Za (Ya (Yg (Ya (Ze G (qy 1 Ycf r2 (qf (oR false 1 .t) r1 qz (qO rr qZ))) V [22,21,20,12,11,10,7,5,3,2] [103,102,101,60,0] Z Z fun a w F G=>?_)))))
   try simp only [Yb] at G
   refine Za (Zao 5 G kr (cG Z (oM .t) r1 trivial (cG Z (oM .t) r1 trivial (cG Z (oM .t) r1 trivial (cG Z (oM .t) r1 trivial (cG Z (Zat (ek:=(fun p:Value×List Int=>PV.is p.1)) (z0:=Zir) 102 underlying83 (Zcx Ycn) kr (fun _ _=>⟨rfl,rfl⟩) .is (ZM.int .t Z)) r2 r1 ChainN.nil))))) kr (by rw [V];kernel_rfl) fun a w F G=>?_)
   obtain ⟨F,G⟩:=G.nM [30,27,26,22,21,20,12,11,10,5,3,2] [103,102,101,60,0]
   try dsimp only [Zv,rTx,ZH,ZU,Zn,rOp] at G
   obtain ⟨F,G⟩:=G.takeKey (T:=3) (sz:=1) (R:=Zn) 60 61 (Nn (Z6 (Nn g.txs i)) j) Z rfl
   obtain ⟨F,G⟩:=G.nM [30,27,26,22,21,20,12,11,10,5,3,2] [103,102,101,61,60,0]
   refine ZiV 4 G kr (cG Z (oF 0 103 .is) r1 r1 (cG Z (oL false 1 103 .adr) r1 r1 (cG Z (o_buildSliceE (sz:=1) (zs:=[.int .i64 0]) (r:=[(0,.tmp 32)]) (l:=[_]) Ycf kr kr kr kr Z Z (.one Z .t one_int kr .nil) Z) r1 trivial (cG Z (ZV (sz:=1) (bs:=8) 61 (.mk' Ycf kr kr) (by intro x;rfl) .is (.arr (l':=[_]) .t) (by simp only [Yd,Yl,Yy];omega) (by decide)) ⟨rfl,rfl,tv⟩ ⟨rfl,tv⟩ ChainN.nil)))) kr (by rw [V];kernel_rfl) fun a w F G=>?_
   replace G:=G.sub
   obtain ⟨F,G⟩:=G.nM [34,27,26,22,21,20,12,11,10,5,3,2] [103,102,101,61,60,0]
   try dsimp only [RS.sub,SF.sub,CF.sub,csub,Anc.sub,List.map,Zf,xL,xM,Nat.reduceAdd,xD,xE,xT,xU,xC,xN,zCF,ldSF,Zv,rTx,ZH,ZU,Zn,rOp] at G
   generalize Act.tau a 34=v34 at G
   refine ZaE G kr (cG Z (o_mapUpdateG (ek:=(fun p:Value×List Int=>PV.is p.1)) (v:=((v34,((gGet (Nn (Z6 (Nn g.txs i)) j) es).getD Zir).2 ++ [(Nn g.txs i).id]):Value×List Int)) 102 underlying83 (Zcx Ycn) .is (ZM.int .t Z) .t) r3 r1 ChainN.nil) kr (by rw [V];kernel_rfl) fun a w F G=>?_
   obtain ⟨F,G⟩:=G.nM [22,21,20,12,11,10,5,3,2] [103,102,101,61,60,0]
   try dsimp only [Zv,rTx,ZH,ZU,Zn,rOp] at G
   refine Zi (Za (rZ G (qp r1 (qR rr qZ)) V [22,21,20,12,11,10,5,3,2] [103,102,101,61,60,0] fun G=>?_))
   obtain ⟨F,G⟩:=G.putKey (T:=3) (sz:=1) (R:=Zn) 60 61 (Nn (Z6 (Nn g.txs i)) j) ck Z Z rfl
   replace G:=G.ent (i:=22) (s':=.pv (.int .i64 ((j+1:Nat):Int))) Z (.int (Zd ow))
   obtain ⟨F,G⟩:=G.nM [21,20,12,11,10,5,3,2,22] [103,101,0,60,102]
   exact ⟨((j+1),((gPut (Nn (Z6 (Nn g.txs i)) j) (v34,((gGet (Nn (Z6 (Nn g.txs i)) j) es).getD Zir).2 ++ [(Nn g.txs i).id]) (es,ck)).1),((gPut (Nn (Z6 (Nn g.txs i)) j) (v34,((gGet (Nn (Z6 (Nn g.txs i)) j) es).getD Zir).2 ++ [(Nn g.txs i).id]) (es,ck)).2)),F,⟨by omega,Zu1 hq (ZfT _) hil⟩,G,by omega⟩
  have hil:j=(Z6 (Nn g.txs i)).length:=by simp at hc2;omega
  obtain ⟨es2,he2⟩:∃ z,z=es:=⟨_,rfl⟩
  obtain ⟨ck2,hc2⟩:∃ z,z=ck:=⟨_,rfl⟩
  rw [hil,YA] at hq
  have hR2:WrV es2 (g.txs.take (i+1)) 0 []:=by rw [he2];exact ZuQ hq hio hdn
  rw [← he2,← hc2] at G
  refine Yx (Zj (Zj (Zo (Zi (Za (rZ G (qp r1 (qR rr qZ)) V [12,11,10,3,2] [103,102,101,60,0] fun G=>?_))))))
  replace G:=G.ent (i:=12) (s':=.pv (.int .i64 ((i+1:Nat):Int))) Z (.int (Zd ow))
  obtain ⟨F,G⟩:=G.nM [11,10,3,2,12] [101,0,60,102]
  exact ⟨((i+1),(es2),(ck2)),F,⟨by omega,hR2⟩,G,by omega⟩
 have hil:i=g.txs.length:=by simp at hc0;omega
 have hwl:=ZqL hq
 rw [hil,YA] at hwl
 refine Yx (Zj (Zj (Zo (Za (Ya (rZ G (qR rr (qO rr qZ)) V [2] [102,101,60,0] fun G=>Yh ?_))))))
 obtain ⟨F,G⟩:=G.giveMap 102 60 Z Z rfl
 obtain ⟨F,G⟩:=G.rename 102 1 Z rfl
 have G:=G.turn 1 Z (r':=RS.hp (HP.ex fun s:List (GE Int (List Int))×Nat=>HP.and (WrL s.1 g.txs) (ZbN (fun l:List Int=>PV.sl Zn l) (fun _=>True) (fun n:Int=>Value.int .i64 n) s.1 s.2 v8))) (fun _ _ _ _ h=>⟨(ZeV es,ck),hwl,h⟩)
 refine Z1 (h':=fun v=>HP.ex fun s:List (GE Int (List Int))×Nat=>HP.and (WrL s.1 g.txs) (ZbN (fun l:List Int=>PV.sl Zn l) (fun _=>True) (fun n:Int=>Value.int .i64 n) s.1 s.2 v)) hG G Z (.tmp Z .nil) (.one .one) rfl
theorem ZtD (l:List Int) (tx:Int):FnP prog 15 [.sl Zn l,.int .i64 tx] (.tup [.int .i64 (ZdV l tx).1,.bool (ZdV l tx).2]):=by
 refine FnP.mk func15 Z ntmps15 Z fun B a w F V hfr G=>?_
 have hll:=Sat.lenSl G (i:=0) rfl
 have hxr:=ZhA tx l
 have hxw:IntKind.wrap .i64 (Zaz tx l+1)=Zaz tx l+1:=ZA ow
 have hxv:IntKind.wrap .i64 (Zaz tx l - 1)=Zaz tx l - 1:=ZA ow
 refine Ya (rZ G (qI qB) V [5,4,1,0] [0] fun G=>Ya ?_)
 refine rZ G (qI qZ) V [6,5,4,1,0] [0] fun G=>(Ya (Ya ?_))
 refine rZ G (qR rr (qf (o_neq .t qi) r1 qz qZ)) V [8,6,5,4,1,0] [0] fun G=>?_
 refine Zc G Z (fun hc0=>?_) (fun hc0=>?_)
 ·have ht:tx≠0:=by simpa using hc0
  refine Ya (rZ G (qR rr (qR rr (qf (oP (ZoT l tx) func39 (Args.two .t .t)) r2 qz (qp r1 (qO rr qZ))))) V [6,5,4,0] [0] fun G=>Ya ?_)
  refine rZ G (qR rr (qf (o_eql .t qi) r1 qz qZ)) V [14,6,5,4,0] [0] fun G=>?_
  refine Zc G Z (fun hc1=>?_) (fun hc1=>?_)
  ·have hix:Zaz tx l<0:=by simp [hxw] at hc1;omega
   have hg:ZdV l tx=(0,false):=by unfold ZdV;rw [Yf ⟨ht,hix⟩]
   refine Ya (rZ G (qI qB) V [6,5,4,0] [0] fun G=>(Yh (Zl ?_)))
   refine Zaa hfr G Z (.tmp Z (.tmp Z .nil)) (.two (.int (by rw [hg];first | done | rfl | (rw [hxw];done) | (rw [hxv];done) | (rw [show IntKind.wrap .i64 (-1+1)=0 by decide];done))) (.bool (by rw [hg])))
  have hix:0≤Zaz tx l:=by simp [hxw] at hc1;omega
  refine Ye (Za (Ya (Ya (rZ G (qR rr (qR rr (qu Ycf r1 (qf (o_eql .t .t) r2 qz qZ)))) V [18,6,5,4,0] [0] fun G=>?_))))
  refine Zc G Z (fun hc2=>?_) (fun hc2=>?_)
  ·have hlx:=hc2
   first | rw [hxw] at hlx | skip
   have hg:ZdV l tx=(0,false):=by unfold ZdV;first | (rw [Yc ow,Yc ht,Yf (by simp at hlx;omega)];done) | (rw [Yc ow,Yf ht,Yf (by simp at hlx;omega)])
   refine Ya (rZ G (qI qB) V [6,5,4,0] [0] fun G=>(Yh (Zl ?_)))
   refine Zaa hfr G Z (.tmp Z (.tmp Z .nil)) (.two (.int (by rw [hg];first | done | rfl | (rw [hxw];done) | (rw [hxv];done) | (rw [show IntKind.wrap .i64 (-1+1)=0 by decide];done))) (.bool (by rw [hg])))
  have hlx:=hc2
  first | rw [hxw] at hlx | skip
  have hln:=YaB (l:=l)
  have hlx2:=hlx
  simp at hlx
  have hg:ZdV l tx=(Nn l (if tx=0 then 0 else Zaz tx l+1).toNat,true):=by unfold ZdV;first | (rw [Yc ow,Yc ht,Yc ht,Yc ow];done) | (rw [Yc ow,Yf ht,Yf ht,Yc (by first | omega | (intro h0;have:l.length=0:=by omega;simp_all))];rfl)
  first | rw [Yc ht] at hg | rw [Yf ht] at hg
  try (have hl1:0<l.length:=by rcases Nat.eq_zero_or_pos l.length with h0 | h0;simp_all;exact h0)
  refine Ye (Za (Ya (Ze G (qR rr (qR rr (qf (o_indexAddr_sl (sz:=1) (.mk Ycf kr) (by intro x;rfl) .t .t (by first | omega | (rw [hxw];omega)) (by first | omega | (rw [hxw];omega))) r2 qz (qf (oR false 1 .t) r1 qz (qO rr qB))))) V [5,4] [0] Z Z fun a w F G=>?_)))
  try simp only [Yb] at G
  refine Za (Yh (Zaa hfr G Z (.tmp Z (.tmp Z .nil)) (.two (.int (by rw [hg];first | done | rfl | (rw [hxw];done) | (rw [hxv];done) | (rw [show IntKind.wrap .i64 (-1+1)=0 by decide];done))) (.bool (by rw [hg])))))
 have ht:tx=0:=by simpa using hc0
 refine Ye (Za (Ya (Ya (rZ G (qR rr (qR rr (qu Ycf r1 (qf (o_eql .t .t) r2 qz qZ)))) V [18,6,5,4,0] [0] fun G=>?_))))
 refine Zc G Z (fun hc3=>?_) (fun hc3=>?_)
 ·have hlx:=hc3
  first | rw [hxw] at hlx | skip
  have hg:ZdV l tx=(0,false):=by unfold ZdV;first | (rw [Yc ow,Yc ht,Yf (by simp at hlx;omega)];done) | (rw [Yc ow,Yf ht,Yf (by simp at hlx;omega)])
  refine Ya (rZ G (qI qB) V [6,5,4,0] [0] fun G=>(Yh (Zl ?_)))
  refine Zaa hfr G Z (.tmp Z (.tmp Z .nil)) (.two (.int (by rw [hg];first | done | rfl | (rw [hxw];done) | (rw [hxv];done) | (rw [show IntKind.wrap .i64 (-1+1)=0 by decide];done))) (.bool (by rw [hg])))
 have hlx:=hc3
 first | rw [hxw] at hlx | skip
 have hln:=YaB (l:=l)
 have hlx2:=hlx
 simp at hlx
 have hg:ZdV l tx=(Nn l (if tx=0 then 0 else Zaz tx l+1).toNat,true):=by unfold ZdV;first | (rw [Yc ow,Yc ht,Yc ht,Yc ow];done) | (rw [Yc ow,Yf ht,Yf ht,Yc (by first | omega | (intro h0;have:l.length=0:=by omega;simp_all))];rfl)
 first | rw [Yc ht] at hg | rw [Yf ht] at hg
 try (have hl1:0<l.length:=by rcases Nat.eq_zero_or_pos l.length with h0 | h0;simp_all;exact h0)
 refine Ye (Za (Ya (Ze G (qR rr (qR rr (qf (o_indexAddr_sl (sz:=1) (.mk Ycf kr) (by intro x;rfl) .t .t (by first | omega | (rw [hxw];omega)) (by first | omega | (rw [hxw];omega))) r2 qz (qf (oR false 1 .t) r1 qz (qO rr qB))))) V [5,4] [0] Z Z fun a w F G=>?_)))
 try simp only [Yb] at G
 refine Za (Yh (Zaa hfr G Z (.tmp Z (.tmp Z .nil)) (.two (.int (by rw [hg];first | done | rfl | (rw [hxw];done) | (rw [hxv];done) | (rw [show IntKind.wrap .i64 (-1+1)=0 by decide];done))) (.bool (by rw [hg])))))
theorem Zuk (l:List Int) (tx:Int) (hl:l.length≤1000000):FnP prog 104 [.sl Zn l,.int .i64 tx] (.sl Zn (withO l tx)):=by
 refine FnP.mk func104 Z ntmps104 Z fun B a w F V hfr G=>?_
 have hll:=Sat.lenSl G (i:=0) rfl
 refine Ya (rZ G (qC qZ) V [4,1,0] [0] fun G=>Ya ?_)
 replace G:=G.fresh 101 rfl
 refine Zb G (qR rr (qf (Zap 101 (Zfc l hl) func42 Z kr (Args.one .t) pvOne1) r1 r1 (qO rr qZ))) V [5,4,1,0] [101,0] (fun _=>rfl) (fun _=>rfl) fun τ a w F G=>?_
 try dsimp only [RS.sub,SF.sub,CF.sub,csub,Anc.sub,List.map,Zn] at G
 generalize τ 7=v7 at G
 refine Za (Ya (Ya (rZ G (qR rr (qR rr (qf (oP (Zm2 l tx) func148 (Args.two .t .t)) r2 qz qZ))) V [10,5,4,1] [101,0] fun G=>?_)))
 refine Zc G Z (fun hc0=>?_) (fun hc0=>?_)
 ·have hm:tx ∈ l:=by simpa using hc0
  have hg:l=withO l tx:=(Yf hm).symm
  refine Ya (rZ G (qR rr (qO rr qZ)) V [5,4,1] [101,0] fun G=>(Yh (Zl ?_)))
  obtain ⟨F,G⟩:=G.give 101 4 Z rfl
  refine Zs hfr G Z Z Z (.sl hg)
 have hm:¬ tx ∈ l:=by simpa using hc0
 have hg:l ++ [tx] = withO l tx:=(Yc hm).symm
 refine Ye (Za (Ya (Zb G (qR rr (qR rr (qf (o_buildSliceE (sz:=1) (zs:=[.int .i64 0]) (r:=[(0,.tmp 13)]) (l:=[_]) Ycf kr kr kr kr Z Z (.one Z .t one_int kr .nil) Z) r1 qz (qf (ZV (sz:=1) (bs:=8) 101 (.mk' Ycf kr kr) (by intro x;rfl) .is (.arr (l':=[_]) .t) (by simp only [Yd,Yl,Yy,Yi,YE];omega) (by decide)) ⟨rfl,rfl,tv⟩ ⟨rfl,tv⟩ (qO rr qZ))))) V [4] [101,0] (fun _=>rfl) (fun _=>rfl) fun τ a w F G=>?_)))
 try dsimp only [RS.sub,SF.sub,CF.sub,csub,Anc.sub,List.map,Zf,xL,xM,Nat.reduceAdd,xD,xE,xT,xU,xC,xN,zCF,Zn] at G
 generalize τ 15=v15 at G
 refine Za (Yh ?_)
 obtain ⟨F,G⟩:=G.give 101 4 Z rfl
 refine Zs hfr G Z Z Z (.sl hg)
theorem ZmK (x tx:Int):FnP prog 150 [.int .i64 x,.ref [.int .i64 tx]] (.bool (decide (x=tx))):=by
 refine FnP.mk func150 Z ntmps150 Z fun B a w F V hfr G=>Ya ?_
 refine rZ G qB V [3,1,0] [0] fun G=>Ya ?_
 refine rZ G (qR rr (qf (oR false 1 .t) r1 qz (qf (o_eql .t .t) r2 qz (qO rr qZ)))) V [3] [0] fun G=>Yh ?_
 refine Zs hfr G Z Z Z .refl
theorem ZmL (l:List Int) (tx:Int) (hl:l.length≤1000000):FnP prog 105 [.sl Zn l,.int .i64 tx] (.sl Zn (withoutO l tx)):=by
 refine FnP.mk func105 Z ntmps105 Z fun B a w F V hfr G=>?_
 have hll:=Sat.lenSl G (i:=0) rfl
 refine Ya (Zb G (qf (Zfv 101 .t one_int) r1 qz (qC qZ)) V [4,3,0] [101,0] (fun _=>rfl) (fun _=>rfl) fun τ a w F G=>?_)
 try dsimp only [RS.sub,SF.sub,CF.sub,csub,Anc.sub,List.map,zCF,Zn] at G
 generalize τ 3=v3 at G
 obtain ⟨F,G⟩:=G.giveRef 101 3 Z Z rfl
 obtain ⟨F,G⟩:=G.nM [4,3,0] [0]
 try dsimp only [Go.Gm.unCF] at G
 refine Za (Ya ?_)
 replace G:=G.fresh 102 rfl
 refine Zkx G kr (nM Z Z (nf (Zap 102 (Zfc l hl) func42 Z kr (Args.one .t) pvOne1) r1 r1 (nn [6,4,3] [102,0] Z Z (nf (ZaO (Args.one .t)) r1 trivial (nf (Zli 6 102 (fun v=>ZuE _ l hl (fun x=>decide (x=tx)) 150 f150 [.ref [.int .i64 tx]] func150 Z kr (fun x=>ZmK x tx)) func149 Z kr (Zp5.two .same (.of .t)) pvOne1) r2 r1 (nn [8,4] [102,0] Z Z (nN Z Z ChainN.nil))))))) kr (by rw [V];kernel_rfl) fun a w F G=>?_
 replace G:=G.sub
 obtain ⟨F,G⟩:=G.nM [4] [102,0]
 try dsimp only [RS.sub,SF.sub,CF.sub,csub,Anc.sub,List.map,Zn] at G
 generalize Act.tau a 8=v8 at G
 refine Za (Yh ?_)
 obtain ⟨F,G⟩:=G.give 102 4 Z rfl
 refine Zs hfr G Z Z Z (.sl (by simp [withoutO]))
theorem Zfe (g:Zr) (hs:Za9 g):FnP prog 19 [.agg (Zv g)] (.bool (decide (ZS g))):=by
 refine FnP.mk func19 Z ntmps19 Z fun B a w F V hfr G=>?_
 have hsl:=hs.1.1
 have hso:=hs.2.1
 refine Ya (Zb G (qx 101 r1 qB) V [2,1] [101,0] (fun _=>rfl) (fun _=>rfl) fun τ a w F G=>?_)
 try dsimp only [RS.sub,SF.sub,CF.sub,csub,Anc.sub,List.map,zCF,Zv,rTx,ZH,ZU,Zn,rOp] at G
 generalize τ 1=v1 at G
 refine Za (Ya (Ya (rZ G (qg 0 101 r1 r1 (qa 101 r1 r1 (qu Yci r1 (qf (ZaR .t qi) r1 qz qZ)))) V [11,2,1] [101,0] fun G=>?_)))
 refine Zc G Z (fun hc0=>?_) (fun hc0=>?_)
 ·have hg:=ZgV (h:=g) (by simp at hc0;omega)
  refine Ya (rZ G qB V [2,1] [101,0] fun G=>(Yh (Zl ?_)))
  refine Zs hfr G Z Z Z (.bool hg)
 have hlong:g.txs.length≤4096:=by simp at hc0;omega
 refine Ye (Za (Ya (Ya (rZ G (qg 0 101 r1 r1 (qa 101 r1 r1 (qu Yci r1 (qJ qZ)))) V [15,14,13,2,1] [101,0] fun G=>Yg ?_))))
 refine Zk (σ:=(Nat)) [1,2,13,14] [0,101] (fun s=>[(15,.pv (.int .i64 (s:Int)))]) (fun s=>[]) (fun s=>s≤g.txs.length∧(∀ k,k<s→ZnM g k)) (fun s=>g.txs.length - s) (0) G ⟨rfl,rfl,rfl,rfl,rfl,tv⟩ ⟨rfl,rfl,tv⟩ ⟨Yw _,fun k hk=>absurd hk (Y3 k)⟩ ?_
 clear G;intro i a w F hC G
 try dsimp only at hC
 obtain ⟨F,G⟩:=G.nM [15,14,13,2,1] [101,0]
 try dsimp only at G
 obtain ⟨hi,hq⟩:=hC
 have hxl:=fun hil:i<g.txs.length=>hs.1.at hil
 have hiw:0<i→IntKind.wrap .i64 ((i:Int) - 1)=((i - 1:Nat):Int):=fun h0=>by rw [ZA ow];omega
 refine Ya (rZ G (qL r2) V [16,15,14,13,2,1] [101,0] fun G=>Ya ?_)
 refine Zc G Z (fun hc1=>?_) (fun hc1=>?_)
 ·have hil:i<g.txs.length:=by simp at hc1;omega
  refine Ye (Za (Ya (Yg (Ya (Zb G (qR rr (qy 3 Yci r2 (qf (oR true 3 .t) r1 qz (qf (oH [.int .i64 0,.bool false,.slice none 0 0] 102) trivial qz (qO rr (qS 3 102 r2 r1 qZ)))))) V [15,14,13,4,3,2,1] [102,101,0] (fun _=>rfl) (fun _=>rfl) fun τ a w F G=>?_)))))
  try dsimp only [RS.sub,SF.sub,CF.sub,csub,Anc.sub,List.map,Zf,xL,xM,Nat.reduceAdd,xD,xE,xT,xU,xC,xN,zCF,ldSF,Zv,rTx,ZH,ZU,Zn,rOp] at G
  generalize τ 4=v4 at G
  try simp only [Yb] at G
  refine Za (Ya (Zw G (qR rr (qf (ZaR .t qi) r1 qz (qR rr (qv 0 101 Z r2 r1 (qw 101 Z r2 r1 (qm Z Z Z Z (qk Z (fun h=>o_sub (.w h) qi) r2 qz (qk Z (fun h=>o_indexAddr_sl (sz:=3) (.mk Yci kr) (by intro x;rfl) (.w h) (.w h) (by rw [hiw (by simpa using h)];omega) (by rw [hiw (by simpa using h)];omega)) r3 qz (qk Z (fun h=>oG 0 (.w h)) r2 qz (qk Z (fun h=>oR false 1 (.w h)) r2 qz (qv 0 102 Z r2 r1 (qw 102 Z r2 r1 (qk Z (fun h=>Zbs (.w h) (.w h)) r3 qz (qf (ZE .t .t) r2 qz (qR rr (qk Z (fun h=>oL true 3 102 .is) r2 r1 (qk Z (fun h=>oP (ZoX (Nn g.txs i)) func44 (Args.one (.pagg (.w h)))) r2 qz (qk Z (fun h=>o_neq (.w h) qi) r2 qz (qf (Zak .t .t) r2 qz (qR rr (qk Z (fun h=>oL true 2 101 .is) r2 r1 (qk Z (fun h=>oL true 3 102 .is) r2 r1 (qk Z (fun h=>oP (ZsN g (Nn g.txs i) hs.1 (by have:=hxl hil;omega)) func45 (Args.two (.pagg (.w h)) (.pagg (.w h)))) r3 qz (qk Z (fun h=>o_not (.w h)) r2 qz (qf (Zak .t .t) r2 qz qZ))))))))))))))))))))))))) V [44,15,14,13,2,1] [102,101,0] Z Z fun a w F G=>?_))
  try dsimp only [List.map,xD,xE,xT,xU,ldSF,Zv,rTx,ZH,ZU,Zn,rOp] at G
  try simp only [Yb] at G
  refine Za (Zc G Z (fun hc2=>?_) (fun hc2=>?_))
  ·have hbad:¬ ZnM g i:=by
     rintro ⟨g1,g2,g3⟩
     have h9:=hc2
     by_cases hi0:0<i
     · rw [hiw hi0,Yb] at h9
       have:=g1 hi0
       simp [g2,g3] at h9
       omega
     · have hi1:i=0:=by omega
       subst hi1
       simp [g2,g3] at h9
   have hg:=ZjU hil hbad
   refine Ya (rZ G qB V [15,14,13,2,1] [102,101,0] fun G=>(Yh (Zz (Zl (Zl (Zz (Zl ?_)))))))
   refine Zs hfr G Z Z Z (.bool hg)
  have hgood:ZnM g i:=by
    have h9:=hc2
    by_cases hi0:0<i
    · rw [hiw hi0,Yb] at h9
      simp at h9
      exact ⟨fun _=>by omega,by omega,h9.2⟩
    · have hi1:i=0:=by omega
      subst hi1
      simp at h9
      exact ⟨fun h0=>absurd h0 (Nat.lt_irrefl 0),h9.1,h9.2⟩
  refine Ye (Zi (Za (rZ G (qp r1 (qR rr qZ)) V [15,14,13,2,1] [102,101,0] fun G=>?_)))
  replace G:=G.ent (i:=15) (s':=.pv (.int .i64 ((i+1:Nat):Int))) Z (.int (Zd ow))
  obtain ⟨F,G⟩:=G.nM [14,13,2,1,15] [101,0]
  exact ⟨(i+1),F,⟨by omega,(fun k hk=>by rcases YX (Y6 hk) with h9 | h9;exact hq k h9;rw [h9];exact hgood)⟩,G,by omega⟩
 have hil:i=g.txs.length:=by simp at hc1;omega
 have hall:∀ k,k<g.txs.length→ZnM g k:=by rw [← hil];exact hq
 have hkn:=ZpJ hs.1
 refine Yx (Zj (Zj (Zo (Za (Ya ?_)))))
 replace G:=G.fresh 103 rfl
 refine Zb G (qe 2 101 r1 r1 (qf (Zap 103 (Zn9 g hs.1) func46 Z kr (Args.one (.pagg .t)) pvOne1) r1 r1 (qO rr qZ))) V [5,2,1] [103,101,0] (fun _=>rfl) (fun _=>rfl) fun τ a w F G=>?_
 try dsimp only [RS.sub,SF.sub,CF.sub,csub,Anc.sub,List.map,xD,xE,xT,xU,ldSF,Zv,rTx,ZH,ZU,Zn,rOp] at G
 generalize τ 47=v47 at G
 replace G:=G.turn 103 Z (r':=RS.hp (HP.ex fun s:List (GE Int (List Int))×Nat=>HP.and (WrL s.1 g.txs) (ZbN (fun l:List Int=>PV.sl Zn l) (fun _=>True) (fun n:Int=>Value.int .i64 n) s.1 s.2 v47))) (fun _ _ _ _ h=>h)
 obtain ⟨sm,G⟩:=G.open_ex 103 rfl
 obtain ⟨hwm,G⟩:=G.open_and 103 rfl
 obtain ⟨es,ck⟩:=sm
 try dsimp only at hwm G
 replace G:=G.turn 103 Z (r':=.ob (.val v47) (ZbN (fun l:List Int=>PV.sl Zn l) (fun _=>True) (fun n:Int=>Value.int .i64 n) es ck)) (fun _ _ _ _ h=>h)
 have hgw:=Zvp hwm
 have hml:=Zvt hwm
 obtain ⟨F,G⟩:=G.nM [5,2,1] [103,101,0]
 refine Za (Ya (Ya (rZ G (qR rr (qf (Zns 103 underlying83 .is ow) r1 r1 (qg 1 101 r1 r1 (qa 101 r1 r1 (qu Ych r1 (qf (o_neq .t .t) r2 qz qZ)))))) V [53,5,2,1] [103,101,0] fun G=>?_)))
 refine Zc G Z (fun hc3=>?_) (fun hc3=>?_)
 ·have hg:=ZhO (h:=g) (by simp at hc3;omega)
  refine Ya (rZ G qB V [5,2,1] [103,101,0] fun G=>(Yh (Zl ?_)))
  refine Zs hfr G Z Z Z (.bool hg)
 have hle:g.orders.length=(ZcD g.txs).length:=by simp at hc3;omega
 refine Ye (Za (Ya (Ya (rZ G (qg 1 101 r1 r1 (qa 101 r1 r1 (qu Ych r1 (qJ qZ)))) V [57,56,55,5,2,1] [103,101,0] fun G=>Yg ?_))))
 refine Zk (σ:=(Nat)) [1,2,5,55,56] [0,101,103] (fun s=>[(57,.pv (.int .i64 (s:Int)))]) (fun s=>[]) (fun s=>s≤g.orders.length∧(∀ k,k<s→ZgB g k)) (fun s=>g.orders.length - s) (0) G ⟨rfl,rfl,rfl,rfl,rfl,rfl,tv⟩ ⟨rfl,rfl,rfl,tv⟩ ⟨Yw _,fun k hk=>absurd hk (Y3 k)⟩ ?_
 clear G;intro i a w F hC G
 try dsimp only at hC
 obtain ⟨F,G⟩:=G.nM [57,56,55,5,2,1] [103,101,0]
 try dsimp only at G
 obtain ⟨hi,hq⟩:=hC
 have hol:=fun hil:i<g.orders.length=>hs.2.at hil
 have hwl:=fun k=>ZeT g.txs k
 have hiw:0<i→IntKind.wrap .i64 ((i:Int) - 1)=((i - 1:Nat):Int):=fun h0=>by rw [ZA ow];omega
 refine Ya (rZ G (qL r2) V [58,57,56,55,5,2,1] [103,101,0] fun G=>Ya ?_)
 refine Zc G Z (fun hc4=>?_) (fun hc4=>?_)
 ·have hil:i<g.orders.length:=by simp at hc4;omega
  refine Ye (Za (Ya (Yg (Ya (Zb G (qR rr (qy 2 Ych r2 (qf (oR true 2 .t) r1 qz (qf (oH [.int .i64 0,.slice none 0 0] 104) trivial qz (qO rr (qS 2 104 r2 r1 qZ)))))) V [57,56,55,7,6,5,2,1] [104,103,101,0] (fun _=>rfl) (fun _=>rfl) fun τ a w F G=>?_)))))
  try dsimp only [RS.sub,SF.sub,CF.sub,csub,Anc.sub,List.map,Zf,xL,xM,Nat.reduceAdd,xD,xE,xT,xU,xC,xN,zCF,ldSF,Zv,rTx,ZH,ZU,Zn,rOp] at G
  generalize τ 7=v7 at G
  try simp only [Yb] at G
  refine Za (Ya (Zw G (qR rr (qf (ZaR .t qi) r1 qz (qR rr (qv 1 101 Z r2 r1 (qw 101 Z r2 r1 (qm Z Z Z Z (qk Z (fun h=>o_sub (.w h) qi) r2 qz (qk Z (fun h=>o_indexAddr_sl (sz:=2) (.mk Ych kr) (by intro x;rfl) (.w h) (.w h) (by rw [hiw (by simpa using h)];omega) (by rw [hiw (by simpa using h)];omega)) r3 qz (qk Z (fun h=>oG 0 (.w h)) r2 qz (qk Z (fun h=>oR false 1 (.w h)) r2 qz (qv 0 104 Z r2 r1 (qw 104 Z r2 r1 (qk Z (fun h=>Zbs (.w h) (.w h)) r3 qz (qf (ZE .t .t) r2 qz (qR rr (qv 1 104 Z r2 r1 (qw 104 Z r2 r1 (qk Z (fun h=>Zdj Ycf (.w h)) r2 qz (qk Z (fun h=>o_eql (.w h) qi) r2 qz (qf (Zak .t .t) r2 qz (qR rr (qv 1 104 Z r2 r1 (qw 104 Z r2 r1 (qm Z Z Z Z (qv 0 104 Z r2 r1 (qw 104 Z r2 r1 (qk Z (fun h=>Zat (ek:=(fun l:List Int=>PV.sl Zn l)) (z0:=([]:List Int)) 103 underlying83 (Zcx Ycn) kr (fun _ _=>Zjj) (.w h .is) (ZM.int (.w h) Z)) r3 r1 (qk Z (fun h=>oP (Zvq (Nn g.orders i).txs _ (by have:=hol hil;omega) (by rw [hgw];have:=hwl (Nn g.orders i).key;omega)) func47 (Args.two (.w h) (.w h))) r3 qz (qk Z (fun h=>o_not (.w h)) r2 qz (qf (Zak .t .t) r2 qz qZ)))))))))))))))))))))))))))))) V [91,57,56,55,5,2,1] [104,103,101,0] Z Z fun a w F G=>?_))
  try dsimp only [List.map,xD,xE,xT,xU,ldSF,Zv,rTx,ZH,ZU,Zn,rOp] at G
  try simp only [Yb] at G
  refine Za (Zc G Z (fun hc5=>?_) (fun hc5=>?_))
  ·have hbad:¬ ZgB g i:=by
     rintro ⟨g1,g2,g3⟩
     have h9:=hc5
     rw [hgw] at h9
     have g4:(Nn g.orders i).txs.length≠0:=fun e=>g2 (YP e)
     by_cases hi0:0<i
     · rw [hiw hi0,Yb] at h9
       have:=g1 hi0
       simp [g2,g3] at h9
       omega
     · have hi1:i=0:=by omega
       subst hi1
       simp [g2,g3] at h9
   have hg:=ZgR hil hbad
   refine Ya (rZ G qB V [57,56,55,5,2,1] [104,103,101,0] fun G=>(Yh (Zz (Zl (Zl (Zz (Zl ?_)))))))
   refine Zs hfr G Z Z Z (.bool hg)
  have hgood:ZgB g i:=by
    have h9:=hc5
    rw [hgw] at h9
    by_cases hi0:0<i
    · rw [hiw hi0,Yb] at h9
      simp at h9
      exact ⟨fun _=>by omega,h9.1.2,h9.2⟩
    · have hi1:i=0:=by omega
      subst hi1
      simp at h9
      exact ⟨fun h0=>absurd h0 (Nat.lt_irrefl 0),h9.1,h9.2⟩
  refine Ye (Zi (Za (rZ G (qp r1 (qR rr qZ)) V [57,56,55,5,2,1] [104,103,101,0] fun G=>?_)))
  replace G:=G.ent (i:=57) (s':=.pv (.int .i64 ((i+1:Nat):Int))) Z (.int (Zd ow))
  obtain ⟨F,G⟩:=G.nM [56,55,5,2,1,57] [103,101,0]
  exact ⟨(i+1),F,⟨by omega,(fun k hk=>by rcases YX (Y6 hk) with h9 | h9;exact hq k h9;rw [h9];exact hgood)⟩,G,by omega⟩
 have hil:i=g.orders.length:=by simp at hc4;omega
 have hg:=Zkw hlong hall ow (by rw [← hil];exact hq)
 refine Yx (Zj (Zj (Zo (Za (Ya (rZ G qB V [2] [103,101,0] fun G=>Yh ?_))))))
 refine Zs hfr G Z Z Z (.bool hg)
def Zvf (l:List TxD):Prop:=l.length≤1000000 ∧ ∀ t ∈ l,t.ops.length≤1000000
def Zth (l:List OrdD):Prop:=l.length≤1000000 ∧ ∀ t ∈ l,t.txs.length≤1000000
structure DOk (d:Zka):Prop where
 was:Zvf d.was
 now:Zvf d.now
 old:Zth d.old
 new:Zth d.new
def inv (d:Zka):Zka:=⟨d.now,d.was,d.new,d.old⟩
def Zck (h:Zr):Prop:=h.txs.length≤12∧h.orders.length≤24∧(∀ j,j<h.txs.length→(Nn h.txs j).ops.length≤24) ∧ ∀ j,j<h.orders.length→(Nn h.orders j).txs.length≤24
instance (h:Zr):Decidable (Zck h):=by unfold Zck;exact inferInstance
def ZsU (d:Zka):Prop:=Zck ⟨d.was,d.old⟩∧Zck ⟨d.now,d.new⟩
instance (d:Zka):Decidable (ZsU d):=by unfold ZsU;exact inferInstance
theorem ZrL (u:Zr):FnP prog 11 [.agg (Zv u)] (.bool (decide (Zck u))):=by
 refine FnP.mk func11 Z ntmps11 Z fun B a w F V hfr G=>?_
 obtain ⟨hxl,hyl⟩:=Sat.lenHist G (i:=0) rfl
 refine Ya (Zb G (qx 101 r1 qB) V [2,1] [101,0] (fun _=>rfl) (fun _=>rfl) fun τ a w F G=>?_)
 try dsimp only [RS.sub,SF.sub,CF.sub,csub,Anc.sub,List.map,zCF] at G
 generalize τ 1=v1 at G
 refine Za (Ya (Ya (rZ G (qg 0 101 r1 r1 (qa 101 r1 r1 (qu Yci r1 (qf (ZaR .t qi) r1 qz (qR rr (qv 1 101 Z r2 r1 (qw 101 Z r2 r1 (qk Z (fun h=>Zdj Ych (.w h)) r2 qz (qk Z (fun h=>ZaR (.w h) qi) r2 qz (qf (Zak .t .t) r2 qz qZ)))))))))) V [16,2,1] [101,0] fun G=>?_)))
 refine Zc G Z (fun hc0=>?_) (fun hc0=>?_)
 ·have hg:false=decide (Zck u):=by
    rw [Yaj,YF]
    rintro ⟨g1,g2,g3,g4⟩
    simp at hc0;omega
  refine Ya (rZ G qB V [2,1] [101,0] fun G=>(Yh (Zl ?_)))
  refine Zs hfr G Z Z Z (.bool hg)
 have hb:u.txs.length≤12∧u.orders.length≤24:=by simp at hc0;omega
 refine Ye (Za (Ya (Ya (rZ G (qg 0 101 r1 r1 (qa 101 r1 r1 (qu Yci r1 (qJ qZ)))) V [20,19,18,2,1] [101,0] fun G=>Yg ?_))))
 obtain ⟨F,G⟩:=G.nM [20,19,18,1] [101,0]
 refine Zbf (σ:=Nat) (fun s=>(⟨[(1,.pv (.is v1)),(18,.pv (.sl rTx u.txs)),(19,.pv (.int .i64 u.txs.length)),(20,.pv (.int .i64 s))],[(0,frame B),(101,.pt (.val v1) 25 [.pv (.sl rTx u.txs),.pv (.sl ZH u.orders)])]⟩:En)) (fun s=>s≤u.txs.length ∧ ∀ j,j<s→(Nn u.txs j).ops.length≤24) (fun s=>u.txs.length - s) 0 G ⟨Yw _,fun j hj=>absurd hj (Y3 j)⟩ ?_
 clear G;intro i a w F hC G
 try dsimp only at hC
 try dsimp only at G
 obtain ⟨hi,hq⟩:=hC
 refine Ya (rZ G (qL r2) V [21,20,19,18,1] [101,0] fun G=>Ya ?_)
 refine Zc G Z (fun hc1=>?_) (fun hc1=>?_)
 ·have hil:i<u.txs.length:=by simp at hc1;omega
  refine Ye (Za (Ya (Yg (Ya (Zb G (qy 3 Yci r2 (qf (oR true 3 .t) r1 qz (qf (oH [.int .i64 0,.bool false,.slice none 0 0] 102) trivial qz (qS 3 102 r2 r1 qZ)))) V [20,19,18,4,1] [102,101,0] (fun _=>rfl) (fun _=>rfl) fun τ a w F G=>?_)))))
  try dsimp only [RS.sub,SF.sub,CF.sub,csub,Anc.sub,List.map,Zf,xL,xM,Nat.reduceAdd,xD,xE,xT,xU,xC,xN,zCF,ldSF] at G
  generalize τ 4=v4 at G
  refine Za (Ya (rZ G (qg 2 102 r1 r1 (qa 102 r1 r1 (qu Yck r1 (qf (ZaR .t qi) r1 qz qZ)))) V [27,20,19,18,1] [101,0] fun G=>?_))
  refine Zc G Z (fun hc2=>?_) (fun hc2=>?_)
  ·have hg:false=decide (Zck u):=by
     rw [Yaj,YF]
     rintro ⟨g1,g2,g3,g4⟩
     have:=g3 i hil;rw [Yb] at hc2;simp at hc2;omega
   refine Ya (rZ G qB V [20,19,18,2,1] [101,0] fun G=>(Yh (Zz (Zl (Zl (Zz (Zl ?_)))))))
   refine Zs hfr G Z Z Z (.bool hg)
  have hqi:(Nn u.txs i).ops.length≤24:=by rw [Yb] at hc2;simp at hc2;omega
  refine Ye (Zi (Za (rZ G (qp r1 (qR rr qZ)) V [20,19,18,1] [101,0] fun G=>?_)))
  replace G:=G.ent (i:=20) (s':=.pv (.int .i64 ((i+1:Nat):Int))) Z (.int (Zd ow))
  obtain ⟨F,G⟩:=G.nM [20,19,18,1] [101,0]
  exact ⟨i+1,F,⟨by omega,fun j hj=>by rcases YX (Y6 hj) with h | h;exact hq j h;rw [h];exact hqi⟩,G,by omega⟩
 have hT:∀ j,j<u.txs.length→(Nn u.txs j).ops.length≤24:=fun j hj=>hq j (by simp at hc1;omega)
 clear hq hi
 refine Yx (Zj (Zj (Zo (Za (Ya (Ya (rZ G (qg 1 101 r1 r1 (qa 101 r1 r1 (qu Ych r1 (qJ qZ)))) V [32,31,30] [0] fun G=>Yg ?_)))))))
 obtain ⟨F,G⟩:=G.nM [32,31,30] [0]
 refine Zbf (σ:=Nat) (fun s=>(⟨[(30,.pv (.sl ZH u.orders)),(31,.pv (.int .i64 u.orders.length)),(32,.pv (.int .i64 s))],[(0,frame B)]⟩:En)) (fun s=>s≤u.orders.length ∧ ∀ j,j<s→(Nn u.orders j).txs.length≤24) (fun s=>u.orders.length - s) 0 G ⟨Yw _,fun j hj=>absurd hj (Y3 j)⟩ ?_
 clear G;intro i a w F hC G
 try dsimp only at hC
 try dsimp only at G
 obtain ⟨hi,hq⟩:=hC
 refine Ya (rZ G (qL r2) V [33,32,31,30] [0] fun G=>Ya ?_)
 refine Zc G Z (fun hc3=>?_) (fun hc3=>?_)
 ·have hil:i<u.orders.length:=by simp at hc3;omega
  refine Ye (Za (Ya (Yg (Ya (Zb G (qy 2 Ych r2 (qf (oR true 2 .t) r1 qz (qf (oH [.int .i64 0,.slice none 0 0] 103) trivial qz (qS 2 103 r2 r1 qZ)))) V [32,31,30,6] [103,0] (fun _=>rfl) (fun _=>rfl) fun τ a w F G=>?_)))))
  try dsimp only [RS.sub,SF.sub,CF.sub,csub,Anc.sub,List.map,Zf,xL,xM,Nat.reduceAdd,xD,xE,xT,xU,xC,xN,zCF,ldSF] at G
  generalize τ 6=v6 at G
  refine Za (Ya (rZ G (qg 1 103 r1 r1 (qa 103 r1 r1 (qu Ycf r1 (qf (ZaR .t qi) r1 qz qZ)))) V [39,32,31,30] [0] fun G=>?_))
  refine Zc G Z (fun hc4=>?_) (fun hc4=>?_)
  ·have hg:false=decide (Zck u):=by
     rw [Yaj,YF]
     rintro ⟨g1,g2,g3,g4⟩
     have:=g4 i hil;rw [Yb] at hc4;simp at hc4;omega
   refine Ya (rZ G qB V [32,31,30,2] [0] fun G=>(Yh (Zz (Zl (Zl (Zz (Zl ?_)))))))
   refine Zs hfr G Z Z Z (.bool hg)
  have hqi:(Nn u.orders i).txs.length≤24:=by rw [Yb] at hc4;simp at hc4;omega
  refine Ye (Zi (Za (rZ G (qp r1 (qR rr qZ)) V [32,31,30] [0] fun G=>?_)))
  replace G:=G.ent (i:=32) (s':=.pv (.int .i64 ((i+1:Nat):Int))) Z (.int (Zd ow))
  obtain ⟨F,G⟩:=G.nM [32,31,30] [0]
  exact ⟨i+1,F,⟨by omega,fun j hj=>by rcases YX (Y6 hj) with h | h;exact hq j h;rw [h];exact hqi⟩,G,by omega⟩
 have hO:∀ j,j<u.orders.length→(Nn u.orders j).txs.length≤24:=fun j hj=>hq j (by simp at hc3;omega)
 have hg:true=decide (Zck u):=by rw [Yaj,Yq];exact ⟨hb.1,hb.2,hT,hO⟩
 refine Yx (Zj (Zj (Zo (Za (Ya (rZ G qB V [2] [0] fun G=>Yh ?_))))))
 refine Zs hfr G Z Z Z (.bool hg)
instance (h:Zr):Decidable (Zck h):=by unfold Zck;exact inferInstance
theorem ZeY {P:Program} {w:World} {d:Nat} {e:TypeId} (he:P.underlying e=some (.int .i64)) {l m:List Int} : ∀ (is:List Nat),(∀ i ∈ is,i<l.length∧i<m.length)→(Op.eqItems (d+1) e 1 (l.map fun n=>Value.int .i64 n).toArray (m.map fun n=>Value.int .i64 n).toArray is).run P w = .ok (is.all fun i=>decide (l[i]? = m[i]?)) w
 | [],_=>by simp [Op.eqItems]
 | i :: is,h=>by
  have hag:P.aggB e=some false:=by unfold Program.aggB;rw [he]
  obtain ⟨h1,h2⟩:=h i (by simp)
  have p1:(part e (l.map fun n=>Value.int .i64 n).toArray (i*1)).run P w = .ok (.int .i64 l[i]) w:=by simp [part,run_isAgg hag,h1]
  have p2:(part e (m.map fun n=>Value.int .i64 n).toArray (i*1)).run P w = .ok (.int .i64 m[i]) w:=by simp [part,run_isAgg hag,h2]
  have p3:(Op.equalIn (d+1) e (.int .i64 l[i]) (.int .i64 m[i])).run P w = .ok (l[i] == m[i]) w:=run_equalIn_int w d e .i64 _ _ _ he
  have ih:=ZeY (P:=P) (w:=w) (d:=d) he is (fun j hj=>h j (YC _ hj))
  simp only [Op.eqItems,Yz,p1,p2,p3,Yn]
  rw [List.all_cons,Yax h1,Yax h2]
  by_cases hab:l[i] = m[i]
  ·simp [hab,ih]
  ·simp [hab]
theorem Zqr {l m:List Int} {n:Nat} (hl:l.length=n) (hm:m.length=n):((List.range n).all fun i=>decide (l[i]? = m[i]?))=decide (l=m):=by
 rw [Yai,YaT,Yq]
 constructor
 ·intro h
  apply List.ext_getElem?
  intro i
  by_cases hi:i<n
  ·simpa using h i (Ya1.2 hi)
  ·rw [YbS ow,YbS ow]
 ·rintro rfl i _
  simp
theorem Zq2 {P:Program} {κ:Type} [DecidableEq κ] {kt et:TypeId} {enc:κ→List Int} {n:Nat} (hl:∀ k,(enc k).length=n) (hi:∀ a b,enc a=enc b→a=b) (hu:P.underlying kt=some (.array n et)) (he:P.underlying et=some (.int .i64)) (hc:P.cellsOf et=1):ZnH P kt (fun k=>∀ x ∈ enc k,inR .i64 x) (kvS enc) where
 check:=fun b k w _=>by
  obtain ⟨ti,hti⟩:∃ i,P.info? et=some i:=info_of_underlying he
  have hag:P.aggB et=some false:=by unfold Program.aggB;rw [he]
  unfold kvS
  rw [show (10000:Nat)=9998+1+1 from rfl,Instr.checkKey]
  simp only [Yz,Ym hu,Yn]
  simp only [Std.Legacy.Range.forIn_eq_forIn_range',Std.Legacy.Range.size,Yb1,Nat.add_one_sub_one,Nat.div_one]
  have each:∀ i ∈ List.range' 0 n,i<(enc k).length:=by intro i h;rw [hl];simp [List.mem_range'] at h;omega
  generalize List.range' 0 n=is at each
  induction is with
  | nil=>simp
  | cons j is ih=>
   have h1:=each j (by simp)
   have p1:(part et ((enc k).map fun n=>Value.int .i64 n).toArray (j*1)).run P w = .ok (.int .i64 (enc k)[j]) w:=by simp [part,run_isAgg hag,h1]
   have p2:(Instr.checkKey b (9998+1) et (.int .i64 (enc k)[j])).run P w = .ok () w:=Go.MapKept.run_checkKey he (by simp [Go.MapKept.IsKey]) b 9998
   simp only [List.forIn_cons,Yz,run_sizeOf w hti,hc,Yn,p1,p2,YG]
   exact ih (fun y hy=>each y (by simp [hy]))
 find:=fun es k w hok hks=>by
  obtain ⟨ti,hti⟩:∃ i,P.info? et=some i:=info_of_underlying he
  rw [run_findKey_eq (P:=P) (w:=w) (k:=kt) (by rw [hu]) (kvS enc k) (es.map (rEnc (kvS enc)))]
  have key:∀ (es:List (GE κ Value)) (j:Nat),(Instr.findAsking kt (kvS enc k) (es.map (rEnc (kvS enc))) j).run P w = .ok ((gIdx k es).map fun i=>(i+j,(gGet k es).getD undef)) w:=by
   intro es
   induction es with
   | nil=>intro j;simp [Instr.findAsking,gIdx]
   | cons e es ih=>
    intro j
    have hq:(Op.equal kt (kvS enc k) (kvS enc e.key)).run P w = .ok (decide (enc k=enc e.key)) w:=by
     unfold Op.equal Op.maxDepth kvS
     rw [show (10000:Nat)=9998+1+1 from rfl,run_equalIn_array w (9998+1) _ _ hu hti,hc,ZeY he _ (fun i h=>by rw [hl,hl];simpa using h),Zqr (hl _) (hl _)]
    rw [YW]
    unfold Instr.findAsking
    have ih':=ih (j+1)
    by_cases h:k=e.key
    ·have hek:enc k=enc e.key:=by rw [h]
     simp only [rEnc,Yz,hq,hek,decide_true,Yn,Yv,YG]
     simp [gIdx,gGet,h]
    ·have hek:¬ enc k=enc e.key:=fun h'=>h (hi _ _ h')
     simp only [rEnc,Yz,hq,YD hek,Yn,Ybu,Yp]
     rw [show (es.map fun e=>rEnc (kvS enc) e)=es.map (rEnc (kvS enc)) from rfl] at *
     rw [ih']
     simp only [gIdx,gGet,Yc h]
     cases hm:gIdx k es with
     | none=>rfl
     | some i=>simp;omega
  have:=key es 0
  simpa using this
 same:=fun k=>Zgj (enc k) 9999
def ZnI {κ:Type} [DecidableEq κ] (A:List (κ×Int)) (k:κ):Int:=A.foldl (fun x z=>if k=z.1 then z.2 else x) 0
theorem ZiF {κ:Type} [DecidableEq κ] {A:List (κ×Int)} {z:κ×Int} {k:κ} : ZnI (A ++ [z]) k=if k=z.1 then z.2 else ZnI A k:=by unfold ZnI;rw [Yat];rfl
theorem ZqQ {κ:Type} [DecidableEq κ] {k:κ} (A:List (κ×Int)) (hA:∀ z ∈ A,z.2=1):0≤ZnI A k∧ZnI A k≤1:=by
 have key:∀ (A:List (κ×Int)) (x:Int),(∀ z ∈ A,z.2=1)→0≤x∧x≤1→0≤A.foldl (fun x z=>if k=z.1 then z.2 else x) x∧A.foldl (fun x z=>if k=z.1 then z.2 else x) x≤1:=by
  intro A
  induction A with
  | nil=>intro x _ h;exact h
  | cons z A ih=>
   intro x hz hx
   rw [Yao]
   refine ih _ (fun y hy=>hz y (YC _ hy)) ?_
   have:=hz z (by simp)
   split <;> omega
 exact key A 0 hA ow
structure ZdT where
 fst:Int
 snd:Int
 deriving DecidableEq,Inhabited
def Ze7 (k:ZdT):List Int:=[k.fst,k.snd]
def Zar (e:Zg):List Int:=[e.src,e.dst,e.kind,e.key]
def Zdz (l:List TxD):List (Int×Int):=(l.filter TxD.done).map fun t=>(t.id,1)
def Zb6 (id:Int) (l:List OpD):List ZdT:=(l.filter fun o=>!o.read).map fun o=>⟨id,o.key⟩
def lastK (l:List TxD):List ZdT:=l.flatMap fun t=>if t.done=true then Zb6 t.id t.ops else []
def atI (l:List Int) (j:Nat):Int:=if j=0 then 0 else Nn l (j - 1)
def nxO (o:OrdD) (j:Nat):List (ZdT×Int):=(List.range j).map fun i=>(⟨o.key,atI o.txs i⟩,Nn o.txs i)
def nxA (l:List OrdD):List (ZdT×Int):=l.flatMap fun o=>nxO o o.txs.length
theorem ZfZ {l:List TxD} {i:Nat} (hi:i<l.length):Zdz (l.take (i+1))=Zdz (l.take i)++if (Nn l i).done=true then [((Nn l i).id,1)] else []:=by
 unfold Zdz
 rw [Zp hi,Yah,YR]
 cases hd:(Nn l i).done <;> simp [hd]
theorem Zg6 {l:List TxD} {i:Nat} (hi:i<l.length):lastK (l.take (i+1))=lastK (l.take i)++if (Nn l i).done=true then Zb6 (Nn l i).id (Nn l i).ops else []:=by
 unfold lastK
 rw [Zp hi,YV]
 simp
theorem ZgJ {id:Int} {l:List OpD} {j:Nat} (hj:j<l.length):Zb6 id (l.take (j+1))=Zb6 id (l.take j)++if (Nn l j).read=true then [] else [⟨id,(Nn l j).key⟩]:=by
 unfold Zb6
 rw [Zp hj,Yah,YR]
 cases hd:(Nn l j).read <;> simp [hd]
theorem Zhu (id:Int) (l:List OpD):(Zb6 id l).length≤l.length:=by unfold Zb6;rw [YH];exact Yaa _ _
theorem ZpD {l:List TxD} (h:ZaX l) (i:Nat):(lastK (l.take i)).length≤1000*i:=by
 have key:∀ l:List TxD,(∀ t ∈ l,t.ops.length≤1000)→(lastK l).length≤1000*l.length:=by
  intro l
  induction l with
  | nil=>intro _;simp [lastK]
  | cons t l ih=>
   intro h
   have h1:=ih fun x hx=>h x (by simp [hx])
   have h2:=h t (by simp)
   have h3:=Zhu t.id t.ops
   unfold lastK at h1 ⊢
   rw [Y2,Yd,Yl]
   split
   ·omega
   ·simp only [Yy];omega
 have h1:=key (l.take i) fun t ht=>h.2 t (Yay ht)
 have h2:(l.take i).length≤i:=by rw [Yi];omega
 exact Y4 h1 (Ybo _ h2)
theorem Zr2 {o:OrdD} {j:Nat} : nxO o (j+1)=nxO o j ++ [(⟨o.key,atI o.txs j⟩,Nn o.txs j)]:=by unfold nxO;rw [List.range_succ,YR];rfl
theorem Zr9 {l:List OrdD} {i:Nat} (hi:i<l.length):nxA (l.take (i+1))=nxA (l.take i)++nxO (Nn l i) (Nn l i).txs.length:=by
 unfold nxA
 rw [Zp hi,YV]
 simp
def ZnL {κ:Type} [DecidableEq κ] (es:List (GE κ Int)) (A:List (κ×Int)):Prop:=∀ k,(gGet k es).getD 0=ZnI A k
def ZqD {κ:Type} [DecidableEq κ] (es:List (GE κ Int)) (R:List κ):Prop:=∀ k,(gGet k es).getD 0=(R.count k:Int)
theorem ZoC {κ:Type} [DecidableEq κ] {es:List (GE κ Int)} {A:List (κ×Int)} {ck:Nat} {k:κ} {x:Int} (h:ZnL es A):ZnL (gPut k x (es,ck)).1 (A ++ [(k,x)]):=fun k'=>by
 rw [Zdp,ZiF,← h k']
 split <;> rfl
theorem Zuh {κ:Type} [DecidableEq κ] {es:List (GE κ Int)} {R:List κ} {ck:Nat} {k:κ} (h:ZqD es R) (hl:R.length≤100000000):ZqD (gSet k (IntKind.wrap .i64 ((gGet k es).getD 0+1)) (gEns 0 k (es,ck)).1) (R ++ [k]):=fun k'=>by
 have hc:R.count k≤R.length:=List.count_le_length
 rw [Zdg,h k,ZA ow,YbU]
 by_cases e:k' = k
 ·subst e;rw [Yf rfl];simp
 ·rw [Yc e,h k'];simp [List.count_cons,Ne.symm e]
def ZiM (g:Zr) (id:Int):Int:=ZnI (Zdz g.txs) id
def ZmC (g:Zr) (id k:Int):Int:=((lastK g.txs).count ⟨id,k⟩:Int)
def nxI (g:Zr) (k x:Int):Int:=ZnI (nxA g.orders) ⟨k,x⟩
def Zs5 (g:Zr) (t:TxD) (o:OpD):Bool:=decide (o.tx=t.id) || (!decide (o.tx=0) && (decide (ZiM g o.tx=0) || !decide (ZmC g o.tx o.key=o.nth)))
def rdA (t:TxD) (o:OpD):List Zg:=if o.tx=0 then [] else [⟨o.tx,t.id,2,o.key⟩]
def rdB (g:Zr) (t:TxD) (o:OpD):List Zg:=if nxI g o.key o.tx≠0∧nxI g o.key o.tx≠t.id then [⟨t.id,nxI g o.key o.tx,3,o.key⟩] else []
def rdO (g:Zr) (t:TxD) (o:OpD):List Zg:=if Zs5 g t o=true then [] else rdA t o++rdB g t o
theorem ZtI (g:Zr) (t:TxD) (o:OpD):(rdO g t o).length≤2:=by
 unfold rdO rdA rdB
 split
 ·simp
 ·split <;> split <;> simp
def rdT (p:Int→Bool) (g:Zr) (t:TxD) (l:List OpD):List Zg:=l.flatMap fun o=>if (t.done && (o.read && p o.key))=true then rdO g t o else []
def rdH (p:Int→Bool) (g:Zr) (l:List TxD):List Zg:=l.flatMap fun t=>rdT p g t t.ops
theorem Zmy {p:Int→Bool} {g:Zr} {t:TxD} {l:List OpD} {j:Nat} (hj:j<l.length):rdT p g t (l.take (j+1))=rdT p g t (l.take j)++if (t.done && ((Nn l j).read && p (Nn l j).key))=true then rdO g t (Nn l j) else []:=by
 unfold rdT
 rw [Zp hj,YV]
 simp
theorem Zrp {p:Int→Bool} {g:Zr} {l:List TxD} {i:Nat} (hi:i<l.length):rdH p g (l.take (i+1))=rdH p g (l.take i)++rdT p g (Nn l i) (Nn l i).ops:=by
 unfold rdH
 rw [Zp hi,YV]
 simp
theorem Zpl (p:Int→Bool) (g:Zr) (t:TxD) (l:List OpD):(rdT p g t l).length≤2*l.length:=by
 induction l with
 | nil=>simp [rdT]
 | cons o l ih=>
  have h1:=ZtI g t o
  unfold rdT at ih ⊢
  rw [Y2,Yd,Yl]
  split
  ·omega
  ·simp only [Yy];omega
theorem Zo0 {p:Int→Bool} {g:Zr} {l:List TxD} (h:ZaX l) (i:Nat):(rdH p g (l.take i)).length≤2000*i:=by
 have key:∀ l:List TxD,(∀ t ∈ l,t.ops.length≤1000)→(rdH p g l).length≤2000*l.length:=by
  intro l
  induction l with
  | nil=>intro _;simp [rdH]
  | cons t l ih=>
   intro h
   have h1:=ih fun x hx=>h x (by simp [hx])
   have h2:=h t (by simp)
   have h3:=Zpl p g t t.ops
   unfold rdH at h1 ⊢
   rw [Y2,Yd,Yl]
   omega
 have h1:=key (l.take i) fun t ht=>h.2 t (Yay ht)
 have h2:(l.take i).length≤i:=by rw [Yi];omega
 exact Y4 h1 (Ybo _ h2)
def wwO (o:OrdD) (j:Nat):List (Zg×Int):=(List.range j).map fun i=>(⟨Nn o.txs i,Nn o.txs (i+1),1,o.key⟩,1)
def wwA (p:Int→Bool) (l:List OrdD):List (Zg×Int):=l.flatMap fun o=>if p o.key=true then wwO o (o.txs.length - 1) else []
theorem Zr8 {o:OrdD} {j:Nat} : wwO o (j+1)=wwO o j ++ [(⟨Nn o.txs j,Nn o.txs (j+1),1,o.key⟩,1)]:=by unfold wwO;rw [List.range_succ,YR];rfl
theorem ZqN {p:Int→Bool} {l:List OrdD} {i:Nat} (hi:i<l.length):wwA p (l.take (i+1))=wwA p (l.take i)++if p (Nn l i).key=true then wwO (Nn l i) ((Nn l i).txs.length - 1) else []:=by
 unfold wwA
 rw [Zp hi,YV]
 simp
theorem Zqj {κ ν:Type} [DecidableEq κ] (k:κ) (v:ν):∀ es:List (GE κ ν),(gSet k v es).length=es.length
 | []=>rfl
 | e :: es=>by
  unfold gSet
  split
  ·rfl
  ·rw [Yl,Yl,Zqj k v es]
theorem Zvy {κ ν:Type} [DecidableEq κ] (k:κ) (v:ν) (s:List (GE κ ν)×Nat):(gPut k v s).1.length≤s.1.length+1:=by
 unfold gPut
 split
 ·show (gSet k v s.1).length≤_
  rw [Zqj];omega
 ·show (s.1 ++ [_]).length≤_
  rw [Yd];simp
theorem Zv0 {κ ν:Type} [DecidableEq κ] (z:ν) (k:κ) (s:List (GE κ ν)×Nat):(gEns z k s).1.length≤s.1.length+1:=by
 unfold gEns
 split
 ·omega
 ·show (s.1 ++ [_]).length≤_
  rw [Yd];simp
structure Zha (es:List (GE Zg Int)) (A:List (Zg×Int)) (R:List Zg):Prop where
 val:∀ e,(gGet e es).getD 0=ZnI A e+(R.count e:Int)
 one:∀ z ∈ A,z.2=1
 key:∀ e,(gGet e es).isSome=true ↔ (e ∈ A.map Prod.fst∨e ∈ R)
 len:es.length≤A.length+R.length
theorem Zk9:Zha [] [] []:=⟨fun _=>rfl,by simp,fun e=>by simp [gGet],Yw _⟩
theorem ZuB {es:List (GE Zg Int)} {A:List (Zg×Int)} {ck:Nat} {e:Zg} (h:Zha es A []):Zha (gPut e 1 (es,ck)).1 (A ++ [(e,1)]) []:=⟨fun k=>by
 have:=h.val k
 rw [Zdp,ZiF]
 split
 ·rfl
 ·rw [this],fun z hz=>by
 rcases YB.1 hz with h1 | h1
 ·exact h.one z h1
 ·simp at h1;rw [h1],fun k=>by
 rw [Zdp,YR,YB]
 by_cases hk:k=e
 ·rw [Yf hk];simp [hk]
 ·rw [Yc hk,h.key k];simp [hk],by
 have h1:=h.len
 have h2:=Zvy e (1:Int) (es,ck)
 rw [Yd]
 simp only [Yl,Yy] at h1 h2 ⊢
 omega⟩
theorem ZkK {es:List (GE Zg Int)} {A:List (Zg×Int)} {R:List Zg} {ck:Nat} {e:Zg} (h:Zha es A R) (hl:R.length≤100000000):Zha (gSet e (IntKind.wrap .i64 ((gGet e es).getD 0+1)) (gEns 0 e (es,ck)).1) A (R ++ [e]):=⟨fun k=>by
 have hc:R.count e≤R.length:=List.count_le_length
 have h1:=ZqQ (k:=e) A h.one
 rw [Zdg,h.val e,ZA ow,YbU]
 by_cases hk:k=e
 ·subst hk;rw [Yf rfl];simp;omega
 ·rw [Yc hk,h.val k];simp [List.count_cons,Ne.symm hk],h.one,fun k=>by
 rw [Zdg,YB]
 by_cases hk:k=e
 ·rw [Yf hk];simp [hk]
 ·rw [Yc hk,h.key k];simp [hk],by
 have h1:=h.len
 have h2:=Zv0 (0:Int) e (es,ck)
 rw [Zqj,Yd]
 simp only [Yl,Yy] at h1 h2 ⊢
 omega⟩
structure FS where
 mA:Value
 mB:Value
 mC:Value
 eA:List (GE Int Int)
 kA:Nat
 eB:List (GE ZdT Int)
 kB:Nat
 eC:List (GE ZdT Int)
 kC:Nat
structure ZwI (g:Zr) (s:FS):Prop where
 dn:ZnL s.eA (Zdz g.txs)
 la:ZqD s.eB (lastK g.txs)
 nx:ZnL s.eC (nxA g.orders)
theorem Zhd:ZnH prog 250 (fun k=>∀ x ∈ Ze7 k,inR .i64 x) (kvS Ze7):=Zq2 (et:=3) (n:=2) (fun _=>rfl) (fun a b h=>by cases a;cases b;simpa [Ze7] using h) kr kr kr
theorem Zc7:ZnH prog 42 (fun k=>∀ x ∈ Zar k,inR .i64 x) (kvS Zar):=ZdG (n:=4) (fun _=>rfl) (fun a b h=>by cases a;cases b;simpa [Zar] using h) kr
def ZsY (g:Zr) (s:FS) (v:Value):List RS:=[.pt (.val v) 249 [.pv (.sl rTx g.txs),.pv (.sl ZH g.orders),.pv (.is s.mA),.pv (.is s.mB),.pv (.is s.mC)],.ob (.val s.mA) (ZbN (fun n:Int=>PV.int .i64 n) (fun _=>True) (fun n:Int=>Value.int .i64 n) s.eA s.kA),.ob (.val s.mB) (ZbN (fun n:Int=>PV.int .i64 n) (fun k=>∀ x ∈ Ze7 k,inR .i64 x) (kvS Ze7) s.eB s.kB),.ob (.val s.mC) (ZbN (fun n:Int=>PV.int .i64 n) (fun k=>∀ x ∈ Ze7 k,inR .i64 x) (kvS Ze7) s.eC s.kC)]
def ZnK (g:Zr) (v:Value):HP:=.ex fun s:FS=>.and (ZwI g s) (.star (ZsY g s v))
def ZfA (A:List (Zg×Int)) (R:List Zg) (v:Value):HP:=.ex fun s:List (GE Zg Int)×Nat=>.and (Zha s.1 A R) (ZbN (fun n:Int=>PV.int .i64 n) (fun k=>∀ x ∈ Zar k,inR .i64 x) (kvS Zar) s.1 s.2 v)
theorem ZvP (g:Zr) (hsm:Za9 g):FnG prog 135 1 [.agg (Zv g)] [.star []] (PV.ptr) (fun v=>[ZnK g v]):=by
 refine FnG.mk func135 Z ntmps135 Z kr fun B F0 a w F V hG G=>?_
 have hs:=hsm.1
 have hsl:=hs.1
 have hso:=hsm.2
 have hol1:=hso.1
 refine Ya (Zb G (qx 101 r1 (qC qZ)) V [2,1] [101,1,0] (fun _=>rfl) (fun _=>rfl) fun τ a w F G=>?_)
 try dsimp only [RS.sub,SF.sub,CF.sub,csub,Anc.sub,List.map,zCF,Zv,rTx,ZH,ZU,Zn,rOp] at G
 generalize τ 1=v1 at G
 refine Za (Ya (Zb G (qe 2 101 r1 r1 (qf (ZaZ (ek:=(fun n:Int=>PV.int .i64 n)) (ok:=(fun _=>True)) (kv:=(fun n:Int=>Value.int .i64 n)) 102) trivial qz (qf (ZaZ (ek:=(fun n:Int=>PV.int .i64 n)) (ok:=(fun k=>∀ x ∈ Ze7 k,inR .i64 x)) (kv:=(kvS Ze7)) 103) trivial qz (qf (ZaZ (ek:=(fun n:Int=>PV.int .i64 n)) (ok:=(fun k=>∀ x ∈ Ze7 k,inR .i64 x)) (kv:=(kvS Ze7)) 104) trivial qz (qf (oB [(0,.tmp 13),(1,.tmp 14),(2,.tmp 15),(3,.tmp 16)] [.slice none 0 0,.slice none 0 0,.map none,.map none,.map none] [(0,2),(2,1),(3,1),(4,1)] (.agg Z .t kr kr (.same Z kr (.same Z kr (.same Z kr .nil))))) r4 qz (qf (oX 105 .t) r1 qz (qO rr qZ))))))) V [3,2,1] [105,104,103,102,101,1,0] (fun _=>rfl) (fun _=>rfl) fun τ a w F G=>?_))
 try dsimp only [RS.sub,SF.sub,CF.sub,csub,Anc.sub,List.map,Zf,xL,xM,Nat.reduceAdd,xD,xE,xT,xU,xC,xN,zCF,ldSF,Zv,rTx,ZH,ZU,Zn,rOp] at G
 generalize τ 18=v18,τ 14=v14 at G
 generalize τ 15=v15,τ 16=v16 at G
 refine Za (Ya (Ya (rZ G (qg 0 101 r1 r1 (qa 101 r1 r1 (qu Yci r1 (qJ qZ)))) V [22,21,20,3,2,1] [105,104,103,102,101,1,0] fun G=>Yg ?_)))
 refine Zk (σ:=(Nat)×(List (GE Int Int))×(Nat)×(List (GE ZdT Int))×(Nat)) [1,2,3,20,21] [0,1,101,104,105] (fun s=>[(22,.pv (.int .i64 (s.1:Int)))]) (fun s=>[(102,.ob (.val v14) (ZbN (fun n:Int=>PV.int .i64 n) (fun _=>True) (fun n:Int=>Value.int .i64 n) s.2.1 s.2.2.1)),(103,.ob (.val v15) (ZbN (fun n:Int=>PV.int .i64 n) (fun k=>∀ x ∈ Ze7 k,inR .i64 x) (kvS Ze7) s.2.2.2.1 s.2.2.2.2))]) (fun s=>s.1≤g.txs.length∧(ZnL s.2.1 (Zdz (g.txs.take s.1))∧ZqD s.2.2.2.1 (lastK (g.txs.take s.1)))) (fun s=>g.txs.length - s.1) ((0),([]),(0),([]),(0)) G ⟨rfl,rfl,rfl,rfl,rfl,rfl,tv⟩ ⟨rfl,rfl,rfl,rfl,rfl,rfl,rfl,tv⟩ ⟨Yw _,⟨fun _=>rfl,fun _=>rfl⟩⟩ ?_
 clear G;intro s a w F hC G
 obtain ⟨i,eA,kA,eB,kB⟩:=s
 try dsimp only at hC
 obtain ⟨F,G⟩:=G.nM [22,21,20,3,2,1] [105,104,103,102,101,1,0]
 try dsimp only at G
 obtain ⟨hi,hq⟩:=hC
 have hxl:=fun hil:i<g.txs.length=>hs.at hil
 refine Ya (rZ G (qL r2) V [23,22,21,20,3,2,1] [105,104,103,102,101,1,0] fun G=>Ya ?_)
 refine Zc G Z (fun hc0=>?_) (fun hc0=>?_)
 ·have hil:i<g.txs.length:=by simp at hc0;omega
  have hio:=hil
  have htl:=hxl hil
  have hsl:=hs.1
  have hdn0:=hq.1
  have hcn:=hq.2
  refine Ye (Za (Ya (Yg (Ya (Zb G (qy 3 Yci r2 (qf (oR true 3 .t) r1 qz (qf (oH [.int .i64 0,.bool false,.slice none 0 0] 106) trivial qz (qS 3 106 r2 r1 qZ)))) V [22,21,20,5,3,2,1] [106,105,104,103,102,101,1,0] (fun _=>rfl) (fun _=>rfl) fun τ a w F G=>?_)))))
  try dsimp only [RS.sub,SF.sub,CF.sub,csub,Anc.sub,List.map,Zf,xL,xM,Nat.reduceAdd,xD,xE,xT,xU,xC,xN,zCF,ldSF,Zv,rTx,ZH,ZU,Zn,rOp] at G
  generalize τ 5=v5 at G
  try simp only [Yb] at G
  refine Za (Ya (Ya (rZ G (qg 1 106 r1 r1 (qa 106 r1 r1 (qf (o_not .t) r1 qz qZ))) V [28,22,21,20,5,3,2,1] [106,105,104,103,102,101,1,0] fun G=>?_)))
  refine Zc G Z (fun hc1=>?_) (fun hc1=>?_)
  ·have hdn:(Nn g.txs i).done=false:=by simpa using hc1
   obtain ⟨eA2,heA2⟩:∃ z,z=eA:=⟨_,rfl⟩
   obtain ⟨kA2,hkA2⟩:∃ z,z=kA:=⟨_,rfl⟩
   obtain ⟨eB2,heB2⟩:∃ z,z=eB:=⟨_,rfl⟩
   obtain ⟨kB2,hkB2⟩:∃ z,z=kB:=⟨_,rfl⟩
   rw [← heA2,← hkA2,← heB2,← hkB2] at G
   have hR2:ZnL eA2 (Zdz (g.txs.take (i+1)))∧ZqD eB2 (lastK (g.txs.take (i+1))):=by rw [heA2,heB2,ZfZ hio,Zg6 hio,Yc (by rw [hdn];simp),Yc (by rw [hdn];simp),YS,YS];exact ⟨hdn0,hcn⟩
   refine Yx (Zj (Zo (Za (rZ G (qp r1 (qR rr qZ)) V [22,21,20,3,2,1] [106,105,104,103,102,101,1,0] fun G=>?_))))
   replace G:=G.ent (i:=22) (s':=.pv (.int .i64 ((i+1:Nat):Int))) Z (.int (Zd ow))
   obtain ⟨F,G⟩:=G.nM [21,20,3,2,1,22] [105,104,101,1,0,103,102]
   exact ⟨((i+1),(eA2),(kA2),(eB2),(kB2)),F,⟨by omega,hR2⟩,G,by omega⟩
  have hdn:(Nn g.txs i).done=true:=by simpa using hc1
  refine Ye (Za (Ya (Zw G (qR rr (qf (o_nilCheck 105 .is (by rfl)) r1 r1 (qf (oF 2 105 .adr) r1 r1 (qa 105 r1 r1 (qg 0 106 r1 r1 (qa 106 r1 r1 (qf (o_mapUpdateG (ek:=(fun n:Int=>PV.int .i64 n)) 102 underlying75 (Zcx Ycn) .is (ZM.int .t Z) qi) r2 r1 qZ))))))) V [22,21,20,5,3,2,1] [106,105,104,103,102,101,1,0] Z Z fun a w F G=>?_)))
  try dsimp only [List.map,xD,xE,xT,xU,ldSF,Zv,rTx,ZH,ZU,Zn,rOp] at G
  obtain ⟨eA2,heA2⟩:∃ z,z=(gPut (Nn g.txs i).id 1 (eA,kA)).1:=⟨_,rfl⟩
  obtain ⟨kA2,hkA2⟩:∃ z,z=(gPut (Nn g.txs i).id 1 (eA,kA)).2:=⟨_,rfl⟩
  rw [← heA2,← hkA2] at G
  refine Za (Ya (rZ G (qg 2 106 r1 r1 (qa 106 r1 r1 (qu Yck r1 (qJ qZ)))) V [38,37,36,22,21,20,5,3,2,1] [106,105,104,103,102,101,1,0] fun G=>Yg ?_))
  refine Zk (σ:=(Nat)×(List (GE ZdT Int))×(Nat)) [1,2,3,5,20,21,22,36,37] [0,1,101,102,104,105,106] (fun s=>[(38,.pv (.int .i64 (s.1:Int)))]) (fun s=>[(103,.ob (.val v15) (ZbN (fun n:Int=>PV.int .i64 n) (fun k=>∀ x ∈ Ze7 k,inR .i64 x) (kvS Ze7) s.2.1 s.2.2))]) (fun s=>s.1≤(Nn g.txs i).ops.length∧(ZqD s.2.1 (lastK (g.txs.take i)++Zb6 (Nn g.txs i).id ((Nn g.txs i).ops.take s.1)))) (fun s=>(Nn g.txs i).ops.length - s.1) ((0),(eB),(kB)) G ⟨rfl,rfl,rfl,rfl,rfl,rfl,rfl,rfl,rfl,rfl,tv⟩ ⟨rfl,rfl,rfl,rfl,rfl,rfl,rfl,rfl,tv⟩ ⟨Yw _,(by show ZqD _ (lastK (g.txs.take i) ++ []);rw [YS];exact hcn)⟩ ?_
  clear G;intro s a w F hC G
  obtain ⟨j,eB3,kB3⟩:=s
  try dsimp only at hC
  obtain ⟨F,G⟩:=G.nM [38,37,36,22,21,20,5,3,2,1] [106,105,104,103,102,101,1,0]
  try dsimp only at G
  obtain ⟨hi,hq⟩:=hC
  refine Ya (rZ G (qL r2) V [39,38,37,36,22,21,20,5,3,2,1] [106,105,104,103,102,101,1,0] fun G=>Ya ?_)
  refine Zc G Z (fun hc2=>?_) (fun hc2=>?_)
  ·have hil:j<(Nn g.txs i).ops.length:=by simp at hc2;omega
   refine Ye (Za (Ya (Yg (Ya (Zb G (qy 4 Yck r2 (qf (oR true 4 .t) r1 qz (qf (oH [.bool false,.int .i64 0,.int .i64 0,.int .i64 0] 107) trivial qz (qS 4 107 r2 r1 qZ)))) V [38,37,36,22,21,20,7,5,3,2,1] [107,106,105,104,103,102,101,1,0] (fun _=>rfl) (fun _=>rfl) fun τ a w F G=>?_)))))
   try dsimp only [RS.sub,SF.sub,CF.sub,csub,Anc.sub,List.map,Zf,xL,xM,Nat.reduceAdd,xD,xE,xT,xU,xC,xN,zCF,ldSF,Zv,rTx,ZH,ZU,Zn,rOp] at G
   generalize τ 7=v7 at G
   try simp only [Yb] at G
   refine Za (Ya (rZ G (qg 0 107 r1 r1 (qa 107 r1 r1 (qf (o_not .t) r1 qz qZ))) V [44,38,37,36,22,21,20,7,5,3,2,1] [107,106,105,104,103,102,101,1,0] fun G=>?_))
   refine Zc G Z (fun hc3=>?_) (fun hc3=>?_)
   ·have hrd:(Nn (Nn g.txs i).ops j).read=false:=by simpa using hc3
    replace G:=G.turnZ 103 (0) (⟨(Nn g.txs i).id,(Nn (Nn g.txs i).ops j).key⟩:ZdT) rfl
    refine Zbe 103 13 (m1:=1) (m2:=2) kr G kr (qR rr (qf (o_nilCheck 105 .is (by rfl)) r1 r1 (qf (oF 3 105 .adr) r1 r1 (qa 105 r1 r1 (qg 0 106 r1 r1 (qa 106 r1 r1 (qg 1 107 r1 r1 (qa 107 r1 r1 (qf (Zbw (sz:=1) (r:=[(0,.tmp 50),(1,.tmp 52)]) (zs:=[.int .i64 0,.int .i64 0]) (pl:=[(0,1),(1,1)]) Ycs kr kr Z (.one Z .t one_int kr (.one Z .t one_int kr .nil)) (by rfl)) r2 qz (qf (Zcp (ek:=(fun n:Int=>PV.int .i64 n)) (z0:=(0)) 103 Ycy Zhd kr (fun _ _=>⟨rfl,ZcV⟩) .is (ZM.agg (enc:=Ze7) (k:=(⟨(Nn g.txs i).id,(Nn (Nn g.txs i).ops j).key⟩:ZdT)) (.pagg .t) Z)) r2 r1 (qp r1 (qf (Za8 (ek:=(fun n:Int=>PV.int .i64 n)) (z0:=(0)) 103 Ycy Zhd kr (fun _ _=>⟨rfl,ZcV⟩) .is (ZM.agg (enc:=Ze7) (k:=(⟨(Nn g.txs i).id,(Nn (Nn g.txs i).ops j).key⟩:ZdT)) (.pagg .t) Z) (by intros;first | rfl | simp [Anc.v,upd])) r2 r1 (qf (Zh .t Z) r1 qz (qf (ZaI 103 (ZbK _ _ _) .is .t .t) r3 r1 qZ)))))))))))))) kr kr kr Z Z Z (fun _ _ _ _ h=>.inr h) (by rw [V];kernel_rfl) fun a w F G=>?_
    obtain ⟨F,G⟩:=G.nM [38,37,36,22,21,20,5,3,2,1] [107,106,105,104,103,102,101,1,0]
    try dsimp only [List.map,Zf,xL,xM,Nat.reduceAdd,xD,xE,xT,xU,xC,xN,zCF,ldSF,Zv,rTx,ZH,ZU,Zn,rOp] at G
    obtain ⟨eB4,heB4⟩:∃ z,z=gSet (⟨(Nn g.txs i).id,(Nn (Nn g.txs i).ops j).key⟩:ZdT) (IntKind.wrap .i64 ((gGet (⟨(Nn g.txs i).id,(Nn (Nn g.txs i).ops j).key⟩:ZdT) eB3).getD 0+1)) (gEns 0 (⟨(Nn g.txs i).id,(Nn (Nn g.txs i).ops j).key⟩:ZdT) (eB3,kB3)).1:=⟨_,rfl⟩
    obtain ⟨kB4,hkB4⟩:∃ z,z=(gEns 0 (⟨(Nn g.txs i).id,(Nn (Nn g.txs i).ops j).key⟩:ZdT) (eB3,kB3)).2:=⟨_,rfl⟩
    rw [← heB4,← hkB4] at G
    have hR3:ZqD eB4 (lastK (g.txs.take i)++Zb6 (Nn g.txs i).id ((Nn g.txs i).ops.take (j+1))):=by rw [heB4,ZgJ hil,Yc (by rw [hrd];simp),← YO];exact Zuh hq (by have h1:=ZpD hs i;have h2:=Zhu (Nn g.txs i).id ((Nn g.txs i).ops.take j);rw [Yi] at h2;rw [Yd];omega)
    refine Zi (Za (rZ G (qp r1 (qR rr qZ)) V [38,37,36,22,21,20,5,3,2,1] [107,106,105,104,103,102,101,1,0] fun G=>?_))
    replace G:=G.ent (i:=38) (s':=.pv (.int .i64 ((j+1:Nat):Int))) Z (.int (Zd ow))
    obtain ⟨F,G⟩:=G.nM [37,36,22,21,20,5,3,2,1,38] [106,105,104,102,101,1,0,103]
    exact ⟨((j+1),(eB4),(kB4)),F,⟨by omega,hR3⟩,G,by omega⟩
   have hrd:(Nn (Nn g.txs i).ops j).read=true:=by simpa using hc3
   obtain ⟨eB4,heB4⟩:∃ z,z=eB3:=⟨_,rfl⟩
   obtain ⟨kB4,hkB4⟩:∃ z,z=kB3:=⟨_,rfl⟩
   rw [← heB4,← hkB4] at G
   have hR3:ZqD eB4 (lastK (g.txs.take i)++Zb6 (Nn g.txs i).id ((Nn g.txs i).ops.take (j+1))):=by rw [heB4,ZgJ hil,Yf hrd,YS];exact hq
   refine Ye (Zi (Za (rZ G (qp r1 (qR rr qZ)) V [38,37,36,22,21,20,5,3,2,1] [107,106,105,104,103,102,101,1,0] fun G=>?_)))
   replace G:=G.ent (i:=38) (s':=.pv (.int .i64 ((j+1:Nat):Int))) Z (.int (Zd ow))
   obtain ⟨F,G⟩:=G.nM [37,36,22,21,20,5,3,2,1,38] [106,105,104,102,101,1,0,103]
   exact ⟨((j+1),(eB4),(kB4)),F,⟨by omega,hR3⟩,G,by omega⟩
  have hil:j=(Nn g.txs i).ops.length:=by simp at hc2;omega
  rw [hil,YA] at hq
  obtain ⟨eB2,heB2⟩:∃ z,z=eB3:=⟨_,rfl⟩
  obtain ⟨kB2,hkB2⟩:∃ z,z=kB3:=⟨_,rfl⟩
  rw [← heB2,← hkB2] at G
  have hR2:ZnL eA2 (Zdz (g.txs.take (i+1)))∧ZqD eB2 (lastK (g.txs.take (i+1))):=by rw [heA2,heB2,ZfZ hio,Zg6 hio,Yf hdn,Yf hdn];exact ⟨ZoC hdn0,hq⟩
  refine Yx (Zj (Zj (Zo (Zi (Za (rZ G (qp r1 (qR rr qZ)) V [22,21,20,3,2,1] [106,105,104,103,102,101,1,0] fun G=>?_))))))
  replace G:=G.ent (i:=22) (s':=.pv (.int .i64 ((i+1:Nat):Int))) Z (.int (Zd ow))
  obtain ⟨F,G⟩:=G.nM [21,20,3,2,1,22] [105,104,101,1,0,103,102]
  exact ⟨((i+1),(eA2),(kA2),(eB2),(kB2)),F,⟨by omega,hR2⟩,G,by omega⟩
 have hil:i=g.txs.length:=by simp at hc0;omega
 rw [hil,YA] at hq
 have hdA:=hq.1
 have hdB:=hq.2
 refine Yx (Zj (Zj (Zo (Za (Ya (Ya (rZ G (qg 1 101 r1 r1 (qa 101 r1 r1 (qu Ych r1 (qJ qZ)))) V [63,62,61,3,2] [105,104,103,102,101,1,0] fun G=>Yg ?_)))))))
 refine Zk (σ:=(Nat)×(List (GE ZdT Int))×(Nat)) [2,3,61,62] [0,1,101,102,103,105] (fun s=>[(63,.pv (.int .i64 (s.1:Int)))]) (fun s=>[(104,.ob (.val v16) (ZbN (fun n:Int=>PV.int .i64 n) (fun k=>∀ x ∈ Ze7 k,inR .i64 x) (kvS Ze7) s.2.1 s.2.2))]) (fun s=>s.1≤g.orders.length∧(ZnL s.2.1 (nxA (g.orders.take s.1)))) (fun s=>g.orders.length - s.1) ((0),([]),(0)) G ⟨rfl,rfl,rfl,rfl,rfl,tv⟩ ⟨rfl,rfl,rfl,rfl,rfl,rfl,rfl,tv⟩ ⟨Yw _,(fun _=>rfl)⟩ ?_
 clear G;intro s a w F hC G
 obtain ⟨i,eC,kC⟩:=s
 try dsimp only at hC
 obtain ⟨F,G⟩:=G.nM [63,62,61,3,2] [105,104,103,102,101,1,0]
 try dsimp only at G
 obtain ⟨hi,hq⟩:=hC
 have hol:=fun hil:i<g.orders.length=>hso.at hil
 refine Ya (rZ G (qL r2) V [64,63,62,61,3,2] [105,104,103,102,101,1,0] fun G=>Ya ?_)
 refine Zc G Z (fun hc4=>?_) (fun hc4=>?_)
 ·have hil:i<g.orders.length:=by simp at hc4;omega
  have hio:=hil
  have hcn:=hq
  have hox:=hol hil
  have hol1:=hso.1
  refine Ye (Za (Ya (Yg (Ya (Zb G (qy 2 Ych r2 (qf (oR true 2 .t) r1 qz (qf (oH [.int .i64 0,.slice none 0 0] 108) trivial qz (qS 2 108 r2 r1 qZ)))) V [63,62,61,9,3,2] [108,105,104,103,102,101,1,0] (fun _=>rfl) (fun _=>rfl) fun τ a w F G=>?_)))))
  try dsimp only [RS.sub,SF.sub,CF.sub,csub,Anc.sub,List.map,Zf,xL,xM,Nat.reduceAdd,xD,xE,xT,xU,xC,xN,zCF,ldSF,Zv,rTx,ZH,ZU,Zn,rOp] at G
  generalize τ 9=v9 at G
  try simp only [Yb] at G
  refine Za (Ya (rZ G (qI qZ) V [63,62,61,10,9,3,2] [108,105,104,103,102,101,1,0] fun G=>Ya ?_))
  refine rZ G (qg 1 108 r1 r1 (qa 108 r1 r1 (qu Ycf r1 (qJ qZ)))) V [70,69,68,63,62,61,10,9,3,2] [108,105,104,103,102,101,1,0] fun G=>Yg ?_
  replace G:=G.ent (i:=10) (s':=.pv (.int .i64 (atI (Nn g.orders i).txs 0))) Z (.int Z)
  refine Zk (σ:=(Nat)×(List (GE ZdT Int))×(Nat)) [2,3,9,61,62,63,68,69] [0,1,101,102,103,105,108] (fun s=>[(70,.pv (.int .i64 (s.1:Int))),(10,.pv (.int .i64 (atI (Nn g.orders i).txs s.1)))]) (fun s=>[(104,.ob (.val v16) (ZbN (fun n:Int=>PV.int .i64 n) (fun k=>∀ x ∈ Ze7 k,inR .i64 x) (kvS Ze7) s.2.1 s.2.2))]) (fun s=>s.1≤(Nn g.orders i).txs.length∧(ZnL s.2.1 (nxA (g.orders.take i)++nxO (Nn g.orders i) s.1))) (fun s=>(Nn g.orders i).txs.length - s.1) ((0),(eC),(kC)) G ⟨rfl,rfl,rfl,rfl,rfl,rfl,rfl,rfl,rfl,rfl,tv⟩ ⟨rfl,rfl,rfl,rfl,rfl,rfl,rfl,rfl,tv⟩ ⟨Yw _,(by show ZnL _ (nxA (g.orders.take i) ++ []);rw [YS];exact hcn)⟩ ?_
  clear G;intro s a w F hC G
  obtain ⟨j,eC3,kC3⟩:=s
  try dsimp only at hC
  obtain ⟨F,G⟩:=G.nM [70,69,68,63,62,61,10,9,3,2] [108,105,104,103,102,101,1,0]
  try dsimp only at G
  obtain ⟨hi,hq⟩:=hC
  refine Ya (rZ G (qL r2) V [71,70,69,68,63,62,61,10,9,3,2] [108,105,104,103,102,101,1,0] fun G=>Ya ?_)
  refine Zc G Z (fun hc5=>?_) (fun hc5=>?_)
  ·have hil:j<(Nn g.orders i).txs.length:=by simp at hc5;omega
   refine Ye (Za (Ya (Yg (Ya (Ze G (qy 1 Ycf r2 (qf (oR false 1 .t) r1 qz (qO rr qZ))) V [70,69,68,63,62,61,12,10,9,3,2] [108,105,104,103,102,101,1,0] Z Z fun a w F G=>?_)))))
   try simp only [Yb] at G
   refine Za (Ya (Zw G (qR rr (qf (o_nilCheck 105 .is (by rfl)) r1 r1 (qf (oF 4 105 .adr) r1 r1 (qa 105 r1 r1 (qg 0 108 r1 r1 (qa 108 r1 r1 (qR rr (qf (Zbw (sz:=1) (r:=[(0,.tmp 79),(1,.tmp 80)]) (zs:=[.int .i64 0,.int .i64 0]) (pl:=[(0,1),(1,1)]) Ycs kr kr Z (.one Z .t one_int kr (.one Z .t one_int kr .nil)) (by rfl)) r2 qz (qR rr (qf (o_mapUpdateG (ek:=(fun n:Int=>PV.int .i64 n)) 104 Ycy Zhd .is (ZM.agg (enc:=Ze7) (k:=(⟨(Nn g.orders i).key,atI (Nn g.orders i).txs j⟩:ZdT)) (.pagg .t) Z) .t) r3 r1 qZ)))))))))) V [70,69,68,63,62,61,12,10,9,3,2] [108,105,104,103,102,101,1,0] Z Z fun a w F G=>?_))
   try dsimp only [List.map,Zf,xL,xM,Nat.reduceAdd,xD,xE,xT,xU,xC,xN,zCF,ldSF,Zv,rTx,ZH,ZU,Zn,rOp] at G
   obtain ⟨eC4,heC4⟩:∃ z,z=(gPut (⟨(Nn g.orders i).key,atI (Nn g.orders i).txs j⟩:ZdT) (Nn (Nn g.orders i).txs j) (eC3,kC3)).1:=⟨_,rfl⟩
   obtain ⟨kC4,hkC4⟩:∃ z,z=(gPut (⟨(Nn g.orders i).key,atI (Nn g.orders i).txs j⟩:ZdT) (Nn (Nn g.orders i).txs j) (eC3,kC3)).2:=⟨_,rfl⟩
   rw [← heC4,← hkC4] at G
   have hR3:ZnL eC4 (nxA (g.orders.take i)++nxO (Nn g.orders i) (j+1)):=by rw [heC4,Zr2,← YO];exact ZoC hq
   refine Za (Ze G (qR rr (qO rr qZ)) V [70,69,68,63,62,61,10,9,3,2] [108,105,104,103,102,101,1,0] Z Z fun a w F G=>Zi (Za ?_))
   refine rZ G (qp r1 (qR rr qZ)) V [70,69,68,63,62,61,10,9,3,2] [108,105,104,103,102,101,1,0] fun G=>?_
   replace G:=G.ent (i:=70) (s':=.pv (.int .i64 ((j+1:Nat):Int))) Z (.int (Zd ow))
   replace G:=G.ent (i:=10) (s':=.pv (.int .i64 (atI (Nn g.orders i).txs (j+1)))) Z (.int (by simp [atI]))
   obtain ⟨F,G⟩:=G.nM [69,68,63,62,61,9,3,2,10,70] [108,105,103,102,101,1,0,104]
   exact ⟨((j+1),(eC4),(kC4)),F,⟨by omega,hR3⟩,G,by omega⟩
  have hil:j=(Nn g.orders i).txs.length:=by simp at hc5;omega
  rw [hil] at hq
  obtain ⟨eC2,heC2⟩:∃ z,z=eC3:=⟨_,rfl⟩
  obtain ⟨kC2,hkC2⟩:∃ z,z=kC3:=⟨_,rfl⟩
  rw [← heC2,← hkC2] at G
  have hR2:ZnL eC2 (nxA (g.orders.take (i+1))):=by rw [heC2,Zr9 hio];exact hq
  refine Yx (Zj (Zj (Zo (Zi (Za (rZ G (qp r1 (qR rr qZ)) V [63,62,61,3,2] [108,105,104,103,102,101,1,0] fun G=>?_))))))
  replace G:=G.ent (i:=63) (s':=.pv (.int .i64 ((i+1:Nat):Int))) Z (.int (Zd ow))
  obtain ⟨F,G⟩:=G.nM [62,61,3,2,63] [105,103,102,101,1,0,104]
  exact ⟨((i+1),(eC2),(kC2)),F,⟨by omega,hR2⟩,G,by omega⟩
 have hil:i=g.orders.length:=by simp at hc4;omega
 rw [hil,YA] at hq
 have hdC:=hq
 refine Yx (Zj (Zj (Zo (Za (Ya (rZ G (qR rr (qO rr qZ)) V [2] [105,104,103,102,101,1,0] fun G=>Yh ?_))))))
 obtain ⟨b,rfl⟩:=G.shape 105 rfl
 obtain ⟨F,G⟩:=G.push 1 104 Z Z Z kr
 obtain ⟨F,G⟩:=G.push 1 103 Z Z Z kr
 obtain ⟨F,G⟩:=G.push 1 102 Z Z Z kr
 obtain ⟨F,G⟩:=G.push 1 105 Z Z Z kr
 have G:=G.turn 1 Z (r':=RS.hp (ZnK g (.pointer (some ⟨b,0,none⟩)))) (fun _ _ _ _ h=>⟨(⟨v14,v15,v16,eA,kA,eB,kB,eC,kC⟩:FS),⟨hdA,hdB,hdC⟩,h⟩)
 refine Z1 (h':=fun v=>ZnK g v) hG G Z (.tmp Z .nil) (.one .ptr) rfl
theorem Zgt {P:Program} {B:Zbp} {F0:Fp} (hG:Zng B F0 2) {E:En} {a:Act} {w:World} {F:Fp} {fn:Func} {q:PV} {k1 k2:HP} {ss:List SF} (G:Sat B E a w F) (h0:Go.Gm.look E.r 0=some (frame B)) (hr:ROk P E fn.results.toList ss) (hq:Zbc ss q)
  (h1:Go.Gm.look E.r 1=some (RS.hp k1)) (h2:Go.Gm.look E.r 2=some (RS.hp k2)):bodyPost P fn (RG B F0 2 q (fun _=>[k1,k2])) .ret a w:=
 Zsz hG G h0 hr hq fun v τ y hv i h hi=>by
  match i,hi with
  | 0,hi=>simp at hi;subst hi;exact ⟨_,h1,by omega,fun _ _ _ h=>h⟩
  | 1,hi=>simp at hi;subst hi;exact ⟨_,h2,by omega,fun _ _ _ h=>h⟩
theorem ZuU (b:Nat) (g:Zr) (t:TxD) (o:OpD) (mv:Value) (AA:List (Zg×Int)) (RR:List Zg) (hRR:RR.length≤10000000):FnG prog 136 2 [.is (.pointer (some ⟨b,0,none⟩)),.agg (rTx t),.agg (rOp o),.is mv] [ZnK g (.pointer (some ⟨b,0,none⟩)),ZfA AA RR mv] (.tup []) (fun _=>[ZnK g (.pointer (some ⟨b,0,none⟩)),ZfA AA (RR++rdO g t o) mv]):=by
 refine FnG.mk func136 Z ntmps136 Z kr fun B F0 a w F V hG G=>?_
 obtain ⟨⟨mA,mB,mC,eA,kA,eB,kB,eC,kC⟩,G⟩:=G.open_ex 1 rfl
 obtain ⟨hI,G⟩:=G.open_and 1 rfl
 try dsimp only [ZsY] at G
 obtain ⟨F,G⟩:=G.peel 1 3 Z rfl
 obtain ⟨F,G⟩:=G.peel 1 4 Z rfl
 obtain ⟨F,G⟩:=G.peel 1 5 Z rfl
 obtain ⟨F,G⟩:=G.peel 1 6 Z rfl
 obtain ⟨⟨es,ck⟩,G⟩:=G.open_ex 2 rfl
 obtain ⟨hq0,G⟩:=G.open_and 2 rfl
 replace G:=G.turn 2 Z (r':=.ob (.val mv) (ZbN (fun n:Int=>PV.int .i64 n) (fun k=>∀ x ∈ Zar k,inR .i64 x) (kvS Zar) es ck)) (fun _ _ _ _ h=>h)
 try dsimp only at hI hq0
 obtain ⟨F,G⟩:=G.nM [3,2,1,0] [6,5,4,3,2,0]
 refine Ya (Zb G (qx 101 r1 (qx 102 r1 qZ)) V [6,5,3,0] [102,101,6,5,4,3,2,0] (fun _=>rfl) (fun _=>rfl) fun τ a w F G=>?_)
 try dsimp only [RS.sub,SF.sub,CF.sub,csub,Anc.sub,List.map,zCF,Zv,rTx,ZH,ZU,Zn,rOp] at G
 generalize τ 5=v5,τ 6=v6 at G
 refine Za (Ya (Ya (Zw G (qg 2 102 r1 r1 (qa 102 r1 r1 (qg 0 101 r1 r1 (qa 101 r1 r1 (qf (o_eql .t .t) r2 qz (qR rr (qv 2 102 Z r2 r1 (qw 102 Z r2 r1 (qk Z (fun h=>o_neq (.w h) qi) r2 qz (qk Z (fun h=>oM (.w h)) r2 qz (ZB.cons (ZaD.cond2 Z Z (fun h=>Za6 .t (by rfl))) r2 qz (ZB.cons (ZaD.cond2 Z Z (fun h=>o_nilCheck 3 (.w h .is) (by rfl))) r2 r1 (ZB.cons (ZaD.cond2 Z Z (fun h=>Z8 (off:=2) 3 (.w h .adr) kr (by rfl))) r2 r1 (ZB.cons (ZaD.cond2 Z Z (fun h=>Zb3 (ag:=false) (sz:=1) 3 (.w h .adr) kr kr kr (by rfl))) r2 r1 (ZB.cons (ZaD.cond2 Z Z (fun h=>Z8 (off:=2) 102 .is kr (by rfl))) r2 r1 (ZB.cons (ZaD.cond2 Z Z (fun h=>Zb3 (ag:=false) (sz:=1) 102 (.w h .adr) kr kr kr (by rfl))) r2 r1 (ZB.cons (ZaD.cond2 Z Z (fun h=>Zat (ek:=(fun n:Int=>PV.int .i64 n)) (z0:=(0)) 4 underlying75 (Zcx Ycn) kr (fun _ _=>⟨rfl,ZcV⟩) (.w h .is) (ZM.int (.w h) Z))) r3 r1 (ZB.cons (ZaD.cond2 Z Z (fun h=>o_eql (.w h) qi)) r2 qz (ZB.cons (ZaD.cond2 Z Z (fun h=>Za6 (.w h) (by rfl))) r2 qz (ZB.cons (ZaD.cond2 Z Z (fun h=>Za6 .t (by rfl))) r2 qz (ZB.cons (ZaD.cond2 Z Z (fun h=>o_nilCheck 3 (.w h .is) (by rfl))) r2 r1 (ZB.cons (ZaD.cond2 Z Z (fun h=>Z8 (off:=3) 3 (.w h .adr) kr (by rfl))) r2 r1 (ZB.cons (ZaD.cond2 Z Z (fun h=>Zb3 (ag:=false) (sz:=1) 3 (.w h .adr) kr kr kr (by rfl))) r2 r1 (ZB.cons (ZaD.cond2 Z Z (fun h=>Z8 (off:=2) 102 .is kr (by rfl))) r2 r1 (ZB.cons (ZaD.cond2 Z Z (fun h=>Zb3 (ag:=false) (sz:=1) 102 (.w h .adr) kr kr kr (by rfl))) r2 r1 (ZB.cons (ZaD.cond2 Z Z (fun h=>Z8 (off:=1) 102 .is kr (by rfl))) r2 r1 (ZB.cons (ZaD.cond2 Z Z (fun h=>Zb3 (ag:=false) (sz:=1) 102 (.w h .adr) kr kr kr (by rfl))) r2 r1 (ZB.cons (ZaD.cond2 Z Z (fun h=>Zbw (sz:=1) (r:=[(0,.tmp 33),(1,.tmp 35)]) (zs:=[.int .i64 0,.int .i64 0]) (pl:=[(0,1),(1,1)]) Ycs kr kr Z (.one Z (.w h) one_int kr (.one Z (.w h) one_int kr .nil)) (by rfl))) r3 qz (ZB.cons (ZaD.cond2 Z Z (fun h=>Zat (ek:=(fun n:Int=>PV.int .i64 n)) (z0:=(0)) 5 Ycy Zhd kr (fun _ _=>⟨rfl,ZcV⟩) (.w h .is) (ZM.agg (enc:=Ze7) (k:=(⟨o.tx,o.key⟩:ZdT)) (.pagg (.w h)) Z))) r3 r1 (ZB.cons (ZaD.cond2 Z Z (fun h=>Z8 (off:=3) 102 .is kr (by rfl))) r2 r1 (ZB.cons (ZaD.cond2 Z Z (fun h=>Zb3 (ag:=false) (sz:=1) 102 (.w h .adr) kr kr kr (by rfl))) r2 r1 (ZB.cons (ZaD.cond2 Z Z (fun h=>o_neq (.w h) (.w h))) r3 qz (ZB.cons (ZaD.cond2 Z Z (fun h=>Zak (.w h) (.wc h))) r3 qz (qk Z (fun h=>ZE (.w h) (.wc h)) r3 qz (qf (Zak .t .t) r2 qz qZ))))))))))))))))))))))))))))))))))) V [43,6,5,3,0] [102,101,6,5,4,3,2,0] Z Z fun a w F G=>?_)))
 try dsimp only [List.map,Zf,xL,xM,Nat.reduceAdd,xD,xE,xT,xU,xC,xN,zCF,ldSF,Zv,rTx,ZH,ZU,Zn,rOp] at G
 refine Za (Zc G Z (fun hc0=>?_) (fun hc0=>?_))
 ·have hno:Zs5 g t o=true:=by unfold Zs5 ZiM ZmC;rw [← hI.dn,← hI.la];simpa using hc0
  obtain ⟨es3,hes3⟩:∃ z,z=es:=⟨_,rfl⟩
  obtain ⟨ck3,hck3⟩:∃ z,z=ck:=⟨_,rfl⟩
  rw [← hes3,← hck3] at G
  have hR9:Zha es3 AA (RR++rdO g t o):=by rw [hes3];unfold rdO;rw [Yf hno,YS];exact hq0
  refine Yh (Zl ?_)
  have G:=G.fresh 1 rfl
  obtain ⟨F,G⟩:=G.push 1 6 Z Z Z kr
  obtain ⟨F,G⟩:=G.push 1 5 Z Z Z kr
  obtain ⟨F,G⟩:=G.push 1 4 Z Z Z kr
  obtain ⟨F,G⟩:=G.push 1 3 Z Z Z kr
  have G:=G.turn 1 Z (r':=RS.hp (ZnK g (.pointer (some ⟨b,0,none⟩)))) (fun _ _ _ _ h=>⟨(⟨mA,mB,mC,eA,kA,eB,kB,eC,kC⟩:FS),hI,h⟩)
  have G:=G.turn 2 Z (r':=RS.hp (ZfA AA (RR++rdO g t o) mv)) (fun _ _ _ _ h=>⟨(es3,ck3),hR9,h⟩)
  refine Zgt hG G Z .nil Zbc.none Z rfl
 have hno:Zs5 g t o=false:=by unfold Zs5 ZiM ZmC;rw [← hI.dn,← hI.la];simpa using hc0
 refine Ye (Za (Ya (Ya (rZ G (qg 2 102 r1 r1 (qa 102 r1 r1 (qf (o_neq .t qi) r1 qz qZ))) V [46,6,5,3,0] [102,101,6,5,4,3,2,0] fun G=>?_))))
 refine Zc G Z (fun hc1=>?_) (fun hc1=>?_)
 ·have h0:¬ o.tx=0:=by simpa using hc1
  replace G:=G.turnZ 2 (0) (⟨o.tx,t.id,2,o.key⟩:Zg) rfl
  refine Zbe 2 12 (m1:=1) (m2:=2) kr G kr (qR rr (qg 2 102 r1 r1 (qa 102 r1 r1 (qg 0 101 r1 r1 (qa 101 r1 r1 (qg 1 102 r1 r1 (qa 102 r1 r1 (qf (oB [(0,.tmp 49),(1,.tmp 51),(2,_),(3,.tmp 53)] [.int .i64 0,.int .i64 0,.int .i64 0,.int .i64 0] [(0,1),(1,1),(2,1),(3,1)] (.one Z .t one_int kr (.one Z .t one_int kr (.one Z qi one_int kr (.one Z .t one_int kr .nil))))) r3 qz (qf (Zcp (ek:=(fun n:Int=>PV.int .i64 n)) (z0:=(0)) 2 Yct Zc7 kr (fun _ _=>⟨rfl,ZcV⟩) .is (ZM.agg (enc:=Zar) (k:=(⟨o.tx,t.id,2,o.key⟩:Zg)) (.pagg .t) Z)) r2 r1 (qp r1 (qf (Za8 (ek:=(fun n:Int=>PV.int .i64 n)) (z0:=(0)) 2 Yct Zc7 kr (fun _ _=>⟨rfl,ZcV⟩) .is (ZM.agg (enc:=Zar) (k:=(⟨o.tx,t.id,2,o.key⟩:Zg)) (.pagg .t) Z) (by intros;first | rfl | simp [Anc.v,upd])) r2 r1 (qf (Zh .t Z) r1 qz (qf (ZaI 2 (ZbK _ _ _) .is .t .t) r3 r1 qZ))))))))))))) kr kr kr Z Z Z (fun _ _ _ _ h=>.inr h) (by rw [V];kernel_rfl) fun a w F G=>?_
  obtain ⟨F,G⟩:=G.nM [6,5,3,0] [102,101,6,5,4,3,2,0]
  try dsimp only [List.map,Zf,xL,xM,Nat.reduceAdd,xD,xE,xT,xU,xC,xN,zCF,ldSF,Zv,rTx,ZH,ZU,Zn,rOp] at G
  obtain ⟨es2,hes2⟩:∃ z,z=gSet (⟨o.tx,t.id,2,o.key⟩:Zg) (IntKind.wrap .i64 ((gGet (⟨o.tx,t.id,2,o.key⟩:Zg) es).getD 0+1)) (gEns 0 (⟨o.tx,t.id,2,o.key⟩:Zg) (es,ck)).1:=⟨_,rfl⟩
  obtain ⟨ck2,hck2⟩:∃ z,z=(gEns 0 (⟨o.tx,t.id,2,o.key⟩:Zg) (es,ck)).2:=⟨_,rfl⟩
  rw [← hes2,← hck2] at G
  have hR2:Zha es2 AA (RR++rdA t o):=by rw [hes2];unfold rdA;rw [Yc h0];exact ZkK hq0 ow
  refine Za (Ya (Zw G (qR rr (qf (o_nilCheck 3 .is (by rfl)) r1 r1 (qf (oF 4 3 .adr) r1 r1 (qa 3 r1 r1 (qg 1 102 r1 r1 (qa 102 r1 r1 (qg 2 102 r1 r1 (qa 102 r1 r1 (qf (Zbw (sz:=1) (r:=[(0,.tmp 64),(1,.tmp 66)]) (zs:=[.int .i64 0,.int .i64 0]) (pl:=[(0,1),(1,1)]) Ycs kr kr Z (.one Z .t one_int kr (.one Z .t one_int kr .nil)) (by rfl)) r2 qz (qf (Zat (ek:=(fun n:Int=>PV.int .i64 n)) (z0:=(0)) 6 Ycy Zhd kr (fun _ _=>⟨rfl,ZcV⟩) .is (ZM.agg (enc:=Ze7) (k:=(⟨o.key,o.tx⟩:ZdT)) (.pagg .t) Z)) r2 r1 (qO rr qZ))))))))))) V [8,6,5,3] [102,101,6,5,4,3,2,0] Z Z fun a w F G=>?_))
  try dsimp only [List.map,Zf,xL,xM,Nat.reduceAdd,xD,xE,xT,xU,xC,xN,zCF,ldSF,Zv,rTx,ZH,ZU,Zn,rOp] at G
  rw [show (gGet (⟨o.key,o.tx⟩:ZdT) eC).getD 0=(nxI g o.key o.tx) from hI.nx _] at G
  refine Za (Ya (rZ G (qR rr (qf (o_neq .t qi) r1 qz (qR rr (qm Z Z Z Z (qv 0 101 Z r2 r1 (qw 101 Z r2 r1 (qk Z (fun h=>o_neq (.w h) (.w h)) r3 qz (qf (ZE .t .t) r2 qz qZ)))))))) V [76,8,6,5,3] [102,101,6,5,4,3,2,0] fun G=>?_))
  refine Zc G Z (fun hc2=>?_) (fun hc2=>?_)
  ·have h1:(nxI g o.key o.tx)≠0∧(nxI g o.key o.tx)≠t.id:=by simpa using hc2
   replace G:=G.turnZ 2 (0) (⟨t.id,(nxI g o.key o.tx),3,o.key⟩:Zg) rfl
   refine Zbe 2 11 (m1:=1) (m2:=2) kr G kr (qR rr (qg 0 101 r1 r1 (qa 101 r1 r1 (qR rr (qg 1 102 r1 r1 (qa 102 r1 r1 (qf (oB [(0,.tmp 79),(1,.tmp 80),(2,_),(3,.tmp 82)] [.int .i64 0,.int .i64 0,.int .i64 0,.int .i64 0] [(0,1),(1,1),(2,1),(3,1)] (.one Z .t one_int kr (.one Z .t one_int kr (.one Z qi one_int kr (.one Z .t one_int kr .nil))))) r3 qz (qf (Zcp (ek:=(fun n:Int=>PV.int .i64 n)) (z0:=(0)) 2 Yct Zc7 kr (fun _ _=>⟨rfl,ZcV⟩) .is (ZM.agg (enc:=Zar) (k:=(⟨t.id,(nxI g o.key o.tx),3,o.key⟩:Zg)) (.pagg .t) Z)) r2 r1 (qp r1 (qf (Za8 (ek:=(fun n:Int=>PV.int .i64 n)) (z0:=(0)) 2 Yct Zc7 kr (fun _ _=>⟨rfl,ZcV⟩) .is (ZM.agg (enc:=Zar) (k:=(⟨t.id,(nxI g o.key o.tx),3,o.key⟩:Zg)) (.pagg .t) Z) (by intros;first | rfl | simp [Anc.v,upd])) r2 r1 (qf (Zh .t Z) r1 qz (qf (ZaI 2 (ZbK _ _ _) .is .t .t) r3 r1 qZ)))))))))))) kr kr kr Z Z Z (fun _ _ _ _ h=>.inr h) (by rw [V];kernel_rfl) fun a w F G=>?_
   obtain ⟨F,G⟩:=G.nM [] [102,101,6,5,4,3,2,0]
   try dsimp only [List.map,Zf,xL,xM,Nat.reduceAdd,xD,xE,xT,xU,xC,xN,zCF,ldSF,Zv,rTx,ZH,ZU,Zn,rOp] at G
   obtain ⟨es3,hes3⟩:∃ z,z=gSet (⟨t.id,(nxI g o.key o.tx),3,o.key⟩:Zg) (IntKind.wrap .i64 ((gGet (⟨t.id,(nxI g o.key o.tx),3,o.key⟩:Zg) es2).getD 0+1)) (gEns 0 (⟨t.id,(nxI g o.key o.tx),3,o.key⟩:Zg) (es2,ck2)).1:=⟨_,rfl⟩
   obtain ⟨ck3,hck3⟩:∃ z,z=(gEns 0 (⟨t.id,(nxI g o.key o.tx),3,o.key⟩:Zg) (es2,ck2)).2:=⟨_,rfl⟩
   rw [← hes3,← hck3] at G
   have hR9:Zha es3 AA (RR++rdO g t o):=by rw [hes3];unfold rdO;rw [Yc (by rw [hno];simp)];unfold rdB;rw [Yf h1,← YO];exact ZkK hR2 (by have h9:(rdA t o).length≤1:=by { unfold rdA;split <;> simp };rw [Yd];omega)
   have G:=G.fresh 1 rfl
   obtain ⟨F,G⟩:=G.push 1 6 Z Z Z kr
   obtain ⟨F,G⟩:=G.push 1 5 Z Z Z kr
   obtain ⟨F,G⟩:=G.push 1 4 Z Z Z kr
   obtain ⟨F,G⟩:=G.push 1 3 Z Z Z kr
   have G:=G.turn 1 Z (r':=RS.hp (ZnK g (.pointer (some ⟨b,0,none⟩)))) (fun _ _ _ _ h=>⟨(⟨mA,mB,mC,eA,kA,eB,kB,eC,kC⟩:FS),hI,h⟩)
   have G:=G.turn 2 Z (r':=RS.hp (ZfA AA (RR++rdO g t o) mv)) (fun _ _ _ _ h=>⟨(es3,ck3),hR9,h⟩)
   refine Zgt hG G Z .nil Zbc.none Z rfl
  have h1:¬ ((nxI g o.key o.tx)≠0∧(nxI g o.key o.tx)≠t.id):=by simpa using hc2
  obtain ⟨es3,hes3⟩:∃ z,z=es2:=⟨_,rfl⟩
  obtain ⟨ck3,hck3⟩:∃ z,z=ck2:=⟨_,rfl⟩
  rw [← hes3,← hck3] at G
  have hR9:Zha es3 AA (RR++rdO g t o):=by rw [hes3];unfold rdO;rw [Yc (by rw [hno];simp)];unfold rdB;rw [Yc h1,YS];exact hR2
  refine Ye ?_
  have G:=G.fresh 1 rfl
  obtain ⟨F,G⟩:=G.push 1 6 Z Z Z kr
  obtain ⟨F,G⟩:=G.push 1 5 Z Z Z kr
  obtain ⟨F,G⟩:=G.push 1 4 Z Z Z kr
  obtain ⟨F,G⟩:=G.push 1 3 Z Z Z kr
  have G:=G.turn 1 Z (r':=RS.hp (ZnK g (.pointer (some ⟨b,0,none⟩)))) (fun _ _ _ _ h=>⟨(⟨mA,mB,mC,eA,kA,eB,kB,eC,kC⟩:FS),hI,h⟩)
  have G:=G.turn 2 Z (r':=RS.hp (ZfA AA (RR++rdO g t o) mv)) (fun _ _ _ _ h=>⟨(es3,ck3),hR9,h⟩)
  refine Zgt hG G Z .nil Zbc.none Z rfl
 have h0:o.tx=0:=by simpa using hc1
 obtain ⟨es2,hes2⟩:∃ z,z=es:=⟨_,rfl⟩
 obtain ⟨ck2,hck2⟩:∃ z,z=ck:=⟨_,rfl⟩
 rw [← hes2,← hck2] at G
 have hR2:Zha es2 AA (RR++rdA t o):=by rw [hes2];unfold rdA;rw [Yf h0,YS];exact hq0
 refine Ye (Za (Ya (Zw G (qR rr (qf (o_nilCheck 3 .is (by rfl)) r1 r1 (qf (oF 4 3 .adr) r1 r1 (qa 3 r1 r1 (qg 1 102 r1 r1 (qa 102 r1 r1 (qg 2 102 r1 r1 (qa 102 r1 r1 (qf (Zbw (sz:=1) (r:=[(0,.tmp 64),(1,.tmp 66)]) (zs:=[.int .i64 0,.int .i64 0]) (pl:=[(0,1),(1,1)]) Ycs kr kr Z (.one Z .t one_int kr (.one Z .t one_int kr .nil)) (by rfl)) r2 qz (qf (Zat (ek:=(fun n:Int=>PV.int .i64 n)) (z0:=(0)) 6 Ycy Zhd kr (fun _ _=>⟨rfl,ZcV⟩) .is (ZM.agg (enc:=Ze7) (k:=(⟨o.key,o.tx⟩:ZdT)) (.pagg .t) Z)) r2 r1 (qO rr qZ))))))))))) V [8,6,5,3] [102,101,6,5,4,3,2,0] Z Z fun a w F G=>?_)))
 try dsimp only [List.map,Zf,xL,xM,Nat.reduceAdd,xD,xE,xT,xU,xC,xN,zCF,ldSF,Zv,rTx,ZH,ZU,Zn,rOp] at G
 rw [show (gGet (⟨o.key,o.tx⟩:ZdT) eC).getD 0=(nxI g o.key o.tx) from hI.nx _] at G
 refine Za (Ya (rZ G (qR rr (qf (o_neq .t qi) r1 qz (qR rr (qm Z Z Z Z (qv 0 101 Z r2 r1 (qw 101 Z r2 r1 (qk Z (fun h=>o_neq (.w h) (.w h)) r3 qz (qf (ZE .t .t) r2 qz qZ)))))))) V [76,8,6,5,3] [102,101,6,5,4,3,2,0] fun G=>?_))
 refine Zc G Z (fun hc3=>?_) (fun hc3=>?_)
 ·have h1:(nxI g o.key o.tx)≠0∧(nxI g o.key o.tx)≠t.id:=by simpa using hc3
  replace G:=G.turnZ 2 (0) (⟨t.id,(nxI g o.key o.tx),3,o.key⟩:Zg) rfl
  refine Zbe 2 11 (m1:=1) (m2:=2) kr G kr (qR rr (qg 0 101 r1 r1 (qa 101 r1 r1 (qR rr (qg 1 102 r1 r1 (qa 102 r1 r1 (qf (oB [(0,.tmp 79),(1,.tmp 80),(2,_),(3,.tmp 82)] [.int .i64 0,.int .i64 0,.int .i64 0,.int .i64 0] [(0,1),(1,1),(2,1),(3,1)] (.one Z .t one_int kr (.one Z .t one_int kr (.one Z qi one_int kr (.one Z .t one_int kr .nil))))) r3 qz (qf (Zcp (ek:=(fun n:Int=>PV.int .i64 n)) (z0:=(0)) 2 Yct Zc7 kr (fun _ _=>⟨rfl,ZcV⟩) .is (ZM.agg (enc:=Zar) (k:=(⟨t.id,(nxI g o.key o.tx),3,o.key⟩:Zg)) (.pagg .t) Z)) r2 r1 (qp r1 (qf (Za8 (ek:=(fun n:Int=>PV.int .i64 n)) (z0:=(0)) 2 Yct Zc7 kr (fun _ _=>⟨rfl,ZcV⟩) .is (ZM.agg (enc:=Zar) (k:=(⟨t.id,(nxI g o.key o.tx),3,o.key⟩:Zg)) (.pagg .t) Z) (by intros;first | rfl | simp [Anc.v,upd])) r2 r1 (qf (Zh .t Z) r1 qz (qf (ZaI 2 (ZbK _ _ _) .is .t .t) r3 r1 qZ)))))))))))) kr kr kr Z Z Z (fun _ _ _ _ h=>.inr h) (by rw [V];kernel_rfl) fun a w F G=>?_
  obtain ⟨F,G⟩:=G.nM [] [102,101,6,5,4,3,2,0]
  try dsimp only [List.map,Zf,xL,xM,Nat.reduceAdd,xD,xE,xT,xU,xC,xN,zCF,ldSF,Zv,rTx,ZH,ZU,Zn,rOp] at G
  obtain ⟨es3,hes3⟩:∃ z,z=gSet (⟨t.id,(nxI g o.key o.tx),3,o.key⟩:Zg) (IntKind.wrap .i64 ((gGet (⟨t.id,(nxI g o.key o.tx),3,o.key⟩:Zg) es2).getD 0+1)) (gEns 0 (⟨t.id,(nxI g o.key o.tx),3,o.key⟩:Zg) (es2,ck2)).1:=⟨_,rfl⟩
  obtain ⟨ck3,hck3⟩:∃ z,z=(gEns 0 (⟨t.id,(nxI g o.key o.tx),3,o.key⟩:Zg) (es2,ck2)).2:=⟨_,rfl⟩
  rw [← hes3,← hck3] at G
  have hR9:Zha es3 AA (RR++rdO g t o):=by rw [hes3];unfold rdO;rw [Yc (by rw [hno];simp)];unfold rdB;rw [Yf h1,← YO];exact ZkK hR2 (by have h9:(rdA t o).length≤1:=by { unfold rdA;split <;> simp };rw [Yd];omega)
  have G:=G.fresh 1 rfl
  obtain ⟨F,G⟩:=G.push 1 6 Z Z Z kr
  obtain ⟨F,G⟩:=G.push 1 5 Z Z Z kr
  obtain ⟨F,G⟩:=G.push 1 4 Z Z Z kr
  obtain ⟨F,G⟩:=G.push 1 3 Z Z Z kr
  have G:=G.turn 1 Z (r':=RS.hp (ZnK g (.pointer (some ⟨b,0,none⟩)))) (fun _ _ _ _ h=>⟨(⟨mA,mB,mC,eA,kA,eB,kB,eC,kC⟩:FS),hI,h⟩)
  have G:=G.turn 2 Z (r':=RS.hp (ZfA AA (RR++rdO g t o) mv)) (fun _ _ _ _ h=>⟨(es3,ck3),hR9,h⟩)
  refine Zgt hG G Z .nil Zbc.none Z rfl
 have h1:¬ ((nxI g o.key o.tx)≠0∧(nxI g o.key o.tx)≠t.id):=by simpa using hc3
 obtain ⟨es3,hes3⟩:∃ z,z=es2:=⟨_,rfl⟩
 obtain ⟨ck3,hck3⟩:∃ z,z=ck2:=⟨_,rfl⟩
 rw [← hes3,← hck3] at G
 have hR9:Zha es3 AA (RR++rdO g t o):=by rw [hes3];unfold rdO;rw [Yc (by rw [hno];simp)];unfold rdB;rw [Yc h1,YS];exact hR2
 refine Ye ?_
 have G:=G.fresh 1 rfl
 obtain ⟨F,G⟩:=G.push 1 6 Z Z Z kr
 obtain ⟨F,G⟩:=G.push 1 5 Z Z Z kr
 obtain ⟨F,G⟩:=G.push 1 4 Z Z Z kr
 obtain ⟨F,G⟩:=G.push 1 3 Z Z Z kr
 have G:=G.turn 1 Z (r':=RS.hp (ZnK g (.pointer (some ⟨b,0,none⟩)))) (fun _ _ _ _ h=>⟨(⟨mA,mB,mC,eA,kA,eB,kB,eC,kC⟩:FS),hI,h⟩)
 have G:=G.turn 2 Z (r':=RS.hp (ZfA AA (RR++rdO g t o) mv)) (fun _ _ _ _ h=>⟨(es3,ck3),hR9,h⟩)
 refine Zgt hG G Z .nil Zbc.none Z rfl
def wwC (p:Int→Bool) (g:Zr):List (Zg×Int):=if ZS g then wwA p g.orders else []
def rdC (p:Int→Bool) (g:Zr):List Zg:=if ZS g then rdH p g g.txs else []
theorem Zrv {g:Zr} {v:Value} {w:World} {f y:Ys} (h:(ZnK g v).p w f y):∃ b,v = .pointer (some ⟨b,0,none⟩):=by
 obtain ⟨s,_,q⟩:=h
 exact HP.star_pt q
theorem Zn2 (g : Zr) (hsm : Za9 g) (p : Int → Bool) (f : FuncId) (fn : Func) (cps : List PV) (hf : prog.funcs[f]? = some fn) (hb : fn.body.isSome = true) (hnn : (fn.name == "runtime.NumGoroutine") = false) (hw : ∀ x, FnP prog f (.int .i64 x :: cps) (.bool (p x))) : FnG prog 78 1 [.agg (Zv g), .clos f cps] [.star []] (PV.one) (fun v => [ZfA (wwC p g) (rdC p g) v]) := by
 refine FnG.mk func78 Z ntmps78 Z kr fun B F0 a w F V hG G=>?_
 have hs:=hsm.1
 have hsl:=hs.1
 have hso:=hsm.2
 have hol1:=hso.1
 obtain ⟨F,G⟩:=G.nM [1,0] [0]
 refine Ya (Zb G (qx 101 r1 (qC qZ)) V [4,2,1] [101,0] (fun _=>rfl) (fun _=>rfl) fun τ a w F G=>?_)
 try dsimp only [RS.sub,SF.sub,CF.sub,csub,Anc.sub,List.map,zCF,Zv,rTx,ZH,ZU,Zn,rOp] at G
 generalize τ 2=v2 at G
 refine Za (Ya (Zb G (qf (ZaZ (ek:=(fun n:Int=>PV.int .i64 n)) (ok:=(fun k=>∀ x ∈ Zar k,inR .i64 x)) (kv:=(kvS Zar)) 102) trivial qz (qO rr qZ)) V [5,4,2,1] [102,101,0] (fun _=>rfl) (fun _=>rfl) fun τ a w F G=>?_))
 try dsimp only [RS.sub,SF.sub,CF.sub,csub,Anc.sub,List.map,Zf,xL,xM,Nat.reduceAdd,xD,xE,xT,xU,xC,xN,zCF,Zv,rTx,ZH,ZU,Zn,rOp] at G
 generalize τ 14=v14 at G
 refine Za (Ya (Ya (rZ G (qe 2 101 r1 r1 (qf (oP (Zfe g hsm) func19 (Args.one (.pagg .t))) r1 qz (qf (o_not .t) r1 qz qZ))) V [17,5,4,2,1] [102,101,0] fun G=>?_)))
 refine Zc G Z (fun hc0=>?_) (fun hc0=>?_)
 ·skip
  have hr:¬ ZS g:=by simpa using hc0
  have hgA:wwC p g = []:=Yc hr
  have hgR:rdC p g = []:=Yc hr
  replace G:=G.turn 102 Z (r':=RS.hp (ZfA (wwC p g) (rdC p g) v14)) (fun _ _ _ _ h=>⟨([],0),by rw [hgA,hgR];exact Zk9,h⟩)
  obtain ⟨F,G⟩:=G.nM [17,5,4,2,1] [102,101,0]
  refine Ya (rZ G (qR rr (qO rr qZ)) V [5,4,2,1] [102,101,0] fun G=>(Yh (Zl ?_)))
  obtain ⟨F,G⟩:=G.rename 102 1 Z rfl
  refine Z1 (h':=fun v=>ZfA (wwC p g) (rdC p g) v) hG G Z (.tmp Z .nil) (.one .one) rfl
 have hr:ZS g:=by simpa using hc0
 have hgA:wwC p g=wwA p g.orders:=Yf hr
 have hgR:rdC p g=rdH p g g.txs:=Yf hr
 refine Ye (Za (Ya ?_))
 replace G:=G.fresh 103 rfl
 refine Zb G (qe 2 101 r1 r1 (qf (Zap 103 (ZvP g hsm) func135 Z kr (Args.one (.pagg .t)) PV.ptr_one) r1 r1 (qO rr qZ))) V [6,5,4,2,1] [103,102,101,0] (fun _=>rfl) (fun _=>rfl) fun τ a w F G=>?_
 try dsimp only [RS.sub,SF.sub,CF.sub,csub,Anc.sub,List.map,xD,xE,xT,xU,ldSF,Zv,rTx,ZH,ZU,Zn,rOp] at G
 generalize τ 20=v20 at G
 obtain ⟨_,_,_,ho⟩:=G.obGet 103 rfl
 obtain ⟨b,rfl⟩:=Zrv ho
 clear ho
 replace G:=G.turn 103 Z (r':=RS.hp (ZnK g (.pointer (some ⟨b,0,none⟩)))) (fun _ _ _ _ h=>h)
 obtain ⟨F,G⟩:=G.nM [6,5,4,2,1] [103,102,101,0]
 refine Za (Ya (Ya (rZ G (qg 1 101 r1 r1 (qa 101 r1 r1 (qu Ych r1 (qJ qZ)))) V [24,23,22,6,5,4,2,1] [103,102,101,0] fun G=>Yg ?_)))
 refine Zk (σ:=(Nat)×(List (GE Zg Int))×(Nat)) [1,2,4,5,6,22,23] [0,101,103] (fun s=>[(24,.pv (.int .i64 (s.1:Int)))]) (fun s=>[(102,.ob (.val v14) (ZbN (fun n:Int=>PV.int .i64 n) (fun k=>∀ x ∈ Zar k,inR .i64 x) (kvS Zar) s.2.1 s.2.2))]) (fun s=>s.1≤g.orders.length∧(Zha s.2.1 (wwA p (g.orders.take s.1)) [])) (fun s=>g.orders.length - s.1) ((0),([]),(0)) G ⟨rfl,rfl,rfl,rfl,rfl,rfl,rfl,rfl,tv⟩ ⟨rfl,rfl,rfl,rfl,tv⟩ ⟨Yw _,Zk9⟩ ?_
 clear G;intro s a w F hC G
 obtain ⟨i,es,ck⟩:=s
 try dsimp only at hC
 obtain ⟨F,G⟩:=G.nM [24,23,22,6,5,4,2,1] [103,102,101,0]
 try dsimp only at G
 obtain ⟨hi,hq⟩:=hC
 have hol:=fun hil:i<g.orders.length=>hso.at hil
 refine Ya (rZ G (qL r2) V [25,24,23,22,6,5,4,2,1] [103,102,101,0] fun G=>Ya ?_)
 refine Zc G Z (fun hc1=>?_) (fun hc1=>?_)
 ·skip
  have hil:i<g.orders.length:=by simp at hc1;omega
  have hio:=hil
  have hcn:=hq
  have hox:=hol hil
  refine Ye (Za (Ya (Yg (Ya (Zb G (qy 2 Ych r2 (qf (oR true 2 .t) r1 qz (qf (oH [.int .i64 0,.slice none 0 0] 104) trivial qz (qS 2 104 r2 r1 qZ)))) V [24,23,22,8,6,5,4,2,1] [104,103,102,101,0] (fun _=>rfl) (fun _=>rfl) fun τ a w F G=>?_)))))
  try dsimp only [RS.sub,SF.sub,CF.sub,csub,Anc.sub,List.map,Zf,xL,xM,Nat.reduceAdd,xD,xE,xT,xU,xC,xN,zCF,ldSF,Zv,rTx,ZH,ZU,Zn,rOp] at G
  generalize τ 8=v8 at G
  try simp only [Yb] at G
  refine Za (Ya (rZ G (qI qZ) V [24,23,22,9,8,6,5,4,2,1] [104,103,102,101,0] fun G=>Yg ?_))
  replace G:=G.ent (i:=9) (s':=.pv (.int .i64 ((0+1:Nat):Int))) Z (.int Z)
  refine Zk (σ:=Nat×(List (GE Zg Int))×Nat) [1,2,4,5,6,8,22,23,24] [0,101,103,104] (fun s=>[(9,.pv (.int .i64 ((s.1+1:Nat):Int)))]) (fun s=>[(102,.ob (.val v14) (ZbN (fun n:Int=>PV.int .i64 n) (fun k=>∀ x ∈ Zar k,inR .i64 x) (kvS Zar) s.2.1 s.2.2))]) (fun s=>s.1≤(Nn g.orders i).txs.length∧(0<s.1→p (Nn g.orders i).key=true∧s.1+1≤(Nn g.orders i).txs.length)∧Zha s.2.1 (wwA p (g.orders.take i)++wwO (Nn g.orders i) s.1) []) (fun s=>(Nn g.orders i).txs.length - s.1) ((0),(es),(ck)) G ⟨rfl,rfl,rfl,rfl,rfl,rfl,rfl,rfl,rfl,rfl,tv⟩ ⟨rfl,rfl,rfl,rfl,rfl,tv⟩ ⟨Yw _,fun h9=>absurd h9 (Nat.lt_irrefl 0),by show Zha _ (wwA p (g.orders.take i) ++ []) [];rw [YS];exact hcn⟩ ?_
  clear G;intro s a w F hC G
  obtain ⟨j,es3,ck3⟩:=s
  try dsimp only at hC
  obtain ⟨F,G⟩:=G.nM [24,23,22,9,8,6,5,4,2,1] [104,103,102,101,0]
  try dsimp only at G
  obtain ⟨hj,hjp,hq⟩:=hC
  have hwj:IntKind.wrap .i64 (((j+1:Nat):Int) - 1)=(j:Int):=by rw [ZA ow];omega
  refine Ya (Ya (rZ G (qR rr (qg 1 104 r1 r1 (qa 104 r1 r1 (qu Ycf r1 (qf (ZaA .t .t) r2 qz (qR rr (qm Z Z Z Z (qv 0 104 Z r2 r1 (qw 104 Z r2 r1 (qk Z (fun h=>ZN (avs:=[.int .i64 (Nn g.orders i).key]) (.w h) (hw (Nn g.orders i).key) hf hb hnn (Args.one (.w h))) r3 qz (qf (ZE .t .t) r2 qz qZ))))))))))) V [38,24,23,22,9,8,6,5,4,2,1] [104,103,102,101,0] fun G=>?_))
  refine Zc G Z (fun hc2=>?_) (fun hc2=>?_)
  ·skip
   have hst:j+1<(Nn g.orders i).txs.length∧p (Nn g.orders i).key=true:=by have h9:=hc2;simp at h9;exact ⟨by omega,h9.2⟩
   refine Ye (Za (Ya (Yg (Zw G (qR rr (qg 1 104 r1 r1 (qa 104 r1 r1 (qR rr (qf (o_sub .t qi) r1 qz (qf (o_indexAddr_sl (sz:=1) (.mk Ycf kr) (by intro x;rfl) .t .t (by rw [hwj];omega) (by rw [hwj];omega)) r2 qz (qf (oR false 1 .t) r1 qz (qg 1 104 r1 r1 (qa 104 r1 r1 (qR rr (qy 1 Ycf r2 (qf (oR false 1 .t) r1 qz (qg 0 104 r1 r1 (qa 104 r1 r1 (qf (oB [(0,.tmp 47),(1,.tmp 52),(2,_),(3,.tmp 54)] [.int .i64 0,.int .i64 0,.int .i64 0,.int .i64 0] [(0,1),(1,1),(2,1),(3,1)] (.one Z .t one_int kr (.one Z .t one_int kr (.one Z qi one_int kr (.one Z .t one_int kr .nil))))) r3 qz (qf (o_mapUpdateG (ek:=(fun n:Int=>PV.int .i64 n)) 102 Yct Zc7 .is (ZM.agg (enc:=Zar) (k:=(⟨Nn (Nn g.orders i).txs (IntKind.wrap .i64 (((j+1:Nat):Int) - 1)).toNat,Nn (Nn g.orders i).txs ((j+1:Nat):Int).toNat,1,(Nn g.orders i).key⟩:Zg)) (.pagg .t) Z) qi) r2 r1 qZ)))))))))))))))) V [24,23,22,9,8,6,5,4,2,1] [104,103,102,101,0] Z Z fun a w F G=>?_))))
   try dsimp only [List.map,Zf,xL,xM,Nat.reduceAdd,xD,xE,xT,xU,xC,xN,zCF,ldSF,Zv,rTx,ZH,ZU,Zn,rOp] at G
   try simp only [Yb] at G
   rw [hwj] at G
   try simp only [Yb] at G
   obtain ⟨es4,hes4⟩:∃ z,z=(gPut (⟨Nn (Nn g.orders i).txs j,Nn (Nn g.orders i).txs (j+1),1,(Nn g.orders i).key⟩:Zg) 1 (es3,ck3)).1:=⟨_,rfl⟩
   obtain ⟨ck4,hck4⟩:∃ z,z=(gPut (⟨Nn (Nn g.orders i).txs j,Nn (Nn g.orders i).txs (j+1),1,(Nn g.orders i).key⟩:Zg) 1 (es3,ck3)).2:=⟨_,rfl⟩
   rw [← hes4,← hck4] at G
   have hR3:Zha es4 (wwA p (g.orders.take i)++wwO (Nn g.orders i) (j+1)) []:=by rw [hes4,Zr8,← YO];exact ZuB hq
   refine Zi (Za (rZ G (qR rr (qp r1 (qO rr qZ))) V [24,23,22,9,8,6,5,4,2,1] [104,103,102,101,0] fun G=>?_))
   have hC2:j+1≤(Nn g.orders i).txs.length∧(0<j+1→p (Nn g.orders i).key=true∧j+1+1≤(Nn g.orders i).txs.length)∧Zha es4 (wwA p (g.orders.take i)++wwO (Nn g.orders i) (j+1)) []:=⟨by omega,fun _=>⟨hst.2,by omega⟩,hR3⟩
   replace G:=G.ent (i:=9) (s':=.pv (.int .i64 ((j+1+1:Nat):Int))) Z (.int (Zd ow))
   obtain ⟨F,G⟩:=G.nM [24,23,22,8,6,5,4,2,1,9] [104,103,101,0,102]
   exact ⟨((j+1),(es4),(ck4)),F,hC2,G,by omega⟩
  have hst:p (Nn g.orders i).key=true→(Nn g.orders i).txs.length≤j+1:=fun hpk=>by have h9:=hc2;simp [hpk] at h9;omega
  obtain ⟨es2,hes2⟩:∃ z,z=es3:=⟨_,rfl⟩
  obtain ⟨ck2,hck2⟩:∃ z,z=ck3:=⟨_,rfl⟩
  rw [← hes2,← hck2] at G
  have hR2:Zha es2 (wwA p (g.orders.take (i+1))) []:=by
    rw [hes2,ZqN hio]
    by_cases hpk:p (Nn g.orders i).key=true
    · rw [Yf hpk,show (Nn g.orders i).txs.length - 1=j by (have:=hst hpk;by_cases hj0:0<j; (have:=(hjp hj0).2;omega);omega)];exact hq
    · rw [Yc hpk]
      have hj0:j=0:=by
        by_cases hj0:0<j
        · exact absurd (hjp hj0).1 hpk
        · omega
      rw [hj0] at hq;exact hq
  refine Yx (Zj (Zj (Zo (Zi (Za (rZ G (qp r1 (qR rr qZ)) V [24,23,22,6,5,4,2,1] [104,103,102,101,0] fun G=>?_))))))
  replace G:=G.ent (i:=24) (s':=.pv (.int .i64 ((i+1:Nat):Int))) Z (.int (Zd ow))
  obtain ⟨F,G⟩:=G.nM [23,22,6,5,4,2,1,24] [103,101,0,102]
  exact ⟨((i+1),(es2),(ck2)),F,⟨by omega,hR2⟩,G,by omega⟩
 have hil:i=g.orders.length:=by simp at hc1;omega
 rw [hil,YA] at hq
 replace G:=G.turn 102 Z (r':=RS.hp (ZfA (wwA p g.orders) (rdH p g (g.txs.take 0)) v14)) (fun _ _ _ _ h=>⟨(es,ck),hq,h⟩)
 obtain ⟨F,G⟩:=G.nM [25,24,23,22,6,5,4,2,1] [103,102,101,0]
 refine Yx (Zj (Zj (Zo (Za (Ya (Ya (rZ G (qg 0 101 r1 r1 (qa 101 r1 r1 (qu Yci r1 (qJ qZ)))) V [60,59,58,6,5,4,1] [103,102,101,0] fun G=>Yg ?_)))))))
 refine Zk (σ:=(Nat)) [1,4,5,6,58,59] [0,101,103] (fun s=>[(60,.pv (.int .i64 (s:Int)))]) (fun s=>[(102,RS.hp (ZfA (wwA p g.orders) (rdH p g (g.txs.take s)) v14))]) (fun s=>s≤g.txs.length∧(True)) (fun s=>g.txs.length - s) (0) G ⟨rfl,rfl,rfl,rfl,rfl,rfl,rfl,tv⟩ ⟨rfl,rfl,rfl,rfl,tv⟩ ⟨Yw _,tv⟩ ?_
 clear G;intro i a w F hC G
 try dsimp only at hC
 obtain ⟨F,G⟩:=G.nM [60,59,58,6,5,4,1] [103,102,101,0]
 try dsimp only at G
 obtain ⟨hi,hq⟩:=hC
 have hxl:=fun hil:i<g.txs.length=>hs.at hil
 refine Ya (rZ G (qL r2) V [61,60,59,58,6,5,4,1] [103,102,101,0] fun G=>Ya ?_)
 refine Zc G Z (fun hc3=>?_) (fun hc3=>?_)
 ·skip
  have hil:i<g.txs.length:=by simp at hc3;omega
  have hio:=hil
  have htl:=hxl hil
  have hsl:=hs.1
  have hrl:=Zo0 (p:=p) (g:=g) hs i
  replace G:=G.turn 102 Z (r':=RS.hp (ZfA (wwA p g.orders) (rdH p g (g.txs.take i)++rdT p g (Nn g.txs i) ((Nn g.txs i).ops.take 0)) v14)) (fun _ _ _ _ h=>by rw [List.take_zero,show rdT p g (Nn g.txs i) [] = [] from rfl,YS];exact h)
  obtain ⟨F,G⟩:=G.nM [61,60,59,58,6,5,4,1] [103,102,101,0]
  refine Ye (Za (Ya (Yg (Ya (Zb G (qy 3 Yci r2 (qf (oR true 3 .t) r1 qz (qf (oH [.int .i64 0,.bool false,.slice none 0 0] 105) trivial qz (qS 3 105 r2 r1 qZ)))) V [60,59,58,11,6,5,4,1] [105,103,102,101,0] (fun _=>rfl) (fun _=>rfl) fun τ a w F G=>?_)))))
  try dsimp only [RS.sub,SF.sub,CF.sub,csub,Anc.sub,List.map,Zf,xL,xM,Nat.reduceAdd,xD,xE,xT,xU,xC,xN,zCF,ldSF,Zv,rTx,ZH,ZU,Zn,rOp] at G
  generalize τ 11=v11 at G
  try simp only [Yb] at G
  refine Za (Ya (rZ G (qg 2 105 r1 r1 (qa 105 r1 r1 (qu Yck r1 (qJ qZ)))) V [67,66,65,60,59,58,11,6,5,4,1] [105,103,102,101,0] fun G=>Yg ?_))
  refine Zk (σ:=(Nat)) [1,4,5,6,11,58,59,60,65,66] [0,101,103,105] (fun s=>[(67,.pv (.int .i64 (s:Int)))]) (fun s=>[(102,RS.hp (ZfA (wwA p g.orders) (rdH p g (g.txs.take i)++rdT p g (Nn g.txs i) ((Nn g.txs i).ops.take s)) v14))]) (fun s=>s≤(Nn g.txs i).ops.length∧(True)) (fun s=>(Nn g.txs i).ops.length - s) (0) G ⟨rfl,rfl,rfl,rfl,rfl,rfl,rfl,rfl,rfl,rfl,rfl,tv⟩ ⟨rfl,rfl,rfl,rfl,rfl,tv⟩ ⟨Yw _,tv⟩ ?_
  clear G;intro j a w F hC G
  try dsimp only at hC
  obtain ⟨F,G⟩:=G.nM [67,66,65,60,59,58,11,6,5,4,1] [105,103,102,101,0]
  try dsimp only at G
  obtain ⟨hi,hq⟩:=hC
  refine Ya (rZ G (qL r2) V [68,67,66,65,60,59,58,11,6,5,4,1] [105,103,102,101,0] fun G=>Ya ?_)
  refine Zc G Z (fun hc4=>?_) (fun hc4=>?_)
  ·skip
   have hil:j<(Nn g.txs i).ops.length:=by simp at hc4;omega
   refine Ye (Za (Ya (Yg (Ya (Zb G (qy 4 Yck r2 (qf (oR true 4 .t) r1 qz (qf (oH [.bool false,.int .i64 0,.int .i64 0,.int .i64 0] 106) trivial qz (qS 4 106 r2 r1 qZ)))) V [67,66,65,60,59,58,13,11,6,5,4,1] [106,105,103,102,101,0] (fun _=>rfl) (fun _=>rfl) fun τ a w F G=>?_)))))
   try dsimp only [RS.sub,SF.sub,CF.sub,csub,Anc.sub,List.map,Zf,xL,xM,Nat.reduceAdd,xD,xE,xT,xU,xC,xN,zCF,ldSF,Zv,rTx,ZH,ZU,Zn,rOp] at G
   generalize τ 13=v13 at G
   try simp only [Yb] at G
   refine Za (Ya (rZ G (qg 1 105 r1 r1 (qa 105 r1 r1 (qR rr (qv 0 106 Z r2 r1 (qw 106 Z r2 r1 (qf (ZE .t .t) r2 qz (qR rr (qm Z Z Z Z (qv 1 106 Z r2 r1 (qw 106 Z r2 r1 (qk Z (fun h=>ZN (avs:=[.int .i64 (Nn (Nn g.txs i).ops j).key]) (.w h) (hw (Nn (Nn g.txs i).ops j).key) hf hb hnn (Args.one (.w h))) r3 qz (qf (ZE .t .t) r2 qz qZ)))))))))))) V [82,67,66,65,60,59,58,13,11,6,5,4,1] [106,105,103,102,101,0] fun G=>?_))
   refine Zc G Z (fun hc5=>?_) (fun hc5=>?_)
   ·skip
    have hpr:((Nn g.txs i).done && ((Nn (Nn g.txs i).ops j).read && p (Nn (Nn g.txs i).ops j).key))=true:=by have h9:=hc5;simp at h9;simp [h9]
    have hRR:(rdH p g (g.txs.take i)++rdT p g (Nn g.txs i) ((Nn g.txs i).ops.take j)).length≤10000000:=by have h9:=Zpl p g (Nn g.txs i) ((Nn g.txs i).ops.take j);rw [Yi] at h9;rw [Yd];omega
    refine Ze G (qR rr (qe 3 105 r1 r1 (qe 4 106 r1 r1 (qR rr (qf (Zp1 103 102 (ZuU b g (Nn g.txs i) (Nn (Nn g.txs i).ops j) _ _ _ hRR) func136 Z kr Z (Args.four .t (.pagg .t) (.pagg .t) .t)) r4 r2 qZ))))) V [67,66,65,60,59,58,11,6,5,4,1] [106,105,103,102,101,0] Z Z fun a w F G=>?_
    replace G:=G.turn 102 Z (r':=RS.hp (ZfA (wwA p g.orders) (rdH p g (g.txs.take i)++rdT p g (Nn g.txs i) ((Nn g.txs i).ops.take (j+1))) v14)) (fun _ _ _ _ h=>by rw [Zmy hil,Yf hpr,← YO];exact h)
    obtain ⟨F,G⟩:=G.nM [67,66,65,60,59,58,11,6,5,4,1] [106,105,103,102,101,0]
    refine Zi (Za (rZ G (qp r1 (qR rr qZ)) V [67,66,65,60,59,58,11,6,5,4,1] [106,105,103,102,101,0] fun G=>?_))
    replace G:=G.ent (i:=67) (s':=.pv (.int .i64 ((j+1:Nat):Int))) Z (.int (Zd ow))
    obtain ⟨F,G⟩:=G.nM [66,65,60,59,58,11,6,5,4,1,67] [105,103,101,0,102]
    exact ⟨(j+1),F,⟨by omega,tv⟩,G,by omega⟩
   have hpr:¬ ((Nn g.txs i).done && ((Nn (Nn g.txs i).ops j).read && p (Nn (Nn g.txs i).ops j).key))=true:=by intro h8;simp at h8;have h9:=hc5;simp [h8] at h9
   replace G:=G.turn 102 Z (r':=RS.hp (ZfA (wwA p g.orders) (rdH p g (g.txs.take i)++rdT p g (Nn g.txs i) ((Nn g.txs i).ops.take (j+1))) v14)) (fun _ _ _ _ h=>by rw [Zmy hil,Yc hpr,YS];exact h)
   obtain ⟨F,G⟩:=G.nM [82,67,66,65,60,59,58,13,11,6,5,4,1] [106,105,103,102,101,0]
   refine Ye (Zi (Za (rZ G (qp r1 (qR rr qZ)) V [67,66,65,60,59,58,11,6,5,4,1] [106,105,103,102,101,0] fun G=>?_)))
   replace G:=G.ent (i:=67) (s':=.pv (.int .i64 ((j+1:Nat):Int))) Z (.int (Zd ow))
   obtain ⟨F,G⟩:=G.nM [66,65,60,59,58,11,6,5,4,1,67] [105,103,101,0,102]
   exact ⟨(j+1),F,⟨by omega,tv⟩,G,by omega⟩
  have hil:j=(Nn g.txs i).ops.length:=by simp at hc4;omega
  replace G:=G.turn 102 Z (r':=RS.hp (ZfA (wwA p g.orders) (rdH p g (g.txs.take (i+1))) v14)) (fun _ _ _ _ h=>by rw [Zrp hio];rw [hil,YA] at h;exact h)
  obtain ⟨F,G⟩:=G.nM [68,67,66,65,60,59,58,11,6,5,4,1] [105,103,102,101,0]
  refine Yx (Zj (Zj (Zo (Zi (Za (rZ G (qp r1 (qR rr qZ)) V [60,59,58,6,5,4,1] [105,103,102,101,0] fun G=>?_))))))
  replace G:=G.ent (i:=60) (s':=.pv (.int .i64 ((i+1:Nat):Int))) Z (.int (Zd ow))
  obtain ⟨F,G⟩:=G.nM [59,58,6,5,4,1,60] [103,101,0,102]
  exact ⟨(i+1),F,⟨by omega,tv⟩,G,by omega⟩
 have hil:i=g.txs.length:=by simp at hc3;omega
 replace G:=G.turn 102 Z (r':=RS.hp (ZfA (wwC p g) (rdC p g) v14)) (fun _ _ _ _ h=>by rw [hgA,hgR];rw [hil,YA] at h;exact h)
 obtain ⟨F,G⟩:=G.nM [61,60,59,58,6,5,4,1] [103,102,101,0]
 refine Yx (Zj (Zj (Zo (Za (Ya (rZ G (qR rr (qO rr qZ)) V [4] [103,102,101,0] fun G=>Yh ?_))))))
 obtain ⟨F,G⟩:=G.rename 102 1 Z rfl
 refine Z1 (h':=fun v=>ZfA (wwC p g) (rdC p g) v) hG G Z (.tmp Z .nil) (.one .one) rfl
def Zdn (x y:Int):Int:=if x<y then -1 else if y<x then 1 else 0
theorem Zet {x y:Int} : Zdn x y<0 ↔ x<y:=by unfold Zdn;split <;> (try split) <;> omega
theorem Zk5 {x y:Int} : Zdn x y=0 ↔ x=y:=by unfold Zdn;split <;> (try split) <;> omega
theorem Zwk {x:Int} (h:0≤x∧x≤18446744073709551615):IntKind.wrap .u64 x=x:=Zga ⟨by simp [IntKind.min,IntKind.signed,IntKind.bits];omega,by simp [IntKind.max,IntKind.signed,IntKind.bits];omega⟩
theorem Zie {i j:Nat} (h:i+j≤2000000):IntKind.wrap .i64 ((IntKind.wrap .u64 (IntKind.wrap .i64 ((i:Int)+(j:Int)))).fdiv (2 ^ min (1:Int).toNat (IntKind.bits .u64)))=(((i+j) / 2:Nat):Int):=by
 rw [ZA (x:=(i:Int)+(j:Int)) ow,Zwk ow,show (2:Int) ^ min (1:Int).toNat (IntKind.bits .u64)=2 by decide,YaU _ (by decide),ZA ow]
 omega
def ZcK {α:Type} [Inhabited α] (κ:α→Int) (l:List α):Prop:=∀ a b,a<b→b<l.length→κ (Nn l a)<κ (Nn l b)
def lowK {α:Type} (κ:α→Int) (k:Int) (l:List α):Nat:=(l.takeWhile fun x=>decide (κ x<k)).length
def isK {α:Type} (κ:α→Int) (k:Int) (l:List α):Bool:=l.any fun x=>decide (κ x=k)
theorem ZdC {α:Type} [Inhabited α] {κ:α→Int} {k:Int} : ∀ {l:List α} {i:Nat},i≤l.length→(∀ q,q<i→κ (Nn l q)<k)→(∀ q,i≤q→q<l.length→k≤κ (Nn l q))→lowK κ k l=i
 | [],i,hi,_,_=>by simp at hi;subst hi;rfl
 | x :: l,0,_,_,h2=>by
  have:=h2 0 (YM _) (by simp)
  rw [nth_eq (by simp)] at this
  unfold lowK
  rw [List.takeWhile_cons_of_neg (by simpa using this)];rfl
 | x :: l,i+1,hi,h1,h2=>by
  have hx:=h1 0 ow
  rw [nth_eq (by simp)] at hx
  have ih:=ZdC (κ:=κ) (k:=k) (l:=l) (i:=i) (by simpa using hi) (fun q hq=>by
   have:=h1 (q+1) ow
   rw [nth_eq (by simp at hi ⊢;omega)] at this
   rw [nth_eq (by simp at hi;omega)];simpa using this) (fun q hq hq2=>by
   have:=h2 (q+1) ow (by simp;omega)
   rw [nth_eq (by simp;omega)] at this
   rw [nth_eq hq2];simpa using this)
  unfold lowK at ih ⊢
  rw [Ybr (by simpa using hx),Yl,ih]
theorem Zpz {α:Type} [Inhabited α] {κ:α→Int} {k:Int} {l:List α} {i:Nat} (hi:i≤l.length) (hs:ZcK κ l) (h1:∀ q,q<i→κ (Nn l q)<k) (h2:∀ q,i≤q→q<l.length→k≤κ (Nn l q)):isK κ k l=true ↔ i<l.length∧κ (Nn l i)=k:=by
 unfold isK
 rw [YaD]
 constructor
 ·rintro ⟨x,hx,hk⟩
  obtain ⟨q,hq,e⟩:=Yae hx
  have hk':κ (Nn l q)=k:=by rw [nth_eq hq,e];simpa using hk
  have hiq:i≤q:=Nat.le_of_not_lt fun h=>by have:=h1 q h;omega
  rcases YX hiq with h | h
  ·have a1:=hs i q h hq
   have a2:=h2 i (YM _) ow
   omega
  ·subst h;exact ⟨hq,hk'⟩
 ·rintro ⟨h3,h4⟩
  exact ⟨_,nth_mem h3,by simpa using h4⟩
theorem ZbF {α:Type} [Inhabited α] {κ:α→Int} {l:List α} (hs:ZcK κ l) {a b:Nat} (h:a≤b) (hb:b<l.length):κ (Nn l a)≤κ (Nn l b):=by
 rcases YX h with h | h
 ·exact Yb9 (hs a b h hb)
 ·subst h;exact Yap _
theorem ZlV (x:Int):FnP prog 151 [.int .i64 x] (.bool false):=by
 refine FnP.mk func151 Z ntmps151 Z fun B a w F V hfr G=>Ya ?_
 refine rZ G qB V [2,0] [0] fun G=>Ya ?_
 refine rZ G (qR rr (qR rr (qf (o_neq .t .t) r2 qz (qO rr qZ)))) V [2] [0] fun G=>Yh ?_
 refine Zs hfr G Z Z Z (.bool (by simp))
theorem Zjz (x y:Int):FnP prog 110 [.int .i64 x,.int .i64 y] (.int .i64 (Zdn x y)):=by
 refine FnP.mk func110 Z ntmps110 Z fun B a w F V hfr G=>Ya ?_
 refine rZ G (qI qZ) V [4,1,0] [0] fun G=>Ya ?_
 refine rZ G (qR rr (qf (oP (ZlV x) func151 (Args.one .t)) r1 qz (qO rr qZ))) V [5,4,1,0] [0] fun G=>Ya ?_
 refine rZ G (qR rr (qf (oP (ZlV y) func151 (Args.one .t)) r1 qz (qO rr qZ))) V [6,5,4,1,0] [0] fun G=>(Ya (Ya ?_))
 refine rZ G (qR rr qZ) V [11,6,4,1,0] [0] fun G=>?_
 refine Zc G Z (fun hc0=>?_) (fun hc0=>?_)
 ·simp at hc0
 refine Ye (Za (Ya (Ya (rZ G (qR rr qZ) V [13,4,1,0] [0] fun G=>?_))))
 refine Zc G Z (fun hc1=>?_) (fun hc1=>?_)
 ·simp at hc1
 refine Ye (Za (Ya (Ya (rZ G (qR rr (qR rr (qL r2))) V [16,4,1,0] [0] fun G=>?_))))
 refine Zc G Z (fun hc2=>?_) (fun hc2=>?_)
 ·have hg:(-1:Int)=Zdn x y:=by unfold Zdn;rw [Yf (by simpa using hc2)]
  refine Ya (rZ G (qI qZ) V [4,1,0] [0] fun G=>(Yh (Zl ?_)))
  refine Zs hfr G Z Z Z (.int hg)
 have h1:¬ x<y:=by simpa using hc2
 refine Ye (Za (Ya (Ya (rZ G (qR rr (qR rr (qf (ZaR .t .t) r2 qz qZ))) V [19,4] [0] fun G=>?_))))
 refine Zc G Z (fun hc3=>?_) (fun hc3=>?_)
 ·have hg:(1:Int)=Zdn x y:=by unfold Zdn;rw [Yc h1,Yf (by simpa using hc3)]
  refine Ya (rZ G (qI qZ) V [4] [0] fun G=>(Yh (Zl ?_)))
  refine Zs hfr G Z Z Z (.int hg)
 have hg:(0:Int)=Zdn x y:=by unfold Zdn;rw [Yc h1,Yc (by simpa using hc3)]
 refine Ye (Za (Ya (rZ G (qI qZ) V [4] [0] fun G=>Yh ?_)))
 refine Zs hfr G Z Z Z (.int hg)
theorem Zsy (x:TxD) (k:Int):FnP prog 109 [.agg (rTx x),.int .i64 k] (.int .i64 (Zdn x.id k)):=by
 refine FnP.mk func109 Z ntmps109 Z fun B a w F V hfr G=>Ya ?_
 refine Zb G (qx 101 r1 (qI qZ)) V [4,2,1] [101,0] (fun _=>rfl) (fun _=>rfl) fun τ a w F G=>?_
 try dsimp only [RS.sub,SF.sub,CF.sub,csub,Anc.sub,List.map,zCF,rTx] at G
 generalize τ 2=v2 at G
 refine Za (Ya (rZ G (qg 0 101 r1 r1 (qa 101 r1 r1 (qR rr (qf (oP (Zjz x.id k) func110 (Args.two .t .t)) r2 qz (qO rr qZ))))) V [4] [0] fun G=>Yh ?_))
 refine Zs hfr G Z Z Z (.int Z)
theorem ZtT (x:OrdD) (k:Int):FnP prog 98 [.agg (ZH x),.int .i64 k] (.int .i64 (Zdn x.key k)):=by
 refine FnP.mk func98 Z ntmps98 Z fun B a w F V hfr G=>Ya ?_
 refine Zb G (qx 101 r1 (qI qZ)) V [4,2,1] [101,0] (fun _=>rfl) (fun _=>rfl) fun τ a w F G=>?_
 try dsimp only [RS.sub,SF.sub,CF.sub,csub,Anc.sub,List.map,zCF,ZH] at G
 generalize τ 2=v2 at G
 refine Za (Ya (rZ G (qg 0 101 r1 r1 (qa 101 r1 r1 (qR rr (qf (oP (Zjz x.key k) func110 (Args.two .t .t)) r2 qz (qO rr qZ))))) V [4] [0] fun G=>Yh ?_))
 refine Zs hfr G Z Z Z (.int Z)
theorem Zwj (l : List TxD) (k : Int) (hll : l.length ≤ 1000000) (hs : ZcK TxD.id l) (f : FuncId) (fn : Func) (cps : List PV) (hf : prog.funcs[f]? = some fn) (hb : fn.body.isSome = true) (hnn : (fn.name == "runtime.NumGoroutine") = false) (hw : ∀ x : TxD, FnP prog f (.agg (rTx x) :: .int .i64 k :: cps) (.int .i64 (Zdn (TxD.id x) k))) : FnP prog 108 [.sl rTx l, .int .i64 k, .clos f cps] (.tup [.int .i64 (lowK TxD.id k l), .bool (isK TxD.id k l)]) := by
 refine FnP.mk func108 Z ntmps108 Z fun B a w F V hfr G=>Ya ?_
 refine rZ G (qI qB) V [7,6,2,1,0] [0] fun G=>Ya ?_
 refine rZ G (qR rr (qu Yci r1 (qO rr qZ))) V [8,7,6,2,1,0] [0] fun G=>Ya ?_
 refine rZ G (qR rr (qI (qO rr qZ))) V [10,9,8,7,6,2,1,0] [0] fun G=>(Ya (Yg ?_))
 refine Zk (σ:=Nat×Nat) [0,1,2,6,7,8] [0] (fun s=>[(9,.pv (.int .i64 (s.1:Int))),(10,.pv (.int .i64 (s.2:Int)))]) (fun s=>[]) (fun s=>s.1≤s.2∧s.2≤l.length∧(∀ q,q<s.1→TxD.id (Nn l q)<k) ∧ ∀ q,s.2≤q→q<l.length→k≤TxD.id (Nn l q)) (fun s=>s.2 - s.1) ((0),(l.length)) G ⟨rfl,rfl,rfl,rfl,rfl,rfl,rfl,rfl,tv⟩ ⟨rfl,tv⟩ ⟨Yw _,YM _,fun q hq=>absurd hq (Y3 q),fun q h1 h2=>by omega⟩ ?_
 clear G;intro s a w F hC G
 obtain ⟨i,j⟩:=s
 try dsimp only at hC
 obtain ⟨F,G⟩:=G.nM [10,9,8,7,6,2,1,0] [0]
 try dsimp only at G
 obtain ⟨hij,hjl,hlo,hhi⟩:=hC
 have hgs:=Zpz (i:=i) ow hs hlo
 have hgl:=ZdC (i:=i) ow hlo
 refine Ya (Ya (rZ G (qR rr (qR rr (qL r2))) V [17,10,9,8,7,6,2,1,0] [0] fun G=>?_))
 refine Zc G Z (fun hc0=>?_) (fun hc0=>?_)
 ·skip
  have hlt:i<j:=by simp at hc0;omega
  refine Ye (Za (Yg (Ya (Ze G (qR rr (qR rr (qf (o_add .t .t) r2 qz (qf (o_conv Ycm kr .t) r1 qz (qf (Zco .t qi (by decide)) r1 qz (qf (o_conv Ycn kr .t) r1 qz (qO rr qZ))))))) V [11,10,9,8,7,6,2,1,0] [0] Z Z fun a w F G=>?_))))
  obtain ⟨m,hm⟩:∃ m:Nat,m=(i+j) / 2:=⟨_,rfl⟩
  replace G:=G.ent (i:=11) (s':=.pv (.int .i64 (m:Int))) Z (.int (by rw [hm];exact Zie ow))
  obtain ⟨F,G⟩:=G.nM [11,10,9,8,7,6,2,1,0] [0]
  refine Za (Ya (Ze G (qR rr (qR rr (qR rr (qy 3 Yci r2 (qf (oR true 3 .t) r1 qz (qR rr (qf (ZN (avs:=[.agg (rTx (Nn l m)),.int .i64 k]) .t (hw (Nn l m)) hf hb hnn (Args.two (.pagg .t) .t)) r3 qz (qf (ZaA .t qi) r1 qz qZ)))))))) V [31,11,10,9,8,7,6,2,1,0] [0] Z Z fun a w F G=>?_))
  try simp only [Yb] at G
  refine Za (Zc G Z (fun hc1=>?_) (fun hc1=>?_))
  ·skip
   have hmk:TxD.id (Nn l m)<k:=Zet.1 (by simpa using hc1)
   obtain ⟨i2,hi2e⟩:∃ z,z=m+1:=⟨_,rfl⟩
   obtain ⟨j2,hj2e⟩:∃ z,z=j:=⟨_,rfl⟩
   have hi2:IntKind.wrap .i64 ((m:Int)+1)=(i2:Int):=by rw [hi2e];exact Zd ow
   have hj2:(j:Int)=(j2:Int):=by rw [hj2e]
   have hmu:j2 - i2<j - i:=by omega
   have hC2:i2≤j2∧j2≤l.length∧(∀ q,q<i2→TxD.id (Nn l q)<k) ∧ ∀ q,j2≤q→q<l.length→k≤TxD.id (Nn l q):=⟨by omega,by omega,fun q hq=>Int.lt_of_le_of_lt (ZbF hs ow ow) hmk,by rw [hj2e];exact hhi⟩
   refine Ze G (qR rr (qp r1 (qO rr qZ))) V [10,9,8,7,6,2,1,0] [0] Z Z fun a w F G=>Zi (Za ?_)
   replace G:=G.ent (i:=9) (s':=.pv (.int .i64 (i2:Int))) Z (.int hi2)
   replace G:=G.ent (i:=10) (s':=.pv (.int .i64 (j2:Int))) Z (.int hj2)
   obtain ⟨F,G⟩:=G.nM [8,7,6,2,1,0,10,9] [0]
   exact ⟨((i2),(j2)),F,hC2,G,hmu⟩
  have hmk:k≤TxD.id (Nn l m):=Int.not_lt.1 fun e=>(show ¬ Zdn (TxD.id (Nn l m)) k<0 by simpa using hc1) (Zet.2 e)
  obtain ⟨i2,hi2e⟩:∃ z,z=i:=⟨_,rfl⟩
  obtain ⟨j2,hj2e⟩:∃ z,z=m:=⟨_,rfl⟩
  have hi2:(i:Int)=(i2:Int):=by rw [hi2e]
  have hj2:(m:Int)=(j2:Int):=by rw [hj2e]
  have hmu:j2 - i2<j - i:=by omega
  have hC2:i2≤j2∧j2≤l.length∧(∀ q,q<i2→TxD.id (Nn l q)<k) ∧ ∀ q,j2≤q→q<l.length→k≤TxD.id (Nn l q):=⟨by omega,by omega,by rw [hi2e];exact hlo,fun q h1 h2=>YbR hmk (ZbF hs ow h2)⟩
  refine Ze G (qR rr (qO rr qZ)) V [10,9,8,7,6,2,1,0] [0] Z Z fun a w F G=>Zi (Za ?_)
  replace G:=G.ent (i:=9) (s':=.pv (.int .i64 (i2:Int))) Z (.int hi2)
  replace G:=G.ent (i:=10) (s':=.pv (.int .i64 (j2:Int))) Z (.int hj2)
  obtain ⟨F,G⟩:=G.nM [8,7,6,2,1,0,10,9] [0]
  exact ⟨((i2),(j2)),F,hC2,G,hmu⟩
 have hjj:i=j:=by simp at hc0;omega
 subst hjj
 have hgl2:=hgl hhi
 have hgs2:=hgs hhi
 have hb2:(decide ((i:Int)<(l.length:Int)) && decide (Zdn (TxD.id (Nn l i)) k=0))=isK TxD.id k l:=by
   rw [Yai,hgs2]
   simp [Zk5]
 refine Yx (Zj (Zj (Zo (Za (Ya (Ze G (qR rr (qR rr (qR rr (qf (ZaA .t .t) r2 qz (qR rr (qm Z Z Z Z (qm Z Z Z Z (qm Z Z Z Z (qk Z (fun h=>o_indexAddr_sl (sz:=3) (.mk Yci kr) (by intro x;rfl) (.w h) (.w h) ow (by have:=Yr h;omega)) r3 qz (qk Z (fun h=>oR true 3 (.w h)) r2 qz (qm Z Z Z Z (qk Z (fun h=>ZN (avs:=[.agg (rTx (Nn l i)),.int .i64 k]) (.w h) (hw (Nn l i)) hf hb hnn (Args.two (.pagg (.w h)) (.w h))) r4 qz (qk Z (fun h=>o_eql (.w h) qi) r2 qz (qf (ZE .t .t) r2 qz (qO rr (qO rr qZ)))))))))))))))) V [7,6] [0] Z Z fun a w F G=>?_))))))
 try simp only [Yb] at G
 refine Za (Yh (Zaa hfr G Z (.tmp Z (.tmp Z .nil)) (.two (.int (by rw [hgl2])) (.bool hb2))))
theorem Zwg (l : List OrdD) (k : Int) (hll : l.length ≤ 1000000) (hs : ZcK OrdD.key l) (f : FuncId) (fn : Func) (cps : List PV) (hf : prog.funcs[f]? = some fn) (hb : fn.body.isSome = true) (hnn : (fn.name == "runtime.NumGoroutine") = false) (hw : ∀ x : OrdD, FnP prog f (.agg (ZH x) :: .int .i64 k :: cps) (.int .i64 (Zdn (OrdD.key x) k))) : FnP prog 97 [.sl ZH l, .int .i64 k, .clos f cps] (.tup [.int .i64 (lowK OrdD.key k l), .bool (isK OrdD.key k l)]) := by
 refine FnP.mk func97 Z ntmps97 Z fun B a w F V hfr G=>Ya ?_
 refine rZ G (qI qB) V [7,6,2,1,0] [0] fun G=>Ya ?_
 refine rZ G (qR rr (qu Ych r1 (qO rr qZ))) V [8,7,6,2,1,0] [0] fun G=>Ya ?_
 refine rZ G (qR rr (qI (qO rr qZ))) V [10,9,8,7,6,2,1,0] [0] fun G=>(Ya (Yg ?_))
 refine Zk (σ:=Nat×Nat) [0,1,2,6,7,8] [0] (fun s=>[(9,.pv (.int .i64 (s.1:Int))),(10,.pv (.int .i64 (s.2:Int)))]) (fun s=>[]) (fun s=>s.1≤s.2∧s.2≤l.length∧(∀ q,q<s.1→OrdD.key (Nn l q)<k) ∧ ∀ q,s.2≤q→q<l.length→k≤OrdD.key (Nn l q)) (fun s=>s.2 - s.1) ((0),(l.length)) G ⟨rfl,rfl,rfl,rfl,rfl,rfl,rfl,rfl,tv⟩ ⟨rfl,tv⟩ ⟨Yw _,YM _,fun q hq=>absurd hq (Y3 q),fun q h1 h2=>by omega⟩ ?_
 clear G;intro s a w F hC G
 obtain ⟨i,j⟩:=s
 try dsimp only at hC
 obtain ⟨F,G⟩:=G.nM [10,9,8,7,6,2,1,0] [0]
 try dsimp only at G
 obtain ⟨hij,hjl,hlo,hhi⟩:=hC
 have hgs:=Zpz (i:=i) ow hs hlo
 have hgl:=ZdC (i:=i) ow hlo
 refine Ya (Ya (rZ G (qR rr (qR rr (qL r2))) V [17,10,9,8,7,6,2,1,0] [0] fun G=>?_))
 refine Zc G Z (fun hc0=>?_) (fun hc0=>?_)
 ·skip
  have hlt:i<j:=by simp at hc0;omega
  refine Ye (Za (Yg (Ya (Ze G (qR rr (qR rr (qf (o_add .t .t) r2 qz (qf (o_conv Ycm kr .t) r1 qz (qf (Zco .t qi (by decide)) r1 qz (qf (o_conv Ycn kr .t) r1 qz (qO rr qZ))))))) V [11,10,9,8,7,6,2,1,0] [0] Z Z fun a w F G=>?_))))
  obtain ⟨m,hm⟩:∃ m:Nat,m=(i+j) / 2:=⟨_,rfl⟩
  replace G:=G.ent (i:=11) (s':=.pv (.int .i64 (m:Int))) Z (.int (by rw [hm];exact Zie ow))
  obtain ⟨F,G⟩:=G.nM [11,10,9,8,7,6,2,1,0] [0]
  refine Za (Ya (Ze G (qR rr (qR rr (qR rr (qy 2 Ych r2 (qf (oR true 2 .t) r1 qz (qR rr (qf (ZN (avs:=[.agg (ZH (Nn l m)),.int .i64 k]) .t (hw (Nn l m)) hf hb hnn (Args.two (.pagg .t) .t)) r3 qz (qf (ZaA .t qi) r1 qz qZ)))))))) V [31,11,10,9,8,7,6,2,1,0] [0] Z Z fun a w F G=>?_))
  try simp only [Yb] at G
  refine Za (Zc G Z (fun hc1=>?_) (fun hc1=>?_))
  ·skip
   have hmk:OrdD.key (Nn l m)<k:=Zet.1 (by simpa using hc1)
   obtain ⟨i2,hi2e⟩:∃ z,z=m+1:=⟨_,rfl⟩
   obtain ⟨j2,hj2e⟩:∃ z,z=j:=⟨_,rfl⟩
   have hi2:IntKind.wrap .i64 ((m:Int)+1)=(i2:Int):=by rw [hi2e];exact Zd ow
   have hj2:(j:Int)=(j2:Int):=by rw [hj2e]
   have hmu:j2 - i2<j - i:=by omega
   have hC2:i2≤j2∧j2≤l.length∧(∀ q,q<i2→OrdD.key (Nn l q)<k) ∧ ∀ q,j2≤q→q<l.length→k≤OrdD.key (Nn l q):=⟨by omega,by omega,fun q hq=>Int.lt_of_le_of_lt (ZbF hs ow ow) hmk,by rw [hj2e];exact hhi⟩
   refine Ze G (qR rr (qp r1 (qO rr qZ))) V [10,9,8,7,6,2,1,0] [0] Z Z fun a w F G=>Zi (Za ?_)
   replace G:=G.ent (i:=9) (s':=.pv (.int .i64 (i2:Int))) Z (.int hi2)
   replace G:=G.ent (i:=10) (s':=.pv (.int .i64 (j2:Int))) Z (.int hj2)
   obtain ⟨F,G⟩:=G.nM [8,7,6,2,1,0,10,9] [0]
   exact ⟨((i2),(j2)),F,hC2,G,hmu⟩
  have hmk:k≤OrdD.key (Nn l m):=Int.not_lt.1 fun e=>(show ¬ Zdn (OrdD.key (Nn l m)) k<0 by simpa using hc1) (Zet.2 e)
  obtain ⟨i2,hi2e⟩:∃ z,z=i:=⟨_,rfl⟩
  obtain ⟨j2,hj2e⟩:∃ z,z=m:=⟨_,rfl⟩
  have hi2:(i:Int)=(i2:Int):=by rw [hi2e]
  have hj2:(m:Int)=(j2:Int):=by rw [hj2e]
  have hmu:j2 - i2<j - i:=by omega
  have hC2:i2≤j2∧j2≤l.length∧(∀ q,q<i2→OrdD.key (Nn l q)<k) ∧ ∀ q,j2≤q→q<l.length→k≤OrdD.key (Nn l q):=⟨by omega,by omega,by rw [hi2e];exact hlo,fun q h1 h2=>YbR hmk (ZbF hs ow h2)⟩
  refine Ze G (qR rr (qO rr qZ)) V [10,9,8,7,6,2,1,0] [0] Z Z fun a w F G=>Zi (Za ?_)
  replace G:=G.ent (i:=9) (s':=.pv (.int .i64 (i2:Int))) Z (.int hi2)
  replace G:=G.ent (i:=10) (s':=.pv (.int .i64 (j2:Int))) Z (.int hj2)
  obtain ⟨F,G⟩:=G.nM [8,7,6,2,1,0,10,9] [0]
  exact ⟨((i2),(j2)),F,hC2,G,hmu⟩
 have hjj:i=j:=by simp at hc0;omega
 subst hjj
 have hgl2:=hgl hhi
 have hgs2:=hgs hhi
 have hb2:(decide ((i:Int)<(l.length:Int)) && decide (Zdn (OrdD.key (Nn l i)) k=0))=isK OrdD.key k l:=by
   rw [Yai,hgs2]
   simp [Zk5]
 refine Yx (Zj (Zj (Zo (Za (Ya (Ze G (qR rr (qR rr (qR rr (qf (ZaA .t .t) r2 qz (qR rr (qm Z Z Z Z (qm Z Z Z Z (qm Z Z Z Z (qk Z (fun h=>o_indexAddr_sl (sz:=2) (.mk Ych kr) (by intro x;rfl) (.w h) (.w h) ow (by have:=Yr h;omega)) r3 qz (qk Z (fun h=>oR true 2 (.w h)) r2 qz (qm Z Z Z Z (qk Z (fun h=>ZN (avs:=[.agg (ZH (Nn l i)),.int .i64 k]) (.w h) (hw (Nn l i)) hf hb hnn (Args.two (.pagg (.w h)) (.w h))) r4 qz (qk Z (fun h=>o_eql (.w h) qi) r2 qz (qf (ZE .t .t) r2 qz (qO rr (qO rr qZ)))))))))))))))) V [7,6] [0] Z Z fun a w F G=>?_))))))
 try simp only [Yb] at G
 refine Za (Yh (Zaa hfr G Z (.tmp Z (.tmp Z .nil)) (.two (.int (by rw [hgl2])) (.bool hb2))))
theorem Zuo (g:Zr) (id:Int) (hs:ZaX g.txs) (hr:ZcK TxD.id g.txs):FnP prog 64 [.agg (Zv g),.int .i64 id] (.tup [.int .i64 (lowK TxD.id id g.txs),.bool (isK TxD.id id g.txs)]):=by
 refine FnP.mk func64 Z ntmps64 Z fun B a w F V hfr G=>?_
 have hsl:=hs.1
 refine Ya (Zb G (qx 101 r1 (qI qB)) V [5,4,2,1] [101,0] (fun _=>rfl) (fun _=>rfl) fun τ a w F G=>?_)
 try dsimp only [RS.sub,SF.sub,CF.sub,csub,Anc.sub,List.map,zCF,Zv,rTx,ZH,ZU,Zn,rOp] at G
 generalize τ 2=v2 at G
 refine Za (Ya (rZ G (qg 0 101 r1 r1 (qa 101 r1 r1 (qR rr (qf (oP (Zwj g.txs id ow hr 109 f109 [] func109 Z kr (fun x=>Zsy x id)) func108 (Args.three .t .t (.conv .f (Ent.fnClos)))) r2 qz (qf (Zh .t Z) r1 qz (qf (Zh .t Z) r1 qz (qO rr (qO rr qZ)))))))) V [5,4] [101,0] fun G=>Yh ?_))
 refine Zaa hfr G Z (.tmp Z (.tmp Z .nil)) (.two .refl .refl)
def orZ:List Int→Int
 | []=>0
 | x :: l=>if x=0 then orZ l else x
theorem Zta:∀ {l:List Int} {i:Nat},i<l.length→(∀ q,q<i→Nn l q=0)→Nn l i≠0→orZ l=Nn l i
 | x :: l,0,h,_,hn=>by rw [nth_eq h] at hn ⊢;exact Yc hn
 | x :: l,i+1,h,hq,hn=>by
  have h':i<l.length:=by simpa using h
  have h0:=hq 0 ow
  rw [nth_eq (by simp)] at h0
  have e:Nn (x :: l) (i+1)=Nn l i:=by rw [nth_eq h,nth_eq h'];rfl
  rw [e] at hn ⊢
  rw [orZ,Yf (show x=0 from h0)]
  exact Zta h' (fun q hq2=>by
   have:=hq (q+1) ow
   rwa [nth_eq (by simp;omega),List.getElem_cons_succ,← nth_eq ow] at this) hn
theorem ZlD:∀ {l:List Int},(∀ q,q<l.length→Nn l q=0)→orZ l=0
 | [],_=>rfl
 | x :: l,hq=>by
  have h0:=hq 0 (by simp)
  rw [nth_eq (by simp)] at h0
  rw [orZ,Yf (show x=0 from h0)]
  exact ZlD fun q hq2=>by
   have:=hq (q+1) (by simp;omega)
   rwa [nth_eq (by simp;omega),List.getElem_cons_succ,← nth_eq hq2] at this
def okE (e:Z7):Prop:=(0≤e.label∧e.label≤1048575)∧0≤e.node∧e.node≤4095
def Za0 (e:Z7):Int:=(e.kind*1048576+e.label)*4096+e.node
theorem ZrS {a b:Z7} (ha:okE a) (hb:okE b):orZ [Zdn a.kind b.kind,Zdn a.label b.label,Zdn a.node b.node] = Zdn (Za0 a) (Za0 b):=by
 obtain ⟨⟨a1,a2⟩,a3,a4⟩:=ha
 obtain ⟨⟨b1,b2⟩,b3,b4⟩:=hb
 unfold orZ orZ orZ orZ Za0 Zdn
 repeat' split
 all_goals omega
theorem keyE_inj {a b:Z7} (ha:okE a) (hb:okE b) (h:Za0 a=Za0 b):a=b:=by
 obtain ⟨⟨a1,a2⟩,a3,a4⟩:=ha
 obtain ⟨⟨b1,b2⟩,b3,b4⟩:=hb
 unfold Za0 at h
 cases a;cases b
 simp only at *
 congr 1 <;> omega
theorem Zwd (l:List Int):FnP prog 218 [.sl Zn l] (.int .i64 (orZ l)):=by
 refine FnP.mk func218 Z ntmps218 Z fun B a w F V hfr G=>?_
 have hxl:=Sat.lenSl G (i:=0) rfl
 refine Ya (rZ G (qI qZ) V [2,0] [0] fun G=>Ya ?_)
 refine rZ G (qI qZ) V [3,2,0] [0] fun G=>(Ya (Ya ?_))
 refine rZ G (qR rr (qu Ycf r1 (qJ qZ))) V [8,7,6,3,2] [0] fun G=>Yg ?_
 refine Zk (σ:=(Nat)) [2,3,6,7] [0] (fun s=>[(8,.pv (.int .i64 (s:Int)))]) (fun s=>[]) (fun s=>s≤l.length∧(∀ q,q<s→Nn l q=0)) (fun s=>l.length - s) (0) G ⟨rfl,rfl,rfl,rfl,rfl,tv⟩ ⟨rfl,tv⟩ ⟨Yw _,fun q hq=>absurd hq (Y3 q)⟩ ?_
 clear G;intro i a w F hC G
 try dsimp only at hC
 obtain ⟨F,G⟩:=G.nM [8,7,6,3,2] [0]
 try dsimp only at G
 obtain ⟨hi,hq⟩:=hC
 refine Ya (rZ G (qL r2) V [9,8,7,6,3,2] [0] fun G=>Ya ?_)
 refine Zc G Z (fun hc0=>?_) (fun hc0=>?_)
 ·have hil:i<l.length:=by simp at hc0;omega
  refine Ye (Za (Ya (Yg (Ya (Ze G (qy 1 Ycf r2 (qf (oR false 1 .t) r1 qz (qO rr qZ))) V [8,7,6,5,3,2] [0] Z Z fun a w F G=>?_)))))
  try simp only [Yb] at G
  refine Za (Ya (rZ G (qR rr (qR rr (qf (o_neq .t .t) r2 qz qZ))) V [14,8,7,6,5,3,2] [0] fun G=>?_))
  refine Zc G Z (fun hc1=>?_) (fun hc1=>?_)
  ·have hg:Nn l i=orZ l:=(Zta ow hq (by simpa using hc1)).symm
   refine Ya (rZ G (qR rr (qO rr qZ)) V [8,7,6,3,2] [0] fun G=>(Yh (Zz (Zl (Zl (Zz (Zl ?_)))))))
   refine Zs hfr G Z Z Z (.int hg)
  have hne:Nn l i=0:=by simpa using hc1
  refine Ye (Zi (Za (rZ G (qp r1 (qR rr qZ)) V [8,7,6,3,2] [0] fun G=>?_)))
  replace G:=G.ent (i:=8) (s':=.pv (.int .i64 ((i+1:Nat):Int))) Z (.int (Zd ow))
  obtain ⟨F,G⟩:=G.nM [7,6,3,2,8] [0]
  exact ⟨(i+1),F,⟨by omega,(fun q h9=>by rcases YX (Y6 h9) with h8 | h8;exact hq q h8;rw [h8];exact hne)⟩,G,by omega⟩
 have hil:i=l.length:=by simp at hc0;omega
 have hg:(0:Int)=orZ l:=(ZlD fun q h9=>hq q ow).symm
 refine Yx (Zj (Zj (Zo (Za (Ya (rZ G (qR rr (qO rr qZ)) V [2] [0] fun G=>Yh ?_))))))
 refine Zs hfr G Z Z Z (.int hg)
theorem Ztm (x y:Z7) (hx:okE x) (hy:okE y):FnP prog 196 [.agg (Zav x),.agg (Zav y)] (.int .i64 (Zdn (Za0 x) (Za0 y))):=by
 refine FnP.mk func196 Z ntmps196 Z fun B a w F V hfr G=>Ya ?_
 refine Zb G (qx 101 r1 (qx 102 r1 (qI qZ))) V [4,3,2] [102,101,0] (fun _=>rfl) (fun _=>rfl) fun τ a w F G=>?_
 try dsimp only [RS.sub,SF.sub,CF.sub,csub,Anc.sub,List.map,zCF,Zav,Zau,Zn,Zam] at G
 generalize τ 2=v2,τ 3=v3 at G
 refine Za (Ya (Zw G (qg 0 101 r1 r1 (qa 101 r1 r1 (qg 0 102 r1 r1 (qa 102 r1 r1 (qf (oP (Zjz x.kind y.kind) func110 (Args.two .t .t)) r2 qz (qg 1 101 r1 r1 (qa 101 r1 r1 (qg 1 102 r1 r1 (qa 102 r1 r1 (qf (oP (Zjz x.label y.label) func110 (Args.two .t .t)) r2 qz (qg 2 101 r1 r1 (qa 101 r1 r1 (qg 2 102 r1 r1 (qa 102 r1 r1 (qf (oP (Zjz x.node y.node) func110 (Args.two .t .t)) r2 qz (qf (o_buildSliceE (sz:=1) (zs:=[.int .i64 0]) (r:=[(0,.tmp 9),(1,.tmp 14),(2,.tmp 19)]) (l:=[_,_,_]) Ycf kr kr kr kr Z Z (.one Z .t one_int kr (.one Z .t one_int kr (.one Z .t one_int kr .nil))) Z) r3 qz (qf (oP (Zwd [Zdn x.kind y.kind,Zdn x.label y.label,Zdn x.node y.node]) func218 (Args.one (.conv .t (Ent.arrSl (R:=Zn) (l:=[Zdn x.kind y.kind,Zdn x.label y.label,Zdn x.node y.node]) Z)))) r1 qz (qO rr qZ)))))))))))))))))) V [4] [0] Z Z fun a w F G=>?_))
 try dsimp only [List.map,Zf,xL,xM,Nat.reduceAdd,xD,xE,xT,xU,xC,xN,zCF,ldSF,Zav,Zau,Zn,Zam] at G
 refine Za (Yh (Zs hfr G Z Z Z (.int (ZrS hx hy))))
theorem Zne {α:Type} {R:α→List PV} {zs:List Value} {sz:Nat} {v:α} (hz:zs.length=sz) (h0:0<sz) (hp:∀ w yy,PVs (R v) zs w yy) (n:Nat):∀ u ∈ (madeCells zs.toArray (n*sz)).toList,u.oneCell' = true:=
 (Zd6 (R:=R) (v:=v) hz h0 (hp (default:World) (fun _=>False)) n).one
theorem ZpE {α:Type} {l:List α} {i:Nat} {x:α} (h:i=l.length):l.take i ++ [x] ++ l.drop i=l ++ [x]:=by rw [h];simp
theorem Zlx {α:Type} {l l2 l3:List α} {i:Nat} {x z:α} (hi:i<l.length) (h2:l2=l.take i++List.replicate (l.length+1 - i) z) (h3:l3=l2.take i ++ [x] ++ l2.drop (i + [x].length)) :
  l.take i ++ [x] ++ l.drop i=l3.take (i+1)++l.drop i++l3.drop (i+1+(l.drop i).length):=by
 have e1:l2.take i=l.take i:=by
  rw [h2,YT (by rw [Yi];omega),YaL,Yb2]
 have e0:l2.length=l.length+1:=by rw [h2,Yd,Yi,Y0];omega
 have e2:l3.take (i+1)=l.take i ++ [x]:=by
  rw [h3,e1,YT (by rw [Yd,Yi];simp;omega),Yad (by rw [Yd,Yi];simp;omega)]
 have e3:l3.length=l.length+1:=by
  rw [h3,e1,Yd,Yd,Yi,YE,e0];simp;omega
 have e4:l3.drop (i+1+(l.drop i).length) = []:=List.drop_eq_nil_of_le (by rw [e3,YE];omega)
 rw [e2,e4,YS]
theorem Zjq {α:Type} {l l4:List α} {i:Nat} {x:α} (hi:i<l.length) (h4:l4=l.take (i+1)++l.drop i):l.take i ++ [x] ++ l.drop i=l4.take i ++ [x] ++ l4.drop (i + [x].length):=by
 have e1:l4.take i=l.take i:=by
  rw [h4,YT (by rw [Yi];omega),YaL,YaX ow]
 have e2:l4.drop (i + [x].length)=l.drop i:=by
  rw [h4,show i + [x].length=i+1 from rfl,List.drop_append_of_le_length (by rw [Yi];omega),List.drop_eq_nil_of_le (by rw [Yi];omega),Yav]
 rw [e1,e2]
theorem ZvQ (v:Value) (l:List OrdD) (i:Nat) (x:OrdD) (hll:l.length≤1000000) (hi:i≤l.length):FnG prog 103 1 [.is v,.int .i64 i,.sl ZH [x]] [Zx 70 2 ZH l v] (PV.one) (fun v=>[Zx 70 2 ZH (l.take i ++ [x] ++ l.drop i) v]):=by
 refine FnG.mk func103 Z ntmps103 Z kr fun B F0 a w F V hG G=>?_
 replace G:=G.turn 1 Z (r':=.ob (.val v) (Zx 70 2 ZH l)) (fun _ _ _ _ h=>h)
 refine Ya (rZ G (qC qZ) V [6,2,1,0] [1,0] fun G=>Ya ?_)
 refine rZ G (qR rr (qR rr (qf (ZiD (sz:=2) 1 (.mk Ych kr) .is .t ow ow) r2 r1 qZ))) V [6,2,1,0] [1,0] fun G=>Ya ?_
 refine Ze G (qR rr (qu Ych r1 (qO rr qZ))) V [7,6,2,1,0] [1,0] Z Z fun a w F G=>?_
 replace G:=G.ent (i:=7) (s':=.pv (.int .i64 1)) Z (.int Z)
 obtain ⟨F,G⟩:=G.nM [7,6,2,1,0] [1,0]
 refine Za (Ya (Ya (rZ G (qR rr (qf (o_eql .t qi) r1 qz qZ)) V [16,7,6,2,1,0] [1,0] fun G=>?_)))
 refine Zc G Z (fun hc0=>?_) (fun hc0=>?_)
 ·simp at hc0
 refine Ye (Za (Ya (rZ G (qR rr (qf (ZQ 1 Ych .is) r1 r1 (qO rr qZ))) V [8,7,6,2,1,0] [1,0] fun G=>(Ya (Ya ?_)))))
 refine rZ G (qR rr (qR rr (qf (o_eql .t .t) r2 qz qZ))) V [22,8,7,6,2,1,0] [1,0] fun G=>?_
 refine Zc G Z (fun hc1=>?_) (fun hc1=>?_)
 ·have hg:=ZpE (x:=x) (by have h9:=hc1;simp at h9;omega:i=l.length)
  refine Ya (Zb G (qR rr (qR rr (qf (ZV (sz:=2) (bs:=32) 1 (.mk' Ych kr kr) (by intro x;rfl) .is (.sl .t) (by simp only [Yl,Yy];omega) (by decide)) ⟨rfl,rfl,tv⟩ ⟨rfl,tv⟩ (qO rr qZ)))) V [8,7,6,2,1,0] [1,0] (fun _=>rfl) (fun _=>rfl) fun τ a w F G=>?_)
  try dsimp only [RS.sub,SF.sub,CF.sub,csub,Anc.sub,List.map,xC,xN,ZH] at G
  generalize τ 25=v25 at G
  refine Za (Yh (Zl ?_))
  have G:=G.turn 1 Z (r':=RS.hp (Zx 70 2 ZH (l.take i ++ [x] ++ l.drop i) v25)) (fun _ _ _ _ h=>by rw [hg];exact h)
  refine Z1 (h':=fun v=>Zx 70 2 ZH (l.take i ++ [x] ++ l.drop i) v) hG G Z (.tmp Z .nil) (.one .one) rfl
 have hil:i<l.length:=by simp at hc1;omega
 have hw1:IntKind.wrap .i64 ((i:Int)+1)=((i+1:Nat):Int):=Zd ow
 have hwn:IntKind.wrap .i64 ((l.length:Int)+1)=((l.length+1:Nat):Int):=Zd ow
 refine Ye (Za (Ya (Ya (rZ G (qR rr (qR rr (qf (o_add .t .t) r2 qz (qR rr (qf (Zjc 1 Ych .is) r1 r1 (qf (ZaR .t .t) r2 qz qZ)))))) V [31,8,7,6,2,1,0] [1,0] fun G=>?_))))
 refine Zc G Z (fun hc2=>?_) (fun hc2=>?_)
 ·have hcap:capV v<l.length+1:=by rw [hwn] at hc2;simp at hc2;omega
  have hw:IntKind.wrap .i64 (IntKind.wrap .i64 ((l.length:Int)+1) - (i:Int))=((l.length+1 - i:Nat):Int):=by rw [hwn,ZA ow];omega
  refine Ya (Zb G (qR rr (qR rr (qf (Zdh (sz:=2) 1 (.mk Ych kr) .is .t ow ow) r2 r1 (qR rr (qR rr (qf (o_add .t .t) r2 qz (qR rr (qf (o_sub .t .t) r2 qz (qf (Zdy (R:=ZH) (z:=(⟨0,[]⟩:OrdD)) (bs:=32) (sz:=2) (zs:=[.int .i64 0,.slice none 0 0]) 1 101 Ych Ycn kr kr kr (by intro x;rfl) (fun _ _=>⟨⟨rfl,rfl,ZcV⟩,⟨rfl,Zjj⟩,tv⟩) .t .t ow (by rw [hw];omega) (by rw [hw];omega) (by rw [hw];omega) (by rw [hw];omega)) ⟨rfl,rfl,tv⟩ ⟨rfl,tv⟩ (qO rr qZ)))))))))) V [9,8,7,6,2,1,0] [101,1,0] (fun _=>rfl) (fun _=>rfl) fun τ a w F G=>?_)
  try dsimp only [RS.sub,SF.sub,CF.sub,csub,Anc.sub,List.map,xC,xN,ZH] at G
  generalize τ 40=v40 at G
  rw [hw] at G
  simp only [Yb] at G
  obtain ⟨l2,hl2⟩:∃ y,y=l.take i++List.replicate (l.length+1 - i) (⟨0,[]⟩:OrdD):=⟨_,rfl⟩
  rw [← hl2] at G
  have hl2n:l2.length=l.length+1:=by rw [hl2,Yd,Yi,Y0];omega
  obtain ⟨F,G⟩:=G.give 1 0 Z rfl
  obtain ⟨F,G⟩:=G.nM [9,8,7,6,2,1,0] [101,0]
  refine Za (Ya (Ze G (qR rr (qR rr (qf (Zai (sz:=2) 101 (.mk Ych kr) .is .t ow ow) r2 r1 (qR rr (qf (o_copy_sub 101 Ych kr (by intro x;rfl) .t .t (by simp) (by simp;omega)) r2 r1 qZ))))) V [9,8,7,6,2,1,0] [101,0] Z Z fun a w F G=>?_))
  simp only [Yb] at G
  obtain ⟨l3,hl3⟩:∃ y,y=l2.take i ++ [x] ++ l2.drop (i + [x].length):=⟨_,rfl⟩
  rw [← hl3] at G
  have hl3n:l3.length=l.length+1:=by rw [hl3,Yd,Yd,Yi,YE,hl2n];simp;omega
  refine Za (Ya (Zw G (qR rr (qR rr (qR rr (qf (o_add .t .t) r2 qz (qf (Zai (sz:=2) 101 (.mk Ych kr) .is .t (by rw [hw1];omega) (by rw [hw1];omega)) r2 r1 (qR rr (qR rr (qf (o_slice_lo (sz:=2) (.mk Ych kr) (by intro x;rfl) .t .t ow ow) r2 qz (qf (o_copy_sub 101 Ych kr (by intro x;rfl) .t .t (by intro h9;have:=Y8 List.length h9;simp at this;omega) (by rw [hw1,YE];omega)) r2 r1 qZ))))))))) V [9,8,7,6,2,1,0] [101,0] Z Z fun a w F G=>?_))
  try dsimp only [ZH] at G
  rw [hw1] at G
  simp only [Yb] at G
  have hg:=Zlx (x:=x) hil hl2 hl3
  refine Za (Ya (rZ G (qR rr (qO rr qZ)) V [8,7,6,2,1,0] [101,0] fun G=>(Yh (Zl ?_))))
  obtain ⟨F,G⟩:=G.rename 101 1 Z rfl
  have G:=G.turn 1 Z (r':=RS.hp (Zx 70 2 ZH (l.take i ++ [x] ++ l.drop i) v40)) (fun _ _ _ _ h=>by rw [hg];exact h)
  refine Z1 (h':=fun v=>Zx 70 2 ZH (l.take i ++ [x] ++ l.drop i) v) hG G Z (.tmp Z .nil) (.one .one) rfl
 have hcap:l.length+1≤capV v:=by rw [hwn] at hc2;simp at hc2;omega
 refine Ye (Za (Ya (Zb G (qR rr (qR rr (qR rr (qf (o_add .t .t) r2 qz (qf (Zhe (sz:=2) 1 (.mk Ych kr) .is .t (by rw [hwn];omega) ow) r2 r1 (qO rr qZ)))))) V [8,7,6,2,1,0] [1,0] (fun _=>rfl) (fun _=>rfl) fun τ a w F G=>?_)))
 try dsimp only [RS.sub,SF.sub,CF.sub,csub,Anc.sub,List.map,ZH] at G
 generalize τ 60=v60 at G
 refine Za (Ya (Ya (rZ G (qR rr (qR rr (qR rr (qR rr (qf (o_add .t .t) r2 qz (qf (ZbB (sz:=2) 1 (.mk Ych kr) .is .t (by rw [hw1];omega) (by rw [hw1];omega)) r2 r1 (qf (Zg1 1 func146 kr kr kr Z Ych kr (by intro x;rfl) .t .t (by rw [hw1];omega)) r2 r1 (qf (o_not .t) r1 qz qZ)))))))) V [68,8,7,6,2,1,0] [1,0] fun G=>?_)))
 refine Zc G Z (fun hc3=>?_) (fun hc3=>?_)
 ·refine Ya (Zw G (qR rr (qR rr (qR rr (qf (o_add .t .t) r2 qz (qf (ZbB (sz:=2) 1 (.mk Ych kr) .is .t (by rw [hw1];omega) (by rw [hw1];omega)) r2 r1 (qR rr (qR rr (qf (ZbB (sz:=2) 1 (.mk Ych kr) .is .t ow ow) r2 r1 (qf (ZeW (k:=i) 1 Ych kr (by intro x;rfl) .t .t (by rw [hw1];rfl) Z ow) r2 r1 qZ))))))))) V [8,7,6,2,1,0] [1,0] Z Z fun a w F G=>?_)
  try dsimp only [ZH] at G
  obtain ⟨l4,hl4⟩:∃ y,y=l.take (i+1)++l.drop i:=⟨_,rfl⟩
  rw [← hl4] at G
  have hl4n:l4.length=l.length+1:=by rw [hl4,Yd,Yi,YE];omega
  refine Za (Ya (Ze G (qR rr (qR rr (qf (Zai (sz:=2) 1 (.mk Ych kr) .is .t ow ow) r2 r1 (qR rr (qf (o_copy_sub 1 Ych kr (by intro x;rfl) .t .t (by simp) (by simp;omega)) r2 r1 qZ))))) V [8,7,6,2,1,0] [1,0] Z Z fun a w F G=>?_))
  simp only [Yb] at G
  have hg:=Zjq (x:=x) hil hl4
  refine Za (Ya (rZ G (qR rr (qO rr qZ)) V [8,7,6,2,1,0] [1,0] fun G=>(Yh (Zl ?_))))
  have G:=G.turn 1 Z (r':=RS.hp (Zx 70 2 ZH (l.take i ++ [x] ++ l.drop i) v60)) (fun _ _ _ _ h=>by rw [hg];exact h)
  refine Z1 (h':=fun v=>Zx 70 2 ZH (l.take i ++ [x] ++ l.drop i) v) hG G Z (.tmp Z .nil) (.one .one) rfl
 simp at hc3
theorem ZvO (v:Value) (l:List TxD) (i:Nat) (hll:l.length≤1000000) (hi:i<l.length):FnG prog 66 1 [.is v,.int .i64 i,.int .i64 ((i+1:Nat):Int)] [Zx 30 3 rTx l v] (PV.one) (fun v=>[Zx 30 3 rTx (l.take i++l.drop (i+1)) v]):=by
 refine FnG.mk func66 Z ntmps66 Z kr fun B F0 a w F V hG G=>?_
 replace G:=G.turn 1 Z (r':=.ob (.val v) (Zx 30 3 rTx l)) (fun _ _ _ _ h=>h)
 have hrc:=(G.rowCap (n:=1) rfl).1
 refine Ya (rZ G (qC qZ) V [6,2,1,0] [1,0] fun G=>Ya ?_)
 refine rZ G (qR rr (qR rr (qR rr (qR rr (qf (ZQ 1 Yci .is) r1 r1 (qf (Zq7 (sz:=3) 1 (.mk Yci kr) .is .t .t .t ow ow ow ow) r4 r1 qZ)))))) V [6,2,1,0] [1,0] fun G=>(Ya (Ya ?_))
 refine rZ G (qR rr (qR rr (qf (o_eql .t .t) r2 qz qZ))) V [16,6,2,1,0] [1,0] fun G=>?_
 refine Zc G Z (fun hc0=>?_) (fun hc0=>?_)
 ·simp at hc0;omega
 refine Ye (Za (Ya (rZ G (qR rr (qf (ZQ 1 Yci .is) r1 r1 (qO rr qZ))) V [7,6,2,1,0] [1,0] fun G=>Ya ?_)))
 refine Zw G (qR rr (qR rr (qf (Zdh (sz:=3) 1 (.mk Yci kr) .is .t ow ow) r2 r1 (qR rr (qR rr (qf (Zjw (sz:=3) 1 (.mk Yci kr) .is .t ow ow ow) r2 r1 (qf (Zip 1 Yci kr (by intro x;rfl) .t .t ow ow ow) ⟨rfl,rfl,tv⟩ ⟨rfl,tv⟩ (qO rr qZ)))))))) V [7,6,0] [1,0] Z Z fun a w F G=>?_
 try dsimp only [xC,xN,rTx] at G
 simp only [Yb] at G
 obtain ⟨v2,hv2⟩:∃ y,y=ZgN (i+(l.length - (i+1))) v:=⟨_,rfl⟩
 rw [← hv2] at G
 have hcv:capV v2=capV v:=by rw [hv2];exact ZoA _ _
 obtain ⟨l4,hl4⟩:∃ y,y=l.take i++l.drop (i+1):=⟨_,rfl⟩
 rw [← hl4] at G
 have hl4n:l4.length+1=l.length:=by rw [hl4,Yd,Yi,YE];omega
 have hg:=hl4.symm
 refine Za (Ya (rZ G (qR rr (qR rr (qf (ZQ 1 Yci .is) r1 r1 (qR rr (qf (ZuL (sz:=3) 1 (.mk Yci kr) .is .t .t ow ow (by rw [hcv];omega)) r3 r1 (qf (Ziq (zs:=[.int .i64 0,.bool false,.slice none 0 0]) 1 Yci Z Z (Zne (zs:=[.int .i64 0,.bool false,.slice none 0 0]) (R:=rTx) (v:=(⟨0,false,[]⟩:TxD)) Z (by decide) (fun _ _=>⟨⟨rfl,rfl,ZcV⟩,⟨rfl,rfl⟩,⟨rfl,Zjj⟩,tv⟩) _) .t ow (by rw [hcv];omega)) r1 r1 qZ)))))) V [6,0] [1,0] fun G=>Ya ?_))
 refine rZ G (qR rr (qO rr qZ)) V [6] [1,0] fun G=>Yh ?_
 have G:=G.turn 1 Z (r':=RS.hp (Zx 30 3 rTx (l.take i++l.drop (i+1)) v2)) (fun _ _ _ _ h=>by rw [hg];exact h)
 refine Z1 (h':=fun v=>Zx 30 3 rTx (l.take i++l.drop (i+1)) v) hG G Z (.tmp Z .nil) (.one .one) rfl
theorem ZvA (l : List Z7) (e : Z7) (k : Int) (hll : l.length ≤ 1000000) (hs : ZcK Za0 l) (f : FuncId) (fn : Func) (cps : List PV) (hf : prog.funcs[f]? = some fn) (hb : fn.body.isSome = true) (hnn : (fn.name == "runtime.NumGoroutine") = false) (hw : ∀ x ∈ l, FnP prog f (.agg (Zav x) :: .agg (Zav e) :: cps) (.int .i64 (Zdn (Za0 x) k))) : FnP prog 195 [.sl Zav l, .agg (Zav e), .clos f cps] (.tup [.int .i64 (lowK Za0 k l), .bool (isK Za0 k l)]) := by
 refine FnP.mk func195 Z ntmps195 Z fun B a w F V hfr G=>Ya ?_
 refine Zb G (qx 101 r1 (qI qB)) V [7,6,4,2,0] [101,0] (fun _=>rfl) (fun _=>rfl) fun τ a w F G=>?_
 try dsimp only [RS.sub,SF.sub,CF.sub,csub,Anc.sub,List.map,zCF,Zav] at G
 generalize τ 4=v4 at G
 refine Za (Ya (rZ G (qR rr (qu Ycj r1 (qO rr qZ))) V [8,7,6,4,2,0] [101,0] fun G=>Ya ?_))
 refine rZ G (qR rr (qI (qO rr qZ))) V [10,9,8,7,6,4,2,0] [101,0] fun G=>(Ya (Yg ?_))
 refine Zk (σ:=Nat×Nat) [0,2,4,6,7,8] [0,101] (fun s=>[(9,.pv (.int .i64 (s.1:Int))),(10,.pv (.int .i64 (s.2:Int)))]) (fun s=>[]) (fun s=>s.1≤s.2∧s.2≤l.length∧(∀ q,q<s.1→Za0 (Nn l q)<k) ∧ ∀ q,s.2≤q→q<l.length→k≤Za0 (Nn l q)) (fun s=>s.2 - s.1) ((0),(l.length)) G ⟨rfl,rfl,rfl,rfl,rfl,rfl,rfl,rfl,tv⟩ ⟨rfl,rfl,tv⟩ ⟨Yw _,YM _,fun q hq=>absurd hq (Y3 q),fun q h1 h2=>by omega⟩ ?_
 clear G;intro s a w F hC G
 obtain ⟨i,j⟩:=s
 try dsimp only at hC
 obtain ⟨F,G⟩:=G.nM [10,9,8,7,6,4,2,0] [101,0]
 try dsimp only at G
 obtain ⟨hij,hjl,hlo,hhi⟩:=hC
 have hgs:=Zpz (i:=i) ow hs hlo
 have hgl:=ZdC (i:=i) ow hlo
 refine Ya (Ya (rZ G (qR rr (qR rr (qL r2))) V [17,10,9,8,7,6,4,2,0] [101,0] fun G=>?_))
 refine Zc G Z (fun hc0=>?_) (fun hc0=>?_)
 ·skip
  have hlt:i<j:=by simp at hc0;omega
  refine Ye (Za (Yg (Ya (Ze G (qR rr (qR rr (qf (o_add .t .t) r2 qz (qf (o_conv Ycm kr .t) r1 qz (qf (Zco .t qi (by decide)) r1 qz (qf (o_conv Ycn kr .t) r1 qz (qO rr qZ))))))) V [11,10,9,8,7,6,4,2,0] [101,0] Z Z fun a w F G=>?_))))
  obtain ⟨m,hm⟩:∃ m:Nat,m=(i+j) / 2:=⟨_,rfl⟩
  replace G:=G.ent (i:=11) (s':=.pv (.int .i64 (m:Int))) Z (.int (by rw [hm];exact Zie ow))
  obtain ⟨F,G⟩:=G.nM [11,10,9,8,7,6,4,2,0] [101,0]
  refine Za (Ya (Zw G (qR rr (qR rr (qR rr (qy 3 Ycj r2 (qf (oR true 3 .t) r1 qz (qe 3 101 r1 r1 (qf (ZN (avs:=[.agg (Zav (Nn l m)),.agg (Zav e)]) .t (hw (Nn l m) (nth_mem ow)) hf hb hnn (Args.two (.pagg .t) (.pagg .t))) r3 qz (qf (ZaA .t qi) r1 qz qZ)))))))) V [31,11,10,9,8,7,6,4,2,0] [101,0] Z Z fun a w F G=>?_))
  try dsimp only [List.map,xD,xE,xT,xU,ldSF,Zav] at G
  try simp only [Yb] at G
  refine Za (Zc G Z (fun hc1=>?_) (fun hc1=>?_))
  ·skip
   have hmk:Za0 (Nn l m)<k:=Zet.1 (by simpa using hc1)
   obtain ⟨i2,hi2e⟩:∃ z,z=m+1:=⟨_,rfl⟩
   obtain ⟨j2,hj2e⟩:∃ z,z=j:=⟨_,rfl⟩
   have hi2:IntKind.wrap .i64 ((m:Int)+1)=(i2:Int):=by rw [hi2e];exact Zd ow
   have hj2:(j:Int)=(j2:Int):=by rw [hj2e]
   have hmu:j2 - i2<j - i:=by omega
   have hC2:i2≤j2∧j2≤l.length∧(∀ q,q<i2→Za0 (Nn l q)<k) ∧ ∀ q,j2≤q→q<l.length→k≤Za0 (Nn l q):=⟨by omega,by omega,fun q hq=>Int.lt_of_le_of_lt (ZbF hs ow ow) hmk,by rw [hj2e];exact hhi⟩
   refine Ze G (qR rr (qp r1 (qO rr qZ))) V [10,9,8,7,6,4,2,0] [101,0] Z Z fun a w F G=>Zi (Za ?_)
   replace G:=G.ent (i:=9) (s':=.pv (.int .i64 (i2:Int))) Z (.int hi2)
   replace G:=G.ent (i:=10) (s':=.pv (.int .i64 (j2:Int))) Z (.int hj2)
   obtain ⟨F,G⟩:=G.nM [8,7,6,4,2,0,10,9] [101,0]
   exact ⟨((i2),(j2)),F,hC2,G,hmu⟩
  have hmk:k≤Za0 (Nn l m):=Int.not_lt.1 fun e=>(show ¬ Zdn (Za0 (Nn l m)) k<0 by simpa using hc1) (Zet.2 e)
  obtain ⟨i2,hi2e⟩:∃ z,z=i:=⟨_,rfl⟩
  obtain ⟨j2,hj2e⟩:∃ z,z=m:=⟨_,rfl⟩
  have hi2:(i:Int)=(i2:Int):=by rw [hi2e]
  have hj2:(m:Int)=(j2:Int):=by rw [hj2e]
  have hmu:j2 - i2<j - i:=by omega
  have hC2:i2≤j2∧j2≤l.length∧(∀ q,q<i2→Za0 (Nn l q)<k) ∧ ∀ q,j2≤q→q<l.length→k≤Za0 (Nn l q):=⟨by omega,by omega,by rw [hi2e];exact hlo,fun q h1 h2=>YbR hmk (ZbF hs ow h2)⟩
  refine Ze G (qR rr (qO rr qZ)) V [10,9,8,7,6,4,2,0] [101,0] Z Z fun a w F G=>Zi (Za ?_)
  replace G:=G.ent (i:=9) (s':=.pv (.int .i64 (i2:Int))) Z (.int hi2)
  replace G:=G.ent (i:=10) (s':=.pv (.int .i64 (j2:Int))) Z (.int hj2)
  obtain ⟨F,G⟩:=G.nM [8,7,6,4,2,0,10,9] [101,0]
  exact ⟨((i2),(j2)),F,hC2,G,hmu⟩
 have hjj:i=j:=by simp at hc0;omega
 subst hjj
 have hgl2:=hgl hhi
 have hgs2:=hgs hhi
 have hb2:(decide ((i:Int)<(l.length:Int)) && decide (Zdn (Za0 (Nn l i)) k=0))=isK Za0 k l:=by
   rw [Yai,hgs2]
   simp [Zk5]
 refine Yx (Zj (Zj (Zo (Za (Ya (Zw G (qR rr (qR rr (qR rr (qf (ZaA .t .t) r2 qz (qR rr (qm Z Z Z Z (qm Z Z Z Z (qm Z Z Z Z (qk Z (fun h=>o_indexAddr_sl (sz:=3) (.mk Ycj kr) (by intro x;rfl) (.w h) (.w h) ow (by have:=Yr h;omega)) r3 qz (qk Z (fun h=>oR true 3 (.w h)) r2 qz (qk Z (fun h=>oL true 3 101 .is) r2 r1 (qk Z (fun h=>ZN (avs:=[.agg (Zav (Nn l i)),.agg (Zav e)]) (.w h) (hw (Nn l i) (nth_mem (by have:=Yr h;omega))) hf hb hnn (Args.two (.pagg (.w h)) (.pagg (.w h)))) r4 qz (qk Z (fun h=>o_eql (.w h) qi) r2 qz (qf (ZE .t .t) r2 qz (qO rr (qO rr qZ)))))))))))))))) V [7,6] [0] Z Z fun a w F G=>?_))))))
 try dsimp only [List.map,xD,xE,xT,xU,ldSF,Zav] at G
 try simp only [Yb] at G
 refine Za (Yh (Zaa hfr G Z (.tmp Z (.tmp Z .nil)) (.two (.int (by rw [hgl2])) (.bool hb2))))
theorem Zvw (v:Value) (l:List Z7) (i:Nat) (x:Z7) (hll:l.length≤1000000) (hi:i≤l.length):FnG prog 197 1 [.is v,.int .i64 i,.sl Zav [x]] [Zx 217 3 Zav l v] (PV.one) (fun v=>[Zx 217 3 Zav (l.take i ++ [x] ++ l.drop i) v]):=by
 refine FnG.mk func197 Z ntmps197 Z kr fun B F0 a w F V hG G=>?_
 replace G:=G.turn 1 Z (r':=.ob (.val v) (Zx 217 3 Zav l)) (fun _ _ _ _ h=>h)
 refine Ya (rZ G (qC qZ) V [6,2,1,0] [1,0] fun G=>Ya ?_)
 refine rZ G (qR rr (qR rr (qf (ZiD (sz:=3) 1 (.mk Ycj kr) .is .t ow ow) r2 r1 qZ))) V [6,2,1,0] [1,0] fun G=>Ya ?_
 refine Ze G (qR rr (qu Ycj r1 (qO rr qZ))) V [7,6,2,1,0] [1,0] Z Z fun a w F G=>?_
 replace G:=G.ent (i:=7) (s':=.pv (.int .i64 1)) Z (.int Z)
 obtain ⟨F,G⟩:=G.nM [7,6,2,1,0] [1,0]
 refine Za (Ya (Ya (rZ G (qR rr (qf (o_eql .t qi) r1 qz qZ)) V [16,7,6,2,1,0] [1,0] fun G=>?_)))
 refine Zc G Z (fun hc0=>?_) (fun hc0=>?_)
 ·simp at hc0
 refine Ye (Za (Ya (rZ G (qR rr (qf (ZQ 1 Ycj .is) r1 r1 (qO rr qZ))) V [8,7,6,2,1,0] [1,0] fun G=>(Ya (Ya ?_)))))
 refine rZ G (qR rr (qR rr (qf (o_eql .t .t) r2 qz qZ))) V [22,8,7,6,2,1,0] [1,0] fun G=>?_
 refine Zc G Z (fun hc1=>?_) (fun hc1=>?_)
 ·have hg:=ZpE (x:=x) (by have h9:=hc1;simp at h9;omega:i=l.length)
  refine Ya (Zb G (qR rr (qR rr (qf (ZV (sz:=3) (bs:=24) 1 (.mk' Ycj kr kr) (by intro x;rfl) .is (.sl .t) (by simp only [Yl,Yy];omega) (by decide)) ⟨rfl,rfl,tv⟩ ⟨rfl,tv⟩ (qO rr qZ)))) V [8,7,6,2,1,0] [1,0] (fun _=>rfl) (fun _=>rfl) fun τ a w F G=>?_)
  try dsimp only [RS.sub,SF.sub,CF.sub,csub,Anc.sub,List.map,xC,xN,Zav] at G
  generalize τ 25=v25 at G
  refine Za (Yh (Zl ?_))
  have G:=G.turn 1 Z (r':=RS.hp (Zx 217 3 Zav (l.take i ++ [x] ++ l.drop i) v25)) (fun _ _ _ _ h=>by rw [hg];exact h)
  refine Z1 (h':=fun v=>Zx 217 3 Zav (l.take i ++ [x] ++ l.drop i) v) hG G Z (.tmp Z .nil) (.one .one) rfl
 have hil:i<l.length:=by simp at hc1;omega
 have hw1:IntKind.wrap .i64 ((i:Int)+1)=((i+1:Nat):Int):=Zd ow
 have hwn:IntKind.wrap .i64 ((l.length:Int)+1)=((l.length+1:Nat):Int):=Zd ow
 refine Ye (Za (Ya (Ya (rZ G (qR rr (qR rr (qf (o_add .t .t) r2 qz (qR rr (qf (Zjc 1 Ycj .is) r1 r1 (qf (ZaR .t .t) r2 qz qZ)))))) V [31,8,7,6,2,1,0] [1,0] fun G=>?_))))
 refine Zc G Z (fun hc2=>?_) (fun hc2=>?_)
 ·have hcap:capV v<l.length+1:=by rw [hwn] at hc2;simp at hc2;omega
  have hw:IntKind.wrap .i64 (IntKind.wrap .i64 ((l.length:Int)+1) - (i:Int))=((l.length+1 - i:Nat):Int):=by rw [hwn,ZA ow];omega
  refine Ya (Zb G (qR rr (qR rr (qf (Zdh (sz:=3) 1 (.mk Ycj kr) .is .t ow ow) r2 r1 (qR rr (qR rr (qf (o_add .t .t) r2 qz (qR rr (qf (o_sub .t .t) r2 qz (qf (Zdy (R:=Zav) (z:=(⟨0,0,0⟩:Z7)) (bs:=24) (sz:=3) (zs:=[.int .i64 0,.int .i64 0,.int .i64 0]) 1 101 Ycj Ycn kr kr kr (by intro x;rfl) (fun _ _=>⟨⟨rfl,rfl,ZcV⟩,⟨rfl,rfl,ZcV⟩,⟨rfl,rfl,ZcV⟩,tv⟩) .t .t ow (by rw [hw];omega) (by rw [hw];omega) (by rw [hw];omega) (by rw [hw];omega)) ⟨rfl,rfl,tv⟩ ⟨rfl,tv⟩ (qO rr qZ)))))))))) V [9,8,7,6,2,1,0] [101,1,0] (fun _=>rfl) (fun _=>rfl) fun τ a w F G=>?_)
  try dsimp only [RS.sub,SF.sub,CF.sub,csub,Anc.sub,List.map,xC,xN,Zav] at G
  generalize τ 40=v40 at G
  rw [hw] at G
  simp only [Yb] at G
  obtain ⟨l2,hl2⟩:∃ y,y=l.take i++List.replicate (l.length+1 - i) (⟨0,0,0⟩:Z7):=⟨_,rfl⟩
  rw [← hl2] at G
  have hl2n:l2.length=l.length+1:=by rw [hl2,Yd,Yi,Y0];omega
  obtain ⟨F,G⟩:=G.give 1 0 Z rfl
  obtain ⟨F,G⟩:=G.nM [9,8,7,6,2,1,0] [101,0]
  refine Za (Ya (Ze G (qR rr (qR rr (qf (Zai (sz:=3) 101 (.mk Ycj kr) .is .t ow ow) r2 r1 (qR rr (qf (o_copy_sub 101 Ycj kr (by intro x;rfl) .t .t (by simp) (by simp;omega)) r2 r1 qZ))))) V [9,8,7,6,2,1,0] [101,0] Z Z fun a w F G=>?_))
  simp only [Yb] at G
  obtain ⟨l3,hl3⟩:∃ y,y=l2.take i ++ [x] ++ l2.drop (i + [x].length):=⟨_,rfl⟩
  rw [← hl3] at G
  have hl3n:l3.length=l.length+1:=by rw [hl3,Yd,Yd,Yi,YE,hl2n];simp;omega
  refine Za (Ya (Zw G (qR rr (qR rr (qR rr (qf (o_add .t .t) r2 qz (qf (Zai (sz:=3) 101 (.mk Ycj kr) .is .t (by rw [hw1];omega) (by rw [hw1];omega)) r2 r1 (qR rr (qR rr (qf (o_slice_lo (sz:=3) (.mk Ycj kr) (by intro x;rfl) .t .t ow ow) r2 qz (qf (o_copy_sub 101 Ycj kr (by intro x;rfl) .t .t (by intro h9;have:=Y8 List.length h9;simp at this;omega) (by rw [hw1,YE];omega)) r2 r1 qZ))))))))) V [9,8,7,6,2,1,0] [101,0] Z Z fun a w F G=>?_))
  try dsimp only [Zav] at G
  rw [hw1] at G
  simp only [Yb] at G
  have hg:=Zlx (x:=x) hil hl2 hl3
  refine Za (Ya (rZ G (qR rr (qO rr qZ)) V [8,7,6,2,1,0] [101,0] fun G=>(Yh (Zl ?_))))
  obtain ⟨F,G⟩:=G.rename 101 1 Z rfl
  have G:=G.turn 1 Z (r':=RS.hp (Zx 217 3 Zav (l.take i ++ [x] ++ l.drop i) v40)) (fun _ _ _ _ h=>by rw [hg];exact h)
  refine Z1 (h':=fun v=>Zx 217 3 Zav (l.take i ++ [x] ++ l.drop i) v) hG G Z (.tmp Z .nil) (.one .one) rfl
 have hcap:l.length+1≤capV v:=by rw [hwn] at hc2;simp at hc2;omega
 refine Ye (Za (Ya (Zb G (qR rr (qR rr (qR rr (qf (o_add .t .t) r2 qz (qf (Zhe (sz:=3) 1 (.mk Ycj kr) .is .t (by rw [hwn];omega) ow) r2 r1 (qO rr qZ)))))) V [8,7,6,2,1,0] [1,0] (fun _=>rfl) (fun _=>rfl) fun τ a w F G=>?_)))
 try dsimp only [RS.sub,SF.sub,CF.sub,csub,Anc.sub,List.map,Zav] at G
 generalize τ 60=v60 at G
 refine Za (Ya (Ya (rZ G (qR rr (qR rr (qR rr (qR rr (qf (o_add .t .t) r2 qz (qf (ZbB (sz:=3) 1 (.mk Ycj kr) .is .t (by rw [hw1];omega) (by rw [hw1];omega)) r2 r1 (qf (Zg1 1 func219 kr kr kr Z Ycj kr (by intro x;rfl) .t .t (by rw [hw1];omega)) r2 r1 (qf (o_not .t) r1 qz qZ)))))))) V [68,8,7,6,2,1,0] [1,0] fun G=>?_)))
 refine Zc G Z (fun hc3=>?_) (fun hc3=>?_)
 ·refine Ya (Zw G (qR rr (qR rr (qR rr (qf (o_add .t .t) r2 qz (qf (ZbB (sz:=3) 1 (.mk Ycj kr) .is .t (by rw [hw1];omega) (by rw [hw1];omega)) r2 r1 (qR rr (qR rr (qf (ZbB (sz:=3) 1 (.mk Ycj kr) .is .t ow ow) r2 r1 (qf (ZeW (k:=i) 1 Ycj kr (by intro x;rfl) .t .t (by rw [hw1];rfl) Z ow) r2 r1 qZ))))))))) V [8,7,6,2,1,0] [1,0] Z Z fun a w F G=>?_)
  try dsimp only [Zav] at G
  obtain ⟨l4,hl4⟩:∃ y,y=l.take (i+1)++l.drop i:=⟨_,rfl⟩
  rw [← hl4] at G
  have hl4n:l4.length=l.length+1:=by rw [hl4,Yd,Yi,YE];omega
  refine Za (Ya (Ze G (qR rr (qR rr (qf (Zai (sz:=3) 1 (.mk Ycj kr) .is .t ow ow) r2 r1 (qR rr (qf (o_copy_sub 1 Ycj kr (by intro x;rfl) .t .t (by simp) (by simp;omega)) r2 r1 qZ))))) V [8,7,6,2,1,0] [1,0] Z Z fun a w F G=>?_))
  simp only [Yb] at G
  have hg:=Zjq (x:=x) hil hl4
  refine Za (Ya (rZ G (qR rr (qO rr qZ)) V [8,7,6,2,1,0] [1,0] fun G=>(Yh (Zl ?_))))
  have G:=G.turn 1 Z (r':=RS.hp (Zx 217 3 Zav (l.take i ++ [x] ++ l.drop i) v60)) (fun _ _ _ _ h=>by rw [hg];exact h)
  refine Z1 (h':=fun v=>Zx 217 3 Zav (l.take i ++ [x] ++ l.drop i) v) hG G Z (.tmp Z .nil) (.one .one) rfl
 simp at hc3
theorem Zoe (l : List OrdD) (p : OrdD → Bool) (f : FuncId) (fn : Func) (cps : List PV) (hf : prog.funcs[f]? = some fn) (hb : fn.body.isSome = true) (hnn : (fn.name == "runtime.NumGoroutine") = false) (hw : ∀ x, FnP prog f (.agg (ZH x) :: cps) (.bool (p x))) : FnP prog 40 [.sl ZH l, .clos f cps] (.int .i64 (Z2 p l)) := by
 refine FnP.mk func40 Z ntmps40 Z fun B a w F V hfr G=>?_
 have hll:=Sat.lenSl G (i:=0) rfl
 refine Ya (rZ G (qI qZ) V [4,1,0] [0] fun G=>(Ya (Ya ?_)))
 refine rZ G (qR rr (qu Ych r1 (qJ qZ))) V [8,7,4,1,0] [0] fun G=>Yg ?_
 refine Zk (σ:=(Nat)) [0,1,4,7] [0] (fun s=>[(8,.pv (.int .i64 (s:Int)))]) (fun s=>[]) (fun s=>s≤l.length∧(∀ k,k<s→p (Nn l k)=false)) (fun s=>l.length - s) (0) G ⟨rfl,rfl,rfl,rfl,rfl,tv⟩ ⟨rfl,tv⟩ ⟨Yw _,fun k hk=>absurd hk (Y3 k)⟩ ?_
 clear G;intro i a w F hC G
 try dsimp only at hC
 obtain ⟨F,G⟩:=G.nM [8,7,4,1,0] [0]
 try dsimp only at G
 obtain ⟨hi,hq⟩:=hC
 refine Ya (rZ G (qL r2) V [9,8,7,4,1,0] [0] fun G=>Ya ?_)
 refine Zc G Z (fun hc0=>?_) (fun hc0=>?_)
 ·skip
  have hil:i<l.length:=by simp at hc0;omega
  refine Ye (Za (Ya (Yg (Ya (rZ G (qR rr (qO rr qZ)) V [8,7,5,4,1,0] [0] fun G=>Ya ?_)))))
  refine Ze G (qR rr (qR rr (qR rr (qy 2 Ych r2 (qf (oR true 2 .t) r1 qz (qf (ZN (avs:=[.agg (ZH (Nn l i))]) .t (hw (Nn l i)) hf hb hnn (Args.one (.pagg .t))) r2 qz qZ)))))) V [16,8,7,5,4,1,0] [0] Z Z fun a w F G=>?_
  try simp only [Yb] at G
  refine Za (Zc G Z (fun hc1=>?_) (fun hc1=>?_))
  ·skip
   have hg:(i:Int)=Z2 p l:=(Zcd hil hc1 hq).symm
   refine Ya (rZ G (qR rr (qO rr qZ)) V [8,7,4,1,0] [0] fun G=>(Yh (Zz (Zl (Zl (Zz (Zl ?_)))))))
   refine Zs hfr G Z Z Z (.int hg)
  have hne:p (Nn l i)=false:=hc1
  refine Ye (Zi (Za (rZ G (qp r1 (qR rr qZ)) V [8,7,4,1,0] [0] fun G=>?_)))
  replace G:=G.ent (i:=8) (s':=.pv (.int .i64 ((i+1:Nat):Int))) Z (.int (Zd ow))
  obtain ⟨F,G⟩:=G.nM [7,4,1,0,8] [0]
  exact ⟨(i+1),F,⟨by omega,(fun k hk=>by rcases YX (Y6 hk) with h | h;exact hq k h;rw [h];exact hne)⟩,G,by omega⟩
 have hil:i=l.length:=by simp at hc0;omega
 have hg : -1=Z2 p l:=(Zbk fun k hk=>hq k (by simp at hc0;omega)).symm
 refine Yx (Zj (Zj (Zo (Za (Ya (rZ G (qI qZ) V [4] [0] fun G=>Yh ?_))))))
 refine Zs hfr G Z Z Z (.int hg)
theorem ZuC (v : Value) (l : List OrdD) (hll : l.length ≤ 1000000) (p : OrdD → Bool) (f : FuncId) (fn : Func) (cps : List PV) (hf : prog.funcs[f]? = some fn) (hb : fn.body.isSome = true) (hnn : (fn.name == "runtime.NumGoroutine") = false) (hw : ∀ x, FnP prog f (.agg (ZH x) :: cps) (.bool (p x))) : FnG prog 106 1 [.is v, .clos f cps] [Zx 70 2 ZH l v] (PV.one) (fun v => [Zx 70 2 ZH (l.filter fun x => !p x) v]) := by
 refine FnG.mk func106 Z ntmps106 Z kr fun B F0 a w F V hG G=>?_
 replace G:=G.turn 1 Z (r':=.ob (.val v) (Zx 70 2 ZH l)) (fun _ _ _ _ h=>h)
 refine Ya (rZ G (qC qZ) V [4,1,0] [1,0] fun G=>Ya ?_)
 refine rZ G (qR rr (qR rr (qf (OpC.lendRow 1 [8] (oP (Zoe l p f fn cps hf hb hnn hw) func40 (Args.two .t .t)) ⟨rfl,tv,tv⟩ (.pv (fun _ _ _ _ h=>h)) trivial (by rfl)) r2 r1 (qO rr qZ)))) V [5,4,1,0] [1,0] fun G=>(Ya (Ya ?_))
 refine rZ G (qR rr (qf (o_eql .t qi) r1 qz qZ)) V [12,5,4,1,0] [1,0] fun G=>?_
 refine Zc G Z (fun hc0=>?_) (fun hc0=>?_)
 ·skip
  have hno:=(Zaw p l).resolve_right (by rintro ⟨i,h1,_⟩;simp at hc0;omega)
  have hg:(l.filter fun x=>!p x)=l:=Zdk hno.2
  refine Ya (rZ G (qR rr (qO rr qZ)) V [5,4,1,0] [1,0] fun G=>(Yh (Zl ?_)))
  have G:=G.turn 1 Z (r':=RS.hp (Zx 70 2 ZH (l.filter fun x=>!p x) v)) (fun _ _ _ _ h=>by rw [hg];exact h)
  refine Z1 (h':=fun v=>Zx 70 2 ZH (l.filter fun x=>!p x) v) hG G Z (.tmp Z .nil) (.one .one) rfl
 obtain ⟨i0,hi0,hi1,hip,hib⟩:=(Zaw p l).resolve_left (by rintro ⟨h1,_⟩;simp [h1] at hc0)
 have hst0:=Zev hi1 hip hib
 refine Ye (Za (Ya (Ya (rZ G (qR rr (qp r1 (qO rr qZ))) V [6,5,4,1,0] [1,0] fun G=>Yg ?_))))
 have hC0:i0<i0+1∧i0+1≤l.length∧l.length=l.length∧l.take i0=(l.take (i0+1)).filter (fun x=>!p x) ∧ ∀ k,i0+1≤k→k<l.length→Nn l k=Nn l k:=⟨by omega,by omega,rfl,hst0,fun k _ _=>rfl⟩
 replace G:=G.ent (i:=5) (s':=.pv (.int .i64 (i0:Int))) Z (.int hi0)
 replace G:=G.ent (i:=6) (s':=.pv (.int .i64 ((i0+1:Nat):Int))) Z (.int (by rw [hi0,ZA ow];omega))
 refine Zk (σ:=Nat×Nat×List OrdD) [0,1,4] [0] (fun s=>[(5,.pv (.int .i64 (s.1:Int))),(6,.pv (.int .i64 (s.2.1:Int)))]) (fun s=>[(1,.ob (.val v) (Zx 70 2 ZH s.2.2))]) (fun s=>s.1<s.2.1∧s.2.1≤l.length∧s.2.2.length=l.length∧s.2.2.take s.1=(l.take s.2.1).filter (fun x=>!p x) ∧ ∀ k,s.2.1≤k→k<l.length→Nn s.2.2 k=Nn l k) (fun s=>l.length - s.2.1) ((i0),(i0+1),(l)) G ⟨rfl,rfl,rfl,rfl,rfl,tv⟩ ⟨rfl,rfl,tv⟩ hC0 ?_
 clear G;intro s a w F hC G
 obtain ⟨i,j,l1⟩:=s
 try dsimp only at hC
 obtain ⟨F,G⟩:=G.nM [6,5,4,1,0] [1,0]
 try dsimp only at G
 obtain ⟨hij,hj,hll1,htk,hrest⟩:=hC
 refine Ya (Ya (rZ G (qR rr (qR rr (qf (ZQ 1 Ych .is) r1 r1 (qL r2)))) V [19,6,5,4,1,0] [1,0] fun G=>?_))
 refine Zc G Z (fun hc1=>?_) (fun hc1=>?_)
 ·skip
  have hjl:j<l.length:=by simp at hc1;omega
  have hnj:Nn l1 j=(Nn l j):=hrest j (YM _) hjl
  have hfs:=ZcB (p:=fun x=>!p x) hjl
  refine Ye (Za (Ya (Yg (Ya (Zb G (qR rr (qR rr (qf (o_indexAddr_row (sz:=2) 1 (.mk Ych kr) .is .t ow ow (by rfl)) r2 r1 (qf (Zu (ag:=true) (sz':=2) (sz:=2) 1 .t (by intro x;rfl) ow kr kr kr) r1 r1 (qf (oH [.int .i64 0,.slice none 0 0] 101) trivial qz (qS 2 101 r2 r1 qZ)))))) V [7,6,5,4,1,0] [101,1,0] (fun _=>rfl) (fun _=>rfl) fun τ a w F G=>?_)))))
  try dsimp only [RS.sub,SF.sub,CF.sub,csub,Anc.sub,List.map,Zf,xL,xM,Nat.reduceAdd,xD,xE,xT,xU,xC,xN,zCF,ldSF,ZH] at G
  generalize τ 7=v7 at G
  try simp only [Yb] at G
  rw [hnj] at G
  refine Za (Ya (rZ G (qR rr (qe 2 101 r1 r1 (qf (ZN (avs:=[.agg (ZH (Nn l j))]) .t (hw (Nn l j)) hf hb hnn (Args.one (.pagg .t))) r2 qz (qf (o_not .t) r1 qz qZ)))) V [29,7,6,5,4,1,0] [101,1,0] fun G=>?_))
  refine Zc G Z (fun hc2=>?_) (fun hc2=>?_)
  ·skip
   have hp:p (Nn l j)=false:=by simpa using hc2
   obtain ⟨i2,hi2e⟩:∃ i2,i2=i+1:=⟨_,rfl⟩
   have hi2:IntKind.wrap .i64 ((i:Int)+1)=(i2:Int):=by rw [hi2e];exact Zd ow
   obtain ⟨l2,hl2⟩:∃ l2,l2=l1.set i (Nn l j):=⟨_,rfl⟩
   have hC2:i2<j+1∧j+1≤l.length∧l2.length=l.length∧l2.take i2=(l.take (j+1)).filter (fun x=>!p x) ∧ ∀ k,j+1≤k→k<l.length→Nn l2 k=Nn l k:=⟨by omega,by omega,by rw [hl2,YK];exact hll1,by rw [hl2,hi2e,hfs,hp,← htk,Zp (by rw [YK];omega),YbJ (YM _),nth_eq (by rw [YK];omega),Ybe];rfl,fun k hk hk2=>by rw [hl2,nth_eq (by rw [YK];omega),YbK ow,← nth_eq ow];exact hrest k ow hk2⟩
   refine Ya (Ze G (qR rr (qR rr (qe 2 101 r1 r1 (qf (o_indexAddr_row (sz:=2) 1 (.mk Ych kr) .is .t ow ow (by rfl)) r2 r1 (qf (ZdJ (sz:=2) 1 .t (by intro x;rfl) ow (.conv .t (Ent.aggU (l:=ZH (Nn l j)) Z Z)) kr) r2 r1 qZ))))) V [6,5,4,1,0] [1,0] Z Z fun a w F G=>?_)
   try simp only [Yb] at G
   rw [← hl2] at G
   refine Za (Ze G (qR rr (qp r1 (qO rr qZ))) V [6,5,4,1,0] [1,0] Z Z fun a w F G=>Zi (Za ?_))
   refine rZ G (qR rr (qp r1 (qO rr qZ))) V [6,5,4,1,0] [1,0] fun G=>?_
   have hmu:l.length - (j+1)<l.length - j:=by omega
   replace G:=G.ent (i:=5) (s':=.pv (.int .i64 (i2:Int))) Z (.int hi2)
   replace G:=G.ent (i:=6) (s':=.pv (.int .i64 ((j+1:Nat):Int))) Z (.int (Zd ow))
   obtain ⟨F,G⟩:=G.nM [4,1,0,6,5] [0,1]
   exact ⟨((i2),(j+1),(l2)),F,hC2,G,hmu⟩
  have hp:p (Nn l j)=true:=by simpa using hc2
  obtain ⟨i2,hi2e⟩:∃ i2,i2=i:=⟨_,rfl⟩
  have hi2:(i:Int)=(i2:Int):=by rw [hi2e]
  obtain ⟨l2,hl2⟩:∃ l2,l2=l1:=⟨_,rfl⟩
  rw [← hl2] at G
  have hC2:i2<j+1∧j+1≤l.length∧l2.length=l.length∧l2.take i2=(l.take (j+1)).filter (fun x=>!p x) ∧ ∀ k,j+1≤k→k<l.length→Nn l2 k=Nn l k:=⟨by omega,by omega,by rw [hl2];exact hll1,by rw [hl2,hi2e,hfs,hp,htk];simp,fun k hk hk2=>by rw [hl2];exact hrest k ow hk2⟩
  refine Ye (Zi (Za (rZ G (qR rr (qp r1 (qO rr qZ))) V [6,5,4,1,0] [1,0] fun G=>?_)))
  have hmu:l.length - (j+1)<l.length - j:=by omega
  replace G:=G.ent (i:=5) (s':=.pv (.int .i64 (i2:Int))) Z (.int hi2)
  replace G:=G.ent (i:=6) (s':=.pv (.int .i64 ((j+1:Nat):Int))) Z (.int (Zd ow))
  obtain ⟨F,G⟩:=G.nM [4,1,0,6,5] [0,1]
  exact ⟨((i2),(j+1),(l2)),F,hC2,G,hmu⟩
 have hjl:j=l.length:=by simp at hc1;omega
 have hil2:i<l.length:=by omega
 have hg:(l.filter fun x=>!p x)=(l1.take i++List.replicate (l1.length - i) (⟨0,[]⟩:OrdD)).take i:=by rw [YT (by rw [Yi];omega),YaL,Yb2,htk,hjl,YA]
 refine Yx (Zj (Zj (Zo (Za (Ya (rZ G (qR rr (qR rr (qf (Zai (sz:=2) 1 (.mk Ych kr) .is .t ow ow) r2 r1 (qf (ZbR (R:=ZH) (z:=(⟨0,[]⟩:OrdD)) (zs:=[.int .i64 0,.slice none 0 0]) 1 Ych kr Z Z (fun _ _=>⟨⟨rfl,rfl,ZcV⟩,⟨rfl,Zjj⟩,tv⟩) (by intro x;rfl) .t (by simp;omega)) r1 r1 qZ)))) V [5,4,0] [1,0] fun G=>Ya ?_))))))
 refine Zb G (qR rr (qR rr (qf (ZbO (sz:=2) 1 (.mk Ych kr) (by intro x;rfl) .is .t ow (by simp;omega)) r2 r1 (qO rr qZ)))) V [4] [1,0] (fun _=>rfl) (fun _=>rfl) fun τ a w F G=>?_
 try dsimp only [RS.sub,SF.sub,CF.sub,csub,Anc.sub,List.map,ZH] at G
 generalize τ 41=v41 at G
 refine Za (Yh ?_)
 have G:=G.turn 1 Z (r':=RS.hp (Zx 70 2 ZH (l.filter fun x=>!p x) v41)) (fun _ _ _ _ h=>by rw [hg];exact h)
 refine Z1 (h':=fun v=>Zx 70 2 ZH (l.filter fun x=>!p x) v) hG G Z (.tmp Z .nil) (.one .one) rfl
theorem cloneIP_c (l:List Int) (hl:l.length≤1000000):FnP prog 42 [.sl Zn l] (.sl Zn l):=by
 refine FnP.mk func42 Z ntmps42 Z fun B a w F V hfr G=>Ya ?_
 refine rZ G (qC qZ) V [2,0] [0] fun G=>(Ya (Ya ?_))
 refine Ze G (qR rr (qf (ZbC Ycf .t) r1 qz qZ)) V [4,2,0] [0] Z Z fun a w F G=>?_
 obtain ⟨β4,hβ4,G⟩:=G.pickBool 4 rfl
 obtain ⟨F,G⟩:=G.nM [4,2,0] [0]
 refine Za (Zc G Z (fun hc0=>?_) (fun hc0=>?_))
 ·have hg:l = []:=hβ4 hc0
  refine Ya (rZ G (qC qZ) V [2,0] [0] fun G=>(Yh (Zl ?_)))
  refine Zs hfr G Z Z Z (.trans .nilSl (.sl (by rw [hg])))
 have hg:l = [] ++ l:=rfl
 refine Ye (Za (Ya (Zb G (qf (Za2 (R:=Zn) (sz:=1) 101 Ycf kr) trivial qz (qR rr (qf (ZV (sz:=1) (bs:=8) 101 (.mk' Ycf kr kr) (by intro x;rfl) .same (.sl .t) (by simp only [Yd,Yy];omega) (by decide)) ⟨rfl,rfl,tv⟩ ⟨rfl,tv⟩ (qO rr qZ)))) V [2] [101,0] (fun _=>rfl) (fun _=>rfl) fun τ a w F G=>?_)))
 try dsimp only [RS.sub,SF.sub,CF.sub,csub,Anc.sub,List.map,Zf,xL,xM,Nat.reduceAdd,xD,xE,xT,xU,xC,xN,zCF,Zn] at G
 generalize τ 7=v7 at G
 refine Za (Yh ?_)
 obtain ⟨F,G⟩:=G.give 101 2 Z rfl
 refine Zs hfr G Z Z Z (.sl (by rw [hg]))
theorem Zuz (g:Zr) (hs:Za9 g):FnG prog 60 1 [.agg (Zv g)] [.star []] (PV.self Zva) (fun v=>[Ztr (Zx 30 3 rTx g.txs) (Zx 70 2 ZH g.orders) v]):=by
 refine FnG.mk func60 Z ntmps60 Z kr fun B F0 a w F V hG G=>?_
 have hsl:=hs.1.1
 have hso:=hs.2.1
 obtain ⟨F,G⟩:=G.nM [0] [0]
 refine Ya (Zb G (qx 101 r1 (qf (oH [.slice none 0 0,.slice none 0 0] 102) trivial qz qZ)) V [2,1] [102,101,0] (fun _=>rfl) (fun _=>rfl) fun τ a w F G=>?_)
 try dsimp only [RS.sub,SF.sub,CF.sub,csub,Anc.sub,List.map,zCF,Zv,rTx,ZH,ZU,Zn,rOp] at G
 generalize τ 1=v1,τ 2=v2 at G
 refine Za (Ya (Zb G (qf (oH [.slice none 0 0,.slice none 0 0] 103) trivial qz qZ) V [3,2,1] [103,102,101,0] (fun _=>rfl) (fun _=>rfl) fun τ a w F G=>?_))
 try dsimp only [RS.sub,SF.sub,CF.sub,csub,Anc.sub,List.map,zCF,Zv,rTx,ZH,ZU,Zn,rOp] at G
 generalize τ 3=v3 at G
 refine Za (Ya (Ya (rZ G (qg 0 101 r1 r1 (qa 101 r1 r1 (qu Yci r1 (qJ qZ)))) V [11,10,9,3,2,1] [103,102,101,0] fun G=>Yg ?_)))
 replace G:=G.fresh 50 rfl
 replace G:=G.turn 50 Z (ZaC (T:=30) (sz:=3) (R:=rTx))
 refine Zk (σ:=(Nat)×(Value)×(List TxD)) [1,2,3,9,10] [0,101,102] (fun s=>[(11,.pv (.int .i64 (s.1:Int)))]) (fun s=>[(103,.pt (.val v3) 25 [.pv (.is s.2.1),.pv (.is (.slice none 0 0))]),(50,.ob (.val s.2.1) (Zx 30 3 rTx s.2.2))]) (fun s=>s.1≤g.txs.length∧(s.2.2=g.txs.take s.1)) (fun s=>g.txs.length - s.1) ((0),(.slice none 0 0),([])) G ⟨rfl,rfl,rfl,rfl,rfl,rfl,tv⟩ ⟨rfl,rfl,rfl,rfl,rfl,tv⟩ ⟨Yw _,rfl⟩ ?_
 clear G;intro s a w F hC G
 obtain ⟨i,va,oa⟩:=s
 try dsimp only at hC
 obtain ⟨F,G⟩:=G.nM [11,10,9,3,2,1] [103,102,101,50,0]
 try dsimp only at G
 obtain ⟨hi,hq⟩:=hC
 have hol:oa.length≤i:=by rw [hq,Yi];omega
 refine Ya (rZ G (qL r2) V [12,11,10,9,3,2,1] [103,102,101,50,0] fun G=>Ya ?_)
 refine Zc G Z (fun hc0=>?_) (fun hc0=>?_)
 ·have hil:i<g.txs.length:=by simp at hc0;omega
  have hio:=hil
  refine Ye (Za (Ya (Yg (Ya (Zb G (qy 3 Yci r2 (qf (oR true 3 .t) r1 qz (qf (oH [.int .i64 0,.bool false,.slice none 0 0] 104) trivial qz (qS 3 104 r2 r1 qZ)))) V [11,10,9,5,3,2,1] [104,103,102,101,50,0] (fun _=>rfl) (fun _=>rfl) fun τ a w F G=>?_)))))
  try dsimp only [RS.sub,SF.sub,CF.sub,csub,Anc.sub,List.map,Zf,xL,xM,Nat.reduceAdd,xD,xE,xT,xU,xC,xN,zCF,ldSF,Zv,rTx,ZH,ZU,Zn,rOp] at G
  generalize τ 5=v5 at G
  try simp only [Yb] at G
  refine Za (ZaM G (qg 0 103 r1 r1 (qa 103 r1 r1 (qe 3 104 r1 r1 (qf (oP (ZrP (Nn g.txs i) (by have:=hs.1.at hio;omega)) func62 (Args.one (.pagg .t))) r1 qz (qf (o_buildSliceE (sz:=3) (zs:=[.int .i64 0,.bool false,.slice none 0 0]) (r:=[(0,.tmp 18)]) (l:=[_,_,_]) Yci kr kr kr kr Z Z (.agg Z (.conv .t .agg) kr kr .nil) Z) r1 qz (qf (ZV (sz:=3) (bs:=40) 50 (.mk' Yci kr kr) (by intro x;rfl) .is (.arr (l':=[(Nn g.txs i)]) .t) (by simp only [Yd,Yl,Yy];omega) (by decide)) ⟨rfl,rfl,tv⟩ ⟨rfl,tv⟩ (qg 0 103 r1 r1 (qf (o_storeS 103 .adr kr kr) r2 r1 qZ)))))))) V [11,10,9,3,2,1] [104,103,102,101,50,0] (fun _=>rfl) (fun _=>rfl) fun τ a w F G=>?_)
  try dsimp only [RS.sub,SF.sub,CF.sub,csub,Anc.sub,List.map,Zf,xL,xM,Nat.reduceAdd,xD,xE,xT,xU,xC,xN,zCF,ldSF,Zv,rTx,ZH,ZU,Zn,rOp] at G
  generalize τ 20=v20 at G
  refine Zi (Za (rZ G (qp r1 (qR rr qZ)) V [11,10,9,3,2,1] [104,103,102,101,50,0] fun G=>?_))
  replace G:=G.ent (i:=11) (s':=.pv (.int .i64 ((i+1:Nat):Int))) Z (.int (Zd ow))
  obtain ⟨F,G⟩:=G.nM [10,9,3,2,1,11] [102,101,0,50,103]
  exact ⟨((i+1),_,_),F,⟨by omega,(by rw [Zp hil,← hq])⟩,G,by omega⟩
 have hil:i=g.txs.length:=by simp at hc0;omega
 have hqa:oa=g.txs:=by rw [hq,hil,YA]
 subst hqa
 refine Yx (Zj (Zj (Zo (Za (Ya (Ya (rZ G (qg 1 101 r1 r1 (qa 101 r1 r1 (qu Ych r1 (qJ qZ)))) V [26,25,24,3,2] [103,102,101,50,0] fun G=>Yg ?_)))))))
 replace G:=G.fresh 51 rfl
 replace G:=G.turn 51 Z (ZaC (T:=70) (sz:=2) (R:=ZH))
 refine Zk (σ:=(Nat)×(Value)×(List OrdD)) [2,3,24,25] [0,50,101,102] (fun s=>[(26,.pv (.int .i64 (s.1:Int)))]) (fun s=>[(103,.pt (.val v3) 25 [.pv (.is va),.pv (.is s.2.1)]),(51,.ob (.val s.2.1) (Zx 70 2 ZH s.2.2))]) (fun s=>s.1≤g.orders.length∧(s.2.2=g.orders.take s.1)) (fun s=>g.orders.length - s.1) ((0),(.slice none 0 0),([])) G ⟨rfl,rfl,rfl,rfl,rfl,tv⟩ ⟨rfl,rfl,rfl,rfl,rfl,rfl,tv⟩ ⟨Yw _,rfl⟩ ?_
 clear G;intro s a w F hC G
 obtain ⟨i,vb,ob⟩:=s
 try dsimp only at hC
 obtain ⟨F,G⟩:=G.nM [26,25,24,3,2] [103,102,101,51,50,0]
 try dsimp only at G
 obtain ⟨hi,hq⟩:=hC
 have hol:ob.length≤i:=by rw [hq,Yi];omega
 refine Ya (rZ G (qL r2) V [27,26,25,24,3,2] [103,102,101,51,50,0] fun G=>Ya ?_)
 refine Zc G Z (fun hc1=>?_) (fun hc1=>?_)
 ·have hil:i<g.orders.length:=by simp at hc1;omega
  have hio:=hil
  refine Ye (Za (Ya (Yg (Ya (Zb G (qy 2 Ych r2 (qf (oR true 2 .t) r1 qz (qf (oH [.int .i64 0,.slice none 0 0] 105) trivial qz (qS 2 105 r2 r1 qZ)))) V [26,25,24,7,3,2] [105,103,102,101,51,50,0] (fun _=>rfl) (fun _=>rfl) fun τ a w F G=>?_)))))
  try dsimp only [RS.sub,SF.sub,CF.sub,csub,Anc.sub,List.map,Zf,xL,xM,Nat.reduceAdd,xD,xE,xT,xU,xC,xN,zCF,ldSF,Zv,rTx,ZH,ZU,Zn,rOp] at G
  generalize τ 7=v7 at G
  try simp only [Yb] at G
  refine Za (ZaM G (qg 1 103 r1 r1 (qa 103 r1 r1 (qg 0 105 r1 r1 (qa 105 r1 r1 (qg 1 105 r1 r1 (qa 105 r1 r1 (qf (oP (cloneIP_c (Nn g.orders i).txs (by have:=hs.2.at hio;omega)) func42 (Args.one .t)) r1 qz (qf (oB [(0,.tmp 33),(1,.tmp 36)] [.int .i64 0,.slice none 0 0] [(0,1),(1,1)] (.one Z .t one_int kr (.one Z .t one_sl kr .nil))) r2 qz (qf (o_buildSliceE (sz:=2) (zs:=[.int .i64 0,.slice none 0 0]) (r:=[(0,.tmp 37)]) (l:=[_,_]) Ych kr kr kr kr Z Z (.agg Z .t kr kr .nil) Z) r1 qz (qf (ZV (sz:=2) (bs:=32) 51 (.mk' Ych kr kr) (by intro x;rfl) .is (.arr (l':=[(Nn g.orders i)]) .t) (by simp only [Yd,Yl,Yy];omega) (by decide)) ⟨rfl,rfl,tv⟩ ⟨rfl,tv⟩ (qg 1 103 r1 r1 (qf (o_storeS 103 .adr kr kr) r2 r1 qZ)))))))))))) V [26,25,24,3,2] [105,103,102,101,51,50,0] (fun _=>rfl) (fun _=>rfl) fun τ a w F G=>?_)
  try dsimp only [RS.sub,SF.sub,CF.sub,csub,Anc.sub,List.map,Zf,xL,xM,Nat.reduceAdd,xD,xE,xT,xU,xC,xN,zCF,ldSF,Zv,rTx,ZH,ZU,Zn,rOp] at G
  generalize τ 39=v39 at G
  refine Zi (Za (rZ G (qp r1 (qR rr qZ)) V [26,25,24,3,2] [105,103,102,101,51,50,0] fun G=>?_))
  replace G:=G.ent (i:=26) (s':=.pv (.int .i64 ((i+1:Nat):Int))) Z (.int (Zd ow))
  obtain ⟨F,G⟩:=G.nM [25,24,3,2,26] [102,101,50,0,51,103]
  exact ⟨((i+1),_,_),F,⟨by omega,(by rw [Zp hil,← hq])⟩,G,by omega⟩
 have hil:i=g.orders.length:=by simp at hc1;omega
 have hqb:ob=g.orders:=by rw [hq,hil,YA]
 subst hqb
 refine Yx (Zj (Zj (Zo (Za (Ya (rZ G (qe 2 103 r1 r1 (qs 2 102 r2 r1 qZ)) V [2] [103,102,101,51,50,0] fun G=>Yh ?_))))))
 have G:=G.fresh 1 rfl
 obtain ⟨F,G⟩:=G.push 1 51 Z Z Z rfl
 obtain ⟨F,G⟩:=G.push 1 50 Z Z Z rfl
 refine Zvm hG G Z (.cl 102 true 2 Z Z .nil) (.one (.aggU Z Z)) rfl
end Go.Proofs.YtlkpllemoepamaaGreat
