/- Laws and walks. No condition beyond what each says. -/
import Derived.Test.YtlkpllemoepamaaGreatJ3
namespace Go.Proofs.YtlkpllemoepamaaGreat
open Go Go.Gm Tryz
set_option linter.unusedVariables false
set_option linter.unusedSimpArgs false
set_option maxHeartbeats 4000000
set_option maxRecDepth 8000
def wwC (p:Int→Bool) (g:Zq):List (Ze×Int):=if ZK g then wwA p g.orders else []
def rdC (p:Int→Bool) (g:Zq):List Ze:=if ZK g then rdH p g g.txs else []
theorem Zp2 {g:Zq} {v:Value} {w:World} {f y:Ys} (h:(Zl4 g v).p w f y):∃ b,v = .pointer (some ⟨b,0,none⟩):=by
 obtain ⟨s,_,q⟩:=h
 exact HP.star_pt q
theorem Zm8 (g : Zq) (hsm : ZbY g) (p : Int → Bool) (f : FuncId) (fn : Func) (cps : List PV) (hf : prog.funcs[f]? = some fn) (hb : fn.body.isSome = true) (hnn : (fn.name == "runtime.NumGoroutine") = false) (hw : ∀ x, FnP prog f (.int .i64 x :: cps) (.bool (p x))) : FnG prog 78 1 [.agg (Zx g), .clos f cps] [.star []] (PV.one) (fun v => [ZeI (wwC p g) (rdC p g) v]) := by
 refine FnG.mk func78 rfl ntmps78 rfl kr fun B F0 a w F Z hG G=>?_
 have hs:=hsm.1
 have hsl:=hs.1
 have hso:=hsm.2
 have hol1:=hso.1
 obtain ⟨F,G⟩:=G.nM [1,0] [0]
 refine Ya (Zb G (qx 101 r1 (qC qZ)) Z [4,2,1] [101,0] (fun _=>rfl) (fun _=>rfl) fun τ a w F G=>?_)
 try dsimp only [RS.sub,SF.sub,CF.sub,csub,Anc.sub,List.map,zCF,Zx,rTx,ZV,ZQ,Zo,rOp] at G
 generalize τ 2=v2 at G
 refine Za (Ya (Zb G (qf (ZaG (ek:=(fun n:Int=>PV.int .i64 n)) (ok:=(fun k=>∀ x ∈ Zag k,inR .i64 x)) (kv:=(kvS Zag)) 102) trivial qz (qO rr qZ)) Z [5,4,2,1] [102,101,0] (fun _=>rfl) (fun _=>rfl) fun τ a w F G=>?_))
 try dsimp only [RS.sub,SF.sub,CF.sub,csub,Anc.sub,List.map,Zf,xL,xM,Nat.reduceAdd,xD,xE,xT,xU,xC,xN,zCF,Zx,rTx,ZV,ZQ,Zo,rOp] at G
 generalize τ 14=v14 at G
 refine Za (Ya (Ya (rZ G (qe 2 101 r1 r1 (qf (oP (ZeA g hsm) func19 (Args.one (.pagg .t))) r1 qz (qf (o_not .t) r1 qz qZ))) Z [17,5,4,2,1] [102,101,0] fun G=>?_)))
 refine Zc G rfl (fun hc0=>?_) (fun hc0=>?_)
 ·skip
  have hr:¬ ZK g:=by simpa using hc0
  have hgA:wwC p g = []:=Yb hr
  have hgR:rdC p g = []:=Yb hr
  replace G:=G.turn 102 rfl (r':=RS.hp (ZeI (wwC p g) (rdC p g) v14)) (fun _ _ _ _ h=>⟨([],0),by rw [hgA,hgR];exact ZkC,h⟩)
  obtain ⟨F,G⟩:=G.nM [17,5,4,2,1] [102,101,0]
  refine Ya (rZ G (qR rr (qO rr qZ)) Z [5,4,2,1] [102,101,0] fun G=>(Yh (Zm ?_)))
  obtain ⟨F,G⟩:=G.rename 102 1 rfl rfl
  refine Z9 (h':=fun v=>ZeI (wwC p g) (rdC p g) v) hG G rfl (.tmp rfl .nil) (.one .one) rfl
 have hr:ZK g:=by simpa using hc0
 have hgA:wwC p g=wwA p g.orders:=Ye hr
 have hgR:rdC p g=rdH p g g.txs:=Ye hr
 refine Yf (Za (Ya ?_))
 replace G:=G.fresh 103 rfl
 refine Zb G (qe 2 101 r1 r1 (qf (ZaE 103 (ZsW g hsm) func135 rfl kr (Args.one (.pagg .t)) PV.ptr_one) r1 r1 (qO rr qZ))) Z [6,5,4,2,1] [103,102,101,0] (fun _=>rfl) (fun _=>rfl) fun τ a w F G=>?_
 try dsimp only [RS.sub,SF.sub,CF.sub,csub,Anc.sub,List.map,xD,xE,xT,xU,ldSF,Zx,rTx,ZV,ZQ,Zo,rOp] at G
 generalize τ 20=v20 at G
 obtain ⟨_,_,_,ho⟩:=G.obGet 103 rfl
 obtain ⟨b,rfl⟩:=Zp2 ho
 clear ho
 replace G:=G.turn 103 rfl (r':=RS.hp (Zl4 g (.pointer (some ⟨b,0,none⟩)))) (fun _ _ _ _ h=>h)
 obtain ⟨F,G⟩:=G.nM [6,5,4,2,1] [103,102,101,0]
 refine Za (Ya (Ya (rZ G (qg 1 101 r1 r1 (qa 101 r1 r1 (qu Yb6 r1 (qJ qZ)))) Z [24,23,22,6,5,4,2,1] [103,102,101,0] fun G=>Yg ?_)))
 refine Zl (σ:=(Nat)×(List (GE Ze Int))×(Nat)) [1,2,4,5,6,22,23] [0,101,103] (fun s=>[(24,.pv (.int .i64 (s.1:Int)))]) (fun s=>[(102,.ob (.val v14) (Zbt (fun n:Int=>PV.int .i64 n) (fun k=>∀ x ∈ Zag k,inR .i64 x) (kvS Zag) s.2.1 s.2.2))]) (fun s=>s.1≤g.orders.length∧(Zf4 s.2.1 (wwA p (g.orders.take s.1)) [])) (fun s=>g.orders.length - s.1) ((0),([]),(0)) G ⟨rfl,rfl,rfl,rfl,rfl,rfl,rfl,rfl,tv⟩ ⟨rfl,rfl,rfl,rfl,tv⟩ ⟨Yw _,ZkC⟩ ?_
 clear G;intro s a w F hC G
 obtain ⟨i,es,ck⟩:=s
 try dsimp only at hC
 obtain ⟨F,G⟩:=G.nM [24,23,22,6,5,4,2,1] [103,102,101,0]
 try dsimp only at G
 obtain ⟨hi,hq⟩:=hC
 have hol:=fun hil:i<g.orders.length=>hso.at hil
 refine Ya (rZ G (qL r2) Z [25,24,23,22,6,5,4,2,1] [103,102,101,0] fun G=>Ya ?_)
 refine Zc G rfl (fun hc1=>?_) (fun hc1=>?_)
 ·skip
  have hil:i<g.orders.length:=by simp at hc1;omega
  have hio:=hil
  have hcn:=hq
  have hox:=hol hil
  refine Yf (Za (Ya (Yg (Ya (Zb G (qy 2 Yb6 r2 (qf (oR true 2 .t) r1 qz (qf (oH [.int .i64 0,.slice none 0 0] 104) trivial qz (qS 2 104 r2 r1 qZ)))) Z [24,23,22,8,6,5,4,2,1] [104,103,102,101,0] (fun _=>rfl) (fun _=>rfl) fun τ a w F G=>?_)))))
  try dsimp only [RS.sub,SF.sub,CF.sub,csub,Anc.sub,List.map,Zf,xL,xM,Nat.reduceAdd,xD,xE,xT,xU,xC,xN,zCF,ldSF,Zx,rTx,ZV,ZQ,Zo,rOp] at G
  generalize τ 8=v8 at G
  try simp only [Yc] at G
  refine Za (Ya (rZ G (qI qZ) Z [24,23,22,9,8,6,5,4,2,1] [104,103,102,101,0] fun G=>Yg ?_))
  replace G:=G.ent (i:=9) (s':=.pv (.int .i64 ((0+1:Nat):Int))) rfl (.int rfl)
  refine Zl (σ:=Nat×(List (GE Ze Int))×Nat) [1,2,4,5,6,8,22,23,24] [0,101,103,104] (fun s=>[(9,.pv (.int .i64 ((s.1+1:Nat):Int)))]) (fun s=>[(102,.ob (.val v14) (Zbt (fun n:Int=>PV.int .i64 n) (fun k=>∀ x ∈ Zag k,inR .i64 x) (kvS Zag) s.2.1 s.2.2))]) (fun s=>s.1≤(Nn g.orders i).txs.length∧(0<s.1→p (Nn g.orders i).key=true∧s.1+1≤(Nn g.orders i).txs.length)∧Zf4 s.2.1 (wwA p (g.orders.take i)++wwO (Nn g.orders i) s.1) []) (fun s=>(Nn g.orders i).txs.length - s.1) ((0),(es),(ck)) G ⟨rfl,rfl,rfl,rfl,rfl,rfl,rfl,rfl,rfl,rfl,tv⟩ ⟨rfl,rfl,rfl,rfl,rfl,tv⟩ ⟨Yw _,fun h9=>absurd h9 (Nat.lt_irrefl 0),by show Zf4 _ (wwA p (g.orders.take i) ++ []) [];rw [YN];exact hcn⟩ ?_
  clear G;intro s a w F hC G
  obtain ⟨j,es3,ck3⟩:=s
  try dsimp only at hC
  obtain ⟨F,G⟩:=G.nM [24,23,22,9,8,6,5,4,2,1] [104,103,102,101,0]
  try dsimp only at G
  obtain ⟨hj,hjp,hq⟩:=hC
  have hwj:IntKind.wrap .i64 (((j+1:Nat):Int) - 1)=(j:Int):=by rw [ZC ow];omega
  refine Ya (Ya (rZ G (qR rr (qg 1 104 r1 r1 (qa 104 r1 r1 (qu YbZ r1 (qf (ZaD .t .t) r2 qz (qR rr (qm rfl rfl rfl rfl (qv 0 104 rfl r2 r1 (qw 104 rfl r2 r1 (qk rfl (fun h=>Z6 (avs:=[.int .i64 (Nn g.orders i).key]) (.w h) (hw (Nn g.orders i).key) hf hb hnn (Args.one (.w h))) r3 qz (qf (ZH .t .t) r2 qz qZ))))))))))) Z [38,24,23,22,9,8,6,5,4,2,1] [104,103,102,101,0] fun G=>?_))
  refine Zc G rfl (fun hc2=>?_) (fun hc2=>?_)
  ·skip
   have hst:j+1<(Nn g.orders i).txs.length∧p (Nn g.orders i).key=true:=by have h9:=hc2;simp at h9;exact ⟨by omega,h9.2⟩
   refine Yf (Za (Ya (Yg (Zz G (qR rr (qg 1 104 r1 r1 (qa 104 r1 r1 (qR rr (qf (o_sub .t qi) r1 qz (qf (ZI (sz:=1) (.mk YbZ kr) (by intro x;rfl) .t .t (by rw [hwj];omega) (by rw [hwj];omega)) r2 qz (qf (oR false 1 .t) r1 qz (qg 1 104 r1 r1 (qa 104 r1 r1 (qR rr (qy 1 YbZ r2 (qf (oR false 1 .t) r1 qz (qg 0 104 r1 r1 (qa 104 r1 r1 (qf (oB [(0,.tmp 47),(1,.tmp 52),(2,_),(3,.tmp 54)] [.int .i64 0,.int .i64 0,.int .i64 0,.int .i64 0] [(0,1),(1,1),(2,1),(3,1)] (.one rfl .t one_int kr (.one rfl .t one_int kr (.one rfl qi one_int kr (.one rfl .t one_int kr .nil))))) r3 qz (qf (o_mapUpdateG (ek:=(fun n:Int=>PV.int .i64 n)) 102 Ycb ZcR .is (ZG.agg (enc:=Zag) (k:=(⟨Nn (Nn g.orders i).txs (IntKind.wrap .i64 (((j+1:Nat):Int) - 1)).toNat,Nn (Nn g.orders i).txs ((j+1:Nat):Int).toNat,1,(Nn g.orders i).key⟩:Ze)) (.pagg .t) rfl) qi) r2 r1 qZ)))))))))))))))) Z [24,23,22,9,8,6,5,4,2,1] [104,103,102,101,0] rfl rfl fun a w F G=>?_))))
   try dsimp only [List.map,Zf,xL,xM,Nat.reduceAdd,xD,xE,xT,xU,xC,xN,zCF,ldSF,Zx,rTx,ZV,ZQ,Zo,rOp] at G
   try simp only [Yc] at G
   rw [hwj] at G
   try simp only [Yc] at G
   obtain ⟨es4,hes4⟩:∃ z,z=(gPut (⟨Nn (Nn g.orders i).txs j,Nn (Nn g.orders i).txs (j+1),1,(Nn g.orders i).key⟩:Ze) 1 (es3,ck3)).1:=⟨_,rfl⟩
   obtain ⟨ck4,hck4⟩:∃ z,z=(gPut (⟨Nn (Nn g.orders i).txs j,Nn (Nn g.orders i).txs (j+1),1,(Nn g.orders i).key⟩:Ze) 1 (es3,ck3)).2:=⟨_,rfl⟩
   rw [← hes4,← hck4] at G
   have hR3:Zf4 es4 (wwA p (g.orders.take i)++wwO (Nn g.orders i) (j+1)) []:=by rw [hes4,ZoJ,← YP];exact Zrl hq
   refine Zk (Za (rZ G (qR rr (qp r1 (qO rr qZ))) Z [24,23,22,9,8,6,5,4,2,1] [104,103,102,101,0] fun G=>?_))
   have hC2:j+1≤(Nn g.orders i).txs.length∧(0<j+1→p (Nn g.orders i).key=true∧j+1+1≤(Nn g.orders i).txs.length)∧Zf4 es4 (wwA p (g.orders.take i)++wwO (Nn g.orders i) (j+1)) []:=⟨by omega,fun _=>⟨hst.2,by omega⟩,hR3⟩
   replace G:=G.ent (i:=9) (s':=.pv (.int .i64 ((j+1+1:Nat):Int))) rfl (.int (Zd ow))
   obtain ⟨F,G⟩:=G.nM [24,23,22,8,6,5,4,2,1,9] [104,103,101,0,102]
   exact ⟨((j+1),(es4),(ck4)),F,hC2,G,by omega⟩
  have hst:p (Nn g.orders i).key=true→(Nn g.orders i).txs.length≤j+1:=fun hpk=>by have h9:=hc2;simp [hpk] at h9;omega
  obtain ⟨es2,hes2⟩:∃ z,z=es3:=⟨_,rfl⟩
  obtain ⟨ck2,hck2⟩:∃ z,z=ck3:=⟨_,rfl⟩
  rw [← hes2,← hck2] at G
  have hR2:Zf4 es2 (wwA p (g.orders.take (i+1))) []:=by
    rw [hes2,ZoS hio]
    by_cases hpk:p (Nn g.orders i).key=true
    · rw [Ye hpk,show (Nn g.orders i).txs.length - 1=j by (have:=hst hpk;by_cases hj0:0<j; (have:=(hjp hj0).2;omega);omega)];exact hq
    · rw [Yb hpk]
      have hj0:j=0:=by
        by_cases hj0:0<j
        · exact absurd (hjp hj0).1 hpk
        · omega
      rw [hj0] at hq;exact hq
  refine Yx (Zj (Zj (Zr (Zk (Za (rZ G (qp r1 (qR rr qZ)) Z [24,23,22,6,5,4,2,1] [104,103,102,101,0] fun G=>?_))))))
  replace G:=G.ent (i:=24) (s':=.pv (.int .i64 ((i+1:Nat):Int))) rfl (.int (Zd ow))
  obtain ⟨F,G⟩:=G.nM [23,22,6,5,4,2,1,24] [103,101,0,102]
  exact ⟨((i+1),(es2),(ck2)),F,⟨by omega,hR2⟩,G,by omega⟩
 have hil:i=g.orders.length:=by simp at hc1;omega
 rw [hil,YC] at hq
 replace G:=G.turn 102 rfl (r':=RS.hp (ZeI (wwA p g.orders) (rdH p g (g.txs.take 0)) v14)) (fun _ _ _ _ h=>⟨(es,ck),hq,h⟩)
 obtain ⟨F,G⟩:=G.nM [25,24,23,22,6,5,4,2,1] [103,102,101,0]
 refine Yx (Zj (Zj (Zr (Za (Ya (Ya (rZ G (qg 0 101 r1 r1 (qa 101 r1 r1 (qu Yb3 r1 (qJ qZ)))) Z [60,59,58,6,5,4,1] [103,102,101,0] fun G=>Yg ?_)))))))
 refine Zl (σ:=(Nat)) [1,4,5,6,58,59] [0,101,103] (fun s=>[(60,.pv (.int .i64 (s:Int)))]) (fun s=>[(102,RS.hp (ZeI (wwA p g.orders) (rdH p g (g.txs.take s)) v14))]) (fun s=>s≤g.txs.length∧(True)) (fun s=>g.txs.length - s) (0) G ⟨rfl,rfl,rfl,rfl,rfl,rfl,rfl,tv⟩ ⟨rfl,rfl,rfl,rfl,tv⟩ ⟨Yw _,tv⟩ ?_
 clear G;intro i a w F hC G
 try dsimp only at hC
 obtain ⟨F,G⟩:=G.nM [60,59,58,6,5,4,1] [103,102,101,0]
 try dsimp only at G
 obtain ⟨hi,hq⟩:=hC
 have hxl:=fun hil:i<g.txs.length=>hs.at hil
 refine Ya (rZ G (qL r2) Z [61,60,59,58,6,5,4,1] [103,102,101,0] fun G=>Ya ?_)
 refine Zc G rfl (fun hc3=>?_) (fun hc3=>?_)
 ·skip
  have hil:i<g.txs.length:=by simp at hc3;omega
  have hio:=hil
  have htl:=hxl hil
  have hsl:=hs.1
  have hrl:=Zm2 (p:=p) (g:=g) hs i
  replace G:=G.turn 102 rfl (r':=RS.hp (ZeI (wwA p g.orders) (rdH p g (g.txs.take i)++rdT p g (Nn g.txs i) ((Nn g.txs i).ops.take 0)) v14)) (fun _ _ _ _ h=>by rw [List.take_zero,show rdT p g (Nn g.txs i) [] = [] from rfl,YN];exact h)
  obtain ⟨F,G⟩:=G.nM [61,60,59,58,6,5,4,1] [103,102,101,0]
  refine Yf (Za (Ya (Yg (Ya (Zb G (qy 3 Yb3 r2 (qf (oR true 3 .t) r1 qz (qf (oH [.int .i64 0,.bool false,.slice none 0 0] 105) trivial qz (qS 3 105 r2 r1 qZ)))) Z [60,59,58,11,6,5,4,1] [105,103,102,101,0] (fun _=>rfl) (fun _=>rfl) fun τ a w F G=>?_)))))
  try dsimp only [RS.sub,SF.sub,CF.sub,csub,Anc.sub,List.map,Zf,xL,xM,Nat.reduceAdd,xD,xE,xT,xU,xC,xN,zCF,ldSF,Zx,rTx,ZV,ZQ,Zo,rOp] at G
  generalize τ 11=v11 at G
  try simp only [Yc] at G
  refine Za (Ya (rZ G (qg 2 105 r1 r1 (qa 105 r1 r1 (qu Yb2 r1 (qJ qZ)))) Z [67,66,65,60,59,58,11,6,5,4,1] [105,103,102,101,0] fun G=>Yg ?_))
  refine Zl (σ:=(Nat)) [1,4,5,6,11,58,59,60,65,66] [0,101,103,105] (fun s=>[(67,.pv (.int .i64 (s:Int)))]) (fun s=>[(102,RS.hp (ZeI (wwA p g.orders) (rdH p g (g.txs.take i)++rdT p g (Nn g.txs i) ((Nn g.txs i).ops.take s)) v14))]) (fun s=>s≤(Nn g.txs i).ops.length∧(True)) (fun s=>(Nn g.txs i).ops.length - s) (0) G ⟨rfl,rfl,rfl,rfl,rfl,rfl,rfl,rfl,rfl,rfl,rfl,tv⟩ ⟨rfl,rfl,rfl,rfl,rfl,tv⟩ ⟨Yw _,tv⟩ ?_
  clear G;intro j a w F hC G
  try dsimp only at hC
  obtain ⟨F,G⟩:=G.nM [67,66,65,60,59,58,11,6,5,4,1] [105,103,102,101,0]
  try dsimp only at G
  obtain ⟨hi,hq⟩:=hC
  refine Ya (rZ G (qL r2) Z [68,67,66,65,60,59,58,11,6,5,4,1] [105,103,102,101,0] fun G=>Ya ?_)
  refine Zc G rfl (fun hc4=>?_) (fun hc4=>?_)
  ·skip
   have hil:j<(Nn g.txs i).ops.length:=by simp at hc4;omega
   refine Yf (Za (Ya (Yg (Ya (Zb G (qy 4 Yb2 r2 (qf (oR true 4 .t) r1 qz (qf (oH [.bool false,.int .i64 0,.int .i64 0,.int .i64 0] 106) trivial qz (qS 4 106 r2 r1 qZ)))) Z [67,66,65,60,59,58,13,11,6,5,4,1] [106,105,103,102,101,0] (fun _=>rfl) (fun _=>rfl) fun τ a w F G=>?_)))))
   try dsimp only [RS.sub,SF.sub,CF.sub,csub,Anc.sub,List.map,Zf,xL,xM,Nat.reduceAdd,xD,xE,xT,xU,xC,xN,zCF,ldSF,Zx,rTx,ZV,ZQ,Zo,rOp] at G
   generalize τ 13=v13 at G
   try simp only [Yc] at G
   refine Za (Ya (rZ G (qg 1 105 r1 r1 (qa 105 r1 r1 (qR rr (qv 0 106 rfl r2 r1 (qw 106 rfl r2 r1 (qf (ZH .t .t) r2 qz (qR rr (qm rfl rfl rfl rfl (qv 1 106 rfl r2 r1 (qw 106 rfl r2 r1 (qk rfl (fun h=>Z6 (avs:=[.int .i64 (Nn (Nn g.txs i).ops j).key]) (.w h) (hw (Nn (Nn g.txs i).ops j).key) hf hb hnn (Args.one (.w h))) r3 qz (qf (ZH .t .t) r2 qz qZ)))))))))))) Z [82,67,66,65,60,59,58,13,11,6,5,4,1] [106,105,103,102,101,0] fun G=>?_))
   refine Zc G rfl (fun hc5=>?_) (fun hc5=>?_)
   ·skip
    have hpr:((Nn g.txs i).done && ((Nn (Nn g.txs i).ops j).read && p (Nn (Nn g.txs i).ops j).key))=true:=by have h9:=hc5;simp at h9;simp [h9]
    have hRR:(rdH p g (g.txs.take i)++rdT p g (Nn g.txs i) ((Nn g.txs i).ops.take j)).length≤10000000:=by have h9:=Zmv p g (Nn g.txs i) ((Nn g.txs i).ops.take j);rw [Yj] at h9;rw [Yd];omega
    refine Zg G (qR rr (qe 3 105 r1 r1 (qe 4 106 r1 r1 (qR rr (qf (Zn7 103 102 (Zq6 b g (Nn g.txs i) (Nn (Nn g.txs i).ops j) _ _ _ hRR) func136 rfl kr rfl (Args.four .t (.pagg .t) (.pagg .t) .t)) r4 r2 qZ))))) Z [67,66,65,60,59,58,11,6,5,4,1] [106,105,103,102,101,0] rfl rfl fun a w F G=>?_
    replace G:=G.turn 102 rfl (r':=RS.hp (ZeI (wwA p g.orders) (rdH p g (g.txs.take i)++rdT p g (Nn g.txs i) ((Nn g.txs i).ops.take (j+1))) v14)) (fun _ _ _ _ h=>by rw [Zj0 hil,Ye hpr,← YP];exact h)
    obtain ⟨F,G⟩:=G.nM [67,66,65,60,59,58,11,6,5,4,1] [106,105,103,102,101,0]
    refine Zk (Za (rZ G (qp r1 (qR rr qZ)) Z [67,66,65,60,59,58,11,6,5,4,1] [106,105,103,102,101,0] fun G=>?_))
    replace G:=G.ent (i:=67) (s':=.pv (.int .i64 ((j+1:Nat):Int))) rfl (.int (Zd ow))
    obtain ⟨F,G⟩:=G.nM [66,65,60,59,58,11,6,5,4,1,67] [105,103,101,0,102]
    exact ⟨(j+1),F,⟨by omega,tv⟩,G,by omega⟩
   have hpr:¬ ((Nn g.txs i).done && ((Nn (Nn g.txs i).ops j).read && p (Nn (Nn g.txs i).ops j).key))=true:=by intro h8;simp at h8;have h9:=hc5;simp [h8] at h9
   replace G:=G.turn 102 rfl (r':=RS.hp (ZeI (wwA p g.orders) (rdH p g (g.txs.take i)++rdT p g (Nn g.txs i) ((Nn g.txs i).ops.take (j+1))) v14)) (fun _ _ _ _ h=>by rw [Zj0 hil,Yb hpr,YN];exact h)
   obtain ⟨F,G⟩:=G.nM [82,67,66,65,60,59,58,13,11,6,5,4,1] [106,105,103,102,101,0]
   refine Yf (Zk (Za (rZ G (qp r1 (qR rr qZ)) Z [67,66,65,60,59,58,11,6,5,4,1] [106,105,103,102,101,0] fun G=>?_)))
   replace G:=G.ent (i:=67) (s':=.pv (.int .i64 ((j+1:Nat):Int))) rfl (.int (Zd ow))
   obtain ⟨F,G⟩:=G.nM [66,65,60,59,58,11,6,5,4,1,67] [105,103,101,0,102]
   exact ⟨(j+1),F,⟨by omega,tv⟩,G,by omega⟩
  have hil:j=(Nn g.txs i).ops.length:=by simp at hc4;omega
  replace G:=G.turn 102 rfl (r':=RS.hp (ZeI (wwA p g.orders) (rdH p g (g.txs.take (i+1))) v14)) (fun _ _ _ _ h=>by rw [Zql hio];rw [hil,YC] at h;exact h)
  obtain ⟨F,G⟩:=G.nM [68,67,66,65,60,59,58,11,6,5,4,1] [105,103,102,101,0]
  refine Yx (Zj (Zj (Zr (Zk (Za (rZ G (qp r1 (qR rr qZ)) Z [60,59,58,6,5,4,1] [105,103,102,101,0] fun G=>?_))))))
  replace G:=G.ent (i:=60) (s':=.pv (.int .i64 ((i+1:Nat):Int))) rfl (.int (Zd ow))
  obtain ⟨F,G⟩:=G.nM [59,58,6,5,4,1,60] [103,101,0,102]
  exact ⟨(i+1),F,⟨by omega,tv⟩,G,by omega⟩
 have hil:i=g.txs.length:=by simp at hc3;omega
 replace G:=G.turn 102 rfl (r':=RS.hp (ZeI (wwC p g) (rdC p g) v14)) (fun _ _ _ _ h=>by rw [hgA,hgR];rw [hil,YC] at h;exact h)
 obtain ⟨F,G⟩:=G.nM [61,60,59,58,6,5,4,1] [103,102,101,0]
 refine Yx (Zj (Zj (Zr (Za (Ya (rZ G (qR rr (qO rr qZ)) Z [4] [103,102,101,0] fun G=>Yh ?_))))))
 obtain ⟨F,G⟩:=G.rename 102 1 rfl rfl
 refine Z9 (h':=fun v=>ZeI (wwC p g) (rdC p g) v) hG G rfl (.tmp rfl .nil) (.one .one) rfl
def Zd8 (x y:Int):Int:=if x<y then -1 else if y<x then 1 else 0
theorem ZnI {x y:Int} : Zd8 x y<0 ↔ x<y:=by unfold Zd8;split <;> (try split) <;> omega
theorem Zq2 {x y:Int} : Zd8 x y=0 ↔ x=y:=by unfold Zd8;split <;> (try split) <;> omega
theorem ZtF {x:Int} (h:0≤x∧x≤18446744073709551615):IntKind.wrap .u64 x=x:=ZgR ⟨by simp [IntKind.min,IntKind.signed,IntKind.bits];omega,by simp [IntKind.max,IntKind.signed,IntKind.bits];omega⟩
theorem ZnC {i j:Nat} (h:i+j≤2000000):IntKind.wrap .i64 ((IntKind.wrap .u64 (IntKind.wrap .i64 ((i:Int)+(j:Int)))).fdiv (2 ^ min (1:Int).toNat (IntKind.bits .u64)))=(((i+j) / 2:Nat):Int):=by
 rw [ZC (x:=(i:Int)+(j:Int)) ow,ZtF ow,show (2:Int) ^ min (1:Int).toNat (IntKind.bits .u64)=2 by decide,Ya8 _ (by decide),ZC ow]
 omega
def Zgn {α:Type} [Inhabited α] (κ:α→Int) (l:List α):Prop:=∀ a b,a<b→b<l.length→κ (Nn l a)<κ (Nn l b)
def lowK {α:Type} (κ:α→Int) (k:Int) (l:List α):Nat:=(l.takeWhile fun x=>decide (κ x<k)).length
def isK {α:Type} (κ:α→Int) (k:Int) (l:List α):Bool:=l.any fun x=>decide (κ x=k)
theorem ZfF {α:Type} [Inhabited α] {κ:α→Int} {k:Int} : ∀ {l:List α} {i:Nat},i≤l.length→(∀ q,q<i→κ (Nn l q)<k)→(∀ q,i≤q→q<l.length→k≤κ (Nn l q))→lowK κ k l=i
 | [],i,hi,_,_=>by simp at hi;subst hi;rfl
 | x :: l,0,_,_,h2=>by
  have:=h2 0 (YL _) (by simp)
  rw [nth_eq (by simp)] at this
  unfold lowK
  rw [List.takeWhile_cons_of_neg (by simpa using this)];rfl
 | x :: l,i+1,hi,h1,h2=>by
  have hx:=h1 0 ow
  rw [nth_eq (by simp)] at hx
  have ih:=ZfF (κ:=κ) (k:=k) (l:=l) (i:=i) (by simpa using hi) (fun q hq=>by
   have:=h1 (q+1) ow
   rw [nth_eq (by simp at hi ⊢;omega)] at this
   rw [nth_eq (by simp at hi;omega)];simpa using this) (fun q hq hq2=>by
   have:=h2 (q+1) ow (by simp;omega)
   rw [nth_eq (by simp;omega)] at this
   rw [nth_eq hq2];simpa using this)
  unfold lowK at ih ⊢
  rw [List.takeWhile_cons_of_pos (by simpa using hx),Yl,ih]
theorem ZsB {α:Type} [Inhabited α] {κ:α→Int} {k:Int} {l:List α} {i:Nat} (hi:i≤l.length) (hs:Zgn κ l) (h1:∀ q,q<i→κ (Nn l q)<k) (h2:∀ q,i≤q→q<l.length→k≤κ (Nn l q)):isK κ k l=true ↔ i<l.length∧κ (Nn l i)=k:=by
 unfold isK
 rw [YaJ]
 constructor
 ·rintro ⟨x,hx,hk⟩
  obtain ⟨q,hq,e⟩:=YY hx
  have hk':κ (Nn l q)=k:=by rw [nth_eq hq,e];simpa using hk
  have hiq:i≤q:=Nat.le_of_not_lt fun h=>by have:=h1 q h;omega
  rcases Y8 hiq with h | h
  ·have a1:=hs i q h hq
   have a2:=h2 i (YL _) ow
   omega
  ·subst h;exact ⟨hq,hk'⟩
 ·rintro ⟨h3,h4⟩
  exact ⟨_,nth_mem h3,by simpa using h4⟩
theorem Zdg {α:Type} [Inhabited α] {κ:α→Int} {l:List α} (hs:Zgn κ l) {a b:Nat} (h:a≤b) (hb:b<l.length):κ (Nn l a)≤κ (Nn l b):=by
 rcases Y8 h with h | h
 ·exact YbR (hs a b h hb)
 ·subst h;exact Yaj _
theorem ZkI (x:Int):FnP prog 151 [.int .i64 x] (.bool false):=by
 refine FnP.mk func151 rfl ntmps151 rfl fun B a w F Z hfr G=>Ya ?_
 refine rZ G qB Z [2,0] [0] fun G=>Ya ?_
 refine rZ G (qR rr (qR rr (qf (o_neq .t .t) r2 qz (qO rr qZ)))) Z [2] [0] fun G=>Yh ?_
 refine Zw hfr G rfl rfl rfl (.bool (by simp))
theorem Zom (x y:Int):FnP prog 110 [.int .i64 x,.int .i64 y] (.int .i64 (Zd8 x y)):=by
 refine FnP.mk func110 rfl ntmps110 rfl fun B a w F Z hfr G=>Ya ?_
 refine rZ G (qI qZ) Z [4,1,0] [0] fun G=>Ya ?_
 refine rZ G (qR rr (qf (oP (ZkI x) func151 (Args.one .t)) r1 qz (qO rr qZ))) Z [5,4,1,0] [0] fun G=>Ya ?_
 refine rZ G (qR rr (qf (oP (ZkI y) func151 (Args.one .t)) r1 qz (qO rr qZ))) Z [6,5,4,1,0] [0] fun G=>(Ya (Ya ?_))
 refine rZ G (qR rr qZ) Z [11,6,4,1,0] [0] fun G=>?_
 refine Zc G rfl (fun hc0=>?_) (fun hc0=>?_)
 ·simp at hc0
 refine Yf (Za (Ya (Ya (rZ G (qR rr qZ) Z [13,4,1,0] [0] fun G=>?_))))
 refine Zc G rfl (fun hc1=>?_) (fun hc1=>?_)
 ·simp at hc1
 refine Yf (Za (Ya (Ya (rZ G (qR rr (qR rr (qL r2))) Z [16,4,1,0] [0] fun G=>?_))))
 refine Zc G rfl (fun hc2=>?_) (fun hc2=>?_)
 ·have hg:(-1:Int)=Zd8 x y:=by unfold Zd8;rw [Ye (by simpa using hc2)]
  refine Ya (rZ G (qI qZ) Z [4,1,0] [0] fun G=>(Yh (Zm ?_)))
  refine Zw hfr G rfl rfl rfl (.int hg)
 have h1:¬ x<y:=by simpa using hc2
 refine Yf (Za (Ya (Ya (rZ G (qR rr (qR rr (qf (ZaV .t .t) r2 qz qZ))) Z [19,4] [0] fun G=>?_))))
 refine Zc G rfl (fun hc3=>?_) (fun hc3=>?_)
 ·have hg:(1:Int)=Zd8 x y:=by unfold Zd8;rw [Yb h1,Ye (by simpa using hc3)]
  refine Ya (rZ G (qI qZ) Z [4] [0] fun G=>(Yh (Zm ?_)))
  refine Zw hfr G rfl rfl rfl (.int hg)
 have hg:(0:Int)=Zd8 x y:=by unfold Zd8;rw [Yb h1,Yb (by simpa using hc3)]
 refine Yf (Za (Ya (rZ G (qI qZ) Z [4] [0] fun G=>Yh ?_)))
 refine Zw hfr G rfl rfl rfl (.int hg)
def orZ:List Int→Int
 | []=>0
 | x :: l=>if x=0 then orZ l else x
theorem ZqG:∀ {l:List Int} {i:Nat},i<l.length→(∀ q,q<i→Nn l q=0)→Nn l i≠0→orZ l=Nn l i
 | x :: l,0,h,_,hn=>by rw [nth_eq h] at hn ⊢;exact Yb hn
 | x :: l,i+1,h,hq,hn=>by
  have h':i<l.length:=by simpa using h
  have h0:=hq 0 ow
  rw [nth_eq (by simp)] at h0
  have e:Nn (x :: l) (i+1)=Nn l i:=by rw [nth_eq h,nth_eq h'];rfl
  rw [e] at hn ⊢
  rw [orZ,Ye (show x=0 from h0)]
  exact ZqG h' (fun q hq2=>by
   have:=hq (q+1) ow
   rwa [nth_eq (by simp;omega),List.getElem_cons_succ,← nth_eq ow] at this) hn
theorem Zkw:∀ {l:List Int},(∀ q,q<l.length→Nn l q=0)→orZ l=0
 | [],_=>rfl
 | x :: l,hq=>by
  have h0:=hq 0 (by simp)
  rw [nth_eq (by simp)] at h0
  rw [orZ,Ye (show x=0 from h0)]
  exact Zkw fun q hq2=>by
   have:=hq (q+1) (by simp;omega)
   rwa [nth_eq (by simp;omega),List.getElem_cons_succ,← nth_eq hq2] at this
def okE (e:Z4):Prop:=(0≤e.label∧e.label≤1048575)∧0≤e.node∧e.node≤4095
def ZaH (e:Z4):Int:=(e.kind*1048576+e.label)*4096+e.node
theorem ZpK {a b:Z4} (ha:okE a) (hb:okE b):orZ [Zd8 a.kind b.kind,Zd8 a.label b.label,Zd8 a.node b.node] = Zd8 (ZaH a) (ZaH b):=by
 obtain ⟨⟨a1,a2⟩,a3,a4⟩:=ha
 obtain ⟨⟨b1,b2⟩,b3,b4⟩:=hb
 unfold orZ orZ orZ orZ ZaH Zd8
 repeat' split
 all_goals omega
theorem keyE_inj {a b:Z4} (ha:okE a) (hb:okE b) (h:ZaH a=ZaH b):a=b:=by
 obtain ⟨⟨a1,a2⟩,a3,a4⟩:=ha
 obtain ⟨⟨b1,b2⟩,b3,b4⟩:=hb
 unfold ZaH at h
 cases a;cases b
 simp only at *
 congr 1 <;> omega
theorem Ztt (l:List Int):FnP prog 218 [.sl Zo l] (.int .i64 (orZ l)):=by
 refine FnP.mk func218 rfl ntmps218 rfl fun B a w F Z hfr G=>?_
 have hxl:=Sat.lenSl G (i:=0) rfl
 refine Ya (rZ G (qI qZ) Z [2,0] [0] fun G=>Ya ?_)
 refine rZ G (qI qZ) Z [3,2,0] [0] fun G=>(Ya (Ya ?_))
 refine rZ G (qR rr (qu YbZ r1 (qJ qZ))) Z [8,7,6,3,2] [0] fun G=>Yg ?_
 refine Zl (σ:=(Nat)) [2,3,6,7] [0] (fun s=>[(8,.pv (.int .i64 (s:Int)))]) (fun s=>[]) (fun s=>s≤l.length∧(∀ q,q<s→Nn l q=0)) (fun s=>l.length - s) (0) G ⟨rfl,rfl,rfl,rfl,rfl,tv⟩ ⟨rfl,tv⟩ ⟨Yw _,fun q hq=>absurd hq (Y9 q)⟩ ?_
 clear G;intro i a w F hC G
 try dsimp only at hC
 obtain ⟨F,G⟩:=G.nM [8,7,6,3,2] [0]
 try dsimp only at G
 obtain ⟨hi,hq⟩:=hC
 refine Ya (rZ G (qL r2) Z [9,8,7,6,3,2] [0] fun G=>Ya ?_)
 refine Zc G rfl (fun hc0=>?_) (fun hc0=>?_)
 ·have hil:i<l.length:=by simp at hc0;omega
  refine Yf (Za (Ya (Yg (Ya (Zg G (qy 1 YbZ r2 (qf (oR false 1 .t) r1 qz (qO rr qZ))) Z [8,7,6,5,3,2] [0] rfl rfl fun a w F G=>?_)))))
  try simp only [Yc] at G
  refine Za (Ya (rZ G (qR rr (qR rr (qf (o_neq .t .t) r2 qz qZ))) Z [14,8,7,6,5,3,2] [0] fun G=>?_))
  refine Zc G rfl (fun hc1=>?_) (fun hc1=>?_)
  ·have hg:Nn l i=orZ l:=(ZqG ow hq (by simpa using hc1)).symm
   refine Ya (rZ G (qR rr (qO rr qZ)) Z [8,7,6,3,2] [0] fun G=>(Yh (ZB (Zm (Zm (ZB (Zm ?_)))))))
   refine Zw hfr G rfl rfl rfl (.int hg)
  have hne:Nn l i=0:=by simpa using hc1
  refine Yf (Zk (Za (rZ G (qp r1 (qR rr qZ)) Z [8,7,6,3,2] [0] fun G=>?_)))
  replace G:=G.ent (i:=8) (s':=.pv (.int .i64 ((i+1:Nat):Int))) rfl (.int (Zd ow))
  obtain ⟨F,G⟩:=G.nM [7,6,3,2,8] [0]
  exact ⟨(i+1),F,⟨by omega,(fun q h9=>by rcases Y8 (Yad h9) with h8 | h8;exact hq q h8;rw [h8];exact hne)⟩,G,by omega⟩
 have hil:i=l.length:=by simp at hc0;omega
 have hg:(0:Int)=orZ l:=(Zkw fun q h9=>hq q ow).symm
 refine Yx (Zj (Zj (Zr (Za (Ya (rZ G (qR rr (qO rr qZ)) Z [2] [0] fun G=>Yh ?_))))))
 refine Zw hfr G rfl rfl rfl (.int hg)
theorem ZqM (x y:Z4) (hx:okE x) (hy:okE y):FnP prog 196 [.agg (Zaj x),.agg (Zaj y)] (.int .i64 (Zd8 (ZaH x) (ZaH y))):=by
 refine FnP.mk func196 rfl ntmps196 rfl fun B a w F Z hfr G=>Ya ?_
 refine Zb G (qx 101 r1 (qx 102 r1 (qI qZ))) Z [4,3,2] [102,101,0] (fun _=>rfl) (fun _=>rfl) fun τ a w F G=>?_
 try dsimp only [RS.sub,SF.sub,CF.sub,csub,Anc.sub,List.map,zCF,Zaj,Zal,Zo,ZaB] at G
 generalize τ 2=v2,τ 3=v3 at G
 refine Za (Ya (Zz G (qg 0 101 r1 r1 (qa 101 r1 r1 (qg 0 102 r1 r1 (qa 102 r1 r1 (qf (oP (Zom x.kind y.kind) func110 (Args.two .t .t)) r2 qz (qg 1 101 r1 r1 (qa 101 r1 r1 (qg 1 102 r1 r1 (qa 102 r1 r1 (qf (oP (Zom x.label y.label) func110 (Args.two .t .t)) r2 qz (qg 2 101 r1 r1 (qa 101 r1 r1 (qg 2 102 r1 r1 (qa 102 r1 r1 (qf (oP (Zom x.node y.node) func110 (Args.two .t .t)) r2 qz (qf (o_buildSliceE (sz:=1) (zs:=[.int .i64 0]) (r:=[(0,.tmp 9),(1,.tmp 14),(2,.tmp 19)]) (l:=[_,_,_]) YbZ kr kr kr kr rfl rfl (.one rfl .t one_int kr (.one rfl .t one_int kr (.one rfl .t one_int kr .nil))) rfl) r3 qz (qf (oP (Ztt [Zd8 x.kind y.kind,Zd8 x.label y.label,Zd8 x.node y.node]) func218 (Args.one (.conv .t (Ent.arrSl (R:=Zo) (l:=[Zd8 x.kind y.kind,Zd8 x.label y.label,Zd8 x.node y.node]) rfl)))) r1 qz (qO rr qZ)))))))))))))))))) Z [4] [0] rfl rfl fun a w F G=>?_))
 try dsimp only [List.map,Zf,xL,xM,Nat.reduceAdd,xD,xE,xT,xU,xC,xN,zCF,ldSF,Zaj,Zal,Zo,ZaB] at G
 refine Za (Yh (Zw hfr G rfl rfl rfl (.int (ZpK hx hy))))
theorem ZrT {α:Type} {l:List α} {i:Nat} {x:α} (h:i=l.length):l.take i ++ [x] ++ l.drop i=l ++ [x]:=by rw [h];simp
theorem Zo2 {α:Type} {l l2 l3:List α} {i:Nat} {x z:α} (hi:i<l.length) (h2:l2=l.take i++List.replicate (l.length+1 - i) z) (h3:l3=l2.take i ++ [x] ++ l2.drop (i + [x].length)) :
  l.take i ++ [x] ++ l.drop i=l3.take (i+1)++l.drop i++l3.drop (i+1+(l.drop i).length):=by
 have e1:l2.take i=l.take i:=by
  rw [h2,Y4 (by rw [Yj];omega),YaY,Nat.min_self]
 have e0:l2.length=l.length+1:=by rw [h2,Yd,Yj,YW];omega
 have e2:l3.take (i+1)=l.take i ++ [x]:=by
  rw [h3,e1,Y4 (by rw [Yd,Yj];simp;omega),Yac (by rw [Yd,Yj];simp;omega)]
 have e3:l3.length=l.length+1:=by
  rw [h3,e1,Yd,Yd,Yj,YJ,e0];simp;omega
 have e4:l3.drop (i+1+(l.drop i).length) = []:=List.drop_eq_nil_of_le (by rw [e3,YJ];omega)
 rw [e2,e4,YN]
theorem Zop {α:Type} {l l4:List α} {i:Nat} {x:α} (hi:i<l.length) (h4:l4=l.take (i+1)++l.drop i):l.take i ++ [x] ++ l.drop i=l4.take i ++ [x] ++ l4.drop (i + [x].length):=by
 have e1:l4.take i=l.take i:=by
  rw [h4,Y4 (by rw [Yj];omega),YaY,YaQ ow]
 have e2:l4.drop (i + [x].length)=l.drop i:=by
  rw [h4,show i + [x].length=i+1 from rfl,List.drop_append_of_le_length (by rw [Yj];omega),List.drop_eq_nil_of_le (by rw [Yj];omega),Yam]
 rw [e1,e2]
theorem ZsK (l : List Z4) (e : Z4) (k : Int) (hll : l.length ≤ 1000000) (hs : Zgn ZaH l) (f : FuncId) (fn : Func) (cps : List PV) (hf : prog.funcs[f]? = some fn) (hb : fn.body.isSome = true) (hnn : (fn.name == "runtime.NumGoroutine") = false) (hw : ∀ x ∈ l, FnP prog f (.agg (Zaj x) :: .agg (Zaj e) :: cps) (.int .i64 (Zd8 (ZaH x) k))) : FnP prog 195 [.sl Zaj l, .agg (Zaj e), .clos f cps] (.tup [.int .i64 (lowK ZaH k l), .bool (isK ZaH k l)]) := by
 refine FnP.mk func195 rfl ntmps195 rfl fun B a w F Z hfr G=>Ya ?_
 refine Zb G (qx 101 r1 (qI qB)) Z [7,6,4,2,0] [101,0] (fun _=>rfl) (fun _=>rfl) fun τ a w F G=>?_
 try dsimp only [RS.sub,SF.sub,CF.sub,csub,Anc.sub,List.map,zCF,Zaj] at G
 generalize τ 4=v4 at G
 refine Za (Ya (rZ G (qR rr (qu Yb1 r1 (qO rr qZ))) Z [8,7,6,4,2,0] [101,0] fun G=>Ya ?_))
 refine rZ G (qR rr (qI (qO rr qZ))) Z [10,9,8,7,6,4,2,0] [101,0] fun G=>(Ya (Yg ?_))
 refine Zl (σ:=Nat×Nat) [0,2,4,6,7,8] [0,101] (fun s=>[(9,.pv (.int .i64 (s.1:Int))),(10,.pv (.int .i64 (s.2:Int)))]) (fun s=>[]) (fun s=>s.1≤s.2∧s.2≤l.length∧(∀ q,q<s.1→ZaH (Nn l q)<k) ∧ ∀ q,s.2≤q→q<l.length→k≤ZaH (Nn l q)) (fun s=>s.2 - s.1) ((0),(l.length)) G ⟨rfl,rfl,rfl,rfl,rfl,rfl,rfl,rfl,tv⟩ ⟨rfl,rfl,tv⟩ ⟨Yw _,YL _,fun q hq=>absurd hq (Y9 q),fun q h1 h2=>by omega⟩ ?_
 clear G;intro s a w F hC G
 obtain ⟨i,j⟩:=s
 try dsimp only at hC
 obtain ⟨F,G⟩:=G.nM [10,9,8,7,6,4,2,0] [101,0]
 try dsimp only at G
 obtain ⟨hij,hjl,hlo,hhi⟩:=hC
 have hgs:=ZsB (i:=i) ow hs hlo
 have hgl:=ZfF (i:=i) ow hlo
 refine Ya (Ya (rZ G (qR rr (qR rr (qL r2))) Z [17,10,9,8,7,6,4,2,0] [101,0] fun G=>?_))
 refine Zc G rfl (fun hc0=>?_) (fun hc0=>?_)
 ·skip
  have hlt:i<j:=by simp at hc0;omega
  refine Yf (Za (Yg (Ya (Zg G (qR rr (qR rr (qf (o_add .t .t) r2 qz (qf (Zat Yb8 kr .t) r1 qz (qf (Zej .t qi (by decide)) r1 qz (qf (Zat Yb4 kr .t) r1 qz (qO rr qZ))))))) Z [11,10,9,8,7,6,4,2,0] [101,0] rfl rfl fun a w F G=>?_))))
  obtain ⟨m,hm⟩:∃ m:Nat,m=(i+j) / 2:=⟨_,rfl⟩
  replace G:=G.ent (i:=11) (s':=.pv (.int .i64 (m:Int))) rfl (.int (by rw [hm];exact ZnC ow))
  obtain ⟨F,G⟩:=G.nM [11,10,9,8,7,6,4,2,0] [101,0]
  refine Za (Ya (Zz G (qR rr (qR rr (qR rr (qy 3 Yb1 r2 (qf (oR true 3 .t) r1 qz (qe 3 101 r1 r1 (qf (Z6 (avs:=[.agg (Zaj (Nn l m)),.agg (Zaj e)]) .t (hw (Nn l m) (nth_mem ow)) hf hb hnn (Args.two (.pagg .t) (.pagg .t))) r3 qz (qf (ZaD .t qi) r1 qz qZ)))))))) Z [31,11,10,9,8,7,6,4,2,0] [101,0] rfl rfl fun a w F G=>?_))
  try dsimp only [List.map,xD,xE,xT,xU,ldSF,Zaj] at G
  try simp only [Yc] at G
  refine Za (Zc G rfl (fun hc1=>?_) (fun hc1=>?_))
  ·skip
   have hmk:ZaH (Nn l m)<k:=ZnI.1 (by simpa using hc1)
   obtain ⟨i2,hi2e⟩:∃ z,z=m+1:=⟨_,rfl⟩
   obtain ⟨j2,hj2e⟩:∃ z,z=j:=⟨_,rfl⟩
   have hi2:IntKind.wrap .i64 ((m:Int)+1)=(i2:Int):=by rw [hi2e];exact Zd ow
   have hj2:(j:Int)=(j2:Int):=by rw [hj2e]
   have hmu:j2 - i2<j - i:=by omega
   have hC2:i2≤j2∧j2≤l.length∧(∀ q,q<i2→ZaH (Nn l q)<k) ∧ ∀ q,j2≤q→q<l.length→k≤ZaH (Nn l q):=⟨by omega,by omega,fun q hq=>Int.lt_of_le_of_lt (Zdg hs ow ow) hmk,by rw [hj2e];exact hhi⟩
   refine Zg G (qR rr (qp r1 (qO rr qZ))) Z [10,9,8,7,6,4,2,0] [101,0] rfl rfl fun a w F G=>Zk (Za ?_)
   replace G:=G.ent (i:=9) (s':=.pv (.int .i64 (i2:Int))) rfl (.int hi2)
   replace G:=G.ent (i:=10) (s':=.pv (.int .i64 (j2:Int))) rfl (.int hj2)
   obtain ⟨F,G⟩:=G.nM [8,7,6,4,2,0,10,9] [101,0]
   exact ⟨((i2),(j2)),F,hC2,G,hmu⟩
  have hmk:k≤ZaH (Nn l m):=Int.not_lt.1 fun e=>(show ¬ Zd8 (ZaH (Nn l m)) k<0 by simpa using hc1) (ZnI.2 e)
  obtain ⟨i2,hi2e⟩:∃ z,z=i:=⟨_,rfl⟩
  obtain ⟨j2,hj2e⟩:∃ z,z=m:=⟨_,rfl⟩
  have hi2:(i:Int)=(i2:Int):=by rw [hi2e]
  have hj2:(m:Int)=(j2:Int):=by rw [hj2e]
  have hmu:j2 - i2<j - i:=by omega
  have hC2:i2≤j2∧j2≤l.length∧(∀ q,q<i2→ZaH (Nn l q)<k) ∧ ∀ q,j2≤q→q<l.length→k≤ZaH (Nn l q):=⟨by omega,by omega,by rw [hi2e];exact hlo,fun q h1 h2=>YbS hmk (Zdg hs ow h2)⟩
  refine Zg G (qR rr (qO rr qZ)) Z [10,9,8,7,6,4,2,0] [101,0] rfl rfl fun a w F G=>Zk (Za ?_)
  replace G:=G.ent (i:=9) (s':=.pv (.int .i64 (i2:Int))) rfl (.int hi2)
  replace G:=G.ent (i:=10) (s':=.pv (.int .i64 (j2:Int))) rfl (.int hj2)
  obtain ⟨F,G⟩:=G.nM [8,7,6,4,2,0,10,9] [101,0]
  exact ⟨((i2),(j2)),F,hC2,G,hmu⟩
 have hjj:i=j:=by simp at hc0;omega
 subst hjj
 have hgl2:=hgl hhi
 have hgs2:=hgs hhi
 have hb2:(decide ((i:Int)<(l.length:Int)) && decide (Zd8 (ZaH (Nn l i)) k=0))=isK ZaH k l:=by
   rw [Ybi,hgs2]
   simp [Zq2]
 refine Yx (Zj (Zj (Zr (Za (Ya (Zz G (qR rr (qR rr (qR rr (qf (ZaD .t .t) r2 qz (qR rr (qm rfl rfl rfl rfl (qm rfl rfl rfl rfl (qm rfl rfl rfl rfl (qk rfl (fun h=>ZI (sz:=3) (.mk Yb1 kr) (by intro x;rfl) (.w h) (.w h) ow (by have:=Yt h;omega)) r3 qz (qk rfl (fun h=>oR true 3 (.w h)) r2 qz (qk rfl (fun h=>oL true 3 101 .is) r2 r1 (qk rfl (fun h=>Z6 (avs:=[.agg (Zaj (Nn l i)),.agg (Zaj e)]) (.w h) (hw (Nn l i) (nth_mem (by have:=Yt h;omega))) hf hb hnn (Args.two (.pagg (.w h)) (.pagg (.w h)))) r4 qz (qk rfl (fun h=>o_eql (.w h) qi) r2 qz (qf (ZH .t .t) r2 qz (qO rr (qO rr qZ)))))))))))))))) Z [7,6] [0] rfl rfl fun a w F G=>?_))))))
 try dsimp only [List.map,xD,xE,xT,xU,ldSF,Zaj] at G
 try simp only [Yc] at G
 refine Za (Yh (Zad hfr G rfl (.tmp rfl (.tmp rfl .nil)) (.two (.int (by rw [hgl2])) (.bool hb2))))
theorem ZsL (v:Value) (l:List Z4) (i:Nat) (x:Z4) (hll:l.length≤1000000) (hi:i≤l.length):FnG prog 197 1 [.is v,.int .i64 i,.sl Zaj [x]] [ZA 217 3 Zaj l v] (PV.one) (fun v=>[ZA 217 3 Zaj (l.take i ++ [x] ++ l.drop i) v]):=by
 refine FnG.mk func197 rfl ntmps197 rfl kr fun B F0 a w F Z hG G=>?_
 replace G:=G.turn 1 rfl (r':=.ob (.val v) (ZA 217 3 Zaj l)) (fun _ _ _ _ h=>h)
 refine Ya (rZ G (qC qZ) Z [6,2,1,0] [1,0] fun G=>Ya ?_)
 refine rZ G (qR rr (qR rr (qf (Zov (sz:=3) 1 (.mk Yb1 kr) .is .t ow ow) r2 r1 qZ))) Z [6,2,1,0] [1,0] fun G=>Ya ?_
 refine Zg G (qR rr (qu Yb1 r1 (qO rr qZ))) Z [7,6,2,1,0] [1,0] rfl rfl fun a w F G=>?_
 replace G:=G.ent (i:=7) (s':=.pv (.int .i64 1)) rfl (.int rfl)
 obtain ⟨F,G⟩:=G.nM [7,6,2,1,0] [1,0]
 refine Za (Ya (Ya (rZ G (qR rr (qf (o_eql .t qi) r1 qz qZ)) Z [16,7,6,2,1,0] [1,0] fun G=>?_)))
 refine Zc G rfl (fun hc0=>?_) (fun hc0=>?_)
 ·simp at hc0
 refine Yf (Za (Ya (rZ G (qR rr (qf (Zas 1 Yb1 .is) r1 r1 (qO rr qZ))) Z [8,7,6,2,1,0] [1,0] fun G=>(Ya (Ya ?_)))))
 refine rZ G (qR rr (qR rr (qf (o_eql .t .t) r2 qz qZ))) Z [22,8,7,6,2,1,0] [1,0] fun G=>?_
 refine Zc G rfl (fun hc1=>?_) (fun hc1=>?_)
 ·have hg:=ZrT (x:=x) (by have h9:=hc1;simp at h9;omega:i=l.length)
  refine Ya (Zb G (qR rr (qR rr (qf (Z1 (sz:=3) (bs:=24) 1 (.mk' Yb1 kr kr) (by intro x;rfl) .is (.sl .t) (by simp only [Yl,Yy];omega) (by decide)) ⟨rfl,rfl,tv⟩ ⟨rfl,tv⟩ (qO rr qZ)))) Z [8,7,6,2,1,0] [1,0] (fun _=>rfl) (fun _=>rfl) fun τ a w F G=>?_)
  try dsimp only [RS.sub,SF.sub,CF.sub,csub,Anc.sub,List.map,xC,xN,Zaj] at G
  generalize τ 25=v25 at G
  refine Za (Yh (Zm ?_))
  have G:=G.turn 1 rfl (r':=RS.hp (ZA 217 3 Zaj (l.take i ++ [x] ++ l.drop i) v25)) (fun _ _ _ _ h=>by rw [hg];exact h)
  refine Z9 (h':=fun v=>ZA 217 3 Zaj (l.take i ++ [x] ++ l.drop i) v) hG G rfl (.tmp rfl .nil) (.one .one) rfl
 have hil:i<l.length:=by simp at hc1;omega
 have hw1:IntKind.wrap .i64 ((i:Int)+1)=((i+1:Nat):Int):=Zd ow
 have hwn:IntKind.wrap .i64 ((l.length:Int)+1)=((l.length+1:Nat):Int):=Zd ow
 refine Yf (Za (Ya (Ya (rZ G (qR rr (qR rr (qf (o_add .t .t) r2 qz (qR rr (qf (Zmf 1 Yb1 .is) r1 r1 (qf (ZaV .t .t) r2 qz qZ)))))) Z [31,8,7,6,2,1,0] [1,0] fun G=>?_))))
 refine Zc G rfl (fun hc2=>?_) (fun hc2=>?_)
 ·have hcap:capV v<l.length+1:=by rw [hwn] at hc2;simp at hc2;omega
  have hw:IntKind.wrap .i64 (IntKind.wrap .i64 ((l.length:Int)+1) - (i:Int))=((l.length+1 - i:Nat):Int):=by rw [hwn,ZC ow];omega
  refine Ya (Zb G (qR rr (qR rr (qf (Zgd (sz:=3) 1 (.mk Yb1 kr) .is .t ow ow) r2 r1 (qR rr (qR rr (qf (o_add .t .t) r2 qz (qR rr (qf (o_sub .t .t) r2 qz (qf (ZfT (R:=Zaj) (z:=(⟨0,0,0⟩:Z4)) (bs:=24) (sz:=3) (zs:=[.int .i64 0,.int .i64 0,.int .i64 0]) 1 101 Yb1 Yb4 kr kr kr (by intro x;rfl) (fun _ _=>⟨⟨rfl,rfl,Zdf⟩,⟨rfl,rfl,Zdf⟩,⟨rfl,rfl,Zdf⟩,tv⟩) .t .t ow (by rw [hw];omega) (by rw [hw];omega) (by rw [hw];omega) (by rw [hw];omega)) ⟨rfl,rfl,tv⟩ ⟨rfl,tv⟩ (qO rr qZ)))))))))) Z [9,8,7,6,2,1,0] [101,1,0] (fun _=>rfl) (fun _=>rfl) fun τ a w F G=>?_)
  try dsimp only [RS.sub,SF.sub,CF.sub,csub,Anc.sub,List.map,xC,xN,Zaj] at G
  generalize τ 40=v40 at G
  rw [hw] at G
  simp only [Yc] at G
  obtain ⟨l2,hl2⟩:∃ y,y=l.take i++List.replicate (l.length+1 - i) (⟨0,0,0⟩:Z4):=⟨_,rfl⟩
  rw [← hl2] at G
  have hl2n:l2.length=l.length+1:=by rw [hl2,Yd,Yj,YW];omega
  obtain ⟨F,G⟩:=G.give 1 0 rfl rfl
  obtain ⟨F,G⟩:=G.nM [9,8,7,6,2,1,0] [101,0]
  refine Za (Ya (Zg G (qR rr (qR rr (qf (ZaN (sz:=3) 101 (.mk Yb1 kr) .is .t ow ow) r2 r1 (qR rr (qf (o_copy_sub 101 Yb1 kr (by intro x;rfl) .t .t (by simp) (by simp;omega)) r2 r1 qZ))))) Z [9,8,7,6,2,1,0] [101,0] rfl rfl fun a w F G=>?_))
  simp only [Yc] at G
  obtain ⟨l3,hl3⟩:∃ y,y=l2.take i ++ [x] ++ l2.drop (i + [x].length):=⟨_,rfl⟩
  rw [← hl3] at G
  have hl3n:l3.length=l.length+1:=by rw [hl3,Yd,Yd,Yj,YJ,hl2n];simp;omega
  refine Za (Ya (Zz G (qR rr (qR rr (qR rr (qf (o_add .t .t) r2 qz (qf (ZaN (sz:=3) 101 (.mk Yb1 kr) .is .t (by rw [hw1];omega) (by rw [hw1];omega)) r2 r1 (qR rr (qR rr (qf (ZlR (sz:=3) (.mk Yb1 kr) (by intro x;rfl) .t .t ow ow) r2 qz (qf (o_copy_sub 101 Yb1 kr (by intro x;rfl) .t .t (by intro h9;have:=Y1 List.length h9;simp at this;omega) (by rw [hw1,YJ];omega)) r2 r1 qZ))))))))) Z [9,8,7,6,2,1,0] [101,0] rfl rfl fun a w F G=>?_))
  try dsimp only [Zaj] at G
  rw [hw1] at G
  simp only [Yc] at G
  have hg:=Zo2 (x:=x) hil hl2 hl3
  refine Za (Ya (rZ G (qR rr (qO rr qZ)) Z [8,7,6,2,1,0] [101,0] fun G=>(Yh (Zm ?_))))
  obtain ⟨F,G⟩:=G.rename 101 1 rfl rfl
  have G:=G.turn 1 rfl (r':=RS.hp (ZA 217 3 Zaj (l.take i ++ [x] ++ l.drop i) v40)) (fun _ _ _ _ h=>by rw [hg];exact h)
  refine Z9 (h':=fun v=>ZA 217 3 Zaj (l.take i ++ [x] ++ l.drop i) v) hG G rfl (.tmp rfl .nil) (.one .one) rfl
 have hcap:l.length+1≤capV v:=by rw [hwn] at hc2;simp at hc2;omega
 refine Yf (Za (Ya (Zb G (qR rr (qR rr (qR rr (qf (o_add .t .t) r2 qz (qf (ZlK (sz:=3) 1 (.mk Yb1 kr) .is .t (by rw [hwn];omega) ow) r2 r1 (qO rr qZ)))))) Z [8,7,6,2,1,0] [1,0] (fun _=>rfl) (fun _=>rfl) fun τ a w F G=>?_)))
 try dsimp only [RS.sub,SF.sub,CF.sub,csub,Anc.sub,List.map,Zaj] at G
 generalize τ 60=v60 at G
 refine Za (Ya (Ya (rZ G (qR rr (qR rr (qR rr (qR rr (qf (o_add .t .t) r2 qz (qf (ZdP (sz:=3) 1 (.mk Yb1 kr) .is .t (by rw [hw1];omega) (by rw [hw1];omega)) r2 r1 (qf (ZlH 1 func219 kr kr kr rfl Yb1 kr (by intro x;rfl) .t .t (by rw [hw1];omega)) r2 r1 (qf (o_not .t) r1 qz qZ)))))))) Z [68,8,7,6,2,1,0] [1,0] fun G=>?_)))
 refine Zc G rfl (fun hc3=>?_) (fun hc3=>?_)
 ·refine Ya (Zz G (qR rr (qR rr (qR rr (qf (o_add .t .t) r2 qz (qf (ZdP (sz:=3) 1 (.mk Yb1 kr) .is .t (by rw [hw1];omega) (by rw [hw1];omega)) r2 r1 (qR rr (qR rr (qf (ZdP (sz:=3) 1 (.mk Yb1 kr) .is .t ow ow) r2 r1 (qf (ZiG (k:=i) 1 Yb1 kr (by intro x;rfl) .t .t (by rw [hw1];rfl) rfl ow) r2 r1 qZ))))))))) Z [8,7,6,2,1,0] [1,0] rfl rfl fun a w F G=>?_)
  try dsimp only [Zaj] at G
  obtain ⟨l4,hl4⟩:∃ y,y=l.take (i+1)++l.drop i:=⟨_,rfl⟩
  rw [← hl4] at G
  have hl4n:l4.length=l.length+1:=by rw [hl4,Yd,Yj,YJ];omega
  refine Za (Ya (Zg G (qR rr (qR rr (qf (ZaN (sz:=3) 1 (.mk Yb1 kr) .is .t ow ow) r2 r1 (qR rr (qf (o_copy_sub 1 Yb1 kr (by intro x;rfl) .t .t (by simp) (by simp;omega)) r2 r1 qZ))))) Z [8,7,6,2,1,0] [1,0] rfl rfl fun a w F G=>?_))
  simp only [Yc] at G
  have hg:=Zop (x:=x) hil hl4
  refine Za (Ya (rZ G (qR rr (qO rr qZ)) Z [8,7,6,2,1,0] [1,0] fun G=>(Yh (Zm ?_))))
  have G:=G.turn 1 rfl (r':=RS.hp (ZA 217 3 Zaj (l.take i ++ [x] ++ l.drop i) v60)) (fun _ _ _ _ h=>by rw [hg];exact h)
  refine Z9 (h':=fun v=>ZA 217 3 Zaj (l.take i ++ [x] ++ l.drop i) v) hG G rfl (.tmp rfl .nil) (.one .one) rfl
 simp at hc3
theorem Zq1 (l : List OrdD) (p : OrdD → Bool) (f : FuncId) (fn : Func) (cps : List PV) (hf : prog.funcs[f]? = some fn) (hb : fn.body.isSome = true) (hnn : (fn.name == "runtime.NumGoroutine") = false) (hw : ∀ x, FnP prog f (.agg (ZV x) :: cps) (.bool (p x))) : FnP prog 40 [.sl ZV l, .clos f cps] (.int .i64 (Z2 p l)) := by
 refine FnP.mk func40 rfl ntmps40 rfl fun B a w F Z hfr G=>?_
 have hll:=Sat.lenSl G (i:=0) rfl
 refine Ya (rZ G (qI qZ) Z [4,1,0] [0] fun G=>(Ya (Ya ?_)))
 refine rZ G (qR rr (qu Yb6 r1 (qJ qZ))) Z [8,7,4,1,0] [0] fun G=>Yg ?_
 refine Zl (σ:=(Nat)) [0,1,4,7] [0] (fun s=>[(8,.pv (.int .i64 (s:Int)))]) (fun s=>[]) (fun s=>s≤l.length∧(∀ k,k<s→p (Nn l k)=false)) (fun s=>l.length - s) (0) G ⟨rfl,rfl,rfl,rfl,rfl,tv⟩ ⟨rfl,tv⟩ ⟨Yw _,fun k hk=>absurd hk (Y9 k)⟩ ?_
 clear G;intro i a w F hC G
 try dsimp only at hC
 obtain ⟨F,G⟩:=G.nM [8,7,4,1,0] [0]
 try dsimp only at G
 obtain ⟨hi,hq⟩:=hC
 refine Ya (rZ G (qL r2) Z [9,8,7,4,1,0] [0] fun G=>Ya ?_)
 refine Zc G rfl (fun hc0=>?_) (fun hc0=>?_)
 ·skip
  have hil:i<l.length:=by simp at hc0;omega
  refine Yf (Za (Ya (Yg (Ya (rZ G (qR rr (qO rr qZ)) Z [8,7,5,4,1,0] [0] fun G=>Ya ?_)))))
  refine Zg G (qR rr (qR rr (qR rr (qy 2 Yb6 r2 (qf (oR true 2 .t) r1 qz (qf (Z6 (avs:=[.agg (ZV (Nn l i))]) .t (hw (Nn l i)) hf hb hnn (Args.one (.pagg .t))) r2 qz qZ)))))) Z [16,8,7,5,4,1,0] [0] rfl rfl fun a w F G=>?_
  try simp only [Yc] at G
  refine Za (Zc G rfl (fun hc1=>?_) (fun hc1=>?_))
  ·skip
   have hg:(i:Int)=Z2 p l:=(Zd4 hil hc1 hq).symm
   refine Ya (rZ G (qR rr (qO rr qZ)) Z [8,7,4,1,0] [0] fun G=>(Yh (ZB (Zm (Zm (ZB (Zm ?_)))))))
   refine Zw hfr G rfl rfl rfl (.int hg)
  have hne:p (Nn l i)=false:=hc1
  refine Yf (Zk (Za (rZ G (qp r1 (qR rr qZ)) Z [8,7,4,1,0] [0] fun G=>?_)))
  replace G:=G.ent (i:=8) (s':=.pv (.int .i64 ((i+1:Nat):Int))) rfl (.int (Zd ow))
  obtain ⟨F,G⟩:=G.nM [7,4,1,0,8] [0]
  exact ⟨(i+1),F,⟨by omega,(fun k hk=>by rcases Y8 (Yad hk) with h | h;exact hq k h;rw [h];exact hne)⟩,G,by omega⟩
 have hil:i=l.length:=by simp at hc0;omega
 have hg : -1=Z2 p l:=(ZcI fun k hk=>hq k (by simp at hc0;omega)).symm
 refine Yx (Zj (Zj (Zr (Za (Ya (rZ G (qI qZ) Z [4] [0] fun G=>Yh ?_))))))
 refine Zw hfr G rfl rfl rfl (.int hg)
theorem cloneIP_c (l:List Int) (hl:l.length≤1000000):FnP prog 42 [.sl Zo l] (.sl Zo l):=by
 refine FnP.mk func42 rfl ntmps42 rfl fun B a w F Z hfr G=>Ya ?_
 refine rZ G (qC qZ) Z [2,0] [0] fun G=>(Ya (Ya ?_))
 refine Zg G (qR rr (qf (Zbm YbZ .t) r1 qz qZ)) Z [4,2,0] [0] rfl rfl fun a w F G=>?_
 obtain ⟨β4,hβ4,G⟩:=G.pickBool 4 rfl
 obtain ⟨F,G⟩:=G.nM [4,2,0] [0]
 refine Za (Zc G rfl (fun hc0=>?_) (fun hc0=>?_))
 ·have hg:l = []:=hβ4 hc0
  refine Ya (rZ G (qC qZ) Z [2,0] [0] fun G=>(Yh (Zm ?_)))
  refine Zw hfr G rfl rfl rfl (.trans .nilSl (.sl (by rw [hg])))
 have hg:l = [] ++ l:=rfl
 refine Yf (Za (Ya (Zb G (qf (ZaL (R:=Zo) (sz:=1) 101 YbZ kr) trivial qz (qR rr (qf (Z1 (sz:=1) (bs:=8) 101 (.mk' YbZ kr kr) (by intro x;rfl) .same (.sl .t) (by simp only [Yd,Yy];omega) (by decide)) ⟨rfl,rfl,tv⟩ ⟨rfl,tv⟩ (qO rr qZ)))) Z [2] [101,0] (fun _=>rfl) (fun _=>rfl) fun τ a w F G=>?_)))
 try dsimp only [RS.sub,SF.sub,CF.sub,csub,Anc.sub,List.map,Zf,xL,xM,Nat.reduceAdd,xD,xE,xT,xU,xC,xN,zCF,Zo] at G
 generalize τ 7=v7 at G
 refine Za (Yh ?_)
 obtain ⟨F,G⟩:=G.give 101 2 rfl rfl
 refine Zw hfr G rfl rfl rfl (.sl (by rw [hg]))
def ZqD (os:List OrdD) (k:Int):List OrdD:=if isK OrdD.key k os=true then os else os.take (lowK OrdD.key k os) ++ [⟨k,[]⟩] ++ os.drop (lowK OrdD.key k os)
theorem Znk {α:Type} {κ:α→Int} {k:Int} (l:List α):lowK κ k l≤l.length:=by
 unfold lowK
 exact (List.takeWhile_sublist _).length_le
theorem Zac {α:Type} [Inhabited α] {κ:α→Int} {l:List α} : Zgn κ l ↔ l.Pairwise fun a b=>κ a<κ b:=by
 rw [Yah]
 constructor
 ·intro h i j hi hj hij
  have:=h i j hij hj
  rwa [nth_eq hi,nth_eq hj] at this
 ·intro h a b hab hb
  rw [nth_eq ow,nth_eq hb]
  exact h a b ow hb hab
theorem Zpt (os:List OrdD) (k:Int):(ZqD os k).length≤os.length+1:=by
 unfold ZqD
 split
 ·omega
 ·rw [Yd,Yd,Yj,YJ];simp;omega
theorem Zqt {os:List OrdD} {k:Int} {o:OrdD} (h:o ∈ ZqD os k):o ∈ os∨o = ⟨k,[]⟩:=by
 unfold ZqD at h
 split at h
 ·exact .inl h
 ·rw [YA,YA] at h
  rcases h with (h | h) | h
  ·exact .inl (Yao h)
  ·exact .inr (by simpa using h)
  ·exact .inl (Ybf h)
def ZsV (t:TxD) (os:List OrdD) (ks:List Int):List OrdD:=if t.done=true then ks.foldl ZqD os else os
def ZtM (t:TxD) (o:OrdD):OrdD:=⟨o.key,if t.done=true∧0<wcnt t.ops o.key then Zte o.txs t.id else Zcn o.txs t.id⟩
def settleO (t:TxD) (os:List OrdD):List OrdD:=((ZsV t os (Za0 t)).map (ZtM t)).filter fun o=>!decide (o.txs = [])
abbrev ZtO (T TR:TypeId) (p va:Value) (os:List OrdD):HP:=HP.ex fun vb:Value=>HP.star [.pt (.val p) T [.pv (.is va),.pv (.is vb)],.ob (.val vb) (ZA TR 2 ZV os)]
theorem ZrR {k:IntKind} {a:Int} {b:Bool} (v:Value) (w:World) (y y':Ys) (h:(PV.tup [.int k a,.bool b]).p v w y):(PV.tup [.int k a,.bool b]).p v w y':=by
 obtain ⟨vs,e,h⟩:=h
 match vs,h with
 | [_,_],h=>exact ⟨_,e,h⟩
def insE (l:List Z4) (e:Z4):List Z4:=l.take (lowK ZaH (ZaH e) l) ++ [e] ++ l.drop (lowK ZaH (ZaH e) l)
theorem putE_c (v:Value) (l:List Z4) (e:Z4) (hll:l.length≤1000000) (hs:Zgn ZaH l) (hl:∀ x ∈ l,okE x) (he:okE e):FnG prog 157 1 [.is v,.agg (Zaj e)] [ZA 217 3 Zaj l v] (PV.one) (fun v=>[ZA 217 3 Zaj (insE l e) v]):=by
 refine FnG.mk func157 rfl ntmps157 rfl kr fun B F0 a w F Z hG G=>?_
 replace G:=G.turn 1 rfl (r':=.ob (.val v) (ZA 217 3 Zaj l)) (fun _ _ _ _ h=>h)
 refine Ya (Zb G (qx 101 r1 (qC qZ)) Z [4,3,0] [101,1,0] (fun _=>rfl) (fun _=>rfl) fun τ a w F G=>?_)
 try dsimp only [RS.sub,SF.sub,CF.sub,csub,Anc.sub,List.map,zCF,Zaj,Zal,Zo,ZaB] at G
 generalize τ 3=v3 at G
 refine Za (Ya (rZ G (qR rr (qe 3 101 r1 r1 (qf (OpC.lendRow 1 [8] (oP (ZsK l e (ZaH e) hll hs 196 f196 [] func196 rfl kr (fun x hx=>ZqM x e (hl x hx) he)) func195 (Args.three .t (.pagg .t) (.conv .f (Ent.fnClos)))) ⟨rfl,tv,tv⟩ (.pv ZrR) trivial (by rfl)) r2 r1 (qR rr (qf (Zh .t rfl) r1 qz (qf (Zh .t rfl) r1 qz (qO rr (qO rr qZ)))))))) Z [5,4,3,0] [101,1,0] fun G=>Ya ?_))
 refine Zb G (qR rr (qR rr (qe 3 101 r1 r1 (qf (o_buildSliceE (sz:=3) (zs:=[.int .i64 0,.int .i64 0,.int .i64 0]) (r:=[(0,.tmp 15)]) (l:=[_,_,_]) Yb1 kr kr kr kr rfl rfl (.agg rfl .t kr kr .nil) rfl) r1 qz (qf (o_callRowN 1 (ZsL v l (lowK ZaH (ZaH e) l) e hll (Znk l)) func197 rfl kr (Args.three .t .t (.conv .t (Ent.arrSl (R:=Zaj) (l:=[e]) rfl))) pvOne1) r3 r1 (qO rr qZ)))))) Z [4] [1,0] (fun _=>rfl) (fun _=>rfl) fun τ a w F G=>?_
 try dsimp only [RS.sub,SF.sub,CF.sub,csub,Anc.sub,List.map,Zf,xL,xM,Nat.reduceAdd,xD,xE,xT,xU,xC,xN,zCF,ldSF,Zaj,Zal,Zo,ZaB] at G
 generalize τ 17=v17 at G
 have hg:insE l e=l.take (lowK ZaH (ZaH e) l) ++ [e] ++ l.drop (lowK ZaH (ZaH e) l):=rfl
 refine Za (Yh ?_)
 have G:=G.turn 1 rfl (r':=RS.hp (ZA 217 3 Zaj (insE l e) v17)) (fun _ _ _ _ h=>by rw [hg];exact h)
 refine Z9 (h':=fun v=>ZA 217 3 Zaj (insE l e) v) hG G rfl (.tmp rfl .nil) (.one .one) rfl
def Ztm (L:List (List Z4)):Prop:=∀ l ∈ L,l.length≤1000000∧Zgn ZaH l ∧ ∀ e ∈ l,okE e
def ZoA (O:List (List Z4)) (x:Zu):Bool:=Zaz O.length x && isK ZaH (ZaH (endO x)) (Nn O x.src.toNat)
theorem ZY {n:Nat} {x:Zu} : Zaz n x=true ↔ (0≤x.src∧x.src<n)∧(0≤x.dst∧x.dst<n)∧(1≤x.kind∧x.kind≤3)∧0≤x.label∧x.label≤1048575:=by
 unfold Zaz
 simp only [Yr,Yu]
 constructor
 ·rintro ⟨⟨⟨⟨⟨a,b⟩,c⟩,d⟩,e⟩,f⟩;exact ⟨a,b,⟨c,d⟩,e,f⟩
 ·rintro ⟨a,b,⟨c,d⟩,e,f⟩;exact ⟨⟨⟨⟨⟨a,b⟩,c⟩,d⟩,e⟩,f⟩
theorem endO_ok {n:Nat} {x:Zu} (h:Zaz n x=true) (hn:n≤4096):okE (endO x):=by
 obtain ⟨h1,h2,h3,h4,h5⟩:=ZY.1 h
 exact ⟨⟨h4,h5⟩,h2.1,show x.dst≤4095 by omega⟩
theorem endI_ok {n:Nat} {x:Zu} (h:Zaz n x=true) (hn:n≤4096):okE (endI x):=by
 obtain ⟨h1,h2,h3,h4,h5⟩:=ZY.1 h
 exact ⟨⟨h4,h5⟩,h1.1,show x.src≤4095 by omega⟩
theorem Zrw (O I:List (List Z4)) (m:Nat) (x:Zu) (hO:Ztm O) (hn:O.length≤4096):FnP prog 155 [Zhq O I m,.agg (ZaB x)] (.bool (ZoA O x)):=by
 refine FnP.mk func155 rfl ntmps155 rfl fun B a w F Z hfr G=>Ya ?_
 refine Zb G (qx 101 r1 qB) Z [4,3,0] [101,0] (fun _=>rfl) (fun _=>rfl) fun τ a w F G=>?_
 try dsimp only [RS.sub,SF.sub,CF.sub,csub,Anc.sub,List.map,zCF,Zaj,Zal,Zo,ZaB] at G
 generalize τ 3=v3 at G
 refine Za (Ya (Ya (rZ G (qR rr (qe 4 101 r1 r1 (qf (oP (ZhB O I m x) func154 (Args.two .t (.pagg .t))) r2 qz (qf (o_not .t) r1 qz qZ)))) Z [12,4,3,0] [101,0] fun G=>?_)))
 refine Zc G rfl (fun hc0=>?_) (fun hc0=>?_)
 ·have hrf:Zaz O.length x=false:=by simpa using hc0
  have hg:false=ZoA O x:=by unfold ZoA;rw [hrf];rfl
  refine Ya (rZ G qB Z [4,3,0] [101,0] fun G=>(Yh (Zm ?_)))
  refine Zw hfr G rfl rfl rfl (.bool hg)
 have hrt:Zaz O.length x=true:=by simpa using hc0
 obtain ⟨hs1,hs2⟩:=(ZY.1 hrt).1
 have hg:isK ZaH (ZaH (endO x)) (Nn O x.src.toNat)=ZoA O x:=by unfold ZoA;rw [hrt,Ybp]
 refine Yf (Za (Ya (Zb G (qe 4 101 r1 r1 (qf (oP (Zkk x) func156 (Args.one (.pagg .t))) r1 qz (qR rr (qf (Zh .t rfl) r1 qz (qf (Zh .t rfl) r1 qz (qf (oH [.int .i64 0,.int .i64 0,.int .i64 0] 102) trivial qz (qf (oH [.int .i64 0,.int .i64 0,.int .i64 0] 103) trivial qz (qf (oA 3 102 .same (.conv .t .agg)) r2 r1 (qf (oA 3 103 .same (.conv .t .agg)) r2 r1 qZ))))))))) Z [5,4,3,0] [102,101,0] (fun _=>rfl) (fun _=>rfl) fun τ a w F G=>?_)))
 try dsimp only [RS.sub,SF.sub,CF.sub,csub,Anc.sub,List.map,Zf,xL,xM,Nat.reduceAdd,xD,xE,xT,xU,xC,xN,zCF,ldSF,Zaj,Zal,Zo,ZaB] at G
 generalize τ 5=v5,τ 6=v6 at G
 refine Za (Ya (Zz G (qR rr (qf (ZR .t) r1 qz (qf (oG 0 .t) r1 qz (qf (oR false 1 .t) r1 qz (qg 0 101 r1 r1 (qa 101 r1 r1 (qy 1 Yb9 r2 (qf (oR false 1 .t) r1 qz (qe 3 102 r1 r1 (qf (oP (ZsK (Nn O x.src.toNat) (endO x) (ZaH (endO x)) (hO _ (nth_mem ow)).1 (hO _ (nth_mem ow)).2.1 196 f196 [] func196 rfl kr (fun z hz=>ZqM z (endO x) ((hO _ (nth_mem ow)).2.2 z hz) (endO_ok hrt hn))) func195 (Args.three .t (.pagg .t) (.conv .f (Ent.fnClos)))) r2 qz (qR rr (qf (Zh .t rfl) r1 qz (qf (Zh .t rfl) r1 qz (qO rr (qO rr qZ))))))))))))))) Z [8,4] [0] rfl rfl fun a w F G=>?_))
 try dsimp only [List.map,xD,xE,xT,xU,ldSF,Zaj,Zal,Zo,ZaB] at G
 try simp only [Yc] at G
 refine Za (Ya (rZ G (qR rr (qO rr qZ)) Z [4] [0] fun G=>Yh ?_))
 refine Zw hfr G rfl rfl rfl (.bool hg)
theorem Ztu {α:Type} [Inhabited α] {l:List α} {k j:Nat} {v:α} (h:j<l.length):Nn (l.set k v) j=if k=j then v else Nn l j:=by
 rw [nth_eq (by simpa using h),YbJ]
 split
 ·rfl
 ·exact (nth_eq h).symm
theorem Zj3 {hs:List Value} {L:List (List Z4)} {k:Nat} {v:Value} {l:List Z4} (h2:hs.length=L.length):Zel (hs.set k v) (L.set k l)=(Zel hs L).set k (v,l):=by
 apply YaT (by simp [Zel])
 intro j h3 h4
 have hj:j<hs.length:=by simpa [Zel] using h3
 simp only [Zel,YbF,List.getElem_range,YbJ]
 rw [Ztu hj,Ztu ow]
 split <;> rfl
def Zd9 (O I:List (List Z4)) (m:Nat) (x:Zu):List (List Z4)×List (List Z4)×Nat×Int:=
 if Zaz O.length x then if ZoA O x then (O,I,m,4) else (O.set x.src.toNat (insE (Nn O x.src.toNat) (endO x)),I.set x.dst.toNat (insE (Nn I x.dst.toNat) (endI x)),m+1,0) else (O,I,m,1)
theorem Zrf (b:Nat) (O I:List (List Z4)) (m:Nat) (x:Zu) (hO:Ztm O) (hI:Ztm I) (hOI:I.length=O.length) (hn:O.length≤4096) (hm:m<1000000):FnG prog 116 1 [.is (Value.pointer (some { block:=b,off:=0 })),.agg (ZaB x)] [Zow O I m (Value.pointer (some { block:=b,off:=0 }))] (.int .i64 (Zd9 O I m x).2.2.2) (fun _=>[Zow (Zd9 O I m x).1 (Zd9 O I m x).2.1 (Zd9 O I m x).2.2.1 (Value.pointer (some { block:=b,off:=0 }))]):=by
 refine FnG.mk func116 rfl ntmps116 rfl kr fun B F0 a w F Z hG G=>Ya ?_
 refine Zb G (qx 101 r1 (qI qZ)) Z [4,3,0] [101,1,0] (fun _=>rfl) (fun _=>rfl) fun τ a w F G=>?_
 try dsimp only [RS.sub,SF.sub,CF.sub,csub,Anc.sub,List.map,zCF,Zaj,Zal,Zo,ZaB] at G
 generalize τ 3=v3 at G
 refine Za (Ya (Yg (Ya (rZ G (qR rr (qe 4 101 r1 r1 (qf (OpC.lend 1 [8] Zhg (oP (ZhB O I m x) func154 (Args.two .t (.pagg .t))) ⟨rfl,tv,tv⟩ (.pv (fun _ _ _ _ h=>h)) trivial (by rfl)) r2 r1 (qf (o_not .t) r1 qz (qO rr qZ))))) Z [7,4,3,0] [101,1,0] fun G=>?_))))
 refine Zc G rfl (fun hc0=>?_) (fun hc0=>?_)
 ·have hrf:Zaz O.length x=false:=by simpa using hc0
  have hg:Zd9 O I m x=(O,I,m,1):=by unfold Zd9;rw [hrf];rfl
  refine Ya (rZ G (qI qZ) Z [4,3,0] [101,1,0] fun G=>(Yh (ZB (Zm ?_))))
  rw [hg]
  refine Za4 hG G rfl (.tmp rfl .nil) (.one .refl) rfl
 have hrt:Zaz O.length x=true:=by simpa using hc0
 obtain ⟨⟨hs1,hs2⟩,⟨hd1,hd2⟩,_⟩:=ZY.1 hrt
 refine Ya (rZ G (qR rr (qe 4 101 r1 r1 (qf (OpC.lend 1 [13] Zhg (oP (Zrw O I m x hO hn) func155 (Args.two .t (.pagg .t))) ⟨rfl,tv,tv⟩ (.pv (fun _ _ _ _ h=>h)) trivial (by rfl)) r2 r1 (qO rr qZ)))) Z [12,4,3,0] [101,1,0] fun G=>?_)
 refine Zc G rfl (fun hc1=>?_) (fun hc1=>?_)
 ·have hht:ZoA O x=true:=hc1
  have hg:Zd9 O I m x=(O,I,m,4):=by unfold Zd9;rw [hrt,hht];rfl
  refine Ya (rZ G (qI qZ) Z [4,3,0] [101,1,0] fun G=>(Yh (ZB (Zm ?_))))
  rw [hg]
  refine Za4 hG G rfl (.tmp rfl .nil) (.one .refl) rfl
 have hhf:ZoA O x=false:=hc1
 have hg:Zd9 O I m x=(O.set x.src.toNat (insE (Nn O x.src.toNat) (endO x)),I.set x.dst.toNat (insE (Nn I x.dst.toNat) (endI x)),m+1,0):=by unfold Zd9;rw [hrt,hhf];rfl
 refine Yf (Zk (Za (Ya (Zb G (qe 4 101 r1 r1 (qf (oP (Zkk x) func156 (Args.one (.pagg .t))) r1 qz (qR rr (qf (Zh .t rfl) r1 qz (qf (Zh .t rfl) r1 qz (qf (oH [.int .i64 0,.int .i64 0,.int .i64 0] 102) trivial qz (qf (oH [.int .i64 0,.int .i64 0,.int .i64 0] 103) trivial qz (qf (oA 3 102 .same (.conv .t .agg)) r2 r1 (qf (oA 3 103 .same (.conv .t .agg)) r2 r1 qZ))))))))) Z [6,5,4,3,0] [103,102,101,1,0] (fun _=>rfl) (fun _=>rfl) fun τ a w F G=>?_))))
 try dsimp only [RS.sub,SF.sub,CF.sub,csub,Anc.sub,List.map,Zf,xL,xM,Nat.reduceAdd,xD,xE,xT,xU,xC,xN,zCF,ldSF,Zaj,Zal,Zo,ZaB] at G
 generalize τ 5=v5,τ 6=v6 at G
 obtain ⟨ov,G⟩:=G.open_ex 1 rfl
 obtain ⟨iv,G⟩:=G.open_ex 1 rfl
 obtain ⟨F,G⟩:=G.peel 1 2 rfl rfl
 obtain ⟨F,G⟩:=G.peel 1 3 rfl rfl
 obtain ⟨F,G⟩:=G.peel 1 4 rfl rfl
 obtain ⟨hs,G⟩:=G.open_ex 3 rfl
 obtain ⟨hl1,G⟩:=G.open_and 3 rfl
 obtain ⟨F,G⟩:=G.peel 3 5 rfl rfl
 obtain ⟨F,G⟩:=G.peel 3 6 rfl rfl
 obtain ⟨js,G⟩:=G.open_ex 4 rfl
 obtain ⟨hl2,G⟩:=G.open_and 4 rfl
 obtain ⟨F,G⟩:=G.peel 4 7 rfl rfl
 obtain ⟨F,G⟩:=G.peel 4 8 rfl rfl
 obtain ⟨F,G⟩:=G.nM [6,5,4,3,0] [103,102,101,8,7,6,5,2,0]
 obtain ⟨F,G⟩:=G.takeAt ZlW 6 61 (x.src.toNat) rfl rfl (ZmH ow)
 replace G:=G.turn 61 rfl (r':=.ob (.val (Nn hs x.src.toNat)) (ZA 217 3 Zaj (Nn O x.src.toNat))) (fun _ _ _ _ h=>h)
 obtain ⟨F,G⟩:=G.nM [6,5,4,3,0] [103,102,101,61,8,7,6,5,2,0]
 obtain ⟨F,G⟩:=G.takeAt ZlW 8 62 (x.dst.toNat) rfl rfl (ZmH ow)
 replace G:=G.turn 62 rfl (r':=.ob (.val (Nn js x.dst.toNat)) (ZA 217 3 Zaj (Nn I x.dst.toNat))) (fun _ _ _ _ h=>h)
 obtain ⟨F,G⟩:=G.nM [6,5,4,3,0] [103,102,101,62,61,8,7,6,5,2,0]
 refine Za (Ya (ZbI G (qR rr (qf (Zs 2 .is (by rfl)) r1 r1 (qf (oF 0 2 .adr) r1 r1 (qa 2 r1 r1 (qg 0 101 r1 r1 (qa 101 r1 r1 (qR rr (qf (Zs 2 .is (by rfl)) r1 r1 (qf (oF 0 2 .adr) r1 r1 (qa 2 r1 r1 (qg 0 101 r1 r1 (qa 101 r1 r1 (qf (o_indexAddr_row (sz:=1) 5 (.mk Yb9 kr) .is .t ow ow (by rfl)) r2 r1 (qf (ZD (ag:=false) (sz':=1) (sz:=1) 5 .t (by intro x;rfl) ow kr kr kr) r1 r1 (qe 3 102 r1 r1 (qf (o_callRowN 61 (putE_c _ (Nn O x.src.toNat) (endO x) (hO _ (nth_mem ow)).1 (hO _ (nth_mem ow)).2.1 (hO _ (nth_mem ow)).2.2 (endO_ok hrt hn)) func157 rfl kr (Args.two .t (.pagg .t)) pvOne1) r2 r1 (qf (o_indexAddr_row (sz:=1) 5 (.mk Yb9 kr) .is .t ow ow (by rfl)) r2 r1 (qf (ZjJ (i:=36) (j:=36) (by rfl) (fun z=>ZU (R:=rV) (sz:=1) (v:=z) 5 .t (by intro x;rfl) ow .t rfl one_is kr)) r2 r1 qZ)))))))))))))))))) Z [6,4,3,0] [103,101,62,61,8,7,6,5,2,0] (fun _=>rfl) (fun _=>rfl) fun τ a w F G=>?_))
 try dsimp only [RS.sub,SF.sub,CF.sub,csub,Anc.sub,List.map,Zf,xL,xM,Nat.reduceAdd,xD,xE,xT,xU,xC,xN,zCF,ldSF,Zaj,Zal,Zo,ZaB] at G
 generalize τ 36=v36 at G
 try simp only [Yc] at G
 replace G:=G.turn 61 rfl (r':=RS.hp (ZlW (v36,insE (Nn O x.src.toNat) (endO x)))) (fun _ _ _ _ h=>h)
 obtain ⟨F,G⟩:=G.putAt ZlW (L:=Zel hs O) (x:=(v36,insE (Nn O x.src.toNat) (endO x))) 6 61 (x.src.toNat) (by rw [Zky];omega) rfl rfl rfl
 rw [← Zj3 ow] at G
 obtain ⟨F,G⟩:=G.nM [6,4,3,0] [103,101,62,8,7,6,5,2,0]
 refine Za (Ya (ZbI G (qR rr (qf (Zs 2 .is (by rfl)) r1 r1 (qf (oF 1 2 .adr) r1 r1 (qa 2 r1 r1 (qg 1 101 r1 r1 (qa 101 r1 r1 (qR rr (qf (Zs 2 .is (by rfl)) r1 r1 (qf (oF 1 2 .adr) r1 r1 (qa 2 r1 r1 (qg 1 101 r1 r1 (qa 101 r1 r1 (qf (o_indexAddr_row (sz:=1) 7 (.mk Yb9 kr) .is .t ow ow (by rfl)) r2 r1 (qf (ZD (ag:=false) (sz':=1) (sz:=1) 7 .t (by intro x;rfl) ow kr kr kr) r1 r1 (qe 3 103 r1 r1 (qf (o_callRowN 62 (putE_c _ (Nn I x.dst.toNat) (endI x) (hI _ (nth_mem ow)).1 (hI _ (nth_mem ow)).2.1 (hI _ (nth_mem ow)).2.2 (endI_ok hrt hn)) func157 rfl kr (Args.two .t (.pagg .t)) pvOne1) r2 r1 (qf (o_indexAddr_row (sz:=1) 7 (.mk Yb9 kr) .is .t ow ow (by rfl)) r2 r1 (qf (ZjJ (i:=53) (j:=53) (by rfl) (fun z=>ZU (R:=rV) (sz:=1) (v:=z) 7 .t (by intro x;rfl) ow .t rfl one_is kr)) r2 r1 qZ)))))))))))))))))) Z [4,0] [62,8,7,6,5,2,0] (fun _=>rfl) (fun _=>rfl) fun τ a w F G=>?_))
 try dsimp only [RS.sub,SF.sub,CF.sub,csub,Anc.sub,List.map,Zf,xL,xM,Nat.reduceAdd,xD,xE,xT,xU,xC,xN,zCF,ldSF,Zaj,Zal,Zo,ZaB] at G
 generalize τ 53=v53 at G
 try simp only [Yc] at G
 replace G:=G.turn 62 rfl (r':=RS.hp (ZlW (v53,insE (Nn I x.dst.toNat) (endI x)))) (fun _ _ _ _ h=>h)
 obtain ⟨F,G⟩:=G.putAt ZlW (L:=Zel js I) (x:=(v53,insE (Nn I x.dst.toNat) (endI x))) 8 62 (x.dst.toNat) (by rw [Zky];omega) rfl rfl rfl
 rw [← Zj3 ow] at G
 obtain ⟨F,G⟩:=G.nM [4,0] [8,7,6,5,2,0]
 refine Za (Ya (rZ G (qR rr (qf (Zs 2 .is (by rfl)) r1 r1 (qf (oF 2 2 .adr) r1 r1 (qa 2 r1 r1 (qp r1 (qf (Zs 2 .is (by rfl)) r1 r1 (qf (oF 2 2 .adr) r1 r1 (qf (Zbd 2 .adr .t one_int kr kr) r2 r1 qZ)))))))) Z [4] [8,7,6,5,2,0] fun G=>Ya ?_))
 refine rZ G (qI qZ) Z [4] [8,7,6,5,2,0] fun G=>Yh ?_
 rw [Zd ow] at G
 have hl3:(hs.set x.src.toNat v36).length=(O.set x.src.toNat (insE (Nn O x.src.toNat) (endO x))).length:=by simp [hl1]
 have hl4:(js.set x.dst.toNat v53).length=(I.set x.dst.toNat (insE (Nn I x.dst.toNat) (endI x))).length:=by simp [hl2]
 have G:=G.fresh 3 rfl
 have G:=G.fresh 4 rfl
 have G:=G.fresh 1 rfl
 obtain ⟨F,G⟩:=G.push 3 6 rfl rfl rfl kr
 obtain ⟨F,G⟩:=G.push 3 5 rfl rfl rfl kr
 obtain ⟨F,G⟩:=G.push 4 8 rfl rfl rfl kr
 obtain ⟨F,G⟩:=G.push 4 7 rfl rfl rfl kr
 have G:=G.turn 3 rfl (r':=RS.hp (ZiN _ ov)) (fun _ _ _ _ h=>⟨_,hl3,h⟩)
 have G:=G.turn 4 rfl (r':=RS.hp (ZiN _ iv)) (fun _ _ _ _ h=>⟨_,hl4,h⟩)
 obtain ⟨F,G⟩:=G.push 1 4 rfl rfl rfl kr
 obtain ⟨F,G⟩:=G.push 1 3 rfl rfl rfl kr
 obtain ⟨F,G⟩:=G.push 1 2 rfl rfl rfl kr
 have G:=G.turn 1 rfl (r':=RS.hp (Zow (Zd9 O I m x).1 (Zd9 O I m x).2.1 (Zd9 O I m x).2.2.1 (Value.pointer (some { block:=b,off:=0 })))) (fun _ _ _ _ h=>by rw [hg];exact ⟨_,_,h⟩)
 refine Za4 hG G rfl (.tmp rfl .nil) (.one (.int (by rw [hg]))) rfl
end Go.Proofs.YtlkpllemoepamaaGreat
