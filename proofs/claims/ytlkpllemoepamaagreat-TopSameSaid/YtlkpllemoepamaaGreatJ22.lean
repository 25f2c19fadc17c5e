/- Texts put together. No condition beyond those that each theorem says. -/
import Derived.Test.YtlkpllemoepamaaGreatJ21
import Derived.Test.YtlkpllemoepamaaGreatJ14
import Derived.Test.YtlkpllemoepamaaGreatJ8
import Derived.Test.YtlkpllemoepamaaGreatJ7
namespace Go.Proofs.YtlkpllemoepamaaGreat
open Go Go.Gm Tryz
set_option linter.unusedVariables false
set_option linter.unusedSimpArgs false
set_option maxHeartbeats 4000000
set_option maxRecDepth 8000
def Zfo (l:List Zg):Bool:=decide ((∀ q,q<l.length→(Nn l q).dst=(Nn l ((q+1) % l.length)).src)∧0<l.length)
def Zex (t:TxD) (key:Int) (p:Zcg→Bool):Bool:=t.ops.any fun o=>((o.read && decide (o.key=key)) && !decide (o.tx=t.id)) && p (ofO o)
def ZoC (g:Zt) (e:Zg):Bool:=if e.kind=1 then Zj9 g e.key e.src e.dst else if e.kind=2 then Zex ((Zaj g.txs e.dst).getD zeroT) e.key (fun v=>decide (v.tx=e.src) && Zee g v) else if e.kind=3 then Zex ((Zaj g.txs e.src).getD zeroT) e.key (fun v=>Zee g v && Zj9 g e.key v.tx e.dst) else false
def ZeG (g:Zt) (e:Zg):Bool:=!((!ZjN g e.src || !ZjN g e.dst) || decide (e.src=e.dst)) && ZoC g e
theorem ZpJ (l:List Zg) (hl:l.length≤1000000):FnP prog 14 [.sl Zp l] (.bool (Zfo l)):=by
 refine FnP.mk func14 rfl ntmps14 rfl fun B a w F V hfr G=>Ya ?_
 refine rZ G qB V [2,0] [0] fun G=>(Ya (Ya ?_))
 refine rZ G (qR rr (qu underlying31 r1 (qJ qZ))) V [7,6,5,2,0] [0] fun G=>Yg ?_
 refine Zl (σ:=(Nat)) [0,2,5,6] [0] (fun s=>[(7,.pv (.int .i64 (s:Int)))]) (fun s=>[]) (fun s=>s≤l.length∧(∀ q,q<s→(Nn l q).dst=(Nn l ((q+1) % l.length)).src)) (fun s=>l.length - s) (0) G ⟨rfl,rfl,rfl,rfl,rfl,tv⟩ ⟨rfl,tv⟩ ⟨Yv _,fun q hq=>absurd hq (YX q)⟩ ?_
 clear G;intro i a w F hC G
 try dsimp only at hC
 obtain ⟨F,G⟩:=G.nM [7,6,5,2,0] [0]
 try dsimp only at G
 obtain ⟨hi,hq⟩:=hC
 refine Ya (rZ G (qL r2) V [8,7,6,5,2,0] [0] fun G=>Ya ?_)
 refine Zc G rfl (fun hc0=>?_) (fun hc0=>?_)
 ·have hil:i<l.length:=by simp at hc0;omega
  have hml:(i+1) % l.length<l.length:=Ybn _ ow
  have hmi:(IntKind.wrap .i64 ((i:Int)+1)).tmod (l.length:Int)=(((i+1) % l.length:Nat):Int):=by rw [Zd ow,Int.tmod_eq_emod_of_nonneg ow];rfl
  refine Ye (Za (Ya (Yg (Ya (Zb G (qR rr (qy 4 underlying31 r2 (qf (oR true 4 .t) r1 qz (qf (oH [.int .i64 0,.int .i64 0,.int .i64 0,.int .i64 0] 101) trivial qz (qO rr (qS 4 101 r2 r1 qZ)))))) V [7,6,5,4,3,2,0] [101,0] (fun _=>rfl) (fun _=>rfl) fun τ a w F G=>?_)))))
  try dsimp only [RS.sub,SF.sub,CF.sub,csub,Anc.sub,List.map,Ze,xL,xM,Nat.reduceAdd,xD,xE,xT,xU,xC,xN,zCF,ldSF,Zp] at G
  generalize τ 4=v4 at G
  try simp only [Yb] at G
  refine Za (Ya (Zx G (qg 1 101 r1 r1 (qa 101 r1 r1 (qR rr (qR rr (qp r1 (qR rr (qu underlying31 r1 (qf (ZuC .t .t ow) r2 qz (qf (o_indexAddr_sl (sz:=4) (.mk underlying31 kr) (by intro x;rfl) .t .t (by rw [hmi];omega) (by rw [hmi];omega)) r2 qz (qf (oG 0 .t) r1 qz (qf (oR false 1 .t) r1 qz (qf (o_neq .t .t) r2 qz qZ)))))))))))) V [23,7,6,5,2,0] [0] rfl rfl fun a w F G=>?_))
  try dsimp only [List.map,xD,xE,xT,xU,ldSF,Zp] at G
  try simp only [Yb] at G
  rw [hmi,Yb] at G
  refine Za (Zc G rfl (fun hc1=>?_) (fun hc1=>?_))
  ·have hg:false=Zfo l:=by unfold Zfo;rw [Yaj,Yz];intro h9;have h8:=hc1;rw [h9.1 i hil] at h8;simp at h8
   refine Ya (rZ G qB V [7,6,5,2,0] [0] fun G=>(Yh (Zu (Zk (Zk (Zu (Zk ?_)))))))
   refine Zo hfr G rfl rfl rfl (.bool hg)
  have hne:(Nn l i).dst=(Nn l ((i+1) % l.length)).src:=by simpa using hc1
  refine Ye (Zj (Za (rZ G (qp r1 (qR rr qZ)) V [7,6,5,2,0] [0] fun G=>?_)))
  replace G:=G.ent (i:=7) (s':=.pv (.int .i64 ((i+1:Nat):Int))) rfl (.int (Zd ow))
  obtain ⟨F,G⟩:=G.nM [6,5,2,0,7] [0]
  exact ⟨(i+1),F,⟨by omega,(fun q h9=>by rcases YS (YY h9) with h8 | h8;exact hq q h8;rw [h8];exact hne)⟩,G,by omega⟩
 have hil:i=l.length:=by simp at hc0;omega
 have hg:decide ((0:Int)<(l.length:Int))=Zfo l:=by unfold Zfo;rw [decide_eq_decide];constructor;exact fun h9=>⟨by rw [hil] at hq;exact hq,by omega⟩;exact fun h9=>by have:=h9.2;omega
 refine Yw (Zi (Zi (Zn (Za (Ya (rZ G (qR rr (qu underlying31 r1 (qf (ZaU .t qi) r1 qz (qO rr qZ)))) V [2] [0] fun G=>Yh ?_))))))
 refine Zo hfr G rfl rfl rfl (.bool hg)
theorem ZkL (t : TxD) (key : Int) (ht : t.ops.length ≤ 1000000) (p : Zcg → Bool) (f : FuncId) (fn : Func) (cps : List PV) (hf : prog.funcs[f]? = some fn) (hb : fn.body.isSome = true) (hnn : (fn.name == "runtime.NumGoroutine") = false) (hw : ∀ v : Zcg, FnP prog f (.agg (ZS v) :: cps) (.bool (p v))) : FnP prog 82 [.agg (rTx t), .int .i64 key, .clos f cps] (.bool (Zex t key p)) := by
 refine FnP.mk func82 rfl ntmps82 rfl fun B a w F V hfr G=>Ya ?_
 refine Zb G (qx 101 r1 qB) V [6,3,2,1] [101,0] (fun _=>rfl) (fun _=>rfl) fun τ a w F G=>?_
 try dsimp only [RS.sub,SF.sub,CF.sub,csub,Anc.sub,List.map,zCF,rTx,rOp,ZS] at G
 generalize τ 3=v3 at G
 refine Za (Ya (Ya (rZ G (qg 2 101 r1 r1 (qa 101 r1 r1 (qu underlying28 r1 (qJ qZ)))) V [12,11,10,6,3,2,1] [101,0] fun G=>Yg ?_)))
 refine Zl (σ:=(Nat)) [1,2,3,6,10,11] [0,101] (fun s=>[(12,.pv (.int .i64 (s:Int)))]) (fun s=>[]) (fun s=>s≤t.ops.length∧(∀ q,q<s→(fun o:OpD=>((o.read && decide (o.key=key)) && !decide (o.tx=t.id)) && p (ofO o)) (Nn t.ops q)=false)) (fun s=>t.ops.length - s) (0) G ⟨rfl,rfl,rfl,rfl,rfl,rfl,rfl,tv⟩ ⟨rfl,rfl,tv⟩ ⟨Yv _,fun q hq=>absurd hq (YX q)⟩ ?_
 clear G;intro i a w F hC G
 try dsimp only at hC
 obtain ⟨F,G⟩:=G.nM [12,11,10,6,3,2,1] [101,0]
 try dsimp only at G
 obtain ⟨hi,hq⟩:=hC
 refine Ya (rZ G (qL r2) V [13,12,11,10,6,3,2,1] [101,0] fun G=>Ya ?_)
 refine Zc G rfl (fun hc0=>?_) (fun hc0=>?_)
 ·skip
  have hil:i<t.ops.length:=by simp at hc0;omega
  refine Ye (Za (Ya (Yg (Ya (Zb G (qy 4 underlying28 r2 (qf (oR true 4 .t) r1 qz (qf (oH [.bool false,.int .i64 0,.int .i64 0,.int .i64 0] 102) trivial qz (qS 4 102 r2 r1 qZ)))) V [12,11,10,8,6,3,2,1] [102,101,0] (fun _=>rfl) (fun _=>rfl) fun τ a w F G=>?_)))))
  try dsimp only [RS.sub,SF.sub,CF.sub,csub,Anc.sub,List.map,Ze,xL,xM,Nat.reduceAdd,xD,xE,xT,xU,xC,xN,zCF,ldSF,rTx,rOp,ZS] at G
  generalize τ 8=v8 at G
  try simp only [Yb] at G
  refine Za (Ya (rZ G (qg 0 102 r1 r1 (qa 102 r1 r1 (qR rr (qv 1 102 rfl r2 r1 (qw 102 rfl r2 r1 (qm rfl rfl rfl rfl (qk rfl (fun h=>o_eql (.w h) (.w h)) r3 qz (qf (ZD .t .t) r2 qz (qR rr (qv 2 102 rfl r2 r1 (qw 102 rfl r2 r1 (qv 0 101 rfl r2 r1 (qw 101 rfl r2 r1 (qk rfl (fun h=>o_neq (.w h) (.w h)) r3 qz (qf (ZD .t .t) r2 qz (qR rr (qm rfl rfl rfl rfl (qk rfl (fun h=>oL true 4 102 .is) r2 r1 (qk rfl (fun h=>oP (Zlp (Nn t.ops i)) func120 (Args.one (.pagg (.w h)))) r2 qz (qk rfl (fun h=>ZN (avs:=[.agg (ZS (ofO (Nn t.ops i)))]) (.w h) (hw (ofO (Nn t.ops i))) hf hb hnn (Args.one (.w h))) r3 qz (qf (ZD .t .t) r2 qz qZ))))))))))))))))))))) V [36,12,11,10,6,3,2,1] [102,101,0] fun G=>?_))
  refine Zc G rfl (fun hc1=>?_) (fun hc1=>?_)
  ·skip
   have hg:true=Zex t key p:=(YaV.2 ⟨(Nn t.ops i),nth_mem hil,hc1⟩).symm
   refine Ya (rZ G qB V [12,11,10,6,3,2,1] [102,101,0] fun G=>(Yh (Zu (Zk (Zk (Zu (Zk ?_)))))))
   refine Zo hfr G rfl rfl rfl (.bool hg)
  have hne:(fun o:OpD=>((o.read && decide (o.key=key)) && !decide (o.tx=t.id)) && p (ofO o)) (Nn t.ops i)=false:=hc1
  refine Ye (Zj (Za (rZ G (qp r1 (qR rr qZ)) V [12,11,10,6,3,2,1] [102,101,0] fun G=>?_)))
  replace G:=G.ent (i:=12) (s':=.pv (.int .i64 ((i+1:Nat):Int))) rfl (.int (Zd ow))
  obtain ⟨F,G⟩:=G.nM [11,10,6,3,2,1,12] [101,0]
  exact ⟨(i+1),F,⟨by omega,(fun q h9=>by rcases YS (YY h9) with h8 | h8;exact hq q h8;rw [h8];exact hne)⟩,G,by omega⟩
 have hil:i=t.ops.length:=by simp at hc0;omega
 have hg:false=Zex t key p:=by unfold Zex;rw [Yaj,List.any_eq_false];intro o ho;obtain ⟨q,h8,rfl⟩:=YaZ.1 ho;rw [← nth_eq h8,Bool.not_eq_true];exact hq q ow
 refine Yw (Zi (Zi (Zn (Za (Ya (rZ G qB V [6] [101,0] fun G=>Yh ?_))))))
 refine Zo hfr G rfl rfl rfl (.bool hg)
theorem Zql (g:Zt) (e:Zg) (v:Zcg) (hs:Zbc g):FnP prog 83 [.agg (ZS v),.ref (Zp e),.ref [.sl rTx g.txs,.sl ZP g.orders]] (.bool (decide (v.tx=e.src) && Zee g v)):=by
 refine FnP.mk func83 rfl ntmps83 rfl fun B a w F V hfr G=>Ya ?_
 refine Zb G (qx 101 r1 qB) V [4,3,2,1] [101,0] (fun _=>rfl) (fun _=>rfl) fun τ a w F G=>?_
 try dsimp only [RS.sub,SF.sub,CF.sub,csub,Anc.sub,List.map,zCF,Zs,rTx,ZP,ZS,rInt,rOp,Zp] at G
 generalize τ 3=v3 at G
 refine Za (Ya (rZ G (qg 0 101 r1 r1 (qa 101 r1 r1 (qf (oG 0 .t) r1 qz (qf (oR false 1 .t) r1 qz (qf (o_eql .t .t) r2 qz (qR rr (qk rfl (fun h=>oR true 2 .t) r2 qz (qk rfl (fun h=>oL true 3 101 .is) r2 r1 (qk rfl (fun h=>oP (Zm7 g v hs.1) func84 (Args.two (.pagg (.w h)) (.pagg (.w h)))) r3 qz (qf (ZD .t .t) r2 qz (qO rr qZ))))))))))) V [4] [101,0] fun G=>Yh ?_))
 refine Zo hfr G rfl rfl rfl (.bool rfl)
theorem Zq0 (g:Zt) (e:Zg) (v:Zcg) (hs:Zbc g):FnP prog 85 [.agg (ZS v),.ref [.sl rTx g.txs,.sl ZP g.orders],.ref (Zp e)] (.bool (Zee g v && Zj9 g e.key v.tx e.dst)):=by
 refine FnP.mk func85 rfl ntmps85 rfl fun B a w F V hfr G=>Ya ?_
 refine Zb G (qx 101 r1 qB) V [4,3,2,1] [101,0] (fun _=>rfl) (fun _=>rfl) fun τ a w F G=>?_
 try dsimp only [RS.sub,SF.sub,CF.sub,csub,Anc.sub,List.map,zCF,Zs,rTx,ZP,ZS,rInt,rOp,Zp] at G
 generalize τ 3=v3 at G
 refine Za (Ya (rZ G (qf (oR true 2 .t) r1 qz (qe 3 101 r1 r1 (qf (oP (Zm7 g v hs.1) func84 (Args.two (.pagg .t) (.pagg .t))) r2 qz (qR rr (qk rfl (fun h=>oR true 2 .t) r2 qz (qk rfl (fun h=>oG 3 .t) r2 qz (qk rfl (fun h=>oR false 1 (.w h)) r2 qz (qv 0 101 rfl r2 r1 (qw 101 rfl r2 r1 (qk rfl (fun h=>oG 1 .t) r2 qz (qk rfl (fun h=>oR false 1 (.w h)) r2 qz (qk rfl (fun h=>oP (Zo9 g e.key v.tx e.dst hs) func81 (Args.four (.pagg (.w h)) (.w h) (.w h) (.w h))) r5 qz (qf (ZD .t .t) r2 qz (qO rr qZ)))))))))))))) V [4] [101,0] fun G=>Yh ?_))
 refine Zo hfr G rfl rfl rfl (.bool rfl)
theorem Zt6 (g:Zt) (e:Zg) (hs:Zbc g):FnP prog 43 [.agg (Zs g),.agg (Zp e)] (.bool (ZeG g e)):=by
 refine FnP.mk func43 rfl ntmps43 rfl fun B a w F V hfr G=>Ya ?_
 refine Zb G (qx 101 r1 (qx 102 r1 qB)) V [4,3,2] [102,101,0] (fun _=>rfl) (fun _=>rfl) fun τ a w F G=>?_
 try dsimp only [RS.sub,SF.sub,CF.sub,csub,Anc.sub,List.map,zCF,Zs,rTx,ZP,ZS,rInt,rOp,Zp] at G
 generalize τ 2=v2 at G
 generalize τ 3=v3 at G
 obtain ⟨F,G⟩:=G.giveRef 101 2 rfl rfl rfl
 obtain ⟨F,G⟩:=G.nM [4,3,2] [102,0]
 try dsimp only [Go.Gm.unCF] at G
 obtain ⟨F,G⟩:=G.giveRef 102 3 rfl rfl rfl
 obtain ⟨F,G⟩:=G.nM [4,3,2] [0]
 try dsimp only [Go.Gm.unCF] at G
 refine Za (Ya (Zb G (qf (oR true 2 .t) r1 qz (qf (oG 0 .t) r1 qz (qf (oR false 1 .t) r1 qz (qf (oP (ZjD g e.src hs.1) func80 (Args.two (.pagg .t) .t)) r2 qz (qR rr (qf (Zh .t rfl) r1 qz (qf (Zh .t rfl) r1 qz (qf (oH [.int .i64 0,.bool false,.slice none 0 0] 103) trivial qz (qf (oA 3 103 .same (.conv .t .agg)) r2 r1 (qO rr qZ)))))))))) V [6,5,4,3,2] [103,0] (fun _=>rfl) (fun _=>rfl) fun τ a w F G=>?_))
 try dsimp only [RS.sub,SF.sub,CF.sub,csub,Anc.sub,List.map,Ze,xL,xM,Nat.reduceAdd,xD,xE,xT,xU,xC,xN,zCF,ldSF,Zs,rTx,ZP,ZS,rInt,rOp,Zp] at G
 generalize τ 5=v5 at G
 refine Za (Ya (Zb G (qf (oR true 2 .t) r1 qz (qf (oG 1 .t) r1 qz (qf (oR false 1 .t) r1 qz (qf (oP (ZjD g e.dst hs.1) func80 (Args.two (.pagg .t) .t)) r2 qz (qR rr (qf (Zh .t rfl) r1 qz (qf (Zh .t rfl) r1 qz (qf (oH [.int .i64 0,.bool false,.slice none 0 0] 104) trivial qz (qf (oA 3 104 .same (.conv .t .agg)) r2 r1 (qO rr qZ)))))))))) V [8,7,6,5,4,3,2] [104,103,0] (fun _=>rfl) (fun _=>rfl) fun τ a w F G=>?_))
 try dsimp only [RS.sub,SF.sub,CF.sub,csub,Anc.sub,List.map,Ze,xL,xM,Nat.reduceAdd,xD,xE,xT,xU,xC,xN,zCF,ldSF,Zs,rTx,ZP,ZS,rInt,rOp,Zp] at G
 generalize τ 7=v7 at G
 refine Za (Ya (Ya (rZ G (qR rr (qf (o_not .t) r1 qz (qR rr (qm rfl rfl rfl rfl (qk rfl (fun h=>o_not (.w h)) r2 qz (qf (Zam .t .t) r2 qz (qR rr (qk rfl (fun h=>oG 0 .t) r2 qz (qk rfl (fun h=>oR false 1 (.w h)) r2 qz (qk rfl (fun h=>oG 1 .t) r2 qz (qk rfl (fun h=>oR false 1 (.w h)) r2 qz (qk rfl (fun h=>o_eql (.w h) (.w h)) r3 qz (qf (Zam .t .t) r2 qz qZ))))))))))))) V [35,7,5,4,3,2] [104,103,0] fun G=>?_)))
 refine Zc G rfl (fun hc0=>?_) (fun hc0=>?_)
 ·have hg:false=ZeG g e:=by unfold ZeG;rw [hc0];rfl
  refine Ya (rZ G qB V [7,5,4,3,2] [104,103,0] fun G=>(Yh (Zk ?_)))
  refine Zo hfr G rfl rfl rfl (.bool hg)
 have hF:((!ZjN g e.src || !ZjN g e.dst) || decide (e.src=e.dst))=false:=hc0
 refine Ye (Za (Ya (Ya (rZ G (qf (oG 2 .t) r1 qz (qf (oR false 1 .t) r1 qz qZ)) V [37,7,5,4,3,2] [104,103,0] fun G=>(Yg (Ya ?_))))))
 refine rZ G (qf (o_eql .t qi) r1 qz (qO rr qZ)) V [38,37,7,5,4,3,2] [104,103,0] fun G=>?_
 refine Zc G rfl (fun hc1=>?_) (fun hc1=>?_)
 ·have hk1:e.kind=1:=Yt hc1
  have hg:Zj9 g e.key e.src e.dst=ZeG g e:=by unfold ZeG ZoC;rw [hF,Yf hk1];rfl
  refine Ya (rZ G (qf (oR true 2 .t) r1 qz (qf (oG 3 .t) r1 qz (qf (oR false 1 .t) r1 qz (qf (oG 0 .t) r1 qz (qf (oR false 1 .t) r1 qz (qf (oG 1 .t) r1 qz (qf (oR false 1 .t) r1 qz (qf (oP (Zo9 g e.key e.src e.dst hs) func81 (Args.four (.pagg .t) .t .t .t)) r4 qz (qO rr qZ))))))))) V [4] [104,103,0] fun G=>(Yh (Zu (Zk ?_))))
  refine Zo hfr G rfl rfl rfl (.bool hg)
 have hn1:¬ e.kind=1:=YG hc1
 refine Ya (rZ G (qf (o_eql .t qi) r1 qz (qO rr qZ)) V [48,37,7,5,4,3,2] [104,103,0] fun G=>?_)
 refine Zc G rfl (fun hc2=>?_) (fun hc2=>?_)
 ·have hk2:e.kind=2:=Yt hc2
  have hg:Zex ((Zaj g.txs e.dst).getD zeroT) e.key (fun v=>decide (v.tx=e.src) && Zee g v)=ZeG g e:=by unfold ZeG ZoC;rw [hF,Yc hn1,Yf hk2];rfl
  refine Ya (rZ G (qe 3 104 r1 r1 (qf (oG 3 .t) r1 qz (qf (oR false 1 .t) r1 qz (qf (ZaH (Args.two .t .t)) r2 qz (qf (oP (ZkL ((Zaj g.txs e.dst).getD zeroT) e.key (Zhi hs.1 _) (fun v=>decide (v.tx=e.src) && Zee g v) 83 f83 [.ref (Zp e),.ref [.sl rTx g.txs,.sl ZP g.orders]] func83 rfl kr (fun v=>Zql g e v hs)) func82 (Args.three (.pagg .t) .t .t)) r3 qz (qO rr qZ)))))) V [4] [104,103,0] fun G=>(Yh (Zu (Zk ?_))))
  refine Zo hfr G rfl rfl rfl (.bool hg)
 have hn2:¬ e.kind=2:=YG hc2
 refine Ya (rZ G (qf (o_eql .t qi) r1 qz (qO rr qZ)) V [55,5,4,3,2] [104,103,0] fun G=>?_)
 refine Zc G rfl (fun hc3=>?_) (fun hc3=>?_)
 ·have hk3:e.kind=3:=Yt hc3
  have hg:Zex ((Zaj g.txs e.src).getD zeroT) e.key (fun v=>Zee g v && Zj9 g e.key v.tx e.dst)=ZeG g e:=by unfold ZeG ZoC;rw [hF,Yc hn1,Yc hn2,Yf hk3];rfl
  refine Ya (rZ G (qe 3 103 r1 r1 (qf (oG 3 .t) r1 qz (qf (oR false 1 .t) r1 qz (qf (ZaH (Args.two .t .t)) r2 qz (qf (oP (ZkL ((Zaj g.txs e.src).getD zeroT) e.key (Zhi hs.1 _) (fun v=>Zee g v && Zj9 g e.key v.tx e.dst) 85 f85 [.ref [.sl rTx g.txs,.sl ZP g.orders],.ref (Zp e)] func85 rfl kr (fun v=>Zq0 g e v hs)) func82 (Args.three (.pagg .t) .t .t)) r3 qz (qO rr qZ)))))) V [4] [104,103,0] fun G=>(Yh (Zu (Zk ?_))))
  refine Zo hfr G rfl rfl rfl (.bool hg)
 have hn3:¬ e.kind=3:=YG hc3
 have hg:false=ZeG g e:=by unfold ZeG ZoC;rw [hF,Yc hn1,Yc hn2,Yc hn3];rfl
 refine Ye (Zj (Za (Ya (rZ G qB V [4] [104,103,0] fun G=>Yh ?_))))
 refine Zo hfr G rfl rfl rfl (.bool hg)
def Zh2:Zp4:=⟨5,[⟨1,2,3,1⟩,⟨2,1,3,2⟩],ZrJ⟩
theorem ZlZ:∀ i:Nat,i<Zh2.walk.length→ZeG ZdI (Nn Zh2.walk i)=true:=fun i hi=>by
 rcases (show i=0∨i=1 by have:Zh2.walk.length=2:=rfl;omega) with rfl | rfl <;> decide +kernel
theorem ZuI  : FnP prog 33 [.agg (Zs ZdI),.agg (Zka Zh2)] (.bool true):=by
 refine FnP.mk func33 rfl ntmps33 rfl fun B a w F V hfr G=>Ya ?_
 refine Zb G (qx 101 r1 (qx 102 r1 qB)) V [4,3,2] [102,101,0] (fun _=>rfl) (fun _=>rfl) fun τ a w F G=>?_
 try dsimp only [RS.sub,SF.sub,CF.sub,csub,Anc.sub,List.map,zCF,Zs,rTx,ZP,ZS,rInt,rOp,Zp,Zka] at G
 generalize τ 2=v2 at G
 generalize τ 3=v3 at G
 refine Za (Ya (Ya (rZ G (qe 2 101 r1 r1 (qf (oP (ZeT ZdI Zc5.1) func19 (Args.one (.pagg .t))) r1 qz (qf (o_not .t) r1 qz qZ))) V [13,4,3,2] [102,101,0] fun G=>?_)))
 refine Zc G rfl (fun hc0=>?_) (fun hc0=>?_)
 ·exact absurd hc0 (by decide +kernel)
 refine Ye (Za (Ya (Zb G (qe 2 101 r1 r1 (qf (oB [(0,.tmp 14)] [.slice none 0 0,.slice none 0 0] [(0,2)] (.agg rfl .t kr kr .nil)) r1 qz (qf (oH [.slice none 0 0,.slice none 0 0] 103) trivial qz (qS 2 103 r2 r1 qZ)))) V [5,4,3] [103,102,101,0] (fun _=>rfl) (fun _=>rfl) fun τ a w F G=>?_)))
 try dsimp only [RS.sub,SF.sub,CF.sub,csub,Anc.sub,List.map,Ze,xL,xM,Nat.reduceAdd,xD,xE,xT,xU,xC,xN,zCF,ldSF,Zs,rTx,ZP,ZS,rInt,rOp,Zp,Zka] at G
 generalize τ 5=v5 at G
 refine Za (Ya (Ya (rZ G (qg 0 102 r1 r1 (qa 102 r1 r1 qZ)) V [17,5,4,3] [103,102,101,0] fun G=>(Yg (Ya (Ya ?_))))))
 refine rZ G (qf (o_eql .t qi) r1 qz (qO rr qZ)) V [18,17,5,4,3] [103,102,101,0] fun G=>?_
 refine Zc G rfl (fun hc1=>?_) (fun hc1=>?_)
 ·exact absurd hc1 (by decide)
 refine rZ G (qf (o_eql .t qi) r1 qz (qO rr qZ)) V [18,5,4,3] [103,102,101,0] fun G=>?_
 refine Zc G rfl (fun hc2=>?_) (fun hc2=>?_)
 ·exact absurd hc2 (by decide)
 refine Ye (Zj (Za (Ya (rZ G (qg 0 102 r1 r1 (qa 102 r1 r1 (qf (oP (Zkd Zh2.phen) func68 (Args.one .t)) r1 qz (qR rr (qf (Zh .t rfl) r1 qz (qf (Zh .t rfl) r1 qz (qO rr (qO rr qZ)))))))) V [7,6,5,4,3] [103,102,101,0] fun G=>Ya ?_))))
 refine rZ G (qg 1 102 r1 r1 (qa 102 r1 r1 (qf (oP (ZsX Zh2.walk (by decide)) func71 (Args.one .t)) r1 qz (qO rr qZ)))) V [8,7,6,5,4,3] [103,102,101,0] fun G=>(Ya (Ya ?_))
 refine Zf G (qR rr (qf (o_eql .t qi) r1 qz (qR rr (qv 2 102 rfl r2 r1 (qk rfl (fun h=>oL true 5 102 (.w h .adr)) r2 r1 (qk rfl (fun h=>Zkc (r:=[]) (zs:=[.int .i64 0,.int .i64 0,.int .i64 0,.int .i64 0,.int .i64 0]) (pl:=[(0,1),(1,1),(2,3)]) kr kr .nil (by rfl)) r1 qz (qk rfl (fun h=>ZuA (ks:=[true,true,true,true,true]) kr (.w h) (.w h) (.int (.int (.int (.int (.int .nil)))))) r3 qz (qf (Zam .t .t) r2 qz (qR rr (qv 1 102 rfl r2 r1 (qw 102 rfl r2 r1 (qk rfl (fun h=>oP (ZpJ Zh2.walk (by decide)) func14 (Args.one (.w h))) r2 qz (qk rfl (fun h=>o_not (.w h)) r2 qz (qf (Zam .t .t) r2 qz (qR rr (qm rfl rfl rfl rfl (qm rfl rfl rfl rfl (qk rfl (fun h=>Zkz (.w h) (.w h)) r3 qz (qk rfl (fun h=>o_neq (.w h) qi) r2 qz (qf (Zam .t .t) r2 qz (qR rr (qm rfl rfl rfl rfl (qk rfl (fun h=>o_neq (.w h) qi) r2 qz (qk rfl (fun h=>oM (.w h)) r2 qz (Zz.cons (ZaB.cond2 rfl rfl (fun h=>Za4 .t (by rfl))) r2 qz (Zz.cons (ZaB.cond2 rfl rfl (fun h=>Za4 .t (by rfl))) r2 qz (Zz.cons (ZaB.cond2 rfl rfl (fun h=>o_and (.w h) (.w h))) r3 qz (Zz.cons (ZaB.cond2 rfl rfl (fun h=>o_eql (.w h) qi)) r2 qz (qk rfl (fun h=>ZD (.w h) (.wc h)) r3 qz (qf (Zam .t .t) r2 qz qZ)))))))))))))))))))))))))))))) V [71,5,4,3] [103,102,101,0] rfl rfl fun a w F G=>?_
 try dsimp only [List.map,Ze,xL,xM,Nat.reduceAdd,xD,xE,xT,xU,xC,xN,zCF,ldSF,Zs,rTx,ZP,ZS,rInt,rOp,Zp,Zka] at G
 refine Za (Zc G rfl (fun hc3=>?_) (fun hc3=>?_))
 ·exact absurd hc3 (by decide +kernel)
 refine Ye (Za (Ya (Ya (rZ G (qg 1 102 r1 r1 (qa 102 r1 r1 (qu underlying31 r1 (qJ qZ)))) V [75,74,73,5,4] [103,102,101,0] fun G=>Yg ?_))))
 refine Zl (σ:=(Nat)) [4,5,73,74] [0,101,102,103] (fun s=>[(75,.pv (.int .i64 (s:Int)))]) (fun s=>[]) (fun s=>s≤Zh2.walk.length∧(True)) (fun s=>Zh2.walk.length - s) (0) G ⟨rfl,rfl,rfl,rfl,rfl,tv⟩ ⟨rfl,rfl,rfl,rfl,tv⟩ ⟨Yv _,tv⟩ ?_
 clear G;intro i a w F hC G
 try dsimp only at hC
 obtain ⟨F,G⟩:=G.nM [75,74,73,5,4] [103,102,101,0]
 try dsimp only at G
 obtain ⟨hi,hq⟩:=hC
 have hwl:Zh2.walk.length=2:=rfl
 refine Ya (rZ G (qL r2) V [76,75,74,73,5,4] [103,102,101,0] fun G=>Ya ?_)
 refine Zc G rfl (fun hc4=>?_) (fun hc4=>?_)
 ·have hil:i<Zh2.walk.length:=by simp at hc4;omega
  refine Ye (Za (Ya (Yg (Ya (Zb G (qy 4 underlying31 r2 (qf (oR true 4 .t) r1 qz (qf (oH [.int .i64 0,.int .i64 0,.int .i64 0,.int .i64 0] 104) trivial qz (qS 4 104 r2 r1 qZ)))) V [75,74,73,10,5,4] [104,103,102,101,0] (fun _=>rfl) (fun _=>rfl) fun τ a w F G=>?_)))))
  try dsimp only [RS.sub,SF.sub,CF.sub,csub,Anc.sub,List.map,Ze,xL,xM,Nat.reduceAdd,xD,xE,xT,xU,xC,xN,zCF,ldSF,Zs,rTx,ZP,ZS,rInt,rOp,Zp,Zka] at G
  generalize τ 10=v10 at G
  try simp only [Yb] at G
  refine Za (Ya (rZ G (qe 2 103 r1 r1 (qe 4 104 r1 r1 (qf (oP (Zt6 ZdI (Nn Zh2.walk i) Zc5.1) func43 (Args.two (.pagg .t) (.pagg .t))) r2 qz (qf (o_not .t) r1 qz qZ)))) V [82,75,74,73,5,4] [104,103,102,101,0] fun G=>?_))
  refine Zc G rfl (fun hc5=>?_) (fun hc5=>?_)
  ·rw [ZlZ i hil] at hc5;cases hc5
  refine Ye (Zj (Za (rZ G (qp r1 (qR rr qZ)) V [75,74,73,5,4] [104,103,102,101,0] fun G=>?_)))
  replace G:=G.ent (i:=75) (s':=.pv (.int .i64 ((i+1:Nat):Int))) rfl (.int (Zd ow))
  obtain ⟨F,G⟩:=G.nM [74,73,5,4,75] [103,102,101,0]
  exact ⟨(i+1),F,⟨by omega,tv⟩,G,by omega⟩
 have hil:i=Zh2.walk.length:=by simp at hc4;omega
 refine Yw (Zi (Zi (Zn (Za (Ya (rZ G qB V [4] [103,102,101,0] fun G=>Yh ?_))))))
 refine Zo hfr G rfl rfl rfl .refl
section
variable {B B':Zg→Prop} {m:Zg→Bool} {need:Bool}
theorem Zqb {i:Int} {w:List Zg} (h:CwE B m need i w):∃ e,w.head? = some e∧B e∧e.src=i:=by
 cases w with
 | nil=>exact absurd rfl h.1
 | cons e w=>exact ⟨e,rfl,h.2.1.1,h.2.1.2.1⟩
end
theorem ZkP {α:Type} {P:α→Prop} {R:α→α→Prop} (tot:∀ a b,P a→P b→R a b∨R b a) (tr:∀ a b c,P a→P b→P c→R a b→R b c→R a c):∀ L:List α,(∃ a ∈ L,P a) → ∃ a ∈ L,P a ∧ ∀ b ∈ L,P b→R a b
 | [],h=>by obtain ⟨a,h,_⟩:=h;cases h
 | x :: L,h=>by
  by_cases hL:∃ a ∈ L,P a
  ·obtain ⟨a,a1,a2,a3⟩:=ZkP tot tr L hL
   by_cases hx:P x
   ·rcases tot x a hx a2 with k | k
    ·refine ⟨x,by simp,hx,fun b hb hp=>?_⟩
     rcases Yi.1 hb with rfl | hb
     ·rcases tot b b hp hp with q | q <;> exact q
     ·exact tr _ _ _ hx a2 hp k (a3 b hb hp)
    ·refine ⟨a,by simp [a1],a2,fun b hb hp=>?_⟩
     rcases Yi.1 hb with rfl | hb
     ·exact k
     ·exact a3 b hb hp
   ·refine ⟨a,by simp [a1],a2,fun b hb hp=>?_⟩
    rcases Yi.1 hb with rfl | hb
    ·exact absurd hp hx
    ·exact a3 b hb hp
  ·obtain ⟨a,a1,a2⟩:=h
   have e:a=x:=(Yi.1 a1).resolve_right fun k=>hL ⟨a,k,a2⟩
   subst e
   refine ⟨a,by simp,a2,fun b hb hp=>?_⟩
   rcases Yi.1 hb with rfl | hb
   ·rcases tot b b hp hp with q | q <;> exact q
   ·exact absurd ⟨b,hb,hp⟩ hL
def Zjt (l:List Zg):Nat→List (List Zg)
 | 0=>[[]]
 | k+1=>l.flatMap fun e=>(Zjt l k).map (e :: ·)
theorem Zgy {l:List Zg} : ∀ {w:List Zg},(∀ e ∈ w,e ∈ l)→w ∈ Zjt l w.length
 | [],_=>by simp [Zjt]
 | e :: w,h=>by
  show e :: w ∈ l.flatMap _
  exact YaK.2 ⟨e,h e (by simp),Yu.2 ⟨w,Zgy fun x hx=>h x (by simp [hx]),rfl⟩⟩
def RwE (w v:List Zg):Prop:=∃ x y,w.head? = some x∧v.head? = some y∧(x.src<y.src∨(x.src=y.src∧(v=w∨LtE w v)))
theorem LtE.trans:∀ {w v u:List Zg},LtE w v→LtE v u→LtE w u
 | x :: w,y :: v,z :: u,h,k=>by
  rcases h with h | ⟨rfl,h⟩ <;> rcases k with k | ⟨rfl,k⟩
  ·left;unfold ltK at *;omega
  ·exact .inl h
  ·exact .inl k
  ·exact .inr ⟨rfl,h.trans k⟩
 | [],_,_,h,_=>h.elim
 | _ :: _,[],_,h,_=>h.elim
 | _ :: _,_ :: _,[],_,k=>k.elim
theorem ZoX {B:Zg→Prop} {a b c:Int} : ∀ {w v:List Zg},w.length=v.length→Zcc B a w b→Zcc B a v c→w=v∨LtE w v∨LtE v w
 | [],[],_,_,_=>.inl rfl
 | x :: w,y :: v,hl,h,k=>by
  by_cases e:x=y
  ·subst e
   rcases ZoX (by simpa using hl) h.2.2 k.2.2 with q | q | q
   ·exact .inl (by rw [q])
   ·exact .inr (.inl (.inr ⟨rfl,q⟩))
   ·exact .inr (.inr (.inr ⟨rfl,q⟩))
  ·have hs:x.src=y.src:=h.2.1.trans k.2.1.symm
   have:ltK x y∨ltK y x:=by
    apply Ybt
    intro hn
    apply e
    cases x;cases y
    unfold ltK at hn
    simp only [Zg.mk.injEq] at *
    omega
   rcases this with q | q
   ·exact .inr (.inl (.inl q))
   ·exact .inr (.inr (.inl q))
 | [],_ :: _,hl,_,_=>by simp at hl
 | _ :: _,[],hl,_,_=>by simp at hl
theorem ZqV {l:List Zg} {m:Zg→Bool} {need:Bool} (h:∃ i w,CwE (· ∈ l) m need i w):∃ w,ZcQ (· ∈ l) m need w:=by
 obtain ⟨k,⟨k0,i,w,hw,hk⟩,hmin⟩:=Zny (P:=fun k=>0≤k ∧ ∃ i w,CwE (· ∈ l) m need i w∧(w.length:Int)=k) (fun x hx=>hx.1) (u:=((Classical.choose (YbJ h)).length:Int)) ⟨by omega,_,_,YbJ (YbJ h),rfl⟩
 have hin:∀ {i:Int} {v:List Zg},CwE (· ∈ l) m need i v→v.length=w.length→v ∈ Zjt l w.length:=fun hv hl=>by
  rw [← hl];exact Zgy (Zfc hv.2.1)
 have hh:∀ {i:Int} {v:List Zg},CwE (· ∈ l) m need i v → ∃ x,v.head? = some x∧x.src=i:=fun hv=>by
  obtain ⟨x,x1,_,x3⟩:=Zqb hv;exact ⟨x,x1,x3⟩
 obtain ⟨v,v1,⟨j,v2⟩,v3⟩:=ZkP (P:=fun v=>∃ i,CwE (· ∈ l) m need i v∧v.length=w.length) (R:=RwE) (fun a b ⟨i,ha,la⟩ ⟨j,hb,lb⟩=>by
   obtain ⟨x,x1,x2⟩:=hh ha
   obtain ⟨y,y1,y2⟩:=hh hb
   by_cases e:i=j
   ·subst e
    rcases ZoX ow ha.2.1 hb.2.1 with q | q | q
    ·exact .inl ⟨x,y,x1,y1,.inr ⟨by omega,.inl q.symm⟩⟩
    ·exact .inl ⟨x,y,x1,y1,.inr ⟨by omega,.inr q⟩⟩
    ·exact .inr ⟨y,x,y1,x1,.inr ⟨by omega,.inr q⟩⟩
   ·by_cases hlt:i<j
    ·exact .inl ⟨x,y,x1,y1,.inl ow⟩
    ·exact .inr ⟨y,x,y1,x1,.inl ow⟩) (fun a b c _ _ _ ⟨x,y,x1,y1,h1⟩ ⟨y',z,y2,z1,h2⟩=>by
   have e:y' = y:=Ya6 (y2.symm.trans y1)
   subst e
   refine ⟨x,z,x1,z1,?_⟩
   rcases h1 with h1 | ⟨h1,h3⟩ <;> rcases h2 with h2 | ⟨h2,h4⟩
   ·exact .inl ow
   ·exact .inl ow
   ·exact .inl ow
   ·refine .inr ⟨by omega,?_⟩
    rcases h3 with rfl | h3 <;> rcases h4 with rfl | h4
    ·exact .inl rfl
    ·exact .inr h4
    ·exact .inr h3
    ·exact .inr (h3.trans h4)) (Zjt l w.length) ⟨w,hin hw rfl,i,hw,rfl⟩
 refine ⟨v,j,v2.1,fun j' w' k=>?_⟩
 have hlen:=hmin (w'.length:Int) ⟨by omega,j',w',k,rfl⟩
 by_cases hl:w'.length=w.length
 ·refine .inr ⟨by rw [hl,v2.2],?_⟩
  obtain ⟨x,y,x1,y1,h1⟩:=v3 w' (hin k hl) ⟨j',k,hl⟩
  obtain ⟨x',x2,x3⟩:=hh v2.1
  obtain ⟨y',y2,y3⟩:=hh k
  have e1:x' = x:=Ya6 (x2.symm.trans x1)
  have e2:y' = y:=Ya6 (y2.symm.trans y1)
  subst e1;subst e2
  rcases h1 with h1 | ⟨h1,h2⟩
  ·exact .inl ow
  ·exact .inr ⟨by omega,h2⟩
 ·exact .inl (by rw [v2.2];omega)
theorem Zqe (l:List Zg) (p:Int):∃ R,ZdY l p R:=by
 by_cases h0:(ZU p).1=0
 ·exact ⟨[],by unfold ZdY;rw [Yf h0]⟩
 ·by_cases hc:∃ i w,CwE (· ∈ l.filter (kindOk (ZU p).1)) (fun e=>ofB (ZU p).2 e.kind) (!decide ((ZU p).2=0)) i w
  ·obtain ⟨w,hw⟩:=ZqV hc
   exact ⟨w,by unfold ZdY;rw [Yc h0];exact .inr hw⟩
  ·exact ⟨[],by unfold ZdY;rw [Yc h0];exact .inl ⟨rfl,fun j w h=>hc ⟨j,w,h⟩⟩⟩
theorem ZcQ.ne {B:Zg→Prop} {m:Zg→Bool} {need:Bool} {w:List Zg} (h:ZcQ B m need w):w≠[]:=by
 obtain ⟨j,h1,_⟩:=h
 exact h1.1
theorem ZqM {l:List Zg} {mk mu:Int} (hm:bits .and .i64 mu 14=mu):ZeB l mk mu ↔ ∃ i w,CwE (· ∈ l.filter (kindOk mk)) (fun e=>ofB mu e.kind) (!decide (mu=0)) i w:=by
 have hcw:∀ i w,CwE (· ∈ l.filter (kindOk mk)) (fun e=>ofB mu e.kind) (!decide (mu=0)) i w ↔ CwE (· ∈ l.filter (kindOk mk)) (fun e=>Zgq mu e.kind) (!decide (mu=0)) i w:=fun i w=>by
  unfold CwE
  refine Ybk fun _=>Ybk fun _=>Ybk fun _=>?_
  unfold Zgq
  rw [hm]
  by_cases hz:mu=0
  ·simp [hz]
  ·simp [hz]
 have h1:=Zu9 (B:=(· ∈ l.filter (kindOk mk))) (m:=fun e=>Zgq mu e.kind) (need:=!decide (mu=0)) (fun hn e=>by
  unfold Zgq
  rw [hm]
  simp at hn
  simp [hn])
 have h2:ZeB l mk mu ↔ ∃ e,e ∈ l.filter (kindOk mk)∧Zgq mu e.kind=true∧(e.dst=e.src∨Rch (fun x y=>∃ e,e ∈ l.filter (kindOk mk)∧e.src=x∧e.dst=y) e.dst e.src):=Iff.rfl
 rw [h2,← h1]
 exact ⟨fun ⟨i,w,h⟩=>⟨i,w,(hcw i w).2 h⟩,fun ⟨i,w,h⟩=>⟨i,w,(hcw i w).1 h⟩⟩
theorem Zu8 {g:Zt} {p:Int} {R:List Zg} (hR:ZdY (Zai g) p R):okH g p R=true ↔ PhB g p:=by
 unfold PhB okH
 by_cases h23:p=2∨p=3
 ·rw [Yf h23,Yf h23,Yq]
 ·rw [Yc h23,Yc h23,Yq]
  unfold ZdY at hR
  by_cases h0:(ZU p).1=0
  ·rw [Yf h0] at hR
   exact ⟨fun h=>absurd hR h,fun h=>absurd h0 h.1⟩
  ·rw [Yc h0] at hR
   rw [ZqM (Zon h0).2.1]
   rcases hR with ⟨h1,h2⟩ | h1
   ·exact ⟨fun h=>absurd h1 h,fun ⟨_,i,w,h⟩=>absurd h (h2 i w)⟩
   ·refine ⟨fun _=>⟨h0,?_⟩,fun _=>h1.ne⟩
    obtain ⟨j,h2,_⟩:=h1
    exact ⟨j,_,h2⟩
structure Zji (x y:Zt):Prop where
 walk:∀ p R,ZdY (Zai x) p R→ZdY (Zai y) p R
 bads:∀ p,ZaQ y p PT1=ZaQ x p PT1
theorem Zji.self (x:Zt):Zji x x:=⟨fun _ _ h=>h,fun _=>rfl⟩
theorem Zji.wit {x y:Zt} (h:Zji x y) (p:Int) (R:List Zg):Zn3 y p R=Zn3 x p R∧okH y p R=okH x p R:=by
 have e:(ZaQ y p fun _=>true)=ZaQ x p fun _=>true:=h.bads p
 unfold Zn3 okH
 rw [e]
 exact ⟨rfl,rfl⟩
theorem ZtZ {j:Int} {w:List Zg} (h:CwE (· ∈ [(⟨1,2,3,1⟩:Zg),⟨2,1,3,2⟩]) (fun e=>ofB 8 e.kind) true j w):2≤w.length∧j=1∧(w.length=2→w = [⟨1,2,3,1⟩,⟨2,1,3,2⟩]):=by
 obtain ⟨h1,h2,h3,_⟩:=h
 cases w with
 | nil=>exact absurd rfl h1
 | cons e w=>
  obtain ⟨he,ha,h4⟩:=h2
  rcases Yi.1 he with rfl | he
  ·have ha:(1:Int)=j:=ha
   subst ha
   cases w with
   | nil=>have h4:(2:Int)=1:=h4;omega
   | cons f w=>
    obtain ⟨hf,hb,h5⟩:=h4
    refine ⟨by simp,rfl,fun hl=>?_⟩
    have hw:w = []:=by simpa using hl
    subst hw
    rcases Yi.1 hf with rfl | hf
    ·have hb:(1:Int)=2:=hb;omega
    ·rw [Yk.1 hf]
  ·have he:=Yk.1 he
   subst he
   have ha:(2:Int)=j:=ha
   subst ha
   have:=h3 ⟨2,1,3,2⟩ (by simp)
   have:(2:Int)≤1:=this
   omega
theorem ZpF:ZdY (Zai ZdI) 5 [⟨1,2,3,1⟩,⟨2,1,3,2⟩]:=by
 have hf:(Zai ZdI).filter (kindOk (ZU 5).1) = [⟨1,2,3,1⟩,⟨2,1,3,2⟩]:=by rw [ZlJ];decide
 unfold ZdY
 rw [Yc (by decide),hf]
 have h8:(ZU 5).2=8:=rfl
 rw [h8]
 refine .inr ⟨1,⟨by simp,⟨by simp,rfl,by simp,rfl,rfl⟩,?_,fun _=>⟨⟨1,2,3,1⟩,by simp,by decide⟩⟩,fun j' w' k=>?_⟩
 ·intro e he
  rcases Yi.1 he with rfl | he
  ·show (1:Int)≤2;decide
  ·rw [Yk.1 he];show (1:Int)≤1;decide
 ·obtain ⟨k1,k2,k3⟩:=ZtZ k
  by_cases hl:w'.length=2
  ·exact .inr ⟨hl.symm,.inr ⟨k2.symm,.inl (k3 hl)⟩⟩
  ·exact .inl (by show 2<_;omega)
theorem ZlA:Zn3 ZdI 5 [⟨1,2,3,1⟩,⟨2,1,3,2⟩] = Zh2∧okH ZdI 5 [⟨1,2,3,1⟩,⟨2,1,3,2⟩] = true:=⟨rfl,by decide⟩
theorem ZnG:Zgo Zh2.walk Zh2.walk.length = [49,32,114,119,49,32,50,32,114,119,50,32,49]:=by decide +kernel
theorem ZmF:∀ e ∈ Zh2.walk,ZfM e:=fun e he=>by
 rcases Yi.1 he with rfl | he
 ·unfold ZfM;decide
 ·rw [Yk.1 he];unfold ZfM;decide
theorem Zmp  : FnP prog 10 [] (.bool true):=by
 refine FnP.mk func10 rfl ntmps10 rfl fun B a w F V hfr G=>Ya ?_
 refine rZ G qB V [0] [0] fun G=>Ya ?_
 refine Zb G (qf (oP (ZuE) func32 Args.nil) trivial qz (qf (oH [.slice none 0 0,.slice none 0 0] 101) trivial qz (qf (oA 2 101 .same (.conv .t .agg)) r2 r1 qZ))) V [1,0] [101,0] (fun _=>rfl) (fun _=>rfl) fun τ a w F G=>?_
 try dsimp only [RS.sub,SF.sub,CF.sub,csub,Anc.sub,List.map,Ze,xL,xM,Nat.reduceAdd,xD,xE,xT,xU,xC,xN,zCF,Zs,rTx,ZP,ZS,rInt,rOp] at G
 generalize τ 1=v1 at G
 refine Za (Ya (Zb G (qe 2 101 r1 r1 (qf (oP (ZtP ZdI Zc5.1 Zc5.2 5 [⟨1,2,3,1⟩,⟨2,1,3,2⟩] ZpF) func12 (Args.two (.pagg .t) qi)) r1 qz (qR rr (qf (Zh .t rfl) r1 qz (qf (Zh .t rfl) r1 qz (qf (oH [.int .i64 0,.slice none 0 0,.int .i64 0,.int .i64 0,.int .i64 0,.int .i64 0,.int .i64 0] 102) trivial qz (qf (oA 7 102 .same (.conv .t .agg)) r2 r1 (qO rr qZ)))))))) V [3,2,1,0] [102,101,0] (fun _=>rfl) (fun _=>rfl) fun τ a w F G=>?_))
 try dsimp only [RS.sub,SF.sub,CF.sub,csub,Anc.sub,List.map,Ze,xL,xM,Nat.reduceAdd,xD,xE,xT,xU,xC,xN,zCF,ldSF,Zs,rTx,ZP,ZS,rInt,rOp] at G
 generalize τ 2=v2 at G
 rw [ZlA.1,ZlA.2] at G
 try dsimp only [Zka] at G
 refine Za (Ya (rZ G (qR rr (qR rr (qk rfl (fun h=>oL true 2 101 .is) r2 r1 (qk rfl (fun h=>oL true 7 102 .is) r2 r1 (qk rfl (fun h=>oP (ZuI) func33 (Args.two (.pagg (.w h)) (.pagg (.w h)))) r3 qz (qf (ZD .t .t) r2 qz (qR rr (qv 1 102 rfl r2 r1 (qw 102 rfl r2 r1 (qk rfl (fun h=>oP (Zs7 Zh2.walk (by decide) ZmF) func34 (Args.one (.w h))) r2 qz (qk rfl (fun h=>Zrz underlying9 (.w h) (.cs kr)) r2 qz (qf (ZD .t .t) r2 qz (qO rr qZ))))))))))))) V [0] [102,101,0] fun G=>Yh ?_))
 refine Zo hfr G rfl rfl rfl (.bool (by rw [ZnG];rfl))
theorem ZtK (g x:Zt) (hsm:Zbc g) (hAR:(wwC PT1 g).length+(rdC PT1 g).length≤100000) (hsx:Zbc x) (hAx:(wwC PT1 x).length+(rdC PT1 x).length≤100000) (ha:Zji g x):FnP prog 26 [.agg (Zs g),.agg (Zs x)] (.bool true):=by
 refine FnP.mk func26 rfl ntmps26 rfl fun B a w F V hfr G=>Ya ?_
 refine Zb G (qx 101 r1 (qx 102 r1 qB)) V [4,3,2] [102,101,0] (fun _=>rfl) (fun _=>rfl) fun τ a w F G=>?_
 try dsimp only [RS.sub,SF.sub,CF.sub,csub,Anc.sub,List.map,zCF,Zs,rTx,ZP,ZS,rInt,rOp,Zka] at G
 generalize τ 2=v2 at G
 generalize τ 3=v3 at G
 refine Za (Ya (Ya (rZ G (qI qZ) V [5,4,3,2] [102,101,0] fun G=>Yg ?_)))
 replace G:=G.ent (i:=5) (s':=.pv (.int .i64 ((1:Nat):Int))) rfl (.int rfl)
 refine Zl (σ:=Nat) [2,3,4] [0,101,102] (fun s=>[(5,.pv (.int .i64 (s:Int)))]) (fun s=>[]) (fun s=>True) (fun s=>6 - s) (1) G ⟨rfl,rfl,rfl,rfl,tv⟩ ⟨rfl,rfl,rfl,tv⟩ trivial ?_
 clear G;intro p a w F hC G
 try dsimp only at hC
 obtain ⟨F,G⟩:=G.nM [5,4,3,2] [102,101,0]
 try dsimp only at G
 refine Ya (Ya (rZ G (qR rr (qf (Zay .t qi) r1 qz qZ)) V [11,5,4,3,2] [102,101,0] fun G=>?_))
 refine Zc G rfl (fun hc0=>?_) (fun hc0=>?_)
 ·have hp6:p<6:=by have h9:=Yt hc0;omega
  obtain ⟨R,hR⟩:=Zqe (Zai g) (p:Int)
  obtain ⟨hw1,hw2⟩:=ha.wit (p:Int) R
  refine Ye (Za (Ya (Yg (Ya (Zb G (qe 2 101 r1 r1 (qR rr (qf (oP (ZtP g hsm hAR (p:Int) R hR) func12 (Args.two (.pagg .t) .t)) r2 qz (qR rr (qf (Zh .t rfl) r1 qz (qf (Zh .t rfl) r1 qz (qf (oH [.int .i64 0,.slice none 0 0,.int .i64 0,.int .i64 0,.int .i64 0,.int .i64 0,.int .i64 0] 103) trivial qz (qf (oA 7 103 .same (.conv .t .agg)) r2 r1 (qO rr qZ))))))))) V [7,6,5,4,3,2] [103,102,101,0] (fun _=>rfl) (fun _=>rfl) fun τ a w F G=>?_)))))
  try dsimp only [RS.sub,SF.sub,CF.sub,csub,Anc.sub,List.map,Ze,xL,xM,Nat.reduceAdd,xD,xE,xT,xU,xC,xN,zCF,ldSF,Zs,rTx,ZP,ZS,rInt,rOp,Zka] at G
  generalize τ 6=v6 at G
  refine Za (Ya (Zb G (qe 2 102 r1 r1 (qR rr (qf (oP (ZtP x hsx hAx (p:Int) R (ha.walk _ R hR)) func12 (Args.two (.pagg .t) .t)) r2 qz (qR rr (qf (Zh .t rfl) r1 qz (qf (Zh .t rfl) r1 qz (qf (oH [.int .i64 0,.slice none 0 0,.int .i64 0,.int .i64 0,.int .i64 0,.int .i64 0,.int .i64 0] 104) trivial qz (qf (oA 7 104 .same (.conv .t .agg)) r2 r1 (qO rr qZ))))))))) V [9,8,7,6,5,4,3,2] [104,103,102,101,0] (fun _=>rfl) (fun _=>rfl) fun τ a w F G=>?_))
  try dsimp only [RS.sub,SF.sub,CF.sub,csub,Anc.sub,List.map,Ze,xL,xM,Nat.reduceAdd,xD,xE,xT,xU,xC,xN,zCF,ldSF,Zs,rTx,ZP,ZS,rInt,rOp,Zka] at G
  generalize τ 8=v8 at G
  refine Za (Ya (rZ G (qR rr (qR rr (qf (ZoI underlying4 .t .t) r2 qz (qR rr (qk rfl (fun h=>oL true 7 103 .is) r2 r1 (qk rfl (fun h=>oL true 7 104 .is) r2 r1 (qk rfl (fun h=>oP (ZsJ (Zn3 g (p:Int) R) (Zn3 x (p:Int) R)) func22 (Args.two (.pagg (.w h)) (.pagg (.w h)))) r3 qz (qk rfl (fun h=>o_not (.w h)) r2 qz (qf (Zam .t .t) r2 qz (qR rr (qk rfl (fun h=>oL true 2 101 .is) r2 r1 (qm rfl rfl rfl rfl (qk rfl (fun h=>oP (ZpB g hsm hAR (p:Int) (okH g (p:Int) R) (Zu8 hR)) func31 (Args.two (.pagg (.w h)) (.w h))) r3 qz (qm rfl rfl rfl rfl (qk rfl (fun h=>ZoI underlying4 (.w h) (.w h)) r3 qz (qf (Zam .t .t) r2 qz (qR rr (qk rfl (fun h=>oL true 2 102 .is) r2 r1 (qm rfl rfl rfl rfl (qk rfl (fun h=>oP (ZpB x hsx hAx (p:Int) (okH x (p:Int) R) (Zu8 (ha.walk _ R hR))) func31 (Args.two (.pagg (.w h)) (.w h))) r3 qz (qm rfl rfl rfl rfl (qk rfl (fun h=>ZoI underlying4 (.w h) (.w h)) r3 qz (qf (Zam .t .t) r2 qz qZ))))))))))))))))))))))) V [48,5,4,3,2] [104,103,102,101,0] fun G=>?_))
  refine Zc G rfl (fun hc1=>?_) (fun hc1=>?_)
  ·rw [hw1,hw2] at hc1;simp at hc1
  refine Ye (Zj (Za (rZ G (qR rr (qp r1 (qO rr qZ))) V [5,4,3,2] [104,103,102,101,0] fun G=>?_)))
  replace G:=G.ent (i:=5) (s':=.pv (.int .i64 ((p+1:Nat):Int))) rfl (.int (Zd ow))
  obtain ⟨F,G⟩:=G.nM [4,3,2,5] [102,101,0]
  exact ⟨(p+1),F,tv,G,by omega⟩
 refine Yw (Zi (Zi (Zn (Za (Ya (rZ G qB V [4] [102,101,0] fun G=>Yh ?_))))))
 refine Zo hfr G rfl rfl rfl (.bool rfl)
theorem ZlI {l:List Int} {id place:Int} (hn:l.Nodup) (h:(Zar l id place).2=0):Zar (Zar l id place).1 id (ZZ id l)=(l,0):=by
 have h9:=h
 unfold Zar at h9
 split at h9
 ·cases h9
 ·rename_i h1
  split at h9
  ·cases h9
  ·rename_i h2
   have hm:id ∈ l:=Zlm.1 ow
   have hp:=YaO.1 h2
   obtain ⟨p,rfl⟩:∃ p:Nat,place=p:=⟨place.toNat,by omega⟩
   obtain ⟨i,i1,i2,i3,_⟩:=ZcA hm
   have hl:(l.eraseIdx i).length=l.length - 1:=by rw [List.length_eraseIdx,Yf i2]
   have e1:Zar l id p=(Zhg (l.eraseIdx i) p id,0):=by unfold Zar;rw [Yc h1,Yc h2,i1,Yb]
   have e2:Zhg (l.eraseIdx i) p id=(l.eraseIdx i).take p++id :: (l.eraseIdx i).drop p:=by unfold Zhg;rw [Yf ow,Yb]
   have hpm:=ZdZ (l:=l) (id:=id) (place:=p) h
   rw [e1] at hpm ⊢
   have hpm:(Zhg (l.eraseIdx i) p id).Perm l:=hpm
   have hn2:(Zhg (l.eraseIdx i) p id).Nodup:=hpm.nodup_iff.2 hn
   have hl2:(Zhg (l.eraseIdx i) p id).length=l.length:=hpm.length_eq
   have hA:((l.eraseIdx i).take p).length=p:=by rw [Yj];omega
   have hm1:Nn (Zhg (l.eraseIdx i) p id) p=id:=by
    rw [nth_eq ow]
    simp only [e2]
    rw [List.getElem_append_right ow]
    simp [hA]
   have hi2:ZZ id (Zhg (l.eraseIdx i) p id)=p:=Zhk ow hm1 fun k hk e=>by
    have e9:=e.trans hm1.symm
    rw [nth_eq ow,nth_eq ow] at e9
    exact absurd e9 (Yaz.1 hn2 k p ow ow hk)
   show Zar (Zhg (l.eraseIdx i) p id) id (ZZ id l)=_
   unfold Zar
   rw [Yc ow,Yc (by rw [hl2,i1];omega),hi2,Yb,i1]
   congr 1
   have e3:(Zhg (l.eraseIdx i) p id).eraseIdx p=l.eraseIdx i:=by
    rw [e2,List.eraseIdx_append_of_length_le ow,hA,Nat.sub_self,List.eraseIdx_cons_zero,Yas]
   rw [e3]
   unfold Zhg
   rw [Yf ow,Yb,List.eraseIdx_eq_take_drop_succ]
   have V:(l.take i).length=i:=by rw [Yj];omega
   rw [Y0 ow,YaM,Yb3,List.drop_append_of_le_length ow,List.drop_take_self,Yad]
   conv=>rhs;rw [← Yas i l,YaU i2]
   rw [← i3,nth_eq i2]
theorem Zn2 {g:Zt} {key:Int} {rule:List Int→List Int×Int} (hp:∀ l,(rule l).2=0→(rule l).1.Perm l) (hr:ZQ g) (hg:getO g.orders key≠[]) (h3:(rule (getO g.orders key)).2=0):(turnedH g key rule).2=0∧(turnedH g key rule).1.txs=g.txs ∧ ∀ k,getO (turnedH g key rule).1.orders k=if k=key then (rule (getO g.orders key)).1 else getO g.orders k:=by
 have hne:(rule (getO g.orders key)).1≠[]:=fun e=>hg (by have:=hp _ h3;rw [e] at this;exact this.symm.eq_nil)
 rw [Zsa hr hg h3 hne,YC hne]
 refine ⟨rfl,rfl,fun k=>?_⟩
 show getO (ZcI OrdD.key _ g.orders false) k=_
 rw [Zkj (ZY.1 (Z7 hr).2)]
 by_cases e:k=key
 ·rw [Yf e,Yf e];rfl
 ·rw [Yc e,Yc e]
theorem ZnY {g:Zt} {key id place:Int} (h:(moveH g key id place).2=0):moveH (moveH g key id place).1 key id (ZZ id (getO g.orders key))=(g,0):=by
 have hpm:∀ {q:Int} (l:List Int),((fun l=>Zar l id q) l).2=0→((fun l=>Zar l id q) l).1.Perm l:=fun l h=>ZdZ h
 have hr:ZQ g:=Ya5 fun hr=>by
  rw [show moveH g key id place=(Zdf,5) from Zsn hr] at h;cases h
 have hg:getO g.orders key≠[]:=fun hg=>by
  rw [show moveH g key id place=(Zdf,3) from Zsu hr hg] at h;cases h
 have h3:(Zar (getO g.orders key) id place).2=0:=Ya5 fun h3=>by
  have e:moveH g key id place=(Zdf,(Zar (getO g.orders key) id place).2):=Zsm (rule:=fun l=>Zar l id place) hr hg h3
  rw [e] at h;exact h3 h
 have hx:ZQ (moveH g key id place).1:=Zez hpm h
 obtain ⟨_,x2,x3⟩:=Zn2 hpm hr hg h3
 have x2:(moveH g key id place).1.txs=g.txs:=x2
 have x3:∀ k,getO (moveH g key id place).1.orders k=if k=key then (Zar (getO g.orders key) id place).1 else getO g.orders k:=x3
 have hk:getO (moveH g key id place).1.orders key=(Zar (getO g.orders key) id place).1:=by rw [x3,Yf rfl]
 have hne:getO (moveH g key id place).1.orders key≠[]:=fun e=>hg (by rw [hk] at e;have:=ZdZ h3;rw [e] at this;exact this.symm.eq_nil)
 have hb:=ZlI (ZfZ hr key).1 h3
 have h4:(Zar (getO (moveH g key id place).1.orders key) id (ZZ id (getO g.orders key))).2=0:=by rw [hk,hb]
 obtain ⟨y1,y2,y3⟩:=Zn2 hpm hx hne h4
 have hy:ZQ (turnedH (moveH g key id place).1 key fun l=>Zar l id (ZZ id (getO g.orders key))).1:=Zez hpm y1
 have eo:(turnedH (moveH g key id place).1 key fun l=>Zar l id (ZZ id (getO g.orders key))).1.orders=g.orders:=ZsF (ZY.1 (Z7 hy).2) (ZY.1 (Z7 hr).2) (Zd0 hy) (Zd0 hr) fun k=>by
  rw [y3]
  by_cases e:k=key
  ·rw [Yf e,e,hk,hb]
  ·rw [Yc e,x3,Yc e]
 show turnedH (moveH g key id place).1 key _=_
 generalize turnedH (moveH g key id place).1 key (fun l=>Zar l id (ZZ id (getO g.orders key)))=z at *
 obtain ⟨⟨a,b⟩,c⟩:=z
 simp only at y1 y2 eo
 subst y1 eo
 rw [y2,x2]
theorem ZqN {n:Nat} {g:Zt} {key id place:Int} (h:Fit n g):Fit n (moveH g key id place).1:=Zma (fun l hl=>Nat.le_of_eq (ZdZ hl).length_eq) h
theorem ZoZ (g:Zt) (key id place:Int):FnP prog 5 [.agg (Zs g),.int .i64 key,.int .i64 id,.int .i64 place] (.bool true):=by
 refine FnP.mk func5 rfl ntmps5 rfl fun B a w F V hfr G=>Ya ?_
 refine Zb G (qx 101 r1 qB) V [8,4,3,2,1] [101,0] (fun _=>rfl) (fun _=>rfl) fun τ a w F G=>?_
 try dsimp only [RS.sub,SF.sub,CF.sub,csub,Anc.sub,List.map,zCF,Zs,rTx,ZP,ZS,rInt,rOp] at G
 generalize τ 4=v4 at G
 refine Za (Ya (Ya (rZ G (qf (oP (Zmp) func10 Args.nil) trivial qz (qf (o_not .t) r1 qz qZ)) V [16,8,4,3,2,1] [101,0] fun G=>?_)))
 refine Zc G rfl (fun hc0=>?_) (fun hc0=>?_)
 ·simp at hc0
 refine Ye (Za (Ya (Ya (rZ G (qe 2 101 r1 r1 (qf (oP (ZqL g) func11 (Args.one (.pagg .t))) r1 qz (qf (o_not .t) r1 qz qZ))) V [19,8,4,3,2,1] [101,0] fun G=>?_))))
 refine Zc G rfl (fun hc1=>?_) (fun hc1=>?_)
 ·refine Ya (rZ G qB V [8,4,3,2,1] [101,0] fun G=>(Yh (Zk ?_)))
  refine Zo hfr G rfl rfl rfl (.bool (by simp))
 have hlt:Zcd g:=by simpa using hc1
 have hf:=Znt hlt
 obtain ⟨hsm,hAR⟩:=Zjs hf (by decide)
 refine Ye (Za (Ya (rZ G (qe 2 101 r1 r1 (qR rr (qf (oP (Zlx g key hsm.2) func16 (Args.two (.pagg .t) .t)) r2 qz (qO rr qZ)))) V [9,8,4,3,2,1] [101,0] fun G=>Ya ?_)))
 refine rZ G (qR rr (qR rr (qf (oP (ZpI (getO g.orders key) id) func23 (Args.two .t .t)) r2 qz (qO rr qZ)))) V [10,8,4,3,2,1] [101,0] fun G=>Ya ?_
 refine Zb G (qe 2 101 r1 r1 (qR rr (qR rr (qR rr (qf (oP (Zng g key id place hsm) func24 (Args.four (.pagg .t) .t .t .t)) r4 qz (qR rr (qf (Zh .t rfl) r1 qz (qf (Zh .t rfl) r1 qz (qf (oH [.slice none 0 0,.slice none 0 0] 102) trivial qz (qf (oA 2 102 .same (.conv .t .agg)) r2 r1 (qO rr qZ))))))))))) V [12,11,10,8,4,2,1] [102,101,0] (fun _=>rfl) (fun _=>rfl) fun τ a w F G=>?_
 try dsimp only [RS.sub,SF.sub,CF.sub,csub,Anc.sub,List.map,Ze,xL,xM,Nat.reduceAdd,xD,xE,xT,xU,xC,xN,zCF,ldSF,Zs,rTx,ZP,ZS,rInt,rOp] at G
 generalize τ 11=v11 at G
 refine Za (Ya (Ya (rZ G (qR rr (qf (o_neq .t qi) r1 qz qZ)) V [35,11,10,8,4,2,1] [102,101,0] fun G=>?_)))
 refine Zc G rfl (fun hc2=>?_) (fun hc2=>?_)
 ·refine Ya (rZ G qB V [11,10,8,4,2,1] [102,101,0] fun G=>(Yh (Zk ?_)))
  refine Zo hfr G rfl rfl rfl (.bool (by simp))
 have hz:(moveH g key id place).2=0:=by simpa using hc2
 obtain ⟨hsx,hAx⟩:=Zjs (ZqN hf) (by decide)
 refine Ye (Za (Ya (Zb G (qe 2 102 r1 r1 (qR rr (qR rr (qR rr (qf (oP (Zng (moveH g key id place).1 key id (ZZ id (getO g.orders key)) hsx) func24 (Args.four (.pagg .t) .t .t .t)) r4 qz (qR rr (qf (Zh .t rfl) r1 qz (qf (Zh .t rfl) r1 qz (qf (oH [.slice none 0 0,.slice none 0 0] 103) trivial qz (qf (oA 2 103 .same (.conv .t .agg)) r2 r1 (qO rr qZ))))))))))) V [14,13,8,4] [103,102,101,0] (fun _=>rfl) (fun _=>rfl) fun τ a w F G=>?_)))
 try dsimp only [RS.sub,SF.sub,CF.sub,csub,Anc.sub,List.map,Ze,xL,xM,Nat.reduceAdd,xD,xE,xT,xU,xC,xN,zCF,ldSF,Zs,rTx,ZP,ZS,rInt,rOp] at G
 generalize τ 13=v13 at G
 rw [ZnY hz] at G
 refine Za (Ya (rZ G (qR rr (qf (o_eql .t qi) r1 qz (qR rr (qk rfl (fun h=>oL true 2 101 .is) r2 r1 (qk rfl (fun h=>oL true 2 103 .is) r2 r1 (qk rfl (fun h=>oP (Zui g g) func25 (Args.two (.pagg (.w h)) (.pagg (.w h)))) r3 qz (qf (ZD .t .t) r2 qz (qR rr (qk rfl (fun h=>oL true 2 101 .is) r2 r1 (qk rfl (fun h=>oL true 2 103 .is) r2 r1 (qk rfl (fun h=>oP (ZtK g g hsm hAR hsm hAR (.self g)) func26 (Args.two (.pagg (.w h)) (.pagg (.w h)))) r3 qz (qf (ZD .t .t) r2 qz (qO rr qZ))))))))))))) V [8] [103,102,101,0] fun G=>Yh ?_))
 refine Zo hfr G rfl rfl rfl (.bool (by simp))
end Go.Proofs.YtlkpllemoepamaaGreat
