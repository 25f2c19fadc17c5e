/- Laws and walks. No condition beyond what each says. -/
import Derived.Test.YtlkpllemoepamaaGreatJ4
namespace Go.Proofs.YtlkpllemoepamaaGreat
open Go Go.Gm Tryz
set_option linter.unusedVariables false
set_option linter.unusedSimpArgs false
set_option maxHeartbeats 4000000
set_option maxRecDepth 8000
theorem ZtA (O I:List (List Z7)) (m:Nat) (mask must:Int) (dv ev:List Int) (node:Int) (need:Bool) (hO:∀ l ∈ O,l.length≤1000000) (hor:∀ u,∀ x ∈ Zac O mask u,0≤x.dst∧x.dst<dv.length∧x.dst<ev.length) (hol:∀ u,(Zac O mask u).length≤1000000) (hlv:∀ x ∈ (Zac O mask node),-1≤ZG (fun y:Zy=>ofB must y.kind) dv ev need x∧ZG (fun y:Zy=>ofB must y.kind) dv ev need x≤90000):FnP prog 129 [.agg [Zew O I m,.int .i64 mask,.int .i64 must,.sl Zn dv,.sl Zn ev],.int .i64 node,.bool need] (.int .i64 (Z0 (ZG (fun y:Zy=>ofB must y.kind) dv ev need) (Zac O mask node))):=by
 refine FnP.mk func129 Z ntmps129 Z fun B a w F V hfr G=>?_
 have hln:=hol node
 refine Ya (Zb G (qx 101 r1 (qI qZ)) V [6,3,2,1] [101,0] (fun _=>rfl) (fun _=>rfl) fun τ a w F G=>?_)
 try dsimp only [RS.sub,SF.sub,CF.sub,csub,Anc.sub,List.map,zCF,Zav,Zau,Zn,Zam] at G
 generalize τ 3=v3 at G
 refine Za (Ya (rZ G (qI qZ) V [7,6,3,2,1] [101,0] fun G=>(Ya (Ya ?_))))
 refine rZ G (qg 0 101 r1 r1 (qa 101 r1 r1 (qR rr (qg 1 101 r1 r1 (qa 101 r1 r1 (qf (oP (Zn7 O I m node mask hO) func171 (Args.three .t .t .t)) r3 qz (qu Ycl r1 (qJ qZ)))))))) V [18,17,16,7,6,3,2] [101,0] fun G=>Yg ?_
 refine Zk (σ:=(Nat)) [2,3,6,16,17] [0,101] (fun s=>[(18,.pv (.int .i64 (s:Int))),(7,.pv (.int .i64 (Z0 (ZG (fun y:Zy=>ofB must y.kind) dv ev need) ((Zac O mask node).take s))))]) (fun s=>[]) (fun s=>s≤(Zac O mask node).length∧(True)) (fun s=>(Zac O mask node).length - s) (0) G ⟨rfl,rfl,rfl,rfl,rfl,rfl,rfl,tv⟩ ⟨rfl,rfl,tv⟩ ⟨Yw _,tv⟩ ?_
 clear G;intro i a w F hC G
 try dsimp only at hC
 obtain ⟨F,G⟩:=G.nM [18,17,16,7,6,3,2] [101,0]
 try dsimp only at G
 obtain ⟨hi,hq⟩:=hC
 have hsl:=Zjb (f:=(ZG (fun y:Zy=>ofB must y.kind) dv ev need)) (l:=(Zac O mask node).take i) (N:=100000) ow fun x hx=>(by have:=hlv x (Yay hx);omega)
 refine Ya (rZ G (qL r2) V [19,18,17,16,7,6,3,2] [101,0] fun G=>Ya ?_)
 refine Zc G Z (fun hc0=>?_) (fun hc0=>?_)
 ·have hil:i<(Zac O mask node).length:=by simp at hc0;omega
  have hlx:=hlv (Nn (Zac O mask node) i) (nth_mem hil)
  refine Ye (Za (Ya (Yg (Ya (Zb G (qy 4 Ycl r2 (qf (oR true 4 .t) r1 qz (qf (oH [.int .i64 0,.int .i64 0,.int .i64 0,.int .i64 0] 102) trivial qz (qS 4 102 r2 r1 qZ)))) V [18,17,16,9,7,6,3,2] [102,101,0] (fun _=>rfl) (fun _=>rfl) fun τ a w F G=>?_)))))
  try dsimp only [RS.sub,SF.sub,CF.sub,csub,Anc.sub,List.map,Zf,xL,xM,Nat.reduceAdd,xD,xE,xT,xU,xC,xN,zCF,ldSF,Zav,Zau,Zn,Zam] at G
  generalize τ 9=v9 at G
  try simp only [Yb] at G
  refine Za (Ya (rZ G (qe 5 101 r1 r1 (qe 4 102 r1 r1 (qR rr (qf (oP (Ztd O I m mask must dv ev (Nn (Zac O mask node) i) need (hor _ _ (nth_mem hil))) func172 (Args.three (.pagg .t) (.pagg .t) .t)) r3 qz (qO rr qZ))))) V [18,17,16,10,7,6,3,2] [101,0] fun G=>Ya ?_))
  refine Ze G (qR rr (qf (Zbs .t qi) r1 qz (qR rr (qm Z Z Z Z (qk Z (fun h=>o_eql (.w h) qi) r2 qz (qk Z (fun h=>oM (.w h)) r2 qz (ZB.cons (ZaD.cond2 Z Z (fun h=>Za6 .t (by rfl))) r2 qz (ZB.cons (ZaD.cond2 Z Z (fun h=>o_add (.w h) qi)) r2 qz (ZB.cons (ZaD.cond2 Z Z (fun h=>Za6 .t (by rfl))) r2 qz (ZB.cons (ZaD.cond2 Z Z (fun h=>ZaA (.w h) (.w h))) r3 qz (qk Z (fun h=>Zak (.w h) (.wc h)) r3 qz (qf (ZE .t .t) r2 qz qZ)))))))))))) V [37,18,17,16,10,7,6,3,2] [101,0] Z Z fun a w F G=>?_
  try dsimp only [Zav,Zau,Zn,Zam] at G
  refine Za (Zc G Z (fun hc1=>?_) (fun hc1=>?_))
  ·have hyn:(0≤ZG (fun y:Zy=>ofB must y.kind) dv ev need (Nn (Zac O mask node) i)∧(Z0 (ZG (fun y:Zy=>ofB must y.kind) dv ev need) ((Zac O mask node).take i)=0∨ZG (fun y:Zy=>ofB must y.kind) dv ev need (Nn (Zac O mask node) i)+1<Z0 (ZG (fun y:Zy=>ofB must y.kind) dv ev need) ((Zac O mask node).take i))):=by have hlx:=hlv (Nn (Zac O mask node) i) (nth_mem hil);have h9:=hc1;rw [ZA ow] at h9;simpa using h9
   refine Ze G (qR rr (qp r1 (qO rr qZ))) V [18,17,16,7,6,3,2] [101,0] Z Z fun a w F G=>Zi (Za ?_)
   refine rZ G (qp r1 (qR rr qZ)) V [18,17,16,7,6,3,2] [101,0] fun G=>?_
   replace G:=G.ent (i:=18) (s':=.pv (.int .i64 ((i+1:Nat):Int))) Z (.int (Zd ow))
   replace G:=G.ent (i:=7) (s':=.pv (.int .i64 (Z0 (ZG (fun y:Zy=>ofB must y.kind) dv ev need) ((Zac O mask node).take (i+1))))) Z (.int (by rw [Zp hil,ZdB,Yf hyn];exact ZA ow))
   obtain ⟨F,G⟩:=G.nM [17,16,6,3,2,7,18] [101,0]
   exact ⟨(i+1),F,⟨by omega,tv⟩,G,by omega⟩
  have hyn:¬ (0≤ZG (fun y:Zy=>ofB must y.kind) dv ev need (Nn (Zac O mask node) i)∧(Z0 (ZG (fun y:Zy=>ofB must y.kind) dv ev need) ((Zac O mask node).take i)=0∨ZG (fun y:Zy=>ofB must y.kind) dv ev need (Nn (Zac O mask node) i)+1<Z0 (ZG (fun y:Zy=>ofB must y.kind) dv ev need) ((Zac O mask node).take i))):=by have hlx:=hlv (Nn (Zac O mask node) i) (nth_mem hil);have h9:=hc1;rw [ZA ow] at h9;simpa using h9
  refine Ye (Zi (Za (rZ G (qp r1 (qR rr qZ)) V [18,17,16,7,6,3,2] [101,0] fun G=>?_)))
  replace G:=G.ent (i:=18) (s':=.pv (.int .i64 ((i+1:Nat):Int))) Z (.int (Zd ow))
  replace G:=G.ent (i:=7) (s':=.pv (.int .i64 (Z0 (ZG (fun y:Zy=>ofB must y.kind) dv ev need) ((Zac O mask node).take (i+1))))) Z (.int (by rw [Zp hil,ZdB,Yc hyn]))
  obtain ⟨F,G⟩:=G.nM [17,16,6,3,2,7,18] [101,0]
  exact ⟨(i+1),F,⟨by omega,tv⟩,G,by omega⟩
 have hil:i=(Zac O mask node).length:=by simp at hc0;omega
 refine Yx (Zj (Zj (Zo (Za (Ya (rZ G (qR rr (qO rr qZ)) V [6] [0] fun G=>Yh ?_))))))
 refine Zs hfr G Z Z Z (.int (by rw [hil,YA]))
theorem Zs2 (E:List Zy) (O I:List (List Z7)) (m:Nat) (mask must:Int) (dv ev:List Int) (node:Int) (k:Nat) (need:Bool) (hk:k≤100000) (h:ZbU O.length E O I) (hL:Zct (fun x=>x ∈ E∧ofB mask x.kind=true) (fun y:Zy=>ofB must y.kind) node dv ev) (hW0:Zch (fun x=>x ∈ E∧ofB mask x.kind=true) (fun y:Zy=>ofB must y.kind) ZnJ node k need [] node k need) (hO:∀ l ∈ O,l.length≤1000000) (hor:∀ u,∀ x ∈ Zac O mask u,0≤x.dst∧x.dst<dv.length∧x.dst<ev.length) (hol:∀ u,(Zac O mask u).length≤1000000):FnP prog 130 [.agg [Zew O I m,.int .i64 mask,.int .i64 must,.sl Zn dv,.sl Zn ev],.int .i64 node,.int .i64 (k:Int),.bool need] (.sl Zam (Zbd (Zac O mask) (ZG (fun y:Zy=>ofB must y.kind) dv ev) (fun y:Zy=>ofB must y.kind) node k node need)):=by
 refine FnP.mk func130 Z ntmps130 Z fun B a w F V hfr G=>Ya ?_
 refine Zb G (qx 101 r1 (qC qZ)) V [8,4,3,2,1] [101,0] (fun _=>rfl) (fun _=>rfl) fun τ a w F G=>?_
 try dsimp only [RS.sub,SF.sub,CF.sub,csub,Anc.sub,List.map,zCF,Zav,Zau,Zn,Zam] at G
 generalize τ 4=v4 at G
 refine Za (Ya (rZ G (qC qZ) V [9,8,4,3,2,1] [101,0] fun G=>(Ya (Ya ?_))))
 refine rZ G (qR rr (qO rr qZ)) V [10,9,8,4,3,2,1] [101,0] fun G=>Yg ?_
 replace G:=G.fresh 50 rfl
 replace G:=G.turn 50 Z (ZaC (T:=165) (sz:=4) (R:=Zam))
 refine Zk (σ:=Nat×Int×Bool×Value×List Zy) [1,4,8] [0,101] (fun s=>[(2,.pv (.int .i64 (s.1:Int))),(10,.pv (.int .i64 s.2.1)),(3,.pv (.bool s.2.2.1)),(9,.pv (.is s.2.2.2.1))]) (fun s=>[(50,.ob (.val s.2.2.2.1) (Zx 165 4 Zam s.2.2.2.2))]) (fun s=>Zch (fun x=>x ∈ E∧ofB mask x.kind=true) (fun y:Zy=>ofB must y.kind) ZnJ node k need s.2.2.2.2 s.2.1 s.1 s.2.2.1∧s.2.2.2.2++Zbd (Zac O mask) (ZG (fun y:Zy=>ofB must y.kind) dv ev) (fun y:Zy=>ofB must y.kind) node s.1 s.2.1 s.2.2.1=Zbd (Zac O mask) (ZG (fun y:Zy=>ofB must y.kind) dv ev) (fun y:Zy=>ofB must y.kind) node k node need) (fun s=>s.1) ((k),(node),(need),(.slice none 0 0),([])) G ⟨rfl,rfl,rfl,rfl,rfl,rfl,rfl,tv⟩ ⟨rfl,rfl,rfl,tv⟩ ⟨hW0,rfl⟩ ?_
 clear G;intro s a w F hC G
 obtain ⟨n,here,need2,v,way⟩:=s
 try dsimp only at hC
 obtain ⟨F,G⟩:=G.nM [10,9,8,4,3,2,1] [101,50,0]
 try dsimp only at G
 obtain ⟨hWI,hWF⟩:=hC
 have hwl:=hWI.len
 refine Ya (Ya (rZ G (qR rr (qf (ZaR .t qi) r1 qz qZ)) V [15,10,9,8,4,3,2,1] [101,50,0] fun G=>?_))
 refine Zc G Z (fun hc0=>?_) (fun hc0=>?_)
 ·obtain ⟨n1,rfl⟩:∃ n1,n=n1+1:=⟨n - 1,by have:=Yr hc0;omega⟩
  have hw1:IntKind.wrap .i64 (((n1+1:Nat):Int) - 1)=(n1:Int):=by rw [ZA ow];omega
  have hln:=hol here
  obtain ⟨x,hx1,hx2,hx3⟩:=Zht (h.outM mask) (h.outP mask) hL hWI
  refine Ye (Za (Ya (Yg (Ya (rZ G (qg 0 101 r1 r1 (qa 101 r1 r1 (qR rr (qg 1 101 r1 r1 (qa 101 r1 r1 (qf (oP (Zn7 O I m here mask hO) func171 (Args.three .t .t .t)) r3 qz (qu Ycl r1 (qJ qZ)))))))) V [25,24,23,10,9,8,4,3,2,1] [101,50,0] fun G=>Yg ?_)))))
  refine Zk (σ:=(Nat)) [1,2,3,4,8,9,10,23,24] [0,50,101] (fun s=>[(25,.pv (.int .i64 (s:Int)))]) (fun s=>[]) (fun s=>s≤(Zac O mask here).length∧(∀ q,q<s→(fun x:Zy=>decide (node≤x.dst) && decide (ZG (fun y:Zy=>ofB must y.kind) dv ev need2 x=(n1:Int))) (Nn (Zac O mask here) q)=false)) (fun s=>(Zac O mask here).length - s) (0) G ⟨rfl,rfl,rfl,rfl,rfl,rfl,rfl,rfl,rfl,rfl,tv⟩ ⟨rfl,rfl,rfl,tv⟩ ⟨Yw _,fun q hq=>absurd hq (Y3 q)⟩ ?_
  clear G;intro i a w F hC G
  try dsimp only at hC
  obtain ⟨F,G⟩:=G.nM [25,24,23,10,9,8,4,3,2,1] [101,50,0]
  try dsimp only at G
  obtain ⟨hi,hq⟩:=hC
  refine Ya (rZ G (qL r2) V [26,25,24,23,10,9,8,4,3,2,1] [101,50,0] fun G=>Ya ?_)
  refine Zc G Z (fun hc1=>?_) (fun hc1=>?_)
  ·have hil:i<(Zac O mask here).length:=by simp at hc1;omega
   refine Ye (Za (Ya (Yg (Ya (Zb G (qy 4 Ycl r2 (qf (oR true 4 .t) r1 qz (qf (oH [.int .i64 0,.int .i64 0,.int .i64 0,.int .i64 0] 102) trivial qz (qS 4 102 r2 r1 qZ)))) V [25,24,23,12,10,9,8,4,3,2,1] [102,101,50,0] (fun _=>rfl) (fun _=>rfl) fun τ a w F G=>?_)))))
   try dsimp only [RS.sub,SF.sub,CF.sub,csub,Anc.sub,List.map,Zf,xL,xM,Nat.reduceAdd,xD,xE,xT,xU,xC,xN,zCF,ldSF,Zav,Zau,Zn,Zam] at G
   generalize τ 12=v12 at G
   try simp only [Yb] at G
   refine Za (Ya (Ya (rZ G (qg 1 102 r1 r1 (qa 102 r1 r1 (qR rr (qf (ZaA .t .t) r2 qz (qR rr (qk Z (fun h=>oL true 5 101 .is) r2 r1 (qk Z (fun h=>oL true 4 102 .is) r2 r1 (qm Z Z Z Z (qk Z (fun h=>oP (Ztd O I m mask must dv ev (Nn (Zac O mask here) i) need2 (hor _ _ (nth_mem hil))) func172 (Args.three (.pagg (.w h)) (.pagg (.w h)) (.w h))) r4 qz (qm Z Z Z Z (qk Z (fun h=>o_sub (.w h) qi) r2 qz (qk Z (fun h=>o_neq (.w h) (.w h)) r3 qz (qf (Zak .t .t) r2 qz qZ))))))))))))) V [41,25,24,23,12,10,9,8,4,3,2,1] [102,101,50,0] fun G=>?_)))
   refine Zc G Z (fun hc2=>?_) (fun hc2=>?_)
   ·have hpf:(fun x:Zy=>decide (node≤x.dst) && decide (ZG (fun y:Zy=>ofB must y.kind) dv ev need2 x=(n1:Int))) (Nn (Zac O mask here) i)=false:=by have h9:=hc2;rw [hw1] at h9;simp at h9 ⊢;intro h8;rcases h9 with h9 | h9;omega;exact h9
    refine Yx (Zj (Zo (Za (rZ G (qp r1 (qR rr qZ)) V [25,24,23,10,9,8,4,3,2,1] [102,101,50,0] fun G=>?_))))
    replace G:=G.ent (i:=25) (s':=.pv (.int .i64 ((i+1:Nat):Int))) Z (.int (Zd ow))
    obtain ⟨F,G⟩:=G.nM [24,23,10,9,8,4,3,2,1,25] [101,50,0]
    exact ⟨(i+1),F,⟨by omega,(fun q h9=>by rcases YX (Y6 h9) with h8 | h8;exact hq q h8;rw [h8];exact hpf)⟩,G,by omega⟩
   have hpt:(fun x:Zy=>decide (node≤x.dst) && decide (ZG (fun y:Zy=>ofB must y.kind) dv ev need2 x=(n1:Int))) (Nn (Zac O mask here) i)=true:=by have h9:=hc2;rw [hw1] at h9;simp at h9 ⊢;exact ⟨h9.1,h9.2⟩
   have hff:=ZmR (p:=(fun x:Zy=>decide (node≤x.dst) && decide (ZG (fun y:Zy=>ofB must y.kind) dv ev need2 x=(n1:Int)))) hil hpt hq
   rw [hff] at hx1
   have hxe:=YaQ hx1
   have hW2:Zch (fun x=>x ∈ E∧ofB mask x.kind=true) (fun y:Zy=>ofB must y.kind) ZnJ node k need (way ++ [(Nn (Zac O mask here) i)]) (Nn (Zac O mask here) i).dst n1 (need2 && !ofB must (Nn (Zac O mask here) i).kind):=by rw [hxe];exact hx3
   have hWF2:(way ++ [(Nn (Zac O mask here) i)])++Zbd (Zac O mask) (ZG (fun y:Zy=>ofB must y.kind) dv ev) (fun y:Zy=>ofB must y.kind) node n1 (Nn (Zac O mask here) i).dst (need2 && !ofB must (Nn (Zac O mask here) i).kind)=Zbd (Zac O mask) (ZG (fun y:Zy=>ofB must y.kind) dv ev) (fun y:Zy=>ofB must y.kind) node k node need:=by rw [← hWF,Zbd,hff,YO];rfl
   refine Ye (Za (Ya (Zb G (qR rr (qe 4 102 r1 r1 (qf (o_buildSliceE (sz:=4) (zs:=[.int .i64 0,.int .i64 0,.int .i64 0,.int .i64 0]) (r:=[(0,.tmp 43)]) (l:=[_,_,_,_]) Ycl kr kr kr kr Z Z (.agg Z .t kr kr .nil) Z) r1 qz (qf (ZV (sz:=4) (bs:=32) 50 (.mk' Ycl kr kr) (by intro x;rfl) .is (.arr (l':=[(Nn (Zac O mask here) i)]) .t) (by simp only [Yd,Yl,Yy,Yi,YE];omega) (by decide)) ⟨rfl,rfl,tv⟩ ⟨rfl,tv⟩ (qO rr qZ))))) V [25,24,23,12,10,9,8,4,3,2,1] [102,101,50,0] (fun _=>rfl) (fun _=>rfl) fun τ a w F G=>?_)))
   try dsimp only [RS.sub,SF.sub,CF.sub,csub,Anc.sub,List.map,Zf,xL,xM,Nat.reduceAdd,xD,xE,xT,xU,xC,xN,zCF,ldSF,Zav,Zau,Zn,Zam] at G
   generalize τ 45=v45 at G
   refine Za (Ya (rZ G (qg 1 102 r1 r1 (qa 102 r1 r1 (qO rr qZ))) V [25,24,23,12,10,9,8,4,3,2,1] [102,101,50,0] fun G=>Ya ?_))
   refine rZ G (qR rr (qR rr (qv 2 101 Z r2 r1 (qw 101 Z r2 r1 (qv 2 102 Z r2 r1 (qw 102 Z r2 r1 (qk Z (fun h=>o_conv Ycm kr (.w h)) r2 qz (qk Z (fun h=>Zco (.w h) (.w h)  (by rw [Zaj];omega)) r3 qz (qk Z (fun h=>o_and (.w h) qi) r2 qz (qk Z (fun h=>o_eql (.w h) qi) r2 qz (qf (ZE .t .t) r2 qz (qO rr qZ)))))))))))) V [25,24,23,10,9,8,4,3,2,1] [102,101,50,0] fun G=>Yx ?_
   refine Zoa (by decide) ?_
   refine Zj (Zj (Zo (Zi (Za (rZ G (qR rr (qf (o_sub .t qi) r1 qz (qO rr qZ))) V [10,9,8,4,3,2,1] [102,101,50,0] fun G=>?_)))))
   replace G:=G.ent (i:=2) (s':=.pv (.int .i64 (n1:Int))) Z (.int (by rw [ZA ow];omega))
   replace G:=G.ent (i:=3) (s':=.pv (.bool (need2 && !ofB must (Nn (Zac O mask here) i).kind))) Z (.bool (by rw [of_zero]))
   obtain ⟨F,G⟩:=G.nM [8,4,1,9,3,10,2] [101,0,50]
   exact ⟨((n1),((Nn (Zac O mask here) i).dst),((need2 && !ofB must (Nn (Zac O mask here) i).kind)),_,_),F,⟨hW2,hWF2⟩,G,by omega⟩
  have hil:i=(Zac O mask here).length:=by simp at hc1;omega
  rw [Zps (p:=(fun x:Zy=>decide (node≤x.dst) && decide (ZG (fun y:Zy=>ofB must y.kind) dv ev need2 x=(n1:Int)))) hil hq] at hx1;cases hx1
 have hn0:n=0:=by have:=YL hc0;omega
 subst hn0
 have hg:way=Zbd (Zac O mask) (ZG (fun y:Zy=>ofB must y.kind) dv ev) (fun y:Zy=>ofB must y.kind) node k node need:=by rw [← hWF,Zbd,YS]
 refine Yx (Zj (Zj (Zo (Za (Ya (rZ G (qR rr (qO rr qZ)) V [8] [101,50,0] fun G=>Yh ?_))))))
 obtain ⟨F,G⟩:=G.give 50 8 Z rfl
 refine Zs hfr G Z Z Z (.sl hg)
theorem ZwE (E:List Zy) (O I:List (List Z7)) (m:Nat) (mask must node mn mm:Int) (hmn:bits .andNot .i64 mask must=mn) (hmm:bits .and .i64 mask must=mm) (hne:mn≠mm) (h:ZbU O.length E O I) (hn1:1≤O.length) (hn:O.length≤4096) (hE:E.length≤1000000) (hs1:0≤node) (hs2:node<O.length) (D D2:List Int) (hD:Zds O.length (fun x=>adjO I mask x) node node D) (hD2:Zds (2*O.length) (ZdO (fun x=>adjO I mn x) (fun x=>adjO I mm x)) (2*node) (2*node) D2):FnP prog 128 [Zew O I m,.int .i64 mask,.int .i64 must,.int .i64 node] (.agg [Zew O I m,.int .i64 mask,.int .i64 must,.sl Zn D,.sl Zn (ZaQ O.length D2)]):=by
 refine FnP.mk func128 Z ntmps128 Z fun B a w F V hfr G=>Ya ?_
 refine Zb G (qf (oH [.pointer none,.int .i64 0,.int .i64 0,.slice none 0 0,.slice none 0 0] 101) trivial qz qZ) V [8,3,2,1,0] [101,0] (fun _=>rfl) (fun _=>rfl) fun τ a w F G=>?_
 try dsimp only [RS.sub,SF.sub,CF.sub,csub,Anc.sub,List.map,zCF,Zav,Zau,Zn,Zam] at G
 generalize τ 8=v8 at G
 refine Za (Ya (rZ G (qR rr (qR rr (qR rr (qR rr (qR rr (qR rr (qR rr (qf (oP (ZwL E O I m mask node node h hn1 hn hE (Yap _) hs1 hs2 D hD) func169 (Args.four .t .t .t .t)) r4 qz (qR rr (qR rr (qR rr (qR rr (qR rr (qf (oP (Zvh E O I m mask must node node mn mm hmn hmm hne h hn1 hn hE (Yap _) hs1 hs2 D2 hD2) func170 (Args.five .t .t .t .t .t)) r5 qz (qf (oB [(0,.tmp 9),(1,.tmp 10),(2,.tmp 11),(3,.tmp 16),(4,.tmp 22)] [.pointer none,.int .i64 0,.int .i64 0,.slice none 0 0,.slice none 0 0] [(0,1),(1,1),(2,1),(3,1),(4,1)] (.one Z .t ZhZ kr (.one Z .t one_int kr (.one Z .t one_int kr (.one Z .t one_sl kr (.one Z .t one_sl kr .nil)))))) r5 qz (qs 5 101 r2 r1 qZ)))))))))))))))) V [8] [101,0] fun G=>Yh ?_))
 refine Zaa hfr G Z (.cl 101 true 5 Z Z .nil) (.one (.aggU Z Z))
theorem Zmg (x:Int):FnP prog 151 [.int .i64 x] (.bool false):=by
 refine FnP.mk func151 Z ntmps151 Z fun B a w F V hfr G=>Ya ?_
 refine rZ G qB V [2,0] [0] fun G=>Ya ?_
 refine rZ G (qR rr (qR rr (qf (o_neq .t .t) r2 qz (qO rr qZ)))) V [2] [0] fun G=>Yh ?_
 refine Zs hfr G Z Z Z (.bool (by simp))
theorem Zmh (x:Int):FnP prog 226 [.int .i64 x] (.bool false):=by
 refine FnP.mk func226 Z ntmps226 Z fun B a w F V hfr G=>Ya ?_
 refine rZ G qB V [2,0] [0] fun G=>Ya ?_
 refine rZ G (qR rr (qR rr (qf (o_neq .t .t) r2 qz (qO rr qZ)))) V [2] [0] fun G=>Yh ?_
 refine Zs hfr G Z Z Z (.bool (by simp))
theorem ZtN (x y:Int):FnP prog 186 [.int .i64 x,.int .i64 y] (.bool (decide (x<y))):=by
 refine FnP.mk func186 Z ntmps186 Z fun B a w F V hfr G=>Ya ?_
 refine rZ G qB V [4,1,0] [0] fun G=>Ya ?_
 refine rZ G (qR rr (qf (oP (Zmg x) func151 (Args.one .t)) r1 qz (qR rr (qm Z Z Z Z (qk Z (fun h=>oP (Zmg y) func151 (Args.one (.w h))) r2 qz (qk Z (fun h=>o_not (.w h)) r2 qz (qf (ZE .t .t) r2 qz (qR rr (qm Z Z Z Z (qm Z Z Z Z (qk Z (fun h=>ZaA (.w h) (.w h)) r3 qz (qf (Zak .t .t) r2 qz (qO rr qZ))))))))))))) V [4] [0] fun G=>Yh ?_
 refine Zs hfr G Z Z Z (.bool (by simp))
theorem ZtX (l:List Int) (k:Int) (hll:l.length≤1000000) (hs:ZcK (fun x:Int=>x) l):FnP prog 203 [.sl Zn l,.int .i64 k] (.tup [.int .i64 (lowK (fun x:Int=>x) k l),.any]):=by
 refine FnP.mk func203 Z ntmps203 Z fun B a w F V hfr G=>Ya ?_
 refine rZ G (qI qB) V [5,4,1,0] [0] fun G=>Ya ?_
 refine rZ G (qR rr (qu Ycf r1 (qO rr qZ))) V [6,5,4,1,0] [0] fun G=>Ya ?_
 refine rZ G (qR rr (qI (qO rr qZ))) V [8,7,6,5,4,1,0] [0] fun G=>(Ya (Yg ?_))
 refine Zk (σ:=Nat×Nat) [0,1,4,5,6] [0] (fun s=>[(7,.pv (.int .i64 (s.1:Int))),(8,.pv (.int .i64 (s.2:Int)))]) (fun s=>[]) (fun s=>s.1≤s.2∧s.2≤l.length∧(∀ q,q<s.1→Nn l q<k) ∧ ∀ q,s.2≤q→q<l.length→k≤Nn l q) (fun s=>s.2 - s.1) ((0),(l.length)) G ⟨rfl,rfl,rfl,rfl,rfl,rfl,rfl,tv⟩ ⟨rfl,tv⟩ ⟨Yw _,YM _,fun q hq=>absurd hq (Y3 q),fun q h1 h2=>by omega⟩ ?_
 clear G;intro s a w F hC G
 obtain ⟨i,j⟩:=s
 try dsimp only at hC
 obtain ⟨F,G⟩:=G.nM [8,7,6,5,4,1,0] [0]
 try dsimp only at G
 obtain ⟨hij,hjl,hlo,hhi⟩:=hC
 have hgl:=ZdC (κ:=fun x:Int=>x) (i:=i) ow hlo
 refine Ya (Ya (rZ G (qR rr (qR rr (qL r2))) V [15,8,7,6,5,4,1,0] [0] fun G=>?_))
 refine Zc G Z (fun hc0=>?_) (fun hc0=>?_)
 ·have hlt:i<j:=by simp at hc0;omega
  refine Ye (Za (Yg (Ya (Ze G (qR rr (qR rr (qf (o_add .t .t) r2 qz (qf (o_conv Ycm kr .t) r1 qz (qf (Zco .t qi (by decide)) r1 qz (qf (o_conv Ycn kr .t) r1 qz (qO rr qZ))))))) V [9,8,7,6,5,4,1,0] [0] Z Z fun a w F G=>?_))))
  obtain ⟨m,hm⟩:∃ m:Nat,m=(i+j) / 2:=⟨_,rfl⟩
  replace G:=G.ent (i:=9) (s':=.pv (.int .i64 (m:Int))) Z (.int (by rw [hm];exact Zie ow))
  obtain ⟨F,G⟩:=G.nM [9,8,7,6,5,4,1,0] [0]
  refine Za (Ya (Ze G (qR rr (qR rr (qy 1 Ycf r2 (qf (oR false 1 .t) r1 qz (qR rr (qf (oP (ZtN (Nn l m) k) func186 (Args.two .t .t)) r2 qz qZ)))))) V [27,9,8,7,6,5,4,1,0] [0] Z Z fun a w F G=>?_))
  try simp only [Yb] at G
  refine Za (Zc G Z (fun hc1=>?_) (fun hc1=>?_))
  ·have hmk:(Nn l m)<k:=by simpa using hc1
   obtain ⟨i2,hi2e⟩:∃ z,z=m+1:=⟨_,rfl⟩
   obtain ⟨j2,hj2e⟩:∃ z,z=j:=⟨_,rfl⟩
   have hi2:IntKind.wrap .i64 ((m:Int)+1)=(i2:Int):=by rw [hi2e];exact Zd ow
   have hj2:(j:Int)=(j2:Int):=by rw [hj2e]
   have hmu:j2 - i2<j - i:=by omega
   have hC2:i2≤j2∧j2≤l.length∧(∀ q,q<i2→Nn l q<k) ∧ ∀ q,j2≤q→q<l.length→k≤Nn l q:=⟨by omega,by omega,fun q hq=>Int.lt_of_le_of_lt (ZbF (κ:=fun x:Int=>x) hs ow ow) hmk,by rw [hj2e];exact hhi⟩
   refine Ze G (qR rr (qp r1 (qO rr qZ))) V [8,7,6,5,4,1,0] [0] Z Z fun a w F G=>Zi (Za ?_)
   replace G:=G.ent (i:=7) (s':=.pv (.int .i64 (i2:Int))) Z (.int hi2)
   replace G:=G.ent (i:=8) (s':=.pv (.int .i64 (j2:Int))) Z (.int hj2)
   obtain ⟨F,G⟩:=G.nM [6,5,4,1,0,8,7] [0]
   exact ⟨((i2),(j2)),F,hC2,G,hmu⟩
  have hmk:k≤(Nn l m):=Int.not_lt.1 (show ¬ (Nn l m)<k by simpa using hc1)
  obtain ⟨i2,hi2e⟩:∃ z,z=i:=⟨_,rfl⟩
  obtain ⟨j2,hj2e⟩:∃ z,z=m:=⟨_,rfl⟩
  have hi2:(i:Int)=(i2:Int):=by rw [hi2e]
  have hj2:(m:Int)=(j2:Int):=by rw [hj2e]
  have hmu:j2 - i2<j - i:=by omega
  have hC2:i2≤j2∧j2≤l.length∧(∀ q,q<i2→Nn l q<k) ∧ ∀ q,j2≤q→q<l.length→k≤Nn l q:=⟨by omega,by omega,by rw [hi2e];exact hlo,fun q h1 h2=>YbR hmk (ZbF (κ:=fun x:Int=>x) hs ow h2)⟩
  refine Ze G (qR rr (qO rr qZ)) V [8,7,6,5,4,1,0] [0] Z Z fun a w F G=>Zi (Za ?_)
  replace G:=G.ent (i:=7) (s':=.pv (.int .i64 (i2:Int))) Z (.int hi2)
  replace G:=G.ent (i:=8) (s':=.pv (.int .i64 (j2:Int))) Z (.int hj2)
  obtain ⟨F,G⟩:=G.nM [6,5,4,1,0,8,7] [0]
  exact ⟨((i2),(j2)),F,hC2,G,hmu⟩
 have hjj:i=j:=by simp at hc0;omega
 subst hjj
 have hgl2:=hgl hhi
 refine Yx (Zj (Zj (Zo (Za (Ya (Ze G (qR rr (qR rr (qR rr (qf (ZaA .t .t) r2 qz (qR rr (qm Z Z Z Z (qm Z Z Z Z (qk Z (fun h=>o_indexAddr_sl (sz:=1) (.mk Ycf kr) (by intro x;rfl) (.w h) (.w h) ow (by have:=Yr h;omega)) r3 qz (qk Z (fun h=>oR false 1 (.w h)) r2 qz (qm Z Z Z Z (qk Z (fun h=>o_eql (.w h) (.w h)) r3 qz (qk Z (fun h=>oM (.w h)) r2 qz (ZB.cons (ZaD.cond2 Z Z (fun h=>Za6 .t (by rfl))) r2 qz (ZB.cons (ZaD.cond2 Z Z (fun h=>Za6 .t (by rfl))) r2 qz (ZB.cons (ZaD.cond2 Z Z (fun h=>o_indexAddr_sl (sz:=1) (.mk Ycf kr) (by intro x;rfl) (.w h) (.w h) ow (by have:=Yr h.1;omega))) r3 qz (ZB.cons (ZaD.cond2 Z Z (fun h=>Zeu (ag:=false) (sz:=1) (.w h) kr kr kr)) r2 qz (ZB.cons (ZaD.cond2 Z Z (fun h=>Zkh (Zmh _) func226 Z kr (Args.one (.w h)))) r2 qz (ZB.cons (ZaD.cond2 Z Z (fun h=>Za6 (.w h) (by rfl))) r2 qz (ZB.cons (ZaD.cond2 Z Z (fun h=>Za6 .t (by rfl))) r2 qz (ZB.cons (ZaD.cond2 Z Z (fun h=>Zkh (Zmh _) func226 Z kr (Args.one (.w h)))) r2 qz (ZB.cons (ZaD.cond2 Z Z (fun h=>ZE (.w h) (.wc h))) r3 qz (qk Z (fun h=>Zak (.w h) (.wc h)) r3 qz (qf (ZE .t .t) r2 qz (qO rr (qO rr qZ))))))))))))))))))))))))) V [5,4] [0] Z Z fun a w F G=>?_))))))
 try dsimp only [List.map,xD,xE,xT,xU,ldSF,Zn] at G
 try simp only [Yb] at G
 refine Za (Yh (Zaa hfr G Z (.tmp Z (.tmp Z .nil)) (.two (.int (by rw [hgl2])) .any)))
theorem Zqc (v:Value) (l:List Int) (hll:l.length≤1000000):FnG prog 167 1 [.is v] [Zx 3 1 Zn l v] (PV.one) (fun v=>[Zx 3 1 Zn (Zbt l) v]):=by
 refine FnG.mk func167 Z ntmps167 Z kr fun B F0 a w F V hG G=>?_
 replace G:=G.turn 1 Z (r':=.ob (.val v) (Zx 3 1 Zn l)) (fun _ _ _ _ h=>h)
 have hg:Zbt l=Zt (l.mergeSort leI):=by rw [Zdi,ZdP]
 refine Ya (rZ G (qC qZ) V [2,0] [1,0] fun G=>Ya ?_)
 refine rZ G (qR rr (qf (Zbm 1 (Zjn v l ow) func92 Z kr (Args.one .t)) r1 r1 qZ)) V [2,0] [1,0] fun G=>Ya ?_
 refine Zb G (qR rr (qf (o_callRowN 1 (Zkj v _ (by rw [Ybw];omega)) func179 Z kr (Args.one .t) pvOne1) r1 r1 (qO rr qZ))) V [2] [1,0] (fun _=>rfl) (fun _=>rfl) fun τ a w F G=>?_
 try dsimp only [RS.sub,SF.sub,CF.sub,csub,Anc.sub,List.map,Zav,Zau,Zn,Zam] at G
 generalize τ 6=v6 at G
 refine Za (Yh ?_)
 have G:=G.turn 1 Z (r':=RS.hp (Zx 3 1 Zn (Zbt l) v6)) (fun _ _ _ _ h=>by rw [hg];exact h)
 refine Z1 (h':=fun v=>Zx 3 1 Zn (Zbt l) v) hG G Z (.tmp Z .nil) (.one .one) rfl
theorem Ziv {A:Zy→Prop} {i:Int} {prev:Int→List Int} (hp:∀ x u,u ∈ prev x ↔ ∃ y,A y∧y.dst=x∧y.src=u) {k:Nat} {u:Int} : Zfp prev i i k u ↔ i≤u ∧ ∃ w,Zeq A i u w i∧w.length=k:=by
 constructor
 ·intro h
  induction h with
  | zero=>exact ⟨Yap _,[],rfl,rfl⟩
  | step h1 hl _ ih=>
   obtain ⟨i1,w,i2,i3⟩:=ih
   obtain ⟨y,y1,y2,y3⟩:=(hp _ _).1 h1
   subst y2
   exact ⟨hl,y :: w,⟨y1,y3,i1,i2⟩,by rw [Yl,i3]⟩
 ·rintro ⟨hu,w,hw,rfl⟩
  induction w generalizing u with
  | nil=>
   have e:u=i:=hw
   subst e;exact .zero
  | cons y w ih=>exact .step ((hp _ _).2 ⟨y,hw.1,rfl,hw.2.1⟩) hu (ih hw.2.2.1 hw.2.2.2)
theorem Zmf {A:Zy→Prop} {m:Zy→Bool} {i:Int} {p q:Int→List Int} (hp:∀ x u,u ∈ p x ↔ ∃ y,A y∧m y=false∧y.dst=x∧y.src=u) (hq:∀ x u,u ∈ q x ↔ ∃ y,A y∧m y=true∧y.dst=x∧y.src=u) {k:Nat} {s:Int} :
  Zfp (ZdO p q) (2*i) (2*i) k s ↔ i≤s / 2 ∧ ∃ w,Zeq A i (s / 2) w i∧w.length=k∧(s % 2=1 ↔ w.any m=true):=by
 constructor
 ·intro h
  induction h with
  | zero=>exact ⟨by omega,[],by show 2*i / 2=i;omega,rfl,by simp⟩
  | @step k s x h1 hl _ ih=>
   obtain ⟨i1,w,i2,i3,i4⟩:=ih
   rcases YB.1 h1 with h1 | h1
   ·obtain ⟨u,h2,h3⟩:=Yu.1 h1
    obtain ⟨y,y1,y2,y3,y4⟩:=(hp _ _).1 h2
    have e1:s / 2=u:=by omega
    have e2:s % 2=x % 2:=by omega
    subst y4
    refine ⟨by omega,y :: w,⟨y1,e1.symm,by rw [y3];exact i1,by rw [y3];exact i2⟩,by rw [Yl,i3],?_⟩
    rw [e2,i4,YbT,y2,Ybi]
   ·obtain ⟨u,h2,h3⟩:=Yu.1 h1
    obtain ⟨y,y1,y2,y3,y4⟩:=(hq _ _).1 h2
    have e1:s / 2=u:=by omega
    subst y4
    refine ⟨by omega,y :: w,⟨y1,e1.symm,by rw [y3];exact i1,by rw [y3];exact i2⟩,by rw [Yl,i3],?_⟩
    rw [YbT,y2,Yb3]
    exact ⟨fun _=>rfl,fun _=>by omega⟩
 ·rintro ⟨hu,w,hw,rfl,hm⟩
  induction w generalizing s with
  | nil=>
   have e:s / 2=i:=hw
   have e2:¬ s % 2=1:=fun h=>by have:=hm.1 h;simp at this
   have:s=2*i:=by omega
   rw [this];exact .zero
  | cons y w ih=>
   obtain ⟨a1,a2,a3,a4⟩:=hw
   rw [YbT] at hm
   cases hy:m y
   ·rw [hy,Ybi] at hm
    refine .step (x:=2*y.dst+s % 2) (Y1 _ (Yu.2 ⟨s / 2,(hp _ _).2 ⟨y,a1,hy,by omega,a2⟩,by omega⟩)) ow (ih ow ?_ ?_)
    ·rw [show (2*y.dst+s % 2) / 2=y.dst by omega];exact a4
    ·rw [show (2*y.dst+s % 2) % 2=s % 2 by omega];exact hm
   ·rw [hy,Yb3] at hm
    have hs:s % 2=1:=hm.2 rfl
    cases hw2:w.any m
    ·refine .step (x:=2*y.dst) (YQ _ (Yu.2 ⟨s / 2,(hq _ _).2 ⟨y,a1,hy,by omega,a2⟩,by omega⟩)) ow (ih ow ?_ ?_)
     ·rw [show (2*y.dst) / 2=y.dst by omega];exact a4
     ·rw [show (2*y.dst) % 2=0 by omega,hw2];simp
    ·refine .step (x:=2*y.dst+1) (YQ _ (Yu.2 ⟨s / 2,(hq _ _).2 ⟨y,a1,hy,by omega,a2⟩,by omega⟩)) ow (ih ow ?_ ?_)
     ·rw [show (2*y.dst+1) / 2=y.dst by omega];exact a4
     ·rw [show (2*y.dst+1) % 2=1 by omega,hw2];simp
theorem ZpW {n:Nat} {d:List Int} {u:Int} (h:0≤u∧u<n):fI (ZaQ n d) u=fI d (2*u+1):=by
 rw [ZaN h.1,ZaN ow]
 unfold ZaQ
 rw [nth_eq (by simp;omega)]
 simp only [List.getElem_map,List.getElem_range]
 congr 1;omega
theorem Znv {n:Nat} {A:Zy→Prop} {m:Zy→Bool} {i:Int} {prev p q:Int→List Int} {d e:List Int} (hA:∀ x,A x→0≤x.dst∧x.dst<n) (hr:∀ x u,u ∈ prev x ↔ ∃ y,A y∧y.dst=x∧y.src=u)
  (hp:∀ x u,u ∈ p x ↔ ∃ y,A y∧m y=false∧y.dst=x∧y.src=u) (hq:∀ x u,u ∈ q x ↔ ∃ y,A y∧m y=true∧y.dst=x∧y.src=u)
  (hd:Zds n prev i i d) (he:Zds (2*n) (ZdO p q) (2*i) (2*i) e):Zct A m i d (ZaQ n e):=by
 have at_:∀ {k:Nat} {D:List Int} {P:Int→List Int} {l t:Int} {u:Int},Zds k P l t D→0≤u→u<k→(fI D u = -1 ∧ ∀ j,¬ Zfp P l t j u) ∨ ∃ j:Nat,fI D u=j∧Zfp P l t j u ∧ ∀ j',Zfp P l t j' u→j≤j':=fun {k D P l t u} h h1 h2=>by
  have:=h.2 u.toNat ow
  rw [Yaw h1] at this
  rwa [ZaN h1]
 refine ⟨fun x hx hi=>?_,fun x hx hi=>?_,fun x hx hi=>?_⟩
 ·obtain ⟨h1,h2⟩:=hA x hx
  rcases at_ hd h1 h2 with ⟨k1,k2⟩ | ⟨j,k1,k2,k3⟩
  ·exact .inl ⟨k1,fun w hw _=>k2 w.length ((Ziv hr).2 ⟨hi,w,hw,rfl⟩)⟩
  ·obtain ⟨_,w,w1,w2⟩:=(Ziv hr).1 k2
   exact .inr ⟨w,w1,fun h=>by simp at h,by rw [w2,k1],fun w' hw' _=>by rw [w2];exact k3 _ ((Ziv hr).2 ⟨hi,w',hw',rfl⟩)⟩
 ·obtain ⟨h1,h2⟩:=hA x hx
  rw [ZpW ⟨h1,h2⟩]
  have e1:(2*x.dst+1) / 2=x.dst:=by omega
  have e2:(2*x.dst+1) % 2=1:=by omega
  have key:∀ k,Zfp (ZdO p q) (2*i) (2*i) k (2*x.dst+1) ↔ ∃ w,Zeq A i x.dst w i∧w.length=k∧Zc5 m true w:=fun k=>by
   rw [Zmf hp hq,e1,e2]
   constructor
   ·rintro ⟨_,w,w1,w2,w3⟩
    refine ⟨w,w1,w2,fun _=>?_⟩
    have:=w3.1 rfl
    rw [YaD] at this
    exact this
   ·rintro ⟨w,w1,w2,w3⟩
    exact ⟨hi,w,w1,w2,fun _=>by rw [YaD];exact w3 rfl,fun _=>rfl⟩
  rcases at_ he (u:=2*x.dst+1) ow ow with ⟨k1,k2⟩ | ⟨j,k1,k2,k3⟩
  ·exact .inl ⟨k1,fun w hw hm=>k2 w.length ((key _).2 ⟨w,hw,rfl,hm⟩)⟩
  ·obtain ⟨w,w1,w2,w3⟩:=(key _).1 k2
   exact .inr ⟨w,w1,w3,by rw [w2,k1],fun w' hw' hm'=>by rw [w2];exact k3 _ ((key _).2 ⟨w',hw',rfl,hm'⟩)⟩
 ·obtain ⟨h1,h2⟩:=hA x hx
  rw [ZpW ⟨h1,h2⟩]
  refine ⟨?_,?_⟩
  ·rcases at_ hd h1 h2 with ⟨k1,_⟩ | ⟨j,_,k2,_⟩
   ·exact k1
   ·have:=((Ziv hr).1 k2).1;omega
  ·rcases at_ he (u:=2*x.dst+1) ow ow with ⟨k1,_⟩ | ⟨j,_,k2,_⟩
   ·exact k1
   ·have:=((Zmf hp hq).1 k2).1;omega
theorem ZdL.nil (A:Zy→Prop) (m:Zy→Bool) (κ:Zy→Int) (need:Bool) (h:∀ j w,CwA A m need j w→0≤j):ZdL A m κ need 0 []:=⟨fun _ j w hj hw=>by have:=h j w hw;omega,fun h=>absurd rfl h⟩
theorem ZdL.keep {A:Zy→Prop} {m:Zy→Bool} {κ:Zy→Int} {need:Bool} {i:Int} {way:List Zy} (h:ZdL A m κ need i way) (hk:way = [] → ∀ w,¬ CwA A m need i w) (hk2:way≠[] → ∀ w,CwA A m need i w→way.length≤w.length):ZdL A m κ need (i+1) way:=by
 refine ⟨fun e j w hj hw=>?_,fun e=>?_⟩
 ·by_cases hji:j=i
  ·subst hji;exact hk e w hw
  ·exact h.1 e j w ow hw
 ·obtain ⟨j,j1,j2,j3⟩:=h.2 e
  refine ⟨j,by omega,j2,fun j' w hj' hw=>?_⟩
  by_cases hji:j' = i
  ·subst hji
   have:=hk2 e w hw
   by_cases hl:way.length=w.length
   ·exact .inr ⟨hl,.inl j1⟩
   ·exact .inl ow
  ·exact j3 j' w ow hw
theorem ZdL.turn {A:Zy→Prop} {m:Zy→Bool} {κ:Zy→Int} {need:Bool} {i:Int} {way new:List Zy} (h:ZdL A m κ need i way) (hn:CwA A m need i new) (hmin:∀ w,CwA A m need i w→new.length≤w.length) (hf:∀ w,CwA A m need i w→w.length=new.length→w=new∨LtA κ new w) (hl:way≠[]→new.length<way.length):ZdL A m κ need (i+1) new:=by
 refine ⟨fun e=>absurd e hn.1,fun _=>⟨i,by omega,hn,fun j' w hj' hw=>?_⟩⟩
 by_cases hji:j' = i
 ·subst hji
  have:=hmin w hw
  by_cases e:new.length=w.length
  ·exact .inr ⟨e,.inr ⟨rfl,hf w hw e.symm⟩⟩
  ·exact .inl ow
 ·by_cases e:way = []
  ·exact absurd hw (h.1 e j' w ow)
  ·obtain ⟨j,j1,j2,j3⟩:=h.2 e
   have:=hl e
   rcases j3 j' w ow hw with k | ⟨k,_⟩
   ·exact .inl ow
   ·exact .inl ow
def Zcj (B:Zg→Prop):Int→List Zg→Int→Prop
 | a,[],b=>a=b
 | a,e :: w,b=>B e∧e.src=a∧Zcj B e.dst w b
def CwE (B:Zg→Prop) (m:Zg→Bool) (need:Bool) (i:Int) (w:List Zg):Prop:=w≠[]∧Zcj B i w i∧(∀ e ∈ w,i≤e.dst)∧(need=true → ∃ e ∈ w,m e=true)
def ltK (x y:Zg):Prop:=x.kind<y.kind∨x.kind=y.kind∧(x.key<y.key∨x.key=y.key∧x.dst<y.dst)
def LtE:List Zg→List Zg→Prop
 | x :: w,y :: v=>ltK x y∨(x=y∧LtE w v)
 | _,_=>False
def Zc8 (B:Zg→Prop) (m:Zg→Bool) (need:Bool) (w:List Zg):Prop:=∃ j,CwE B m need j w ∧ ∀ j' w',CwE B m need j' w' → w.length<w'.length∨(w.length=w'.length∧(j<j' ∨ (j=j' ∧ (w' = w∨LtE w w'))))
theorem Zn3 {x:Zg} : ¬ ltK x x:=by unfold ltK;omega
theorem ZrB {x y:Zg} (h:ltK x y):¬ ltK y x:=by unfold ltK at *;omega
theorem LtE.asym:∀ {w v:List Zg},LtE w v→¬ LtE v w
 | x :: w,y :: v,h,k=>by
  rcases h with h | ⟨rfl,h⟩ <;> rcases k with k | ⟨k1,k⟩
  ·exact ZrB h k
  ·exact Zn3 (k1 ▸ h)
  ·exact Zn3 k
  ·exact LtE.asym h k
 | [],_,h,_=>h.elim
 | _ :: _,[],h,_=>h.elim
theorem Zc8.one {B:Zg→Prop} {m:Zg→Bool} {need:Bool} {w v:List Zg} (h:Zc8 B m need w) (k:Zc8 B m need v):w=v:=by
 obtain ⟨i,h1,h2⟩:=h
 obtain ⟨j,k1,k2⟩:=k
 have a:=h2 j v k1
 have b:=k2 i w h1
 rcases a with a | ⟨a1,a2⟩
 ·rcases b with b | ⟨b1,_⟩ <;> omega
 ·rcases b with b | ⟨b1,b2⟩
  ·omega
  ·rcases a2 with a2 | ⟨a2,a3⟩
   ·rcases b2 with b2 | ⟨b2,_⟩ <;> omega
   ·rcases a3 with a3 | a3
    ·exact a3.symm
    ·rcases b2 with b2 | ⟨_,b3⟩
     ·omega
     ·rcases b3 with b3 | b3
      ·exact b3
      ·exact absurd b3 a3.asym
section
variable {B:Zg→Prop} {m:Zg→Bool} {need:Bool}
theorem Zia {a b:Int} {w v:List Zg} : Zcj B a (w++v) b ↔ ∃ c,Zcj B a w c∧Zcj B c v b:=by
 induction w generalizing a with
 | nil=>exact ⟨fun h=>⟨a,rfl,h⟩,fun ⟨c,h,k⟩=>by subst h;exact k⟩
 | cons y w ih=>
  rw [Yaf]
  show (B y∧y.src=a∧Zcj B y.dst (w++v) b) ↔ _
  rw [ih]
  constructor
  ·rintro ⟨h1,h2,c,h4,h5⟩;exact ⟨c,⟨h1,h2,h4⟩,h5⟩
  ·rintro ⟨c,⟨h1,h2,h4⟩,h5⟩;exact ⟨h1,h2,c,h4,h5⟩
theorem Zgc {a b:Int} : ∀ {w:List Zg},Zcj B a w b → ∀ e ∈ w,B e
 | e :: w,h,x,hx=>by
  rcases Yj.1 hx with rfl | hx
  ·exact h.1
  ·exact Zgc h.2.2 x hx
theorem Zmx {a b:Int} : ∀ {w:List Zg},Zcj B a w b→a=b∨Rch (fun x y=>∃ e,B e∧e.src=x∧e.dst=y) a b
 | [],h=>.inl h
 | e :: w,h=>by
  have one:Rch (fun x y=>∃ e,B e∧e.src=x∧e.dst=y) a e.dst:=.one ⟨e,h.1,h.2.1,rfl⟩
  rcases Zmx h.2.2 with k | k
  ·exact .inr (k ▸ one)
  ·exact .inr (one.trans k)
theorem ZsS {a b:Int} (h:Rch (fun x y=>∃ e,B e∧e.src=x∧e.dst=y) a b):∃ w,w≠[]∧Zcj B a w b:=by
 induction h with
 | one k=>obtain ⟨e,e1,e2,e3⟩:=k;exact ⟨[e],by simp,e1,e2,e3⟩
 | step _ k ih=>
  obtain ⟨w,w1,w2⟩:=ih
  obtain ⟨e,e1,e2,e3⟩:=k
  exact ⟨w ++ [e],by simp,Zia.2 ⟨_,w2,e1,e2,e3⟩⟩
theorem ZjY {a:Int} {u v:List Zg} (h:Zcj B a (u++v) a):∃ c,Zcj B c (v++u) c:=by
 obtain ⟨c,h1,h2⟩:=Zia.1 h
 exact ⟨c,Zia.2 ⟨a,h2,h1⟩⟩
theorem Zhr {a b:Int} {e:Zg} {w:List Zg} (h:Zcj B a (e :: w) b):e.src=a:=h.2.1
theorem ZjF:∀ {w:List Zg},w≠[] → ∃ u e v,w=u++e :: v ∧ ∀ x ∈ w,e.src≤x.src
 | [],h=>absurd rfl h
 | [e],_=>⟨[],e,[],rfl,by simp⟩
 | e :: f :: w,_=>by
  obtain ⟨u,g,v,h1,h2⟩:=ZjF (w:=f :: w) (by simp)
  by_cases h:e.src≤g.src
  ·refine ⟨[],e,f :: w,rfl,fun x hx=>?_⟩
   rcases Yj.1 hx with rfl | hx
   ·exact Yap _
   ·exact YbR h (h2 x hx)
  ·refine ⟨e :: u,g,v,by rw [h1];rfl,fun x hx=>?_⟩
   rcases Yj.1 hx with rfl | hx
   ·omega
   ·exact h2 x hx
theorem Zwy {a:Int} {w:List Zg} (hn:w≠[]) (h:Zcj B a w a) (hm:need=true → ∃ e ∈ w,m e=true):∃ i v,CwE B m need i v∧v.length=w.length ∧ ∀ e,e ∈ v ↔ e ∈ w:=by
 obtain ⟨u,e,v,h1,h2⟩:=ZjF hn
 subst h1
 obtain ⟨c,hc⟩:=ZjY h
 have hce:e.src=c:=Zhr hc
 have hmem:∀ x,x ∈ (e :: v)++u ↔ x ∈ u++e :: v:=fun x=>by simp;exact ⟨fun k=>by rcases k with k | k | k <;> simp [k],fun k=>by rcases k with k | k | k <;> simp [k]⟩
 refine ⟨c,(e :: v)++u,⟨by simp,hc,fun x hx=>?_,fun hd=>?_⟩,by simp;omega,hmem⟩
 ·have hrev:∀ y ∈ (e :: v)++u,c≤y.src:=fun y hy=>hce ▸ h2 y ((hmem y).1 hy)
  have nxt:∀ {a b:Int} {w:List Zg},Zcj B a w b → ∀ y ∈ w,y.dst=b ∨ ∃ z ∈ w,z.src=y.dst:=by
   intro a b w
   induction w generalizing a with
   | nil=>intro _ y hy;cases hy
   | cons z w ih=>
    intro k y hy
    rcases Yj.1 hy with rfl | hy
    ·cases w with
     | nil=>exact .inl k.2.2
     | cons z w=>exact .inr ⟨z,by simp,k.2.2.2.1⟩
    ·rcases ih k.2.2 y hy with q | ⟨z2,q1,q2⟩
     ·exact .inl q
     ·exact .inr ⟨z2,by simp [q1],q2⟩
  rcases nxt hc x hx with k | ⟨z,k1,k2⟩
  ·omega
  ·have:=hrev z k1;omega
 ·obtain ⟨x,k1,k2⟩:=hm hd
  exact ⟨x,(hmem x).2 k1,k2⟩
theorem ZvC (hd:need=false → ∀ e,m e=true):(∃ i w,CwE B m need i w) ↔ ∃ e,B e∧m e=true∧(e.dst=e.src∨Rch (fun x y=>∃ e,B e∧e.src=x∧e.dst=y) e.dst e.src):=by
 constructor
 ·rintro ⟨i,w,hn,hp,_,hm⟩
  obtain ⟨e,he,hme⟩:∃ e ∈ w,m e=true:=by
   cases hne:need
   ·cases w with
    | nil=>exact absurd rfl hn
    | cons e w=>exact ⟨e,by simp,hd hne e⟩
   ·exact hm hne
  obtain ⟨u,v,rfl⟩:=List.append_of_mem he
  obtain ⟨c,hc⟩:=ZjY hp
  have hce:e.src=c:=Zhr hc
  subst hce
  exact ⟨e,Zgc hp e he,hme,Zmx (w:=v++u) hc.2.2⟩
 ·rintro ⟨e,h1,h2,h3⟩
  have:∃ w,Zcj B e.dst w e.src:=by
   rcases h3 with h3 | h3
   ·exact ⟨[],h3⟩
   ·obtain ⟨w,_,hw⟩:=ZsS h3;exact ⟨w,hw⟩
  obtain ⟨w,hw⟩:=this
  obtain ⟨i,v,hv,_⟩:=Zwy (B:=B) (m:=m) (need:=need) (w:=e :: w) (by simp) (a:=e.src) ⟨h1,rfl,hw⟩ fun _=>⟨e,by simp,h2⟩
  exact ⟨i,v,hv⟩
end
structure ZcS (B:Zg→Prop) (r s:Int→Int) (f:Zy→Zg):Prop where
 ids:∀ a b,(∃ e,B e∧(e.src=a∨e.dst=a))→(∃ e,B e∧(e.src=b∨e.dst=b))→(a<b ↔ r a<r b)
 keys:∀ a b,(∃ e,B e∧e.key=a)→(∃ e,B e∧e.key=b)→(a<b ↔ s a<s b)
 idr:∀ a,(∃ e,B e∧(e.src=a∨e.dst=a))→0≤r a∧r a<4096
 keyr:∀ a,(∃ e,B e∧e.key=a)→0≤s a∧s a<1048576
 inv:∀ e,B e→f ⟨r e.src,r e.dst,e.kind,s e.key⟩ = e
def Zb9 (r s:Int→Int) (e:Zg):Zy:=⟨r e.src,r e.dst,e.kind,s e.key⟩
section
variable {B:Zg→Prop} {mA:Zy→Bool} {need:Bool} {r s:Int→Int} {f:Zy→Zg}
theorem ZcS.inj (h:ZcS B r s f) {a b:Int} (ha:∃ e,B e∧(e.src=a∨e.dst=a)) (hb:∃ e,B e∧(e.src=b∨e.dst=b)) (e:r a=r b):a=b:=by
 have h1:=h.ids a b ha hb
 have h2:=h.ids b a hb ha
 omega
theorem ZcS.le (h:ZcS B r s f) {a b:Int} (ha:∃ e,B e∧(e.src=a∨e.dst=a)) (hb:∃ e,B e∧(e.src=b∨e.dst=b)):a≤b ↔ r a≤r b:=by
 have h2:=h.ids b a hb ha
 omega
theorem ZcS.lt (h:ZcS B r s f) {x y:Zg} (hx:B x) (hy:B y):ltK x y ↔ ZnJ (Zb9 r s x)<ZnJ (Zb9 r s y):=by
 obtain ⟨a1,a2⟩:=h.idr x.dst ⟨x,hx,.inr rfl⟩
 obtain ⟨b1,b2⟩:=h.idr y.dst ⟨y,hy,.inr rfl⟩
 obtain ⟨c1,c2⟩:=h.keyr x.key ⟨x,hx,rfl⟩
 obtain ⟨d1,d2⟩:=h.keyr y.key ⟨y,hy,rfl⟩
 have e1:=h.ids x.dst y.dst ⟨x,hx,.inr rfl⟩ ⟨y,hy,.inr rfl⟩
 have e2:=h.keys x.key y.key ⟨x,hx,rfl⟩ ⟨y,hy,rfl⟩
 have e3:=h.keys y.key x.key ⟨y,hy,rfl⟩ ⟨x,hx,rfl⟩
 unfold ltK ZnJ Zb9
 dsimp only
 by_cases hk:x.key=y.key
 ·rw [hk] at *
  omega
 ·omega
theorem ZcS.out (h:ZcS B r s f) {i:Int} (hi:∃ e,B e∧(e.src=i∨e.dst=i)) {w:List Zg} {a b:Int} (hp:Zcj B a w b) (hl:∀ e ∈ w,i≤e.dst):Zeq (fun x=>∃ e,B e∧Zb9 r s e=x) (r i) (r a) (w.map (Zb9 r s)) (r b):=by
 induction w generalizing a with
 | nil=>
  have e:a=b:=hp
  subst e;rfl
 | cons e w ih=>
  exact ⟨⟨e,hp.1,rfl⟩,by rw [← hp.2.1];rfl,(h.le hi ⟨e,hp.1,.inr rfl⟩).1 (hl e (by simp)),ih hp.2.2 fun x hx=>hl x (by simp [hx])⟩
theorem ZcS.back (h:ZcS B r s f) {i b:Int} (hi:∃ e,B e∧(e.src=i∨e.dst=i)) (hb:∃ e,B e∧(e.src=b∨e.dst=b)) {v:List Zy} {a:Int} (ha:∃ e,B e∧(e.src=a∨e.dst=a)) (hw:Zeq (fun x=>∃ e,B e∧Zb9 r s e=x) (r i) (r a) v (r b)):∃ w,v=w.map (Zb9 r s)∧Zcj B a w b ∧ ∀ e ∈ w,i≤e.dst:=by
 induction v generalizing a with
 | nil=>exact ⟨[],rfl,h.inj ha hb hw,by simp⟩
 | cons x v ih=>
  obtain ⟨⟨e,e1,rfl⟩,h2,h3,h4⟩:=hw
  obtain ⟨w,w1,w2,w3⟩:=ih ⟨e,e1,.inr rfl⟩ h4
  refine ⟨e :: w,by rw [w1];rfl,⟨e1,h.inj ⟨e,e1,.inl rfl⟩ ha h2,w2⟩,fun y hy=>?_⟩
  rcases Yj.1 hy with rfl | hy
  ·exact (h.le hi ⟨y,e1,.inr rfl⟩).2 h3
  ·exact w3 y hy
theorem ZcS.lts (h:ZcS B r s f):∀ {w v:List Zg},(∀ e ∈ w,B e)→(∀ e ∈ v,B e)→LtA ZnJ (w.map (Zb9 r s)) (v.map (Zb9 r s))→LtE w v
 | x :: w,y :: v,hw,hv,k=>by
  rcases k with k | ⟨k1,k2⟩
  ·exact .inl ((h.lt (hw x (by simp)) (hv y (by simp))).2 k)
  ·refine .inr ⟨?_,h.lts (fun e he=>hw e (by simp [he])) (fun e he=>hv e (by simp [he])) k2⟩
   rw [← h.inv x (hw x (by simp)),← h.inv y (hv y (by simp))]
   exact Y8 f k1
 | [],_,_,_,k=>k.elim
 | _ :: _,[],_,_,k=>k.elim
theorem ZcS.map_inv (h:ZcS B r s f) {w:List Zg} (hw:∀ e ∈ w,B e):(w.map (Zb9 r s)).map f=w:=by
 rw [Ybk]
 conv=>rhs;rw [← List.map_id w]
 exact List.map_congr_left fun e he=>h.inv e (hw e he)
theorem ZcS.first (h:ZcS B r s f) {n:Int} (hn:∀ a,(∃ e,B e∧(e.src=a∨e.dst=a))→r a<n) {way:List Zy} (hb:ZdL (fun x=>∃ e,B e∧Zb9 r s e=x) mA ZnJ need n way) :
  (way = [] → ∀ j w,¬ CwE B (fun e=>mA (Zb9 r s e)) need j w)∧(way≠[]→Zc8 B (fun e=>mA (Zb9 r s e)) need (way.map f)):=by
 have src_in:∀ {j:Int} {w:List Zg},w≠[]→Zcj B j w j → ∃ e,B e∧(e.src=j∨e.dst=j):=fun {j w} hne hp=>by
  cases w with
  | nil=>exact absurd rfl hne
  | cons e w=>exact ⟨e,hp.1,.inl hp.2.1⟩
 have to:∀ {j:Int} {w:List Zg},CwE B (fun e=>mA (Zb9 r s e)) need j w→CwA (fun x=>∃ e,B e∧Zb9 r s e=x) mA need (r j) (w.map (Zb9 r s)):=fun {j w} ⟨c1,c2,c3,c4⟩=>by
  refine ⟨by simpa using c1,h.out (src_in c1 c2) c2 c3,fun hd=>?_⟩
  obtain ⟨e,e1,e2⟩:=c4 hd
  exact ⟨_,Yu.2 ⟨e,e1,rfl⟩,e2⟩
 constructor
 ·intro hw j w hc
  exact hb.1 hw (r j) _ (hn j (src_in hc.1 hc.2.1)) (to hc)
 ·intro hw
  obtain ⟨j,j1,⟨c1,c2,c3⟩,j3⟩:=hb.2 hw
  obtain ⟨i,hi,rfl⟩:∃ i,(∃ e,B e∧(e.src=i∨e.dst=i))∧r i=j:=by
   cases way with
   | nil=>exact absurd rfl hw
   | cons x v=>
    obtain ⟨⟨e,e1,rfl⟩,h2,_⟩:=c2
    exact ⟨e.src,⟨e,e1,.inl rfl⟩,h2⟩
  obtain ⟨w,rfl,w2,w3⟩:=h.back hi hi hi c2
  have V:=Zgc w2
  rw [h.map_inv V]
  refine ⟨i,⟨by simpa using c1,w2,w3,fun hd=>?_⟩,fun j' v hv=>?_⟩
  ·obtain ⟨x,x1,x2⟩:=c3 hd
   obtain ⟨e,e1,rfl⟩:=Yu.1 x1
   exact ⟨e,e1,x2⟩
  ·have hvi:=src_in hv.1 hv.2.1
   have k:=j3 (r j') _ (hn j' hvi) (to hv)
   rw [YH,YH] at k
   rcases k with k | ⟨k1,k2⟩
   ·exact .inl k
   ·refine .inr ⟨k1,?_⟩
    rcases k2 with k2 | ⟨k2,k3⟩
    ·exact .inl ((h.ids i j' hi hvi).2 k2)
    ·refine .inr ⟨h.inj hi hvi k2,?_⟩
     have hB2:=Zgc hv.2.1
     rcases k3 with k3 | k3
     ·left
      rw [← h.map_inv hB2,← h.map_inv V,k3]
     ·exact .inr (h.lts V hB2 k3)
end
theorem ZcC {l:List Int} (h:ZdA l):ZcK (fun x:Int=>x) l:=ZT.2 h
theorem Zud {l:List Int} (h:ZdA l) {i:Nat} (hi:i<l.length):lowK (fun x:Int=>x) (Nn l i) l=i:=
 ZdC (κ:=fun x:Int=>x) (Nat.le_of_lt hi) (fun q hq=>ZcC h q i hq hi) (fun q h1 h2=>ZbF (κ:=fun x:Int=>x) (ZcC h) h1 h2)
theorem ZaK {l:List Int} (h:ZdA l) {a:Int} (ha:a ∈ l):lowK (fun x:Int=>x) a l<l.length∧Nn l (lowK (fun x:Int=>x) a l)=a:=by
 obtain ⟨i,hi,rfl⟩:=Ya6.1 ha
 rw [← nth_eq hi,Zud h hi]
 exact ⟨hi,rfl⟩
theorem ZoN {l:List Int} (h:ZdA l) {a b:Int} (ha:a ∈ l) (hb:b ∈ l):a<b ↔ lowK (fun x:Int=>x) a l<lowK (fun x:Int=>x) b l:=by
 obtain ⟨a1,a2⟩:=ZaK h ha
 obtain ⟨b1,b2⟩:=ZaK h hb
 constructor
 ·intro hab
  by_cases k:lowK (fun x:Int=>x) a l<lowK (fun x:Int=>x) b l
  ·exact k
  ·have k2:Nn l (lowK (fun x:Int=>x) b l)≤Nn l (lowK (fun x:Int=>x) a l):=ZbF (κ:=fun x:Int=>x) (ZcC h) (Nat.not_lt.1 k) a1
   omega
 ·intro k
  have k2:Nn l (lowK (fun x:Int=>x) a l)<Nn l (lowK (fun x:Int=>x) b l):=ZcC h _ _ k b1
  omega
def ZR (l:List Zg):List Int:=Zbt (l.flatMap fun e=>[e.src,e.dst])
def Z9 (l:List Zg):List Int:=Zbt (l.map Zg.key)
def rkI (l:List Int) (a:Int):Int:=(lowK (fun x:Int=>x) a l:Nat)
def ZcW (ids keys:List Int):Zg→Zy:=Zb9 (rkI ids) (rkI keys)
def Zju (ids keys:List Int) (x:Zy):Zg:=⟨Nn ids x.src.toNat,Nn ids x.dst.toNat,x.kind,Nn keys x.label.toNat⟩
theorem Zaq {l:List Zg} {a:Int} : a ∈ ZR l ↔ ∃ e,e ∈ l∧(e.src=a∨e.dst=a):=by
 unfold ZR
 rw [(ZW _).2,YaI]
 constructor
 ·rintro ⟨e,he,h⟩
  rcases Yj.1 h with h | h
  ·exact ⟨e,he,.inl h.symm⟩
  ·exact ⟨e,he,.inr (Yk.1 h).symm⟩
 ·rintro ⟨e,he,h | h⟩
  ·exact ⟨e,he,by simp [h]⟩
  ·exact ⟨e,he,by simp [h]⟩
theorem Zcn {l:List Zg} {a:Int} : a ∈ Z9 l ↔ ∃ e,e ∈ l∧e.key=a:=by
 unfold Z9
 rw [(ZW _).2,Yu]
theorem Znh {l:List Zg} (h1:(ZR l).length≤4096) (h2:(Z9 l).length≤1048575):ZcS (· ∈ l) (rkI (ZR l)) (rkI (Z9 l)) (Zju (ZR l) (Z9 l)):=by
 have i1:ZdA (ZR l):=(ZW _).1
 have i2:ZdA (Z9 l):=(ZW _).1
 refine ⟨fun a b ha hb=>?_,fun a b ha hb=>?_,fun a ha=>?_,fun a ha=>?_,fun e he=>?_⟩
 ·have:=ZoN i1 (Zaq.2 ha) (Zaq.2 hb)
  unfold rkI;omega
 ·have:=ZoN i2 (Zcn.2 ha) (Zcn.2 hb)
  unfold rkI;omega
 ·have:=(ZaK i1 (Zaq.2 ha)).1
  unfold rkI;omega
 ·have:=(ZaK i2 (Zcn.2 ha)).1
  unfold rkI;omega
 ·have a1:=(ZaK i1 (Zaq.2 ⟨e,he,.inl rfl⟩)).2
  have a2:=(ZaK i1 (Zaq.2 ⟨e,he,.inr rfl⟩)).2
  have a3:=(ZaK i2 (Zcn.2 ⟨e,he,rfl⟩)).2
  unfold Zju rkI
  dsimp only
  rw [Yb,Yb,Yb,a1,a2,a3]
def ZX (n:Nat) (xs:List Zy):List (List Z7)×List (List Z7)×Nat:=xs.foldl (fun q x=>((Ze0 q.1 q.2.1 q.2.2 x).1,(Ze0 q.1 q.2.1 q.2.2 x).2.1,(Ze0 q.1 q.2.1 q.2.2 x).2.2.1)) (List.replicate n [],List.replicate n [],0)
theorem ZfE {n:Nat} {xs:List Zy} {x:Zy} : ZX n (xs ++ [x])=((Ze0 (ZX n xs).1 (ZX n xs).2.1 (ZX n xs).2.2 x).1,(Ze0 (ZX n xs).1 (ZX n xs).2.1 (ZX n xs).2.2 x).2.1,(Ze0 (ZX n xs).1 (ZX n xs).2.1 (ZX n xs).2.2 x).2.2.1):=by
 unfold ZX
 rw [Yat];rfl
theorem ZiR {n:Nat} (hn:n≤4096) (xs:List Zy):ZbU n (xs.foldl (Zi9 n) []) (ZX n xs).1 (ZX n xs).2.1∧(ZX n xs).2.2≤xs.length:=by
 suffices ∀ r:List Zy,ZbU n (r.reverse.foldl (Zi9 n) []) (ZX n r.reverse).1 (ZX n r.reverse).2.1∧(ZX n r.reverse).2.2≤r.length by have:=this xs.reverse;rwa [YbW,List.length_reverse] at this
 intro r
 induction r with
 | nil=>exact ⟨ZbU.new n,YM _⟩
 | cons x r ih=>
  obtain ⟨i1,i2⟩:=ih
  have k:=i1.step hn x (ZX n r.reverse).2.2
  rw [List.reverse_cons,ZfE,Yat,Yl]
  exact ⟨k.1,Y4 k.2 ow⟩
theorem ZoD {l:List Zg} (i:Nat) (h:i≤l.length):((l.take i).flatMap fun e=>[e.src,e.dst]).length=2*i:=by
 induction i with
 | zero=>rfl
 | succ i ih=>rw [Zp ow,YV,Yd,ih ow];show 2*i+2=_;omega
theorem ZtC (l:List Zg) (hl:l.length≤100000):FnP prog 126 [.sl Zq l] (.agg [.sl Zn (ZR l),.sl Zn (Z9 l)]):=by
 refine FnP.mk func126 Z ntmps126 Z fun B a w F V hfr G=>Ya ?_
 refine Zb G (qf (oH [.slice none 0 0,.slice none 0 0] 101) trivial qz qZ) V [2,0] [101,0] (fun _=>rfl) (fun _=>rfl) fun τ a w F G=>?_
 try dsimp only [RS.sub,SF.sub,CF.sub,csub,Anc.sub,List.map,zCF,Zn,Zq] at G
 generalize τ 2=v2 at G
 refine Za (Ya (Zb G (qf (oH [.slice none 0 0,.slice none 0 0] 102) trivial qz qZ) V [3,2,0] [102,101,0] (fun _=>rfl) (fun _=>rfl) fun τ a w F G=>?_))
 try dsimp only [RS.sub,SF.sub,CF.sub,csub,Anc.sub,List.map,zCF,Zn,Zq] at G
 generalize τ 3=v3 at G
 refine Za (Ya (Ya (rZ G (qR rr (qu Ycg r1 (qJ qZ))) V [8,7,6,3,2] [102,101,0] fun G=>Yg ?_)))
 replace G:=G.fresh 50 rfl
 replace G:=G.turn 50 Z (ZaC (T:=3) (sz:=1) (R:=Zn))
 replace G:=G.fresh 51 rfl
 replace G:=G.turn 51 Z (ZaC (T:=3) (sz:=1) (R:=Zn))
 refine Zk (σ:=(Nat)×(Value)×(List Int)×(Value)×(List Int)) [2,3,6,7] [0,101] (fun s=>[(8,.pv (.int .i64 (s.1:Int)))]) (fun s=>[(102,.pt (.val v3) 180 [.pv (.is s.2.1),.pv (.is s.2.2.2.1)]),(50,.ob (.val s.2.1) (Zx 3 1 Zn s.2.2.1)),(51,.ob (.val s.2.2.2.1) (Zx 3 1 Zn s.2.2.2.2))]) (fun s=>s.1≤l.length∧(s.2.2.1=((l.take s.1).flatMap fun e=>[e.src,e.dst])∧s.2.2.2.2=(l.take s.1).map Zg.key)) (fun s=>l.length - s.1) ((0),(.slice none 0 0),([]),(.slice none 0 0),([])) G ⟨rfl,rfl,rfl,rfl,rfl,tv⟩ ⟨rfl,rfl,rfl,rfl,rfl,tv⟩ ⟨Yw _,⟨rfl,rfl⟩⟩ ?_
 clear G;intro s a w F hC G
 obtain ⟨i,va,xa,vb,xb⟩:=s
 try dsimp only at hC
 obtain ⟨F,G⟩:=G.nM [8,7,6,3,2] [102,101,51,50,0]
 try dsimp only at G
 obtain ⟨hi,hq⟩:=hC
 obtain ⟨hq1,hq2⟩:=hq
 have hl1:xa.length=2*i:=by rw [hq1];exact ZoD _ ow
 have hl2:xb.length=i:=by rw [hq2,YH,Yi];omega
 refine Ya (rZ G (qL r2) V [9,8,7,6,3,2] [102,101,51,50,0] fun G=>Ya ?_)
 refine Zc G Z (fun hc0=>?_) (fun hc0=>?_)
 ·have hil:i<l.length:=by simp at hc0;omega
  refine Ye (Za (Ya (Yg (Ya (Zb G (qy 4 Ycg r2 (qf (oR true 4 .t) r1 qz (qf (oH [.int .i64 0,.int .i64 0,.int .i64 0,.int .i64 0] 103) trivial qz (qS 4 103 r2 r1 qZ)))) V [8,7,6,5,3,2] [103,102,101,51,50,0] (fun _=>rfl) (fun _=>rfl) fun τ a w F G=>?_)))))
  try dsimp only [RS.sub,SF.sub,CF.sub,csub,Anc.sub,List.map,Zf,xL,xM,Nat.reduceAdd,xD,xE,xT,xU,xC,xN,zCF,ldSF,Zn,Zq] at G
  generalize τ 5=v5 at G
  try simp only [Yb] at G
  refine Za (Ya (Zb G (qg 0 102 r1 r1 (qa 102 r1 r1 (qg 0 103 r1 r1 (qa 103 r1 r1 (qg 1 103 r1 r1 (qa 103 r1 r1 (qf (o_buildSliceE (sz:=1) (zs:=[.int .i64 0]) (r:=[(0,.tmp 15),(1,.tmp 17)]) (l:=[_,_]) Ycf kr kr kr kr Z Z (.one Z .t one_int kr (.one Z .t one_int kr .nil)) Z) r2 qz (qf (ZV (sz:=1) (bs:=8) 50 (.mk' Ycf kr kr) (by intro x;rfl) .is (.arr (l':=[(Nn l i).src,(Nn l i).dst]) .t) (by simp only [Yd,Yl,Yy,Yi,YE];omega) (by decide)) ⟨rfl,rfl,tv⟩ ⟨rfl,tv⟩ (qg 0 102 r1 r1 (qf (o_storeS 102 .adr kr kr) r2 r1 qZ)))))))))) V [8,7,6,5,3,2] [103,102,101,51,50,0] (fun _=>rfl) (fun _=>rfl) fun τ a w F G=>?_))
  try dsimp only [RS.sub,SF.sub,CF.sub,csub,Anc.sub,List.map,Zf,xL,xM,Nat.reduceAdd,xD,xE,xT,xU,xC,xN,zCF,ldSF,Zn,Zq] at G
  generalize τ 19=v19 at G
  refine Za (Zb G (qg 1 102 r1 r1 (qa 102 r1 r1 (qg 3 103 r1 r1 (qa 103 r1 r1 (qf (o_buildSliceE (sz:=1) (zs:=[.int .i64 0]) (r:=[(0,.tmp 24)]) (l:=[_]) Ycf kr kr kr kr Z Z (.one Z .t one_int kr .nil) Z) r1 qz (qf (ZV (sz:=1) (bs:=8) 51 (.mk' Ycf kr kr) (by intro x;rfl) .is (.arr (l':=[(Nn l i).key]) .t) (by simp only [Yd,Yl,Yy,Yi,YE];omega) (by decide)) ⟨rfl,rfl,tv⟩ ⟨rfl,tv⟩ (qg 1 102 r1 r1 (qf (o_storeS 102 .adr kr kr) r2 r1 qZ)))))))) V [8,7,6,3,2] [103,102,101,51,50,0] (fun _=>rfl) (fun _=>rfl) fun τ a w F G=>?_)
  try dsimp only [RS.sub,SF.sub,CF.sub,csub,Anc.sub,List.map,Zf,xL,xM,Nat.reduceAdd,xD,xE,xT,xU,xC,xN,zCF,ldSF,Zn,Zq] at G
  generalize τ 26=v26 at G
  refine Zi (Za (rZ G (qp r1 (qR rr qZ)) V [8,7,6,3,2] [103,102,101,51,50,0] fun G=>?_))
  replace G:=G.ent (i:=8) (s':=.pv (.int .i64 ((i+1:Nat):Int))) Z (.int (Zd ow))
  obtain ⟨F,G⟩:=G.nM [7,6,3,2,8] [101,0,51,50,102]
  exact ⟨((i+1),(v19),_,(v26),_),F,⟨by omega,⟨by rw [Zp hil,YV,← hq1];rfl,by rw [Zp hil,YR,← hq2];rfl⟩⟩,G,by omega⟩
 have hil:i=l.length:=by simp at hc0;omega
 have hg1:Zbt xa=ZR l:=by rw [hq1,hil,YA];rfl
 have hg2:Zbt xb=Z9 l:=by rw [hq2,hil,YA];rfl
 refine Yx (Zj (Zj (Zo (Za (Ya (ZaM G (qg 0 102 r1 r1 (qa 102 r1 r1 (qf (o_callRowN 50 (Zqc va xa ow) func167 Z kr (Args.one .t) pvOne1) r1 r1 (qg 1 102 r1 r1 (qa 102 r1 r1 (qf (o_callRowN 51 (Zqc vb xb ow) func167 Z kr (Args.one .t) pvOne1) r1 r1 (qg 0 102 r1 r1 (qf (o_storeS 102 .adr kr kr) r2 r1 (qg 1 102 r1 r1 (qf (o_storeS 102 .adr kr kr) r2 r1 qZ)))))))))) V [3,2] [102,101,51,50,0] (fun _=>rfl) (fun _=>rfl) fun τ a w F G=>?_))))))
 try dsimp only [RS.sub,SF.sub,CF.sub,csub,Anc.sub,List.map,Zf,xL,xM,Nat.reduceAdd,xD,xE,xT,xU,xC,xN,zCF,ldSF,Zn,Zq] at G
 generalize τ 31=v31,τ 34=v34 at G
 refine Za (Ya (Ze G (qe 2 102 r1 r1 (qs 2 101 r2 r1 qZ)) V [2] [102,101,51,50,0] Z Z fun a w F G=>?_))
 obtain ⟨F,G⟩:=G.giveCell 50 101 0 Z Z Z Z rfl
 try dsimp only [List.set] at G
 obtain ⟨F,G⟩:=G.nM [2] [102,101,51,0]
 obtain ⟨F,G⟩:=G.giveCell 51 101 1 Z Z Z Z rfl
 try dsimp only [List.set] at G
 obtain ⟨F,G⟩:=G.nM [2] [102,101,0]
 rw [hg1,hg2] at G
 refine Za (Yh (Zaa hfr G Z (.cl 101 true 2 Z Z .nil) (.one (.aggU Z Z))))
theorem ZvZ (ids keys:List Int) (e:Zg) (h1:ids.length≤1000000) (h2:keys.length≤1000000) (hi:ZdA ids) (hk:ZdA keys):FnP prog 168 [.agg [.sl Zn ids,.sl Zn keys],.agg (Zq e)] (.agg (Zam (ZcW ids keys e))):=by
 refine FnP.mk func168 Z ntmps168 Z fun B a w F V hfr G=>Ya ?_
 refine Zb G (qx 101 r1 (qx 102 r1 (qf (oH [.int .i64 0,.int .i64 0,.int .i64 0,.int .i64 0] 103) trivial qz qZ))) V [4,3,2] [103,102,101,0] (fun _=>rfl) (fun _=>rfl) fun τ a w F G=>?_
 try dsimp only [RS.sub,SF.sub,CF.sub,csub,Anc.sub,List.map,zCF,Zn,Zq,Zam] at G
 generalize τ 2=v2,τ 3=v3,τ 4=v4 at G
 refine Za (Ya (rZ G (qg 0 101 r1 r1 (qa 101 r1 r1 (qg 0 102 r1 r1 (qa 102 r1 r1 (qf (oP (ZtX ids e.src h1 (ZcC hi)) func203 (Args.two .t .t)) r2 qz (qR rr (qf (Zh .t Z) r1 qz (qf (Zh .t Z) r1 qz (qO rr (qO rr qZ)))))))))) V [5,4,3,2] [103,102,101,0] fun G=>Ya ?_))
 refine rZ G (qg 0 101 r1 r1 (qa 101 r1 r1 (qg 1 102 r1 r1 (qa 102 r1 r1 (qf (oP (ZtX ids e.dst h1 (ZcC hi)) func203 (Args.two .t .t)) r2 qz (qR rr (qf (Zh .t Z) r1 qz (qf (Zh .t Z) r1 qz (qO rr (qO rr qZ)))))))))) V [7,5,4,3,2] [103,102,101,0] fun G=>Ya ?_
 refine rZ G (qg 1 101 r1 r1 (qa 101 r1 r1 (qg 3 102 r1 r1 (qa 102 r1 r1 (qf (oP (ZtX keys e.key h2 (ZcC hk)) func203 (Args.two .t .t)) r2 qz (qR rr (qf (Zh .t Z) r1 qz (qf (Zh .t Z) r1 qz (qO rr (qO rr qZ)))))))))) V [9,7,5,4,3] [103,102,0] fun G=>Ya ?_
 refine rZ G (qR rr (qR rr (qg 2 102 r1 r1 (qa 102 r1 r1 (qR rr (qf (oB [(0,.tmp 35),(1,.tmp 36),(2,.tmp 38),(3,.tmp 39)] [.int .i64 0,.int .i64 0,.int .i64 0,.int .i64 0] [(0,1),(1,1),(2,1),(3,1)] (.one Z .t one_int kr (.one Z .t one_int kr (.one Z .t one_int kr (.one Z .t one_int kr .nil))))) r4 qz (qs 4 103 r2 r1 qZ))))))) V [4] [103,0] fun G=>Yh ?_
 refine Zaa hfr G Z (.cl 103 true 4 Z Z .nil) (.one (.aggU Z Z))
theorem Ztp (ids keys:List Int) (x:Zy) (h1:0≤x.src∧x.src<ids.length) (h2:0≤x.dst∧x.dst<ids.length) (h3:0≤x.label∧x.label<keys.length):FnP prog 131 [.agg [.sl Zn ids,.sl Zn keys],.agg (Zam x)] (.agg (Zq (Zju ids keys x))):=by
 refine FnP.mk func131 Z ntmps131 Z fun B a w F V hfr G=>Ya ?_
 refine Zb G (qx 101 r1 (qx 102 r1 (qf (oH [.int .i64 0,.int .i64 0,.int .i64 0,.int .i64 0] 103) trivial qz qZ))) V [4,3,2] [103,102,101,0] (fun _=>rfl) (fun _=>rfl) fun τ a w F G=>?_
 try dsimp only [RS.sub,SF.sub,CF.sub,csub,Anc.sub,List.map,zCF,Zn,Zq,Zam] at G
 generalize τ 2=v2,τ 3=v3,τ 4=v4 at G
 refine Za (Ya (Zw G (qg 0 101 r1 r1 (qa 101 r1 r1 (qg 0 102 r1 r1 (qa 102 r1 r1 (qy 1 Ycf r2 (qf (oR false 1 .t) r1 qz (qg 0 101 r1 r1 (qa 101 r1 r1 (qg 1 102 r1 r1 (qa 102 r1 r1 (qy 1 Ycf r2 (qf (oR false 1 .t) r1 qz (qg 2 102 r1 r1 (qa 102 r1 r1 (qg 1 101 r1 r1 (qa 101 r1 r1 (qg 3 102 r1 r1 (qa 102 r1 r1 (qy 1 Ycf r2 (qf (oR false 1 .t) r1 qz (qf (oB [(0,.tmp 10),(1,.tmp 16),(2,.tmp 18),(3,.tmp 24)] [.int .i64 0,.int .i64 0,.int .i64 0,.int .i64 0] [(0,1),(1,1),(2,1),(3,1)] (.one Z .t one_int kr (.one Z .t one_int kr (.one Z .t one_int kr (.one Z .t one_int kr .nil))))) r4 qz (qs 4 103 r2 r1 qZ)))))))))))))))))))))) V [4] [103,0] Z Z fun a w F G=>?_))
 try dsimp only [List.map,Zf,xL,xM,Nat.reduceAdd,xD,xE,xT,xU,xC,xN,zCF,ldSF,Zn,Zq,Zam] at G
 try simp only [Yb] at G
 refine Za (Yh (Zaa hfr G Z (.cl 103 true 4 Z Z .nil) (.one (.aggU Z Z))))
theorem ZrU (e:Zg) (mask:Int):FnP prog 125 [.agg (Zq e),.ref [.int .i64 mask]] (.bool (!kindOk mask e)):=by
 refine FnP.mk func125 Z ntmps125 Z fun B a w F V hfr G=>Ya ?_
 refine Zb G (qx 101 r1 qB) V [3,2,1] [101,0] (fun _=>rfl) (fun _=>rfl) fun τ a w F G=>?_
 try dsimp only [RS.sub,SF.sub,CF.sub,csub,Anc.sub,List.map,zCF,Zq] at G
 generalize τ 2=v2 at G
 refine Za (Ya (rZ G (qg 2 101 r1 r1 (qa 101 r1 r1 (qf (ZaA .t qi) r1 qz (qR rr (qv 2 101 Z r2 r1 (qw 101 Z r2 r1 (qk Z (fun h=>ZaR (.w h) qi) r2 qz (qf (Zak .t .t) r2 qz (qR rr (qk Z (fun h=>oR false 1 .t) r2 qz (qv 2 101 Z r2 r1 (qw 101 Z r2 r1 (qk Z (fun h=>o_conv Ycm kr (.w h)) r2 qz (qk Z (fun h=>Zco (.w h) (.w h)  (by rw [Zaj];omega)) r3 qz (qk Z (fun h=>o_and (.w h) qi) r2 qz (qk Z (fun h=>o_eql (.w h) qi) r2 qz (qf (Zak .t .t) r2 qz (qO rr qZ)))))))))))))))))) V [3] [0] fun G=>Yh ?_))
 refine Zs hfr G Z Z Z (.bool (by rw [of_zero];unfold kindOk;by_cases h1:1≤e.kind <;> by_cases h2:e.kind≤3 <;> simp [h1,h2] <;> omega))
theorem Zt7 {n:Nat} {l:List Zg} {ids keys:List Int} {i:Nat} (h:i<l.length):ZX n ((l.take (i+1)).map (ZcW ids keys))=((Ze0 (ZX n ((l.take i).map (ZcW ids keys))).1 (ZX n ((l.take i).map (ZcW ids keys))).2.1 (ZX n ((l.take i).map (ZcW ids keys))).2.2 (ZcW ids keys (Nn l i))).1,(Ze0 (ZX n ((l.take i).map (ZcW ids keys))).1 (ZX n ((l.take i).map (ZcW ids keys))).2.1 (ZX n ((l.take i).map (ZcW ids keys))).2.2 (ZcW ids keys (Nn l i))).2.1,(Ze0 (ZX n ((l.take i).map (ZcW ids keys))).1 (ZX n ((l.take i).map (ZcW ids keys))).2.1 (ZX n ((l.take i).map (ZcW ids keys))).2.2 (ZcW ids keys (Nn l i))).2.2.1):=by
 rw [Zp h,YR];exact ZfE
theorem ZuJ (l:List Zg) (ids keys:List Int) (hl:l.length≤100000) (hn:ids.length≤4096) (hkl:keys.length≤1048575) (hkl2:keys.length≤1000000) (hinc:ZdA ids) (hk:ZdA keys):FnP prog 127 [.sl Zq l,.agg [.sl Zn ids,.sl Zn keys]] (.tup [Zew (ZX ids.length (l.map (ZcW ids keys))).1 (ZX ids.length (l.map (ZcW ids keys))).2.1 (ZX ids.length (l.map (ZcW ids keys))).2.2,.int .i64 0]):=by
 refine FnP.mk func127 Z ntmps127 Z fun B a w F V hfr G=>Ya ?_
 refine Zb G (qx 101 r1 (qC (qI qZ))) V [5,4,3,0] [101,0] (fun _=>rfl) (fun _=>rfl) fun τ a w F G=>?_
 try dsimp only [RS.sub,SF.sub,CF.sub,csub,Anc.sub,List.map,zCF,Zq,Zam,Zn] at G
 generalize τ 3=v3 at G
 refine Za (Ya (Ya (rZ G (qg 0 101 r1 r1 (qa 101 r1 r1 (qu Ycf r1 (qf (ZaR .t qi) r1 qz (qR rr (qv 1 101 Z r2 r1 (qw 101 Z r2 r1 (qk Z (fun h=>Zdj Ycf (.w h)) r2 qz (qk Z (fun h=>ZaR (.w h) qi) r2 qz (qf (Zak .t .t) r2 qz qZ)))))))))) V [18,5,4,3,0] [101,0] fun G=>?_)))
 refine Zc G Z (fun hc0=>?_) (fun hc0=>?_)
 ·simp at hc0;omega
 refine Ye (Za (Ya ?_))
 replace G:=G.fresh 102 rfl
 refine Zb G (qg 0 101 r1 r1 (qa 101 r1 r1 (qu Ycf r1 (qf (Zap 102 (Zoy (ids.length:Int)) func115 Z kr (Args.one .t) PV.ptr_one) r1 r1 (qO rr qZ))))) V [6,5,4,3,0] [102,101,0] (fun _=>rfl) (fun _=>rfl) fun τ a w F G=>?_
 try dsimp only [RS.sub,SF.sub,CF.sub,csub,Anc.sub,List.map,xD,xE,xT,xU,ldSF,Zq,Zam,Zn] at G
 generalize τ 22=v22 at G
 obtain ⟨_,_,_,ho⟩:=G.obGet 102 rfl
 obtain ⟨gb,rfl⟩:=ZlT ho
 clear ho
 replace G:=G.turn 102 Z (r':=RS.hp (ZnG (List.replicate (roomN (ids.length:Int)) []) (List.replicate (roomN (ids.length:Int)) []) 0 (.pointer (some ⟨gb,0,none⟩)))) (fun _ _ _ _ h=>h)
 obtain ⟨F,G⟩:=G.nM [6,5,4,3,0] [102,101,0]
 rw [ZiL hn] at G
 change Sat _ _ _ _ _ at G
 refine Za (Ya (Ya (rZ G (qR rr (qu Ycg r1 (qJ qZ))) V [25,24,23,6,5,4,3] [102,101,0] fun G=>Yg ?_)))
 refine Zk (σ:=(Nat)) [3,4,5,6,23,24] [0,101] (fun s=>[(25,.pv (.int .i64 (s:Int)))]) (fun s=>[(102,RS.hp (ZnG (ZX ids.length ((l.take s).map (ZcW ids keys))).1 (ZX ids.length ((l.take s).map (ZcW ids keys))).2.1 (ZX ids.length ((l.take s).map (ZcW ids keys))).2.2 (.pointer (some ⟨gb,0,none⟩))))]) (fun s=>s≤l.length∧(True)) (fun s=>l.length - s) (0) G ⟨rfl,rfl,rfl,rfl,rfl,rfl,rfl,tv⟩ ⟨rfl,rfl,rfl,tv⟩ ⟨Yw _,tv⟩ ?_
 clear G;intro i a w F hC G
 try dsimp only at hC
 obtain ⟨F,G⟩:=G.nM [25,24,23,6,5,4,3] [102,101,0]
 try dsimp only at G
 obtain ⟨hi,hq⟩:=hC
 obtain ⟨hD,hm⟩:=ZiR (n:=ids.length) hn ((l.take i).map (ZcW ids keys))
 have hEl:=Zd5 (n:=ids.length) ((l.take i).map (ZcW ids keys)) []
 rw [YH,Yi] at hm
 rw [YH,Yi,Yy] at hEl
 refine Ya (rZ G (qL r2) V [26,25,24,23,6,5,4,3] [102,101,0] fun G=>Ya ?_)
 refine Zc G Z (fun hc1=>?_) (fun hc1=>?_)
 ·have hil:i<l.length:=by simp at hc1;omega
  refine Ye (Za (Ya (Yg (Ya (Zb G (qy 4 Ycg r2 (qf (oR true 4 .t) r1 qz (qf (oH [.int .i64 0,.int .i64 0,.int .i64 0,.int .i64 0] 103) trivial qz (qS 4 103 r2 r1 qZ)))) V [25,24,23,8,6,5,4,3] [103,102,101,0] (fun _=>rfl) (fun _=>rfl) fun τ a w F G=>?_)))))
  try dsimp only [RS.sub,SF.sub,CF.sub,csub,Anc.sub,List.map,Zf,xL,xM,Nat.reduceAdd,xD,xE,xT,xU,xC,xN,zCF,ldSF,Zq,Zam,Zn] at G
  generalize τ 8=v8 at G
  try simp only [Yb] at G
  refine Za (Ze G (qR rr (qe 2 101 r1 r1 (qe 4 103 r1 r1 (qf (oP (ZvZ ids keys (Nn l i) ow ow hinc hk) func168 (Args.two (.pagg .t) (.pagg .t))) r2 qz (qf (ZK 102 (ZpK gb (ZX ids.length ((l.take i).map (ZcW ids keys))).1 (ZX ids.length ((l.take i).map (ZcW ids keys))).2.1 (ZX ids.length ((l.take i).map (ZcW ids keys))).2.2 (ZcW ids keys (Nn l i)) (hD.on.r ow) (hD.inn.r ow) (by rw [hD.ol,hD.il]) (by rw [hD.ol];exact hn) ow) func116 Z kr (Args.two .t .t)) r2 r1 qZ))))) V [25,24,23,6,5,4,3] [103,102,101,0] Z Z fun a w F G=>Zi (Za ?_))
  refine rZ G (qp r1 (qR rr qZ)) V [25,24,23,6,5,4,3] [103,102,101,0] fun G=>?_
  have hgq:=Zt7 (n:=ids.length) (ids:=ids) (keys:=keys) hil
  have e1:=Y8 Prod.fst hgq
  have e2:=Y8 (fun q=>q.2.1) hgq
  have e3:=Y8 (fun q=>q.2.2) hgq
  dsimp only at e1 e2 e3
  rw [← e1,← e2,← e3] at G
  replace G:=G.ent (i:=25) (s':=.pv (.int .i64 ((i+1:Nat):Int))) Z (.int (Zd ow))
  obtain ⟨F,G⟩:=G.nM [24,23,6,5,4,3,25] [101,0,102]
  exact ⟨(i+1),F,⟨by omega,tv⟩,G,by omega⟩
 have hil:i=l.length:=by simp at hc1;omega
 refine Yx (Zj (Zj (Zo (Za (Ya ?_)))))
 rw [hil,YA] at G
 obtain ⟨F,G⟩:=Sat.giveL (p:=Zew (ZX ids.length (l.map (ZcW ids keys))).1 (ZX ids.length (l.map (ZcW ids keys))).2.1 (ZX ids.length (l.map (ZcW ids keys))).2.2) G 102 6 Z Z Zfd
 obtain ⟨F,G⟩:=G.nM [26,25,24,23,6,5,4,3] [101,0]
 refine rZ G (qR rr (qO rr (qI qZ))) V [5,4] [101,0] fun G=>Yh ?_
 refine Zaa hfr G Z (.tmp Z (.tmp Z .nil)) (.two .refl .refl)
section
variable {P:Program} {d:Option Nat} {t t' ty:TypeId} {pos:String} {af:Array Edge} {g:Option (Nat×Bool)} {x:Operand} {ps:List (Nat×SF)}
theorem Zhn {e:TypeId} (hu:P.underlying t=some (.slice e)) (hx:Opd x ps (.pv (.is (.slice none 0 0)))) :
  OpC P ⟨d,.binOp .eql t x (.const (.slice none 0 0)) t',ty,pos,af,g⟩ ⟨ps,[],.pv (.bool true),[]⟩:=
 OpC.pure fun a w yy hp=>by
  have e1:=(hx a w yy hp).1
  have hr:=Go.Lib.run_eql_slice_nil (P:=P) w t e none 0 0 0 0 hu
  refine ⟨.bool true,?_,fun _ _=>rfl⟩
  simp only [execOp,e1,ZcF,Yz,show (eqGuard .eql t x (.const (.slice none 0 0)) (.slice none 0 0) (.slice none 0 0)).run P w = .ok () w from rfl,Yn,hr,YG]
  rfl
theorem Zot {e:TypeId} (hu:P.underlying t=some (.slice e)) (hx:Opd x ps (.pv (.is (.slice none 0 0)))) :
  OpC P ⟨d,.call { callee:=.builtin .len,args:=#[x],argTypes:=#[t] },ty,pos,af,g⟩ ⟨ps,[],.pv (.int .i64 0),[]⟩:=
 OpC.pure fun a w yy hp=>by
  have e1:=(hx a w yy hp).1
  refine ⟨.int .i64 0,?_,fun _ _=>⟨rfl,by simp [inR,IntKind.min,IntKind.max,IntKind.signed,IntKind.bits]⟩⟩
  simp [execOp,resolve,invoke,builtin,e1,YbF w t ty none 0 0 (Zgu hu),goInt]
theorem ZjK {α:Type} {R:α→List PV} {l:List α} {e:TypeId} (hu:P.underlying t=some (.slice e)) (hx:Opd x ps (.pv (.sl R l))) (hne:¬ l = []) :
  OpC P ⟨d,.binOp .eql t x (.const (.slice none 0 0)) t',ty,pos,af,g⟩ ⟨ps,[],.pv (.bool false),[]⟩:=
 OpC.pure fun a w yy hp=>by
  obtain ⟨ad,cap,e1,_,_,h3⟩:=hx a w yy hp
  have hr:=Go.Lib.run_eql_slice_nil (P:=P) w t e ad l.length cap 0 0 hu
  have hn:ad.isNone=false:=by
   rcases h3 with h3 | ⟨b,off,vs,rfl,_⟩
   ·exact absurd h3 hne
   ·rfl
  refine ⟨.bool false,?_,fun _ _=>rfl⟩
  simp only [execOp,e1,ZcF,Yz,show (eqGuard .eql t x (.const (.slice none 0 0)) (.slice ad l.length cap) (.slice none 0 0)).run P w = .ok () w from rfl,Yn,hr,YG,hn]
end
theorem Zra (l:List Zg) (hl:l.length≤1000000):FnG prog 124 1 [.sl Zq l] [.star []] (PV.one) (fun v=>[Zx 42 4 Zq l v]):=by
 refine FnG.mk func124 Z ntmps124 Z kr fun B F0 a w F V hG G=>?_
 obtain ⟨F,G⟩:=G.nM [0] [0]
 refine Ya (rZ G (qC qZ) V [2,0] [0] fun G=>(Ya (Ya ?_)))
 refine Ze G (qR rr (qf (ZbC Ycg .t) r1 qz qZ)) V [4,2,0] [0] Z Z fun a w F G=>?_
 obtain ⟨β4,hβ4,G⟩:=G.pickBool 4 rfl
 obtain ⟨F,G⟩:=G.nM [4,2,0] [0]
 refine Za (Zc G Z (fun hc0=>?_) (fun hc0=>?_))
 ·have hg:l = []:=hβ4 hc0
  refine Ya (rZ G (qC qZ) V [2,0] [0] fun G=>(Yh (Zl ?_)))
  have G:=G.fresh 1 rfl
  have G:=G.turn 1 Z (ZaC (T:=42) (sz:=4) (R:=Zq))
  have G:=G.turn 1 Z (r':=RS.hp (Zx 42 4 Zq l (.slice none 0 0))) (fun _ _ _ _ h=>by rw [hg];exact h)
  refine Z1 (h':=fun v=>Zx 42 4 Zq l v) hG G Z (.tmp Z .nil) (.one .one) rfl
 have hg:l = [] ++ l:=rfl
 refine Ye (Za (Ya (Zb G (qf (Za2 (R:=Zq) (sz:=4) 101 Ycg kr) trivial qz (qR rr (qf (ZV (sz:=4) (bs:=32) 101 (.mk' Ycg kr kr) (by intro x;rfl) .same (.sl .t) (by simp only [Yd,Yy];omega) (by decide)) ⟨rfl,rfl,tv⟩ ⟨rfl,tv⟩ (qO rr qZ)))) V [2] [101,0] (fun _=>rfl) (fun _=>rfl) fun τ a w F G=>?_)))
 try dsimp only [RS.sub,SF.sub,CF.sub,csub,Anc.sub,List.map,Zf,xL,xM,Nat.reduceAdd,xD,xE,xT,xU,xC,xN,zCF,Zq] at G
 generalize τ 7=v7 at G
 refine Za (Yh ?_)
 obtain ⟨F,G⟩:=G.rename 101 1 Z rfl
 have G:=G.turn 1 Z (r':=RS.hp (Zx 42 4 Zq l v7)) (fun _ _ _ _ h=>by rw [hg];exact h)
 refine Z1 (h':=fun v=>Zx 42 4 Zq l v) hG G Z (.tmp Z .nil) (.one .one) rfl
theorem ZuS (l : List Zg) (p : Zg → Bool) (f : FuncId) (fn : Func) (cps : List PV) (hf : prog.funcs[f]? = some fn) (hb : fn.body.isSome = true) (hnn : (fn.name == "runtime.NumGoroutine") = false) (hw : ∀ x, FnP prog f (.agg (Zq x) :: cps) (.bool (p x))) : FnP prog 166 [.sl Zq l, .clos f cps] (.int .i64 (Z2 p l)) := by
 refine FnP.mk func166 Z ntmps166 Z fun B a w F V hfr G=>?_
 have hll:=Sat.lenSl G (i:=0) rfl
 refine Ya (rZ G (qI qZ) V [4,1,0] [0] fun G=>(Ya (Ya ?_)))
 refine rZ G (qR rr (qu Ycg r1 (qJ qZ))) V [8,7,4,1,0] [0] fun G=>Yg ?_
 refine Zk (σ:=(Nat)) [0,1,4,7] [0] (fun s=>[(8,.pv (.int .i64 (s:Int)))]) (fun s=>[]) (fun s=>s≤l.length∧(∀ k,k<s→p (Nn l k)=false)) (fun s=>l.length - s) (0) G ⟨rfl,rfl,rfl,rfl,rfl,tv⟩ ⟨rfl,tv⟩ ⟨Yw _,fun k hk=>absurd hk (Y3 k)⟩ ?_
 clear G;intro i a w F hC G
 try dsimp only at hC
 obtain ⟨F,G⟩:=G.nM [8,7,4,1,0] [0]
 try dsimp only at G
 obtain ⟨hi,hq⟩:=hC
 refine Ya (rZ G (qL r2) V [9,8,7,4,1,0] [0] fun G=>Ya ?_)
 refine Zc G Z (fun hc0=>?_) (fun hc0=>?_)
 ·skip
  have hil:i<l.length:=by simp at hc0;omega
  refine Ye (Za (Ya (Yg (Ya (rZ G (qR rr (qO rr qZ)) V [8,7,5,4,1,0] [0] fun G=>Ya ?_)))))
  refine Ze G (qR rr (qR rr (qR rr (qy 4 Ycg r2 (qf (oR true 4 .t) r1 qz (qf (ZN (avs:=[.agg (Zq (Nn l i))]) .t (hw (Nn l i)) hf hb hnn (Args.one (.pagg .t))) r2 qz qZ)))))) V [16,8,7,5,4,1,0] [0] Z Z fun a w F G=>?_
  try simp only [Yb] at G
  refine Za (Zc G Z (fun hc1=>?_) (fun hc1=>?_))
  ·skip
   have hg:(i:Int)=Z2 p l:=(Zcd hil hc1 hq).symm
   refine Ya (rZ G (qR rr (qO rr qZ)) V [8,7,4,1,0] [0] fun G=>(Yh (Zz (Zl (Zl (Zz (Zl ?_)))))))
   refine Zs hfr G Z Z Z (.int hg)
  have hne:p (Nn l i)=false:=hc1
  refine Ye (Zi (Za (rZ G (qp r1 (qR rr qZ)) V [8,7,4,1,0] [0] fun G=>?_)))
  replace G:=G.ent (i:=8) (s':=.pv (.int .i64 ((i+1:Nat):Int))) Z (.int (Zd ow))
  obtain ⟨F,G⟩:=G.nM [7,4,1,0,8] [0]
  exact ⟨(i+1),F,⟨by omega,(fun k hk=>by rcases YX (Y6 hk) with h | h;exact hq k h;rw [h];exact hne)⟩,G,by omega⟩
 have hil:i=l.length:=by simp at hc0;omega
 have hg : -1=Z2 p l:=(Zbk fun k hk=>hq k (by simp at hc0;omega)).symm
 refine Yx (Zj (Zj (Zo (Za (Ya (rZ G (qI qZ) V [4] [0] fun G=>Yh ?_))))))
 refine Zs hfr G Z Z Z (.int hg)
theorem ZtE (v : Value) (l : List Zg) (hll : l.length ≤ 1000000) (p : Zg → Bool) (f : FuncId) (fn : Func) (cps : List PV) (hf : prog.funcs[f]? = some fn) (hb : fn.body.isSome = true) (hnn : (fn.name == "runtime.NumGoroutine") = false) (hw : ∀ x, FnP prog f (.agg (Zq x) :: cps) (.bool (p x))) : FnG prog 123 1 [.is v, .clos f cps] [Zx 42 4 Zq l v] (PV.one) (fun v => [Zx 42 4 Zq (l.filter fun x => !p x) v]) := by
 refine FnG.mk func123 Z ntmps123 Z kr fun B F0 a w F V hG G=>?_
 replace G:=G.turn 1 Z (r':=.ob (.val v) (Zx 42 4 Zq l)) (fun _ _ _ _ h=>h)
 refine Ya (rZ G (qC qZ) V [4,1,0] [1,0] fun G=>Ya ?_)
 refine rZ G (qR rr (qR rr (qf (OpC.lendRow 1 [8] (oP (ZuS l p f fn cps hf hb hnn hw) func166 (Args.two .t .t)) ⟨rfl,tv,tv⟩ (.pv (fun _ _ _ _ h=>h)) trivial (by rfl)) r2 r1 (qO rr qZ)))) V [5,4,1,0] [1,0] fun G=>(Ya (Ya ?_))
 refine rZ G (qR rr (qf (o_eql .t qi) r1 qz qZ)) V [12,5,4,1,0] [1,0] fun G=>?_
 refine Zc G Z (fun hc0=>?_) (fun hc0=>?_)
 ·skip
  have hno:=(Zaw p l).resolve_right (by rintro ⟨i,h1,_⟩;simp at hc0;omega)
  have hg:(l.filter fun x=>!p x)=l:=Zdk hno.2
  refine Ya (rZ G (qR rr (qO rr qZ)) V [5,4,1,0] [1,0] fun G=>(Yh (Zl ?_)))
  have G:=G.turn 1 Z (r':=RS.hp (Zx 42 4 Zq (l.filter fun x=>!p x) v)) (fun _ _ _ _ h=>by rw [hg];exact h)
  refine Z1 (h':=fun v=>Zx 42 4 Zq (l.filter fun x=>!p x) v) hG G Z (.tmp Z .nil) (.one .one) rfl
 obtain ⟨i0,hi0,hi1,hip,hib⟩:=(Zaw p l).resolve_left (by rintro ⟨h1,_⟩;simp [h1] at hc0)
 have hst0:=Zev hi1 hip hib
 refine Ye (Za (Ya (Ya (rZ G (qR rr (qp r1 (qO rr qZ))) V [6,5,4,1,0] [1,0] fun G=>Yg ?_))))
 have hC0:i0<i0+1∧i0+1≤l.length∧l.length=l.length∧l.take i0=(l.take (i0+1)).filter (fun x=>!p x) ∧ ∀ k,i0+1≤k→k<l.length→Nn l k=Nn l k:=⟨by omega,by omega,rfl,hst0,fun k _ _=>rfl⟩
 replace G:=G.ent (i:=5) (s':=.pv (.int .i64 (i0:Int))) Z (.int hi0)
 replace G:=G.ent (i:=6) (s':=.pv (.int .i64 ((i0+1:Nat):Int))) Z (.int (by rw [hi0,ZA ow];omega))
 refine Zk (σ:=Nat×Nat×List Zg) [0,1,4] [0] (fun s=>[(5,.pv (.int .i64 (s.1:Int))),(6,.pv (.int .i64 (s.2.1:Int)))]) (fun s=>[(1,.ob (.val v) (Zx 42 4 Zq s.2.2))]) (fun s=>s.1<s.2.1∧s.2.1≤l.length∧s.2.2.length=l.length∧s.2.2.take s.1=(l.take s.2.1).filter (fun x=>!p x) ∧ ∀ k,s.2.1≤k→k<l.length→Nn s.2.2 k=Nn l k) (fun s=>l.length - s.2.1) ((i0),(i0+1),(l)) G ⟨rfl,rfl,rfl,rfl,rfl,tv⟩ ⟨rfl,rfl,tv⟩ hC0 ?_
 clear G;intro s a w F hC G
 obtain ⟨i,j,l1⟩:=s
 try dsimp only at hC
 obtain ⟨F,G⟩:=G.nM [6,5,4,1,0] [1,0]
 try dsimp only at G
 obtain ⟨hij,hj,hll1,htk,hrest⟩:=hC
 refine Ya (Ya (rZ G (qR rr (qR rr (qf (ZQ 1 Ycg .is) r1 r1 (qL r2)))) V [19,6,5,4,1,0] [1,0] fun G=>?_))
 refine Zc G Z (fun hc1=>?_) (fun hc1=>?_)
 ·skip
  have hjl:j<l.length:=by simp at hc1;omega
  have hnj:Nn l1 j=(Nn l j):=hrest j (YM _) hjl
  have hfs:=ZcB (p:=fun x=>!p x) hjl
  refine Ye (Za (Ya (Yg (Ya (Zb G (qR rr (qR rr (qf (o_indexAddr_row (sz:=4) 1 (.mk Ycg kr) .is .t ow ow (by rfl)) r2 r1 (qf (Zu (ag:=true) (sz':=4) (sz:=4) 1 .t (by intro x;rfl) ow kr kr kr) r1 r1 (qf (oH [.int .i64 0,.int .i64 0,.int .i64 0,.int .i64 0] 101) trivial qz (qS 4 101 r2 r1 qZ)))))) V [7,6,5,4,1,0] [101,1,0] (fun _=>rfl) (fun _=>rfl) fun τ a w F G=>?_)))))
  try dsimp only [RS.sub,SF.sub,CF.sub,csub,Anc.sub,List.map,Zf,xL,xM,Nat.reduceAdd,xD,xE,xT,xU,xC,xN,zCF,ldSF,Zq] at G
  generalize τ 7=v7 at G
  try simp only [Yb] at G
  rw [hnj] at G
  refine Za (Ya (rZ G (qR rr (qe 4 101 r1 r1 (qf (ZN (avs:=[.agg (Zq (Nn l j))]) .t (hw (Nn l j)) hf hb hnn (Args.one (.pagg .t))) r2 qz (qf (o_not .t) r1 qz qZ)))) V [29,7,6,5,4,1,0] [101,1,0] fun G=>?_))
  refine Zc G Z (fun hc2=>?_) (fun hc2=>?_)
  ·skip
   have hp:p (Nn l j)=false:=by simpa using hc2
   obtain ⟨i2,hi2e⟩:∃ i2,i2=i+1:=⟨_,rfl⟩
   have hi2:IntKind.wrap .i64 ((i:Int)+1)=(i2:Int):=by rw [hi2e];exact Zd ow
   obtain ⟨l2,hl2⟩:∃ l2,l2=l1.set i (Nn l j):=⟨_,rfl⟩
   have hC2:i2<j+1∧j+1≤l.length∧l2.length=l.length∧l2.take i2=(l.take (j+1)).filter (fun x=>!p x) ∧ ∀ k,j+1≤k→k<l.length→Nn l2 k=Nn l k:=⟨by omega,by omega,by rw [hl2,YK];exact hll1,by rw [hl2,hi2e,hfs,hp,← htk,Zp (by rw [YK];omega),YbJ (YM _),nth_eq (by rw [YK];omega),Ybe];rfl,fun k hk hk2=>by rw [hl2,nth_eq (by rw [YK];omega),YbK ow,← nth_eq ow];exact hrest k ow hk2⟩
   refine Ya (Ze G (qR rr (qR rr (qe 4 101 r1 r1 (qf (o_indexAddr_row (sz:=4) 1 (.mk Ycg kr) .is .t ow ow (by rfl)) r2 r1 (qf (ZdJ (sz:=4) 1 .t (by intro x;rfl) ow (.conv .t (Ent.aggU (l:=Zq (Nn l j)) Z Z)) kr) r2 r1 qZ))))) V [6,5,4,1,0] [1,0] Z Z fun a w F G=>?_)
   try simp only [Yb] at G
   rw [← hl2] at G
   refine Za (Ze G (qR rr (qp r1 (qO rr qZ))) V [6,5,4,1,0] [1,0] Z Z fun a w F G=>Zi (Za ?_))
   refine rZ G (qR rr (qp r1 (qO rr qZ))) V [6,5,4,1,0] [1,0] fun G=>?_
   have hmu:l.length - (j+1)<l.length - j:=by omega
   replace G:=G.ent (i:=5) (s':=.pv (.int .i64 (i2:Int))) Z (.int hi2)
   replace G:=G.ent (i:=6) (s':=.pv (.int .i64 ((j+1:Nat):Int))) Z (.int (Zd ow))
   obtain ⟨F,G⟩:=G.nM [4,1,0,6,5] [0,1]
   exact ⟨((i2),(j+1),(l2)),F,hC2,G,hmu⟩
  have hp:p (Nn l j)=true:=by simpa using hc2
  obtain ⟨i2,hi2e⟩:∃ i2,i2=i:=⟨_,rfl⟩
  have hi2:(i:Int)=(i2:Int):=by rw [hi2e]
  obtain ⟨l2,hl2⟩:∃ l2,l2=l1:=⟨_,rfl⟩
  rw [← hl2] at G
  have hC2:i2<j+1∧j+1≤l.length∧l2.length=l.length∧l2.take i2=(l.take (j+1)).filter (fun x=>!p x) ∧ ∀ k,j+1≤k→k<l.length→Nn l2 k=Nn l k:=⟨by omega,by omega,by rw [hl2];exact hll1,by rw [hl2,hi2e,hfs,hp,htk];simp,fun k hk hk2=>by rw [hl2];exact hrest k ow hk2⟩
  refine Ye (Zi (Za (rZ G (qR rr (qp r1 (qO rr qZ))) V [6,5,4,1,0] [1,0] fun G=>?_)))
  have hmu:l.length - (j+1)<l.length - j:=by omega
  replace G:=G.ent (i:=5) (s':=.pv (.int .i64 (i2:Int))) Z (.int hi2)
  replace G:=G.ent (i:=6) (s':=.pv (.int .i64 ((j+1:Nat):Int))) Z (.int (Zd ow))
  obtain ⟨F,G⟩:=G.nM [4,1,0,6,5] [0,1]
  exact ⟨((i2),(j+1),(l2)),F,hC2,G,hmu⟩
 have hjl:j=l.length:=by simp at hc1;omega
 have hil2:i<l.length:=by omega
 have hg:(l.filter fun x=>!p x)=(l1.take i++List.replicate (l1.length - i) (⟨0,0,0,0⟩:Zg)).take i:=by rw [YT (by rw [Yi];omega),YaL,Yb2,htk,hjl,YA]
 refine Yx (Zj (Zj (Zo (Za (Ya (rZ G (qR rr (qR rr (qf (Zai (sz:=4) 1 (.mk Ycg kr) .is .t ow ow) r2 r1 (qf (ZbR (R:=Zq) (z:=(⟨0,0,0,0⟩:Zg)) (zs:=[.int .i64 0,.int .i64 0,.int .i64 0,.int .i64 0]) 1 Ycg kr Z Z (fun _ _=>⟨⟨rfl,rfl,ZcV⟩,⟨rfl,rfl,ZcV⟩,⟨rfl,rfl,ZcV⟩,⟨rfl,rfl,ZcV⟩,tv⟩) (by intro x;rfl) .t (by simp;omega)) r1 r1 qZ)))) V [5,4,0] [1,0] fun G=>Ya ?_))))))
 refine Zb G (qR rr (qR rr (qf (ZbO (sz:=4) 1 (.mk Ycg kr) (by intro x;rfl) .is .t ow (by simp;omega)) r2 r1 (qO rr qZ)))) V [4] [1,0] (fun _=>rfl) (fun _=>rfl) fun τ a w F G=>?_
 try dsimp only [RS.sub,SF.sub,CF.sub,csub,Anc.sub,List.map,Zq] at G
 generalize τ 41=v41 at G
 refine Za (Yh ?_)
 have G:=G.turn 1 Z (r':=RS.hp (Zx 42 4 Zq (l.filter fun x=>!p x) v41)) (fun _ _ _ _ h=>by rw [hg];exact h)
 refine Z1 (h':=fun v=>Zx 42 4 Zq (l.filter fun x=>!p x) v) hG G Z (.tmp Z .nil) (.one .one) rfl
theorem Zoz {A:Zy→Prop} {m:Zy→Bool} {κ:Zy→Int} {i:Int} {dv ev:List Int} {out:Int→List Zy} (ho:∀ u x,x ∈ out u ↔ A x∧x.src=u) (hs:∀ u,(out u).Pairwise fun a b=>κ a<κ b) (hL:Zct A m i dv ev) {need:Bool} {way:List Zy} (hb:ZdL A m κ need i way)
  {b:Int} (hbv:Z0 (ZG m dv ev need) (out i)=b) :
  (¬ (0<b∧(way = []∨b<way.length))→ZdL A m κ need (i+1) way) ∧
  (0<b∧(way = []∨b<way.length)→Zch A m κ i b.toNat need [] i b.toNat need∧Zbd out (ZG m dv ev) m i b.toNat i need≠[]∧ZdL A m κ need (i+1) (Zbd out (ZG m dv ev) m i b.toNat i need)∧(Zbd out (ZG m dv ev) m i b.toNat i need).length=b.toNat):=by
 have hsh:=Zi2 (ZG m dv ev need) (out i)
 rw [hbv] at hsh
 obtain ⟨s1,s2⟩:=hL.short (ho i) hsh
 have h0:=hsh.1
 constructor
 ·intro hn
  refine hb.keep (fun hw w hc=>?_) fun hw w hc=>?_
  ·exact s1 (by rcases Int.lt_or_eq_of_le h0 with k | k;exact absurd ⟨k,.inl hw⟩ hn;exact k.symm) w hc.1 hc.2.1 hc.2.2
  ·by_cases k:0<b
   ·have:=(s2 k).2 w hc.1 hc.2.1 hc.2.2
    have:¬ b<way.length:=fun h=>hn ⟨k,.inr h⟩
    omega
   ·exact absurd hc.2.2 (s1 ow w hc.1 hc.2.1)
 ·rintro ⟨k,hw⟩
  have hnear:=s2 k
  have hk:0<b.toNat:=by omega
  obtain ⟨w1,w2,w3⟩:=ZrR ho hs hL hk hnear
  refine ⟨Zch.start hk hnear,w1.1,hb.turn w1 (fun w hc=>?_) (fun w hc hl=>w3 w hc ow) fun hne=>?_,w2⟩
  ·rw [w2];exact hnear.2 w hc.1 hc.2.1 hc.2.2
  ·rw [w2]
   rcases hw with hw | hw
   ·exact absurd hw hne
   ·omega
theorem ZrD {m:Zy→Bool} {dv ev:List Int} {need:Bool} {x:Zy} {N:Int} (hx:0≤x.dst∧x.dst<dv.length∧x.dst<ev.length) (h1:∀ z ∈ dv,-1≤z∧z≤N) (h2:∀ z ∈ ev,-1≤z∧z≤N) : -1≤ZG m dv ev need x∧ZG m dv ev need x≤N:=by
 unfold ZG
 split
 ·rw [ZaN hx.1];exact h2 _ (nth_mem ow)
 ·rw [ZaN hx.1];exact h1 _ (nth_mem ow)
theorem ZqZ {n:Nat} {d:List Int} (hd:d.length=2*n) {z:Int} (h:z ∈ ZaQ n d):z ∈ d:=by
 obtain ⟨u,h1,rfl⟩:=Yu.1 h
 exact nth_mem (by have:=Ya1.1 h1;omega)
theorem ZsT {A:Zy→Prop} {i:Int} {a b:Int} : ∀ {w:List Zy},Zeq A i a w b → ∀ x ∈ w,A x
 | y :: w,h,x,hx=>by
  rcases Yj.1 hx with rfl | hx
  ·exact h.1
  ·exact ZsT h.2.2.2 x hx
theorem Znt {l:List Zg} : (Z9 l).length≤l.length:=by
 have h:=ZgH (l.map Zg.key)
 rwa [YH] at h
def Zs1 (lf:List Zg) (mk:Int) (E:List Zy):Prop:=E.length≤1000000∧(∀ x,(x ∈ E∧ofB mk x.kind=true) ↔ ∃ e,e ∈ lf∧Zb9 (rkI (ZR lf)) (rkI (Z9 lf)) e=x)∧(∀ (ms:Int) (need:Bool) (j:Int) (w:List Zy),CwA (fun x=>x ∈ E∧ofB mk x.kind=true) (fun y=>ofB ms y.kind) need j w→0≤j)∧ZcS (· ∈ lf) (rkI (ZR lf)) (rkI (Z9 lf)) (Zju (ZR lf) (Z9 lf))
theorem Zov {l lf:List Zg} {mk:Int} (hlf:l.filter (kindOk mk)=lf) (hll:lf.length≤100000) (hn:(ZR lf).length≤4096) (hk:(Z9 lf).length≤100000) :
  ∃ E,Zs1 lf mk E∧ZbU (ZR lf).length E (ZX (ZR lf).length (lf.map (ZcW (ZR lf) (Z9 lf)))).1 (ZX (ZR lf).length (lf.map (ZcW (ZR lf) (Z9 lf)))).2.1:=by
 have hr:=Znh (l:=lf) hn ow
 have i1:ZdA (ZR lf):=(ZW _).1
 have hright:∀ e ∈ lf,ZaH (ZR lf).length (ZcW (ZR lf) (Z9 lf) e)=true∧ofB mk e.kind=true:=fun e he=>by
  have a1:=(ZaK i1 (Zaq.2 ⟨e,he,.inl rfl⟩)).1
  have a2:=(ZaK i1 (Zaq.2 ⟨e,he,.inr rfl⟩)).1
  have a3:=hr.keyr e.key ⟨e,he,rfl⟩
  have hm:e ∈ l.filter (kindOk mk):=by rw [hlf];exact he
  have h4:=(YU.1 hm).2
  unfold kindOk at h4
  simp only [Yt,Yq] at h4
  refine ⟨ZP.2 ⟨⟨?_,?_⟩,⟨?_,?_⟩,h4.1,?_,?_⟩,h4.2⟩
  ·exact Yau _
  ·exact Yca.2 a1
  ·exact Yau _
  ·exact Yca.2 a2
  ·exact a3.1
  ·show rkI (Z9 lf) e.key≤1048575;omega
 have hmem:∀ x,x ∈ (lf.map (ZcW (ZR lf) (Z9 lf))).foldl (Zi9 (ZR lf).length) [] ↔ ∃ e,e ∈ lf∧Zb9 (rkI (ZR lf)) (rkI (Z9 lf)) e=x:=fun x=>by
  rw [ZhS]
  constructor
  ·rintro (h | ⟨h,_⟩)
   ·cases h
   ·obtain ⟨e,he,h2⟩:=Yu.1 h
    exact ⟨e,he,h2⟩
  ·rintro ⟨e,he,rfl⟩
   exact .inr ⟨Yu.2 ⟨e,he,rfl⟩,(hright e he).1⟩
 have hA:∀ x,(x ∈ (lf.map (ZcW (ZR lf) (Z9 lf))).foldl (Zi9 (ZR lf).length) []∧ofB mk x.kind=true) ↔ ∃ e,e ∈ lf∧Zb9 (rkI (ZR lf)) (rkI (Z9 lf)) e=x:=fun x=>by
  rw [hmem]
  constructor
  ·exact fun h=>h.1
  ·rintro ⟨e,he,rfl⟩
   exact ⟨⟨e,he,rfl⟩,(hright e he).2⟩
 refine ⟨_,⟨?_,hA,fun ms need j w hc=>?_,hr⟩,(ZiR hn _).1⟩
 ·have h9:=Zd5 (n:=(ZR lf).length) (lf.map (ZcW (ZR lf) (Z9 lf))) []
  rw [YH,Yy] at h9
  omega
 ·obtain ⟨c1,c2,_⟩:=hc
  cases w with
  | nil=>exact absurd rfl c1
  | cons x w=>
   obtain ⟨h1,h2,_⟩:=c2
   obtain ⟨e,_,rfl⟩:=(hA x).1 h1
   rw [← h2]
   exact Yau _
theorem ZnT {E:List Zy} {O I:List (List Z7)} {mk ms mn mm:Int} (h:ZbU O.length E O I) (hbn:∀ k,1≤k→k≤3→ofB mn k=(ofB mk k && !ofB ms k)) (hbm:∀ k,1≤k→k≤3→ofB mm k=(ofB mk k && ofB ms k)) {i:Nat} (hi:i<O.length) (hn:O.length≤4096) :
  ∃ D D2,Zds O.length (fun x=>adjO I mk x) (i:Int) (i:Int) D∧Zds (2*O.length) (ZdO (fun x=>adjO I mn x) (fun x=>adjO I mm x)) (2*(i:Int)) (2*(i:Int)) D2∧Zct (fun x=>x ∈ E∧ofB mk x.kind=true) (fun y=>ofB ms y.kind) (i:Int) D (ZaQ O.length D2) ∧
   D.length=O.length∧(ZaQ O.length D2).length=O.length∧(∀ z ∈ D,-1≤z∧z≤90000) ∧ ∀ z ∈ ZaQ O.length D2,-1≤z∧z≤90000:=by
 obtain ⟨D,hD⟩:=ZpO O.length (fun x=>adjO I mk x) (i:Int) (i:Int)
 obtain ⟨D2,hD2⟩:=ZpO (2*O.length) (ZdO (fun x=>adjO I mn x) (fun x=>adjO I mm x)) (2*(i:Int)) (2*(i:Int))
 have hk:∀ y ∈ E,1≤y.kind∧y.kind≤3:=fun y hy=>(ZP.1 (h.ok y hy)).2.2.1
 refine ⟨D,D2,hD,hD2,Znv (fun x hx=>(ZP.1 (h.ok x hx.1)).2.1) (prev:=fun x=>adjO I mk x) (fun x u=>?_) (p:=fun x=>adjO I mn x) (q:=fun x=>adjO I mm x) (fun x u=>?_) (fun x u=>?_) hD hD2,hD.1,ZaL,fun z hz=>?_,fun z hz=>?_⟩
 ·rw [(h.prev mk x).2 u]
  constructor
  ·rintro ⟨y,y1,y2,y3,y4⟩;exact ⟨y,⟨y1,y3⟩,y2,y4⟩
  ·rintro ⟨y,⟨y1,y3⟩,y2,y4⟩;exact ⟨y,y1,y2,y3,y4⟩
 ·rw [(h.prev mn x).2 u]
  constructor
  ·rintro ⟨y,y1,y2,y3,y4⟩
   obtain ⟨k1,k2⟩:=hk y y1
   rw [hbn _ k1 k2,Yt,Yaq] at y3
   exact ⟨y,⟨y1,y3.1⟩,y3.2,y2,y4⟩
  ·rintro ⟨y,⟨y1,y3⟩,y5,y2,y4⟩
   obtain ⟨k1,k2⟩:=hk y y1
   exact ⟨y,y1,y2,by rw [hbn _ k1 k2,y3,y5];rfl,y4⟩
 ·rw [(h.prev mm x).2 u]
  constructor
  ·rintro ⟨y,y1,y2,y3,y4⟩
   obtain ⟨k1,k2⟩:=hk y y1
   rw [hbm _ k1 k2,Yt] at y3
   exact ⟨y,⟨y1,y3.1⟩,y3.2,y2,y4⟩
  ·rintro ⟨y,⟨y1,y3⟩,y5,y2,y4⟩
   obtain ⟨k1,k2⟩:=hk y y1
   exact ⟨y,y1,y2,by rw [hbm _ k1 k2,y3,y5];rfl,y4⟩
 ·have:=hD.le (h.prevR mk).1 ⟨by omega,by omega⟩ z hz
  omega
 ·have:=hD2.le (ZoW (h.prevR mn).1 (h.prevR mm).1) ⟨by omega,by omega⟩ z (ZqZ hD2.1 hz)
  omega
theorem Zj7 {lf:List Zg} {mk ms:Int} {E:List Zy} {need:Bool} {i:Nat} {way:List Zy} {R:List Zg} (hE:Zs1 lf mk E) (hb:ZdL (fun x=>x ∈ E∧ofB mk x.kind=true) (fun y=>ofB ms y.kind) ZnJ need (i:Int) way) (hi:i=(ZR lf).length)
  (hR:(R = [] ∧ ∀ j w,¬ CwE (· ∈ lf) (fun e=>ofB ms e.kind) need j w)∨Zc8 (· ∈ lf) (fun e=>ofB ms e.kind) need R) :
  (way = []→[] = R)∧(way≠[]→(∀ x ∈ way,(0≤x.src∧x.src<((ZR lf).length:Int))∧(0≤x.dst∧x.dst<((ZR lf).length:Int))∧0≤x.label∧x.label<((Z9 lf).length:Int))∧way.map (Zju (ZR lf) (Z9 lf))=R∧R≠[]):=by
 obtain ⟨_,hA,_,hr⟩:=hE
 have i1:ZdA (ZR lf):=(ZW _).1
 have i2:ZdA (Z9 lf):=(ZW _).1
 rw [show (fun x=>x ∈ E∧ofB mk x.kind=true)=fun x=>∃ e,e ∈ lf∧Zb9 (rkI (ZR lf)) (rkI (Z9 lf)) e=x from funext fun x=>propext (hA x)] at hb
 obtain ⟨f1,f2⟩:=hr.first (n:=(i:Int)) (fun a ha=>by rw [hi];exact Yca.2 (ZaK i1 (Zaq.2 ha)).1) hb
 constructor
 ·intro hw
  rcases hR with ⟨h1,_⟩ | ⟨j,h1,_⟩
  ·exact h1.symm
  ·exact absurd h1 (f1 hw j R)
 ·intro hw
  have hF:=f2 hw
  refine ⟨fun x hx=>?_,?_⟩
  ·obtain ⟨j,_,hc,_⟩:=hb.2 hw
   obtain ⟨e,he,rfl⟩:=ZsT hc.2.1 x hx
   have a1:=(ZaK i1 (Zaq.2 ⟨e,he,.inl rfl⟩)).1
   have a2:=(ZaK i1 (Zaq.2 ⟨e,he,.inr rfl⟩)).1
   have a3:=(ZaK i2 (Zcn.2 ⟨e,he,rfl⟩)).1
   exact ⟨⟨Yau _,Yca.2 a1⟩,⟨Yau _,Yca.2 a2⟩,Yau _,Yca.2 a3⟩
  ·have hF2:Zc8 (· ∈ lf) (fun e=>ofB ms e.kind) need (way.map (Zju (ZR lf) (Z9 lf))):=hF
   rcases hR with ⟨_,h2⟩ | h2
   ·obtain ⟨j,h3,_⟩:=hF2
    exact absurd h3 (h2 j _)
   ·refine ⟨hF2.one h2,?_⟩
    obtain ⟨j,h3,_⟩:=h2
    exact h3.1
theorem Znj (l lf:List Zg) (mask must mk ms mn mm:Int) (hmk:bits .and .i64 mask 14=mk) (hms:bits .and .i64 must 14=ms) (hmn:bits .andNot .i64 mk ms=mn) (hmm:bits .and .i64 mk ms=mm) (hne:mn≠mm) (hbn:∀ k,1≤k→k≤3→ofB mn k=(ofB mk k && !ofB ms k)) (hbm:∀ k,1≤k→k≤3→ofB mm k=(ofB mk k && ofB ms k)) (hl:l.length≤100000) (hlf:l.filter (kindOk mk)=lf) (hn0:(ZR lf).length≤4096) (R:List Zg) (hR:(R = [] ∧ ∀ j w,¬ CwE (· ∈ lf) (fun e=>ofB ms e.kind) (!decide (ms=0)) j w)∨Zc8 (· ∈ lf) (fun e=>ofB ms e.kind) (!decide (ms=0)) R):FnP prog 76 [.sl Zq l,.int .i64 mask,.int .i64 must] (.tup [.sl Zq R,.int .i64 (if R = [] then 3 else 0)]):=by
 refine FnP.mk func76 Z ntmps76 Z fun B a w F V hfr G=>?_
 have hll:lf.length≤100000:=by rw [← hlf];exact Y4 (Yaa _ _) hl
 have hn:=hn0
 have hkl:(Z9 lf).length≤100000:=Y4 Znt hll
 refine Ya (Zb G (qf (Zfv 101 .t one_int) r1 qz (qC (qI qZ))) V [7,6,4,2,0] [101,0] (fun _=>rfl) (fun _=>rfl) fun τ a w F G=>?_)
 try dsimp only [RS.sub,SF.sub,CF.sub,csub,Anc.sub,List.map,zCF,Zn,Zq,Zam] at G
 generalize τ 4=v4 at G
 refine Za (Ya (Ze G (qf (oL false 1 101 .is) r1 r1 (qf (o_and .t qi) r1 qz (qR rr (qf (o_and .t qi) r1 qz (qf (Za3 101 .is .t one_int kr kr) r2 r1 (qO rr qZ)))))) V [7,6,4,2,0] [101,0] Z Z fun a w F G=>?_))
 rw [hmk,hms] at G
 obtain ⟨F,G⟩:=G.giveRef 101 4 Z Z rfl
 obtain ⟨F,G⟩:=G.nM [7,6,4,2,0] [0]
 try dsimp only [Go.Gm.unCF] at G
 refine Za (Ya ?_)
 replace G:=G.fresh 102 rfl
 refine Zb G (qR rr (qf (Zap 102 (Zra l ow) func124 Z kr (Args.one .t) pvOne1) r1 r1 (qf (ZaO (Args.one .t)) r1 qz (qf (Zli 23 102 (fun v=>ZtE _ l ow (fun e=>!kindOk mk e) 125 f125 [.ref [.int .i64 mk]] func125 Z kr (fun e=>ZrU e mk)) func123 Z kr (Zp5.two .same (.of .t)) pvOne1) r2 r1 (qO rr qZ))))) V [7,6,4,2,0] [102,0] (fun _=>rfl) (fun _=>rfl) fun τ a w F G=>?_
 try dsimp only [RS.sub,SF.sub,CF.sub,csub,Anc.sub,List.map,Zn,Zq,Zam] at G
 generalize τ 25=v25 at G
 simp only [Bool.not_not] at G
 rw [hlf] at G
 refine Za (Ya ?_)
 obtain ⟨F,G⟩:=G.give 102 0 Z rfl
 obtain ⟨F,G⟩:=G.nM [7,6,4,2,0] [0]
 refine Zb G (qR rr (qf (oP (ZtC lf hll) func126 (Args.one .t)) r1 qz (qf (oH [.slice none 0 0,.slice none 0 0] 103) trivial qz (qf (oA 2 103 .same (.conv .t .agg)) r2 r1 qZ)))) V [8,7,6,4,2,0] [103,0] (fun _=>rfl) (fun _=>rfl) fun τ a w F G=>?_
 try dsimp only [RS.sub,SF.sub,CF.sub,csub,Anc.sub,List.map,Zf,xL,xM,Nat.reduceAdd,xD,xE,xT,xU,xC,xN,zCF,Zn,Zq,Zam] at G
 generalize τ 8=v8 at G
 refine Za (Ya (Ze G (qR rr (qe 2 103 r1 r1 (qf (oP (ZuJ lf (ZR lf) (Z9 lf) hll hn0 ow ow (ZW _).1 (ZW _).1) func127 (Args.two .t (.pagg .t))) r2 qz (qR rr (qf (Zh .t Z) r1 qz (qf (Zh .t Z) r1 qz (qO rr (qO rr qZ)))))))) V [10,9,8,7,6,4,2] [103,0] Z Z fun a w F G=>?_))
 obtain ⟨q,hq0⟩:∃ q,q=ZX (ZR lf).length (lf.map (ZcW (ZR lf) (Z9 lf))):=⟨_,rfl⟩
 rw [← hq0] at G
 obtain ⟨E,hE0,hD0⟩:=Zov hlf hll hn hkl
 rw [← hq0] at hD0
 have hoq:=hD0.ol
 have hD:ZbU q.1.length E q.1 q.2.1:=by rw [hoq];exact hD0
 have hEl:=hE0.1
 have hO:∀ l ∈ q.1,l.length≤1000000:=fun l hl=>(hD.on.r hEl l hl).1
 have hn:q.1.length≤4096:=by omega
 have hnil:=hE0.2.2.1 ms (!decide (ms=0))
 refine Za (Ya (Ya (rZ G (qR rr (qf (o_neq .t qi) r1 qz qZ)) V [35,10,9,8,7,6,4,2] [103,0] fun G=>?_)))
 refine Zc G Z (fun hc0=>?_) (fun hc0=>?_)
 ·simp at hc0
 refine Ye (Za (Ya (rZ G (qC qZ) V [11,9,8,7,6,4,2] [103,0] fun G=>(Ya (Ya ?_)))))
 refine rZ G (qg 0 103 r1 r1 (qa 103 r1 r1 (qu Ycf r1 (qJ qZ)))) V [40,39,11,9,8,7,6,4,2] [103,0] fun G=>Yg ?_
 refine Zk (σ:=(Nat)×(List Zy)) [2,4,6,7,8,9,39] [0,103] (fun s=>[(40,.pv (.int .i64 (s.1:Int))),(11,.pv (if s.2 = [] then PV.is (.slice none 0 0) else PV.sl Zam s.2))]) (fun s=>[]) (fun s=>s.1≤(ZR lf).length∧(ZdL (fun x=>x ∈ E∧ofB mk x.kind=true) (fun y:Zy=>ofB ms y.kind) ZnJ (!decide (ms=0)) (s.1:Int) s.2∧s.2.length≤90001)) (fun s=>(ZR lf).length - s.1) ((0),([])) G ⟨rfl,rfl,rfl,rfl,rfl,rfl,rfl,rfl,rfl,tv⟩ ⟨rfl,rfl,tv⟩ ⟨Yw _,⟨ZdL.nil _ _ _ _ hnil,Yw _⟩⟩ ?_
 clear G;intro s a w F hC G
 obtain ⟨i,way⟩:=s
 try dsimp only at hC
 obtain ⟨F,G⟩:=G.nM [40,39,11,9,8,7,6,4,2] [103,0]
 try dsimp only at G
 obtain ⟨hi,hq⟩:=hC
 obtain ⟨hq,hwy⟩:=hq
 refine Ya (rZ G (qL r2) V [41,40,39,11,9,8,7,6,4,2] [103,0] fun G=>Ya ?_)
 refine Zc G Z (fun hc1=>?_) (fun hc1=>?_)
 ·have hil:i<(ZR lf).length:=by simp at hc1;omega
  obtain ⟨D,D2,hDD,hDD2,hL,hlD,hlE,hb1,hb2_⟩:=ZnT hD hbn hbm (i:=i) ow hn
  have hst:=Zoz (need:=(!decide (ms=0))) (hD.outM mk) (hD.outP mk) hL hq (b:=(Z0 (ZG (fun y:Zy=>ofB ms y.kind) D (ZaQ q.1.length D2) (!decide (ms=0))) (Zac q.1 mk (i:Int)))) rfl
  have hlv:∀ x ∈ Zac q.1 mk (i:Int),-1≤(ZG (fun y:Zy=>ofB ms y.kind) D (ZaQ q.1.length D2) (!decide (ms=0))) x∧(ZG (fun y:Zy=>ofB ms y.kind) D (ZaQ q.1.length D2) (!decide (ms=0))) x≤90000:=fun x hx=>ZrD (by have h9:=(hD.outR mk _ x hx).1;rw [hlD,hlE];omega) hb1 hb2_
  have hsb:=Zjb (f:=(ZG (fun y:Zy=>ofB ms y.kind) D (ZaQ q.1.length D2) (!decide (ms=0)))) (l:=Zac q.1 mk (i:Int)) (N:=90001) ow fun x hx=>(by have:=hlv x hx;omega)
  refine Ye (Za (Ya (Yg (Ya (rZ G (qR rr (qO rr qZ)) V [40,39,12,11,9,8,7,6,4,2] [103,0] fun G=>Ya ?_)))))
  refine Zb G (qR rr (qf (oR false 1 .t) r1 qz (qR rr (qR rr (qf (oP (ZwE E q.1 q.2.1 q.2.2 mk ms (i:Int) mn mm hmn hmm hne hD ow hn hEl (Yau _) ow D D2 hDD hDD2) func128 (Args.four .t .t .t .t)) r4 qz (qf (oH [.pointer none,.int .i64 0,.int .i64 0,.slice none 0 0,.slice none 0 0] 104) trivial qz (qf (oA 5 104 .same (.conv .t .agg)) r2 r1 qZ))))))) V [40,39,13,12,11,9,8,7,6,4,2] [104,103,0] (fun _=>rfl) (fun _=>rfl) fun τ a w F G=>?_
  try dsimp only [RS.sub,SF.sub,CF.sub,csub,Anc.sub,List.map,Zf,xL,xM,Nat.reduceAdd,xD,xE,xT,xU,xC,xN,zCF,ldSF,Zn,Zq,Zam] at G
  generalize τ 13=v13 at G
  refine Za (Ya (rZ G (qe 5 104 r1 r1 (qR rr (qR rr (qf (o_neq .t qi) r1 qz (qf (oP (ZtA q.1 q.2.1 q.2.2 mk ms D (ZaQ q.1.length D2) (i:Int) (!decide (ms=0)) hO (fun u x hx=>by have h9:=(hD.outR mk u x hx).1;rw [hlD,hlE];omega) (fun u=>Y4 (hD.outL mk u) hEl) hlv) func129 (Args.three (.pagg .t) .t .t)) r3 qz (qO rr qZ)))))) V [40,39,14,13,12,11,9,8,7,6,4,2] [104,103,0] fun G=>Ya ?_))
  by_cases hfk:way = []
  ·rw [Yf hfk] at G
   refine Ze G (qR rr (qf (ZaR .t qi) r1 qz (qR rr (qm Z Z Z Z (qk Z (fun h=>Zhn Ycl (.w h)) r2 qz (qk Z (fun h=>oM (.w h)) r2 qz (ZB.cons (ZaD.cond2 Z Z (fun h=>Za6 .t (by rfl))) r2 qz (ZB.cons (ZaD.cond2 Z Z (fun h=>Za6 .t (by rfl))) r2 qz (ZB.cons (ZaD.cond2 Z Z (fun h=>Zot Ycl (.w h))) r2 qz (ZB.cons (ZaD.cond2 Z Z (fun h=>ZaA (.w h) (.w h))) r3 qz (qk Z (fun h=>Zak (.w h) (.wc h)) r3 qz (qf (ZE .t .t) r2 qz qZ)))))))))))) V [64,40,39,14,13,12,11,9,8,7,6,4,2] [104,103,0] Z Z fun a w F G=>?_
   try dsimp only [Zn,Zq,Zam] at G
   refine Za (Zc G Z (fun hc2=>?_) (fun hc2=>?_))
   ·have hyes:0<(Z0 (ZG (fun y:Zy=>ofB ms y.kind) D (ZaQ q.1.length D2) (!decide (ms=0))) (Zac q.1 mk (i:Int)))∧(way = []∨(Z0 (ZG (fun y:Zy=>ofB ms y.kind) D (ZaQ q.1.length D2) (!decide (ms=0))) (Zac q.1 mk (i:Int)))<way.length):=by have h9:=hc2;rw [Yt,Yq] at h9;exact ⟨h9.1,.inl hfk⟩
    obtain ⟨hW0,hwne,hb2,hwl2⟩:=hst.2 hyes
    have hkn:(Z0 (ZG (fun y:Zy=>ofB ms y.kind) D (ZaQ q.1.length D2) (!decide (ms=0))) (Zac q.1 mk (i:Int)))=(((Z0 (ZG (fun y:Zy=>ofB ms y.kind) D (ZaQ q.1.length D2) (!decide (ms=0))) (Zac q.1 mk (i:Int))).toNat:Nat):Int):=by omega
    have hwy2:(Zbd (Zac q.1 mk) (ZG (fun y:Zy=>ofB ms y.kind) D (ZaQ q.1.length D2)) (fun y:Zy=>ofB ms y.kind) (i:Int) (Z0 (ZG (fun y:Zy=>ofB ms y.kind) D (ZaQ q.1.length D2) (!decide (ms=0))) (Zac q.1 mk (i:Int))).toNat (i:Int) (!decide (ms=0))).length≤90001:=by omega
    refine Ze G (qe 5 104 r1 r1 (qR rr (qR rr (qR rr (qf (o_neq .t qi) r1 qz (qf (oP (Zs2 E q.1 q.2.1 q.2.2 mk ms D (ZaQ q.1.length D2) (i:Int) (Z0 (ZG (fun y:Zy=>ofB ms y.kind) D (ZaQ q.1.length D2) (!decide (ms=0))) (Zac q.1 mk (i:Int))).toNat (!decide (ms=0)) ow hD hL hW0 hO (fun u x hx=>by have h9:=(hD.outR mk u x hx).1;rw [hlD,hlE];omega) (fun u=>Y4 (hD.outL mk u) hEl)) func130 (Args.four (.pagg .t) .t (.conv .t (Ent.int hkn)) .t)) r4 qz (qO rr qZ))))))) V [40,39,11,9,8,7,6,4,2] [104,103,0] Z Z fun a w F G=>Zi (Za ?_)
    refine rZ G (qp r1 (qR rr qZ)) V [40,39,11,9,8,7,6,4,2] [104,103,0] fun G=>?_
    replace G:=G.ent (i:=40) (s':=.pv (.int .i64 ((i+1:Nat):Int))) Z (.int (Zd ow))
    replace G:=G.ent (i:=11) (s':=.pv (if (Zbd (Zac q.1 mk) (ZG (fun y:Zy=>ofB ms y.kind) D (ZaQ q.1.length D2)) (fun y:Zy=>ofB ms y.kind) (i:Int) (Z0 (ZG (fun y:Zy=>ofB ms y.kind) D (ZaQ q.1.length D2) (!decide (ms=0))) (Zac q.1 mk (i:Int))).toNat (i:Int) (!decide (ms=0))) = [] then PV.is (.slice none 0 0) else PV.sl Zam (Zbd (Zac q.1 mk) (ZG (fun y:Zy=>ofB ms y.kind) D (ZaQ q.1.length D2)) (fun y:Zy=>ofB ms y.kind) (i:Int) (Z0 (ZG (fun y:Zy=>ofB ms y.kind) D (ZaQ q.1.length D2) (!decide (ms=0))) (Zac q.1 mk (i:Int))).toNat (i:Int) (!decide (ms=0))))) Z ((by rw [Yc hwne];exact Ent.refl))
    obtain ⟨F,G⟩:=G.nM [39,9,8,7,6,4,2,11,40] [103,0]
    exact ⟨((i+1),((Zbd (Zac q.1 mk) (ZG (fun y:Zy=>ofB ms y.kind) D (ZaQ q.1.length D2)) (fun y:Zy=>ofB ms y.kind) (i:Int) (Z0 (ZG (fun y:Zy=>ofB ms y.kind) D (ZaQ q.1.length D2) (!decide (ms=0))) (Zac q.1 mk (i:Int))).toNat (i:Int) (!decide (ms=0))))),F,⟨by omega,⟨by have h9:((i+1:Nat):Int)=(i:Int)+1:=ow;rw [h9];exact hb2,hwy2⟩⟩,G,by omega⟩
   have hno:¬ (0<(Z0 (ZG (fun y:Zy=>ofB ms y.kind) D (ZaQ q.1.length D2) (!decide (ms=0))) (Zac q.1 mk (i:Int)))∧(way = []∨(Z0 (ZG (fun y:Zy=>ofB ms y.kind) D (ZaQ q.1.length D2) (!decide (ms=0))) (Zac q.1 mk (i:Int)))<way.length)):=by have h9:=hc2;rintro ⟨h8,_⟩;rw [Yac h8] at h9;simp at h9
   have hb2:=hst.1 hno
   have hwy2:=hwy
   refine Ye (Zi (Za (rZ G (qp r1 (qR rr qZ)) V [40,39,11,9,8,7,6,4,2] [104,103,0] fun G=>?_)))
   replace G:=G.ent (i:=40) (s':=.pv (.int .i64 ((i+1:Nat):Int))) Z (.int (Zd ow))
   replace G:=G.ent (i:=11) (s':=.pv (if way = [] then PV.is (.slice none 0 0) else PV.sl Zam way)) Z ((by rw [Yf hfk];exact Ent.refl))
   obtain ⟨F,G⟩:=G.nM [39,9,8,7,6,4,2,11,40] [103,0]
   exact ⟨((i+1),(way)),F,⟨by omega,⟨by have h9:((i+1:Nat):Int)=(i:Int)+1:=ow;rw [h9];exact hb2,hwy2⟩⟩,G,by omega⟩
  rw [Yc hfk] at G
  refine Ze G (qR rr (qf (ZaR .t qi) r1 qz (qR rr (qm Z Z Z Z (qk Z (fun h=>ZjK Ycl (.w h) hfk) r2 qz (qk Z (fun h=>oM (.w h)) r2 qz (ZB.cons (ZaD.cond2 Z Z (fun h=>Za6 .t (by rfl))) r2 qz (ZB.cons (ZaD.cond2 Z Z (fun h=>Za6 .t (by rfl))) r2 qz (ZB.cons (ZaD.cond2 Z Z (fun h=>Zdj Ycl (.w h))) r2 qz (ZB.cons (ZaD.cond2 Z Z (fun h=>ZaA (.w h) (.w h))) r3 qz (qk Z (fun h=>Zak (.w h) (.wc h)) r3 qz (qf (ZE .t .t) r2 qz qZ)))))))))))) V [64,40,39,14,13,12,11,9,8,7,6,4,2] [104,103,0] Z Z fun a w F G=>?_
  try dsimp only [Zn,Zq,Zam] at G
  refine Za (Zc G Z (fun hc3=>?_) (fun hc3=>?_))
  ·have hyes:0<(Z0 (ZG (fun y:Zy=>ofB ms y.kind) D (ZaQ q.1.length D2) (!decide (ms=0))) (Zac q.1 mk (i:Int)))∧(way = []∨(Z0 (ZG (fun y:Zy=>ofB ms y.kind) D (ZaQ q.1.length D2) (!decide (ms=0))) (Zac q.1 mk (i:Int)))<way.length):=by have h9:=hc3;rw [Ybi,Yt,Yq,Yq] at h9;exact ⟨h9.1,.inr h9.2⟩
   obtain ⟨hW0,hwne,hb2,hwl2⟩:=hst.2 hyes
   have hkn:(Z0 (ZG (fun y:Zy=>ofB ms y.kind) D (ZaQ q.1.length D2) (!decide (ms=0))) (Zac q.1 mk (i:Int)))=(((Z0 (ZG (fun y:Zy=>ofB ms y.kind) D (ZaQ q.1.length D2) (!decide (ms=0))) (Zac q.1 mk (i:Int))).toNat:Nat):Int):=by omega
   have hwy2:(Zbd (Zac q.1 mk) (ZG (fun y:Zy=>ofB ms y.kind) D (ZaQ q.1.length D2)) (fun y:Zy=>ofB ms y.kind) (i:Int) (Z0 (ZG (fun y:Zy=>ofB ms y.kind) D (ZaQ q.1.length D2) (!decide (ms=0))) (Zac q.1 mk (i:Int))).toNat (i:Int) (!decide (ms=0))).length≤90001:=by omega
   refine Ze G (qe 5 104 r1 r1 (qR rr (qR rr (qR rr (qf (o_neq .t qi) r1 qz (qf (oP (Zs2 E q.1 q.2.1 q.2.2 mk ms D (ZaQ q.1.length D2) (i:Int) (Z0 (ZG (fun y:Zy=>ofB ms y.kind) D (ZaQ q.1.length D2) (!decide (ms=0))) (Zac q.1 mk (i:Int))).toNat (!decide (ms=0)) ow hD hL hW0 hO (fun u x hx=>by have h9:=(hD.outR mk u x hx).1;rw [hlD,hlE];omega) (fun u=>Y4 (hD.outL mk u) hEl)) func130 (Args.four (.pagg .t) .t (.conv .t (Ent.int hkn)) .t)) r4 qz (qO rr qZ))))))) V [40,39,11,9,8,7,6,4,2] [104,103,0] Z Z fun a w F G=>Zi (Za ?_)
   refine rZ G (qp r1 (qR rr qZ)) V [40,39,11,9,8,7,6,4,2] [104,103,0] fun G=>?_
   replace G:=G.ent (i:=40) (s':=.pv (.int .i64 ((i+1:Nat):Int))) Z (.int (Zd ow))
   replace G:=G.ent (i:=11) (s':=.pv (if (Zbd (Zac q.1 mk) (ZG (fun y:Zy=>ofB ms y.kind) D (ZaQ q.1.length D2)) (fun y:Zy=>ofB ms y.kind) (i:Int) (Z0 (ZG (fun y:Zy=>ofB ms y.kind) D (ZaQ q.1.length D2) (!decide (ms=0))) (Zac q.1 mk (i:Int))).toNat (i:Int) (!decide (ms=0))) = [] then PV.is (.slice none 0 0) else PV.sl Zam (Zbd (Zac q.1 mk) (ZG (fun y:Zy=>ofB ms y.kind) D (ZaQ q.1.length D2)) (fun y:Zy=>ofB ms y.kind) (i:Int) (Z0 (ZG (fun y:Zy=>ofB ms y.kind) D (ZaQ q.1.length D2) (!decide (ms=0))) (Zac q.1 mk (i:Int))).toNat (i:Int) (!decide (ms=0))))) Z ((by rw [Yc hwne];exact Ent.refl))
   obtain ⟨F,G⟩:=G.nM [39,9,8,7,6,4,2,11,40] [103,0]
   exact ⟨((i+1),((Zbd (Zac q.1 mk) (ZG (fun y:Zy=>ofB ms y.kind) D (ZaQ q.1.length D2)) (fun y:Zy=>ofB ms y.kind) (i:Int) (Z0 (ZG (fun y:Zy=>ofB ms y.kind) D (ZaQ q.1.length D2) (!decide (ms=0))) (Zac q.1 mk (i:Int))).toNat (i:Int) (!decide (ms=0))))),F,⟨by omega,⟨by have h9:((i+1:Nat):Int)=(i:Int)+1:=ow;rw [h9];exact hb2,hwy2⟩⟩,G,by omega⟩
  have hno:¬ (0<(Z0 (ZG (fun y:Zy=>ofB ms y.kind) D (ZaQ q.1.length D2) (!decide (ms=0))) (Zac q.1 mk (i:Int)))∧(way = []∨(Z0 (ZG (fun y:Zy=>ofB ms y.kind) D (ZaQ q.1.length D2) (!decide (ms=0))) (Zac q.1 mk (i:Int)))<way.length)):=by have h9:=hc3;rintro ⟨h8,h7⟩;rw [Yac h8,Ya4,Ybi,YF] at h9;exact h7.elim hfk h9
  have hb2:=hst.1 hno
  have hwy2:=hwy
  refine Ye (Zi (Za (rZ G (qp r1 (qR rr qZ)) V [40,39,11,9,8,7,6,4,2] [104,103,0] fun G=>?_)))
  replace G:=G.ent (i:=40) (s':=.pv (.int .i64 ((i+1:Nat):Int))) Z (.int (Zd ow))
  replace G:=G.ent (i:=11) (s':=.pv (if way = [] then PV.is (.slice none 0 0) else PV.sl Zam way)) Z ((by rw [Yc hfk];exact Ent.refl))
  obtain ⟨F,G⟩:=G.nM [39,9,8,7,6,4,2,11,40] [103,0]
  exact ⟨((i+1),(way)),F,⟨by omega,⟨by have h9:((i+1:Nat):Int)=(i:Int)+1:=ow;rw [h9];exact hb2,hwy2⟩⟩,G,by omega⟩
 have hil:i=(ZR lf).length:=by simp at hc1;omega
 refine Yx (Zj (Zj (Zo (Za (Ya (Ya ?_))))))
 by_cases hfk:way = []
 ·rw [Yf hfk] at G
  refine rZ G (qR rr (qf (Zhn Ycl .t) r1 qz qZ)) V [73,11,8,7,6] [103,0] fun G=>?_
  refine Zc G Z (fun hc4=>?_) (fun hc4=>?_)
  ·have hgR:[] = R:=(Zj7 hE0 hq hil hR).1 hfk
   have hgE:(3:Int)=if R = [] then 3 else 0:=by rw [← hgR,Yf rfl]
   refine Ya (rZ G (qC (qI qZ)) V [11,8,7,6] [103,0] fun G=>(Yh (Zl ?_)))
   refine Zaa hfr G Z (.tmp Z (.tmp Z .nil)) (.two (.trans .nilSl (.sl hgR)) (.int hgE))
  simp at hc4
 rw [Yc hfk] at G
 refine rZ G (qR rr (qf (ZjK Ycl .t hfk) r1 qz qZ)) V [73,11,8,7,6] [103,0] fun G=>?_
 refine Zc G Z (fun hc5=>?_) (fun hc5=>?_)
 ·simp at hc5
 obtain ⟨hwr,hres⟩:=(Zj7 hE0 hq hil hR).2 hfk
 refine Ye (Za (Ya (rZ G (qC qZ) V [15,11,8,7,6] [103,0] fun G=>(Ya (Ya ?_)))))
 refine rZ G (qR rr (qu Ycl r1 (qJ qZ))) V [76,75,74,15,8,7,6] [103,0] fun G=>Yg ?_
 replace G:=G.fresh 51 rfl
 replace G:=G.turn 51 Z (ZaC (T:=42) (sz:=4) (R:=Zq))
 refine Zk (σ:=(Nat)×(Value)×(List Zg)) [6,7,8,74,75] [0,103] (fun s=>[(76,.pv (.int .i64 (s.1:Int))),(15,.pv (.is s.2.1))]) (fun s=>[(51,.ob (.val s.2.1) (Zx 42 4 Zq s.2.2))]) (fun s=>s.1≤way.length∧(s.2.2=(way.take s.1).map (Zju (ZR lf) (Z9 lf)))) (fun s=>way.length - s.1) ((0),(.slice none 0 0),([])) G ⟨rfl,rfl,rfl,rfl,rfl,rfl,rfl,tv⟩ ⟨rfl,rfl,rfl,tv⟩ ⟨Yw _,rfl⟩ ?_
 clear G;intro s a w F hC G
 obtain ⟨i,v,out⟩:=s
 try dsimp only at hC
 obtain ⟨F,G⟩:=G.nM [76,75,74,15,8,7,6] [103,51,0]
 try dsimp only at G
 obtain ⟨hi,hq⟩:=hC
 have hol:out.length=i:=by rw [hq,YH,Yi];omega
 refine Ya (rZ G (qL r2) V [77,76,75,74,15,8,7,6] [103,51,0] fun G=>Ya ?_)
 refine Zc G Z (fun hc6=>?_) (fun hc6=>?_)
 ·have hil:i<way.length:=by simp at hc6;omega
  refine Ye (Za (Ya (Yg (Ya (Zb G (qy 4 Ycl r2 (qf (oR true 4 .t) r1 qz (qf (oH [.int .i64 0,.int .i64 0,.int .i64 0,.int .i64 0] 105) trivial qz (qS 4 105 r2 r1 qZ)))) V [76,75,74,17,15,8,7,6] [105,103,51,0] (fun _=>rfl) (fun _=>rfl) fun τ a w F G=>?_)))))
  try dsimp only [RS.sub,SF.sub,CF.sub,csub,Anc.sub,List.map,Zf,xL,xM,Nat.reduceAdd,xD,xE,xT,xU,xC,xN,zCF,ldSF,Zn,Zq,Zam] at G
  generalize τ 17=v17 at G
  try simp only [Yb] at G
  refine Za (Zb G (qR rr (qe 2 103 r1 r1 (qe 4 105 r1 r1 (qf (oP (Ztp (ZR lf) (Z9 lf) (Nn way i) (hwr _ (nth_mem hil)).1 (hwr _ (nth_mem hil)).2.1 (hwr _ (nth_mem hil)).2.2) func131 (Args.two (.pagg .t) (.pagg .t))) r2 qz (qf (o_buildSliceE (sz:=4) (zs:=[.int .i64 0,.int .i64 0,.int .i64 0,.int .i64 0]) (r:=[(0,.tmp 83)]) (l:=[_,_,_,_]) Ycg kr kr kr kr Z Z (.agg Z (.conv .t .agg) kr kr .nil) Z) r1 qz (qf (ZV (sz:=4) (bs:=32) 51 (.mk' Ycg kr kr) (by intro x;rfl) .is (.arr (l':=[Zju (ZR lf) (Z9 lf) (Nn way i)]) .t) (by simp only [Yd,Yl,Yy,Yi,YE];omega) (by decide)) ⟨rfl,rfl,tv⟩ ⟨rfl,tv⟩ (qO rr qZ))))))) V [76,75,74,15,8,7,6] [105,103,51,0] (fun _=>rfl) (fun _=>rfl) fun τ a w F G=>?_)
  try dsimp only [RS.sub,SF.sub,CF.sub,csub,Anc.sub,List.map,Zf,xL,xM,Nat.reduceAdd,xD,xE,xT,xU,xC,xN,zCF,ldSF,Zn,Zq,Zam] at G
  generalize τ 85=v85 at G
  refine Zi (Za (rZ G (qp r1 (qR rr qZ)) V [76,75,74,15,8,7,6] [105,103,51,0] fun G=>?_))
  replace G:=G.ent (i:=76) (s':=.pv (.int .i64 ((i+1:Nat):Int))) Z (.int (Zd ow))
  obtain ⟨F,G⟩:=G.nM [75,74,8,7,6,15,76] [103,0,51]
  exact ⟨((i+1),_,_),F,⟨by omega,(by rw [Zp hil,YR,← hq];rfl)⟩,G,by omega⟩
 have hil:i=way.length:=by simp at hc6;omega
 have hgR:out=R:=by rw [hq,hil,YA];exact hres.1
 have hgE:(0:Int)=if R = [] then 3 else 0:=by rw [Yc hres.2]
 refine Yx (Zj (Zj (Zo (Za (Ya (rZ G (qR rr (qO rr (qI qZ))) V [7,6] [103,51,0] fun G=>Yh ?_))))))
 obtain ⟨F,G⟩:=G.give 51 6 Z rfl
 refine Zaa hfr G Z (.tmp Z (.tmp Z .nil)) (.two (.sl hgR) (.int hgE))
structure Zsi where
 phen:Int
 walk:List Zg
 read:Zqs
 deriving DecidableEq,Inhabited
def ZkS (w:Zsi):List PV:=[.int .i64 w.phen,.sl Zq w.walk,.int .i64 w.read.tx,.int .i64 w.read.place,.int .i64 w.read.vof.tx,.int .i64 w.read.vof.key,.int .i64 w.read.vof.nth]
def Zrz:Zqs:=⟨0,0,⟨0,0,0⟩⟩
def ZgI:Zsi:=⟨0,[],Zrz⟩
def Zu7 (p:Int) (R:List Zg):Zsi:=if R = [] then ZgI else ⟨p,R,Zrz⟩
def Zt4 (p:Int) (l:List Zqs):Zsi:=if l = [] then ZgI else ⟨p,[],Nn l 0⟩
def Zek (l:List Zg) (p:Int) (R:List Zg):Prop:=if (ZY p).1=0 then R = [] else
 (R = [] ∧ ∀ j w,¬ CwE (· ∈ l.filter (kindOk (ZY p).1)) (fun e=>ofB (ZY p).2 e.kind) (!decide ((ZY p).2=0)) j w)∨Zc8 (· ∈ l.filter (kindOk (ZY p).1)) (fun e=>ofB (ZY p).2 e.kind) (!decide ((ZY p).2=0)) R
theorem ZpC {p:Int} (h:(ZY p).1≠0):bits .and .i64 (ZY p).1 14=(ZY p).1∧bits .and .i64 (ZY p).2 14=(ZY p).2∧bits .andNot .i64 (ZY p).1 (ZY p).2≠bits .and .i64 (ZY p).1 (ZY p).2 ∧
  (∀ k,1≤k→k≤3→ofB (bits .andNot .i64 (ZY p).1 (ZY p).2) k=(ofB (ZY p).1 k && !ofB (ZY p).2 k)) ∧ ∀ k,1≤k→k≤3→ofB (bits .and .i64 (ZY p).1 (ZY p).2) k=(ofB (ZY p).1 k && ofB (ZY p).2 k):=by
 have key:∀ a b:Int,(a=2∧b=0)∨(a=6∧b=0)∨(a=14∧b=8)→bits .and .i64 a 14=a∧bits .and .i64 b 14=b∧bits .andNot .i64 a b≠bits .and .i64 a b∧(∀ k,1≤k→k≤3→ofB (bits .andNot .i64 a b) k=(ofB a k && !ofB b k)) ∧ ∀ k,1≤k→k≤3→ofB (bits .and .i64 a b) k=(ofB a k && ofB b k):=by
  rintro a b (⟨rfl,rfl⟩ | ⟨rfl,rfl⟩ | ⟨rfl,rfl⟩) <;> refine ⟨by decide +kernel,by decide +kernel,by decide +kernel,fun k h1 h2=>?_,fun k h1 h2=>?_⟩ <;> (rcases (show k=1∨k=2∨k=3 by omega) with rfl | rfl | rfl <;> decide +kernel)
 refine key _ _ ?_
 unfold ZY at h ⊢
 by_cases h1:p=1
 ·subst h1;exact .inl ⟨rfl,rfl⟩
 ·by_cases h4:p=4
  ·subst h4;exact .inr (.inl ⟨rfl,rfl⟩)
  ·by_cases h5:p=5
   ·subst h5;exact .inr (.inr ⟨rfl,rfl⟩)
   ·rw [Yc h1,Yc h4,Yc h5] at h;exact absurd rfl h
theorem ZtV (l:List Zg) (p:Int) (hl:l.length≤100000) (hN:(ZY p).1≠0→(ZR (l.filter (kindOk (ZY p).1))).length≤4096) (R:List Zg) (hR:Zek l p R):FnP prog 36 [.sl Zq l,.int .i64 p] (.tup [.agg (ZkS (Zu7 p R)),.bool (decide (R≠[]))]):=by
 refine FnP.mk func36 Z ntmps36 Z fun B a w F V hfr G=>Ya ?_
 refine Zb G (qf (oH [.int .i64 0,.slice none 0 0,.int .i64 0,.int .i64 0,.int .i64 0,.int .i64 0,.int .i64 0] 101) trivial qz qB) V [5,4,1,0] [101,0] (fun _=>rfl) (fun _=>rfl) fun τ a w F G=>?_
 try dsimp only [RS.sub,SF.sub,CF.sub,csub,Anc.sub,List.map,zCF,Zq] at G
 generalize τ 4=v4 at G
 refine Za (Ya (rZ G (qR rr (qf (oP (Zky p) func68 (Args.one .t)) r1 qz (qR rr (qf (Zh .t Z) r1 qz (qf (Zh .t Z) r1 qz (qO rr (qO rr qZ))))))) V [7,6,5,4,1,0] [101,0] fun G=>(Ya (Ya ?_))))
 refine rZ G (qR rr (qf (o_eql .t qi) r1 qz qZ)) V [16,7,6,5,4,1,0] [101,0] fun G=>?_
 refine Zc G Z (fun hc0=>?_) (fun hc0=>?_)
 ·have hm0:(ZY p).1=0:=Yr hc0
  have hR2:R = []:=by unfold Zek at hR;rw [Yf hm0] at hR;exact hR
  have hw:Zu7 p R=ZgI:=Yf hR2
  have hok:false=decide (R≠[]):=by rw [hR2];rfl
  refine Ya (rZ G (qf (oB [] [.int .i64 0,.slice none 0 0,.int .i64 0,.int .i64 0,.int .i64 0,.int .i64 0,.int .i64 0] [(0,1),(1,1),(2,5)] .nil) trivial qz (qs 7 101 r2 r1 qB)) V [7,6,5,4,1,0] [101,0] fun G=>(Yh (Zl ?_)))
  refine Zaa hfr G Z (.cl 101 true 7 Z Z (.tmp Z .nil)) (.two (.aggLe Z (by rw [hw];exact ⟨.refl,.nilSl,.refl,.refl,.refl,.refl,.refl,tv⟩)) (.bool hok))
 have hm0:(ZY p).1≠0:=YL hc0
 obtain ⟨hk1,hk2,hk3,hk4,hk5⟩:=ZpC hm0
 have hn0:=hN hm0
 have hR2:=hR
 unfold Zek at hR2
 rw [Yc hm0] at hR2
 refine Ye (Za (Ya (rZ G (qR rr (qR rr (qR rr (qf (oP (Znj l _ (ZY p).1 (ZY p).2 (ZY p).1 (ZY p).2 _ _ hk1 hk2 Z Z hk3 hk4 hk5 hl Z hn0 R hR2) func76 (Args.three .t .t .t)) r3 qz (qR rr (qf (Zh .t Z) r1 qz (qf (Zh .t Z) r1 qz (qO rr (qO rr qZ))))))))) V [9,8,5,4,1] [101,0] fun G=>(Ya (Ya ?_)))))
 refine rZ G (qR rr (qf (o_neq .t qi) r1 qz qZ)) V [26,8,5,4,1] [101,0] fun G=>?_
 refine Zc G Z (fun hc1=>?_) (fun hc1=>?_)
 ·have hr0:R = []:=Ybz fun k=>(by have h9:=hc1;rw [Yc k] at h9;simp at h9)
  have hw:Zu7 p R=ZgI:=Yf hr0
  have hok:false=decide (R≠[]):=by rw [hr0];rfl
  refine Ya (rZ G (qf (oB [] [.int .i64 0,.slice none 0 0,.int .i64 0,.int .i64 0,.int .i64 0,.int .i64 0,.int .i64 0] [(0,1),(1,1),(2,5)] .nil) trivial qz (qs 7 101 r2 r1 qB)) V [8,5,4,1] [101,0] fun G=>(Yh (Zl ?_)))
  refine Zaa hfr G Z (.cl 101 true 7 Z Z (.tmp Z .nil)) (.two (.aggLe Z (by rw [hw];exact ⟨.refl,.nilSl,.refl,.refl,.refl,.refl,.refl,tv⟩)) (.bool hok))
 have hr0:R≠[]:=fun k=>(by have h9:=hc1;rw [Yf k] at h9;simp at h9)
 have hw:Zu7 p R = ⟨p,R,Zrz⟩:=Yc hr0
 have hok:true=decide (R≠[]):=(Yac hr0).symm
 refine Ye (Za (Ya (rZ G (qR rr (qR rr (qf (oB [(0,.tmp 28),(1,.tmp 29)] [.int .i64 0,.slice none 0 0,.int .i64 0,.int .i64 0,.int .i64 0,.int .i64 0,.int .i64 0] [(0,1),(1,1),(2,5)] (.one Z .t one_int kr (.one Z .t one_sl kr .nil))) r2 qz (qs 7 101 r2 r1 qB)))) V [5,4] [101,0] fun G=>Yh ?_)))
 refine Zaa hfr G Z (.cl 101 true 7 Z Z (.tmp Z .nil)) (.two (.aggU Z (by rw [hw] <;> rfl)) (.bool hok))
theorem Zo4 (g:Zr) (p:Int) (hsm:Za9 g):FnP prog 35 [.agg (Zv g),.int .i64 p] (.tup [.agg (ZkS (Zt4 p (ZaP g p fun _=>true))),.bool (decide ((ZaP g p fun _=>true)≠[]))]):=by
 refine FnP.mk func35 Z ntmps35 Z fun B a w F V hfr G=>Ya ?_
 refine Zb G (qx 101 r1 (qf (oH [.int .i64 0,.slice none 0 0,.int .i64 0,.int .i64 0,.int .i64 0,.int .i64 0,.int .i64 0] 102) trivial qz qB)) V [5,4,2,1] [102,101,0] (fun _=>rfl) (fun _=>rfl) fun τ a w F G=>?_
 try dsimp only [RS.sub,SF.sub,CF.sub,csub,Anc.sub,List.map,zCF,Zv,rTx,ZH,ZU,Zn,rOp,ZiC] at G
 generalize τ 2=v2,τ 4=v4 at G
 refine Za (Ya (rZ G (qe 2 101 r1 r1 (qR rr (qf (oP (Zwi g p hsm) func67 (Args.two (.pagg .t) .t)) r2 qz (qO rr qZ)))) V [6,5,4,1] [102,101,0] fun G=>(Ya (Ya ?_))))
 refine rZ G (qR rr (qu Ycz r1 (qf (o_eql .t qi) r1 qz qZ))) V [12,6,5,4,1] [102,101,0] fun G=>?_
 refine Zc G Z (fun hc0=>?_) (fun hc0=>?_)
 ·have hr0:(ZaP g p fun _=>true) = []:=YP (by have h9:=Yr hc0;omega)
  have hw:Zt4 p (ZaP g p fun _=>true)=ZgI:=Yf hr0
  have hok:false=decide ((ZaP g p fun _=>true)≠[]):=by rw [hr0];rfl
  refine Ya (rZ G (qf (oB [] [.int .i64 0,.slice none 0 0,.int .i64 0,.int .i64 0,.int .i64 0,.int .i64 0,.int .i64 0] [(0,1),(1,1),(2,5)] .nil) trivial qz (qs 7 102 r2 r1 qB)) V [6,5,4,1] [102,101,0] fun G=>(Yh (Zl ?_)))
  refine Zaa hfr G Z (.cl 102 true 7 Z Z (.tmp Z .nil)) (.two (.aggLe Z (by rw [hw];exact ⟨.refl,.nilSl,.refl,.refl,.refl,.refl,.refl,tv⟩)) (.bool hok))
 have hne:(ZaP g p fun _=>true)≠[]:=fun k=>(by have h9:=YL hc0;rw [k] at h9;simp at h9)
 have hw:Zt4 p (ZaP g p fun _=>true) = ⟨p,[],Nn (ZaP g p fun _=>true) 0⟩:=Yc hne
 have hok:true=decide ((ZaP g p fun _=>true)≠[]):=(Yac hne).symm
 refine Ye (Za (Ya (Ze G (qR rr (qR rr (qf (o_indexAddr_sl (sz:=5) (.mk Ycz kr) (by intro x;rfl) .t qi (by decide) (by have:=YaB.2 hne;omega)) r1 qz (qf (oR true 5 .t) r1 qz (qf (oB [(0,.tmp 14),(2,.tmp 17)] [.int .i64 0,.slice none 0 0,.int .i64 0,.int .i64 0,.int .i64 0,.int .i64 0,.int .i64 0] [(0,1),(1,1),(2,5)] (.one Z .t one_int kr (.agg Z .t kr kr .nil))) r2 qz (qs 7 102 r2 r1 qB)))))) V [5,4] [102,101,0] Z Z fun a w F G=>?_)))
 try simp only [Yb] at G
 refine Za (Yh (Zaa hfr G Z (.cl 102 true 7 Z Z (.tmp Z .nil)) (.two (.aggLe Z (by rw [hw];exact ⟨.refl,.nilSl,.refl,.refl,.refl,.refl,.refl,tv⟩)) (.bool hok))))
theorem Zm5 {g:Zr} (hs:Za9 g) (mask:Int):(ZR ((Zab g).filter (kindOk mask))).length≤4096:=by
 by_cases hg:ZS g
 ·have h1:(ZR ((Zab g).filter (kindOk mask))).length≤(g.txs.map TxD.id).length:=List.Nodup.length_le_of_subset ((ZW _).1.imp fun h=>Int.ne_of_lt h) fun x hx=>by
   obtain ⟨e,he,hx⟩:=Zaq.1 hx
   obtain ⟨h3,h4⟩:=Zl8 hg ((Zep hg).1 (YU.1 he).1)
   rcases hx with rfl | rfl
   ·obtain ⟨t,h5,h6,_⟩:=h3;exact Yu.2 ⟨t,h5,h6⟩
   ·obtain ⟨t,h5,h6,_⟩:=h4;exact Yu.2 ⟨t,h5,h6⟩
  have h2:=hs.1.1
  rw [YH] at h1;omega
 ·rw [ZlP hg];exact Yw _
def ZpU (g:Zr) (p:Int) (R:List Zg):Zsi:=if p=2∨p=3 then Zt4 p (ZaP g p fun _=>true) else Zu7 p R
def okH (g:Zr) (p:Int) (R:List Zg):Bool:=if p=2∨p=3 then decide ((ZaP g p fun _=>true)≠[]) else decide (R≠[])
theorem Zun (g:Zr) (hsm:Za9 g) (hAR:(wwC PT1 g).length+(rdC PT1 g).length≤100000) (p:Int) (R:List Zg) (hR:Zek (Zab g) p R):FnP prog 12 [.agg (Zv g),.int .i64 p] (.tup [.agg (ZkS (ZpU g p R)),.bool (okH g p R)]):=by
 refine FnP.mk func12 Z ntmps12 Z fun B a w F V hfr G=>?_
 have hel:=Zhy (A:=wwC PT1 g) (R:=rdC PT1 g)
 have hkl:=Zgr (ZgM (wwC PT1 g) (rdC PT1 g))
 have hal:(ZgM (wwC PT1 g) (rdC PT1 g)).length≤100000:=by unfold ZgM;rw [Yd,YH];exact hAR
 have hpl:(Zab g).length≤100000:=by unfold Zab;rw [YH];omega
 obtain ⟨rb,hrb⟩:=Zpw (Ze3 (Zab g) (ZY p).1 (ZY p).2)
 refine Ya (Zb G (qx 101 r1 (qf (oH [.int .i64 0,.slice none 0 0,.int .i64 0,.int .i64 0,.int .i64 0,.int .i64 0,.int .i64 0] 102) trivial qz qB)) V [5,4,2,1] [102,101,0] (fun _=>rfl) (fun _=>rfl) fun τ a w F G=>?_)
 try dsimp only [RS.sub,SF.sub,CF.sub,csub,Anc.sub,List.map,zCF,Zv,rTx,ZH,ZU,Zn,rOp,ZiC,rHv,Zq] at G
 generalize τ 2=v2,τ 4=v4 at G
 refine Za (Ya (Ya (rZ G (qR rr qZ) V [6,5,4,2,1] [102,101,0] fun G=>(Yg (Ya (Ya ?_))))))
 refine rZ G (qf (o_eql .t qi) r1 qz (qO rr qZ)) V [7,6,5,4,2,1] [102,101,0] fun G=>?_
 refine Zc G Z (fun hc0=>?_) (fun hc0=>?_)
 ·have h23:(p=2∨p=3):=(by have h9:=hc0;simp at h9;omega)
  have hw:ZpU g p R=Zt4 p (ZaP g p fun _=>true):=Yf h23
  have hok:decide ((ZaP g p fun _=>true)≠[])=okH g p R:=(Yf h23).symm
  refine Ye (Za (Zc G Z (fun hc1=>?_) (fun hc1=>?_)))
  ·have h23:(p=2∨p=3):=(by have h9:=hc1;simp at h9;omega)
   have hw:ZpU g p R=Zt4 p (ZaP g p fun _=>true):=Yf h23
   have hok:decide ((ZaP g p fun _=>true)≠[])=okH g p R:=(Yf h23).symm
   refine Ya (rZ G (qe 2 101 r1 r1 (qR rr (qf (oP (Zo4 g p hsm) func35 (Args.two (.pagg .t) .t)) r2 qz (qf (Zh .t Z) r1 qz (qf (Zh .t Z) r1 qz (qf (oA 7 102 .is (.conv .t .agg)) r2 r1 (qO rr qZ))))))) V [5,4,2,1] [102,101,0] fun G=>(Yh (Zz (Zl ?_))))
   refine Zaa hfr G Z (.cl 102 true 7 Z Z (.tmp Z .nil)) (.two (.aggU Z (by rw [hw] <;> rfl)) (.bool hok))
  exact Bool.noConfusion (hc0.symm.trans hc1)
 refine rZ G (qf (o_eql .t qi) r1 qz (qO rr qZ)) V [7,5,4,2,1] [102,101,0] fun G=>?_
 refine Zc G Z (fun hc2=>?_) (fun hc2=>?_)
 ·have h23:(p=2∨p=3):=(by have h9:=hc2;simp at h9;omega)
  have hw:ZpU g p R=Zt4 p (ZaP g p fun _=>true):=Yf h23
  have hok:decide ((ZaP g p fun _=>true)≠[])=okH g p R:=(Yf h23).symm
  refine Ya (rZ G (qe 2 101 r1 r1 (qR rr (qf (oP (Zo4 g p hsm) func35 (Args.two (.pagg .t) .t)) r2 qz (qf (Zh .t Z) r1 qz (qf (Zh .t Z) r1 qz (qf (oA 7 102 .is (.conv .t .agg)) r2 r1 (qO rr qZ))))))) V [5,4,2,1] [102,101,0] fun G=>(Yh (Zz (Zl ?_))))
  refine Zaa hfr G Z (.cl 102 true 7 Z Z (.tmp Z .nil)) (.two (.aggU Z (by rw [hw] <;> rfl)) (.bool hok))
 have hn23:¬ (p=2∨p=3):=by rintro (h9 | h9);exact YL hc0 h9;exact YL hc2 h9
 have hw:ZpU g p R=Zu7 p R:=Yc hn23
 have hok:decide (R≠[])=okH g p R:=(Yc hn23).symm
 refine Ye (Zi (Za (Ya (rZ G (qe 2 101 r1 r1 (qf (oP (Zol g hsm (Y4 hAR (by decide))) func38 (Args.one (.pagg .t))) r1 qz (qf (oP (ZpH _ (by have h9:=hpl;unfold Zab at h9;rw [YH] at h9;exact Y4 h9 (by decide))) func37 (Args.one .t)) r1 qz (qR rr (qf (oP (ZtV (Zab g) p hpl (fun _=>Zm5 hsm _) R hR) func36 (Args.two .t .t)) r2 qz (qf (Zh .t Z) r1 qz (qf (Zh .t Z) r1 qz (qf (oA 7 102 .is (.conv .t .agg)) r2 r1 (qO rr qZ))))))))) V [5,4] [102,101,0] fun G=>Yh ?_))))
 refine Zaa hfr G Z (.cl 102 true 7 Z Z (.tmp Z .nil)) (.two (.aggU Z (by rw [hw] <;> rfl)) (.bool hok))
theorem Zqo (x y:List Zg):FnP prog 94 [.sl Zq x,.sl Zq y] (.bool (decide (x=y))):=by
 refine FnP.mk func94 Z ntmps94 Z fun B a w F V hfr G=>?_
 have hxl:=Sat.lenSl G (i:=0) rfl
 refine Ya (rZ G qB V [4,1,0] [0] fun G=>(Ya (Ya ?_)))
 refine rZ G (qR rr (qu Ycg r1 (qR rr (qu Ycg r1 (qf (o_neq .t .t) r2 qz qZ))))) V [10,4,1,0] [0] fun G=>?_
 refine Zc G Z (fun hc0=>?_) (fun hc0=>?_)
 ·have hg:false=decide (x=y):=by
    rw [Yaj,YF]
    intro h
    subst h
    simp at hc0
  refine Ya (rZ G qB V [4,1,0] [0] fun G=>(Yh (Zl ?_)))
  refine Zs hfr G Z Z Z (.bool hg)
 have hl:x.length=y.length:=by simp at hc0;omega
 refine Ye (Za (Ya (Ya (rZ G (qR rr (qu Ycg r1 (qJ qZ))) V [13,12,4,1,0] [0] fun G=>Yg ?_))))
 obtain ⟨F,G⟩:=G.nM [13,12,1,0] [0]
 refine Zbf (σ:=Nat) (fun s=>(⟨[(0,.pv (.sl Zq x)),(1,.pv (.sl Zq y)),(12,.pv (.int .i64 x.length)),(13,.pv (.int .i64 s))],[(0,frame B)]⟩:En)) (fun s=>s≤x.length ∧ ∀ j,j<s→Nn x j=Nn y j) (fun s=>x.length - s) 0 G ⟨Yw _,fun j hj=>absurd hj (Y3 j)⟩ ?_
 clear G;intro i a w F hC G
 try dsimp only at hC
 try dsimp only at G
 obtain ⟨hi,hq⟩:=hC
 refine Ya (rZ G (qL r2) V [14,13,12,1,0] [0] fun G=>Ya ?_)
 refine Zc G Z (fun hc1=>?_) (fun hc1=>?_)
 ·have hil:i<x.length:=by simp at hc1;omega
  refine Ye (Za (Ya (Yg (Ya (rZ G (qR rr (qO rr qZ)) V [13,12,5,1,0] [0] fun G=>Ya ?_)))))
  refine Zw G (qR rr (qR rr (qy 4 Ycg r2 (qf (oR true 4 .t) r1 qz (qR rr (qR rr (qy 4 Ycg r2 (qf (oR true 4 .t) r1 qz (qf (o_neqS (ks:=[true,true,true,true]) kr .t .t (.int (.int (.int (.int .nil))))) r2 qz qZ))))))))) V [24,13,12,1,0] [0] Z Z fun a w F G=>?_
  try dsimp only [List.map,xD,xE,xT,xU,ldSF] at G
  refine Za (Zc G Z (fun hc2=>?_) (fun hc2=>?_))
  ·have hg:false=decide (x=y):=by
     rw [Yaj,YF]
     intro h
     subst h
     simp at hc2
   refine Ya (rZ G qB V [13,12,4,1,0] [0] fun G=>(Yh (Zz (Zl (Zl (Zz (Zl ?_)))))))
   refine Zs hfr G Z Z Z (.bool hg)
  rw [Yb] at hc2
  have hqi:Nn x i=Nn y i:=by simp only [ZvT] at hc2;simpa using hc2
  refine Ye (Zi (Za (rZ G (qp r1 (qR rr qZ)) V [13,12,1,0] [0] fun G=>?_)))
  replace G:=G.ent (i:=13) (s':=.pv (.int .i64 ((i+1:Nat):Int))) Z (.int (Zd ow))
  obtain ⟨F,G⟩:=G.nM [13,12,1,0] [0]
  exact ⟨i+1,F,⟨by omega,fun j hj=>by rcases YX (Y6 hj) with h | h;exact hq j h;rw [h];exact hqi⟩,G,by omega⟩
 have hg:true=decide (x=y):=by
   rw [Yaj,Yq]
   exact ZaU hl fun j hj=>hq j (by simp at hc1;omega)
 refine Yx (Zj (Zj (Zo (Za (Ya (rZ G qB V [4] [0] fun G=>Yh ?_))))))
 refine Zs hfr G Z Z Z (.bool hg)
theorem ZmM (x y:List Zg):FnP prog 48 [.sl Zq x,.sl Zq y] (.bool (decide (x=y))):=by
 refine FnP.mk func48 Z ntmps48 Z fun B a w F V hfr G=>Ya ?_
 refine rZ G qB V [4,1,0] [0] fun G=>Ya ?_
 refine rZ G (qR rr (qR rr (qf (oP (Zqo x y) func94 (Args.two .t .t)) r2 qz (qO rr qZ)))) V [4] [0] fun G=>Yh ?_
 refine Zs hfr G Z Z Z .refl
theorem Zrj (x y:Zsi):(((decide (x.phen=y.phen)) && decide (x.read=y.read)) && decide (x.walk=y.walk))=decide (x=y):=by
 obtain ⟨a,b,c⟩:=x
 obtain ⟨d,e,f⟩:=y
 rw [Yai]
 simp only [Yt,Yq,Zsi.mk.injEq]
 constructor
 ·rintro ⟨⟨h1,h2⟩,h3⟩;exact ⟨h1,h3,h2⟩
 ·rintro ⟨h1,h2,h3⟩;exact ⟨⟨h1,h3⟩,h2⟩
theorem Zt0 (x y:Zsi):FnP prog 22 [.agg (ZkS x),.agg (ZkS y)] (.bool (decide (x=y))):=by
 refine FnP.mk func22 Z ntmps22 Z fun B a w F V hfr G=>Ya ?_
 refine Zb G (qx 101 r1 (qx 102 r1 qB)) V [4,3,2] [102,101,0] (fun _=>rfl) (fun _=>rfl) fun τ a w F G=>?_
 try dsimp only [RS.sub,SF.sub,CF.sub,csub,Anc.sub,List.map,zCF,Zq,ZkS] at G
 generalize τ 2=v2,τ 3=v3 at G
 refine Za (Ya (rZ G (qg 0 101 r1 r1 (qa 101 r1 r1 (qg 0 102 r1 r1 (qa 102 r1 r1 (qf (o_eql .t .t) r2 qz (qR rr (qv 2 101 Z r2 r1 (qk Z (fun h=>oL true 5 101 (.w h .adr)) r2 r1 (qv 2 102 Z r2 r1 (qk Z (fun h=>oL true 5 102 (.w h .adr)) r2 r1 (qk Z (fun h=>ZvF (ks:=[true,true,true,true,true]) kr (.w h) (.w h) (.int (.int (.int (.int (.int .nil)))))) r3 qz (qf (ZE .t .t) r2 qz (qR rr (qv 1 101 Z r2 r1 (qw 101 Z r2 r1 (qv 1 102 Z r2 r1 (qw 102 Z r2 r1 (qk Z (fun h=>oP (ZmM x.walk y.walk) func48 (Args.two (.w h) (.w h))) r3 qz (qf (ZE .t .t) r2 qz (qO rr qZ)))))))))))))))))))) V [4] [0] fun G=>Yh ?_))
 refine Zs hfr G Z Z Z (.bool (by rw [← Zrj];exact Y8 (fun b=>(decide (x.phen=y.phen) && b) && decide (x.walk=y.walk)) (ZtO Z)))
def ZjS (k:Int):List UInt8:=if k=1 then [119,119] else if k=2 then [119,114] else if k=3 then [114,119] else [120]
def ZwD (k:Int):Int:=IntKind.wrap .i64 (1*2 ^ min (IntKind.wrap .u64 k).toNat (IntKind.bits .i64))
def Zjg (l:List Zg):Int:=l.foldl (fun n e=>if 1≤e.kind∧e.kind≤3 then bits .or .i64 n (ZwD e.kind) else n) 0
theorem Zho {l:List Zg} {i:Nat} (h:i<l.length):Zjg (l.take (i+1))=if 1≤(Nn l i).kind∧(Nn l i).kind≤3 then bits .or .i64 (Zjg (l.take i)) (ZwD (Nn l i).kind) else Zjg (l.take i):=by
 rw [Zp h];unfold Zjg;rw [Yat];rfl
def ZkX (g:Zr) (id:Int):Bool:=(Z3 g.txs id).isSome && ((Z3 g.txs id).getD zeroT).done
def ZeQ (g:Zr) (v:ZbS):Bool:=decide (v.tx=0) || (ZkX g v.tx && decide (v.nth=((((Z3 g.txs v.tx).getD zeroT).ops.filter fun o=>!o.read && decide (o.key=v.key)).length:Nat)))
def Zks (g:Zr) (key u x:Int):Bool:=(ZdV (getO g.orders key) u).2 && decide ((ZdV (getO g.orders key) u).1=x)
theorem Zh1 {g:Zr} (hs:ZaX g.txs) (id:Int):((Z3 g.txs id).getD zeroT).ops.length≤1000000:=by
 cases hf:Z3 g.txs id with
 | none=>simp [zeroT]
 | some t=>exact Y4 (hs.2 _ (findT_mem hf).1) (by decide)
theorem Zp2 (k:Int):FnP prog 74 [.int .i64 k] (.bs (ZjS k)):=by
 refine FnP.mk func74 Z ntmps74 Z fun B a w F V hfr G=>Ya ?_
 refine rZ G (qf (oN (.cs kr)) trivial qz qZ) V [2,0] [0] fun G=>(Ya (Ya ?_))
 refine rZ G (qR rr qZ) V [3,2] [0] fun G=>(Yg (Ya ?_))
 refine rZ G (qf (o_eql .t qi) r1 qz (qO rr qZ)) V [4,3,2] [0] fun G=>?_
 refine Zc G Z (fun hc0=>?_) (fun hc0=>?_)
 ·refine Ya (rZ G (qf (oN (.cs kr)) trivial qz qZ) V [2] [0] fun G=>(Yh (Zz (Zl ?_))))
  refine Zs hfr G Z Z Z (.bs (by unfold ZjS;simp_all))
 refine Ya (rZ G (qf (o_eql .t qi) r1 qz (qO rr qZ)) V [6,3,2] [0] fun G=>?_)
 refine Zc G Z (fun hc1=>?_) (fun hc1=>?_)
 ·refine Ya (rZ G (qf (oN (.cs kr)) trivial qz qZ) V [2] [0] fun G=>(Yh (Zz (Zl ?_))))
  refine Zs hfr G Z Z Z (.bs (by unfold ZjS;simp_all))
 refine Ya (rZ G (qf (o_eql .t qi) r1 qz (qO rr qZ)) V [8,2] [0] fun G=>?_)
 refine Zc G Z (fun hc2=>?_) (fun hc2=>?_)
 ·refine Ya (rZ G (qf (oN (.cs kr)) trivial qz qZ) V [2] [0] fun G=>(Yh (Zz (Zl ?_))))
  refine Zs hfr G Z Z Z (.bs (by unfold ZjS;simp_all))
 refine Ye (Zi (Za (Ya (rZ G (qf (oN (.cs kr)) trivial qz qZ) V [2] [0] fun G=>Yh ?_))))
 refine Zs hfr G Z Z Z (.bs (by unfold ZjS;simp_all))
theorem Ztt (l:List Zg) (hl:l.length≤1000000):FnP prog 71 [.sl Zq l] (.int .i64 (Zjg l)):=by
 refine FnP.mk func71 Z ntmps71 Z fun B a w F V hfr G=>Ya ?_
 refine rZ G (qI qZ) V [2,0] [0] fun G=>Ya ?_
 refine rZ G (qI qZ) V [3,2,0] [0] fun G=>(Ya (Ya ?_))
 refine rZ G (qR rr (qu Ycg r1 (qJ qZ))) V [8,7,6,3,2] [0] fun G=>Yg ?_
 refine Zk (σ:=(Nat)) [2,6,7] [0] (fun s=>[(8,.pv (.int .i64 (s:Int))),(3,.pv (.int .i64 (Zjg (l.take s))))]) (fun s=>[]) (fun s=>s≤l.length∧(True)) (fun s=>l.length - s) (0) G ⟨rfl,rfl,rfl,rfl,rfl,tv⟩ ⟨rfl,tv⟩ ⟨Yw _,tv⟩ ?_
 clear G;intro i a w F hC G
 try dsimp only at hC
 obtain ⟨F,G⟩:=G.nM [8,7,6,3,2] [0]
 try dsimp only at G
 obtain ⟨hi,hq⟩:=hC
 refine Ya (rZ G (qL r2) V [9,8,7,6,3,2] [0] fun G=>Ya ?_)
 refine Zc G Z (fun hc0=>?_) (fun hc0=>?_)
 ·have hil:i<l.length:=by simp at hc0;omega
  refine Ye (Za (Ya (Yg (Ya (Zb G (qy 4 Ycg r2 (qf (oR true 4 .t) r1 qz (qf (oH [.int .i64 0,.int .i64 0,.int .i64 0,.int .i64 0] 101) trivial qz (qS 4 101 r2 r1 qZ)))) V [8,7,6,5,3,2] [101,0] (fun _=>rfl) (fun _=>rfl) fun τ a w F G=>?_)))))
  try dsimp only [RS.sub,SF.sub,CF.sub,csub,Anc.sub,List.map,Zf,xL,xM,Nat.reduceAdd,xD,xE,xT,xU,xC,xN,zCF,ldSF,Zq] at G
  generalize τ 5=v5 at G
  try simp only [Yb] at G
  refine Za (Ya (rZ G (qg 2 101 r1 r1 (qa 101 r1 r1 (qf (Zbs .t qi) r1 qz (qR rr (qv 2 101 Z r2 r1 (qw 101 Z r2 r1 (qk Z (fun h=>Zkk (.w h) qi) r2 qz (qf (ZE .t .t) r2 qz qZ)))))))) V [19,8,7,6,5,3,2] [101,0] fun G=>?_))
  refine Zc G Z (fun hc1=>?_) (fun hc1=>?_)
  ·have hyn:1≤(Nn l i).kind∧(Nn l i).kind≤3:=by simpa using hc1
   refine Ze G (qR rr (qg 2 101 r1 r1 (qa 101 r1 r1 (qf (o_conv Ycm kr .t) r1 qz (qf (o_shl qi .t  (by rw [Zaj];omega)) r1 qz (qf (Zs8 .t .t) r2 qz (qO rr qZ))))))) V [8,7,6,3,2] [0] Z Z fun a w F G=>Zi (Za ?_)
   refine rZ G (qp r1 (qR rr qZ)) V [8,7,6,3,2] [0] fun G=>?_
   replace G:=G.ent (i:=8) (s':=.pv (.int .i64 ((i+1:Nat):Int))) Z (.int (Zd ow))
   replace G:=G.ent (i:=3) (s':=.pv (.int .i64 (Zjg (l.take (i+1))))) Z (.int (by rw [Zho hil,Yf hyn];rfl))
   obtain ⟨F,G⟩:=G.nM [7,6,2,3,8] [0]
   exact ⟨(i+1),F,⟨by omega,tv⟩,G,by omega⟩
  have hyn:¬ (1≤(Nn l i).kind∧(Nn l i).kind≤3):=by have h9:=hc1;simp at h9;omega
  refine Ye (Zi (Za (rZ G (qp r1 (qR rr qZ)) V [8,7,6,3,2] [0] fun G=>?_)))
  replace G:=G.ent (i:=8) (s':=.pv (.int .i64 ((i+1:Nat):Int))) Z (.int (Zd ow))
  replace G:=G.ent (i:=3) (s':=.pv (.int .i64 (Zjg (l.take (i+1))))) Z (.int (by rw [Zho hil,Yc hyn]))
  obtain ⟨F,G⟩:=G.nM [7,6,2,3,8] [0]
  exact ⟨(i+1),F,⟨by omega,tv⟩,G,by omega⟩
 have hil:i=l.length:=by simp at hc0;omega
 refine Yx (Zj (Zj (Zo (Za (Ya (rZ G (qR rr (qO rr qZ)) V [2] [0] fun G=>Yh ?_))))))
 refine Zs hfr G Z Z Z (.int (by rw [hil,YA]))
theorem Zkp (g:Zr) (id:Int) (hs:ZaX g.txs):FnP prog 80 [.agg (Zv g),.int .i64 id] (.tup [.agg (rTx ((Z3 g.txs id).getD zeroT)),.bool (ZkX g id)]):=by
 refine FnP.mk func80 Z ntmps80 Z fun B a w F V hfr G=>Ya ?_
 refine Zb G (qx 101 r1 (qf (oH [.int .i64 0,.bool false,.slice none 0 0] 102) trivial qz qB)) V [5,4,2,1] [102,101,0] (fun _=>rfl) (fun _=>rfl) fun τ a w F G=>?_
 try dsimp only [RS.sub,SF.sub,CF.sub,csub,Anc.sub,List.map,zCF,Zv,rTx,ZH,ZU,Zn,rOp] at G
 generalize τ 2=v2,τ 4=v4 at G
 refine Za (Ya (Zb G (qg 0 101 r1 r1 (qf (oL true 2 101 .adr) r1 r1 (qR rr (qf (oP (Zs6 g id hs) func28 (Args.two (.pagg .t) .t)) r2 qz (qR rr (qf (Zh .t Z) r1 qz (qf (Zh .t Z) r1 qz (qf (oH [.int .i64 0,.bool false,.slice none 0 0] 103) trivial qz (qf (oA 3 103 .same (.conv .t .agg)) r2 r1 (qO rr qZ)))))))))) V [7,6,5,4] [103,102,101,0] (fun _=>rfl) (fun _=>rfl) fun τ a w F G=>?_))
 try dsimp only [RS.sub,SF.sub,CF.sub,csub,Anc.sub,List.map,Zf,xL,xM,Nat.reduceAdd,xD,xE,xT,xU,xC,xN,zCF,ldSF,Zv,rTx,ZH,ZU,Zn,rOp] at G
 generalize τ 6=v6 at G
 refine Za (Ya (Zw G (qe 3 103 r1 r1 (qR rr (qR rr (qv 1 103 Z r2 r1 (qw 103 Z r2 r1 (qf (ZE .t .t) r2 qz (qs 3 102 r2 r1 (qO rr qZ)))))))) V [5,4] [103,102,101,0] Z Z fun a w F G=>?_))
 try dsimp only [List.map,Zf,xL,xM,Nat.reduceAdd,xD,xE,xT,xU,xC,xN,zCF,ldSF,Zv,rTx,ZH,ZU,Zn,rOp] at G
 refine Za (Yh (Zaa hfr G Z (.cl 102 true 3 Z Z (.tmp Z .nil)) (.two (.aggU Z Z) (.bool Z))))
theorem ZpM (g:Zr) (v:ZbS) (hs:ZaX g.txs):FnP prog 84 [.agg (Zv g),.agg (ZU v)] (.bool (ZeQ g v)):=by
 refine FnP.mk func84 Z ntmps84 Z fun B a w F V hfr G=>Ya ?_
 refine Zb G (qx 101 r1 (qx 102 r1 qB)) V [4,3,2] [102,101,0] (fun _=>rfl) (fun _=>rfl) fun τ a w F G=>?_
 try dsimp only [RS.sub,SF.sub,CF.sub,csub,Anc.sub,List.map,zCF,Zv,rTx,ZH,ZU,Zn,rOp] at G
 generalize τ 2=v2,τ 3=v3 at G
 refine Za (Ya (Ya (rZ G (qg 0 102 r1 r1 (qa 102 r1 r1 (qf (o_eql .t qi) r1 qz qZ))) V [9,4,3,2] [102,101,0] fun G=>?_)))
 refine Zc G Z (fun hc0=>?_) (fun hc0=>?_)
 ·have hg:true=ZeQ g v:=by unfold ZeQ;rw [Yr hc0];rfl
  refine Ya (rZ G qB V [4,3,2] [102,101,0] fun G=>(Yh (Zl ?_)))
  refine Zs hfr G Z Z Z (.bool hg)
 have hv0:v.tx≠0:=YL hc0
 have hg:(ZkX g v.tx && decide (v.nth=((((Z3 g.txs v.tx).getD zeroT).ops.filter fun o=>!o.read && decide (o.key=v.key)).length:Nat)))=ZeQ g v:=by unfold ZeQ;rw [YD hv0,Ybi]
 refine Ye (Za (Ya (Zb G (qe 2 101 r1 r1 (qg 0 102 r1 r1 (qa 102 r1 r1 (qf (oP (Zkp g v.tx hs) func80 (Args.two (.pagg .t) .t)) r2 qz (qR rr (qf (Zh .t Z) r1 qz (qf (Zh .t Z) r1 qz (qf (oH [.int .i64 0,.bool false,.slice none 0 0] 103) trivial qz (qf (oA 3 103 .same (.conv .t .agg)) r2 r1 (qO rr qZ)))))))))) V [6,5,4,3] [103,102,101,0] (fun _=>rfl) (fun _=>rfl) fun τ a w F G=>?_)))
 try dsimp only [RS.sub,SF.sub,CF.sub,csub,Anc.sub,List.map,Zf,xL,xM,Nat.reduceAdd,xD,xE,xT,xU,xC,xN,zCF,ldSF,Zv,rTx,ZH,ZU,Zn,rOp] at G
 generalize τ 5=v5 at G
 refine Za (Ya (Zw G (qR rr (qR rr (qv 2 102 Z r2 r1 (qw 102 Z r2 r1 (qk Z (fun h=>oL true 3 103 .is) r2 r1 (qv 1 102 Z r2 r1 (qw 102 Z r2 r1 (qk Z (fun h=>oP (Zdb ((Z3 g.txs v.tx).getD zeroT) v.key (Zh1 hs _)) func29 (Args.two (.pagg (.w h)) (.w h))) r3 qz (qk Z (fun h=>o_eql (.w h) (.w h)) r3 qz (qf (ZE .t .t) r2 qz (qO rr qZ))))))))))) V [4] [103,102,101,0] Z Z fun a w F G=>?_))
 try dsimp only [List.map,xD,xE,xT,xU,ldSF,Zv,rTx,ZH,ZU,Zn,rOp] at G
 refine Za (Yh (Zs hfr G Z Z Z (.bool hg)))
theorem Zor (g:Zr) (key u x:Int) (hs:Za9 g):FnP prog 81 [.agg (Zv g),.int .i64 key,.int .i64 u,.int .i64 x] (.bool (Zks g key u x)):=by
 refine FnP.mk func81 Z ntmps81 Z fun B a w F V hfr G=>Ya ?_
 refine Zb G (qx 101 r1 qB) V [8,4,3,2,1] [101,0] (fun _=>rfl) (fun _=>rfl) fun τ a w F G=>?_
 try dsimp only [RS.sub,SF.sub,CF.sub,csub,Anc.sub,List.map,zCF,Zv,rTx,ZH,ZU,Zn,rOp] at G
 generalize τ 4=v4 at G
 refine Za (Ya (rZ G (qg 0 101 r1 r1 (qf (oL true 2 101 .adr) r1 r1 (qR rr (qf (oP (Zrh g key hs.2) func16 (Args.two (.pagg .t) .t)) r2 qz (qR rr (qf (oP (ZtD (getO g.orders key) u) func15 (Args.two .t .t)) r2 qz (qR rr (qf (Zh .t Z) r1 qz (qf (Zh .t Z) r1 qz (qO rr (qO rr qZ))))))))))) V [10,9,8,3] [101,0] fun G=>Ya ?_))
 refine rZ G (qR rr (qR rr (qm Z Z Z Z (qm Z Z Z Z (qk Z (fun h=>o_eql (.w h) (.w h)) r3 qz (qf (ZE .t .t) r2 qz (qO rr qZ))))))) V [8] [101,0] fun G=>Yh ?_
 refine Zs hfr G Z Z Z (.bool Z)
def ZqF (u:Nat):List Int:=if h:u=0 then [] else ZqF (u / 10) ++ [((48+u % 10:Nat):Int)]
 termination_by u
 decreasing_by omega
def Zkc (u:Nat):List Int:=ZqF (u / 10) ++ [((48+u % 10:Nat):Int)]
theorem Zqx:ZqF 0 = []:=by unfold ZqF;simp
theorem ZlO {u:Nat} (h:u≠0):ZqF u=Zkc u:=by unfold ZqF Zkc;simp [h]
def Ze5 (n:Int):List UInt8:=if n<0 then 45 :: (Zkc n.natAbs).map toB else (Zkc n.natAbs).map toB
structure Zgo (u0 i u:Nat) (l:List Int):Prop where
 hl:l.length=20
 hi:i≤20
 hu:u<10 ^ i
 hb:u≤18446744073709551615
 ok:(i=20∧u=u0)∨(i<20∧ZqF u++l.drop i=Zkc u0)
theorem Zgo.start {u0:Nat} (h:u0≤18446744073709551615):Zgo u0 20 u0 [0,0,0,0,0,0,0,0,0,0,0,0,0,0,0,0,0,0,0,0]:=⟨rfl,YM _,by omega,h,.inl ⟨rfl,rfl⟩⟩
theorem Zgo.pos {u0 i u:Nat} {l:List Int} (h:Zgo u0 i u l) (hc:i=20∨0<u):1≤i:=by
 rcases hc with hc | hc
 ·omega
 ·rcases Nat.eq_zero_or_pos i with h0 | h0
  ·have:=h.hu;rw [h0] at this;omega
  ·exact h0
theorem Zgo.next {u0 i u:Nat} {l:List Int} (h:Zgo u0 i u l) (hc:i=20∨0<u):Zgo u0 (i - 1) (u / 10) (l.set (i - 1) ((48+u % 10:Nat):Int)):=by
 have h1:=h.pos hc
 have hi:=h.hi
 have hl:=h.hl
 have hd:(l.set (i - 1) ((48+u % 10:Nat):Int)).drop (i - 1)=((48+u % 10:Nat):Int) :: l.drop i:=by
  rw [Ybc (by rw [YK];omega),Ybe,show i - 1+1=i by omega,List.drop_set_of_lt ow]
 refine ⟨by rw [YK];exact h.hl,by omega,?_,by have:=h.hb;omega,.inr ⟨by omega,?_⟩⟩
 ·have:=h.hu
  rw [show i=(i - 1)+1 by omega,Nat.pow_succ] at this
  omega
 ·rw [hd]
  have e:ZqF (u / 10)++((48+u % 10:Nat):Int) :: l.drop i=Zkc u++l.drop i:=by
   unfold Zkc;simp
  rw [e]
  rcases h.ok with ⟨h2,h3⟩ | ⟨h2,h3⟩
  ·rw [h2,h3,YaW ow];simp
  ·rw [← ZlO ow];exact h3
theorem Zgo.done {u0 i u:Nat} {l:List Int} (h:Zgo u0 i u l) (h1:i≠20) (h2:u=0):l.drop i=Zkc u0:=by
 rcases h.ok with ⟨h3,_⟩ | ⟨_,h3⟩
 ·exact absurd h3 h1
 ·rw [h2,Zqx] at h3;simpa using h3
theorem ZlZ (u:Nat) (hu:u≤18446744073709551615):FnP prog 122 [.int .u64 (u:Int)] (.bs ((Zkc u).map toB)):=by
 refine FnP.mk func122 Z ntmps122 Z fun B a w F V hfr G=>Ya ?_
 refine rZ G (qf (oN (.cs kr)) trivial qz qZ) V [2,0] [0] fun G=>Ya ?_
 refine Zb G (qf (oH [.int .u8 0,.int .u8 0,.int .u8 0,.int .u8 0,.int .u8 0,.int .u8 0,.int .u8 0,.int .u8 0,.int .u8 0,.int .u8 0,.int .u8 0,.int .u8 0,.int .u8 0,.int .u8 0,.int .u8 0,.int .u8 0,.int .u8 0,.int .u8 0,.int .u8 0,.int .u8 0] 101) trivial qz qZ) V [3,2,0] [101,0] (fun _=>rfl) (fun _=>rfl) fun τ a w F G=>?_
 try dsimp only [RS.sub,SF.sub,CF.sub,csub,Anc.sub,List.map,zCF] at G
 generalize τ 3=v3 at G
 refine Za (Ya (rZ G (qI qZ) V [4,3,2,0] [101,0] fun G=>(Ya (Yg ?_))))
 replace G:=G.turn 101 Z (r':=.ob (.val v3) (ZnF 237 (fun x=>PV.int .u8 x) [0,0,0,0,0,0,0,0,0,0,0,0,0,0,0,0,0,0,0,0])) (fun τ w f y h=>Zik (f:=(fun x=>PV.int .u8 x)) (l:=[0,0,0,0,0,0,0,0,0,0,0,0,0,0,0,0,0,0,0,0]) τ w f y h)
 obtain ⟨F,G⟩:=G.nM [4,3,0] [101,0]
 refine Zbf (σ:=(Nat×Nat×List Int)) (fun s=>(⟨[(0,.pv (.int .u64 s.2.1)),(3,.pv (.is v3)),(4,.pv (.int .i64 s.1))],[(0,frame B),(101,.ob (.val v3) (ZnF 237 (fun x=>PV.int .u8 x) s.2.2))]⟩:En)) (fun s=>Zgo u s.1 s.2.1 s.2.2) (fun s=>s.1) (20,u,[0,0,0,0,0,0,0,0,0,0,0,0,0,0,0,0,0,0,0,0]) G (Zgo.start hu) ?_
 clear G;intro s a w F hC G
 obtain ⟨i,x,l⟩:=s
 try dsimp only at hC
 try dsimp only at G
 have hl:=hC.hl
 have hi:=hC.hi
 have hbx:=hC.hb
 try dsimp only at hl hi hbx
 refine Ya (Ya (rZ G (qR rr (qf (o_eql .t qi) r1 qz (qR rr (qm Z Z Z Z (qk Z (fun h=>ZaR (.w h) qi) r2 qz (qf (Zak .t .t) r2 qz qZ)))))) V [10,4,3,0] [101,0] fun G=>?_))
 refine Zc G Z (fun hc0=>?_) (fun hc0=>?_)
 ·have hcc:i=20∨0<x:=by simp only [YaP,Yq] at hc0;omega
  have hip:=hC.pos hcc
  try dsimp only at hip
  refine Ye (Za (Yg (Ya (Ze G (qR rr (qf (o_sub .t qi) r1 qz (qO rr qZ))) V [4,3,0] [101,0] Z Z fun a w F G=>?_))))
  rw [show IntKind.wrap .i64 ((i:Int) - 1)=((i - 1:Nat):Int) by rw [ZA ow];omega] at G
  refine Za (Ya (Ze G (qR rr (qR rr (qf (ZvD .t qi (by decide)) r1 qz (qf (o_add qi .t) r1 qz (qf (o_conv underlying5 kr .t) r1 qz (qf (Zb7 (sz:=1) 101 underlying237 kr .is .t ow ow) r2 r1 (qf (ZmE 101 .adr .t one_int kr (by rw [hl];omega)) r2 r1 qZ))))))) V [4,3,0] [101,0] Z Z fun a w F G=>?_))
  rw [show 0+((i - 1:Nat):Int).toNat*1=i - 1 by omega] at G
  rw [show IntKind.wrap .u8 (IntKind.wrap .u64 (48+(x:Int).tmod 10))=((48+x % 10:Nat):Int) by rw [ZuK,Zaj,Int.tmod_eq_emod_of_nonneg ow];omega] at G
  refine Za (Ze G (qR rr (qf (Zwf .t qi (by decide)) r1 qz (qO rr qZ))) V [4,3,0] [101,0] Z Z fun a w F G=>Zi (Za ?_))
  replace G:=G.ent (i:=0) (s':=.pv (.int .u64 ((x / 10:Nat):Int))) Z (.int (by rw [Zaj,Int.tdiv_eq_ediv_of_nonneg ow];omega))
  obtain ⟨F,G⟩:=G.nM [4,3,0] [101,0]
  exact ⟨(i - 1,x / 10,l.set (i - 1) ((48+x % 10:Nat):Int)),F,(hC.next hcc),G,by dsimp only;omega⟩
 have hcc:i≠20∧x=0:=by simp only [YbV,YF] at hc0;omega
 have hdd:=hC.done hcc.1 hcc.2
 refine Yx (Zj (Zj (Zo (Za (Ya ?_)))))
 replace G:=G.turn 101 Z ZhR
 obtain ⟨F,G⟩:=G.giveRef 101 3 Z Z (ZlK _ _)
 rw [Zl4] at G
 obtain ⟨F,G⟩:=G.nM [10,4,3,0] [0]
 refine rZ G (qR rr (qf (ZkL (sz:=1) (R:=rB) (l:=l) underlying237 kr (by intro x;rfl) hl (by decide) .t .t ow ow) r2 qz (qf (o_conv_sl_bs underlying113 underlying5 Ycu .t) r1 qz (qO rr qZ)))) V [2] [0] fun G=>Yh ?_
 refine Zs hfr G Z Z Z (.bs (by rw [Yb,hdd]))
theorem Zmu:∀ (k u:Nat),u<10 ^ k→(ZqF u).length≤k
 | 0,u,h=>by
  have:u=0:=by simpa using h
  rw [this,Zqx];simp
 | k+1,u,h=>by
  by_cases h0:u=0
  ·rw [h0,Zqx];simp
  ·rw [ZlO h0]
   unfold Zkc
   have:=Zmu k (u / 10) (by rw [Nat.pow_succ] at h;omega)
   rw [Yd]
   simp only [Yl,Yy]
   omega
theorem ZlC {u:Nat} (h:u≤18446744073709551615):(Zkc u).length≤20:=by
 have:=Zmu 19 (u / 10) ow
 unfold Zkc
 rw [Yd]
 simp only [Yl,Yy]
 omega
theorem Ziz {n:Int} (h : -9223372036854775808≤n∧n≤9223372036854775807):n.natAbs≤18446744073709551615:=by omega
structure ZwJ (u0 i x:Nat) (l:List UInt8):Prop where
 hl:l.length=i
 hi:i≤20
 hx:x<10 ^ (20 - i)
 hb:x≤18446744073709551615
 ok:(i=0∧x=u0∧l = [])∨(0<i∧(ZqF x).map toB++l=(Zkc u0).map toB)
theorem Zi4 (n:Int):FnP prog 73 [.int .i64 n] (.bs (Ze5 n)):=by
 refine FnP.mk func73 Z ntmps73 Z fun B a w F V hfr G=>?_
 have hn:=Zpn (G.range (i:=0) rfl)
 have hz:=ZlC (Ziz hn)
 refine Ya (rZ G (qf (oN (.cs kr)) trivial qz qZ) V [2,0] [0] fun G=>(Ya (Ya ?_)))
 refine rZ G (qR rr (qf (ZaA .t qi) r1 qz qZ)) V [4,2,0] [0] fun G=>?_
 refine Zc G Z (fun hc0=>?_) (fun hc0=>?_)
 ·have hb:n<0:=Yr hc0
  have hu:IntKind.wrap .u64 (0 - IntKind.wrap .u64 n)=(n.natAbs:Int):=by rw [Zaj,Zaj];omega
  have hg:Ze5 n=45 :: (Zkc n.natAbs).map toB:=Yf hb
  refine Ya (rZ G (qR rr (qf (o_conv Ycv kr .t) r1 qz (qf (Zwv .t) r1 qz (qf (oP (ZlZ n.natAbs (Ziz hn)) func122 (Args.one (.conv .t (.int hu)))) r1 qz (qf (Zbx (.cs kr) .t (by simp only [Yl,Yy,YH];omega)) r1 qz (qO rr qZ)))))) V [2,0] [0] fun G=>(Yh (Zl ?_)))
  refine Zs hfr G Z Z Z (.bs (by rw [hg];try rfl))
 have hb:¬ n<0:=YL hc0
 have hu:IntKind.wrap .u64 n=(n.natAbs:Int):=by rw [Zaj];omega
 have hg:Ze5 n=(Zkc n.natAbs).map toB:=Yc hb
 refine Ye (Za (Ya (rZ G (qR rr (qf (o_conv Ycv kr .t) r1 qz (qf (oP (ZlZ n.natAbs (Ziz hn)) func122 (Args.one (.conv .t (.int hu)))) r1 qz (qO rr qZ)))) V [2] [0] fun G=>Yh ?_)))
 refine Zs hfr G Z Z Z (.bs (by rw [hg];try rfl))
def bH (v ad:Value) (l:List UInt8):HP:=.ex fun rv=>.and (l = []→rv = .slice none 0 0) (.star [.pt (.val v) 115 [.pv (.is ad),.pv (.is rv)],.ob (.val rv) (Zx 5 1 rC l)])
def Za4 (v:Value) (l:List UInt8):HP:=.ex fun ad=>.and (ad = .pointer none∨ad=v) (bH v ad l)
theorem FnG.cases {P:Program} {f:FuncId} {args:List PV} {h h1 h2:HP} {q:PV} {qr:Value→List HP} (hh:∀ w fb y,h.p w fb y→h1.p w fb y∨h2.p w fb y) (k1:FnG P f 1 args [h1] q qr) (k2:FnG P f 1 args [h2] q qr):FnG P f 1 args [h] q qr:=fun w F vs hw hle hvs hpr=>by
 rcases hh w (F 1) (U F) (hpr 0 h rfl) with hx | hx
 ·exact k1 w F vs hw hle hvs (fun i h' hi=>by
  match i,hi with
  | 0,hi=>simp at hi;subst hi;exact hx)
 ·exact k2 w F vs hw hle hvs (fun i h' hi=>by
  match i,hi with
  | 0,hi=>simp at hi;subst hi;exact hx)
theorem ZgP {v:Value} {l:List UInt8} (w:World) (fb y:Ys) (h:(Za4 v l).p w fb y):(bH v (.pointer none) l).p w fb y∨(bH v v l).p w fb y:=by
 obtain ⟨ad,h1,h2⟩:=h
 rcases h1 with rfl | rfl
 ·exact .inl h2
 ·exact .inr h2
theorem copy0 (b:Nat) (l:List UInt8):FnG prog 121 1 [.is (.pointer (some ⟨b,0,none⟩))] [bH (.pointer (some ⟨b,0,none⟩)) (.pointer none) l] (.any) (fun _=>[bH (.pointer (some ⟨b,0,none⟩)) (.pointer (some ⟨b,0,none⟩)) l]):=by
 refine FnG.mk func121 Z ntmps121 Z kr fun B F0 a w F V hG G=>?_
 obtain ⟨rv,G⟩:=G.open_ex 1 rfl
 obtain ⟨hI,G⟩:=G.open_and 1 rfl
 obtain ⟨F,G⟩:=G.peel 1 2 Z rfl
 obtain ⟨F,G⟩:=G.peel 1 3 Z rfl
 obtain ⟨F,G⟩:=G.nM [0] [3,2,0]
 refine Ya (rZ G (qR rr (qf (o_nilCheck 2 .is (by rfl)) r1 r1 (qf (oF 0 2 .adr) r1 r1 (qa 2 r1 r1 (qf (ZiN _ underlying112 Z .t) r1 qz qZ))))) V [6,0] [3,2,0] fun G=>?_)
 refine Zc G Z (fun hc0=>?_) (fun hc0=>?_)
 ·refine Ze G (qR rr (qR rr (qf (Zif 2 underlying112 underlying235 kr kr .t) r1 r1 (qf (Znd func165 kr kr kr kr .t) r1 qz (qf (ZkO 2 underlying235 underlying112 kr kr .t) r1 r1 (qf (o_nilCheck 2 .is (by rfl)) r1 r1 (qf (oF 0 2 .adr) r1 r1 (qf (Za3 2 .adr .t one_is kr kr) r2 r1 qZ)))))))) V [] [3,2,0] Z Z fun a w F G=>?_
  have G:=G.fresh 1 rfl
  obtain ⟨F,G⟩:=G.push 1 3 Z Z Z kr
  obtain ⟨F,G⟩:=G.push 1 2 Z Z Z kr
  have G:=G.turn 1 Z (r':=RS.hp (bH (.pointer (some ⟨b,0,none⟩)) (.pointer (some ⟨b,0,none⟩)) l)) (fun _ _ _ _ h=>⟨_,hI,h⟩)
  refine Zad hG G Z .nil Zbc.any rfl
 simp at hc0
theorem copy1 (b:Nat) (l:List UInt8):FnG prog 121 1 [.is (.pointer (some ⟨b,0,none⟩))] [bH (.pointer (some ⟨b,0,none⟩)) (.pointer (some ⟨b,0,none⟩)) l] (.any) (fun _=>[bH (.pointer (some ⟨b,0,none⟩)) (.pointer (some ⟨b,0,none⟩)) l]):=by
 refine FnG.mk func121 Z ntmps121 Z kr fun B F0 a w F V hG G=>?_
 obtain ⟨rv,G⟩:=G.open_ex 1 rfl
 obtain ⟨hI,G⟩:=G.open_and 1 rfl
 obtain ⟨F,G⟩:=G.peel 1 2 Z rfl
 obtain ⟨F,G⟩:=G.peel 1 3 Z rfl
 obtain ⟨F,G⟩:=G.nM [0] [3,2,0]
 refine Ya (rZ G (qR rr (qf (o_nilCheck 2 .is (by rfl)) r1 r1 (qf (oF 0 2 .adr) r1 r1 (qa 2 r1 r1 (qf (ZiN _ underlying112 Z .t) r1 qz qZ))))) V [6,0] [3,2,0] fun G=>?_)
 refine Zc G Z (fun hc0=>?_) (fun hc0=>?_)
 ·simp at hc0
 refine Ya (rZ G (qR rr (qf (o_nilCheck 2 .is (by rfl)) r1 r1 (qf (oF 0 2 .adr) r1 r1 (qa 2 r1 r1 (qR rr (qf (Znp underlying112 kr .t .t) r2 qz qZ)))))) V [19] [3,2,0] fun G=>?_)
 refine Zc G Z (fun hc1=>?_) (fun hc1=>?_)
 ·simp at hc1
 refine Ye ?_
 have G:=G.fresh 1 rfl
 obtain ⟨F,G⟩:=G.push 1 3 Z Z Z kr
 obtain ⟨F,G⟩:=G.push 1 2 Z Z Z kr
 have G:=G.turn 1 Z (r':=RS.hp (bH (.pointer (some ⟨b,0,none⟩)) (.pointer (some ⟨b,0,none⟩)) l)) (fun _ _ _ _ h=>⟨_,hI,h⟩)
 refine Zad hG G Z .nil Zbc.any rfl
theorem ZvE (b:Nat) (l:List UInt8):FnG prog 121 1 [.is (.pointer (some ⟨b,0,none⟩))] [Za4 (.pointer (some ⟨b,0,none⟩)) l] .any (fun _=>[bH (.pointer (some ⟨b,0,none⟩)) (.pointer (some ⟨b,0,none⟩)) l]):=FnG.cases ZgP (copy0 b l) (copy1 b l)
theorem Zcw (b:Nat) (l:List UInt8) (hl:l.length≤1000000000) (x:List UInt8) (hx:x≠[]) (hxl:x.length≤1000000000):FnG prog 72 1 [.is (.pointer (some ⟨b,0,none⟩)),.bs x] [Za4 (.pointer (some ⟨b,0,none⟩)) l] (.any) (fun _=>[bH (.pointer (some ⟨b,0,none⟩)) (.pointer (some ⟨b,0,none⟩)) (l++x)]):=by
 refine FnG.mk func72 Z ntmps72 Z kr fun B F0 a w F V hG G=>Ya ?_
 refine rZ G (qI (qC qZ)) V [5,4,1,0] [1,0] fun G=>Ya ?_
 refine Ze G (qR rr (qf (ZK 1 (ZvE b l) func121 Z kr (Args.one .t)) r1 r1 qZ)) V [5,4,1,0] [1,0] Z Z fun a w F G=>?_
 obtain ⟨rv,G⟩:=G.open_ex 1 rfl
 obtain ⟨hI,G⟩:=G.open_and 1 rfl
 obtain ⟨F,G⟩:=G.peel 1 2 Z rfl
 obtain ⟨F,G⟩:=G.peel 1 3 Z rfl
 obtain ⟨F,G⟩:=G.nM [5,4,1,0] [3,2,0]
 refine Za (Ya (Zb G (qR rr (qR rr (qf (o_nilCheck 2 .is (by rfl)) r1 r1 (qf (oF 1 2 .adr) r1 r1 (qa 2 r1 r1 (qR rr (qf (ZjD 3 underlying113 Ycu kr .is .t ow) ⟨rfl,rfl,tv⟩ ⟨rfl,tv⟩ (qf (o_nilCheck 2 .is (by rfl)) r1 r1 (qf (oF 1 2 .adr) r1 r1 (qf (o_storeS 2 .adr kr kr) r2 r1 qZ)))))))))) V [5,4,1] [3,2,0] (fun _=>rfl) (fun _=>rfl) fun τ a w F G=>?_))
 try dsimp only [RS.sub,SF.sub,CF.sub,csub,Anc.sub,List.map,Zf,xL,xM,Nat.reduceAdd,xD,xE,xT,xU,xC,xN,zCF,ldSF] at G
 generalize τ 14=v14 at G
 refine Za (Ya (rZ G (qR rr (qf (Zr3 Ycu .t) r1 qz (qO rr (qC qZ)))) V [5,4] [3,2,0] fun G=>Yh ?_))
 have G:=G.fresh 1 rfl
 obtain ⟨F,G⟩:=G.push 1 3 Z Z Z kr
 obtain ⟨F,G⟩:=G.push 1 2 Z Z Z kr
 have G:=G.turn 1 Z (r':=RS.hp (bH (.pointer (some ⟨b,0,none⟩)) (.pointer (some ⟨b,0,none⟩)) (l++x))) (fun _ _ _ _ h=>⟨_,(by intro hh;exact absurd (List.append_eq_nil_iff.1 hh).2 hx),h⟩)
 refine Zad hG G Z (.tmp Z (.tmp Z .nil)) Zbc.any rfl
theorem Zuv (b:Nat):FnG prog 75 1 [.is (.pointer (some ⟨b,0,none⟩))] [Za4 (.pointer (some ⟨b,0,none⟩)) []] (.bs []) (fun _=>[HP.star []]):=by
 refine FnG.mk func75 Z ntmps75 Z kr fun B F0 a w F V hG G=>?_
 obtain ⟨ad,G⟩:=G.open_ex 1 rfl
 obtain ⟨hA,G⟩:=G.open_and 1 rfl
 obtain ⟨rv,G⟩:=G.open_ex 1 rfl
 obtain ⟨hI,G⟩:=G.open_and 1 rfl
 obtain rfl:=hI rfl
 obtain ⟨F,G⟩:=G.peel 1 2 Z rfl
 obtain ⟨F,G⟩:=G.peel 1 3 Z rfl
 obtain ⟨F,G⟩:=G.nM [0] [3,2,0]
 refine Ya (rZ G (qf (oN (.cs kr)) trivial qz qZ) V [2,0] [3,2,0] fun G=>Ya ?_)
 refine Zw G (qR rr (qf (o_nilCheck 2 .is (by rfl)) r1 r1 (qf (oF 1 2 .adr) r1 r1 (qa 2 r1 r1 (qf (ZfN .t) r1 qz (qR rr (qf (o_nilCheck 2 .is (by rfl)) r1 r1 (qf (oF 1 2 .adr) r1 r1 (qa 2 r1 r1 (qf (ZQ 3 underlying113 .is) r1 r1 (qf (Zej .t .t) r2 qz (qO rr qZ)))))))))))) V [2] [3,2,0] Z Z fun a w F G=>?_
 try dsimp only [List.map,xD,xE,xT,xU,ldSF] at G
 refine Za (Yh ?_)
 have G:=G.fresh 1 rfl
 refine Zad (h':=HP.star []) hG G Z (.tmp Z .nil) (.one .refl) rfl
theorem ZtQ (b:Nat) (l:List UInt8) (hne:l≠[]):FnG prog 75 1 [.is (.pointer (some ⟨b,0,none⟩))] [Za4 (.pointer (some ⟨b,0,none⟩)) l] (.bs l) (fun _=>[HP.star []]):=by
 refine FnG.mk func75 Z ntmps75 Z kr fun B F0 a w F V hG G=>?_
 obtain ⟨ad,G⟩:=G.open_ex 1 rfl
 obtain ⟨hA,G⟩:=G.open_and 1 rfl
 obtain ⟨rv,G⟩:=G.open_ex 1 rfl
 obtain ⟨hI,G⟩:=G.open_and 1 rfl
 obtain ⟨F,G⟩:=G.peel 1 2 Z rfl
 obtain ⟨F,G⟩:=G.peel 1 3 Z rfl
 obtain ⟨F,G⟩:=G.nM [0] [3,2,0]
 refine Ya (rZ G (qf (oN (.cs kr)) trivial qz qZ) V [2,0] [3,2,0] fun G=>Ya ?_)
 refine Zw G (qR rr (qf (o_nilCheck 2 .is (by rfl)) r1 r1 (qf (oF 1 2 .adr) r1 r1 (qa 2 r1 r1 (qf (ZkE 3 hne .is (by rfl)) r1 r1 (qR rr (qf (o_nilCheck 2 .is (by rfl)) r1 r1 (qf (oF 1 2 .adr) r1 r1 (qa 2 r1 r1 (qf (ZQ 3 underlying113 .is) r1 r1 (qf (ZgS 3 underlying176 kr hne .t) r2 r1 (qO rr qZ)))))))))))) V [2] [3,2,0] Z Z fun a w F G=>?_
 try dsimp only [List.map,xD,xE,xT,xU,ldSF] at G
 refine Za (Yh ?_)
 have G:=G.fresh 1 rfl
 refine Zad (h':=HP.star []) hG G Z (.tmp Z .nil) (.one .refl) rfl
theorem ZsA (b:Nat) (l:List UInt8):FnG prog 75 1 [.is (.pointer (some ⟨b,0,none⟩))] [Za4 (.pointer (some ⟨b,0,none⟩)) l] (.bs l) (fun _=>[HP.star []]):=by
 by_cases h:l = []
 ·subst h;exact Zuv b
 ·exact ZtQ b l h
theorem Ztn (u:Nat):Zkc u≠[]:=by unfold Zkc;simp
theorem ZrO (n:Int):Ze5 n≠[]:=by
 unfold Ze5
 split
 ·simp
 ·simpa using Ztn _
theorem Zcg {n:Int} (h : -9223372036854775808≤n∧n≤9223372036854775807):(Ze5 n).length≤21:=by
 have:=ZlC (Ziz h)
 unfold Ze5
 split <;> simp <;> omega
def ZsO (e:Zg):List UInt8:=((([32] ++ ZjS e.kind)++Ze5 e.key) ++ [32])++Ze5 e.dst
def Zgl (l:List Zg) (i:Nat):List UInt8:=Ze5 (Nn l 0).src++(l.take i).flatMap ZsO
def ZgU (l:List Zg) (i:Nat):List UInt8:=if i=0 then [] else Zgl l i
def Zgi (e:Zg):Prop:=(-9223372036854775808≤e.src∧e.src≤9223372036854775807)∧(-9223372036854775808≤e.dst∧e.dst≤9223372036854775807) ∧ -9223372036854775808≤e.key∧e.key≤9223372036854775807
theorem Zjx (k:Int):(ZjS k).length≤2:=by
 unfold ZjS
 repeat' split
 all_goals simp
theorem Zms {e:Zg} (h:Zgi e):(ZsO e).length≤50:=by
 have h1:=Zcg h.2.2
 have h2:=Zcg h.2.1
 have h3:=Zjx e.kind
 unfold ZsO
 simp only [Yd,Yl,Yy]
 omega
theorem Zod {l:List Zg} (h:∀ e ∈ l,Zgi e) {i:Nat} (hi:i<l.length):(Zgl l i).length≤50+50*i:=by
 have h1:=Zcg (h _ (nth_mem (q:=l) (k:=0) ow)).1
 have key:∀ m:List Zg,(∀ e ∈ m,Zgi e)→(m.flatMap ZsO).length≤50*m.length:=by
  intro m
  induction m with
  | nil=>intro _;simp
  | cons e m ih=>
   intro hm
   have:=ih fun x hx=>hm x (by simp [hx])
   have:=Zms (hm e (by simp))
   rw [Y2,Yd,Yl];omega
 have h2:=key (l.take i) fun e he=>h e (Yay he)
 have h3:(l.take i).length≤i:=by rw [Yi];omega
 unfold Zgl
 rw [Yd];omega
theorem Zhj {l:List Zg} {i:Nat} (hi:i<l.length):Zgl l i++ZsO (Nn l i)=ZgU l (i+1):=by
 unfold ZgU Zgl
 rw [Yc ow,Zp hi,YV,YO];simp
theorem ZnX {l:List Zg} {i:Nat} (h:¬ i=0):ZgU l i=Zgl l i:=Yc h
theorem ZtF (l:List Zg) (hl:l.length≤1000000) (hr:∀ e ∈ l,Zgi e):FnP prog 34 [.sl Zq l] (.bs (ZgU l l.length)):=by
 refine FnP.mk func34 Z ntmps34 Z fun B a w F V hfr G=>Ya ?_
 refine rZ G (qf (oN (.cs kr)) trivial qz qZ) V [2,0] [0] fun G=>Ya ?_
 refine Zb G (qf (oH [.pointer none,.slice none 0 0] 101) trivial qz qZ) V [3,2,0] [101,0] (fun _=>rfl) (fun _=>rfl) fun τ a w F G=>?_
 try dsimp only [RS.sub,SF.sub,CF.sub,csub,Anc.sub,List.map,zCF,Zq] at G
 generalize τ 3=v3 at G
 obtain ⟨b,rfl⟩:=G.shape 101 rfl
 replace G:=G.fresh 9 rfl
 replace G:=G.turn 9 Z (ZaC (T:=5) (sz:=1) (R:=rC))
 replace G:=G.fresh 10 rfl
 obtain ⟨F,G⟩:=G.push 10 9 Z Z Z kr
 obtain ⟨F,G⟩:=G.push 10 101 Z Z Z kr
 replace G:=G.turn 10 Z (r':=RS.hp (Za4 (.pointer (some ⟨b,0,none⟩)) [])) (fun _ _ _ _ h=>⟨_,.inl rfl,_,fun _=>rfl,h⟩)
 obtain ⟨F,G⟩:=G.nM [3,2,0] [10,0]
 refine Za (Ya (Ya (rZ G (qR rr (qu Ycg r1 (qJ qZ))) V [8,7,6,3,2] [10,0] fun G=>Yg ?_)))
 refine Zk (σ:=(Nat)) [2,3,6,7] [0] (fun s=>[(8,.pv (.int .i64 (s:Int)))]) (fun s=>[(10,RS.hp (Za4 (.pointer (some ⟨b,0,none⟩)) (ZgU l s)))]) (fun s=>s≤l.length∧(True)) (fun s=>l.length - s) (0) G ⟨rfl,rfl,rfl,rfl,rfl,tv⟩ ⟨rfl,rfl,tv⟩ ⟨Yw _,tv⟩ ?_
 clear G;intro i a w F hC G
 try dsimp only at hC
 obtain ⟨F,G⟩:=G.nM [8,7,6,3,2] [10,0]
 try dsimp only at G
 obtain ⟨hi,hq⟩:=hC
 refine Ya (rZ G (qL r2) V [9,8,7,6,3,2] [10,0] fun G=>Ya ?_)
 refine Zc G Z (fun hc0=>?_) (fun hc0=>?_)
 ·have hil:i<l.length:=by simp at hc0;omega
  have hsm:=hr _ (nth_mem hil)
  have hcl:=Zod hr hil
  have hel:=Zms hsm
  have hx1:=Zcg hsm.1
  have hx2:=Zcg hsm.2.1
  have hx3:=Zcg hsm.2.2
  have hx4:=Zjx (Nn l i).kind
  refine Ye (Za (Ya (Yg (Ya (Zb G (qR rr (qy 4 Ycg r2 (qf (oR true 4 .t) r1 qz (qf (oH [.int .i64 0,.int .i64 0,.int .i64 0,.int .i64 0] 102) trivial qz (qO rr (qS 4 102 r2 r1 qZ)))))) V [8,7,6,5,4,3,2] [102,10,0] (fun _=>rfl) (fun _=>rfl) fun τ a w F G=>?_)))))
  try dsimp only [RS.sub,SF.sub,CF.sub,csub,Anc.sub,List.map,Zf,xL,xM,Nat.reduceAdd,xD,xE,xT,xU,xC,xN,zCF,ldSF,Zq] at G
  generalize τ 5=v5 at G
  try simp only [Yb] at G
  refine Za (Ya (Ya (rZ G (qR rr (qf (o_eql .t qi) r1 qz qZ)) V [14,8,7,6,5,3,2] [102,10,0] fun G=>?_)))
  refine Zc G Z (fun hc1=>?_) (fun hc1=>?_)
  ·have hi0:i=0:=by have h9:=Yr hc1;omega
   have hw0:ZgU l i = []:=by rw [hi0];rfl
   rw [hw0] at G
   refine Ze G (qg 0 102 r1 r1 (qa 102 r1 r1 (qf (oP (Zi4 (Nn l i).src) func73 (Args.one .t)) r1 qz (qf (ZK 10 (Zcw b [] (by simp) (Ze5 (Nn l i).src) (ZrO _) ow) func72 Z kr (Args.two .t .t)) r2 r1 qZ)))) V [8,7,6,5,3,2] [102,10,0] Z Z fun a w F G=>?_
   replace G:=G.turn 10 Z (r':=RS.hp (Za4 (.pointer (some ⟨b,0,none⟩)) (Zgl l i))) (fun _ _ _ _ h=>⟨_,.inr rfl,by rw [show Zgl l i = [] ++ Ze5 (Nn l i).src by rw [hi0];simp [Zgl]];exact h⟩)
   refine Za (Zw G (qg 2 102 r1 r1 (qa 102 r1 r1 (qf (oP (Zp2 (Nn l i).kind) func74 (Args.one .t)) r1 qz (qf (Zbx (.cs kr) .t (by simp only [Yd,Yl,Yy];omega)) r1 qz (qg 3 102 r1 r1 (qa 102 r1 r1 (qf (oP (Zi4 (Nn l i).key) func73 (Args.one .t)) r1 qz (qf (Zbx .t .t (by simp only [Yd,Yl,Yy];omega)) r2 qz (qf (Zbx .t (.cs kr) (by simp only [Yd,Yl,Yy];omega)) r1 qz (qg 1 102 r1 r1 (qa 102 r1 r1 (qf (oP (Zi4 (Nn l i).dst) func73 (Args.one .t)) r1 qz (qf (Zbx .t .t (by simp only [Yd,Yl,Yy];omega)) r2 qz (qf (ZK 10 (Zcw b (Zgl l i) ow (ZsO (Nn l i)) (by unfold ZsO;simp) ow) func72 Z kr (Args.two .t .t)) r2 r1 qZ)))))))))))))) V [8,7,6,3,2] [10,0] Z Z fun a w F G=>?_)
   try dsimp only [List.map,xD,xE,xT,xU,ldSF,Zq] at G
   refine Zi (Za (rZ G (qp r1 (qR rr qZ)) V [8,7,6,3,2] [10,0] fun G=>?_))
   replace G:=G.turn 10 Z (r':=RS.hp (Za4 (.pointer (some ⟨b,0,none⟩)) (ZgU l (i+1)))) (fun _ _ _ _ h=>⟨_,.inr rfl,by rw [← Zhj hil];exact h⟩)
   replace G:=G.ent (i:=8) (s':=.pv (.int .i64 ((i+1:Nat):Int))) Z (.int (Zd ow))
   obtain ⟨F,G⟩:=G.nM [7,6,3,2,8] [0,10]
   exact ⟨(i+1),F,⟨by omega,tv⟩,G,by omega⟩
  have hi0:¬ i=0:=by have h9:=YL hc1;omega
  rw [ZnX hi0] at G
  refine Ye (Za (Zw G (qg 2 102 r1 r1 (qa 102 r1 r1 (qf (oP (Zp2 (Nn l i).kind) func74 (Args.one .t)) r1 qz (qf (Zbx (.cs kr) .t (by simp only [Yd,Yl,Yy];omega)) r1 qz (qg 3 102 r1 r1 (qa 102 r1 r1 (qf (oP (Zi4 (Nn l i).key) func73 (Args.one .t)) r1 qz (qf (Zbx .t .t (by simp only [Yd,Yl,Yy];omega)) r2 qz (qf (Zbx .t (.cs kr) (by simp only [Yd,Yl,Yy];omega)) r1 qz (qg 1 102 r1 r1 (qa 102 r1 r1 (qf (oP (Zi4 (Nn l i).dst) func73 (Args.one .t)) r1 qz (qf (Zbx .t .t (by simp only [Yd,Yl,Yy];omega)) r2 qz (qf (ZK 10 (Zcw b (Zgl l i) ow (ZsO (Nn l i)) (by unfold ZsO;simp) ow) func72 Z kr (Args.two .t .t)) r2 r1 qZ)))))))))))))) V [8,7,6,3,2] [10,0] Z Z fun a w F G=>?_))
  try dsimp only [List.map,xD,xE,xT,xU,ldSF,Zq] at G
  refine Zi (Za (rZ G (qp r1 (qR rr qZ)) V [8,7,6,3,2] [10,0] fun G=>?_))
  replace G:=G.turn 10 Z (r':=RS.hp (Za4 (.pointer (some ⟨b,0,none⟩)) (ZgU l (i+1)))) (fun _ _ _ _ h=>⟨_,.inr rfl,by rw [← Zhj hil];exact h⟩)
  replace G:=G.ent (i:=8) (s':=.pv (.int .i64 ((i+1:Nat):Int))) Z (.int (Zd ow))
  obtain ⟨F,G⟩:=G.nM [7,6,3,2,8] [0,10]
  exact ⟨(i+1),F,⟨by omega,tv⟩,G,by omega⟩
 have hil:i=l.length:=by simp at hc0;omega
 rw [hil] at G
 refine Yx (Zj (Zj (Zo (Za (Ya (rZ G (qf (ZK 10 (ZsA b (ZgU l l.length)) func75 Z kr (Args.one .t)) r1 r1 (qO rr qZ)) V [2] [10,0] fun G=>Yh ?_))))))
 refine Zs hfr G Z Z Z (.bs Z)
def Zgn (l:List Zg):Bool:=decide ((∀ q,q<l.length→(Nn l q).dst=(Nn l ((q+1) % l.length)).src)∧0<l.length)
def ZeU (t:TxD) (key:Int) (p:ZbS→Bool):Bool:=t.ops.any fun o=>((o.read && decide (o.key=key)) && !decide (o.tx=t.id)) && p (ofO o)
def Zoi (g:Zr) (e:Zg):Bool:=if e.kind=1 then Zks g e.key e.src e.dst else if e.kind=2 then ZeU ((Z3 g.txs e.dst).getD zeroT) e.key (fun v=>decide (v.tx=e.src) && ZeQ g v) else if e.kind=3 then ZeU ((Z3 g.txs e.src).getD zeroT) e.key (fun v=>ZeQ g v && Zks g e.key v.tx e.dst) else false
def Zfa (g:Zr) (e:Zg):Bool:=!((!ZkX g e.src || !ZkX g e.dst) || decide (e.src=e.dst)) && Zoi g e
theorem Zqk (l:List Zg) (hl:l.length≤1000000):FnP prog 14 [.sl Zq l] (.bool (Zgn l)):=by
 refine FnP.mk func14 Z ntmps14 Z fun B a w F V hfr G=>Ya ?_
 refine rZ G qB V [2,0] [0] fun G=>(Ya (Ya ?_))
 refine rZ G (qR rr (qu Ycg r1 (qJ qZ))) V [7,6,5,2,0] [0] fun G=>Yg ?_
 refine Zk (σ:=(Nat)) [0,2,5,6] [0] (fun s=>[(7,.pv (.int .i64 (s:Int)))]) (fun s=>[]) (fun s=>s≤l.length∧(∀ q,q<s→(Nn l q).dst=(Nn l ((q+1) % l.length)).src)) (fun s=>l.length - s) (0) G ⟨rfl,rfl,rfl,rfl,rfl,tv⟩ ⟨rfl,tv⟩ ⟨Yw _,fun q hq=>absurd hq (Y3 q)⟩ ?_
 clear G;intro i a w F hC G
 try dsimp only at hC
 obtain ⟨F,G⟩:=G.nM [7,6,5,2,0] [0]
 try dsimp only at G
 obtain ⟨hi,hq⟩:=hC
 refine Ya (rZ G (qL r2) V [8,7,6,5,2,0] [0] fun G=>Ya ?_)
 refine Zc G Z (fun hc0=>?_) (fun hc0=>?_)
 ·have hil:i<l.length:=by simp at hc0;omega
  have hml:(i+1) % l.length<l.length:=Ybs _ ow
  have hmi:(IntKind.wrap .i64 ((i:Int)+1)).tmod (l.length:Int)=(((i+1) % l.length:Nat):Int):=by rw [Zd ow,Int.tmod_eq_emod_of_nonneg ow];rfl
  refine Ye (Za (Ya (Yg (Ya (Zb G (qR rr (qy 4 Ycg r2 (qf (oR true 4 .t) r1 qz (qf (oH [.int .i64 0,.int .i64 0,.int .i64 0,.int .i64 0] 101) trivial qz (qO rr (qS 4 101 r2 r1 qZ)))))) V [7,6,5,4,3,2,0] [101,0] (fun _=>rfl) (fun _=>rfl) fun τ a w F G=>?_)))))
  try dsimp only [RS.sub,SF.sub,CF.sub,csub,Anc.sub,List.map,Zf,xL,xM,Nat.reduceAdd,xD,xE,xT,xU,xC,xN,zCF,ldSF,Zq] at G
  generalize τ 4=v4 at G
  try simp only [Yb] at G
  refine Za (Ya (Zw G (qg 1 101 r1 r1 (qa 101 r1 r1 (qR rr (qR rr (qp r1 (qR rr (qu Ycg r1 (qf (ZvD .t .t ow) r2 qz (qf (o_indexAddr_sl (sz:=4) (.mk Ycg kr) (by intro x;rfl) .t .t (by rw [hmi];omega) (by rw [hmi];omega)) r2 qz (qf (oG 0 .t) r1 qz (qf (oR false 1 .t) r1 qz (qf (o_neq .t .t) r2 qz qZ)))))))))))) V [23,7,6,5,2,0] [0] Z Z fun a w F G=>?_))
  try dsimp only [List.map,xD,xE,xT,xU,ldSF,Zq] at G
  try simp only [Yb] at G
  rw [hmi,Yb] at G
  refine Za (Zc G Z (fun hc1=>?_) (fun hc1=>?_))
  ·have hg:false=Zgn l:=by unfold Zgn;rw [Yaj,YF];intro h9;have h8:=hc1;rw [h9.1 i hil] at h8;simp at h8
   refine Ya (rZ G qB V [7,6,5,2,0] [0] fun G=>(Yh (Zz (Zl (Zl (Zz (Zl ?_)))))))
   refine Zs hfr G Z Z Z (.bool hg)
  have hne:(Nn l i).dst=(Nn l ((i+1) % l.length)).src:=by simpa using hc1
  refine Ye (Zi (Za (rZ G (qp r1 (qR rr qZ)) V [7,6,5,2,0] [0] fun G=>?_)))
  replace G:=G.ent (i:=7) (s':=.pv (.int .i64 ((i+1:Nat):Int))) Z (.int (Zd ow))
  obtain ⟨F,G⟩:=G.nM [6,5,2,0,7] [0]
  exact ⟨(i+1),F,⟨by omega,(fun q h9=>by rcases YX (Y6 h9) with h8 | h8;exact hq q h8;rw [h8];exact hne)⟩,G,by omega⟩
 have hil:i=l.length:=by simp at hc0;omega
 have hg:decide ((0:Int)<(l.length:Int))=Zgn l:=by unfold Zgn;rw [decide_eq_decide];constructor;exact fun h9=>⟨by rw [hil] at hq;exact hq,by omega⟩;exact fun h9=>by have:=h9.2;omega
 refine Yx (Zj (Zj (Zo (Za (Ya (rZ G (qR rr (qu Ycg r1 (qf (ZaR .t qi) r1 qz (qO rr qZ)))) V [2] [0] fun G=>Yh ?_))))))
 refine Zs hfr G Z Z Z (.bool hg)
theorem ZlE (t : TxD) (key : Int) (ht : t.ops.length ≤ 1000000) (p : ZbS → Bool) (f : FuncId) (fn : Func) (cps : List PV) (hf : prog.funcs[f]? = some fn) (hb : fn.body.isSome = true) (hnn : (fn.name == "runtime.NumGoroutine") = false) (hw : ∀ v : ZbS, FnP prog f (.agg (ZU v) :: cps) (.bool (p v))) : FnP prog 82 [.agg (rTx t), .int .i64 key, .clos f cps] (.bool (ZeU t key p)) := by
 refine FnP.mk func82 Z ntmps82 Z fun B a w F V hfr G=>Ya ?_
 refine Zb G (qx 101 r1 qB) V [6,3,2,1] [101,0] (fun _=>rfl) (fun _=>rfl) fun τ a w F G=>?_
 try dsimp only [RS.sub,SF.sub,CF.sub,csub,Anc.sub,List.map,zCF,rTx,rOp,ZU] at G
 generalize τ 3=v3 at G
 refine Za (Ya (Ya (rZ G (qg 2 101 r1 r1 (qa 101 r1 r1 (qu Yck r1 (qJ qZ)))) V [12,11,10,6,3,2,1] [101,0] fun G=>Yg ?_)))
 refine Zk (σ:=(Nat)) [1,2,3,6,10,11] [0,101] (fun s=>[(12,.pv (.int .i64 (s:Int)))]) (fun s=>[]) (fun s=>s≤t.ops.length∧(∀ q,q<s→(fun o:OpD=>((o.read && decide (o.key=key)) && !decide (o.tx=t.id)) && p (ofO o)) (Nn t.ops q)=false)) (fun s=>t.ops.length - s) (0) G ⟨rfl,rfl,rfl,rfl,rfl,rfl,rfl,tv⟩ ⟨rfl,rfl,tv⟩ ⟨Yw _,fun q hq=>absurd hq (Y3 q)⟩ ?_
 clear G;intro i a w F hC G
 try dsimp only at hC
 obtain ⟨F,G⟩:=G.nM [12,11,10,6,3,2,1] [101,0]
 try dsimp only at G
 obtain ⟨hi,hq⟩:=hC
 refine Ya (rZ G (qL r2) V [13,12,11,10,6,3,2,1] [101,0] fun G=>Ya ?_)
 refine Zc G Z (fun hc0=>?_) (fun hc0=>?_)
 ·skip
  have hil:i<t.ops.length:=by simp at hc0;omega
  refine Ye (Za (Ya (Yg (Ya (Zb G (qy 4 Yck r2 (qf (oR true 4 .t) r1 qz (qf (oH [.bool false,.int .i64 0,.int .i64 0,.int .i64 0] 102) trivial qz (qS 4 102 r2 r1 qZ)))) V [12,11,10,8,6,3,2,1] [102,101,0] (fun _=>rfl) (fun _=>rfl) fun τ a w F G=>?_)))))
  try dsimp only [RS.sub,SF.sub,CF.sub,csub,Anc.sub,List.map,Zf,xL,xM,Nat.reduceAdd,xD,xE,xT,xU,xC,xN,zCF,ldSF,rTx,rOp,ZU] at G
  generalize τ 8=v8 at G
  try simp only [Yb] at G
  refine Za (Ya (rZ G (qg 0 102 r1 r1 (qa 102 r1 r1 (qR rr (qv 1 102 Z r2 r1 (qw 102 Z r2 r1 (qm Z Z Z Z (qk Z (fun h=>o_eql (.w h) (.w h)) r3 qz (qf (ZE .t .t) r2 qz (qR rr (qv 2 102 Z r2 r1 (qw 102 Z r2 r1 (qv 0 101 Z r2 r1 (qw 101 Z r2 r1 (qk Z (fun h=>o_neq (.w h) (.w h)) r3 qz (qf (ZE .t .t) r2 qz (qR rr (qm Z Z Z Z (qk Z (fun h=>oL true 4 102 .is) r2 r1 (qk Z (fun h=>oP (ZlB (Nn t.ops i)) func120 (Args.one (.pagg (.w h)))) r2 qz (qk Z (fun h=>ZN (avs:=[.agg (ZU (ofO (Nn t.ops i)))]) (.w h) (hw (ofO (Nn t.ops i))) hf hb hnn (Args.one (.w h))) r3 qz (qf (ZE .t .t) r2 qz qZ))))))))))))))))))))) V [36,12,11,10,6,3,2,1] [102,101,0] fun G=>?_))
  refine Zc G Z (fun hc1=>?_) (fun hc1=>?_)
  ·skip
   have hg:true=ZeU t key p:=(YaD.2 ⟨(Nn t.ops i),nth_mem hil,hc1⟩).symm
   refine Ya (rZ G qB V [12,11,10,6,3,2,1] [102,101,0] fun G=>(Yh (Zz (Zl (Zl (Zz (Zl ?_)))))))
   refine Zs hfr G Z Z Z (.bool hg)
  have hne:(fun o:OpD=>((o.read && decide (o.key=key)) && !decide (o.tx=t.id)) && p (ofO o)) (Nn t.ops i)=false:=hc1
  refine Ye (Zi (Za (rZ G (qp r1 (qR rr qZ)) V [12,11,10,6,3,2,1] [102,101,0] fun G=>?_)))
  replace G:=G.ent (i:=12) (s':=.pv (.int .i64 ((i+1:Nat):Int))) Z (.int (Zd ow))
  obtain ⟨F,G⟩:=G.nM [11,10,6,3,2,1,12] [101,0]
  exact ⟨(i+1),F,⟨by omega,(fun q h9=>by rcases YX (Y6 h9) with h8 | h8;exact hq q h8;rw [h8];exact hne)⟩,G,by omega⟩
 have hil:i=t.ops.length:=by simp at hc0;omega
 have hg:false=ZeU t key p:=by unfold ZeU;rw [Yaj,Ybl];intro o ho;obtain ⟨q,h8,rfl⟩:=Ya6.1 ho;rw [← nth_eq h8,Bool.not_eq_true];exact hq q ow
 refine Yx (Zj (Zj (Zo (Za (Ya (rZ G qB V [6] [101,0] fun G=>Yh ?_))))))
 refine Zs hfr G Z Z Z (.bool hg)
theorem Zr5 (g:Zr) (e:Zg) (v:ZbS) (hs:Za9 g):FnP prog 83 [.agg (ZU v),.ref (Zq e),.ref [.sl rTx g.txs,.sl ZH g.orders]] (.bool (decide (v.tx=e.src) && ZeQ g v)):=by
 refine FnP.mk func83 Z ntmps83 Z fun B a w F V hfr G=>Ya ?_
 refine Zb G (qx 101 r1 qB) V [4,3,2,1] [101,0] (fun _=>rfl) (fun _=>rfl) fun τ a w F G=>?_
 try dsimp only [RS.sub,SF.sub,CF.sub,csub,Anc.sub,List.map,zCF,Zv,rTx,ZH,ZU,Zn,rOp,Zq] at G
 generalize τ 3=v3 at G
 refine Za (Ya (rZ G (qg 0 101 r1 r1 (qa 101 r1 r1 (qf (oG 0 .t) r1 qz (qf (oR false 1 .t) r1 qz (qf (o_eql .t .t) r2 qz (qR rr (qk Z (fun h=>oR true 2 .t) r2 qz (qk Z (fun h=>oL true 3 101 .is) r2 r1 (qk Z (fun h=>oP (ZpM g v hs.1) func84 (Args.two (.pagg (.w h)) (.pagg (.w h)))) r3 qz (qf (ZE .t .t) r2 qz (qO rr qZ))))))))))) V [4] [101,0] fun G=>Yh ?_))
 refine Zs hfr G Z Z Z (.bool Z)
theorem ZsQ (g:Zr) (e:Zg) (v:ZbS) (hs:Za9 g):FnP prog 85 [.agg (ZU v),.ref [.sl rTx g.txs,.sl ZH g.orders],.ref (Zq e)] (.bool (ZeQ g v && Zks g e.key v.tx e.dst)):=by
 refine FnP.mk func85 Z ntmps85 Z fun B a w F V hfr G=>Ya ?_
 refine Zb G (qx 101 r1 qB) V [4,3,2,1] [101,0] (fun _=>rfl) (fun _=>rfl) fun τ a w F G=>?_
 try dsimp only [RS.sub,SF.sub,CF.sub,csub,Anc.sub,List.map,zCF,Zv,rTx,ZH,ZU,Zn,rOp,Zq] at G
 generalize τ 3=v3 at G
 refine Za (Ya (rZ G (qf (oR true 2 .t) r1 qz (qe 3 101 r1 r1 (qf (oP (ZpM g v hs.1) func84 (Args.two (.pagg .t) (.pagg .t))) r2 qz (qR rr (qk Z (fun h=>oR true 2 .t) r2 qz (qk Z (fun h=>oG 3 .t) r2 qz (qk Z (fun h=>oR false 1 (.w h)) r2 qz (qv 0 101 Z r2 r1 (qw 101 Z r2 r1 (qk Z (fun h=>oG 1 .t) r2 qz (qk Z (fun h=>oR false 1 (.w h)) r2 qz (qk Z (fun h=>oP (Zor g e.key v.tx e.dst hs) func81 (Args.four (.pagg (.w h)) (.w h) (.w h) (.w h))) r5 qz (qf (ZE .t .t) r2 qz (qO rr qZ)))))))))))))) V [4] [101,0] fun G=>Yh ?_))
 refine Zs hfr G Z Z Z (.bool Z)
theorem ZtH (g:Zr) (e:Zg) (hs:Za9 g):FnP prog 43 [.agg (Zv g),.agg (Zq e)] (.bool (Zfa g e)):=by
 refine FnP.mk func43 Z ntmps43 Z fun B a w F V hfr G=>Ya ?_
 refine Zb G (qx 101 r1 (qx 102 r1 qB)) V [4,3,2] [102,101,0] (fun _=>rfl) (fun _=>rfl) fun τ a w F G=>?_
 try dsimp only [RS.sub,SF.sub,CF.sub,csub,Anc.sub,List.map,zCF,Zv,rTx,ZH,ZU,Zn,rOp,Zq] at G
 generalize τ 2=v2,τ 3=v3 at G
 obtain ⟨F,G⟩:=G.giveRef 101 2 Z Z rfl
 obtain ⟨F,G⟩:=G.nM [4,3,2] [102,0]
 try dsimp only [Go.Gm.unCF] at G
 obtain ⟨F,G⟩:=G.giveRef 102 3 Z Z rfl
 obtain ⟨F,G⟩:=G.nM [4,3,2] [0]
 try dsimp only [Go.Gm.unCF] at G
 refine Za (Ya (Zb G (qf (oR true 2 .t) r1 qz (qf (oG 0 .t) r1 qz (qf (oR false 1 .t) r1 qz (qf (oP (Zkp g e.src hs.1) func80 (Args.two (.pagg .t) .t)) r2 qz (qR rr (qf (Zh .t Z) r1 qz (qf (Zh .t Z) r1 qz (qf (oH [.int .i64 0,.bool false,.slice none 0 0] 103) trivial qz (qf (oA 3 103 .same (.conv .t .agg)) r2 r1 (qO rr qZ)))))))))) V [6,5,4,3,2] [103,0] (fun _=>rfl) (fun _=>rfl) fun τ a w F G=>?_))
 try dsimp only [RS.sub,SF.sub,CF.sub,csub,Anc.sub,List.map,Zf,xL,xM,Nat.reduceAdd,xD,xE,xT,xU,xC,xN,zCF,ldSF,Zv,rTx,ZH,ZU,Zn,rOp,Zq] at G
 generalize τ 5=v5 at G
 refine Za (Ya (Zb G (qf (oR true 2 .t) r1 qz (qf (oG 1 .t) r1 qz (qf (oR false 1 .t) r1 qz (qf (oP (Zkp g e.dst hs.1) func80 (Args.two (.pagg .t) .t)) r2 qz (qR rr (qf (Zh .t Z) r1 qz (qf (Zh .t Z) r1 qz (qf (oH [.int .i64 0,.bool false,.slice none 0 0] 104) trivial qz (qf (oA 3 104 .same (.conv .t .agg)) r2 r1 (qO rr qZ)))))))))) V [8,7,6,5,4,3,2] [104,103,0] (fun _=>rfl) (fun _=>rfl) fun τ a w F G=>?_))
 try dsimp only [RS.sub,SF.sub,CF.sub,csub,Anc.sub,List.map,Zf,xL,xM,Nat.reduceAdd,xD,xE,xT,xU,xC,xN,zCF,ldSF,Zv,rTx,ZH,ZU,Zn,rOp,Zq] at G
 generalize τ 7=v7 at G
 refine Za (Ya (Ya (rZ G (qR rr (qf (o_not .t) r1 qz (qR rr (qm Z Z Z Z (qk Z (fun h=>o_not (.w h)) r2 qz (qf (Zak .t .t) r2 qz (qR rr (qk Z (fun h=>oG 0 .t) r2 qz (qk Z (fun h=>oR false 1 (.w h)) r2 qz (qk Z (fun h=>oG 1 .t) r2 qz (qk Z (fun h=>oR false 1 (.w h)) r2 qz (qk Z (fun h=>o_eql (.w h) (.w h)) r3 qz (qf (Zak .t .t) r2 qz qZ))))))))))))) V [35,7,5,4,3,2] [104,103,0] fun G=>?_)))
 refine Zc G Z (fun hc0=>?_) (fun hc0=>?_)
 ·have hg:false=Zfa g e:=by unfold Zfa;rw [hc0];rfl
  refine Ya (rZ G qB V [7,5,4,3,2] [104,103,0] fun G=>(Yh (Zl ?_)))
  refine Zs hfr G Z Z Z (.bool hg)
 have hF:((!ZkX g e.src || !ZkX g e.dst) || decide (e.src=e.dst))=false:=hc0
 refine Ye (Za (Ya (Ya (rZ G (qf (oG 2 .t) r1 qz (qf (oR false 1 .t) r1 qz qZ)) V [37,7,5,4,3,2] [104,103,0] fun G=>(Yg (Ya ?_))))))
 refine rZ G (qf (o_eql .t qi) r1 qz (qO rr qZ)) V [38,37,7,5,4,3,2] [104,103,0] fun G=>?_
 refine Zc G Z (fun hc1=>?_) (fun hc1=>?_)
 ·have hk1:e.kind=1:=Yr hc1
  have hg:Zks g e.key e.src e.dst=Zfa g e:=by unfold Zfa Zoi;rw [hF,Yf hk1];rfl
  refine Ya (rZ G (qf (oR true 2 .t) r1 qz (qf (oG 3 .t) r1 qz (qf (oR false 1 .t) r1 qz (qf (oG 0 .t) r1 qz (qf (oR false 1 .t) r1 qz (qf (oG 1 .t) r1 qz (qf (oR false 1 .t) r1 qz (qf (oP (Zor g e.key e.src e.dst hs) func81 (Args.four (.pagg .t) .t .t .t)) r4 qz (qO rr qZ))))))))) V [4] [104,103,0] fun G=>(Yh (Zz (Zl ?_))))
  refine Zs hfr G Z Z Z (.bool hg)
 have hn1:¬ e.kind=1:=YL hc1
 refine Ya (rZ G (qf (o_eql .t qi) r1 qz (qO rr qZ)) V [48,37,7,5,4,3,2] [104,103,0] fun G=>?_)
 refine Zc G Z (fun hc2=>?_) (fun hc2=>?_)
 ·have hk2:e.kind=2:=Yr hc2
  have hg:ZeU ((Z3 g.txs e.dst).getD zeroT) e.key (fun v=>decide (v.tx=e.src) && ZeQ g v)=Zfa g e:=by unfold Zfa Zoi;rw [hF,Yc hn1,Yf hk2];rfl
  refine Ya (rZ G (qe 3 104 r1 r1 (qf (oG 3 .t) r1 qz (qf (oR false 1 .t) r1 qz (qf (ZaO (Args.two .t .t)) r2 qz (qf (oP (ZlE ((Z3 g.txs e.dst).getD zeroT) e.key (Zh1 hs.1 _) (fun v=>decide (v.tx=e.src) && ZeQ g v) 83 f83 [.ref (Zq e),.ref [.sl rTx g.txs,.sl ZH g.orders]] func83 Z kr (fun v=>Zr5 g e v hs)) func82 (Args.three (.pagg .t) .t .t)) r3 qz (qO rr qZ)))))) V [4] [104,103,0] fun G=>(Yh (Zz (Zl ?_))))
  refine Zs hfr G Z Z Z (.bool hg)
 have hn2:¬ e.kind=2:=YL hc2
 refine Ya (rZ G (qf (o_eql .t qi) r1 qz (qO rr qZ)) V [55,5,4,3,2] [104,103,0] fun G=>?_)
 refine Zc G Z (fun hc3=>?_) (fun hc3=>?_)
 ·have hk3:e.kind=3:=Yr hc3
  have hg:ZeU ((Z3 g.txs e.src).getD zeroT) e.key (fun v=>ZeQ g v && Zks g e.key v.tx e.dst)=Zfa g e:=by unfold Zfa Zoi;rw [hF,Yc hn1,Yc hn2,Yf hk3];rfl
  refine Ya (rZ G (qe 3 103 r1 r1 (qf (oG 3 .t) r1 qz (qf (oR false 1 .t) r1 qz (qf (ZaO (Args.two .t .t)) r2 qz (qf (oP (ZlE ((Z3 g.txs e.src).getD zeroT) e.key (Zh1 hs.1 _) (fun v=>ZeQ g v && Zks g e.key v.tx e.dst) 85 f85 [.ref [.sl rTx g.txs,.sl ZH g.orders],.ref (Zq e)] func85 Z kr (fun v=>ZsQ g e v hs)) func82 (Args.three (.pagg .t) .t .t)) r3 qz (qO rr qZ)))))) V [4] [104,103,0] fun G=>(Yh (Zz (Zl ?_))))
  refine Zs hfr G Z Z Z (.bool hg)
 have hn3:¬ e.kind=3:=YL hc3
 have hg:false=Zfa g e:=by unfold Zfa Zoi;rw [hF,Yc hn1,Yc hn2,Yc hn3];rfl
 refine Ye (Zi (Za (Ya (rZ G qB V [4] [104,103,0] fun G=>Yh ?_))))
 refine Zs hfr G Z Z Z (.bool hg)
def ZiB:Zsi:=⟨5,[⟨1,2,3,1⟩,⟨2,1,3,2⟩],Zrz⟩
theorem Znx:∀ i:Nat,i<ZiB.walk.length→Zfa Zef (Nn ZiB.walk i)=true:=fun i hi=>by
 rcases (show i=0∨i=1 by have:ZiB.walk.length=2:=rfl;omega) with rfl | rfl <;> decide +kernel
theorem Zvo  : FnP prog 33 [.agg (Zv Zef),.agg (ZkS ZiB)] (.bool true):=by
 refine FnP.mk func33 Z ntmps33 Z fun B a w F V hfr G=>Ya ?_
 refine Zb G (qx 101 r1 (qx 102 r1 qB)) V [4,3,2] [102,101,0] (fun _=>rfl) (fun _=>rfl) fun τ a w F G=>?_
 try dsimp only [RS.sub,SF.sub,CF.sub,csub,Anc.sub,List.map,zCF,Zv,rTx,ZH,ZU,Zn,rOp,Zq,ZkS] at G
 generalize τ 2=v2,τ 3=v3 at G
 refine Za (Ya (Ya (rZ G (qe 2 101 r1 r1 (qf (oP (Zfe Zef Zdq.1) func19 (Args.one (.pagg .t))) r1 qz (qf (o_not .t) r1 qz qZ))) V [13,4,3,2] [102,101,0] fun G=>?_)))
 refine Zc G Z (fun hc0=>?_) (fun hc0=>?_)
 ·exact absurd hc0 (by decide +kernel)
 refine Ye (Za (Ya (Zb G (qe 2 101 r1 r1 (qf (oB [(0,.tmp 14)] [.slice none 0 0,.slice none 0 0] [(0,2)] (.agg Z .t kr kr .nil)) r1 qz (qf (oH [.slice none 0 0,.slice none 0 0] 103) trivial qz (qS 2 103 r2 r1 qZ)))) V [5,4,3] [103,102,101,0] (fun _=>rfl) (fun _=>rfl) fun τ a w F G=>?_)))
 try dsimp only [RS.sub,SF.sub,CF.sub,csub,Anc.sub,List.map,Zf,xL,xM,Nat.reduceAdd,xD,xE,xT,xU,xC,xN,zCF,ldSF,Zv,rTx,ZH,ZU,Zn,rOp,Zq,ZkS] at G
 generalize τ 5=v5 at G
 refine Za (Ya (Ya (rZ G (qg 0 102 r1 r1 (qa 102 r1 r1 qZ)) V [17,5,4,3] [103,102,101,0] fun G=>(Yg (Ya (Ya ?_))))))
 refine rZ G (qf (o_eql .t qi) r1 qz (qO rr qZ)) V [18,17,5,4,3] [103,102,101,0] fun G=>?_
 refine Zc G Z (fun hc1=>?_) (fun hc1=>?_)
 ·exact absurd hc1 (by decide)
 refine rZ G (qf (o_eql .t qi) r1 qz (qO rr qZ)) V [18,5,4,3] [103,102,101,0] fun G=>?_
 refine Zc G Z (fun hc2=>?_) (fun hc2=>?_)
 ·exact absurd hc2 (by decide)
 refine Ye (Zi (Za (Ya (rZ G (qg 0 102 r1 r1 (qa 102 r1 r1 (qf (oP (Zky ZiB.phen) func68 (Args.one .t)) r1 qz (qR rr (qf (Zh .t Z) r1 qz (qf (Zh .t Z) r1 qz (qO rr (qO rr qZ)))))))) V [7,6,5,4,3] [103,102,101,0] fun G=>Ya ?_))))
 refine rZ G (qg 1 102 r1 r1 (qa 102 r1 r1 (qf (oP (Ztt ZiB.walk (by decide)) func71 (Args.one .t)) r1 qz (qO rr qZ)))) V [8,7,6,5,4,3] [103,102,101,0] fun G=>(Ya (Ya ?_))
 refine Ze G (qR rr (qf (o_eql .t qi) r1 qz (qR rr (qv 2 102 Z r2 r1 (qk Z (fun h=>oL true 5 102 (.w h .adr)) r2 r1 (qk Z (fun h=>ZkQ (r:=[]) (zs:=[.int .i64 0,.int .i64 0,.int .i64 0,.int .i64 0,.int .i64 0]) (pl:=[(0,1),(1,1),(2,3)]) kr kr .nil (by rfl)) r1 qz (qk Z (fun h=>ZvW (ks:=[true,true,true,true,true]) kr (.w h) (.w h) (.int (.int (.int (.int (.int .nil)))))) r3 qz (qf (Zak .t .t) r2 qz (qR rr (qv 1 102 Z r2 r1 (qw 102 Z r2 r1 (qk Z (fun h=>oP (Zqk ZiB.walk (by decide)) func14 (Args.one (.w h))) r2 qz (qk Z (fun h=>o_not (.w h)) r2 qz (qf (Zak .t .t) r2 qz (qR rr (qm Z Z Z Z (qm Z Z Z Z (qk Z (fun h=>Zlr (.w h) (.w h)) r3 qz (qk Z (fun h=>o_neq (.w h) qi) r2 qz (qf (Zak .t .t) r2 qz (qR rr (qm Z Z Z Z (qk Z (fun h=>o_neq (.w h) qi) r2 qz (qk Z (fun h=>oM (.w h)) r2 qz (ZB.cons (ZaD.cond2 Z Z (fun h=>Za6 .t (by rfl))) r2 qz (ZB.cons (ZaD.cond2 Z Z (fun h=>Za6 .t (by rfl))) r2 qz (ZB.cons (ZaD.cond2 Z Z (fun h=>o_and (.w h) (.w h))) r3 qz (ZB.cons (ZaD.cond2 Z Z (fun h=>o_eql (.w h) qi)) r2 qz (qk Z (fun h=>ZE (.w h) (.wc h)) r3 qz (qf (Zak .t .t) r2 qz qZ)))))))))))))))))))))))))))))) V [71,5,4,3] [103,102,101,0] Z Z fun a w F G=>?_
 try dsimp only [List.map,Zf,xL,xM,Nat.reduceAdd,xD,xE,xT,xU,xC,xN,zCF,ldSF,Zv,rTx,ZH,ZU,Zn,rOp,Zq,ZkS] at G
 refine Za (Zc G Z (fun hc3=>?_) (fun hc3=>?_))
 ·exact absurd hc3 (by decide +kernel)
 refine Ye (Za (Ya (Ya (rZ G (qg 1 102 r1 r1 (qa 102 r1 r1 (qu Ycg r1 (qJ qZ)))) V [75,74,73,5,4] [103,102,101,0] fun G=>Yg ?_))))
 refine Zk (σ:=(Nat)) [4,5,73,74] [0,101,102,103] (fun s=>[(75,.pv (.int .i64 (s:Int)))]) (fun s=>[]) (fun s=>s≤ZiB.walk.length∧(True)) (fun s=>ZiB.walk.length - s) (0) G ⟨rfl,rfl,rfl,rfl,rfl,tv⟩ ⟨rfl,rfl,rfl,rfl,tv⟩ ⟨Yw _,tv⟩ ?_
 clear G;intro i a w F hC G
 try dsimp only at hC
 obtain ⟨F,G⟩:=G.nM [75,74,73,5,4] [103,102,101,0]
 try dsimp only at G
 obtain ⟨hi,hq⟩:=hC
 have hwl:ZiB.walk.length=2:=rfl
 refine Ya (rZ G (qL r2) V [76,75,74,73,5,4] [103,102,101,0] fun G=>Ya ?_)
 refine Zc G Z (fun hc4=>?_) (fun hc4=>?_)
 ·have hil:i<ZiB.walk.length:=by simp at hc4;omega
  refine Ye (Za (Ya (Yg (Ya (Zb G (qy 4 Ycg r2 (qf (oR true 4 .t) r1 qz (qf (oH [.int .i64 0,.int .i64 0,.int .i64 0,.int .i64 0] 104) trivial qz (qS 4 104 r2 r1 qZ)))) V [75,74,73,10,5,4] [104,103,102,101,0] (fun _=>rfl) (fun _=>rfl) fun τ a w F G=>?_)))))
  try dsimp only [RS.sub,SF.sub,CF.sub,csub,Anc.sub,List.map,Zf,xL,xM,Nat.reduceAdd,xD,xE,xT,xU,xC,xN,zCF,ldSF,Zv,rTx,ZH,ZU,Zn,rOp,Zq,ZkS] at G
  generalize τ 10=v10 at G
  try simp only [Yb] at G
  refine Za (Ya (rZ G (qe 2 103 r1 r1 (qe 4 104 r1 r1 (qf (oP (ZtH Zef (Nn ZiB.walk i) Zdq.1) func43 (Args.two (.pagg .t) (.pagg .t))) r2 qz (qf (o_not .t) r1 qz qZ)))) V [82,75,74,73,5,4] [104,103,102,101,0] fun G=>?_))
  refine Zc G Z (fun hc5=>?_) (fun hc5=>?_)
  ·rw [Znx i hil] at hc5;cases hc5
  refine Ye (Zi (Za (rZ G (qp r1 (qR rr qZ)) V [75,74,73,5,4] [104,103,102,101,0] fun G=>?_)))
  replace G:=G.ent (i:=75) (s':=.pv (.int .i64 ((i+1:Nat):Int))) Z (.int (Zd ow))
  obtain ⟨F,G⟩:=G.nM [74,73,5,4,75] [103,102,101,0]
  exact ⟨(i+1),F,⟨by omega,tv⟩,G,by omega⟩
 have hil:i=ZiB.walk.length:=by simp at hc4;omega
 refine Yx (Zj (Zj (Zo (Za (Ya (rZ G qB V [4] [103,102,101,0] fun G=>Yh ?_))))))
 refine Zs hfr G Z Z Z .refl
end Go.Proofs.YtlkpllemoepamaaGreat
