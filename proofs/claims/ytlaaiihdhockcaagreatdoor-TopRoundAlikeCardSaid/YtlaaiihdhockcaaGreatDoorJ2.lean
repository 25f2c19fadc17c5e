/- Laws and walks. No condition beyond what each says. -/
import Derived.Test.YtlaaiihdhockcaaGreatDoorJ1
namespace Go.Proofs.YtlaaiihdhockcaaGreatDoor
open Go Go.Gm Tryz
set_option linter.unusedVariables false
set_option linter.unusedSimpArgs false
set_option maxHeartbeats 4000000
set_option maxRecDepth 8000
theorem Zoa (b n:Nat) (q:List PairD) (last:List Int) (u v:Int) (hl:q.length<1000000):FnG prog 8 1 [.is (.pointer (some ⟨b,0,none⟩)),.int .i64 u,.int .i64 v] [clH (.pointer (some ⟨b,0,none⟩)) n q last] (.int .i64 (stepQ n q (⟨0,u,v⟩:Deed4)).2) (fun _=>[clH (.pointer (some ⟨b,0,none⟩)) n (stepQ n q (⟨0,u,v⟩:Deed4)).1 (lastD n q last (⟨0,u,v⟩:Deed4))]):=by
 refine FnG.mk func8 V ntmps8 V kr fun B F0 a w F J hG G=>?_
 obtain ⟨hhi0,_⟩:=Zkm (show (clH (.pointer (some ⟨b,0,none⟩)) n q last).p _ _ _ from G.r 1 _ rfl)
 refine Ya (rZ G (qI qZ) J [6,2,1,0] [1,0] fun G=>(Ya (Yk (Ya ?_))))
 refine Zb G (qR rr (qR rr (qf (o_callG1 1 (Ze2 b n q last u) func23 V kr (Args.two .t .t)) r2 r1 (qf (o_not .t) r1 qz (qR rr (qm V V V V (qm V V V V (Chain.cons (Cert.condR V V (by rfl) (fun h=>o_callG1 1 (Ze2 b n q last v) func23 V kr (Args.two (.w h) (.w h)))) r3 r1 (qk V (fun h=>o_not (.w h)) r2 qz (qf (Zaa .t .t) r2 qz (qO rr qZ))))))))))) J [9,6,2,1,0] [1,0] V V fun a w F G=>?_
 try dsimp only [rV,ZeH,Zk] at G
 refine Za (Zc G V (fun hc0=>?_) (fun hc0=>?_))
 ·have hg:stepQ n q (⟨0,u,v⟩:Deed4)=(q,1):=Zcc (by rintro ⟨h1,h2⟩;unfold There at h1 h2;simp at h1 h2 hc0;omega)
  refine Ya (rZ G (qI qZ) J [6,2,1,0] [1,0] fun G=>(Yl (Z6 (Zw ?_))))
  have G:=G.turn 1 V (r':=RS.hp (clH (.pointer (some ⟨b,0,none⟩)) n (stepQ n q (⟨0,u,v⟩:Deed4)).1 (lastD n q last (⟨0,u,v⟩:Deed4)))) (by unfold lastD;rw [hg];exact fun _ _ _ _ h=>h)
  refine Zy hG G V (.tmp V .nil) (.one (.int (by rw [hg]))) rfl
 have hth:There n u∧There n v:=by unfold There;simp at hc0;omega
 obtain ⟨hthu,hthv⟩:=hth
 obtain ⟨U,rfl⟩:=Yz hthu.1
 obtain ⟨Z,rfl⟩:=Yz hthv.1
 have hUn:U<n:=by have:=hthu.2;omega
 have hZn:Z<n:=by have:=hthv.2;omega
 have hg:stepQ n q (⟨0,(U:Int),(Z:Int)⟩:Deed4)=((q ++ [(⟨(U:Int),(Z:Int)⟩:PairD)]),0):=by unfold stepQ;rw [Yf ⟨hthu,hthv⟩,Yf rfl]
 obtain ⟨sx,G⟩:=G.open_ex 1 rfl
 obtain ⟨hk,G⟩:=G.open_and 1 rfl
 dsimp only [Zcu] at G
 obtain ⟨F,G⟩:=G.peel 1 2 V rfl
 obtain ⟨F,G⟩:=G.peel 1 3 V rfl
 obtain ⟨F,G⟩:=G.peel 1 4 V rfl
 obtain ⟨F,G⟩:=G.peel 1 5 V rfl
 obtain ⟨F,G⟩:=G.peel 1 6 V rfl
 obtain ⟨F,G⟩:=G.peel 1 7 V rfl
 have hhi:=hk.hi
 have hnl:=hk.nl
 have hrl:=hk.rl
 have hinn:=hk.inn
 obtain ⟨F,G⟩:=G.nM [9,6,2,1,0] [7,6,5,4,3,2,0]
 refine Ya (Zp G (qR rr (qf (o_nilCheck 2 .is (by rfl)) r1 r1 (qf (oF 0 2 .adr) r1 r1 (qa 2 r1 r1 (qR rr (qR rr (qf (oP (ZhN _ _ ow ow) func24 (Args.two .t .t)) r2 qz (qf (Za5 (ek:=(fun c:Int=>PV.int .i32 c)) (z0:=(0:Int)) 3 YbL (Zag (enc:=Zdm) (n:=2) (fun _=>rfl) ZaE YbJ YbH V) kr (fun _ _=>⟨rfl,Zbb ow⟩) .is (ZC.agg32 (enc:=Zdm) (k:=(⟨(U:Int),(Z:Int)⟩:PairD)) .t V)) r2 r1 (qf (o_eql .t qi) r1 qz (qO rr qZ)))))))))) J [20,6,2,1,0] [7,6,5,4,3,2,0] V V fun a w F G=>?_)
 try dsimp only [List.map,xD,xE,xT,xU,ldSF,rV,ZeH,Zk] at G
 have hql:=hk.len
 rw [hk.cnt.get] at G
 refine Za (Zc G V (fun hc1=>?_) (fun hc1=>?_))
 ·have hcl:q.count (⟨(U:Int),(Z:Int)⟩:PairD)≤q.length:=Ya9
  simp at hc1
  omega
 refine Yg (Zi (Za (Ya ?_)))
 replace G:=G.turnZ 3 (0:Int) (⟨(U:Int),(Z:Int)⟩:PairD) rfl
 refine Zd5 3 11 (m1:=1) (m2:=2) kr G kr (qR rr (qf (o_nilCheck 2 .is (by rfl)) r1 r1 (qf (oF 0 2 .adr) r1 r1 (qa 2 r1 r1 (qR rr (qR rr (qf (oP (ZhN _ _ ow ow) func24 (Args.two .t .t)) r2 qz (qf (Zgm (ek:=(fun c:Int=>PV.int .i32 c)) (z0:=(0:Int)) 3 YbL (Zag (enc:=Zdm) (n:=2) (fun _=>rfl) ZaE YbJ YbH V) kr (fun _ _=>⟨rfl,Zbb ow⟩) .is (ZC.agg32 (enc:=Zdm) (k:=(⟨(U:Int),(Z:Int)⟩:PairD)) .t V)) r2 r1 (qp r1 (qf (ZdY (ek:=(fun c:Int=>PV.int .i32 c)) (z0:=(0:Int)) 3 YbL (Zag (enc:=Zdm) (n:=2) (fun _=>rfl) ZaE YbJ YbH V) kr (fun _ _=>⟨rfl,Zbb ow⟩) .is (ZC.agg32 (enc:=Zdm) (k:=(⟨(U:Int),(Z:Int)⟩:PairD)) .t V) (by intros;first | rfl | simp [Anc.v,upd])) r2 r1 (qf (o_extract .t V) r1 qz (qf (ZcE 3 (Zea _ _ _) .is .t .t) r3 r1 qZ)))))))))))) kr kr kr V V V (fun _ _ _ _ h=>.inr h) (by rw [J];kernel_rfl) fun a w F G=>?_
 obtain ⟨F,G⟩:=G.nM [6,2,1,0] [7,6,5,4,3,2,0]
 try dsimp only [List.map,xD,xE,xT,xU,ldSF,rV,ZeH,Zk] at G
 have hcl:q.count (⟨(U:Int),(Z:Int)⟩:PairD)≤q.length:=Ya9
 rw [hk.cnt.get,Zdz ow] at G
 obtain ⟨es2,hes2⟩:∃ z,z=gSet (⟨(U:Int),(Z:Int)⟩:PairD) (((q.count (⟨(U:Int),(Z:Int)⟩:PairD):Nat):Int)+1) (gEns 0 (⟨(U:Int),(Z:Int)⟩:PairD) (sx.es,sx.ck)).1:=⟨_,rfl⟩
 obtain ⟨ck2,hck2⟩:∃ z,z=(gEns 0 (⟨(U:Int),(Z:Int)⟩:PairD) (sx.es,sx.ck)).2:=⟨_,rfl⟩
 rw [← hes2,← hck2] at G
 have hcnt2:Zhw (q ++ [(⟨(U:Int),(Z:Int)⟩:PairD)]) es2:=by rw [hes2];exact hk.cnt.inc
 refine Za (Ya ?_)
 obtain ⟨F,G⟩:=G.takeAt (Z5 n) 6 60 (U) V V (Zbe ow)
 replace G:=G.turn 60 V (r':=RS.hp (Z0 (Nn sx.ns U) n (nextQ q n (U:Int)))) (fun _ _ _ _ h=>h)
 obtain ⟨F,G⟩:=G.nM [6,2,1,0] [60,7,6,5,4,3,2,0]
 refine Zb G (qR rr (qf (o_nilCheck 2 .is (by rfl)) r1 r1 (qf (oF 1 2 .adr) r1 r1 (qa 2 r1 r1 (qR rr (qf (o_indexAddr_row (sz:=1) 4 (.mk YbB kr) .is .t ow ow (by rfl)) r2 r1 (qf (Zg (ag:=false) (sz':=1) (sz:=1) 4 .t (by intro x;rfl) (by rw [Yb];omega) kr kr kr) r1 r1 (qR rr (qf (o_callG1 60 (setV_c (Nn sx.ns U) n (nextQ q n (U:Int)) (Z:Int) true) func25 V kr (Args.three .t .t .cb)) r2 r1 qZ))))))))) J [6,2,1,0] [60,7,6,5,4,3,2,0] V V fun a w F G=>?_
 try simp only [Yb] at G
 obtain ⟨F,G⟩:=G.putAt (Z5 n) (L:=famL sx.ns (fun k=>nextQ q n (k:Int))) (x:=(Nn sx.ns U,(putL (nextQ q n (U:Int)) n (Z:Int) true))) 6 60 (U) (by rw [Zaj];omega) V V rfl
 rw [ZdC (ps:=sx.ns) (f:=(fun k=>nextQ q n (k:Int))) (g:=(fun k=>nextQ (q ++ [(⟨(U:Int),(Z:Int)⟩:PairD)]) n (k:Int))) (k:=U) (ZhL ow) (fun j _ hj=>ZhM ow)] at G
 obtain ⟨F,G⟩:=G.nM [6,2,1,0] [7,6,5,4,3,2,0]
 refine Za (Ya (rZ G (qR rr (qf (o_nilCheck 2 .is (by rfl)) r1 r1 (qf (oF 3 2 .adr) r1 r1 (qf (ZaG 2 .adr (.c V) one_is kr kr) r1 r1 qZ)))) J [6,2,1,0] [7,6,5,4,3,2,0] fun G=>(Ya (Ya ?_))))
 obtain ⟨F,G⟩:=G.takeAt (Z5 n) 7 61 (U) V V (Zbe ow)
 replace G:=G.turn 61 V (r':=RS.hp (Z0 (Nn sx.rs U) n (reachQ q (U:Int)))) (fun _ _ _ _ h=>h)
 obtain ⟨F,G⟩:=G.nM [6,2,1,0] [61,7,6,5,4,3,2,0]
 refine Zb G (qR rr (qf (o_nilCheck 2 .is (by rfl)) r1 r1 (qf (oF 2 2 .adr) r1 r1 (qa 2 r1 r1 (qR rr (qf (o_indexAddr_row (sz:=1) 5 (.mk YbB kr) .is .t ow ow (by rfl)) r2 r1 (qf (Zg (ag:=false) (sz':=1) (sz:=1) 5 .t (by intro x;rfl) (by rw [Yb];omega) kr kr kr) r1 r1 (qR rr (qf (OpC.lend 61 [59] setH_lend (oP (hasS_c n (reachQ q (U:Int)) (Z:Int)) func26 (Args.two .t .t)) ⟨rfl,tv,tv⟩ (.pv (fun _ _ _ _ h=>h)) trivial (by rfl)) r2 r1 qZ))))))))) J [61,6,2,1,0] [61,7,6,5,4,3,2,0] V V fun a w F G=>?_
 try simp only [Yb] at G
 obtain ⟨F,G⟩:=G.putBack (Z5 n) (L:=famL sx.rs (fun k=>reachQ q (k:Int))) 7 61 (U) (Zbe ow) V V rfl
 obtain ⟨F,G⟩:=G.nM [61,6,2,1,0] [7,6,5,4,3,2,0]
 refine Za (Zc G V (fun hc2=>?_) (fun hc2=>?_))
 ·have hz:∀ x,reachQ q x=reachQ (q ++ [(⟨(U:Int),(Z:Int)⟩:PairD)]) x:=fun x=>(ZmO (by simpa using hc2) x).symm
  replace G:=G.turn 7 V (r':=Zaw (Z5 n) (famL sx.rs (fun k=>reachQ (q ++ [(⟨(U:Int),(Z:Int)⟩:PairD)]) (k:Int)))) (by rw [← Za9 (ps:=sx.rs) (f:=(fun k=>reachQ q (k:Int))) (g:=(fun k=>reachQ (q ++ [(⟨(U:Int),(Z:Int)⟩:PairD)]) (k:Int))) (fun k _=>hz (k:Int))];exact fun _ _ _ _ h=>h)
  refine Ya (rZ G (qI qZ) J [6,2,1,0] [7,6,5,4,3,2,0] fun G=>(Yl (Zw ?_)))
  replace G:=G.fresh 50 rfl
  replace G:=G.turn 50 V (Z1 (T:=3) (sz:=1) (R:=Zk))
  obtain ⟨F,G⟩:=G.giveCell 50 2 3 V V V V rfl
  try dsimp only [List.set] at G
  obtain ⟨F,G⟩:=G.nM [6,2,1,0] [7,6,5,4,3,2,0]
  have G:=G.fresh 1 rfl
  obtain ⟨F,G⟩:=G.push 1 7 V V V kr
  obtain ⟨F,G⟩:=G.push 1 6 V V V kr
  obtain ⟨F,G⟩:=G.push 1 5 V V V kr
  obtain ⟨F,G⟩:=G.push 1 4 V V V kr
  obtain ⟨F,G⟩:=G.push 1 3 V V V kr
  obtain ⟨F,G⟩:=G.push 1 2 V V V kr
  have G:=G.turn 1 V (r':=RS.hp (clH (.pointer (some ⟨b,0,none⟩)) n (q ++ [(⟨(U:Int),(Z:Int)⟩:PairD)]) [])) (fun _ _ _ _ h=>⟨{ sx with es:=es2,ck:=ck2 },⟨YA _,hhi,hinn.add ow ow,(by rw [Yc,Yp];omega),hnl,hrl,hcnt2⟩,h⟩)
  obtain ⟨F,G⟩:=G.nM [6,2,1,0] [1,0]
  have G:=G.turn 1 V (r':=RS.hp (clH (.pointer (some ⟨b,0,none⟩)) n (stepQ n q (⟨0,(U:Int),(Z:Int)⟩:Deed4)).1 (lastD n q last (⟨0,(U:Int),(Z:Int)⟩:Deed4)))) (by unfold lastD;rw [hg];exact (by rw [Yf rfl,ZeS hz];exact fun _ _ _ _ h=>h))
  refine Zy hG G V (.tmp V .nil) (.one (.int (by rw [hg]))) rfl
 refine Yg (Za (Ya ?_))
 obtain ⟨F,G⟩:=G.takeAt (Z5 n) 7 61 (Z) V V (Zbe ow)
 replace G:=G.turn 61 V (r':=RS.hp (Z0 (Nn sx.rs Z) n (reachQ q (Z:Int)))) (fun _ _ _ _ h=>h)
 obtain ⟨F,G⟩:=G.nM [61,6,2,1,0] [61,7,6,5,4,3,2,0]
 replace G:=G.fresh 63 rfl
 refine Ze G (qR rr (qf (o_nilCheck 2 .is (by rfl)) r1 r1 (qf (oF 2 2 .adr) r1 r1 (qa 2 r1 r1 (qR rr (qf (o_indexAddr_row (sz:=1) 5 (.mk YbB kr) .is .t ow ow (by rfl)) r2 r1 (qf (Zg (ag:=false) (sz':=1) (sz:=1) 5 .t (by intro x;rfl) (by rw [Yb];omega) kr kr kr) r1 r1 (qf (o_callG2N 61 63 (copy_n (Nn sx.rs Z) n (reachQ q (Z:Int))) func27 V kr V (Args.one .t) PV.ptr_one) r1 r2 (qO rr qZ))))))))) J [7,6,2,1,0] [63,61,7,6,5,4,3,2,0] (fun _=>rfl) (fun _=>rfl) fun τ a w F G=>?_
 try dsimp only [RS.sub,SF.sub,CF.sub,csub,Anc.sub,List.map,xD,xE,xT,xU,ldSF,rV,ZeH,Zk] at G
 generalize τ 69=v69 at G
 try simp only [Yb] at G
 replace G:=G.turn 63 V (r':=RS.hp (Z0 v69 n (reachQ q (Z:Int)))) (fun _ _ _ _ h=>h)
 obtain ⟨F,G⟩:=G.putBack (Z5 n) (L:=famL sx.rs (fun k=>reachQ q (k:Int))) 7 61 (Z) (Zbe ow) V V rfl
 obtain ⟨F,G⟩:=G.nM [7,6,2,1,0] [63,7,6,5,4,3,2,0]
 refine Za (Ya (Zb G (qR rr (qR rr (qf (o_callG1 63 (setV_c v69 n (reachQ q (Z:Int)) (Z:Int) true) func25 V kr (Args.three .t .t .cb)) r2 r1 qZ))) J [7,6,1,0] [63,7,6,5,4,3,2,0] V V fun a w F G=>?_))
 obtain ⟨mr,hmr⟩:∃ z,z=putL (reachQ q (Z:Int)) n (Z:Int) true:=⟨_,rfl⟩
 rw [← hmr] at G
 refine Za (Ya (Ya (rZ G (qR rr (qf (o_nilCheck 2 .is (by rfl)) r1 r1 (qf (oF 2 2 .adr) r1 r1 (qa 2 r1 r1 (qf (Zx 5 YbB .is) r1 r1 (qJ qZ)))))) J [78,77,7,6,1,0] [63,7,6,5,4,3,2,0] fun G=>Yk ?_)))
 replace G:=G.fresh 50 rfl
 replace G:=G.turn 50 V (Z1 (T:=3) (sz:=1) (R:=Zk))
 replace G:=G.turn 7 V (r':=Zaw (Z5 n) (famL sx.rs (ZfJ q (q ++ [(⟨(U:Int),(Z:Int)⟩:PairD)]) 0))) (by rw [ZhV];exact fun _ _ _ _ h=>h)
 refine Zl (σ:=(Nat)×(Value)×(List Int)) [0,1,6,7,77] [0,3,4,5,6,63] (fun s=>[(78,.pv (.int .i64 (s.1:Int)))]) (fun s=>[(2,.pt (.val (.pointer (some ⟨b,0,none⟩))) 50 [.pv (.is sx.cv),.pv (.is sx.nv),.pv (.is sx.rv),.pv (.is s.2.1)]),(50,.ob (.val s.2.1) (Zo 3 1 Zk s.2.2)),(7,Zaw (Z5 n) (famL sx.rs (ZfJ q (q ++ [(⟨(U:Int),(Z:Int)⟩:PairD)]) s.1)))]) (fun s=>s.1≤sx.rs.length∧(s.2.2=ZfK q (q ++ [(⟨(U:Int),(Z:Int)⟩:PairD)]) s.1)) (fun s=>sx.rs.length - s.1) ((0),(.slice none 0 0),([])) G ⟨rfl,rfl,rfl,rfl,rfl,rfl,tv⟩ ⟨rfl,rfl,rfl,rfl,rfl,rfl,rfl,rfl,rfl,tv⟩ ⟨YA _,rfl⟩ ?_
 clear G;intro s a w F hC G
 obtain ⟨i,wv,ls⟩:=s
 try dsimp only at hC
 obtain ⟨F,G⟩:=G.nM [78,77,7,6,1,0] [63,50,7,6,5,4,3,2,0]
 try dsimp only at G
 obtain ⟨hi,hq⟩:=hC
 have hlsl:ls.length≤i:=by rw [hq];exact ZgH _ _ _
 refine Ya (rZ G (qL r2) J [79,78,77,7,6,1,0] [63,50,7,6,5,4,3,2,0] fun G=>Ya ?_)
 refine Zc G V (fun hc3=>?_) (fun hc3=>?_)
 ·have hil:i<sx.rs.length:=by simp at hc3;omega
  refine Yg (Za (Ya (Yk (Ya (rZ G (qR rr (qO rr qZ)) J [78,77,8,7,6,1,0] [63,50,7,6,5,4,3,2,0] fun G=>Ya ?_)))))
  obtain ⟨F,G⟩:=G.takeAt (Z5 n) 7 61 (i) V V (Zbe ow)
  replace G:=G.turn 61 V (r':=RS.hp (Z0 (Nn sx.rs i) n (reachQ q (i:Int)))) (fun _ _ _ _ h=>by rw [← Zni q (q ++ [(⟨(U:Int),(Z:Int)⟩:PairD)]) i];exact h)
  obtain ⟨F,G⟩:=G.nM [78,77,8,7,6,1,0] [63,61,50,7,6,5,4,3,2,0]
  refine Zb G (qR rr (qR rr (qf (o_eql .t .t) r2 qz (qR rr (qm V V V V (qk V (fun h=>o_nilCheck 2 (.w h .is) (by rfl)) r2 r1 (qk V (fun h=>oF 2 2 (.w h .adr)) r2 r1 (qw 2 V r2 r1 (qm V V V V (qk V (fun h=>o_indexAddr_row (sz:=1) 5 (.mk YbB kr) (.w h .is) (.w h) ow ow (by rfl)) r3 r1 (qk V (fun h=>Zg (ag:=false) (sz':=1) (sz:=1) 5 (.w h) (by intro x;rfl) (by rw [Yb];omega) kr kr kr) r2 r1 (qm V V V V (qk V (fun h=>OpC.lend 61 [91] setH_lend (oP (hasS_c n (reachQ q (i:Int)) (U:Int)) func26 (Args.two (.w h) (.w h))) ⟨rfl,tv,tv⟩ (.pv (fun _ _ _ _ h=>h)) trivial (by rfl)) r3 r1 (qf (Zaa .t .t) r2 qz (qR rr (qm V V V V (qk V (fun h=>o_nilCheck 2 (.w h .is) (by rfl)) r2 r1 (qk V (fun h=>oF 2 2 (.w h .adr)) r2 r1 (qw 2 V r2 r1 (qm V V V V (qk V (fun h=>o_indexAddr_row (sz:=1) 5 (.mk YbB kr) (.w h .is) (.w h) ow ow (by rfl)) r3 r1 (qk V (fun h=>Zg (ag:=false) (sz':=1) (sz:=1) 5 (.w h) (by intro x;rfl) (by rw [Yb];omega) kr kr kr) r2 r1 (qm V V V V (Chain.cons (Cert.condS (pr2:=[(61,RS.hp (Z0 (Nn sx.rs i) n (if ((i:Int)=(U:Int)∨(U:Int) ∈ reachQ q (i:Int)) then orL (reachQ q (i:Int)) n mr else reachQ q (i:Int))))]) V V (by rfl) (fun hb=>by rw [Yf (by simpa using hb)]) (fun hb x hx=>by rw [Ye (by simpa using hb)] at hx;simp only [Yd] at hx;subst hx;first | exact Yw _ (Yd.2 V) | simp) (fun h=>OpC.lend 63 [103] setH_lend (o_callG1 61 (Zo0 (Nn sx.rs i) n (reachQ q (i:Int)) n mr) func28 V kr (Args.two (.w h) (.w h))) ⟨tv,rfl,tv⟩ (.pv (fun _ _ _ _ h=>h)) ⟨(fun _ _ _ _ _ _ _ _ h e k=>Zcz h e k),tv⟩ (by rfl))) r3 r2 (qf (ZF .t .t) r2 qz qZ))))))))))))))))))))))))) J [105,78,77,8,7,6,1,0] [63,61,50,7,6,5,4,3,2,0] V V fun a w F G=>?_
  try dsimp only [List.map,xD,xE,xT,xU,ldSF,rV,ZeH,Zk] at G
  try simp only [Yb] at G
  have hnew:(if ((i:Int)=(U:Int)∨(U:Int) ∈ reachQ q (i:Int)) then orL (reachQ q (i:Int)) n mr else reachQ q (i:Int))=reachQ (q ++ [(⟨(U:Int),(Z:Int)⟩:PairD)]) (i:Int):=by
    rw [hmr]
    by_cases hc1:((i:Int)=(U:Int)∨(U:Int) ∈ reachQ q (i:Int))
    ·rw [Yf hc1];exact ZoC hinn ow ow hc1
    ·rw [Ye hc1];exact (Zjh hc1).symm
  rw [hnew] at G
  obtain ⟨F,G⟩:=G.putAt (Z5 n) (L:=famL sx.rs (ZfJ q (q ++ [(⟨(U:Int),(Z:Int)⟩:PairD)]) i)) (x:=(Nn sx.rs i,(reachQ (q ++ [(⟨(U:Int),(Z:Int)⟩:PairD)]) (i:Int)))) 7 61 (i) (by rw [Zaj];omega) V V rfl
  rw [ZdC (ps:=sx.rs) (f:=(ZfJ q (q ++ [(⟨(U:Int),(Z:Int)⟩:PairD)]) i)) (g:=(ZfJ q (q ++ [(⟨(U:Int),(Z:Int)⟩:PairD)]) (i+1))) (k:=i) (mix_next q _) (fun j _ hj=>mix_other q _ hj)] at G
  obtain ⟨F,G⟩:=G.nM [105,78,77,8,7,6,1,0] [63,50,7,6,5,4,3,2,0]
  refine Za (Zc G V (fun hc4=>?_) (fun hc4=>?_))
  ·have hb2:=hc4
   rw [YB] at hb2
   have hc1:((i:Int)=(U:Int)∨(U:Int) ∈ reachQ q (i:Int)):=by simpa using hb2.1
   have hBq:¬ reachQ q (i:Int)=reachQ (q ++ [(⟨(U:Int),(Z:Int)⟩:PairD)]) (i:Int):=by rw [← hnew,Yf hc1];simpa using hb2.2
   refine Ze G (qR rr (qR rr (qf (o_nilCheck 2 .is (by rfl)) r1 r1 (qf (oF 3 2 .adr) r1 r1 (qa 2 r1 r1 (qR rr (qf (o_buildSliceE (sz:=1) (zs:=[.int .i64 0]) (r:=[(0,.tmp 111)]) (l:=[_]) YbA kr kr kr kr V V (.one V .t one_int kr .nil) V) r1 qz (qf (ZB (sz:=1) (bs:=8) 50 (.mk' YbA kr kr) (by intro x;rfl) .is (.arr (l':=[(i:Int)]) .t) (by simp only [Yc,Yx,YS];omega) (by decide)) ⟨rfl,rfl,tv⟩ ⟨rfl,tv⟩ (qf (o_nilCheck 2 .is (by rfl)) r1 r1 (qf (oF 3 2 .adr) r1 r1 (qf (o_storeS 2 .adr kr kr) r2 r1 qZ))))))))))) J [78,77,7,6,1,0] [63,50,7,6,5,4,3,2,0] (fun _=>rfl) (fun _=>rfl) fun τ a w F G=>?_
   try dsimp only [RS.sub,SF.sub,CF.sub,csub,Anc.sub,List.map,Zh,xL,xM,Nat.reduceAdd,xD,xE,xT,xU,xC,xN,zCF,ldSF,rV,ZeH,Zk] at G
   generalize τ 113=v113 at G
   refine Zi (Za (rZ G (qp r1 (qR rr qZ)) J [78,77,7,6,1,0] [63,50,7,6,5,4,3,2,0] fun G=>?_))
   replace G:=G.ent (i:=78) (s':=.pv (.int .i64 ((i+1:Nat):Int))) V (.int (Zf ow))
   obtain ⟨F,G⟩:=G.nM [77,7,6,1,0,78] [63,6,5,4,3,0,7,50,2]
   exact ⟨((i+1),(v113),(ls ++ [(i:Int)])),F,⟨by omega,(by rw [ZbP,← hq,Ye hBq])⟩,G,by omega⟩
  have hBq:reachQ q (i:Int)=reachQ (q ++ [(⟨(U:Int),(Z:Int)⟩:PairD)]) (i:Int):=by
    have hb2:=hc4
    rw [Bool.and_eq_false_iff] at hb2
    by_cases hc1:((i:Int)=(U:Int)∨(U:Int) ∈ reachQ q (i:Int))
    ·rw [← hnew,Yf hc1]
     rcases hb2 with hb2 | hb2
     ·exact absurd hc1 (by simpa using hb2)
     ·simpa using hb2
    ·rw [← hnew,Ye hc1]
  refine Yg (Zi (Za (rZ G (qp r1 (qR rr qZ)) J [78,77,7,6,1,0] [63,50,7,6,5,4,3,2,0] fun G=>?_)))
  replace G:=G.ent (i:=78) (s':=.pv (.int .i64 ((i+1:Nat):Int))) V (.int (Zf ow))
  obtain ⟨F,G⟩:=G.nM [77,7,6,1,0,78] [63,6,5,4,3,0,7,50,2]
  exact ⟨((i+1),(wv),(ls)),F,⟨by omega,(by rw [ZbP,← hq,Yf hBq,Yax])⟩,G,by omega⟩
 have hil:i=sx.rs.length:=by simp at hc3;omega
 have hls:ls=Zfj n q (q ++ [(⟨(U:Int),(Z:Int)⟩:PairD)]):=by rw [hq,hil,hrl];exact Zf2 n q _
 replace G:=G.turn 7 V (r':=Zaw (Z5 n) (famL sx.rs (fun k=>reachQ (q ++ [(⟨(U:Int),(Z:Int)⟩:PairD)]) (k:Int)))) (by rw [← Za9 (ps:=sx.rs) (f:=(ZfJ q (q ++ [(⟨(U:Int),(Z:Int)⟩:PairD)]) i)) (g:=(fun k=>reachQ (q ++ [(⟨(U:Int),(Z:Int)⟩:PairD)]) (k:Int))) (fun k hk=>by unfold ZfJ;rw [Yf ow])];exact fun _ _ _ _ h=>h)
 refine YI (Zm (Zm (Zu (Za (Ya (rZ G (qI qZ) J [6] [63,50,7,6,5,4,3,2,0] fun G=>Yl ?_))))))
 obtain ⟨F,G⟩:=G.giveCell 50 2 3 V V V V rfl
 try dsimp only [List.set] at G
 obtain ⟨F,G⟩:=G.nM [6] [7,6,5,4,3,2,0]
 have G:=G.fresh 1 rfl
 obtain ⟨F,G⟩:=G.push 1 7 V V V kr
 obtain ⟨F,G⟩:=G.push 1 6 V V V kr
 obtain ⟨F,G⟩:=G.push 1 5 V V V kr
 obtain ⟨F,G⟩:=G.push 1 4 V V V kr
 obtain ⟨F,G⟩:=G.push 1 3 V V V kr
 obtain ⟨F,G⟩:=G.push 1 2 V V V kr
 have G:=G.turn 1 V (r':=RS.hp (clH (.pointer (some ⟨b,0,none⟩)) n (q ++ [(⟨(U:Int),(Z:Int)⟩:PairD)]) ls)) (fun _ _ _ _ h=>⟨{ sx with es:=es2,ck:=ck2 },⟨(by rw [hls];exact lastQ_len n q _),hhi,hinn.add ow ow,(by rw [Yc,Yp];omega),hnl,hrl,hcnt2⟩,h⟩)
 obtain ⟨F,G⟩:=G.nM [6] [1,0]
 have G:=G.turn 1 V (r':=RS.hp (clH (.pointer (some ⟨b,0,none⟩)) n (stepQ n q (⟨0,(U:Int),(Z:Int)⟩:Deed4)).1 (lastD n q last (⟨0,(U:Int),(Z:Int)⟩:Deed4)))) (by unfold lastD;rw [hg];exact (by rw [Yf rfl,← hls];exact fun _ _ _ _ h=>h))
 refine Zy hG G V (.tmp V .nil) (.one (.int (by rw [hg]))) rfl
def ZfZ (F:Fp) (ns:List Nat):Fp:=fun m=>if m ∈ ns then fun _=>False else F m
theorem ZmM (F:Fp) (ns:List Nat):∀ b,U (ZfZ F ns) b→U F b:=fun b ⟨m,hm⟩=>⟨m,by
 unfold ZfZ at hm
 by_cases e:m ∈ ns
 ·simp only [e,Yo] at hm
 ·simp only [e,Yj] at hm;exact hm⟩
def Znt (ns:List Nat) (c:CD):Bool:=c.pr.all (fun x=>!decide (x.1 ∈ ns)) && c.qr.all (fun x=>!decide (x.1 ∈ ns))
theorem OpC.lendL {P:Program} {o:Oper} {ps:List (Nat×SF)} {pr qr ls:List (Nat×RS)} {q:SF} (is:List Nat) {v:Value} {pv:PV}
  (hl:∀ (τ:Tau) (w:World) (F:Fp) (y':Ys),(∀ x ∈ ls,x.2.holds τ w (F x.1) (U F))→(∀ b,y' b→U F b)→(∀ x ∈ ls,∀ b,F x.1 b→¬ y' b)→(∀ x ∈ ls,∀ b,F x.1 b→b<w.heap.size)→pv.p v w y')
  (hc:Go.Gm.OpC P o ⟨ps,pr,q,qr⟩) (hk:LentOk is pv ps) (hq:ZoO q) (hqr:∀ x ∈ qr,∀ (τ τ0:Tau) (w:World) (F:Fp) (w':World) (f y1 y':Ys),(∀ z ∈ ls,z.2.holds τ0 w (F z.1) (U F))→Ev w (U F) w' y' → x.2.holds τ w' f y1→x.2.holds τ w' f y')
  (hst:∀ x ∈ ls,x.2.deps = []) (hni:Znt (ls.map (·.1)) ⟨ps,pr,q,qr⟩ = true) :
  Go.Gm.OpC P o ⟨lendPs is v ps,ls++pr,q,qr⟩:=fun a w F K Q hw hp hr ht=>by
 obtain ⟨ns,hns⟩:∃ ns,ns=ls.map (·.1):=⟨_,rfl⟩
 rw [← hns] at hni
 have hin:∀ x ∈ ls,x.1 ∈ ns:=fun x hx=>by rw [hns];exact YD.2 ⟨x,hx,rfl⟩
 have hle:=ZmM F ns
 have hev:=Ev.less w hle
 simp only [Znt,YB,Yay,Yai,YR] at hni
 have hn1:∀ x ∈ pr,x.1 ∉ ns:=hni.1
 have hn2:∀ x ∈ qr,x.1 ∉ ns:=hni.2
 have hW:∀ l ∈ ns,l ∉ CD.W ⟨ps,pr,q,qr⟩:=by
  intro l hl hm
  obtain ⟨x,hx,e⟩:=YD.1 hm
  exact hn2 x hx (e ▸ hl)
 have hh:∀ x ∈ ls,x.2.holds (Act.tau a) w (F x.1) (U F):=fun x hx=>hr x (Y6 _ hx)
 have hsame:∀ m,m ∉ ns→ZfZ F ns m=F m:=fun m hm=>by unfold ZfZ;rw [Ye hm]
 have hdl:∀ m ∈ ns,∀ b,¬ ZfZ F ns m b:=fun m hm b hb=>by unfold ZfZ at hb;simp only [hm,Yo] at hb
 have hpv:pv.p v w (U (ZfZ F ns)):=hl (Act.tau a) w F _ hh hle (fun x hx b hb ⟨m,hm⟩=>by
  by_cases e:m ∈ ns
  ·exact hdl m e b hm
  ·rw [hsame m e] at hm;exact e (hw.dis x.1 m b hb hm ▸ hin x hx)) (fun x hx b hb=>hw.bd x.1 b hb)
 refine hc a w (ZfZ F ns) K Q ⟨fun n m b hn hm=>?_,fun n b hn=>?_⟩ (ZcK hpv hle hk hp) (fun x hx=>?_) ?_
 ·by_cases e1:n ∈ ns
  ·exact absurd hn (hdl n e1 b)
  ·by_cases e2:m ∈ ns
   ·exact absurd hm (hdl m e2 b)
   ·rw [hsame n e1] at hn;rw [hsame m e2] at hm;exact hw.dis n m b hn hm
 ·obtain ⟨m,hm⟩:=hle b ⟨n,hn⟩
  exact hw.bd m b hm
 ·have:=hr x (YO _ hx)
  rw [hsame x.1 (hn1 x hx)]
  exact RS.mono hev (fun _ _=>rfl) (fun _ _=>rfl) this
 ·intro u w' F' hwf' hst2 hqh hqrh
  have hF'l:∀ l ∈ ns,∀ b,¬ F' l b:=fun l hl b hb=>by rw [hst2.fkeep l (hW l hl)] at hb;exact hdl l hl b hb
  have hout:∀ n,n ∉ ns → ∀ l ∈ ns,∀ b,F' n b→¬ F l b:=by
   intro n hn l hl b hb hbl
   by_cases e:n ∈ CD.W ⟨ps,pr,q,qr⟩
   ·rcases hst2.fnew n e b hb with ⟨m,hm,hmb⟩ | hge
    ·have hml:m ∉ ns:=fun e=>hW m e hm
     rw [hsame m hml] at hmb
     exact hml (hw.dis m l b hmb hbl ▸ hl)
    ·exact absurd (hw.bd l b hbl) ow
   ·rw [hst2.fkeep n e,hsame n hn] at hb
    exact hn (hw.dis n l b hb hbl ▸ hl)
  have hst3:Stp (CD.W ⟨lendPs is v ps,ls++pr,q,qr⟩) w F w' (fun m=>if m ∈ ns then F m else F' m):=by
   refine ⟨hst2.os,hst2.tape,hst2.output,hst2.size,fun b hb hn=>?_,fun n hn=>?_,fun n hn b hb=>?_⟩
   ·refine hst2.keep b hb (fun n hn'=>?_)
    by_cases e:n ∈ ns
    ·exact hdl n e b
    ·rw [hsame n e];exact hn n hn'
   ·by_cases e:n ∈ ns
    ·simp only [e,Yo]
    ·simp only [e,Yj]
     have:=hst2.fkeep n hn
     rw [this,hsame n e]
   ·have hnl:n ∉ ns:=fun e=>hW n e hn
    simp only [hnl,Yj] at hb
    rcases hst2.fnew n hn b hb with ⟨m,hm,hmb⟩ | hge
    ·have hml:m ∉ ns:=fun e=>hW m e hm
     exact .inl ⟨m,hm,by rw [hsame m hml] at hmb;exact hmb⟩
    ·exact .inr hge
  refine ht u w' (fun m=>if m ∈ ns then F m else F' m) ⟨fun n m b hn hm=>?_,fun n b hn=>?_⟩ hst3 (hq _ _ _ _ _ hqh) (fun x hx=>?_)
  ·by_cases e1:n ∈ ns <;> by_cases e2:m ∈ ns <;> simp only [e1,e2,Yo,Yj] at hn hm
   ·exact hw.dis n m b hn hm
   ·exact absurd hn (hout m e2 n e1 b hm)
   ·exact absurd hm (hout n e1 m e2 b hn)
   ·exact hwf'.dis n m b hn hm
  ·by_cases e1:n ∈ ns <;> simp only [e1,Yo,Yj] at hn
   ·exact YU (hw.bd n b hn) hst2.size
   ·exact hwf'.bd n b hn
  ·have:=hqrh x hx
   have e:(fun m=>if m ∈ ns then F m else F' m) x.1=F' x.1:=Ye (hn2 x hx)
   rw [e]
   exact hqr x hx _ _ _ _ _ _ _ _ hh hst3.ev this
def ZjY (n:Nat) (x:List Int):List PV:=[setR n x]
def nextsQ (q:List PairD) (n:Nat):List (List Int):=(List.range n).map fun k:Nat=>nextQ q n (k:Int)
theorem nextsQ_len (q:List PairD) (n:Nat):(nextsQ q n).length=n:=by unfold nextsQ;rw [YZ,List.length_range]
theorem ZcP {q:List PairD} {n k:Nat} (h:k<n):Nn (nextsQ q n) k=nextQ q n (k:Int):=by
 rw [nth_eq (by rw [nextsQ_len];exact h)]
 simp [nextsQ]
theorem FnG.ofTab {f:FuncId} {args:List PV} {q:PV} {qr:Value→List HP} {n:Nat} {x:List Int} (hc:FnG prog f 1 (setR n x :: args) [gH Zez ZfU] q qr):FnG prog f 1 (setR n x :: args) [HP.star []] q qr:=fun w F vs hw hle hvs hpr=>by
 refine hc w F vs hw hle hvs fun i k hi=>?_
 match i,hi with
 | 0,hi=>
  simp at hi;subst hi
  match vs,hvs with
  | u :: us,hvs=>exact ⟨fun b hb=>(hpr 0 _ rfl:stars w (U F) [] (F 1)) b hb,hvs.1.2⟩
theorem listN_c (n:Nat) (x:List Int):FnG prog 58 1 [setR n x] [.star []] (PV.one) (fun v=>[Zo 3 1 Zk x v]):=by
 refine FnG.mk func58 V ntmps58 V kr fun B F0 a w F J hG G=>?_
 obtain ⟨F,G⟩:=G.nM [0] [0]
 have hup:=Sat.setRup G (i:=0) rfl
 have hlen:=hup.2.len
 refine Ya (rZ G (qC qZ) J [2,0] [0] fun G=>Ya ?_)
 refine rZ G (qC qZ) J [3,2,0] [0] fun G=>(Ya (Ya ?_))
 refine Zb G (qR rr (qf (oP (ZeL n x 0) func80 (Args.two .t qi)) r1 qz (qO rr qZ))) J [4,3,2,0] [0] V V fun a w F G=>?_
 rw [Zb7 hup.2] at G
 refine Za (Yk ?_)
 replace G:=G.fresh 50 rfl
 replace G:=G.turn 50 V (Z1 (T:=3) (sz:=1) (R:=Zk))
 refine Zl (σ:=Nat×Value) [0,2] [0] (fun s=>[(3,.pv (.is s.2)),(4,.pv (.int .i64 (Zj2 x s.1)))]) (fun s=>[(50,.ob (.val s.2) (Zo 3 1 Zk (x.take s.1)))]) (fun s=>s.1≤x.length) (fun s=>x.length - s.1) ((0),(.slice none 0 0)) G ⟨rfl,rfl,rfl,rfl,tv⟩ ⟨rfl,rfl,tv⟩ (YA _) ?_
 clear G;intro s a w F hC G
 obtain ⟨k,v⟩:=s
 try dsimp only at hC
 obtain ⟨F,G⟩:=G.nM [4,3,2,0] [50,0]
 try dsimp only at G
 have hk:k≤x.length:=hC
 refine Ya (Ya (rZ G (qR rr (qf (Zb6 .t qi) r1 qz qZ)) J [8,4,3,2,0] [50,0] fun G=>?_))
 refine Zc G V (fun hc0=>?_) (fun hc0=>?_)
 ·have hkl:k<x.length:=(ZbF hup.2).1 (by simpa using hc0)
  rw [show Zj2 x k=Nn x k from Yf hkl] at G
  have hxk:=hup.2.2 _ (nth_mem hkl)
  refine Yg (Za (Ya (Yk (Ze G (qR rr (qR rr (qf (o_buildSliceE (sz:=1) (zs:=[.int .i64 0]) (r:=[(0,.tmp 14)]) (l:=[_]) YbA kr kr kr kr V V (.one V .t one_int kr .nil) V) r1 qz (qf (ZB (sz:=1) (bs:=8) 50 (.mk' YbA kr kr) (by intro x;rfl) .is (.arr (l':=[Nn x k]) .t) (by simp only [Ym,Yx,YS];omega) (by decide)) ⟨rfl,rfl,tv⟩ ⟨rfl,tv⟩ (qO rr qZ))))) J [4,3,2,0] [50,0] (fun _=>rfl) (fun _=>rfl) fun τ a w F G=>?_))))
  try dsimp only [RS.sub,SF.sub,CF.sub,csub,Anc.sub,List.map,Zh,xL,xM,Nat.reduceAdd,xD,xE,xT,xU,xC,xN,zCF] at G
  generalize τ 16=v16 at G
  refine Zi (Za (Zb G (qR rr (qR rr (qp r1 (qf (oP (ZeL n x _) func80 (Args.two .t .t)) r2 qz (qO rr qZ))))) J [4,3,2,0] [50,0] V V fun a w F G=>?_))
  rw [Zr ow,Zc4 hup.2 hkl] at G
  refine Za ?_
  rw [Zcb hkl] at G
  obtain ⟨F,G⟩:=G.nM [2,0,4,3] [0,50]
  exact ⟨((k+1),_),F,(by show k+1≤x.length;omega),G,(by show x.length - (k+1)<x.length - k;omega)⟩
 have hkl:k=x.length:=by have:=(not_congr (ZbF hup.2)).1 (by simpa using hc0);omega
 rw [hkl,Yac] at G
 have hg:x=x:=rfl
 refine YI (Zm (Zm (Zu (Za (Ya (rZ G (qR rr (qO rr qZ)) J [2] [50,0] fun G=>Yl ?_))))))
 obtain ⟨F,G⟩:=G.rename 50 1 V rfl
 have G:=G.turn 1 V (r':=RS.hp (Zo 3 1 Zk x v)) (fun _ _ _ _ h=>by rw [hg];exact h)
 refine ZU (h':=fun v=>Zo 3 1 Zk x v) hG G V (.tmp V .nil) (.one .one) rfl
theorem ZoT (n:Nat) (q:List PairD) (X:Nat) (hX:X<n) (hhi:n≤4096) (hinn:InN n q):FnG prog 31 1 [.ref [.any,.sl (ZjY n) (nextsQ q n),.any,.any],.int .i64 (X:Int)] [HP.star []] (PV.ptr) (fun v=>[Z0 v n (reachQ q (X:Int))]):=by
 refine FnG.mk func31 V ntmps31 V kr fun B F0 a w F J hG G=>?_
 have hnx:=nextsQ_len q n
 refine Ya (rZ G (qC qZ) J [4,1,0] [1,0] fun G=>Ya ?_)
 refine Ze G (qR rr (qf (o_nilCheck_ref .t) r1 qz (qf (oG 1 .t) r1 qz (qf (oR false 1 .t) r1 qz (qR rr (qf (o_indexAddr_sl (sz:=1) (.mk YbB kr) (by intro x;rfl) .t .t ow (by rw [nextsQ_len];omega)) r2 qz (qf (oR false 1 .t) r1 qz (qf (o_callN 1 (FnG.ofTab (copy_c n (Nn (nextsQ q n) X))) func27 V kr (Args.one .t) PV.ptr_one) r1 r1 (qO rr qZ))))))))) J [5,4,1,0] [1,0] (fun _=>rfl) (fun _=>rfl) fun τ a w F G=>?_
 try dsimp only [RS.sub,SF.sub,CF.sub,csub,Anc.sub,List.map,xD,xE,xT,xU,ldSF,ZjY,Zk] at G
 generalize τ 16=v16 at G
 try simp only [Yb] at G
 rw [ZcP hX] at G
 obtain ⟨_,_,_,ho⟩:=G.obGet 1 rfl
 obtain ⟨b2,rfl⟩:=ZbK ho
 clear ho
 replace G:=G.turn 1 V (r':=RS.hp (Z0 (.pointer (some ⟨b2,0,none⟩)) n (nextQ q n (X:Int)))) (fun _ _ _ _ h=>h)
 obtain ⟨F,G⟩:=G.nM [5,4,1,0] [1,0]
 refine Za (Ya ?_)
 replace G:=G.fresh 70 rfl
 refine Ze G (qR rr (qf (o_nilCheck_ref .t) r1 qz (qf (oG 1 .t) r1 qz (qf (oR false 1 .t) r1 qz (qR rr (qf (o_indexAddr_sl (sz:=1) (.mk YbB kr) (by intro x;rfl) .t .t ow (by rw [nextsQ_len];omega)) r2 qz (qf (oR false 1 .t) r1 qz (qf (o_callN 70 (listN_c n (Nn (nextsQ q n) X)) func58 V kr (Args.one .t) pvOne1) r1 r1 (qO rr qZ))))))))) J [6,5,4,0] [70,1,0] (fun _=>rfl) (fun _=>rfl) fun τ a w F G=>?_
 try dsimp only [RS.sub,SF.sub,CF.sub,csub,Anc.sub,List.map,xD,xE,xT,xU,ldSF,ZjY,Zk] at G
 generalize τ 24=v24 at G
 try simp only [Yb] at G
 rw [ZcP hX] at G
 refine Za (Ya (Yk (Zl (σ:=Value×List Int×List Int) [0,4,5] [0] (fun s=>[(6,.pv (.is s.1))]) (fun s=>[(70,.ob (.val s.1) (Zo 3 1 Zk s.2.1)),(1,RS.hp (Z0 (.pointer (some ⟨b2,0,none⟩)) n s.2.2))]) (fun s=>Zlk n q (X:Int) s.2.2 s.2.1∧2*(n - s.2.2.length)+s.2.1.length≤2*n) (fun s=>2*(n - s.2.2.length)+s.2.1.length) ((v24),((nextQ q n (X:Int))),((nextQ q n (X:Int)))) G ⟨rfl,rfl,rfl,rfl,tv⟩ ⟨rfl,rfl,rfl,tv⟩ ⟨Zjc hinn,by show 2*(n - (nextQ q n (X:Int)).length)+(nextQ q n (X:Int)).length≤2*n;have:=Zh7 (ZaB q n (X:Int));omega⟩ ?_)))
 clear G;intro s a w F hC G
 obtain ⟨u,wt,rw⟩:=s
 try dsimp only at hC
 obtain ⟨F,G⟩:=G.nM [6,5,4,0] [70,1,0]
 try dsimp only at G
 obtain ⟨hL,hmu⟩:=hC
 have hul:=Zh7 hL.up
 refine Ya (Ya (rZ G (qR rr (qf (Zx 70 YbA .is) r1 r1 (qf (Zbq .t qi) r1 qz qZ))) J [27,6,5,4,0] [70,1,0] fun G=>?_))
 refine Zc G V (fun hc0=>?_) (fun hc0=>?_)
 ·have hwt0:0<wt.length:=by simp at hc0;omega
  obtain ⟨wi,y9,rfl⟩:∃ wi y9,wt=wi ++ [y9]:=⟨wt.dropLast,wt.getLast (by intro h;rw [h] at hwt0;simp at hwt0),(List.dropLast_concat_getLast _).symm⟩
  have hyr:=hL.up.2 y9 (hL.sub y9 (by simp))
  obtain ⟨Y9,rfl⟩:=Yz hyr.1
  have hmu2:=hmu
  rw [Yc,Yp] at hmu2
  have hlw:IntKind.wrap .i64 ((((wi ++ [(Y9:Int)]).length:Nat):Int) - 1)=(wi.length:Int):=by rw [Yc,Yp,Zr ow];omega
  have hL2:=Zk8 hinn hL
  have hll:=Zm0 hL.up (ZaB q n (Y9:Int))
  have hul2:=Zh7 hL2.up
  have hml:(ZR (nextQ q n (Y9:Int)) rw).length≤n:=by omega
  refine Yg (Za (Yk (Ya (Zb G (qR rr (qR rr (qf (Zx 70 YbA .is) r1 r1 (qf (o_sub .t qi) r1 qz (qf (o_indexAddr_row (sz:=1) 70 (.mk YbA kr) .is .t (by rw [hlw];omega) (by rw [hlw,Yc,Yp];omega) (by rfl)) r2 r1 (qf (Zg (ag:=false) (sz':=1) (sz:=1) 70 .t (by intro x;rfl) (by rw [hlw,Yb,Yc,Yp];omega) kr kr kr) r1 r1 (qO rr qZ))))))) J [7,6,5,4,0] [70,1,0] V V fun a w F G=>?_))))
  try simp only [Yb] at G
  rw [hlw] at G
  try simp only [Yb] at G
  rw [ZaF] at G
  refine Za (Ya (Ze G (qR rr (qR rr (qf (Zx 70 YbA .is) r1 r1 (qf (o_sub .t qi) r1 qz (qf (Zck (sz:=1) 70 (.mk YbA kr) (by intro x;rfl) .is .t (by rw [hlw];omega) (by rw [hlw,Yc,Yp];omega)) r2 r1 (qO rr qZ)))))) J [7,6,5,4,0] [70,1,0] (fun _=>rfl) (fun _=>rfl) fun τ a w F G=>?_))
  try dsimp only [RS.sub,SF.sub,CF.sub,csub,Anc.sub,List.map,ZjY,Zk] at G
  generalize τ 38=v38 at G
  rw [hlw] at G
  simp only [Yb,List.take_left] at G
  refine Za (Ya ?_)
  replace G:=G.fresh 71 rfl
  refine Ze G (qR rr (qf (o_nilCheck_ref .t) r1 qz (qf (oG 1 .t) r1 qz (qf (oR false 1 .t) r1 qz (qR rr (qf (o_indexAddr_sl (sz:=1) (.mk YbB kr) (by intro x;rfl) .t .t ow (by rw [nextsQ_len];omega)) r2 qz (qf (oR false 1 .t) r1 qz (qf (o_callN 71 (FnG.ofTab (copy_c n (Nn (nextsQ q n) Y9))) func27 V kr (Args.one .t) PV.ptr_one) r1 r1 (qO rr qZ))))))))) J [8,6,5,4,0] [71,70,1,0] (fun _=>rfl) (fun _=>rfl) fun τ a w F G=>?_
  try dsimp only [RS.sub,SF.sub,CF.sub,csub,Anc.sub,List.map,xD,xE,xT,xU,ldSF,ZjY,Zk] at G
  generalize τ 46=v46 at G
  try simp only [Yb] at G
  rw [ZcP (show Y9<n by omega)] at G
  replace G:=G.turn 71 V (r':=RS.hp (Z0 v46 n (nextQ q n (Y9:Int)))) (fun _ _ _ _ h=>h)
  refine Za (Ya (rZ G (qR rr (qR rr (qf (OpC.lend 1 [48] setH_lend (o_callG1 71 (ZmB v46 n (nextQ q n (Y9:Int)) n rw) func59 V kr (Args.two .t .t)) ⟨tv,rfl,tv⟩ (.pv (fun _ _ _ _ h=>h)) ⟨(fun _ _ _ _ _ _ _ _ h e k=>Zcz h e k),tv⟩ (by rfl)) r2 r2 qZ))) J [8,6,5,4,0] [71,70,1,0] fun G=>Ya ?_))
  refine rZ G (qR rr (qR rr (qf (OpC.lend 71 [51] setH_lend (o_callG1 1 (Zo0 (.pointer (some ⟨b2,0,none⟩)) n rw n (ZR (nextQ q n (Y9:Int)) rw)) func28 V kr (Args.two .t .t)) ⟨tv,rfl,tv⟩ (.pv (fun _ _ _ _ h=>h)) ⟨(fun _ _ _ _ _ _ _ _ h e k=>Zcz h e k),tv⟩ (by rfl)) r2 r2 qZ))) J [8,6,5,4,0] [71,70,1,0] fun G=>?_
  refine Ze G (qR rr (qR rr (qf (o_callG1 71 (ZnW v46 n (ZR (nextQ q n (Y9:Int)) rw)) func58 V kr (Args.one .t)) r1 r1 (qf (ZB (sz:=1) (bs:=8) 70 (.mk' YbA kr kr) (by intro x;rfl) .is (.sl .t) (by rw [Yc,Yp] at hmu;omega) (by decide)) ⟨rfl,rfl,tv⟩ ⟨rfl,tv⟩ (qO rr qZ))))) J [6,5,4,0] [71,70,1,0] (fun _=>rfl) (fun _=>rfl) fun τ a w F G=>?_
  try dsimp only [RS.sub,SF.sub,CF.sub,csub,Anc.sub,List.map,xC,xN,ZjY,Zk] at G
  generalize τ 56=v56 at G
  refine Zi (Za ?_)
  obtain ⟨F,G⟩:=G.nM [5,4,0,6] [0,1,70]
  exact ⟨((v56),((wi++(ZR (nextQ q n (Y9:Int)) rw))),((orL rw n (ZR (nextQ q n (Y9:Int)) rw)))),F,⟨hL2,by rw [Yc] at *;simp only [Yp] at *;omega⟩,G,(by show 2*(n - (orL rw n (ZR (nextQ q n (Y9:Int)) rw)).length)+(wi++(ZR (nextQ q n (Y9:Int)) rw)).length<2*(n - rw.length)+(wi ++ [(Y9:Int)]).length;rw [Yc,Yc,Yp];omega)⟩
 have hwt:wt = []:=YC (by simp at hc0;simpa using hc0)
 subst hwt
 have hg:rw=reachQ q (X:Int):=Zne hL
 refine YI (Zm (Zm (Zu (Za (Ya (rZ G (qR rr (qO rr qZ)) J [4] [70,1,0] fun G=>Yl ?_))))))
 rw [hg] at G
 refine ZU (h':=fun v=>Z0 v n (reachQ q (X:Int))) hG G V (.tmp V .nil) (.one .ptr) rfl
theorem FnG.ofP2 {P:Program} {f:FuncId} {p1 p2 q:PV} {v1 v2:Value} {h:HP} (hc:FnP P f [p1,p2] q) (hq:∀ v w y y',q.p v w y→q.p v w y')
  (hl:∀ w f y y',h.p w f y→(∀ b,y' b→y b)→(∀ b,f b→¬ y' b)→(∀ b,f b→b<w.heap.size)→p1.p v1 w y' ∧ p2.p v2 w y'):FnG P f 1 [.is v1,.is v2] [h] q (fun _=>[h]):=fun w F vs hw hle hvs hpr=>by
 match vs,hvs with
 | [u1,u2],hvs=>
  have e1:u1=v1:=hvs.1.1
  have e2:u2=v2:=hvs.2.1.1
  subst e1;subst e2
  have hh:=hpr 0 _ rfl
  have hsub:∀ b,F 0 b→U F b:=fun b hb=>⟨0,hb⟩
  obtain ⟨k1,k2⟩:=hl w (F 1) (U F) (F 0) hh hsub (fun b h1 h0=>by have:=hw.dis 0 1 b h0 h1;omega) (fun b hb=>hw.bd 1 b hb)
  refine (hc w (F 0) [u1,u2] (fun b hb=>hw.bd 0 b hb) ⟨k1,k2,tv⟩).mono ?_
  rintro e w' ⟨t,rfl,a1,a2⟩
  have hk:∀ b,b<w.heap.size→w'.heap[b]? = w.heap[b]?:=a2.block
  have hev:Ev w (U F) w' (U F):=⟨a2.os,a2.tape,a2.output,a2.size,fun b hb hn=>⟨hk b hb,hn⟩⟩
  refine ⟨t,F,rfl,⟨hw.dis,fun n b hb=>YU (hw.bd n b hb) a2.size⟩,⟨a2.os,a2.tape,a2.output,a2.size,fun b hb _=>hk b hb,fun _ _=>rfl,fun n hn b hb=>.inl ⟨n,hn,hb⟩⟩,hle,hq _ _ _ _ a1,fun i k hi=>?_⟩
  match i,hi with
  | 0,hi=>simp at hi;subst hi;exact h.st hev (fun b hb=>hk b (hw.bd 1 b hb)) hh
abbrev Zg8:Type:=(Value×List Int)×Option (Value×List Int)
def ZgT (n:Nat) (t:Zg8):HP:=match t.2 with
 | none=>Z5 n t.1
 | some z=>HP.star [RS.hp (Z5 n t.1),RS.hp (Z5 n z)]
def Zhe (t:Zg8):Value×List Int:=t.2.getD t.1
def curP (ts:List Zg8):List Value:=ts.map fun t=>(Zhe t).1
theorem ZK {w:World} {y:Ys} : ∀ {rs:List RS} {f:Ys},stars w y rs f → ∀ r ∈ rs,∃ f1:Ys,(∀ b,f1 b→f b)∧r.holds tau0 w f1 y
 | [],f,_,r,h=>by cases h
 | x :: rs,f,⟨f1,f2,h1,h2,h3,h4,h5⟩,r,hr=>by
  rcases Yh.1 hr with rfl | hr
  ·exact ⟨f1,fun b hb=>(h1 b).2 (.inl hb),h4⟩
  ·obtain ⟨g,g1,g2⟩:=ZK h5 r hr
   exact ⟨g,fun b hb=>(h1 b).2 (.inr (g1 b hb)),g2⟩
theorem sameT_c (n:Nat) (t:Zg8):FnG prog 32 1 [.is t.1.1,.is (Zhe t).1] [ZgT n t] (.bool (decide (t.1.2=(Zhe t).2))) (fun _=>[ZgT n t]):=by
 have hc:=Zof n n t.1.2 (Zhe t).2
 have e:decide (n=n∧t.1.2=(Zhe t).2)=decide (t.1.2=(Zhe t).2):=by simp
 rw [e] at hc
 refine FnG.ofP2 hc (fun _ _ _ _ h=>h) fun w f y y' hh hle hf hb=>?_
 obtain ⟨t1,t2⟩:=t
 cases t2 with
 | none=>exact ⟨setH_lend w f y y' hh hle hf hb,setH_lend w f y y' hh hle hf hb⟩
 | some z=>
  obtain ⟨f1,k1,k2⟩:=ZK hh (RS.hp (Z5 n t1)) (by simp)
  obtain ⟨f2,m1,m2⟩:=ZK hh (RS.hp (Z5 n z)) (by simp)
  exact ⟨setH_lend w f1 y y' k2 hle (fun b h=>hf b (k1 b h)) (fun b h=>hb b (k1 b h)),setH_lend w f2 y y' m2 hle (fun b h=>hf b (m1 b h)) (fun b h=>hb b (m1 b h))⟩
theorem Ent.isEq {a b:Value} (h:a=b):Ent (.pv (.is a)) (.pv (.is b)):=by subst h;exact Ent.refl
theorem Zd6 {w:World} {y y':Ys} : ∀ {l:List Value} {xs:List Value},PVs (l.flatMap rV) xs w y→PVs (l.flatMap rV) xs w y'
 | [],[],_=>trivial
 | _ :: l,_ :: xs,h=>⟨h.1,Zd6 (l:=l) h.2⟩
 | [],_ :: _,h=>h.elim
 | _ :: _,[],h=>h.elim
theorem Zk6 {T:Nat} {l:List Value} {v:Value} {w:World} {f y y':Ys} (h:(Zo T 1 rV l v).p w f y):(Zo T 1 rV l v).p w f y':=by
 obtain ⟨xs,h1,h2,h3⟩:=h
 exact ⟨xs,h1,Zd6 h2,h3⟩
structure Ziq (n:Nat) (q q':List PairD) (rs:List Value) (i:Nat) (ts:List Zg8):Prop where
 len:ts.length=n
 old:∀ k,k<n→(Nn ts k).1=(Nn rs k,reachQ q (k:Int))
 cur:∀ k,k<n→(Zhe (Nn ts k)).2=ZfJ q q' i k
 rest:∀ k,k<n→i≤k→(Nn ts k).2=none
def Zcx (ps:List (Value×List Int)):List Zg8:=ps.map fun p=>(p,none)
theorem ZjQ {n:Nat} (ps:List (Value×List Int)):Zaw (ZgT n) (Zcx ps)=Zaw (Z5 n) ps:=by
 show RS.hp (HP.star ((Zcx ps).map fun x=>RS.hp (ZgT n x)))=_
 unfold Zcx
 rw [List.map_map];rfl
theorem Ziq.start {n:Nat} {q q':List PairD} {rs:List Value} (h:rs.length=n):Ziq n q q' rs 0 (Zcx (famL rs fun k=>reachQ q (k:Int))):=by
 have e:∀ k,k<n→Nn (Zcx (famL rs fun k=>reachQ q (k:Int))) k=((Nn rs k,reachQ q (k:Int)),none):=fun k hk=>by
  rw [nth_eq (by unfold Zcx;rw [YZ,Zaj];omega)]
  simp [Zcx,famL]
 refine ⟨by unfold Zcx;rw [YZ,Zaj,h],fun k hk=>by rw [e k hk],fun k hk=>by rw [e k hk,ZhV];rfl,fun k hk _=>by rw [e k hk]⟩
theorem Ziq.at {n:Nat} {q q':List PairD} {rs:List Value} {i:Nat} {ts:List Zg8} (h:Ziq n q q' rs i ts) (hi:i<n):ts[i]? = some ((Nn rs i,reachQ q (i:Int)),none):=by
 rw [Zfm (by rw [h.len];exact hi)]
 congr 1
 exact Prod.ext (h.old i hi) (h.rest i hi (YT i))
theorem Ziq.keep {n:Nat} {q q':List PairD} {rs:List Value} {i:Nat} {ts:List Zg8} (h:Ziq n q q' rs i ts) (hi:i<n) (e:reachQ q (i:Int)=reachQ q' (i:Int)):Ziq n q q' rs (i+1) ts:=
 ⟨h.len,h.old,fun k hk=>by
  rw [h.cur k hk]
  by_cases e2:k=i
  ·subst e2;rw [Zni,← mix_next,e]
  ·exact mix_other q q' e2,fun k hk hle=>h.rest k hk ow⟩
theorem ZnF {α:Type} [Inhabited α] {l:List α} {i k:Nat} {x:α} (hk:k<l.length):Nn (l.set i x) k=if i=k then x else Nn l k:=by
 rw [nth_eq (by rw [YM];exact hk),YaK]
 split
 ·rfl
 ·rw [nth_eq hk]
theorem Ziq.put {n:Nat} {q q':List PairD} {rs:List Value} {i:Nat} {ts:List Zg8} (h:Ziq n q q' rs i ts) (hi:i<n) (v:Value):Ziq n q q' rs (i+1) (ts.set i ((Nn rs i,reachQ q (i:Int)),some (v,reachQ q' (i:Int)))):=by
 have e:∀ k,k<n→Nn (ts.set i ((Nn rs i,reachQ q (i:Int)),some (v,reachQ q' (i:Int)))) k=if i=k then ((Nn rs i,reachQ q (i:Int)),some (v,reachQ q' (i:Int))) else Nn ts k:=fun k hk=>ZnF (by rw [h.len];exact hk)
 refine ⟨by rw [YM,h.len],fun k hk=>?_,fun k hk=>?_,fun k hk hle=>?_⟩
 ·rw [e k hk]
  split
  ·rename_i e2;subst e2;rfl
  ·exact h.old k hk
 ·rw [e k hk]
  split
  ·rename_i e2;subst e2;rw [← mix_next];rfl
  ·rename_i e2;rw [h.cur k hk];exact mix_other q q' fun e3=>e2 e3.symm
 ·rw [e k hk,Ye ow];exact h.rest k hk ow
theorem curP_len (ts:List Zg8):(curP ts).length=ts.length:=YZ _
theorem nth_curP {ts:List Zg8} {k:Nat} (h:k<ts.length):Nn (curP ts) k=(Zhe (Nn ts k)).1:=by
 rw [nth_eq (by rw [curP_len];exact h),nth_eq h]
 simp [curP]
theorem Zmu {ts:List Zg8} {i:Nat} {o:Value×List Int} {v:Value} {x:List Int} : (curP ts).set i v=curP (ts.set i (o,some (v,x))):=by
 unfold curP
 rw [List.map_set];rfl
theorem Znc {rs:List Value} {f:Nat→List Int} : curP (Zcx (famL rs f))=rs:=by
 apply Y4 (by rw [curP_len];unfold Zcx;rw [YZ,Zaj])
 intro j h1 h2
 simp [curP,Zcx,famL,Zhe,nth_eq h2]
theorem Ziq.all {n:Nat} {q q':List PairD} {rs:List Value} {ts:List Zg8} (h:Ziq n q q' rs n ts):ts.map Zhe=famL (curP ts) fun k=>reachQ q' (k:Int):=by
 apply Y4 (by rw [YZ,Zaj,curP_len])
 intro j h1 h2
 rw [YZ] at h1
 have hj:j<n:=by rw [← h.len];exact h1
 have e:(Zhe (Nn ts j)).2=reachQ q' (j:Int):=by rw [h.cur j hj];unfold ZfJ;rw [Yf hj]
 rw [nth_eq h1] at e
 have e2:=nth_curP (ts:=ts) h1
 rw [nth_eq h1] at e2
 simp only [Ya3,famL,Ya5]
 rw [← e,e2]
theorem Zhf {n:Nat} {w:World} {y:Ys} (t:Zg8) (f:Ys) (h:(ZgT n t).p w f y):∃ f':Ys,(∀ b,f' b→f b)∧(Z5 n (Zhe t)).p w f' y:=by
 obtain ⟨t1,t2⟩:=t
 cases t2 with
 | none=>exact ⟨f,fun _ h=>h,h⟩
 | some z=>
  obtain ⟨f2,m1,m2⟩:=ZK h (RS.hp (Z5 n z)) (by simp)
  exact ⟨f2,m1,m2⟩
theorem Zhu {n:Nat} {ts:List Zg8} {ps:List (Value×List Int)} (e:ts.map Zhe=ps) (τ:Tau) (w:World) (f y:Ys) (h:(Zaw (ZgT n) ts).holds τ w f y):∃ f':Ys,(∀ b,f' b→f b)∧(Zaw (Z5 n) ps).holds τ w f' y:=by
 obtain ⟨f',h1,h2⟩:=Zdg (g:=ZgT n) (g':=fun t=>Z5 n (Zhe t)) (fun t f h=>Zhf t f h) (L:=ts) (show stars w y (ts.map fun x=>RS.hp (ZgT n x)) f from h)
 refine ⟨f',h1,?_⟩
 subst e
 show stars w y ((ts.map Zhe).map fun x=>RS.hp (Z5 n x)) f'
 rw [List.map_map]
 exact h2
theorem Zdo (ps:List Value) (f:Nat→List Int):(famL ps f).map (·.1)=ps:=by
 apply Y4 (by rw [YZ,Zaj])
 intro j h1 h2
 simp [famL,nth_eq h2]
theorem Zds (ps:List Value) (f:Nat→List Int):(famL ps f).map (·.2)=(List.range ps.length).map f:=by
 unfold famL
 rw [List.map_map];rfl
theorem Zb9 {n:Nat} {w:World} {y y':Ys} : ∀ {ps:List (Value×List Int)} {xs:List Value},PVs ((ps.map (·.1)).flatMap rV) xs w y→(∀ p ∈ ps,(setR n p.2).p p.1 w y')→PVs ((ps.map (·.2)).flatMap (ZjY n)) xs w y'
 | [],[],_,_=>trivial
 | p :: ps,x :: xs,h,hp=>by
  have h1:(x.oneCell' = true∧x=p.1∧x.oneCell' = true)∧PVs ((ps.map (·.1)).flatMap rV) xs w y:=h
  have e:x=p.1:=h1.1.2.1
  exact ⟨⟨h1.1.1,by rw [e];exact hp p (by simp)⟩,Zb9 h1.2 fun z hz=>hp z (by simp [hz])⟩
 | [],_ :: _,h,_=>h.elim
 | _ :: _,[],h,_=>h.elim
abbrev Zjs (a1 a2 a3:Nat) (v:Value) (n:Nat) (q:List PairD) (cv nv rv:Value) (ns:List Value) (pl:PV):List (Nat×RS):=[(a1,.pt (.val v) 50 [.pv (.is cv),.pv (.is nv),.pv (.is rv),.pv pl]),(a2,.ob (.val nv) (Zo 51 1 rV ns)),(a3,Zaw (Z5 n) (famL ns fun k=>nextQ q n (k:Int)))]
theorem Zmf {a1 a2 a3 n:Nat} {v:Value} {q:List PairD} {cv nv rv:Value} {ns:List Value} {pl:PV} (hnl:ns.length=n):∀ (τ:Tau) (w:World) (F:Fp) (y':Ys),(∀ x ∈ Zjs a1 a2 a3 v n q cv nv rv ns pl,x.2.holds τ w (F x.1) (U F))→(∀ b,y' b→U F b)→(∀ x ∈ Zjs a1 a2 a3 v n q cv nv rv ns pl,∀ b,F x.1 b→¬ y' b)→(∀ x ∈ Zjs a1 a2 a3 v n q cv nv rv ns pl,∀ b,F x.1 b→b<w.heap.size)→(PV.ref [.any,.sl (ZjY n) (nextsQ q n),.any,.any]).p v w y':=by
 intro τ w F y' hh hle hf hb
 obtain ⟨b,vs,k1,k2,k3,k4⟩:=hh _ (Y0 ..)
 have hrow:(Zo 51 1 rV ns nv).p w (F a2) (U F):=hh (a2,.ob (.val nv) (Zo 51 1 rV ns)) (by simp)
 have hfam:stars w (U F) ((famL ns fun k=>nextQ q n (k:Int)).map fun x=>RS.hp (Z5 n x)) (F a3):=hh (a3,Zaw (Z5 n) (famL ns fun k=>nextQ q n (k:Int))) (by simp)
 have hb1:F a1 b:=(k3 b).2 rfl
 refine ⟨b,0,vs.toList,k1,hf _ (Y0 ..) b hb1,hb _ (Y0 ..) b hb1,Zn.mk fun j u hj=>?_,?_⟩
 ·simp only [YG]
  simp [World.cell?,k2]
  simpa using hj
 ·generalize vs.toList=us at k4
  match us,k4 with
  | [u1,u2,u3,u4],k4=>
   refine ⟨⟨k4.1.1,tv⟩,⟨k4.2.1.1,?_⟩,⟨k4.2.2.1.1,tv⟩,⟨k4.2.2.2.1.1,tv⟩,tv⟩
   have e:u2=nv:=k4.2.1.2.1
   subst e
   obtain ⟨xs,m1,m2,m3⟩:=hrow
   obtain ⟨ad,cap,e8,h8,h9,h10⟩:=Zs m1
   rw [hnl] at e8 h8
   refine ⟨ad,cap,by rw [nextsQ_len];exact e8,by rw [nextsQ_len];exact h8,h9,?_⟩
   rcases h10 with h10 | ⟨b',rfl,h11,h12⟩
   ·exact .inl (YC (by rw [nextsQ_len,← hnl];exact h10))
   ·have hb':F a2 b':=(m3 b').2 h11
    refine .inr ⟨b',0,xs,rfl,hf (a2,.ob (.val u2) (Zo 51 1 rV ns)) (by simp) b' hb',hb (a2,.ob (.val u2) (Zo 51 1 rV ns)) (by simp) b' hb',h12,?_⟩
    have e2:nextsQ q n=(famL ns fun k=>nextQ q n (k:Int)).map (·.2):=by rw [Zds,hnl];rfl
    rw [e2]
    refine Zb9 (y:=U F) (by rw [Zdo];exact m2) fun p hp=>?_
    obtain ⟨f1,g1,g2⟩:=ZK hfam (RS.hp (Z5 n p)) (YD.2 ⟨p,hp,rfl⟩)
    exact setH_lend w f1 (U F) y' g2 hle (fun b h=>hf (a3,Zaw (Z5 n) (famL ns fun k=>nextQ q n (k:Int))) (by simp) b (g1 b h)) (fun b h=>hb (a3,Zaw (Z5 n) (famL ns fun k=>nextQ q n (k:Int))) (by simp) b (g1 b h))
theorem ZmC {a1 a2 a3 n m d:Nat} {v:Value} {q:List PairD} {cv nv rv:Value} {ns:List Value} {pl:PV} {z:List Int} (h0:0<ns.length):∀ x ∈ [((m:Nat),RS.ob (.slot d) (fun v=>Z0 v n z))],∀ (τ τ0:Tau) (w:World) (F:Fp) (w':World) (f y1 y':Ys),(∀ z ∈ Zjs a1 a2 a3 v n q cv nv rv ns pl,z.2.holds τ0 w (F z.1) (U F))→Ev w (U F) w' y' → x.2.holds τ w' f y1→x.2.holds τ w' f y':=by
 intro x hx τ τ0 w F w' f y1 y' hh hev hk
 simp only [Yd] at hx
 subst hx
 have hfam:stars w (U F) ((famL ns fun k=>nextQ q n (k:Int)).map fun x=>RS.hp (Z5 n x)) (F a3):=hh (a3,Zaw (Z5 n) (famL ns fun k=>nextQ q n (k:Int))) (by simp)
 obtain ⟨f1,g1,g2⟩:=ZK hfam (RS.hp (Z5 n (Nn ns 0,nextQ q n ((0:Nat):Int)))) (YD.2 ⟨_,YaY (Zbe h0),rfl⟩)
 exact Zcz (show (Z0 (Nn ns 0) n (nextQ q n ((0:Nat):Int))).p w f1 (U F) from g2) hev hk
theorem Zl9 (l:List Value) (hl:l.length≤1000000):FnG prog 30 1 [.sl rV l] [.star []] (PV.one) (fun v=>[Zo 51 1 rV l v]):=by
 refine FnG.mk func30 V ntmps30 V kr fun B F0 a w F J hG G=>?_
 obtain ⟨F,G⟩:=G.nM [0] [0]
 refine Ya (rZ G (qC qZ) J [2,0] [0] fun G=>(Ya (Ya ?_)))
 refine Zb G (qR rr (qf (Zhy YbB .t) r1 qz qZ)) J [4,2,0] [0] V V fun a w F G=>?_
 obtain ⟨β4,hβ4,G⟩:=G.pickBool 4 rfl
 obtain ⟨F,G⟩:=G.nM [4,2,0] [0]
 refine Za (Zc G V (fun hc0=>?_) (fun hc0=>?_))
 ·have hg:l = []:=hβ4 hc0
  refine Ya (rZ G (qC qZ) J [2,0] [0] fun G=>(Yl (Zw ?_)))
  have G:=G.fresh 1 rfl
  have G:=G.turn 1 V (Z1 (T:=51) (sz:=1) (R:=rV))
  have G:=G.turn 1 V (r':=RS.hp (Zo 51 1 rV l (.slice none 0 0))) (fun _ _ _ _ h=>by rw [hg];exact h)
  refine ZU (h':=fun v=>Zo 51 1 rV l v) hG G V (.tmp V .nil) (.one .one) rfl
 have hg:l = [] ++ l:=rfl
 refine Yg (Za (Ya (Ze G (qf (ZfC (R:=rV) (sz:=1) 101 YbB kr) trivial qz (qR rr (qf (ZB (sz:=1) (bs:=8) 101 (.mk' YbB kr kr) (by intro x;rfl) .same (.sl .t) (by simp only [Yc,YS];omega) (by decide)) ⟨rfl,rfl,tv⟩ ⟨rfl,tv⟩ (qO rr qZ)))) J [2] [101,0] (fun _=>rfl) (fun _=>rfl) fun τ a w F G=>?_)))
 try dsimp only [RS.sub,SF.sub,CF.sub,csub,Anc.sub,List.map,Zh,xL,xM,Nat.reduceAdd,xD,xE,xT,xU,xC,xN,zCF,rV] at G
 generalize τ 7=v7 at G
 refine Za (Yl ?_)
 obtain ⟨F,G⟩:=G.rename 101 1 V rfl
 have G:=G.turn 1 V (r':=RS.hp (Zo 51 1 rV l v7)) (fun _ _ _ _ h=>by rw [hg];exact h)
 refine ZU (h':=fun v=>Zo 51 1 rV l v) hG G V (.tmp V .nil) (.one .one) rfl
theorem Znv (b n:Nat) (q:List PairD) (last:List Int) (u v:Int):FnG prog 10 1 [.is (.pointer (some ⟨b,0,none⟩)),.int .i64 u,.int .i64 v] [clH (.pointer (some ⟨b,0,none⟩)) n q last] (.int .i64 (stepQ n q (⟨1,u,v⟩:Deed4)).2) (fun _=>[clH (.pointer (some ⟨b,0,none⟩)) n (stepQ n q (⟨1,u,v⟩:Deed4)).1 (lastD n q last (⟨1,u,v⟩:Deed4))]):=by
 refine FnG.mk func10 V ntmps10 V kr fun B F0 a w F J hG G=>?_
 obtain ⟨hhi0,_⟩:=Zkm (show (clH (.pointer (some ⟨b,0,none⟩)) n q last).p _ _ _ from G.r 1 _ rfl)
 refine Ya (rZ G (qI qZ) J [6,2,1,0] [1,0] fun G=>(Ya (Yk (Ya ?_))))
 refine Zb G (qR rr (qR rr (qf (o_callG1 1 (Ze2 b n q last u) func23 V kr (Args.two .t .t)) r2 r1 (qf (o_not .t) r1 qz (qR rr (qm V V V V (qm V V V V (Chain.cons (Cert.condR V V (by rfl) (fun h=>o_callG1 1 (Ze2 b n q last v) func23 V kr (Args.two (.w h) (.w h)))) r3 r1 (qk V (fun h=>o_not (.w h)) r2 qz (qf (Zaa .t .t) r2 qz (qO rr qZ))))))))))) J [10,6,2,1,0] [1,0] V V fun a w F G=>?_
 try dsimp only [rV,ZeH,Zk] at G
 refine Za (Zc G V (fun hc0=>?_) (fun hc0=>?_))
 ·have hg:stepQ n q (⟨1,u,v⟩:Deed4)=(q,1):=Zcc (by rintro ⟨h1,h2⟩;unfold There at h1 h2;simp at h1 h2 hc0;omega)
  refine Ya (rZ G (qI qZ) J [6,2,1,0] [1,0] fun G=>(Yl (Z6 (Zw ?_))))
  have G:=G.turn 1 V (r':=RS.hp (clH (.pointer (some ⟨b,0,none⟩)) n (stepQ n q (⟨1,u,v⟩:Deed4)).1 (lastD n q last (⟨1,u,v⟩:Deed4)))) (by unfold lastD;rw [hg];exact fun _ _ _ _ h=>h)
  refine Zy hG G V (.tmp V .nil) (.one (.int (by rw [hg]))) rfl
 have hth:There n u∧There n v:=by unfold There;simp at hc0;omega
 obtain ⟨hthu,hthv⟩:=hth
 obtain ⟨U,rfl⟩:=Yz hthu.1
 obtain ⟨Z,rfl⟩:=Yz hthv.1
 have hUn:U<n:=by have:=hthu.2;omega
 have hZn:Z<n:=by have:=hthv.2;omega
 obtain ⟨sx,G⟩:=G.open_ex 1 rfl
 obtain ⟨hk,G⟩:=G.open_and 1 rfl
 dsimp only [Zcu] at G
 obtain ⟨F,G⟩:=G.peel 1 2 V rfl
 obtain ⟨F,G⟩:=G.peel 1 3 V rfl
 obtain ⟨F,G⟩:=G.peel 1 4 V rfl
 obtain ⟨F,G⟩:=G.peel 1 5 V rfl
 obtain ⟨F,G⟩:=G.peel 1 6 V rfl
 obtain ⟨F,G⟩:=G.peel 1 7 V rfl
 have hhi:=hk.hi
 have hnl:=hk.nl
 have hrl:=hk.rl
 have hinn:=hk.inn
 obtain ⟨F,G⟩:=G.nM [10,6,2,1,0] [7,6,5,4,3,2,0]
 refine Ya (Zp G (qR rr (qf (o_nilCheck 2 .is (by rfl)) r1 r1 (qf (oF 0 2 .adr) r1 r1 (qa 2 r1 r1 (qR rr (qR rr (qf (oP (ZhN _ _ ow ow) func24 (Args.two .t .t)) r2 qz (qf (Za5 (ek:=(fun c:Int=>PV.int .i32 c)) (z0:=(0:Int)) 3 YbL (Zag (enc:=Zdm) (n:=2) (fun _=>rfl) ZaE YbJ YbH V) kr (fun _ _=>⟨rfl,Zbb ow⟩) .is (ZC.agg32 (enc:=Zdm) (k:=(⟨(U:Int),(Z:Int)⟩:PairD)) .t V)) r2 r1 (qf (o_eql .t qi) r1 qz (qO rr qZ)))))))))) J [21,6,2,1,0] [7,6,5,4,3,2,0] V V fun a w F G=>?_)
 try dsimp only [List.map,xD,xE,xT,xU,ldSF,rV,ZeH,Zk] at G
 have hql:=hk.len
 rw [hk.cnt.get] at G
 refine Za (Zc G V (fun hc1=>?_) (fun hc1=>?_))
 ·have hc0:q.count (⟨(U:Int),(Z:Int)⟩:PairD)=0:=by simp at hc1;simpa using hc1
  have hg:stepQ n q (⟨1,(U:Int),(Z:Int)⟩:Deed4)=(q,3):=by unfold stepQ;rw [Yf ⟨hthu,hthv⟩,Ye (show ¬ (1:Int)=0 by decide),Yf hc0]
  refine Ya (rZ G (qI qZ) J [6,2,1,0] [7,6,5,4,3,2,0] fun G=>(Yl (Z6 (Zw ?_))))
  obtain ⟨F,G⟩:=G.nM [6,2,1,0] [7,6,5,4,3,2,0]
  have G:=G.fresh 1 rfl
  obtain ⟨F,G⟩:=G.push 1 7 V V V kr
  obtain ⟨F,G⟩:=G.push 1 6 V V V kr
  obtain ⟨F,G⟩:=G.push 1 5 V V V kr
  obtain ⟨F,G⟩:=G.push 1 4 V V V kr
  obtain ⟨F,G⟩:=G.push 1 3 V V V kr
  obtain ⟨F,G⟩:=G.push 1 2 V V V kr
  have G:=G.turn 1 V (r':=RS.hp (clH (.pointer (some ⟨b,0,none⟩)) n q last)) (fun _ _ _ _ h=>⟨sx,hk,h⟩)
  obtain ⟨F,G⟩:=G.nM [6,2,1,0] [1,0]
  have G:=G.turn 1 V (r':=RS.hp (clH (.pointer (some ⟨b,0,none⟩)) n (stepQ n q (⟨1,(U:Int),(Z:Int)⟩:Deed4)).1 (lastD n q last (⟨1,(U:Int),(Z:Int)⟩:Deed4)))) (by unfold lastD;rw [hg];exact fun _ _ _ _ h=>h)
  refine Zy hG G V (.tmp V .nil) (.one (.int (by rw [hg]))) rfl
 have hc0:¬ q.count (⟨(U:Int),(Z:Int)⟩:PairD)=0:=by simp at hc1;simpa using hc1
 have hcl:q.count (⟨(U:Int),(Z:Int)⟩:PairD)≤q.length:=Ya9
 have hg:stepQ n q (⟨1,(U:Int),(Z:Int)⟩:Deed4)=((q.erase (⟨(U:Int),(Z:Int)⟩:PairD)),0):=by unfold stepQ;rw [Yf ⟨hthu,hthv⟩,Ye (show ¬ (1:Int)=0 by decide),Ye ow]
 have hin:(⟨(U:Int),(Z:Int)⟩:PairD) ∈ q:=Ya4.1 ow
 refine Yg (Zi (Za (Ya (rZ G (qR rr (qf (o_nilCheck 2 .is (by rfl)) r1 r1 (qf (oF 3 2 .adr) r1 r1 (qf (ZaG 2 .adr (.c V) one_is kr kr) r1 r1 qZ)))) J [6,2,1,0] [7,6,5,4,3,2,0] fun G=>Ya ?_))))
 replace G:=G.turnZ 3 (0:Int) (⟨(U:Int),(Z:Int)⟩:PairD) rfl
 refine Zd5 3 11 (m1:=1) (m2:=2) kr G kr (qR rr (qf (o_nilCheck 2 .is (by rfl)) r1 r1 (qf (oF 0 2 .adr) r1 r1 (qa 2 r1 r1 (qR rr (qR rr (qf (oP (ZhN _ _ ow ow) func24 (Args.two .t .t)) r2 qz (qf (Zgm (ek:=(fun c:Int=>PV.int .i32 c)) (z0:=(0:Int)) 3 YbL (Zag (enc:=Zdm) (n:=2) (fun _=>rfl) ZaE YbJ YbH V) kr (fun _ _=>⟨rfl,Zbb ow⟩) .is (ZC.agg32 (enc:=Zdm) (k:=(⟨(U:Int),(Z:Int)⟩:PairD)) .t V)) r2 r1 (qf (o_sub .t qi) r1 qz (qf (ZdY (ek:=(fun c:Int=>PV.int .i32 c)) (z0:=(0:Int)) 3 YbL (Zag (enc:=Zdm) (n:=2) (fun _=>rfl) ZaE YbJ YbH V) kr (fun _ _=>⟨rfl,Zbb ow⟩) .is (ZC.agg32 (enc:=Zdm) (k:=(⟨(U:Int),(Z:Int)⟩:PairD)) .t V) (by intros;first | rfl | simp [Anc.v,upd])) r2 r1 (qf (o_extract .t V) r1 qz (qf (ZcE 3 (Zea _ _ _) .is .t .t) r3 r1 qZ)))))))))))) kr kr kr V V V (fun _ _ _ _ h=>.inr h) (by rw [J];kernel_rfl) fun a w F G=>?_
 obtain ⟨F,G⟩:=G.nM [6,2,1,0] [7,6,5,4,3,2,0]
 try dsimp only [List.map,xD,xE,xT,xU,ldSF,rV,ZeH,Zk] at G
 rw [hk.cnt.get,Zdz ow] at G
 obtain ⟨es2,hes2⟩:∃ z,z=gSet (⟨(U:Int),(Z:Int)⟩:PairD) (((q.count (⟨(U:Int),(Z:Int)⟩:PairD):Nat):Int) - 1) (gEns 0 (⟨(U:Int),(Z:Int)⟩:PairD) (sx.es,sx.ck)).1:=⟨_,rfl⟩
 obtain ⟨ck2,hck2⟩:∃ z,z=(gEns 0 (⟨(U:Int),(Z:Int)⟩:PairD) (sx.es,sx.ck)).2:=⟨_,rfl⟩
 rw [← hes2,← hck2] at G
 have hgt:(gGet (⟨(U:Int),(Z:Int)⟩:PairD) es2).getD 0=((q.count (⟨(U:Int),(Z:Int)⟩:PairD):Nat):Int) - 1:=by rw [hes2,ZbO (sx.es,sx.ck),Yf rfl];rfl
 refine Za (Ya (Ya (Zp G (qR rr (qf (o_nilCheck 2 .is (by rfl)) r1 r1 (qf (oF 0 2 .adr) r1 r1 (qa 2 r1 r1 (qR rr (qR rr (qf (oP (ZhN _ _ ow ow) func24 (Args.two .t .t)) r2 qz (qf (Za5 (ek:=(fun c:Int=>PV.int .i32 c)) (z0:=(0:Int)) 3 YbL (Zag (enc:=Zdm) (n:=2) (fun _=>rfl) ZaE YbJ YbH V) kr (fun _ _=>⟨rfl,Zbb ow⟩) .is (ZC.agg32 (enc:=Zdm) (k:=(⟨(U:Int),(Z:Int)⟩:PairD)) .t V)) r2 r1 (qf (Zbq .t qi) r1 qz qZ))))))))) J [53,6,2,1,0] [7,6,5,4,3,2,0] V V fun a w F G=>?_)))
 try dsimp only [List.map,xD,xE,xT,xU,ldSF,rV,ZeH,Zk] at G
 rw [hgt] at G
 refine Za (Zc G V (fun hc2=>?_) (fun hc2=>?_))
 ·have hc2:1<q.count (⟨(U:Int),(Z:Int)⟩:PairD):=by simp at hc2;omega
  have hmo:∀ p,p ∈ (q.erase (⟨(U:Int),(Z:Int)⟩:PairD)) ↔ p ∈ q:=fun p=>Zk4 (Ya4.1 (by rw [Ybp];omega)) p
  have hz:∀ x,reachQ q x=reachQ (q.erase (⟨(U:Int),(Z:Int)⟩:PairD)) x:=fun x=>(ZgI hmo x).symm
  have hzn:∀ x,nextQ q n x=nextQ (q.erase (⟨(U:Int),(Z:Int)⟩:PairD)) n x:=fun x=>Zbh fun w=>(hmo _).symm
  have hcnt2:Zhw (q.erase (⟨(U:Int),(Z:Int)⟩:PairD)) es2:=by rw [hes2];exact hk.cnt.dec hc2
  replace G:=G.turn 7 V (r':=Zaw (Z5 n) (famL sx.rs (fun k=>reachQ (q.erase (⟨(U:Int),(Z:Int)⟩:PairD)) (k:Int)))) (by rw [← Za9 (ps:=sx.rs) (f:=(fun k=>reachQ q (k:Int))) (g:=(fun k=>reachQ (q.erase (⟨(U:Int),(Z:Int)⟩:PairD)) (k:Int))) (fun k _=>hz (k:Int))];exact fun _ _ _ _ h=>h)
  replace G:=G.turn 6 V (r':=Zaw (Z5 n) (famL sx.ns (fun k=>nextQ (q.erase (⟨(U:Int),(Z:Int)⟩:PairD)) n (k:Int)))) (by rw [← Za9 (ps:=sx.ns) (f:=(fun k=>nextQ q n (k:Int))) (g:=(fun k=>nextQ (q.erase (⟨(U:Int),(Z:Int)⟩:PairD)) n (k:Int))) (fun k _=>hzn (k:Int))];exact fun _ _ _ _ h=>h)
  refine Ya (rZ G (qI qZ) J [6,2,1,0] [7,6,5,4,3,2,0] fun G=>(Yl (Zw ?_)))
  replace G:=G.fresh 50 rfl
  replace G:=G.turn 50 V (Z1 (T:=3) (sz:=1) (R:=Zk))
  obtain ⟨F,G⟩:=G.giveCell 50 2 3 V V V V rfl
  try dsimp only [List.set] at G
  obtain ⟨F,G⟩:=G.nM [6,2,1,0] [7,6,5,4,3,2,0]
  have G:=G.fresh 1 rfl
  obtain ⟨F,G⟩:=G.push 1 7 V V V kr
  obtain ⟨F,G⟩:=G.push 1 6 V V V kr
  obtain ⟨F,G⟩:=G.push 1 5 V V V kr
  obtain ⟨F,G⟩:=G.push 1 4 V V V kr
  obtain ⟨F,G⟩:=G.push 1 3 V V V kr
  obtain ⟨F,G⟩:=G.push 1 2 V V V kr
  have G:=G.turn 1 V (r':=RS.hp (clH (.pointer (some ⟨b,0,none⟩)) n (q.erase (⟨(U:Int),(Z:Int)⟩:PairD)) [])) (fun _ _ _ _ h=>⟨{ sx with es:=es2,ck:=ck2 },⟨YA _,hhi,hinn.erase,(by have:=List.length_erase_le (a:=(⟨(U:Int),(Z:Int)⟩:PairD)) (l:=q);have:=hk.len;omega),hnl,hrl,hcnt2⟩,h⟩)
  obtain ⟨F,G⟩:=G.nM [6,2,1,0] [1,0]
  have G:=G.turn 1 V (r':=RS.hp (clH (.pointer (some ⟨b,0,none⟩)) n (stepQ n q (⟨1,(U:Int),(Z:Int)⟩:Deed4)).1 (lastD n q last (⟨1,(U:Int),(Z:Int)⟩:Deed4)))) (by unfold lastD;rw [hg];exact (by rw [Yf rfl,ZeS hz];exact fun _ _ _ _ h=>h))
  refine Zy hG G V (.tmp V .nil) (.one (.int (by rw [hg]))) rfl
 have hc1:q.count (⟨(U:Int),(Z:Int)⟩:PairD)=1:=by simp at hc2;omega
 refine Yg (Za (Ya (Zp G (qR rr (qf (o_nilCheck 2 .is (by rfl)) r1 r1 (qf (oF 0 2 .adr) r1 r1 (qa 2 r1 r1 (qR rr (qR rr (qf (oP (ZhN _ _ ow ow) func24 (Args.two .t .t)) r2 qz (qf (Zld 3 YbL (Zag (enc:=Zdm) (n:=2) (fun _=>rfl) ZaE YbJ YbH V) .is (ZC.agg32 (enc:=Zdm) (k:=(⟨(U:Int),(Z:Int)⟩:PairD)) .t V)) r2 r1 qZ)))))))) J [6,2,1,0] [7,6,5,4,3,2,0] V V fun a w F G=>?_)))
 try dsimp only [List.map,xD,xE,xT,xU,ldSF,rV,ZeH,Zk] at G
 obtain ⟨es3,hes3⟩:∃ z,z=gDel (⟨(U:Int),(Z:Int)⟩:PairD) es2:=⟨_,rfl⟩
 rw [← hes3] at G
 have hcnt2:Zhw (q.erase (⟨(U:Int),(Z:Int)⟩:PairD)) es3:=by rw [hes3,hes2];exact hk.cnt.del hc1
 refine Za (Ya ?_)
 obtain ⟨F,G⟩:=G.takeAt (Z5 n) 6 60 (U) V V (Zbe ow)
 replace G:=G.turn 60 V (r':=RS.hp (Z0 (Nn sx.ns U) n (nextQ q n (U:Int)))) (fun _ _ _ _ h=>h)
 obtain ⟨F,G⟩:=G.nM [6,2,1,0] [60,7,6,5,4,3,2,0]
 refine Zb G (qR rr (qf (o_nilCheck 2 .is (by rfl)) r1 r1 (qf (oF 1 2 .adr) r1 r1 (qa 2 r1 r1 (qR rr (qf (o_indexAddr_row (sz:=1) 4 (.mk YbB kr) .is .t ow ow (by rfl)) r2 r1 (qf (Zg (ag:=false) (sz':=1) (sz:=1) 4 .t (by intro x;rfl) (by rw [Yb];omega) kr kr kr) r1 r1 (qR rr (qf (o_callG1 60 (setV_c (Nn sx.ns U) n (nextQ q n (U:Int)) (Z:Int) false) func25 V kr (Args.three .t .t .cb)) r2 r1 qZ))))))))) J [6,1,0] [60,7,6,5,4,3,2,0] V V fun a w F G=>?_
 try simp only [Yb] at G
 obtain ⟨F,G⟩:=G.putAt (Z5 n) (L:=famL sx.ns (fun k=>nextQ q n (k:Int))) (x:=(Nn sx.ns U,(putL (nextQ q n (U:Int)) n (Z:Int) false))) 6 60 (U) (by rw [Zaj];omega) V V rfl
 rw [ZdC (ps:=sx.ns) (f:=(fun k=>nextQ q n (k:Int))) (g:=(fun k=>nextQ (q.erase (⟨(U:Int),(Z:Int)⟩:PairD)) n (k:Int))) (k:=U) (Zgb ow hc1) (fun j _ hj=>Zgo ow)] at G
 obtain ⟨F,G⟩:=G.nM [6,1,0] [7,6,5,4,3,2,0]
 refine Za (Ya ?_)
 replace G:=G.fresh 101 rfl
 refine Ze G (qR rr (qf (o_nilCheck 2 .is (by rfl)) r1 r1 (qf (oF 2 2 .adr) r1 r1 (qa 2 r1 r1 (qf (OpC.lendRow 5 [73] (o_callN 101 (Zl9 sx.rs ow) func30 V kr (Args.one .t) pvOne1) ⟨rfl,tv⟩ (fun _ _ _ _ _ h=>h) ⟨(fun _ _ _ _ _ _ _ _ _ _ k=>Zk6 k),tv⟩ (by rfl)) r1 r2 (qO rr qZ)))))) J [7,6,1,0] [101,7,6,5,4,3,2,0] (fun _=>rfl) (fun _=>rfl) fun τ a w F G=>?_
 try dsimp only [RS.sub,SF.sub,CF.sub,csub,Anc.sub,List.map,xD,xE,xT,xU,ldSF,rV,ZeH,Zk] at G
 generalize τ 74=v74 at G
 refine Za (Ya (Ya (rZ G (qR rr (qf (Zx 101 YbB .is) r1 r1 (qJ qZ))) J [77,76,7,6,1,0] [101,7,6,5,4,3,2,0] fun G=>Yk ?_)))
 replace G:=G.turn 5 V (r':=.ob (.val sx.rv) (Zo 51 1 rV (curP (Zcx (famL sx.rs (fun k=>reachQ q (k:Int))))))) (by rw [Znc];exact fun _ _ _ _ h=>h)
 replace G:=G.turn 7 V (r':=Zaw (ZgT n) (Zcx (famL sx.rs (fun k=>reachQ q (k:Int))))) (by rw [ZjQ];exact fun _ _ _ _ h=>h)
 refine Zl (σ:=(Nat)×(List Zg8)) [0,1,6,7,76] [0,2,3,4,6,101] (fun s=>[(77,.pv (.int .i64 (s.1:Int)))]) (fun s=>[(5,.ob (.val sx.rv) (Zo 51 1 rV (curP s.2))),(7,Zaw (ZgT n) s.2)]) (fun s=>s.1≤sx.rs.length∧(Ziq n q (q.erase (⟨(U:Int),(Z:Int)⟩:PairD)) sx.rs s.1 s.2)) (fun s=>sx.rs.length - s.1) ((0),(Zcx (famL sx.rs (fun k=>reachQ q (k:Int))))) G ⟨rfl,rfl,rfl,rfl,rfl,rfl,tv⟩ ⟨rfl,rfl,rfl,rfl,rfl,rfl,rfl,rfl,tv⟩ ⟨YA _,Ziq.start hrl⟩ ?_
 clear G;intro s a w F hC G
 obtain ⟨i,ts⟩:=s
 try dsimp only at hC
 obtain ⟨F,G⟩:=G.nM [77,76,7,6,1,0] [101,7,6,5,4,3,2,0]
 try dsimp only at G
 obtain ⟨hi,hq⟩:=hC
 have hT:=hq
 have hcl9:(curP ts).length=n:=by rw [curP_len,hT.len]
 refine Ya (rZ G (qL r2) J [78,77,76,7,6,1,0] [101,7,6,5,4,3,2,0] fun G=>Ya ?_)
 refine Zc G V (fun hc3=>?_) (fun hc3=>?_)
 ·have hil:i<sx.rs.length:=by simp at hc3;omega
  refine Yg (Za (Ya (Yk (Ya (rZ G (qR rr (qO rr qZ)) J [77,76,8,7,6,1,0] [101,7,6,5,4,3,2,0] fun G=>Ya ?_)))))
  obtain ⟨F,G⟩:=G.takeAt (ZgT n) 7 61 i V V (hT.at ow)
  replace G:=G.turn 61 V (r':=RS.hp (Z0 (Nn sx.rs i) n (reachQ q (i:Int)))) (fun _ _ _ _ h=>h)
  obtain ⟨F,G⟩:=G.nM [77,76,8,7,6,1,0] [101,61,7,6,5,4,3,2,0]
  refine Zb G (qR rr (qR rr (qf (o_eql .t .t) r2 qz (qR rr (qm V V V V (qm V V V V (qk V (fun h=>o_indexAddr_row (sz:=1) 101 (.mk YbB kr) (.w h .is) (.w h) ow ow (by rfl)) r3 r1 (qk V (fun h=>Zg (ag:=false) (sz':=1) (sz:=1) 101 (.w h) (by intro x;rfl) (by rw [Yb];omega) kr kr kr) r2 r1 (qm V V V V (qk V (fun h=>OpC.lend 61 [87] setH_lend (oP (hasS_c n (reachQ q (i:Int)) (U:Int)) func26 (Args.two (.w h) (.w h))) ⟨rfl,tv,tv⟩ (.pv (fun _ _ _ _ h=>h)) trivial (by rfl)) r3 r1 (qf (Zaa .t .t) r2 qz qZ))))))))))) J [90,77,76,8,7,6,1,0] [101,61,7,6,5,4,3,2,0] V V fun a w F G=>?_
  try simp only [Yb] at G
  refine Za (Zc G V (fun hc4=>?_) (fun hc4=>?_))
  ·replace G:=G.fresh 62 rfl
   refine Zac G (qR rr (qf (o_nilCheck 2 .is (by rfl)) r1 r1 (qf (oF 2 2 .adr) r1 r1 (qa 2 r1 r1 (qR rr (qR rr (qR rr (qf (OpC.lendL (ls:=Zjs 2 4 6 _ _ _ _ _ _ _ _) [96] (Zmf ow) (o_callN 62 (ZoT n (q.erase (⟨(U:Int),(Z:Int)⟩:PairD)) i ow hhi hinn.erase) func31 V kr (Args.two .t .t) PV.ptr_one) ⟨rfl,tv,tv⟩ (fun _ _ _ _ _ h=>h) (ZmC ow) (by simp [Zjs,RS.deps,Anc.deps,cdeps,CF.deps,RS.hp]) (by rfl)) r2 r4 (qf (o_indexAddr_row (sz:=1) 5 (.mk YbB kr) .is .t ow ow (by rfl)) r2 r1 (qf (Zdy (i:=98) (j:=98) (by rfl) (fun z=>Zt (R:=rV) (sz:=1) (v:=z) 5 .t (by intro x;rfl) (by rw [Yb];omega) .t V one_is kr)) r2 r1 qZ)))))))))) J [77,76,7,6,1,0] [101,62,61,7,6,5,4,3,2,0] (fun _=>rfl) (fun _=>rfl) fun τ a w F G=>?_
   try dsimp only [RS.sub,SF.sub,CF.sub,csub,Anc.sub,List.map,Zh,xL,xM,Nat.reduceAdd,xD,xE,xT,xU,xC,xN,zCF,ldSF,rV,ZeH,Zk] at G
   generalize τ 98=v98 at G
   try simp only [Yb] at G
   replace G:=G.turn 62 V (r':=RS.hp (Z5 n (v98,reachQ (q.erase (⟨(U:Int),(Z:Int)⟩:PairD)) (i:Int)))) (fun _ _ _ _ h=>h)
   replace G:=G.turn 61 V (r':=RS.hp (Z5 n ((Nn sx.rs i),reachQ q (i:Int)))) (fun _ _ _ _ h=>h)
   replace G:=G.fresh 63 rfl
   obtain ⟨F,G⟩:=G.push 63 62 V V V kr
   obtain ⟨F,G⟩:=G.push 63 61 V V V kr
   replace G:=G.turn 63 V (r':=RS.hp (ZgT n ((Nn sx.rs i,reachQ q (i:Int)),some (v98,reachQ (q.erase (⟨(U:Int),(Z:Int)⟩:PairD)) (i:Int))))) (fun _ _ _ _ h=>h)
   obtain ⟨F,G⟩:=G.putAt (ZgT n) (L:=ts) (x:=((Nn sx.rs i,reachQ q (i:Int)),some (v98,reachQ (q.erase (⟨(U:Int),(Z:Int)⟩:PairD)) (i:Int)))) 7 63 i (by rw [hT.len];omega) V V rfl
   rw [Zmu (o:=((Nn sx.rs i),reachQ q (i:Int))) (x:=reachQ (q.erase (⟨(U:Int),(Z:Int)⟩:PairD)) (i:Int))] at G
   have hT2:=hT.put (show i<n by omega) v98
   obtain ⟨F,G⟩:=G.nM [77,76,7,6,1,0] [101,7,6,5,4,3,2,0]
   refine Zi (Za (rZ G (qp r1 (qR rr qZ)) J [77,76,7,6,1,0] [101,7,6,5,4,3,2,0] fun G=>?_))
   replace G:=G.ent (i:=77) (s':=.pv (.int .i64 ((i+1:Nat):Int))) V (.int (Zf ow))
   obtain ⟨F,G⟩:=G.nM [76,7,6,1,0,77] [101,6,4,3,2,0,7,5]
   exact ⟨((i+1),((ts.set i ((Nn sx.rs i,reachQ q (i:Int)),some (v98,reachQ (q.erase (⟨(U:Int),(Z:Int)⟩:PairD)) (i:Int)))))),F,⟨by omega,hT2⟩,G,by omega⟩
  have hT2:=hT.keep (show i<n by omega) (ZhI hin (by simpa using hc4)).symm
  replace G:=G.turn 61 V (r':=RS.hp (ZgT n ((Nn sx.rs i,reachQ q (i:Int)),none))) (fun _ _ _ _ h=>h)
  obtain ⟨F,G⟩:=G.putBack (ZgT n) (L:=ts) (x:=((Nn sx.rs i,reachQ q (i:Int)),none)) 7 61 i (hT.at ow) V V rfl
  obtain ⟨F,G⟩:=G.nM [90,77,76,8,7,6,1,0] [101,7,6,5,4,3,2,0]
  refine Yg (Zi (Za (rZ G (qp r1 (qR rr qZ)) J [77,76,7,6,1,0] [101,7,6,5,4,3,2,0] fun G=>?_)))
  replace G:=G.ent (i:=77) (s':=.pv (.int .i64 ((i+1:Nat):Int))) V (.int (Zf ow))
  obtain ⟨F,G⟩:=G.nM [76,7,6,1,0,77] [101,6,4,3,2,0,7,5]
  exact ⟨((i+1),(ts)),F,⟨by omega,hT2⟩,G,by omega⟩
 have hil:i=sx.rs.length:=by simp at hc3;omega
 rw [hil,hrl] at hq
 have hT:=hq
 have hcl9:(curP ts).length=n:=by rw [curP_len,hT.len]
 refine YI (Zm (Zm (Zu (Za (Ya (Ya (rZ G (qR rr (qf (Zx 101 YbB .is) r1 r1 (qJ qZ))) J [103,102,7,6,0] [101,7,6,5,4,3,2,0] fun G=>Yk ?_)))))))
 replace G:=G.fresh 50 rfl
 replace G:=G.turn 50 V (Z1 (T:=3) (sz:=1) (R:=Zk))
 refine Zl (σ:=(Nat)×(Value)×(List Int)) [0,6,7,102] [0,3,4,5,6,7,101] (fun s=>[(103,.pv (.int .i64 (s.1:Int)))]) (fun s=>[(2,.pt (.val (.pointer (some ⟨b,0,none⟩))) 50 [.pv (.is sx.cv),.pv (.is sx.nv),.pv (.is sx.rv),.pv (.is s.2.1)]),(50,.ob (.val s.2.1) (Zo 3 1 Zk s.2.2))]) (fun s=>s.1≤sx.rs.length∧(s.2.2=ZfK q (q.erase (⟨(U:Int),(Z:Int)⟩:PairD)) s.1)) (fun s=>sx.rs.length - s.1) ((0),(.slice none 0 0),([])) G ⟨rfl,rfl,rfl,rfl,rfl,tv⟩ ⟨rfl,rfl,rfl,rfl,rfl,rfl,rfl,rfl,rfl,tv⟩ ⟨YA _,rfl⟩ ?_
 clear G;intro s a w F hC G
 obtain ⟨i,wv,ls⟩:=s
 try dsimp only at hC
 obtain ⟨F,G⟩:=G.nM [103,102,7,6,0] [101,50,7,6,5,4,3,2,0]
 try dsimp only at G
 obtain ⟨hi,hq⟩:=hC
 have hlsl:ls.length≤i:=by rw [hq];exact ZgH _ _ _
 refine Ya (rZ G (qL r2) J [104,103,102,7,6,0] [101,50,7,6,5,4,3,2,0] fun G=>Ya ?_)
 refine Zc G V (fun hc5=>?_) (fun hc5=>?_)
 ·have hil:i<sx.rs.length:=by simp at hc5;omega
  refine Yg (Za (Ya (Yk (Ya (rZ G (qR rr (qO rr qZ)) J [103,102,9,7,6,0] [101,50,7,6,5,4,3,2,0] fun G=>Ya ?_)))))
  obtain ⟨F,G⟩:=G.takeAt (ZgT n) 7 61 i V V (Zfm (by rw [hT.len];omega))
  obtain ⟨F,G⟩:=G.nM [103,102,9,7,6,0] [101,61,50,7,6,5,4,3,2,0]
  refine Zp G (qR rr (qR rr (qf (o_indexAddr_row (sz:=1) 101 (.mk YbB kr) .is .t ow ow (by rfl)) r2 r1 (qf (Zg (ag:=false) (sz':=1) (sz:=1) 101 .t (by intro x;rfl) (by rw [Yb];omega) kr kr kr) r1 r1 (qR rr (qf (o_nilCheck 2 .is (by rfl)) r1 r1 (qf (oF 2 2 .adr) r1 r1 (qa 2 r1 r1 (qR rr (qf (o_indexAddr_row (sz:=1) 5 (.mk YbB kr) .is .t ow ow (by rfl)) r2 r1 (qf (Zg (ag:=false) (sz':=1) (sz:=1) 5 .t (by intro x;rfl) (by rw [Yb];omega) kr kr kr) r1 r1 (qf (o_callG1 61 (sameT_c n (Nn ts i)) func32 V kr (Args.two (.conv .t (Ent.isEq (by rw [hT.old i ow];rfl))) (.conv .t (Ent.isEq (nth_curP (by rw [hT.len];omega)))))) r2 r1 (qf (o_not .t) r1 qz qZ))))))))))))) J [118,103,102,9,7,6,0] [101,61,50,7,6,5,4,3,2,0] V V fun a w F G=>?_
  try dsimp only [List.map,xD,xE,xT,xU,ldSF,rV,ZeH,Zk] at G
  try simp only [Yb] at G
  rw [hT.old i ow,hT.cur i ow,show ZfJ q (q.erase (⟨(U:Int),(Z:Int)⟩:PairD)) n i=reachQ (q.erase (⟨(U:Int),(Z:Int)⟩:PairD)) (i:Int) from Yf ow] at G
  obtain ⟨F,G⟩:=G.putBack (ZgT n) (L:=ts) (x:=Nn ts i) 7 61 i (Zfm (by rw [hT.len];omega)) V V rfl
  obtain ⟨F,G⟩:=G.nM [118,103,102,9,7,6,0] [101,50,7,6,5,4,3,2,0]
  refine Za (Zc G V (fun hc6=>?_) (fun hc6=>?_))
  ·have hBq:¬ reachQ q (i:Int)=reachQ (q.erase (⟨(U:Int),(Z:Int)⟩:PairD)) (i:Int):=by simpa using hc6
   refine Ze G (qR rr (qR rr (qf (o_nilCheck 2 .is (by rfl)) r1 r1 (qf (oF 3 2 .adr) r1 r1 (qa 2 r1 r1 (qR rr (qf (o_buildSliceE (sz:=1) (zs:=[.int .i64 0]) (r:=[(0,.tmp 124)]) (l:=[_]) YbA kr kr kr kr V V (.one V .t one_int kr .nil) V) r1 qz (qf (ZB (sz:=1) (bs:=8) 50 (.mk' YbA kr kr) (by intro x;rfl) .is (.arr (l':=[(i:Int)]) .t) (by simp only [Yc,Yx,YS];omega) (by decide)) ⟨rfl,rfl,tv⟩ ⟨rfl,tv⟩ (qf (o_nilCheck 2 .is (by rfl)) r1 r1 (qf (oF 3 2 .adr) r1 r1 (qf (o_storeS 2 .adr kr kr) r2 r1 qZ))))))))))) J [103,102,7,6,0] [101,50,7,6,5,4,3,2,0] (fun _=>rfl) (fun _=>rfl) fun τ a w F G=>?_
   try dsimp only [RS.sub,SF.sub,CF.sub,csub,Anc.sub,List.map,Zh,xL,xM,Nat.reduceAdd,xD,xE,xT,xU,xC,xN,zCF,ldSF,rV,ZeH,Zk] at G
   generalize τ 126=v126 at G
   refine Zi (Za (rZ G (qp r1 (qR rr qZ)) J [103,102,7,6,0] [101,50,7,6,5,4,3,2,0] fun G=>?_))
   replace G:=G.ent (i:=103) (s':=.pv (.int .i64 ((i+1:Nat):Int))) V (.int (Zf ow))
   obtain ⟨F,G⟩:=G.nM [102,7,6,0,103] [101,7,6,5,4,3,0,50,2]
   exact ⟨((i+1),(v126),(ls ++ [(i:Int)])),F,⟨by omega,(by rw [ZbP,← hq,Ye hBq])⟩,G,by omega⟩
  have hBq:reachQ q (i:Int)=reachQ (q.erase (⟨(U:Int),(Z:Int)⟩:PairD)) (i:Int):=by simpa using hc6
  refine Yg (Zi (Za (rZ G (qp r1 (qR rr qZ)) J [103,102,7,6,0] [101,50,7,6,5,4,3,2,0] fun G=>?_)))
  replace G:=G.ent (i:=103) (s':=.pv (.int .i64 ((i+1:Nat):Int))) V (.int (Zf ow))
  obtain ⟨F,G⟩:=G.nM [102,7,6,0,103] [101,7,6,5,4,3,0,50,2]
  exact ⟨((i+1),(wv),(ls)),F,⟨by omega,(by rw [ZbP,← hq,Yf hBq,Yax])⟩,G,by omega⟩
 have hil:i=sx.rs.length:=by simp at hc5;omega
 have hls:ls=Zfj n q (q.erase (⟨(U:Int),(Z:Int)⟩:PairD)):=by rw [hq,hil,hrl];exact Zf2 n q _
 obtain ⟨F,G⟩:=Sat.shrink G 7 (r':=Zaw (Z5 n) (famL (curP ts) (fun k=>reachQ (q.erase (⟨(U:Int),(Z:Int)⟩:PairD)) (k:Int)))) V V (Zhu hT.all)
 refine YI (Zm (Zm (Zu (Za (Ya (rZ G (qI qZ) J [6] [101,50,7,6,5,4,3,2,0] fun G=>Yl ?_))))))
 obtain ⟨F,G⟩:=G.giveCell 50 2 3 V V V V rfl
 try dsimp only [List.set] at G
 obtain ⟨F,G⟩:=G.nM [6] [7,6,5,4,3,2,0]
 have G:=G.fresh 1 rfl
 obtain ⟨F,G⟩:=G.push 1 7 V V V kr
 obtain ⟨F,G⟩:=G.push 1 6 V V V kr
 obtain ⟨F,G⟩:=G.push 1 5 V V V kr
 obtain ⟨F,G⟩:=G.push 1 4 V V V kr
 obtain ⟨F,G⟩:=G.push 1 3 V V V kr
 obtain ⟨F,G⟩:=G.push 1 2 V V V kr
 have G:=G.turn 1 V (r':=RS.hp (clH (.pointer (some ⟨b,0,none⟩)) n (q.erase (⟨(U:Int),(Z:Int)⟩:PairD)) ls)) (fun _ _ _ _ h=>⟨{ sx with es:=es3,ck:=ck2,rs:=curP ts },⟨(by rw [hls];exact lastQ_len n q _),hhi,hinn.erase,(by have:=List.length_erase_le (a:=(⟨(U:Int),(Z:Int)⟩:PairD)) (l:=q);have:=hk.len;omega),hnl,(by show (curP ts).length=n;rw [curP_len,hT.len]),hcnt2⟩,h⟩)
 obtain ⟨F,G⟩:=G.nM [6] [1,0]
 have G:=G.turn 1 V (r':=RS.hp (clH (.pointer (some ⟨b,0,none⟩)) n (stepQ n q (⟨1,(U:Int),(Z:Int)⟩:Deed4)).1 (lastD n q last (⟨1,(U:Int),(Z:Int)⟩:Deed4)))) (by unfold lastD;rw [hg];exact (by rw [Yf rfl,← hls];exact fun _ _ _ _ h=>h))
 refine Zy hG G V (.tmp V .nil) (.one (.int (by rw [hg]))) rfl
theorem add_lit (b n:Nat) (q:List PairD) (last:List Int) (u v:Int) (q':List PairD) (last':List Int) (e:Int) (h:stepQ n q ⟨0,u,v⟩ = (q',e)) (h2:lastD n q last ⟨0,u,v⟩ = last') (hl:q.length<1000000):FnG prog 8 1 [.is (.pointer (some ⟨b,0,none⟩)),.int .i64 u,.int .i64 v] [clH (.pointer (some ⟨b,0,none⟩)) n q last] (.int .i64 e) (fun _=>[clH (.pointer (some ⟨b,0,none⟩)) n q' last']):=by
 have k:=Zoa b n q last u v hl
 rw [h,h2] at k;exact k
theorem ZeZ {n:Nat} {q:List PairD} {d:Deed4} (h:¬ (stepQ n q d).2=0):(stepQ n q d).1=q:=by
 unfold stepQ at *
 split at h
 ·rename_i c
  rw [Yf c]
  split at h
  ·exact absurd rfl h
  ·rename_i c1
   rw [Ye c1]
   split at h
   ·rename_i c2;rw [Yf c2]
   ·exact absurd rfl h
 ·rename_i c;rw [Ye c]
theorem stepQ_len (n:Nat) (q:List PairD) (d:Deed4):(stepQ n q d).1.length≤q.length+1:=by
 unfold stepQ
 split
 ·split
  ·simp
  ·split
   ·exact Nat.le_succ _
   ·exact YaN List.length_erase_le (Nat.le_succ _)
 ·exact Nat.le_succ _
theorem stepQ_in {n:Nat} {q:List PairD} {d:Deed4} (h:InN n q):InN n (stepQ n q d).1:=by
 unfold stepQ
 split
 ·rename_i c
  split
  ·exact h.add c.1 c.2
  ·split
   ·exact h
   ·exact h.erase
 ·exact h
theorem Zej {q:List PairD} {u v w:Int} (h1:v ∈ reachQ q u) (h2:w ∈ reachQ q v):w ∈ reachQ q u:=((Zj q u).2 w).2 ((((Zj q u).2 v).1 h1).trans (((Zj q v).2 w).1 h2))
theorem Zki {n:Nat} {q:List PairD} {u:Int} (h:There n u):Zpg n q u=reachQ q u:=Yf h
def Zb8 (q:List PairD) (x u:Int):Prop:=x=u∨(x ∈ reachQ q u∧u ∈ reachQ q x)
instance (q:List PairD) (x u:Int):Decidable (Zb8 q x u):=by unfold Zb8;infer_instance
theorem Zb8.symm {q:List PairD} {x u:Int} (h:Zb8 q x u):Zb8 q u x:=h.imp Eq.symm And.symm
theorem Zb8.trans {q:List PairD} {x u v:Int} (h:Zb8 q x u) (k:Zb8 q u v):Zb8 q x v:=by
 rcases h with rfl | ⟨h1,h2⟩
 ·exact k
 ·rcases k with rfl | ⟨k1,k2⟩
  ·exact .inr ⟨h1,h2⟩
  ·exact .inr ⟨Zej k1 h1,Zej h2 k2⟩
def compQ (n:Nat) (q:List PairD) (u:Int):List Int:=((List.range n).map fun j:Nat=>(j:Int)).filter fun x=>decide (Zb8 q x u)
theorem Zdn (n:Nat) (q:List PairD) (u:Int):Up n (compQ n q u):=⟨(Zdq n).1.filter _,fun i hi=>(Zdq n).2 i (YH.1 hi).1⟩
theorem ZaQ {n:Nat} {q:List PairD} {u x:Int} : x ∈ compQ n q u ↔ There n x∧Zb8 q x u:=by
 unfold compQ
 rw [YH,Zae,Yn]
theorem ZjP {n:Nat} {q:List PairD} {u:Int} (h:There n u):u ∈ compQ n q u:=ZaQ.2 ⟨h,.inl rfl⟩
def Zj0 (n:Nat) (q:List PairD) (u:Int):Int:=Nn (compQ n q u) 0
theorem Zf9 {n:Nat} {q:List PairD} {u:Int} (h:There n u):0<(compQ n q u).length:=Ybk (ZjP h)
theorem Znb {n:Nat} {q:List PairD} {u:Int} (h:There n u):Zj0 n q u ∈ compQ n q u:=nth_mem (Zf9 h)
theorem ZoJ {n:Nat} {q:List PairD} {u x:Int} (hx:x ∈ compQ n q u):Zj0 n q u≤x:=by
 have hu:=(Zdn n q u).1
 unfold Zj0
 generalize compQ n q u=l at hx hu
 cases l with
 | nil=>cases hx
 | cons a l=>
  rw [show Nn (a :: l) 0=a from nth_eq (by simp)]
  rcases Yh.1 hx with rfl | hx
  ·exact Yak _
  ·exact Ybx ((Yq.1 hu).1 x hx)
theorem Zna {n:Nat} {q:List PairD} {u:Int} (h:There n u):Zb8 q (Zj0 n q u) u:=(ZaQ.1 (Znb h)).2
def Zc2 (n:Nat) (q:List PairD):List Int:=(List.range n).map fun i:Nat=>Zj0 n q (i:Int)
theorem labsQ_len (n:Nat) (q:List PairD):(Zc2 n q).length=n:=by unfold Zc2;rw [YZ,List.length_range]
theorem Zgd {n:Nat} {q:List PairD} {i:Nat} (h:i<n):Nn (Zc2 n q) i=Zj0 n q (i:Int):=by
 rw [nth_eq (by rw [labsQ_len];exact h)];simp [Zc2]
structure ZnE where
 nodes:List Int
 arcs:List ZT
 deriving DecidableEq,Inhabited
def Zpz (n:Nat) (q:List PairD) (i:Int) (a:ZT):Bool:=decide (Zj0 n q a.src=i) && decide (Zj0 n q a.dst=i)
def Zo3 (n:Nat) (q:List PairD) (i:Int):List ZT:=(Zju q).filter (Zpz n q i)
def Zpy (n:Nat) (q:List PairD) (i:Nat):ZnE:=⟨compQ n q (i:Int),Zo3 n q (i:Int)⟩
def Zo7 (n:Nat) (q:List PairD) (k:Nat):List ZnE:=((List.range k).filter fun i:Nat=>decide (Zj0 n q (i:Int)=(i:Int))).map (Zpy n q)
abbrev ZpI (n:Nat) (q:List PairD):List ZnE:=Zo7 n q n
def memB (n:Nat) (q:List PairD) (u:Int):List Int:=if There n u then compQ n q u else []
end Go.Proofs.YtlaaiihdhockcaaGreatDoor
