/- Texts put together. No condition beyond those that each theorem says. -/
import Derived.Test.YtlkpllemoepamaaGreatJ8
import Derived.Test.YtlkpllemoepamaaGreatLibL
import Derived.Test.YtlkpllemoepamaaGreatJ0
import Derived.Test.YtlkpllemoepamaaGreatJ9
import Derived.Test.YtlkpllemoepamaaGreatLibE
import Derived.Test.YtlkpllemoepamaaGreatJ4
import Derived.Test.YtlkpllemoepamaaGreatJ7
namespace Go.Proofs.YtlkpllemoepamaaGreat
open Go Go.Gm Tryz
set_option linter.unusedVariables false
set_option linter.unusedSimpArgs false
set_option maxHeartbeats 4000000
set_option maxRecDepth 8000
def Zhb (n:Nat) (x:List Int) (v:Value):HP:=.ex fun ws:List Int=>.and (ZeB n ws x) (ZhI v n ws)
def Zwc (n:Nat) (x:List Int):PV:=⟨fun u w y=>∃ ws,ZeB n ws x∧(PV.ref [.int .i64 n,.sl ZuL ws]).p u w y,fun h ⟨ws,h1,h2⟩=>⟨ws,h1,PV.mono _ h h2⟩⟩
theorem Zdl {v:Value} {n:Nat} {x:List Int} {w:World} {f y:Ys} (h:(Zhb n x v).p w f y):∃ b,v = .pointer (some ⟨b,0,none⟩):=by
 obtain ⟨ws,_,h⟩:=h
 exact (Zqe h).2
theorem Zsh {v:Value} {n:Nat} {x:List Int} : ZuP (Zhb n x v) v (Zwc n x):=by
 intro w f y y' h hle hf hb
 obtain ⟨ws,h1,h2⟩:=h
 refine ⟨ws,h1,?_⟩
 obtain ⟨wv,hI,f1,f2,e1,e2,e3,⟨b,vs,k1,k2,k3,k4⟩,f3,f4,e4,e5,e6,⟨xs,k5,k6,k7⟩,k8⟩:=h2
 refine ⟨b,0,vs.toList,k1,hf b ((e1 b).2 (.inl ((k3 b).2 rfl))),hb b ((e1 b).2 (.inl ((k3 b).2 rfl))),ZC.mk fun j u hj=>?_,?_⟩
 ·simp only [Y3]
  simp [World.cell?,k2]
  simpa using hj
 ·generalize vs.toList=us at k4
  match us,k4 with
  | [u1,u2],k4=>
   refine ⟨k4.1,⟨k4.2.1.1,?_⟩,tv⟩
   have e:u2=wv:=k4.2.1.2.1
   subst e
   obtain ⟨ad,cap,e8,h8,h9,h10⟩:=ZO k5
   refine ⟨ad,cap,e8,h8,h9,?_⟩
   rcases h10 with h10 | ⟨b',rfl,h11,h12⟩
   ·exact .inl (YR h10)
   ·have hb':f b':=(e1 b').2 (.inr ((e4 b').2 (.inl ((k7 b').2 h11))))
    exact .inr ⟨b',0,xs,rfl,hf b' hb',hb b' hb',h12,PVs.mono (Ev.less w hle) k6⟩
theorem ZrE (n:Nat) (x:List Int) (i:Int):FnP prog 202 [Zwc n x,.int .i64 i] (.bool (decide (i ∈ x))):=fun w y vs hy hv=>by
 match vs,hv with
 | u :: us,hv=>
  obtain ⟨ws,h1,h2⟩:=hv.1
  rw [← h1.in i]
  exact Zs1 n ws h1.ok i w y (u :: us) hy ⟨h2,hv.2⟩
theorem Zmd (b n:Nat) (x:List Int) (i:Int) (on:Bool):FnG prog 222 1 [.is (.pointer (some ⟨b,0,none⟩)),.int .i64 i,.bool on] [Zhb n x (.pointer (some ⟨b,0,none⟩))] .any (fun _=>[Zhb n (putL x n i on) (.pointer (some ⟨b,0,none⟩))]):=fun w F vs hw hle hv hp=>by
 obtain ⟨ws,h1,h2⟩:=hp 0 _ rfl
 refine (ZvQ b n ws i on w F vs hw hle hv (fun i k hi=>by
  match i,hi with
  | 0,hi=>simp at hi;subst hi;exact h2)).mono ?_
 rintro e w' ⟨u,F',rfl,a1,a2,a3,a4,a5⟩
 refine ⟨u,F',rfl,a1,a2,a3,tv,fun j k hj=>?_⟩
 match j,hj with
 | 0,hj=>
  simp at hj;subst hj
  exact ⟨_,h1.set i on,a5 0 _ rfl⟩
theorem ZrM (m:Int):FnG prog 162 1 [.int .i64 m] [HP.star []] PV.ptr (fun v=>[Zhb (rowN m) [] v]):=fun w F vs hw hle hv hp=>by
 refine (Zvw m w F vs hw hle hv hp).mono ?_
 rintro e w' ⟨u,F',rfl,a1,a2,a3,a4,a5⟩
 refine ⟨u,F',rfl,a1,a2,a3,a4,fun i k hi=>?_⟩
 match i,hi with
 | 0,hi=>simp at hi;subst hi;exact ⟨_,ZeB.zero m,a5 0 _ rfl⟩
def Zfv (x:Int):List PV:=[.int .i32 x]
def Zjx (p:Int×List Int):List PV:=[.int .i64 p.1,.sl Zn p.2]
def Zu5 (cl:PV) (n:Nat) (s:Zbw) (v wv lv sv iv ov:Value):List RS:=[.pt (.val v) 232 [.pv cl,.pv (.is wv),.pv (.is lv),.pv (.is sv),.pv (.is iv),.pv (.int .i32 s.ck),.pv (.is ov)],.ob (.val wv) (Zy 21 1 Zfv s.wh),.ob (.val lv) (Zy 21 1 Zfv s.lo),RS.hp (stH sv n s.wait),RS.hp (Zhb n s.inn iv),.ob (.val ov) (Zy 3 1 Zn s.out)]
def Zcv (cl:PV) (n:Nat) (s:Zbw) (v:Value):HP:=.ex fun wv:Value=>.ex fun lv:Value=>.ex fun sv:Value=>.ex fun iv:Value=>.ex fun ov:Value=>.star (Zu5 cl n s v wv lv sv iv ov)
theorem Zrc {x:Int} (h : -2147483648≤x∧x≤2147483647):IntKind.wrap .i32 x=x:=Zf3 ⟨by simp [IntKind.min,IntKind.signed,IntKind.bits];omega,by simp [IntKind.max,IntKind.signed,IntKind.bits];omega⟩
theorem ZsD (b : Nat) (n : Nat) (adj : Int → List Int) (f : FuncId) (fn : Func) (cps : List PV) (hf : prog.funcs[f]? = some fn) (hb : fn.body.isSome = true) (hnn : (fn.name == "runtime.NumGoroutine") = false) (hw : ∀ u, 0 ≤ u ∧ u < (n : Int) → FnP prog f ([.int .i64 u] ++ cps) (.sl Zn (adj u))) (sd : Zbw) (x : Int) (hx1 : 0 ≤ x) (hx2 : x < n) (hn : n ≤ 4096) (hlw : sd.wh.length = n) (hll : sd.lo.length = n) (hck : 0 ≤ sd.ck ∧ sd.ck ≤ n) (hwt : sd.wait.length < n) : FnG prog 200 1 [.is (.pointer (some ⟨b, 0, none⟩)), .int .i64 x] [Zcv (.clos f cps) n sd (.pointer (some ⟨b, 0, none⟩))] (.agg (Zjx (x, adj x))) (fun _ => [Zcv (.clos f cps) n (Zbv n sd x) (.pointer (some ⟨b, 0, none⟩))]) := by
 refine FnG.mk func200 rfl ntmps200 rfl kr fun B F0 a w F V hG G=>Ya ?_
 obtain ⟨wv,G⟩:=G.open_ex 1 rfl
 obtain ⟨lv,G⟩:=G.open_ex 1 rfl
 obtain ⟨sv,G⟩:=G.open_ex 1 rfl
 obtain ⟨iv,G⟩:=G.open_ex 1 rfl
 obtain ⟨ov,G⟩:=G.open_ex 1 rfl
 obtain ⟨F,G⟩:=G.peel 1 2 rfl rfl
 obtain ⟨F,G⟩:=G.peel 1 3 rfl rfl
 obtain ⟨F,G⟩:=G.peel 1 4 rfl rfl
 obtain ⟨F,G⟩:=G.peel 1 5 rfl rfl
 obtain ⟨F,G⟩:=G.peel 1 6 rfl rfl
 obtain ⟨F,G⟩:=G.peel 1 7 rfl rfl
 replace G:=G.turn 5 rfl (r':=.ob (.val sv) (fun v=>stH v n sd.wait)) (fun _ _ _ _ h=>h)
 obtain ⟨_,_,_,ho⟩:=G.obGet 5 rfl
 obtain ⟨sb,rfl⟩:=ZeE ho
 clear ho
 replace G:=G.turn 6 rfl (r':=.ob (.val iv) (Zhb n sd.inn)) (fun _ _ _ _ h=>h)
 obtain ⟨_,_,_,ho⟩:=G.obGet 6 rfl
 obtain ⟨ib,rfl⟩:=Zdl ho
 clear ho
 replace G:=G.turn 5 rfl (r':=RS.hp (stH (.pointer (some ⟨sb,0,none⟩)) n sd.wait)) (fun _ _ _ _ h=>h)
 replace G:=G.turn 6 rfl (r':=RS.hp (Zhb n sd.inn (.pointer (some ⟨ib,0,none⟩)))) (fun _ _ _ _ h=>h)
 obtain ⟨F,G⟩:=G.nM [1,0] [7,6,5,4,3,2,0]
 refine Zb G (qf (oH [.int .i64 0,.slice none 0 0] 101) trivial qz qZ) V [4,1,0] [101,7,6,5,4,3,2,0] (fun _=>rfl) (fun _=>rfl) fun τ a w F G=>?_
 try dsimp only [RS.sub,SF.sub,CF.sub,csub,Anc.sub,List.map,zCF,Zn,Zfv,Zjx] at G
 generalize τ 4=v4 at G
 refine Za (Ya (Ze G (qR rr (qf (o_nilCheck 2 .is (by rfl)) r1 r1 (qf (oF 5 2 .adr) r1 r1 (qa 2 r1 r1 (qp r1 (qf (o_nilCheck 2 .is (by rfl)) r1 r1 (qf (oF 5 2 .adr) r1 r1 (qf (ZaZ 2 .adr .t one_int kr kr) r2 r1 qZ)))))))) V [4,1,0] [101,7,6,5,4,3,2,0] rfl rfl fun a w F G=>?_))
 rw [Zrc ow] at G
 refine Za (Ya (Zv G (qR rr (qf (o_nilCheck 2 .is (by rfl)) r1 r1 (qf (oF 1 2 .adr) r1 r1 (qa 2 r1 r1 (qR rr (qR rr (qf (o_nilCheck 2 .is (by rfl)) r1 r1 (qf (oF 2 2 .adr) r1 r1 (qa 2 r1 r1 (qR rr (qR rr (qf (o_nilCheck 2 .is (by rfl)) r1 r1 (qf (oF 5 2 .adr) r1 r1 (qa 2 r1 r1 (qR rr (qf (o_nilCheck 2 .is (by rfl)) r1 r1 (qf (oF 5 2 .adr) r1 r1 (qa 2 r1 r1 (qf (o_indexAddr_row (sz:=1) 3 (.mk Ycn kr) .is .t ow ow (by rfl)) r2 r1 (qf (ZI (R:=Zfv) (sz:=1) (v:=(sd.ck+1)) 3 .t (by intro x;rfl) ow .t rfl one_int kr) r2 r1 (qf (o_indexAddr_row (sz:=1) 4 (.mk Ycn kr) .is .t ow ow (by rfl)) r2 r1 (qf (ZI (R:=Zfv) (sz:=1) (v:=(sd.ck+1)) 4 .t (by intro x;rfl) ow .t rfl one_int kr) r2 r1 qZ)))))))))))))))))))))) V [4,1,0] [101,7,6,5,4,3,2,0] rfl rfl fun a w F G=>?_))
 try dsimp only [List.map,Zf,xL,xM,Nat.reduceAdd,xD,xE,xT,xU,xC,xN,zCF,ldSF,Zn,Zfv,Zjx] at G
 try simp only [Yb] at G
 refine Za (Ya (rZ G (qR rr (qf (o_nilCheck 2 .is (by rfl)) r1 r1 (qf (oF 3 2 .adr) r1 r1 (qa 2 r1 r1 (qR rr (qf (ZK 5 (ZnI sb n sd.wait x ⟨by omega,by omega⟩ ow) func221 rfl kr (Args.two .t .t)) r2 r1 qZ)))))) V [4,1,0] [101,7,6,5,4,3,2,0] fun G=>Ya ?_))
 refine rZ G (qR rr (qf (o_nilCheck 2 .is (by rfl)) r1 r1 (qf (oF 4 2 .adr) r1 r1 (qa 2 r1 r1 (qR rr (qf (ZK 6 (Zmd ib n sd.inn x true) func222 rfl kr (Args.three .t .t .cb)) r2 r1 qZ)))))) V [4,1,0] [101,7,6,5,4,3,2,0] fun G=>Ya ?_
 refine rZ G (qR rr (qR rr (qf (o_nilCheck 2 .is (by rfl)) r1 r1 (qf (oF 0 2 .adr) r1 r1 (qa 2 r1 r1 (qR rr (qf (ZM .t (hw x ⟨hx1,hx2⟩) hf hb hnn (Args.one .t)) r2 qz (qf (oB [(0,.tmp 44),(1,.tmp 50)] [.int .i64 0,.slice none 0 0] [(0,1),(1,1)] (.one rfl .t one_int kr (.one rfl .t one_sl kr .nil))) r2 qz (qs 2 101 r2 r1 qZ))))))))) V [4] [101,7,6,5,4,3,2,0] fun G=>Yh ?_
 have G:=G.fresh 1 rfl
 obtain ⟨F,G⟩:=G.push 1 7 rfl rfl rfl kr
 obtain ⟨F,G⟩:=G.push 1 6 rfl rfl rfl kr
 obtain ⟨F,G⟩:=G.push 1 5 rfl rfl rfl kr
 obtain ⟨F,G⟩:=G.push 1 4 rfl rfl rfl kr
 obtain ⟨F,G⟩:=G.push 1 3 rfl rfl rfl kr
 obtain ⟨F,G⟩:=G.push 1 2 rfl rfl rfl kr
 have G:=G.turn 1 rfl (r':=RS.hp (Zcv (.clos f cps) n (Zbv n sd x) (.pointer (some ⟨b,0,none⟩)))) (fun _ _ _ _ h=>⟨_,_,_,_,_,h⟩)
 refine Zaf hG G rfl (.cl 101 true 2 rfl rfl .nil) (.one (.aggU rfl rfl)) rfl
theorem Zvm (l:List Int) (hl:l≠[]):FnP prog 224 [.sl Zn l] (.int .i64 (ZjX l)):=by
 refine FnP.mk func224 rfl ntmps224 rfl fun B a w F V hfr G=>?_
 have hxl:=Sat.lenSl G (i:=0) rfl
 have hl0:0<l.length:=Yay.2 hl
 refine Ya (rZ G (qI qZ) V [2,0] [0] fun G=>(Ya (Ya ?_)))
 refine rZ G (qR rr (qu Ycd r1 (qf (ZaA .t qi) r1 qz qZ))) V [7,2,0] [0] fun G=>?_
 refine Zc G rfl (fun hc0=>?_) (fun hc0=>?_)
 ·have:=Yt hc0;omega
 refine Ye (Za (Ya (Ze G (qR rr (qf (o_indexAddr_sl (sz:=1) (.mk Ycd kr) (by intro x;rfl) .t qi ow ow) r1 qz (qf (oR false 1 .t) r1 qz (qO rr qZ)))) V [3,2,0] [0] rfl rfl fun a w F G=>?_)))
 try simp only [Yb] at G
 try rw [show (0:Int).toNat=0 from rfl] at G
 refine Za (Ya (Ya (rZ G (qI qZ) V [4,3,2,0] [0] fun G=>Yg ?_)))
 replace G:=G.ent (i:=3) (s':=.pv (.int .i64 (ZjX (l.take 1)))) rfl (.int (Zq2 hl))
 replace G:=G.ent (i:=4) (s':=.pv (.int .i64 ((1:Nat):Int))) rfl (.int rfl)
 refine Zl (σ:=Nat) [0,2] [0] (fun s=>[(3,.pv (.int .i64 (ZjX (l.take s)))),(4,.pv (.int .i64 (s:Int)))]) (fun s=>[]) (fun s=>1≤s∧s≤l.length) (fun s=>l.length - s) (1) G ⟨rfl,rfl,rfl,rfl,tv⟩ ⟨rfl,tv⟩ ⟨YL _,hl0⟩ ?_
 clear G;intro i a w F hC G
 try dsimp only at hC
 obtain ⟨F,G⟩:=G.nM [4,3,2,0] [0]
 try dsimp only at G
 obtain ⟨hi1,hi2⟩:=hC
 refine Ya (Ya (rZ G (qR rr (qR rr (qu Ycd r1 (qL r2)))) V [15,4,3,2,0] [0] fun G=>?_))
 refine Zc G rfl (fun hc1=>?_) (fun hc1=>?_)
 ·have hil:i<l.length:=by have:=Yt hc1;omega
  refine Ye (Za (Ya (Yg (Ze G (qR rr (qR rr (qR rr (qy 1 Ycd r2 (qf (oR false 1 .t) r1 qz (qf (o_min .t .t) r2 qz (qO rr qZ))))))) V [4,3,2,0] [0] rfl rfl fun a w F G=>?_))))
  try simp only [Yb] at G
  refine Zi (Za (rZ G (qR rr (qp r1 (qO rr qZ))) V [4,3,2,0] [0] fun G=>?_))
  replace G:=G.ent (i:=3) (s':=.pv (.int .i64 (ZjX (l.take (i+1))))) rfl (.int (Zn3 hi1 hil))
  replace G:=G.ent (i:=4) (s':=.pv (.int .i64 ((i+1:Nat):Int))) rfl (.int (Zd ow))
  obtain ⟨F,G⟩:=G.nM [2,0,4,3] [0]
  exact ⟨(i+1),F,⟨by omega,by omega⟩,G,by omega⟩
 have hil:i=l.length:=by have:=YJ hc1;omega
 refine Yw (Zj (Zj (Zo (Za (Ya (rZ G (qR rr (qO rr qZ)) V [2] [0] fun G=>Yh ?_))))))
 refine Zs hfr G rfl rfl rfl (.int (by rw [hil,YA]))
theorem Zul (b:Nat) (cps:List PV) (f:FuncId) (n:Nat) (sd:Zbw) (x:Int) (hx:x ∈ sd.wait) (hrng:∀ u ∈ sd.wait,0≤u∧u<(n:Int)) (hn:n≤4096) (hlw:sd.wh.length=n) (hll:sd.lo.length=n) (hlo:sd.out.length=n) (hwl:sd.wait.length≤n):FnG prog 201 1 [.is (.pointer (some ⟨b,0,none⟩)),.int .i64 x] [Zcv (.clos f cps) n sd (.pointer (some ⟨b,0,none⟩))] (.tup []) (fun _=>[Zcv (.clos f cps) n (leaveD n sd x) (.pointer (some ⟨b,0,none⟩))]):=by
 refine FnG.mk func201 rfl ntmps201 rfl kr fun B F0 a w F V hG G=>?_
 obtain ⟨hx1,hx2⟩:=hrng x hx
 refine Ya (Ya ?_)
 obtain ⟨wv,G⟩:=G.open_ex 1 rfl
 obtain ⟨lv,G⟩:=G.open_ex 1 rfl
 obtain ⟨sv,G⟩:=G.open_ex 1 rfl
 obtain ⟨iv,G⟩:=G.open_ex 1 rfl
 obtain ⟨ov,G⟩:=G.open_ex 1 rfl
 obtain ⟨F,G⟩:=G.peel 1 2 rfl rfl
 obtain ⟨F,G⟩:=G.peel 1 3 rfl rfl
 obtain ⟨F,G⟩:=G.peel 1 4 rfl rfl
 obtain ⟨F,G⟩:=G.peel 1 5 rfl rfl
 obtain ⟨F,G⟩:=G.peel 1 6 rfl rfl
 obtain ⟨F,G⟩:=G.peel 1 7 rfl rfl
 replace G:=G.turn 5 rfl (r':=.ob (.val sv) (fun v=>stH v n sd.wait)) (fun _ _ _ _ h=>h)
 obtain ⟨_,_,_,ho⟩:=G.obGet 5 rfl
 obtain ⟨sb,rfl⟩:=ZeE ho
 clear ho
 replace G:=G.turn 6 rfl (r':=.ob (.val iv) (Zhb n sd.inn)) (fun _ _ _ _ h=>h)
 obtain ⟨_,_,_,ho⟩:=G.obGet 6 rfl
 obtain ⟨ib,rfl⟩:=Zdl ho
 clear ho
 replace G:=G.turn 5 rfl (r':=RS.hp (stH (.pointer (some ⟨sb,0,none⟩)) n sd.wait)) (fun _ _ _ _ h=>h)
 replace G:=G.turn 6 rfl (r':=RS.hp (Zhb n sd.inn (.pointer (some ⟨ib,0,none⟩)))) (fun _ _ _ _ h=>h)
 obtain ⟨F,G⟩:=G.nM [1,0] [7,6,5,4,3,2,0]
 refine Zv G (qR rr (qf (o_nilCheck 2 .is (by rfl)) r1 r1 (qf (oF 2 2 .adr) r1 r1 (qa 2 r1 r1 (qR rr (qf (o_indexAddr_row (sz:=1) 4 (.mk Ycn kr) .is .t ow ow (by rfl)) r2 r1 (qf (Zu (ag:=false) (sz':=1) (sz:=1) 4 .t (by intro x;rfl) ow kr kr kr) r1 r1 (qR rr (qf (o_nilCheck 2 .is (by rfl)) r1 r1 (qf (oF 1 2 .adr) r1 r1 (qa 2 r1 r1 (qR rr (qf (o_indexAddr_row (sz:=1) 3 (.mk Ycn kr) .is .t ow ow (by rfl)) r2 r1 (qf (Zu (ag:=false) (sz':=1) (sz:=1) 3 .t (by intro x;rfl) ow kr kr kr) r1 r1 (qf (o_neq .t .t) r2 qz qZ))))))))))))))) V [24,1,0] [7,6,5,4,3,2,0] rfl rfl fun a w F G=>?_
 try dsimp only [List.map,xD,xE,xT,xU,ldSF,Zn,Zfv,Zjx] at G
 try simp only [Yb] at G
 refine Za (Zc G rfl (fun hc0=>?_) (fun hc0=>?_))
 ·have hg:leaveD n sd x=sd:=by unfold leaveD;rw [Yc];rw [ZaR hx1,ZaR hx1];simpa using hc0
  refine Yh (Zk ?_)
  have G:=G.fresh 1 rfl
  obtain ⟨F,G⟩:=G.push 1 7 rfl rfl rfl kr
  obtain ⟨F,G⟩:=G.push 1 6 rfl rfl rfl kr
  obtain ⟨F,G⟩:=G.push 1 5 rfl rfl rfl kr
  obtain ⟨F,G⟩:=G.push 1 4 rfl rfl rfl kr
  obtain ⟨F,G⟩:=G.push 1 3 rfl rfl rfl kr
  obtain ⟨F,G⟩:=G.push 1 2 rfl rfl rfl kr
  have G:=G.turn 1 rfl (r':=RS.hp (Zcv (.clos f cps) n sd (.pointer (some ⟨b,0,none⟩)))) (fun _ _ _ _ h=>⟨_,_,_,_,_,h⟩)
  rw [hg]
  refine Zaf hG G rfl .nil .none rfl
 have hg:leaveD n sd x=Zn2 n sd x (ZjX (partL sd.wait x)):=by unfold leaveD;rw [Yf];rw [ZaR hx1,ZaR hx1];simpa using hc0
 refine Ye (Za (Ya (rZ G (qC qZ) V [4,1,0] [7,6,5,4,3,2,0] fun G=>(Ya (Yg ?_)))))
 replace G:=G.fresh 50 rfl
 replace G:=G.turn 50 rfl (ZaE (T:=3) (sz:=1) (R:=Zn))
 replace G:=G.turn 5 rfl (r':=RS.hp (stH (.pointer (some ⟨sb,0,none⟩)) n (sd.wait.take (sd.wait.length - 0)))) (by rw [YbZ,YA];exact fun _ _ _ _ h=>h)
 refine Zl (σ:=Nat×Value×List Int) [0,1] [0,2,3,4,7] (fun s=>[(4,.pv (.is s.2.1))]) (fun s=>[(5,RS.hp (stH (.pointer (some ⟨sb,0,none⟩)) n (sd.wait.take (sd.wait.length - s.1)))),(6,RS.hp (Zhb n (innL n s.2.2 sd.inn) (.pointer (some ⟨ib,0,none⟩)))),(50,.ob (.val s.2.1) (Zy 3 1 Zn s.2.2))]) (fun s=>s.1<sd.wait.length∧s.2.2=sd.wait.reverse.take s.1∧x ∉ s.2.2) (fun s=>sd.wait.length - s.1) ((0),(.slice none 0 0),([])) G ⟨rfl,rfl,rfl,tv⟩ ⟨rfl,rfl,rfl,rfl,rfl,rfl,rfl,rfl,tv⟩ ⟨List.length_pos_of_mem hx,rfl,by simp⟩ ?_
 clear G;intro s a w F hC G
 obtain ⟨k,v4,out⟩:=s
 try dsimp only at hC
 obtain ⟨F,G⟩:=G.nM [4,1,0] [50,7,6,5,4,3,2,0]
 try dsimp only at G
 obtain ⟨hk,hq,hxo⟩:=hC
 have hol:out.length≤k:=by rw [hq,Yi];omega
 rw [(ZlG hk).2] at G
 have hyr:=hrng _ (nth_mem (show sd.wait.length - (k+1)<sd.wait.length by omega))
 refine Yg (Ya (rZ G (qR rr (qf (o_nilCheck 2 .is (by rfl)) r1 r1 (qf (oF 3 2 .adr) r1 r1 (qa 2 r1 r1 (qf (ZK 5 (Ztr sb n (sd.wait.take (sd.wait.length - (k+1))) (Nn sd.wait (sd.wait.length - (k+1))) (by rw [Yi];omega)) func223 rfl kr (Args.one .t)) r1 r1 (qR rr (qf (Zh .t rfl) r1 qz (qf (Zh .t rfl) r1 qz (qO rr (qO rr qZ)))))))))) V [6,5,4,1,0] [50,7,6,5,4,3,2,0] fun G=>(Ya (Ya ?_))))
 refine rZ G (qR rr (qf (o_not .t) r1 qz qZ)) V [34,5,4,1,0] [50,7,6,5,4,3,2,0] fun G=>?_
 refine Zc G rfl (fun hc1=>?_) (fun hc1=>?_)
 ·simp at hc1
 refine Ye (Za (Ya (Ze G (qR rr (qf (o_nilCheck 2 .is (by rfl)) r1 r1 (qf (oF 4 2 .adr) r1 r1 (qa 2 r1 r1 (qR rr (qf (ZK 6 (Zmd ib n (innL n out sd.inn) (Nn sd.wait (sd.wait.length - (k+1))) false) func222 rfl kr (Args.three .t .t .cb)) r2 r1 qZ)))))) V [5,4,1,0] [50,7,6,5,4,3,2,0] rfl rfl fun a w F G=>?_)))
 rw [Zpz] at G
 refine Za (Ya (Zb G (qR rr (qR rr (qf (o_buildSliceE (sz:=1) (zs:=[.int .i64 0]) (r:=[(0,.tmp 42)]) (l:=[_]) Ycd kr kr kr kr rfl rfl (.one rfl .t one_int kr .nil) rfl) r1 qz (qf (ZR (sz:=1) (bs:=8) 50 (.mk' Ycd kr kr) (by intro x;rfl) .is (.arr (l':=[(Nn sd.wait (sd.wait.length - (k+1)))]) .t) (by simp only [Yd,Yl,Yy];omega) (by decide)) ⟨rfl,rfl,tv⟩ ⟨rfl,tv⟩ (qO rr qZ))))) V [5,4,1,0] [50,7,6,5,4,3,2,0] (fun _=>rfl) (fun _=>rfl) fun τ a w F G=>?_))
 try dsimp only [RS.sub,SF.sub,CF.sub,csub,Anc.sub,List.map,Zf,xL,xM,Nat.reduceAdd,xD,xE,xT,xU,xC,xN,zCF,Zn,Zfv,Zjx] at G
 generalize τ 44=v44 at G
 refine Za (Ya (rZ G (qR rr (qR rr (qf (o_eql .t .t) r2 qz qZ))) V [47,4,1,0] [50,7,6,5,4,3,2,0] fun G=>?_))
 refine Zc G rfl (fun hc2=>?_) (fun hc2=>?_)
 ·have hyx:(Nn sd.wait (sd.wait.length - (k+1)))=x:=by simpa using hc2
  obtain ⟨hp1,hp2⟩:=ZtY hk (by rw [← hq];exact hxo) hyx
  rw [hyx] at G
  subst hq
  rw [hp1,hp2] at G
  have hpl:(partL sd.wait x).length≤4096:=by rw [← hp1,Yd,Yi,List.length_reverse,YM];omega
  refine Yw (ZoO (by decide) ?_)
  refine Zj (Zo (Za (Ya ?_)))
  obtain ⟨F,G⟩:=G.give 50 4 rfl rfl
  obtain ⟨F,G⟩:=G.nM [47,4,1,0] [7,6,5,4,3,2,0]
  refine rZ G (qR rr (qf (oP (Zvm (partL sd.wait x) (Zik _ _)) func224 (Args.one .t)) r1 qz (qO rr qZ))) V [7,4,0] [7,6,5,4,3,2,0] fun G=>Ya ?_
  refine rZ G (qR rr (qu Ycd r1 (qJ qZ))) V [52,51,50,7,0] [7,6,5,4,3,2,0] fun G=>Yg ?_
  refine Zl (σ:=(Nat)) [0,7,50,51] [0,2,3,4,5,6] (fun s=>[(52,.pv (.int .i64 (s:Int)))]) (fun s=>[(7,.ob (.val ov) (Zy 3 1 Zn (outL ((partL sd.wait x).take s) (ZjX (partL sd.wait x)) sd.out)))]) (fun s=>s≤(partL sd.wait x).length∧(True)) (fun s=>(partL sd.wait x).length - s) (0) G ⟨rfl,rfl,rfl,rfl,rfl,tv⟩ ⟨rfl,rfl,rfl,rfl,rfl,rfl,rfl,tv⟩ ⟨Yx _,tv⟩ ?_
  clear G;intro i a w F hC G
  try dsimp only at hC
  obtain ⟨F,G⟩:=G.nM [52,51,50,7,0] [7,6,5,4,3,2,0]
  try dsimp only at G
  obtain ⟨hi,hq⟩:=hC
  refine Ya (rZ G (qL r2) V [53,52,51,50,7,0] [7,6,5,4,3,2,0] fun G=>Ya ?_)
  refine Zc G rfl (fun hc3=>?_) (fun hc3=>?_)
  ·have hil:i<(partL sd.wait x).length:=by simp at hc3;omega
   have hyr2:=hrng _ (ZrJ hx (nth_mem hil))
   have hol2:(outL ((partL sd.wait x).take i) (ZjX (partL sd.wait x)) sd.out).length=n:=by rw [Zhu];exact hlo
   refine Ye (Za (Ya (Yg (Ya (Ze G (qy 1 Ycd r2 (qf (oR false 1 .t) r1 qz (qO rr qZ))) V [52,51,50,9,7,0] [7,6,5,4,3,2,0] rfl rfl fun a w F G=>?_)))))
   try simp only [Yb] at G
   refine Za (Ze G (qR rr (qf (o_nilCheck 2 .is (by rfl)) r1 r1 (qf (oF 6 2 .adr) r1 r1 (qa 2 r1 r1 (qR rr (qR rr (qf (o_indexAddr_row (sz:=1) 7 (.mk Ycd kr) .is .t ow ow (by rfl)) r2 r1 (qf (ZI (R:=Zn) (sz:=1) (v:=(ZjX (partL sd.wait x))) 7 .t (by intro x;rfl) ow .t rfl one_int kr) r2 r1 qZ)))))))) V [52,51,50,7,0] [7,6,5,4,3,2,0] rfl rfl fun a w F G=>?_)
   try simp only [Yb] at G
   refine Zi (Za (rZ G (qp r1 (qR rr qZ)) V [52,51,50,7,0] [7,6,5,4,3,2,0] fun G=>?_))
   rw [ZpA hil] at G
   replace G:=G.ent (i:=52) (s':=.pv (.int .i64 ((i+1:Nat):Int))) rfl (.int (Zd ow))
   obtain ⟨F,G⟩:=G.nM [51,50,7,0,52] [6,5,4,3,2,0,7]
   exact ⟨(i+1),F,⟨by omega,tv⟩,G,by omega⟩
  have hil:i=(partL sd.wait x).length:=by simp at hc3;omega
  refine Yw (Zj (Zj (Zo ?_)))
  rw [hil,YA] at G
  have G:=G.fresh 1 rfl
  obtain ⟨F,G⟩:=G.push 1 7 rfl rfl rfl kr
  obtain ⟨F,G⟩:=G.push 1 6 rfl rfl rfl kr
  obtain ⟨F,G⟩:=G.push 1 5 rfl rfl rfl kr
  obtain ⟨F,G⟩:=G.push 1 4 rfl rfl rfl kr
  obtain ⟨F,G⟩:=G.push 1 3 rfl rfl rfl kr
  obtain ⟨F,G⟩:=G.push 1 2 rfl rfl rfl kr
  have G:=G.turn 1 rfl (r':=RS.hp (Zcv (.clos f cps) n (Zn2 n sd x (ZjX (partL sd.wait x))) (.pointer (some ⟨b,0,none⟩)))) (fun _ _ _ _ h=>⟨_,_,_,_,_,h⟩)
  rw [hg]
  refine Zaf hG G rfl .nil .none rfl
 have hyx:¬ (Nn sd.wait (sd.wait.length - (k+1)))=x:=by simpa using hc2
 refine Ye (Zi (Za ?_))
 have hno:x ∉ out ++ [(Nn sd.wait (sd.wait.length - (k+1)))]:=by rw [Yz,Yk];exact fun h9=>h9.elim hxo fun h8=>hyx h8.symm
 have hq2:out ++ [(Nn sd.wait (sd.wait.length - (k+1)))] = sd.wait.reverse.take (k+1):=by rw [hq];exact (ZlG hk).1
 obtain ⟨F,G⟩:=G.nM [1,0,4] [7,4,3,2,0,50,6,5]
 exact ⟨((k+1),_,_),F,⟨Zpf hx (by rw [← hq2];exact hno),hq2,hno⟩,G,by omega⟩
theorem TI.adjLe {n:Nat} {adj:Int→List Int} {q:Zbw} {way:Zmr} (h:TI n adj q way) {r:Int×List Int} (hr:r ∈ way):∀ y ∈ r.2,y ∈ adj r.1:=h.tj.sub r (Yal.2 hr)
theorem ZuX (b : Nat) (n : Nat) (adj : Int → List Int) (f : FuncId) (fn : Func) (cps : List PV) (hf : prog.funcs[f]? = some fn) (hb : fn.body.isSome = true) (hnn : (fn.name == "runtime.NumGoroutine") = false) (hw : ∀ u, 0 ≤ u ∧ u < (n : Int) → FnP prog f ([.int .i64 u] ++ cps) (.sl Zn (adj u))) (hadj : ∀ u y, y ∈ adj u → 0 ≤ y ∧ y < (n : Int)) (hal : ∀ u, (adj u).length ≤ 4096) (sd : Zbw) (x : Int) (hx1 : 0 ≤ x) (hx2 : x < n) (hn : n ≤ 4096) (hI : TI n adj sd []) (h0 : fI sd.wh x = 0) : FnG prog 163 1 [.is (.pointer (some ⟨b, 0, none⟩)), .int .i64 x] [Zcv (.clos f cps) n sd (.pointer (some ⟨b, 0, none⟩))] (.tup []) (fun _ => [.ex fun t : Zbw => .and (TI n adj t [] ∧ fI t.wh x ≠ 0 ∧ ∀ y, fI sd.wh y ≠ 0 → fI t.wh y ≠ 0) (Zcv (.clos f cps) n t (.pointer (some ⟨b, 0, none⟩)))]) := by
 refine FnG.mk func163 rfl ntmps163 rfl kr fun B F0 a w F V hG G=>Ya ?_
 refine Zb G (qR rr (qR rr (qf (ZK 1 (ZsD b n adj f fn cps hf hb hnn hw sd x hx1 hx2 hn hI.lw hI.ll hI.ckLe (hI.waitLt ⟨hx1,hx2⟩ h0)) func200 rfl kr (Args.two .t .t)) r2 r1 (qf (ZmZ (R:=Zjx) (l:=[(x,adj x)]) (sz:=2) (zs:=[.int .i64 0,.slice none 0 0]) (r:=[(0,.tmp 11)]) 101 Ycp kr kr kr kr rfl rfl (.agg rfl (.conv .t .agg) kr kr .nil) rfl rfl (by intro x;rfl)) r1 qz (qO rr qZ))))) V [4,0] [101,1,0] (fun _=>rfl) (fun _=>rfl) fun τ a w F G=>?_
 try dsimp only [RS.sub,SF.sub,CF.sub,csub,Anc.sub,List.map,Zf,xL,xM,Nat.reduceAdd,xD,xE,xT,xU,xC,xN,zCF,Zn,Zfv,Zjx] at G
 generalize τ 12=v12 at G
 refine Za (Yg (Zl (σ:=Zbw×Zmr×Value) [0] [0] (fun s=>[(4,.pv (.is s.2.2))]) (fun s=>[(1,RS.hp (Zcv (.clos f cps) n s.1 (.pointer (some ⟨b,0,none⟩)))),(101,.ob (.val s.2.2) (Zy 276 2 Zjx s.2.1))]) (fun s=>FrI n adj sd.wh x s.1 s.2.1) (fun s=>muF n adj s.1 s.2.1) ((Zbv n sd x),([(x,adj x)]),(v12)) G ⟨rfl,rfl,tv⟩ ⟨rfl,rfl,rfl,tv⟩ (FrI.start ⟨hx1,hx2⟩ hI h0) ?_))
 clear G;intro s a w F hC G
 obtain ⟨q,way,wv2⟩:=s
 try dsimp only at hC
 obtain ⟨F,G⟩:=G.nM [4,0] [101,1,0]
 try dsimp only at G
 have hFr:FrI n adj sd.wh x q way:=hC
 refine Ya (Ya (rZ G (qR rr (qf (ZU 101 Ycp .is) r1 r1 (qf (ZaP .t qi) r1 qz qZ))) V [15,4,0] [101,1,0] fun G=>?_))
 refine Zc G rfl (fun hc0=>?_) (fun hc0=>?_)
 ·skip
  obtain ⟨wy,⟨vd,nx⟩,rfl⟩:=ZoV (l:=way) (by intro e;subst e;simp at hc0)
  have hI2:=hFr.1
  have hvn:=hI2.nodes (vd,nx) (by simp)
  have hwl:=hI2.wayLen
  rw [Yd,YM] at hwl
  have hw1:IntKind.wrap .i64 (((wy ++ [(vd,nx)]).length:Int) - 1)=((wy.length:Nat):Int):=by rw [Zz (by rw [Yd,YM];omega),Yd,YM];omega
  refine Ye (Za (Yg (Ya (Ze G (qR rr (qR rr (qf (ZU 101 Ycp .is) r1 r1 (qf (o_sub .t qi) r1 qz (qf (o_indexAddr_row (sz:=2) 101 (.mk Ycp kr) .is .t (by rw [hw1];omega) (by rw [hw1,Yd,YM];omega) (by rfl)) r2 r1 (qO rr qZ)))))) V [5,4,0] [101,1,0] rfl rfl fun a w F G=>?_))))
  try simp only [Yb] at G
  rw [hw1,Yb] at G
  refine Za (Ya (Ya (Ze G (qR rr (qf (o_nilCheck_row0 (sz:=2) 101 .t (by intro x;rfl) (by simp)) r1 r1 (qf (o_fieldAddr_row (off:=1) (sz:=2) 101 .t (by simp) kr (by rfl)) r1 r1 (qf (Zaj (ag:=false) (sz':=1) (sz:=2) 101 .t (by intro x;rfl) (by simp) kr kr kr) r1 r1 (qu Ycd r1 (qf (o_eql .t qi) r1 qz qZ)))))) V [26,5,4,0] [101,1,0] rfl rfl fun a w F G=>?_)))
  rw [nth_last] at G
  try dsimp only at G
  refine Za (Zc G rfl (fun hc1=>?_) (fun hc1=>?_))
  ·skip
   have hnx:nx = []:=by simpa using hc1
   subst hnx
   refine Ya (Zat 5 G kr (cG rfl (oM .t) r1 trivial (cG rfl (oM .t) r1 trivial (cG rfl (o_nilCheck_row0 (sz:=2) 101 .t (by intro x;rfl) (by simp)) r1 r1 (cG rfl (o_fieldAddr_row (off:=0) (sz:=2) 101 .t (by simp) kr (by rfl)) r1 r1 (cG rfl (Zaj (ag:=false) (sz':=1) (sz:=2) 101 .t (by intro x;rfl) (by simp) kr kr kr) r1 r1 ChainN.nil))))) kr (by rw [V];kernel_rfl) fun a w F G=>?_)
   obtain ⟨F,G⟩:=G.nM [31,27,5,4,0] [101,1,0]
   try dsimp only [List.map,xD,xE,xT,xU,ldSF,Zn,Zfv,Zjx] at G
   rw [nth_last] at G
   try dsimp only at G
   refine ZaG G kr (cG rfl (ZK 1 (Zul b cps f n q vd hvn.1 hI2.rng hn hI2.lw hI2.ll hI2.lout hI2.waitLe) func201 rfl kr (Args.two .t .t)) r2 r1 ChainN.nil) kr (by rw [V];kernel_rfl) fun a w F G=>?_
   obtain ⟨F,G⟩:=G.nM [5,4,0] [101,1,0]
   try dsimp only [Zn,Zfv,Zjx] at G
   refine Za (Ya (Ze G (qR rr (qf (o_nilCheck_row0 (sz:=2) 101 .t (by intro x;rfl) (by simp)) r1 r1 (qf (o_fieldAddr_row (off:=0) (sz:=2) 101 .t (by simp) kr (by rfl)) r1 r1 (qf (Zaj (ag:=false) (sz':=1) (sz:=2) 101 .t (by intro x;rfl) (by simp) kr kr kr) r1 r1 (qO rr qZ))))) V [6,5,4,0] [101,1,0] rfl rfl fun a w F G=>?_))
   rw [nth_last] at G
   try dsimp only at G
   refine Za (Ya (Zb G (qR rr (qR rr (qf (ZU 101 Ycp .is) r1 r1 (qf (o_sub .t qi) r1 qz (qf (ZbH (sz:=2) 101 (.mk Ycp kr) (by intro x;rfl) .is .t (by rw [hw1];omega) (by rw [hw1,Yd,YM];omega)) r2 r1 (qO rr qZ)))))) V [6,5,4,0] [101,1,0] (fun _=>rfl) (fun _=>rfl) fun τ a w F G=>?_))
   try dsimp only [RS.sub,SF.sub,CF.sub,csub,Anc.sub,List.map,Zn,Zfv,Zjx] at G
   generalize τ 41=v41 at G
   rw [hw1,Yb,List.take_left] at G
   refine Za (Ya (Ya (rZ G (qR rr (qf (ZU 101 Ycp .is) r1 r1 (qf (ZaP .t qi) r1 qz qZ))) V [44,6,5,4,0] [101,1,0] fun G=>?_)))
   refine Zc G rfl (fun hc2=>?_) (fun hc2=>?_)
   ·skip
    obtain ⟨wy2,⟨u,nu⟩,rfl⟩:=ZoV (l:=wy) (by intro e;subst e;simp at hc2)
    have hun:=hI2.nodes (u,nu) (by simp)
    rw [Yd,YM] at hwl
    have hw2:IntKind.wrap .i64 (((wy2 ++ [(u,nu)]).length:Int) - 1)=((wy2.length:Nat):Int):=by rw [Zz (by rw [Yd,YM];omega),Yd,YM];omega
    have hlo2:(leaveD n q vd).lo=q.lo:=(Zf0 n q vd).2
    have hl2:(leaveD n q vd).lo.length=n:=by rw [hlo2];exact hI2.ll
    refine Ya (Ze G (qR rr (qR rr (qf (ZU 101 Ycp .is) r1 r1 (qf (o_sub .t qi) r1 qz (qf (o_indexAddr_row (sz:=2) 101 (.mk Ycp kr) .is .t (by rw [hw2];omega) (by rw [hw2,Yd,YM];omega) (by rfl)) r2 r1 (qf (o_fieldAddr_row (off:=0) (sz:=2) 101 .t (by rw [hw2];simp) kr (by rfl)) r1 r1 (qf (Zaj (ag:=false) (sz':=1) (sz:=2) 101 .t (by intro x;rfl) (by rw [hw2];simp) kr kr kr) r1 r1 (qO rr qZ)))))))) V [7,6,5,4,0] [101,1,0] rfl rfl fun a w F G=>?_)
    try simp only [Yb] at G
    rw [hw2,Yb,nth_last] at G
    try dsimp only at G
    refine Za ?_
    obtain ⟨wv,G⟩:=G.open_ex 1 rfl
    obtain ⟨lv,G⟩:=G.open_ex 1 rfl
    obtain ⟨sv,G⟩:=G.open_ex 1 rfl
    obtain ⟨iv,G⟩:=G.open_ex 1 rfl
    obtain ⟨ov,G⟩:=G.open_ex 1 rfl
    obtain ⟨F,G⟩:=G.peel 1 2 rfl rfl
    obtain ⟨F,G⟩:=G.peel 1 3 rfl rfl
    obtain ⟨F,G⟩:=G.peel 1 4 rfl rfl
    obtain ⟨F,G⟩:=G.peel 1 5 rfl rfl
    obtain ⟨F,G⟩:=G.peel 1 6 rfl rfl
    obtain ⟨F,G⟩:=G.peel 1 7 rfl rfl
    replace G:=G.turn 5 rfl (r':=.ob (.val sv) (fun v=>stH v n (leaveD n q vd).wait)) (fun _ _ _ _ h=>h)
    obtain ⟨_,_,_,ho⟩:=G.obGet 5 rfl
    obtain ⟨sb,rfl⟩:=ZeE ho
    clear ho
    replace G:=G.turn 6 rfl (r':=.ob (.val iv) (Zhb n (leaveD n q vd).inn)) (fun _ _ _ _ h=>h)
    obtain ⟨_,_,_,ho⟩:=G.obGet 6 rfl
    obtain ⟨ib,rfl⟩:=Zdl ho
    clear ho
    replace G:=G.turn 5 rfl (r':=RS.hp (stH (.pointer (some ⟨sb,0,none⟩)) n (leaveD n q vd).wait)) (fun _ _ _ _ h=>h)
    replace G:=G.turn 6 rfl (r':=RS.hp (Zhb n (leaveD n q vd).inn (.pointer (some ⟨ib,0,none⟩)))) (fun _ _ _ _ h=>h)
    obtain ⟨F,G⟩:=G.nM [7,6,5,4,0] [101,7,6,5,4,3,2,0]
    refine Zv G (qR rr (qf (o_nilCheck 2 .is (by rfl)) r1 r1 (qf (oF 2 2 .adr) r1 r1 (qa 2 r1 r1 (qR rr (qR rr (qf (o_nilCheck 2 .is (by rfl)) r1 r1 (qf (oF 2 2 .adr) r1 r1 (qa 2 r1 r1 (qR rr (qf (o_indexAddr_row (sz:=1) 4 (.mk Ycn kr) .is .t ow ow (by rfl)) r2 r1 (qf (Zu (ag:=false) (sz':=1) (sz:=1) 4 .t (by intro x;rfl) ow kr kr kr) r1 r1 (qR rr (qf (o_nilCheck 2 .is (by rfl)) r1 r1 (qf (oF 2 2 .adr) r1 r1 (qa 2 r1 r1 (qR rr (qf (o_indexAddr_row (sz:=1) 4 (.mk Ycn kr) .is .t ow ow (by rfl)) r2 r1 (qf (Zu (ag:=false) (sz':=1) (sz:=1) 4 .t (by intro x;rfl) ow kr kr kr) r1 r1 (qf (o_min .t .t) r2 qz (qf (o_indexAddr_row (sz:=1) 4 (.mk Ycn kr) .is .t ow ow (by rfl)) r2 r1 (qf (ZI (R:=Zfv) (sz:=1) (v:=_) 4 .t (by intro x;rfl) ow .t rfl one_int kr) r2 r1 qZ)))))))))))))))))))))) V [5,4,0] [101,7,6,5,4,3,2,0] rfl rfl fun a w F G=>?_
    try dsimp only [List.map,Zf,xL,xM,Nat.reduceAdd,xD,xE,xT,xU,xC,xN,zCF,ldSF,Zn,Zfv,Zjx] at G
    try simp only [Yb] at G
    rw [show (if Nn (leaveD n q vd).lo vd.toNat<Nn (leaveD n q vd).lo u.toNat then Nn (leaveD n q vd).lo vd.toNat else Nn (leaveD n q vd).lo u.toNat)=min (fI q.lo u) (fI q.lo vd) by rw [hlo2,ZsS,← ZaR hun.2.1,← ZaR hvn.2.1]] at G
    refine Za (Yw (Zj (Zo (Za ?_))))
    have G:=G.fresh 1 rfl
    obtain ⟨F,G⟩:=G.push 1 7 rfl rfl rfl kr
    obtain ⟨F,G⟩:=G.push 1 6 rfl rfl rfl kr
    obtain ⟨F,G⟩:=G.push 1 5 rfl rfl rfl kr
    obtain ⟨F,G⟩:=G.push 1 4 rfl rfl rfl kr
    obtain ⟨F,G⟩:=G.push 1 3 rfl rfl rfl kr
    obtain ⟨F,G⟩:=G.push 1 2 rfl rfl rfl kr
    have G:=G.turn 1 rfl (r':=RS.hp (Zcv (.clos f cps) n ({ leaveD n q vd with lo:=(leaveD n q vd).lo.set u.toNat (min (fI q.lo u) (fI q.lo vd)) }) (.pointer (some ⟨b,0,none⟩)))) (fun _ _ _ _ h=>⟨_,_,_,_,_,h⟩)
    obtain ⟨hE1,hE2⟩:=hFr.left
    obtain ⟨F,G⟩:=G.nM [0,4] [0,101,1]
    exact ⟨(({ leaveD n q vd with lo:=(leaveD n q vd).lo.set u.toNat (min (fI q.lo u) (fI q.lo vd)) }),(wy2 ++ [(u,nu)]),_),F,hE1,G,hE2⟩
   have hwe:wy = []:=by cases wy with | nil=>rfl | cons r l=>simp at hc2
   subst hwe
   refine Ye (Za (Yw (Zj (Zo (Za ?_)))))
   obtain ⟨hE1,hE2⟩:=FrI.root hFr
   obtain ⟨F,G⟩:=G.nM [0,4] [0,101,1]
   exact ⟨((leaveD n q vd),([]),_),F,hE1,G,hE2⟩
  obtain ⟨y,nx,rfl⟩:∃ y l,nx=y :: l:=List.exists_cons_of_ne_nil (by intro e;subst e;simp at hc1)
  have hy:=hadj vd y (hI2.tj.sub (vd,y :: nx) (by simp) y (by simp))
  have hnl:=hI2.adjLe (r:=(vd,y :: nx)) (by simp)
  refine Ye (Za (Ya (Ze G (qR rr (qf (o_nilCheck_row0 (sz:=2) 101 .t (by intro x;rfl) (by simp)) r1 r1 (qf (o_fieldAddr_row (off:=1) (sz:=2) 101 .t (by simp) kr (by rfl)) r1 r1 (qf (Zaj (ag:=false) (sz':=1) (sz:=2) 101 .t (by intro x;rfl) (by simp) kr kr kr) r1 r1 (qf (o_indexAddr_sl (sz:=1) (.mk Ycd kr) (by intro x;rfl) .t qi ow (by rw [nth_last];simp)) r1 qz (qf (oR false 1 .t) r1 qz (qO rr qZ))))))) V [8,5,4,0] [101,1,0] rfl rfl fun a w F G=>?_)))
  try simp only [Yb] at G
  try rw [show (0:Int).toNat=0 from rfl] at G
  rw [nth_last] at G
  try dsimp only at G
  rw [ZrU] at G
  refine Za (Ya (Zat 6 G kr (cG rfl (oM .t) r1 trivial (cG rfl (oM .t) r1 trivial (cG rfl (o_nilCheck_row0 (sz:=2) 101 .t (by intro x;rfl) (by simp)) r1 r1 (cG rfl (o_fieldAddr_row (off:=1) (sz:=2) 101 .t (by simp) kr (by rfl)) r1 r1 (cG rfl (Zaj (ag:=false) (sz':=1) (sz:=2) 101 .t (by intro x;rfl) (by simp) kr kr kr) r1 r1 (cG rfl (o_slice_lo (sz:=1) (.mk Ycd kr) (by intro x;rfl) .t (.ci kr) ow (by rw [nth_last];simp;omega)) r1 trivial ChainN.nil)))))) kr (by rw [V];kernel_rfl) fun a w F G=>?_))
  obtain ⟨F,G⟩:=G.nM [84,79,8,5,4,0] [101,1,0]
  try dsimp only [List.map,xD,xE,xT,xU,ldSF,Zn,Zfv,Zjx] at G
  replace G:=G.ent (i:=84) (s':=.pv (.sl Zn nx)) rfl (.sl (by rw [nth_last];rfl))
  refine ZaG G kr (cG rfl (o_nilCheck_row0 (sz:=2) 101 .t (by intro x;rfl) (by simp)) r1 r1 (cG rfl (o_fieldAddr_row (off:=1) (sz:=2) 101 .t (by simp) kr (by rfl)) r1 r1 (cG rfl (Zc5 (R:=Zjx) (sz:=2) (off:=1) (v':=(vd,nx)) 101 .t (by intro x;rfl) (by simp) (by decide) .t one_sl (by rw [nth_last];rfl) kr) r2 r1 ChainN.nil))) kr (by rw [V];kernel_rfl) fun a w F G=>?_
  obtain ⟨F,G⟩:=G.nM [8,5,4,0] [101,1,0]
  try dsimp only [List.map,Zf,xL,xM,Nat.reduceAdd,xD,xE,xT,xU,xC,xN,zCF,Zn,Zfv,Zjx] at G
  rw [Zro] at G
  refine Za (Yg (Ya ?_))
  obtain ⟨wv,G⟩:=G.open_ex 1 rfl
  obtain ⟨lv,G⟩:=G.open_ex 1 rfl
  obtain ⟨sv,G⟩:=G.open_ex 1 rfl
  obtain ⟨iv,G⟩:=G.open_ex 1 rfl
  obtain ⟨ov,G⟩:=G.open_ex 1 rfl
  obtain ⟨F,G⟩:=G.peel 1 2 rfl rfl
  obtain ⟨F,G⟩:=G.peel 1 3 rfl rfl
  obtain ⟨F,G⟩:=G.peel 1 4 rfl rfl
  obtain ⟨F,G⟩:=G.peel 1 5 rfl rfl
  obtain ⟨F,G⟩:=G.peel 1 6 rfl rfl
  obtain ⟨F,G⟩:=G.peel 1 7 rfl rfl
  replace G:=G.turn 5 rfl (r':=.ob (.val sv) (fun v=>stH v n q.wait)) (fun _ _ _ _ h=>h)
  obtain ⟨_,_,_,ho⟩:=G.obGet 5 rfl
  obtain ⟨sb,rfl⟩:=ZeE ho
  clear ho
  replace G:=G.turn 6 rfl (r':=.ob (.val iv) (Zhb n q.inn)) (fun _ _ _ _ h=>h)
  obtain ⟨_,_,_,ho⟩:=G.obGet 6 rfl
  obtain ⟨ib,rfl⟩:=Zdl ho
  clear ho
  replace G:=G.turn 5 rfl (r':=RS.hp (stH (.pointer (some ⟨sb,0,none⟩)) n q.wait)) (fun _ _ _ _ h=>h)
  replace G:=G.turn 6 rfl (r':=RS.hp (Zhb n q.inn (.pointer (some ⟨ib,0,none⟩)))) (fun _ _ _ _ h=>h)
  obtain ⟨F,G⟩:=G.nM [8,5,4,0] [101,7,6,5,4,3,2,0]
  refine Ze G (qR rr (qf (o_nilCheck 2 .is (by rfl)) r1 r1 (qf (oF 1 2 .adr) r1 r1 (qa 2 r1 r1 (qR rr (qf (o_indexAddr_row (sz:=1) 3 (.mk Ycn kr) .is .t ow (by rw [hI2.lw];omega) (by rfl)) r2 r1 (qf (Zu (ag:=false) (sz':=1) (sz:=1) 3 .t (by intro x;rfl) (by rw [hI2.lw];omega) kr kr kr) r1 r1 (qf (o_eql .t qi) r1 qz (qO rr qZ))))))))) V [87,8,5,4,0] [101,7,6,5,4,3,2,0] rfl rfl fun a w F G=>?_
  try simp only [Yb] at G
  refine Za (Zc G rfl (fun hc3=>?_) (fun hc3=>?_))
  ·skip
   have h00:fI q.wh y=0:=by rw [ZaR hy.1];simpa using hc3
   have G:=G.fresh 1 rfl
   obtain ⟨F,G⟩:=G.push 1 7 rfl rfl rfl kr
   obtain ⟨F,G⟩:=G.push 1 6 rfl rfl rfl kr
   obtain ⟨F,G⟩:=G.push 1 5 rfl rfl rfl kr
   obtain ⟨F,G⟩:=G.push 1 4 rfl rfl rfl kr
   obtain ⟨F,G⟩:=G.push 1 3 rfl rfl rfl kr
   obtain ⟨F,G⟩:=G.push 1 2 rfl rfl rfl kr
   have G:=G.turn 1 rfl (r':=RS.hp (Zcv (.clos f cps) n q (.pointer (some ⟨b,0,none⟩)))) (fun _ _ _ _ h=>⟨_,_,_,_,_,h⟩)
   obtain ⟨F,G⟩:=G.nM [87,8,5,4,0] [101,1,0]
   refine Zb G (qR rr (qR rr (qR rr (qf (ZK 1 (ZsD b n adj f fn cps hf hb hnn hw q y hy.1 hy.2 hn hI2.lw hI2.ll hI2.ckLe (hI2.waitLt hy h00)) func200 rfl kr (Args.two .t .t)) r2 r1 (qf (o_buildSliceE (sz:=2) (zs:=[.int .i64 0,.slice none 0 0]) (r:=[(0,.tmp 99)]) (l:=[_,_]) Ycp kr kr kr kr rfl rfl (.agg rfl (.conv .t .agg) kr kr .nil) rfl) r1 qz (qf (ZR (sz:=2) (bs:=32) 101 (.mk' Ycp kr kr) (by intro x;rfl) .is (.arr (l':=[(y,adj y)]) .t) (by simp only [Yd,Yl,Yy];omega) (by decide)) ⟨rfl,rfl,tv⟩ ⟨rfl,tv⟩ (qO rr qZ))))))) V [4,0] [101,1,0] (fun _=>rfl) (fun _=>rfl) fun τ a w F G=>?_
   try dsimp only [RS.sub,SF.sub,CF.sub,csub,Anc.sub,List.map,Zf,xL,xM,Nat.reduceAdd,xD,xE,xT,xU,xC,xN,zCF,Zn,Zfv,Zjx] at G
   generalize τ 101=v101 at G
   refine Zi (Zi (Za ?_))
   obtain ⟨hE1,hE2⟩:=hFr.meet hadj h00
   obtain ⟨F,G⟩:=G.nM [0,4] [0,101,1]
   exact ⟨((Zbv n q y),(wy ++ [(vd,nx)] ++ [(y,adj y)]),_),F,hE1,G,hE2⟩
  have h00:fI q.wh y≠0:=by rw [ZaR hy.1];simpa using hc3
  refine Ya (rZ G (qR rr (qf (o_nilCheck 2 .is (by rfl)) r1 r1 (qf (oF 4 2 .adr) r1 r1 (qa 2 r1 r1 (qR rr (qf (OpC.lend 6 [106] Zsh (oP (ZrE n q.inn y) func202 (Args.two .t .t)) ⟨rfl,tv,tv⟩ (.pv (fun _ _ _ _ h=>h)) trivial (by rfl)) r2 r1 (qO rr qZ))))))) V [102,8,5,4,0] [101,7,6,5,4,3,2,0] fun G=>?_)
  refine Zc G rfl (fun hc4=>?_) (fun hc4=>?_)
  ·skip
   have hyq:y ∈ q.inn:=by simpa using hc4
   refine Zv G (qR rr (qf (o_nilCheck 2 .is (by rfl)) r1 r1 (qf (oF 2 2 .adr) r1 r1 (qa 2 r1 r1 (qR rr (qf (o_nilCheck_row0 (sz:=2) 101 .t (by intro x;rfl) (by simp)) r1 r1 (qf (o_fieldAddr_row (off:=0) (sz:=2) 101 .t (by simp) kr (by rfl)) r1 r1 (qf (Zaj (ag:=false) (sz':=1) (sz:=2) 101 .t (by intro x;rfl) (by simp) kr kr kr) r1 r1 (qR rr (qf (o_nilCheck 2 .is (by rfl)) r1 r1 (qf (oF 2 2 .adr) r1 r1 (qa 2 r1 r1 (qR rr (qf (o_nilCheck_row0 (sz:=2) 101 .t (by intro x;rfl) (by simp)) r1 r1 (qf (o_fieldAddr_row (off:=0) (sz:=2) 101 .t (by simp) kr (by rfl)) r1 r1 (qf (Zaj (ag:=false) (sz':=1) (sz:=2) 101 .t (by intro x;rfl) (by simp) kr kr kr) r1 r1 (qf (o_indexAddr_row (sz:=1) 4 (.mk Ycn kr) .is .t (by rw [nth_last];exact hvn.2.1) (by rw [nth_last,hI2.ll];exact hvn.2.2) (by rfl)) r2 r1 (qf (Zu (ag:=false) (sz':=1) (sz:=1) 4 .t (by intro x;rfl) (by rw [nth_last,hI2.ll];have:=hvn.2;omega) kr kr kr) r1 r1 (qR rr (qf (o_nilCheck 2 .is (by rfl)) r1 r1 (qf (oF 1 2 .adr) r1 r1 (qa 2 r1 r1 (qR rr (qf (o_indexAddr_row (sz:=1) 3 (.mk Ycn kr) .is .t ow (by rw [hI2.lw];omega) (by rfl)) r2 r1 (qf (Zu (ag:=false) (sz':=1) (sz:=1) 3 .t (by intro x;rfl) (by rw [hI2.lw];omega) kr kr kr) r1 r1 (qf (o_min .t .t) r2 qz (qf (o_indexAddr_row (sz:=1) 4 (.mk Ycn kr) .is .t (by rw [nth_last];exact hvn.2.1) (by rw [nth_last,hI2.ll];exact hvn.2.2) (by rfl)) r2 r1 (qf (ZI (R:=Zfv) (sz:=1) (v:=_) 4 .t (by intro x;rfl) (by rw [nth_last,hI2.ll];have:=hvn.2;omega) .t rfl one_int kr) r2 r1 qZ)))))))))))))))))))))))))))) V [4,0] [101,7,6,5,4,3,2,0] rfl rfl fun a w F G=>?_
   try dsimp only [List.map,Zf,xL,xM,Nat.reduceAdd,xD,xE,xT,xU,xC,xN,zCF,ldSF,Zn,Zfv,Zjx] at G
   try simp only [Yb] at G
   rw [nth_last] at G
   try dsimp only at G
   rw [show (if Nn q.wh y.toNat<Nn q.lo vd.toNat then Nn q.wh y.toNat else Nn q.lo vd.toNat)=min (fI q.lo vd) (fI q.wh y) by rw [ZsS,← ZaR hy.1,← ZaR hvn.2.1]] at G
   refine Zi (Zi (Za ?_))
   have G:=G.fresh 1 rfl
   obtain ⟨F,G⟩:=G.push 1 7 rfl rfl rfl kr
   obtain ⟨F,G⟩:=G.push 1 6 rfl rfl rfl kr
   obtain ⟨F,G⟩:=G.push 1 5 rfl rfl rfl kr
   obtain ⟨F,G⟩:=G.push 1 4 rfl rfl rfl kr
   obtain ⟨F,G⟩:=G.push 1 3 rfl rfl rfl kr
   obtain ⟨F,G⟩:=G.push 1 2 rfl rfl rfl kr
   have G:=G.turn 1 rfl (r':=RS.hp (Zcv (.clos f cps) n ({ q with lo:=q.lo.set vd.toNat (min (fI q.lo vd) (fI q.wh y)) }) (.pointer (some ⟨b,0,none⟩)))) (fun _ _ _ _ h=>⟨_,_,_,_,_,h⟩)
   obtain ⟨hE1,hE2⟩:=hFr.wait hyq
   obtain ⟨F,G⟩:=G.nM [0,4] [0,101,1]
   exact ⟨(({ q with lo:=q.lo.set vd.toNat (min (fI q.lo vd) (fI q.wh y)) }),(wy ++ [(vd,nx)]),_),F,hE1,G,hE2⟩
  have hyq:y ∉ q.inn:=by simpa using hc4
  refine Ye (Zi (Zi (Za ?_)))
  have G:=G.fresh 1 rfl
  obtain ⟨F,G⟩:=G.push 1 7 rfl rfl rfl kr
  obtain ⟨F,G⟩:=G.push 1 6 rfl rfl rfl kr
  obtain ⟨F,G⟩:=G.push 1 5 rfl rfl rfl kr
  obtain ⟨F,G⟩:=G.push 1 4 rfl rfl rfl kr
  obtain ⟨F,G⟩:=G.push 1 3 rfl rfl rfl kr
  obtain ⟨F,G⟩:=G.push 1 2 rfl rfl rfl kr
  have G:=G.turn 1 rfl (r':=RS.hp (Zcv (.clos f cps) n q (.pointer (some ⟨b,0,none⟩)))) (fun _ _ _ _ h=>⟨_,_,_,_,_,h⟩)
  obtain ⟨hE1,hE2⟩:=hFr.past h00 hyq
  obtain ⟨F,G⟩:=G.nM [0,4] [0,101,1]
  exact ⟨((q),(wy ++ [(vd,nx)]),_),F,hE1,G,hE2⟩
 have hwe:way = []:=by cases way with | nil=>rfl | cons r l=>simp at hc0
 subst hwe
 refine Yw (Zj (Zj (Zo ?_)))
 have G:=G.turn 1 rfl (r':=RS.hp (.ex fun t:Zbw=>.and (TI n adj t []∧fI t.wh x≠0 ∧ ∀ y,fI sd.wh y≠0→fI t.wh y≠0) (Zcv (.clos f cps) n t (.pointer (some ⟨b,0,none⟩))))) (fun _ _ _ _ h=>⟨q,hFr,h⟩)
 refine Zaf hG G rfl .nil .none rfl
def EQ_ (q:List Zqh) (a b:Int):Prop:=(⟨a,b⟩:Zqh) ∈ q
def ZaX (N:List Int) (x:Int):List Int:=if x ∈ N then N else N ++ [x]
def Zdq (N:List Int) (e:Zg):List Int:=ZaX (ZaX N e.src) e.dst
def ZH (l:List Zg):List Int:=l.foldl Zdq []
theorem Zsa (N:List Int) (x:Int):x ∈ ZaX N x:=by
 unfold ZaX;split
 ·assumption
 ·simp
theorem ZjC {N:List Int} {x y:Int} : y ∈ ZaX N x ↔ y ∈ N∨y=x:=by
 unfold ZaX;split
 ·rename_i h
  exact ⟨.inl,fun h2=>h2.elim id fun e=>e ▸ h⟩
 ·simp
theorem nodeP_nodup {N:List Int} {x:Int} (h:N.Nodup):(ZaX N x).Nodup:=by
 unfold ZaX;split
 ·exact h
 ·rename_i hx
  exact YbA.2 ⟨h,by simp,fun a ha b hb e=>hx (by rw [Yk.1 hb] at e;exact e ▸ ha)⟩
theorem ZfC (N:List Int) (x:Int):N.length≤(ZaX N x).length∧(ZaX N x).length≤N.length+1:=by
 unfold ZaX;split
 ·omega
 ·simp
theorem Ze6 {v:Int} {l m:List Int} (h:v ∈ l):ZaC v (l++m)=ZaC v l:=by
 induction l with
 | nil=>cases h
 | cons x l ih=>
  rw [Yah]
  by_cases hx:x=v
  ·rw [ZaC,Yf hx,ZaC,Yf hx]
  ·have hm:v ∈ l:=(Yj.1 h).resolve_left fun e=>hx e.symm
   rw [ZaC,Yc hx,ZaC,Yc hx,ih hm]
theorem Zmj {v:Int} {l:List Int} (h:v ∉ l):ZaC v (l ++ [v])=l.length:=by
 induction l with
 | nil=>simp [ZaC]
 | cons x l ih=>
  have hx:x≠v:=fun e=>h (e ▸ YaD)
  have:=ih fun h2=>h (YC _ h2)
  rw [Yah,ZaC,Yc hx,this,Yc ow]
  simp
theorem Zor {N:List Int} {x y:Int} (h:y ∈ N):ZaC y (ZaX N x)=ZaC y N:=by
 unfold ZaX;split
 ·rfl
 ·exact Ze6 h
theorem ZiK {N:List Int} {x:Int} (h:x ∈ N):0≤ZaC x N∧ZaC x N<N.length:=by
 obtain ⟨i,h1,h2,_⟩:=Zd9 h
 omega
theorem ZhJ {N:List Int} {x y:Int} (hx:x ∈ N) (hy:y ∈ N) (h:ZaC x N=ZaC y N):x=y:=by
 obtain ⟨i,h1,h2,h3,_⟩:=Zd9 hx
 obtain ⟨j,k1,k2,k3,_⟩:=Zd9 hy
 have:i=j:=by omega
 subst this
 rw [← h3,k3]
theorem Zo0 {N:List Int} {e:Zg} {y:Int} : y ∈ Zdq N e ↔ y ∈ N∨y=e.src∨y=e.dst:=by
 unfold Zdq
 rw [ZjC,ZjC,or_assoc]
theorem Zcl:∀ {l:List Zg} {y:Int},y ∈ ZH l ↔ ∃ e ∈ l,y=e.src∨y=e.dst:=by
 have key:∀ (l:List Zg) (N:List Int) (y:Int),y ∈ l.foldl Zdq N ↔ y ∈ N ∨ ∃ e ∈ l,y=e.src∨y=e.dst:=by
  intro l
  induction l with
  | nil=>intro N y;simp
  | cons e l ih=>
   intro N y
   rw [Yan,ih,Zo0]
   simp [or_assoc]
 intro l y
 unfold ZH
 rw [key];simp
theorem ZiA (l:List Zg):(ZH l).Nodup:=by
 have key:∀ (l:List Zg) (N:List Int),N.Nodup→(l.foldl Zdq N).Nodup:=by
  intro l
  induction l with
  | nil=>intro N h;exact h
  | cons e l ih=>intro N h;exact ih _ (nodeP_nodup (nodeP_nodup h))
 exact key l [] .nil
theorem ZmF (l:List Zg):(ZH l).length≤2*l.length:=by
 have key:∀ (l:List Zg) (N:List Int),(l.foldl Zdq N).length≤N.length+2*l.length:=by
  intro l
  induction l with
  | nil=>intro N;simp
  | cons e l ih=>
   intro N
   have h1:=ih (Zdq N e)
   have h2:=(ZfC N e.src).2
   have h3:=(ZfC (ZaX N e.src) e.dst).2
   unfold Zdq at h1
   rw [Yan,Yl]
   unfold Zdq
   omega
 have:=key l []
 show (l.foldl Zdq []).length≤_
 simpa using this
def ZvG (N:List Int) (e:Zg):Zqh:=⟨ZaC e.src N,ZaC e.dst N⟩
def LE_ (l:List Zg) (a b:Int):Prop:=∃ e ∈ l,e.src=a∧e.dst=b
theorem Zqg {l:List Zg} {a b:Int} (ha:a ∈ ZH l) (hb:b ∈ ZH l):Rch (EQ_ (l.map (ZvG (ZH l)))) (ZaC a (ZH l)) (ZaC b (ZH l)) ↔ Rch (LE_ l) a b:=by
 have hm:∀ {e:Zg},e ∈ l→e.src ∈ ZH l∧e.dst ∈ ZH l:=fun {e} he=>⟨Zcl.2 ⟨e,he,.inl rfl⟩,Zcl.2 ⟨e,he,.inr rfl⟩⟩
 constructor
 ·have key:∀ {y:Int},Rch (EQ_ (l.map (ZvG (ZH l)))) (ZaC a (ZH l)) y → ∃ b,b ∈ ZH l∧y=ZaC b (ZH l)∧Rch (LE_ l) a b:=fun {y} h=>by
   induction h with
   | one k=>
    obtain ⟨e,he,e2⟩:=Yv.1 k
    injection e2 with e3 e4
    refine ⟨e.dst,(hm he).2,e4.symm,.one ⟨e,he,?_,rfl⟩⟩
    exact ZhJ (hm he).1 ha e3
   | step _ k ih=>
    obtain ⟨c,hc,e1,h1⟩:=ih
    obtain ⟨e,he,e2⟩:=Yv.1 k
    injection e2 with e3 e4
    refine ⟨e.dst,(hm he).2,e4.symm,.step h1 ⟨e,he,?_,rfl⟩⟩
    exact ZhJ (hm he).1 hc (e3.trans e1)
  intro h
  obtain ⟨c,hc,e,h1⟩:=key h
  rw [ZhJ hb hc e];exact h1
 ·intro h
  clear hb
  induction h with
  | one k=>
   obtain ⟨e,he,rfl,rfl⟩:=k
   exact .one (Yv.2 ⟨e,he,rfl⟩)
  | step _ k ih=>
   obtain ⟨e,he,rfl,rfl⟩:=k
   exact .step ih (Yv.2 ⟨e,he,rfl⟩)
structure Zgu (es:List (Zcp Int)) (N:List Int):Prop where
 len:es.length=N.length
 get:∀ x,Ze2 x es=if x ∈ N then some (ZaC x N) else none
def ZuN (N:List Int) (v:Value):HP:=.ex fun s:List (Zcp Int)×Nat=>.and (Zgu s.1 N) (ZoW .i64 (fun _=>True) (fun n:Int=>Value.int .i64 n) s.1 s.2 v)
theorem Zgu.nil:Zgu [] []:=⟨rfl,fun x=>by simp [Ze2]⟩
theorem Zgu.put {es:List (Zcp Int)} {ck:Nat} {N:List Int} {x:Int} (h:Zgu es N) (hx:x ∉ N):Zgu (mPut x (N.length:Int) (es,ck)).1 (N ++ [x]):=by
 have hg:Ze2 x es=none:=by rw [h.get,Yc hx]
 have hi:(mIdx x es).isSome=false:=by rw [Zht,hg];rfl
 refine ⟨?_,fun y=>?_⟩
 ·unfold mPut
  rw [hi]
  simp [h.len]
 ·rw [ZrI]
  by_cases e:y=x
  ·subst e
   rw [Yf rfl,Yf (by simp),Zmj hx]
  ·rw [Yc e]
   show Ze2 y es=_
   rw [h.get]
   by_cases hy:y ∈ N
   ·rw [Yf hy,Yf (by simp [hy]),Ze6 hy]
   ·rw [Yc hy,Yc (by simp [hy,e])]
theorem Zgu.old {es:List (Zcp Int)} {N:List Int} {x:Int} (h:Zgu es N) (hx:(Ze2 x es).isSome=true):x ∈ N∧Zd0 x es=ZaC x N:=by
 rw [h.get] at hx
 split at hx
 ·rename_i e
  exact ⟨e,by rw [Zl3,h.get,Yf e];rfl⟩
 ·cases hx
theorem Zgu.new {es:List (Zcp Int)} {N:List Int} {x:Int} (h:Zgu es N) (hx:(Ze2 x es).isSome=false):x ∉ N:=fun e=>by
 rw [h.get,Yf e] at hx;cases hx
theorem ZnE (P:Prop):∃ b:Bool,b=true ↔ P:=(Classical.em P).elim (fun h=>⟨true,by simp [h]⟩) fun h=>⟨false,by simp [h]⟩
def kindOk (mask:Int) (e:Zg):Bool:=(decide (1≤e.kind) && decide (e.kind≤3)) && ofB mask e.kind
def ZgL (must kind:Int):Bool:=decide (bits .and .i64 must 14=0) || ofB must kind
def ZjY (N:List Int) (e:Zg):Zx:=⟨ZaC e.src N,ZaC e.dst N,e.kind,0⟩
def ZeR (l:List Zg) (mask must:Int):Prop:=∃ e ∈ l.filter (kindOk mask),ZgL must e.kind=true∧(e.dst=e.src∨Rch (LE_ (l.filter (kindOk mask))) e.dst e.src)
theorem Zrr {N M:List Int} {l:List Zg} (h:∀ e ∈ l,e.src ∈ N∧e.dst ∈ N):l.map (ZjY (N++M))=l.map (ZjY N):=by
 refine List.map_congr_left fun e he=>?_
 unfold ZjY
 rw [Ze6 (h e he).1,Ze6 (h e he).2]
theorem Zp1 (N:List Int) (e:Zg):∃ M,Zdq N e=N++M:=by
 have one:∀ (N:List Int) (x:Int),∃ M,ZaX N x=N++M:=fun N x=>by
  unfold ZaX;split
  ·exact ⟨[],by simp⟩
  ·exact ⟨[x],rfl⟩
 obtain ⟨M1,h1⟩:=one N e.src
 obtain ⟨M2,h2⟩:=one (ZaX N e.src) e.dst
 exact ⟨M1++M2,by unfold Zdq;rw [h2,h1,YN]⟩
theorem Zhv {l:List Zg} {e:Zg} (he:e ∈ l):e.src ∈ ZH l∧e.dst ∈ ZH l:=⟨Zcl.2 ⟨e,he,.inl rfl⟩,Zcl.2 ⟨e,he,.inr rfl⟩⟩
theorem ZnW (l:List Zg) (e:Zg):(l ++ [e]).map (ZjY (ZH (l ++ [e])))=l.map (ZjY (ZH l)) ++ [⟨ZaC e.src (ZaX (ZH l) e.src),ZaC e.dst (Zdq (ZH l) e),e.kind,0⟩]:=by
 have e1:ZH (l ++ [e])=Zdq (ZH l) e:=by unfold ZH;rw [Yat];rfl
 obtain ⟨M,hM⟩:=Zp1 (ZH l) e
 rw [e1,YQ,List.map_singleton]
 congr 1
 ·rw [hM];exact Zrr fun x hx=>Zhv hx
 ·unfold ZjY
  have:ZaC e.src (Zdq (ZH l) e)=ZaC e.src (ZaX (ZH l) e.src):=by
   unfold Zdq
   exact Zor (Zsa _ _)
  rw [this]
section
variable {l:List Zg} {n:Nat} {E:List Zx} {O I:List (List Z8)} {L:List Int}
theorem Zcd {mask:Int} {e:Zg} (he:e ∈ l.filter (kindOk mask)) (hn:n=(ZH (l.filter (kindOk mask))).length):ZaK n (ZjY (ZH (l.filter (kindOk mask))) e)=true:=by
 obtain ⟨h1,h2⟩:=Zhv he
 obtain ⟨a1,a2⟩:=ZiK h1
 obtain ⟨b1,b2⟩:=ZiK h2
 have hk:=(YV.1 he).2
 unfold kindOk at hk
 simp only [Yr,Yq] at hk
 exact ZP.2 ⟨⟨a1,by show ZaC _ _<_;omega⟩,⟨b1,by show ZaC _ _<_;omega⟩,hk.1,Yao _,by show (0:Int)≤_;decide⟩
theorem of14 {k:Int} (h:1≤k∧k≤3):ofB 14 k=true:=by
 have:k=1∨k=2∨k=3:=by omega
 rcases this with rfl | rfl | rfl <;> decide
theorem ZiB {mask:Int} (h:ZbN n E O I) (hn:n=(ZH (l.filter (kindOk mask))).length) (hE:∀ x,x ∈ E ↔ x ∈ (l.filter (kindOk mask)).map (ZjY (ZH (l.filter (kindOk mask))))) (a b:Int) :
  EJ (adjO O 14) a b ↔ EQ_ ((l.filter (kindOk mask)).map (ZvG (ZH (l.filter (kindOk mask))))) a b:=by
 show b ∈ adjO O 14 a ↔ _
 rw [(h.next 14 a).2]
 unfold EQ_
 rw [Yv]
 constructor
 ·rintro ⟨x,hx,h1,_,h2⟩
  obtain ⟨e,he,rfl⟩:=Yv.1 ((hE x).1 hx)
  exact ⟨e,he,by rw [← h1,← h2];rfl⟩
 ·rintro ⟨e,he,h1⟩
  injection h1 with h2 h3
  refine ⟨ZjY _ e,(hE _).2 (Yv.2 ⟨e,he,rfl⟩),h2,?_,h3⟩
  exact of14 (ZP.1 (Zcd he hn)).2.2.1
theorem ZqE {mask must:Int} (h:ZbN n E O I) (hn:n=(ZH (l.filter (kindOk mask))).length) (hE:∀ x,x ∈ E ↔ x ∈ (l.filter (kindOk mask)).map (ZjY (ZH (l.filter (kindOk mask))))) (hL:Zky (adjO O 14) n L) :
  (∃ x ∈ (l.filter (kindOk mask)).map (ZjY (ZH (l.filter (kindOk mask)))),Nn L x.src.toNat=Nn L x.dst.toNat∧ZgL must x.kind=true) ↔ ZeR l mask must:=by
 have hr:∀ {a b:Int},Rch (EJ (adjO O 14)) a b ↔ Rch (EQ_ ((l.filter (kindOk mask)).map (ZvG (ZH (l.filter (kindOk mask)))))) a b:=fun {a b}=>⟨Rch.mono fun x y=>(ZiB h hn hE x y).1,Rch.mono fun x y=>(ZiB h hn hE x y).2⟩
 have one:∀ e ∈ l.filter (kindOk mask),(Nn L (ZjY (ZH (l.filter (kindOk mask))) e).src.toNat=Nn L (ZjY (ZH (l.filter (kindOk mask))) e).dst.toNat ↔ (e.dst=e.src∨Rch (LE_ (l.filter (kindOk mask))) e.dst e.src)):=fun e he=>by
  obtain ⟨s1,s2⟩:=(ZP.1 (Zcd he hn)).1
  obtain ⟨d1,d2⟩:=(ZP.1 (Zcd he hn)).2.1
  obtain ⟨m1,m2⟩:=Zhv he
  have k1:=hL.2 (ZjY (ZH (l.filter (kindOk mask))) e).src.toNat ow
  have k2:=hL.2 (ZjY (ZH (l.filter (kindOk mask))) e).dst.toNat ow
  rw [YaO s1] at k1
  rw [YaO d1] at k2
  rw [k1.same k2]
  show (ZaC e.dst _=ZaC e.src _∨(Rch _ (ZaC e.src _) (ZaC e.dst _)∧Rch _ (ZaC e.dst _) (ZaC e.src _))) ↔ _
  rw [hr,hr,Zqg m1 m2,Zqg m2 m1]
  constructor
  ·rintro (h9 | h9)
   ·exact .inl (ZhJ m2 m1 h9)
   ·exact .inr h9.2
  ·rintro (h9 | h9)
   ·exact .inl (by rw [h9])
   ·exact .inr ⟨.one ⟨e,he,rfl,rfl⟩,h9⟩
 constructor
 ·rintro ⟨x,hx,h1,h2⟩
  obtain ⟨e,he,rfl⟩:=Yv.1 hx
  exact ⟨e,he,h2,(one e he).1 h1⟩
 ·rintro ⟨e,he,h1,h2⟩
  exact ⟨_,Yv.2 ⟨e,he,rfl⟩,(one e he).2 h2,h1⟩
end
theorem ZsR (mv:Value) (N:List Int) (id:Int) (hN:N.length≤1000000):FnG prog 113 1 [.is mv,.int .i64 id] [ZuN N mv] (.int .i64 (ZaC id (ZaX N id))) (fun _=>[ZuN (ZaX N id) mv]):=by
 refine FnG.mk func113 rfl ntmps113 rfl kr fun B F0 a w F V hG G=>Ya ?_
 refine rZ G (qI qZ) V [4,1,0] [1,0] fun G=>Ya ?_
 obtain ⟨⟨es,ck⟩,G⟩:=G.open_ex 1 rfl
 obtain ⟨hk,G⟩:=G.open_and 1 rfl
 replace G:=G.turn 1 rfl (r':=.ob (.val mv) (ZoW .i64 (fun _=>True) (fun n:Int=>Value.int .i64 n) es ck)) (fun _ _ _ _ h=>h)
 dsimp only at hk
 obtain ⟨F,G⟩:=G.nM [4,1,0] [1,0]
 refine rZ G (qR rr (qR rr (qf (Zmo 1 underlying160 (ZoG Ycl) kr .is (ZL.int .t rfl)) r2 r1 (qR rr (qf (Zh .t rfl) r1 qz (qf (Zh .t rfl) r1 qz (qO rr (qO rr qZ)))))))) V [6,5,4,1,0] [1,0] fun G=>(Ya (Ya ?_))
 refine rZ G (qR rr (qf (o_not .t) r1 qz qZ)) V [14,5,4,1,0] [1,0] fun G=>?_
 refine Zc G rfl (fun hc0=>?_) (fun hc0=>?_)
 ·have hid:id ∉ N:=hk.new (by simpa using hc0)
  have hg:ZaX N id=N ++ [id]:=Yc hid
  have hgi:(N.length:Int)=ZaC id (N ++ [id]):=(Zmj hid).symm
  refine Ya (Ze G (qR rr (qf (Zfy 1 underlying160 .is (by rw [hk.len];omega)) r1 r1 (qO rr qZ))) V [5,4,1,0] [1,0] rfl rfl fun a w F G=>?_)
  rw [hk.len] at G
  refine Za (rZ G (qR rr (qR rr (qR rr (qf (Zkh 1 underlying160 (ZoG Ycl) .is (ZL.int .t rfl) .t) r3 r1 qZ)))) V [5,4] [1,0] fun G=>Ya ?_)
  refine rZ G (qR rr (qO rr qZ)) V [4] [1,0] fun G=>Yh ?_
  have G:=G.turn 1 rfl (r':=RS.hp (ZuN (N ++ [id]) mv)) (fun _ _ _ _ h=>⟨mPut id (N.length:Int) (es,ck),hk.put hid,h⟩)
  rw [hg]
  refine Zaf hG G rfl (.tmp rfl .nil) (.one (.int hgi)) rfl
 obtain ⟨hid,hgv⟩:=hk.old (by simpa using hc0)
 have hg:ZaX N id=N:=Yf hid
 have hgi:Zd0 id es=ZaC id N:=hgv
 refine Ye (Za (Ya (rZ G (qR rr (qO rr qZ)) V [4] [1,0] fun G=>Yh ?_)))
 have G:=G.turn 1 rfl (r':=RS.hp (ZuN N mv)) (fun _ _ _ _ h=>⟨(es,ck),hk,h⟩)
 rw [hg]
 refine Zaf hG G rfl (.tmp rfl .nil) (.one (.int hgi)) rfl
theorem Zif {l:List PV} : ∀ v w yy,(PV.ref l).p v w yy→v.oneCell' = true:=fun v _ _ ⟨_,_,_,e,_⟩=>by rw [e];rfl
theorem ZsX:inR .i32 0:=by show IntKind.min .i32≤0∧0≤IntKind.max .i32;decide
theorem Zof {n:Nat} (h:n≤65536):rowN (n:Int)=n:=by unfold rowN;repeat' split;all_goals omega
theorem ZbN.adjR {n:Nat} {E:List Zx} {O I:List (List Z8)} (h:ZbN n E O I) (mask:Int):(∀ u y,y ∈ adjO O mask u→0≤y∧y<(n:Int)) ∧ ∀ u,(adjO O mask u).length≤n:=by
 have h1:∀ u y,y ∈ adjO O mask u→0≤y∧y<(n:Int):=fun u y hy=>by
  obtain ⟨x,x1,x2,x3,x4⟩:=((h.next mask u).2 y).1 hy
  have:=(ZP.1 (h.ok x x1)).2.1
  omega
 exact ⟨h1,fun u=>ZdH ((h.next mask u).1.imp fun h=>by omega) (h1 u)⟩
theorem Zqb (u:Int) (O I:List (List Z8)) (m:Nat) (mask:Int) (hO:∀ l ∈ O,l.length≤1000000):FnP prog 159 [.int .i64 u,.ref [Zez O I m],.ref [.int .i64 mask]] (.sl Zn (adjO O mask u)):=by
 refine FnP.mk func159 rfl ntmps159 rfl fun B a w F V hfr G=>Ya ?_
 refine rZ G (qC qZ) V [4,2,1,0] [0] fun G=>Ya ?_
 refine rZ G (qf (oR false 1 .t) r1 qz (qR rr (qf (oR false 1 .t) r1 qz (qf (oP (ZqB O I m u mask hO) func160 (Args.three .t .t .t)) r3 qz (qO rr qZ))))) V [4] [0] fun G=>Yh ?_
 refine Zs hfr G rfl rfl rfl .refl
theorem ZqH (n:Nat) (E:List Zx) (O I:List (List Z8)) (m:Nat) (mask:Int) (h:ZbN n E O I) (hn:n≤4096) (hE:E.length≤1000000) (L:List Int) (hL:Zky (adjO O mask) n L):FnP prog 117 [Zez O I m,.int .i64 mask] (.sl Zn L):=by
 refine FnP.mk func117 rfl ntmps117 rfl fun B a w F V hfr G=>?_
 have hO:∀ l ∈ O,l.length≤1000000:=fun l hl=>(h.on.r hE l hl).1
 obtain ⟨hadj,hal0⟩:=h.adjR mask
 have hal:∀ u,(adjO O mask u).length≤4096:=fun u=>Y1 (hal0 u) hn
 refine Ya (Zb G (qf (Zf6 101 .t Zif) r1 qz (qf (Zf6 102 .t one_int) r1 qz (qC qZ))) V [4,3,2] [102,101,0] (fun _=>rfl) (fun _=>rfl) fun τ a w F G=>?_)
 try dsimp only [RS.sub,SF.sub,CF.sub,csub,Anc.sub,List.map,zCF,Zn,Zfv] at G
 generalize τ 2=v2,τ 3=v3 at G
 obtain ⟨F,G⟩:=G.giveRef 101 2 rfl rfl rfl
 obtain ⟨F,G⟩:=G.nM [4,3,2] [102,0]
 try dsimp only [Go.Gm.unCF] at G
 obtain ⟨F,G⟩:=G.giveRef 102 3 rfl rfl rfl
 obtain ⟨F,G⟩:=G.nM [4,3,2] [0]
 try dsimp only [Go.Gm.unCF] at G
 refine Za (Ya (Ze G (qf (oR false 1 .t) r1 qz (qf (oP (Zcj O I m) func158 (Args.one .t)) r1 qz (qO rr qZ))) V [5,4,3,2] [0] rfl rfl fun a w F G=>?_))
 rw [h.ol] at G
 refine Za (Ya (rZ G (qf (ZaT (Args.two .t .t)) r2 qz (qO rr qZ)) V [6,5,4] [0] fun G=>Ya ?_))
 replace G:=G.fresh 103 rfl
 replace G:=G.fresh 104 rfl
 refine ZaD G (qR rr (qR rr (qf (ZaJ (R:=Zfv) (v:=0) (c:=(n:Int)) (sz:=1) (bs:=4) (zs:=[.int .i32 0]) 105 Ycn kr kr kr (fun _ _=>⟨⟨rfl,rfl,ZsX⟩,tv⟩) .t .t (Yau _) ow ow) r2 qz (qR rr (qf (ZaJ (R:=Zfv) (v:=0) (c:=(n:Int)) (sz:=1) (bs:=4) (zs:=[.int .i32 0]) 106 Ycn kr kr kr (fun _ _=>⟨⟨rfl,rfl,ZsX⟩,tv⟩) .t .t (Yau _) ow ow) r2 qz (qR rr (qf (Zar 103 (ZuA n) func161 rfl kr (Args.one .t) PV.ptr_one) r1 r1 (qR rr (qf (Zar 104 (ZrM n) func162 rfl kr (Args.one .t) PV.ptr_one) r1 r1 (qR rr (qf (ZaJ (R:=Zn) (v:=0) (c:=(n:Int)) (sz:=1) (bs:=8) (zs:=[.int .i64 0]) 107 Ycd kr kr kr (fun _ _=>⟨⟨rfl,rfl,ZcS⟩,tv⟩) .t .t (Yau _) ow ow) r2 qz (qf (oB [(0,.tmp 12),(1,.tmp 14),(2,.tmp 16),(3,.tmp 18),(4,.tmp 20),(6,.tmp 22)] [.nilFunc,.slice none 0 0,.slice none 0 0,.pointer none,.pointer none,.int .i32 0,.slice none 0 0] [(0,1),(1,1),(2,1),(3,1),(4,1),(5,1),(6,1)] (.one rfl .t ZqD kr (.same rfl kr (.same rfl kr (.same rfl kr (.same rfl kr (.same rfl kr .nil))))))) r6 qz (qf (oX 108 .t) r1 qz (qO rr qZ)))))))))))))) V [7,5,4] [108,107,106,105,104,103,0] (fun _=>rfl) (fun _=>rfl) fun τ a w F G=>?_
 try dsimp only [RS.sub,SF.sub,CF.sub,csub,Anc.sub,List.map,Zf,xL,xM,Nat.reduceAdd,xD,xE,xT,xU,xC,xN,zCF,Zn,Zfv] at G
 generalize τ 24=v24,τ 18=v18 at G
 generalize τ 20=v20,τ 14=v14 at G
 generalize τ 16=v16,τ 22=v22 at G
 rw [Yb] at G
 obtain ⟨tb,rfl⟩:=G.shape 108 rfl
 replace G:=G.turn 103 rfl (r':=RS.hp (stH v18 n [])) (by rw [Zga ow];exact fun _ _ _ _ h=>h)
 replace G:=G.turn 104 rfl (r':=RS.hp (Zhb n [] v20)) (by rw [Zof ow];exact fun _ _ _ _ h=>h)
 have G:=G.fresh 1 rfl
 obtain ⟨F,G⟩:=G.push 1 107 rfl rfl rfl kr
 obtain ⟨F,G⟩:=G.push 1 104 rfl rfl rfl kr
 obtain ⟨F,G⟩:=G.push 1 103 rfl rfl rfl kr
 obtain ⟨F,G⟩:=G.push 1 106 rfl rfl rfl kr
 obtain ⟨F,G⟩:=G.push 1 105 rfl rfl rfl kr
 obtain ⟨F,G⟩:=G.push 1 108 rfl rfl rfl kr
 have G:=G.turn 1 rfl (r':=RS.hp (Zcv (.clos 159 [.ref [Zez O I m],.ref [.int .i64 mask]]) n ⟨List.replicate n 0,List.replicate n 0,[],[],0,List.replicate n 0⟩ (.pointer (some ⟨tb,0,none⟩)))) (fun _ _ _ _ h=>⟨_,_,_,_,_,h⟩)
 obtain ⟨F,G⟩:=G.nM [7,5,4] [1,0]
 refine Za (Ya (Ya (rZ G (qR rr (qJ qZ)) V [26,25,7,4] [1,0] fun G=>Yg ?_)))
 refine Zl (σ:=Nat×Zbw) [4,7,25] [0] (fun s=>[(26,.pv (.int .i64 (s.1:Int)))]) (fun s=>[(1,RS.hp (Zcv (.clos 159 [.ref [Zez O I m],.ref [.int .i64 mask]]) n s.2 (.pointer (some ⟨tb,0,none⟩))))]) (fun s=>s.1≤n∧TI n (adjO O mask) s.2 [] ∧ ∀ u:Nat,u<s.1→Nn s.2.wh u≠0) (fun s=>n - s.1) ((0),_) G ⟨rfl,rfl,rfl,rfl,tv⟩ ⟨rfl,rfl,tv⟩ ⟨Yx _,TI.zero n _,fun u hu=>absurd hu (Y2 u)⟩ ?_
 clear G;intro s a w F hC G
 obtain ⟨i,q⟩:=s
 try dsimp only at hC
 obtain ⟨F,G⟩:=G.nM [26,25,7,4] [1,0]
 try dsimp only at G
 obtain ⟨hi,hI,hvs⟩:=hC
 have hck:=hI.lw
 refine Ya (rZ G (qL r2) V [27,26,25,7,4] [1,0] fun G=>Ya ?_)
 refine Zc G rfl (fun hc0=>?_) (fun hc0=>?_)
 ·have hil:i<n:=by simpa using hc0
  refine Ye (Za (Ya (Yg (Ya (rZ G (qR rr (qO rr qZ)) V [26,25,8,7,4] [1,0] fun G=>Ya ?_)))))
  obtain ⟨wv,G⟩:=G.open_ex 1 rfl
  obtain ⟨lv,G⟩:=G.open_ex 1 rfl
  obtain ⟨sv,G⟩:=G.open_ex 1 rfl
  obtain ⟨iv,G⟩:=G.open_ex 1 rfl
  obtain ⟨ov,G⟩:=G.open_ex 1 rfl
  obtain ⟨F,G⟩:=G.peel 1 2 rfl rfl
  obtain ⟨F,G⟩:=G.peel 1 3 rfl rfl
  obtain ⟨F,G⟩:=G.peel 1 4 rfl rfl
  obtain ⟨F,G⟩:=G.peel 1 5 rfl rfl
  obtain ⟨F,G⟩:=G.peel 1 6 rfl rfl
  obtain ⟨F,G⟩:=G.peel 1 7 rfl rfl
  replace G:=G.turn 5 rfl (r':=.ob (.val sv) (fun v=>stH v n q.wait)) (fun _ _ _ _ h=>h)
  obtain ⟨_,_,_,ho⟩:=G.obGet 5 rfl
  obtain ⟨sb,rfl⟩:=ZeE ho
  clear ho
  replace G:=G.turn 6 rfl (r':=.ob (.val iv) (Zhb n q.inn)) (fun _ _ _ _ h=>h)
  obtain ⟨_,_,_,ho⟩:=G.obGet 6 rfl
  obtain ⟨ib,rfl⟩:=Zdl ho
  clear ho
  replace G:=G.turn 5 rfl (r':=RS.hp (stH (.pointer (some ⟨sb,0,none⟩)) n q.wait)) (fun _ _ _ _ h=>h)
  replace G:=G.turn 6 rfl (r':=RS.hp (Zhb n q.inn (.pointer (some ⟨ib,0,none⟩)))) (fun _ _ _ _ h=>h)
  obtain ⟨F,G⟩:=G.nM [26,25,8,7,4] [7,6,5,4,3,2,0]
  refine Ze G (qR rr (qf (o_nilCheck 2 .is (by rfl)) r1 r1 (qf (oF 1 2 .adr) r1 r1 (qa 2 r1 r1 (qR rr (qf (o_indexAddr_row (sz:=1) 3 (.mk Ycn kr) .is .t ow ow (by rfl)) r2 r1 (qf (Zu (ag:=false) (sz':=1) (sz:=1) 3 .t (by intro x;rfl) ow kr kr kr) r1 r1 (qf (o_eql .t qi) r1 qz qZ)))))))) V [36,26,25,8,7,4] [7,6,5,4,3,2,0] rfl rfl fun a w F G=>?_
  try simp only [Yb] at G
  refine Za (Zc G rfl (fun hc1=>?_) (fun hc1=>?_))
  ·have h00:fI q.wh i=0:=by rw [ZaR ow];simpa using hc1
   have G:=G.fresh 1 rfl
   obtain ⟨F,G⟩:=G.push 1 7 rfl rfl rfl kr
   obtain ⟨F,G⟩:=G.push 1 6 rfl rfl rfl kr
   obtain ⟨F,G⟩:=G.push 1 5 rfl rfl rfl kr
   obtain ⟨F,G⟩:=G.push 1 4 rfl rfl rfl kr
   obtain ⟨F,G⟩:=G.push 1 3 rfl rfl rfl kr
   obtain ⟨F,G⟩:=G.push 1 2 rfl rfl rfl kr
   have G:=G.turn 1 rfl (r':=RS.hp (Zcv (.clos 159 [.ref [Zez O I m],.ref [.int .i64 mask]]) n q (.pointer (some ⟨tb,0,none⟩)))) (fun _ _ _ _ h=>⟨_,_,_,_,_,h⟩)
   obtain ⟨F,G⟩:=G.nM [36,26,25,8,7,4] [1,0]
   refine Ze G (qR rr (qR rr (qf (ZK 1 (ZuX tb n (adjO O mask) 159 f159 [.ref [Zez O I m],.ref [.int .i64 mask]] func159 rfl kr (fun u _=>Zqb u O I m mask hO) hadj hal q i ow ow hn hI h00) func163 rfl kr (Args.two .t .t)) r2 r1 qZ))) V [26,25,7,4] [1,0] rfl rfl fun a w F G=>?_
   obtain ⟨q2,G⟩:=G.open_ex 1 rfl
   obtain ⟨⟨hI2,hv2,hk3⟩,G⟩:=G.open_and 1 rfl
   have hv2:Nn q2.wh i≠0:=by rw [ZaR ow] at hv2;exact hv2
   have hk2:∀ u:Nat,u<i→Nn q.wh u≠0→Nn q2.wh u≠0:=fun u hu h9=>by have:=hk3 u (by rw [ZaR ow];exact h9);rw [ZaR ow] at this;exact this
   refine Zi (Za (rZ G (qp r1 (qR rr qZ)) V [26,25,7,4] [1,0] fun G=>?_))
   replace G:=G.ent (i:=26) (s':=.pv (.int .i64 ((i+1:Nat):Int))) rfl (.int (Zd ow))
   obtain ⟨F,G⟩:=G.nM [25,7,4,26] [0,1]
   exact ⟨((i+1),(q2)),F,⟨by omega,hI2,fun u hu=>by rcases Y0 (Y7 hu) with h9 | h9;exact hk2 u h9 (hvs u h9);rw [h9];exact hv2⟩,G,by omega⟩
  have G:=G.fresh 1 rfl
  obtain ⟨F,G⟩:=G.push 1 7 rfl rfl rfl kr
  obtain ⟨F,G⟩:=G.push 1 6 rfl rfl rfl kr
  obtain ⟨F,G⟩:=G.push 1 5 rfl rfl rfl kr
  obtain ⟨F,G⟩:=G.push 1 4 rfl rfl rfl kr
  obtain ⟨F,G⟩:=G.push 1 3 rfl rfl rfl kr
  obtain ⟨F,G⟩:=G.push 1 2 rfl rfl rfl kr
  have G:=G.turn 1 rfl (r':=RS.hp (Zcv (.clos 159 [.ref [Zez O I m],.ref [.int .i64 mask]]) n q (.pointer (some ⟨tb,0,none⟩)))) (fun _ _ _ _ h=>⟨_,_,_,_,_,h⟩)
  obtain ⟨F,G⟩:=G.nM [36,26,25,8,7,4] [1,0]
  obtain ⟨q2,hq2⟩:∃ q2,q2=q:=⟨q,rfl⟩
  rw [← hq2] at G
  have hI2:=hI
  rw [← hq2] at hI2
  have hv2:Nn q2.wh i≠0:=by rw [hq2];simpa using hc1
  have hk2:∀ u:Nat,u<i→Nn q.wh u≠0→Nn q2.wh u≠0:=fun u _ h9=>by rw [hq2];exact h9
  refine Ye (Zi (Za (rZ G (qp r1 (qR rr qZ)) V [26,25,7,4] [1,0] fun G=>?_)))
  replace G:=G.ent (i:=26) (s':=.pv (.int .i64 ((i+1:Nat):Int))) rfl (.int (Zd ow))
  obtain ⟨F,G⟩:=G.nM [25,7,4,26] [0,1]
  exact ⟨((i+1),(q2)),F,⟨by omega,hI2,fun u hu=>by rcases Y0 (Y7 hu) with h9 | h9;exact hk2 u h9 (hvs u h9);rw [h9];exact hv2⟩,G,by omega⟩
 have hil:i=n:=by have h9:¬ i<n:=(by simpa using hc0);omega
 have hlab:q.out=L:=(hI.labs (by rw [← hil];exact hvs)).one hL
 refine Yw (Zj (Zj (Zo (Za (Ya ?_)))))
 obtain ⟨wv,G⟩:=G.open_ex 1 rfl
 obtain ⟨lv,G⟩:=G.open_ex 1 rfl
 obtain ⟨sv,G⟩:=G.open_ex 1 rfl
 obtain ⟨iv,G⟩:=G.open_ex 1 rfl
 obtain ⟨ov,G⟩:=G.open_ex 1 rfl
 obtain ⟨F,G⟩:=G.peel 1 2 rfl rfl
 obtain ⟨F,G⟩:=G.peel 1 3 rfl rfl
 obtain ⟨F,G⟩:=G.peel 1 4 rfl rfl
 obtain ⟨F,G⟩:=G.peel 1 5 rfl rfl
 obtain ⟨F,G⟩:=G.peel 1 6 rfl rfl
 obtain ⟨F,G⟩:=G.peel 1 7 rfl rfl
 replace G:=G.turn 5 rfl (r':=.ob (.val sv) (fun v=>stH v n q.wait)) (fun _ _ _ _ h=>h)
 obtain ⟨_,_,_,ho⟩:=G.obGet 5 rfl
 obtain ⟨sb,rfl⟩:=ZeE ho
 clear ho
 replace G:=G.turn 6 rfl (r':=.ob (.val iv) (Zhb n q.inn)) (fun _ _ _ _ h=>h)
 obtain ⟨_,_,_,ho⟩:=G.obGet 6 rfl
 obtain ⟨ib,rfl⟩:=Zdl ho
 clear ho
 replace G:=G.turn 5 rfl (r':=RS.hp (stH (.pointer (some ⟨sb,0,none⟩)) n q.wait)) (fun _ _ _ _ h=>h)
 replace G:=G.turn 6 rfl (r':=RS.hp (Zhb n q.inn (.pointer (some ⟨ib,0,none⟩)))) (fun _ _ _ _ h=>h)
 obtain ⟨F,G⟩:=G.nM [27,26,25,7,4] [7,6,5,4,3,2,0]
 refine rZ G (qR rr (qf (o_nilCheck 2 .is (by rfl)) r1 r1 (qf (oF 6 2 .adr) r1 r1 (qa 2 r1 r1 (qO rr qZ))))) V [4] [7,6,5,4,3,2,0] fun G=>Yh ?_
 obtain ⟨F,G⟩:=G.give 7 4 rfl rfl
 refine Zs hfr G rfl rfl rfl (.sl hlab)
end Go.Proofs.YtlkpllemoepamaaGreat
