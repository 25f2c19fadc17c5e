/- Laws and walks. No condition beyond what each says. -/
import Derived.Test.YtlaaiihdhockcaaGreatDoorJ5
import Derived.Test.YtlaaiihdhockcaaGreatDoorJ4
import Derived.Laws.MathBits
namespace Go.Proofs.YtlaaiihdhockcaaGreatDoor
open Go Go.Gm Tryz
set_option linter.unusedVariables false
set_option linter.unusedSimpArgs false
set_option maxHeartbeats 4000000
set_option maxRecDepth 8000
theorem TI.adjLe {n:Nat} {adj:Int→List Int} {q:ZaH} {way:ZjE} (h:TI n adj q way) {r:Int×List Int} (hr:r ∈ way):∀ y ∈ r.2,y ∈ adj r.1:=h.tj.sub r (Y5.2 hr)
theorem Zpe (b : Nat) (n : Nat) (adj : Int → List Int) (f : FuncId) (fn : Func) (cps : List PV) (hf : prog.funcs[f]? = some fn) (hb : fn.body.isSome = true) (hnn : (fn.name == "runtime.NumGoroutine") = false) (hw : ∀ u, 0 ≤ u ∧ u < (n : Int) → FnP prog f ([.int .i64 u] ++ cps) (.sl Zk (adj u))) (hadj : ∀ u y, y ∈ adj u → 0 ≤ y ∧ y < (n : Int)) (hal : ∀ u, (adj u).length ≤ 4096) (sd : ZaH) (x : Int) (hx1 : 0 ≤ x) (hx2 : x < n) (hn : n ≤ 4096) (hI : TI n adj sd []) (h0 : fI sd.wh x = 0) : FnG prog 41 1 [.is (.pointer (some ⟨b, 0, none⟩)), .int .i64 x] [Zbk (.clos f cps) n sd (.pointer (some ⟨b, 0, none⟩))] (.tup []) (fun _ => [.ex fun t : ZaH => .and (TI n adj t [] ∧ fI t.wh x ≠ 0 ∧ ∀ y, fI sd.wh y ≠ 0 → fI t.wh y ≠ 0) (Zbk (.clos f cps) n t (.pointer (some ⟨b, 0, none⟩)))]) := by
 refine FnG.mk func41 V ntmps41 V kr fun B F0 a w F J hG G=>Ya ?_
 refine Ze G (qR rr (qR rr (qf (o_callG1 1 (Zny b n adj f fn cps hf hb hnn hw sd x hx1 hx2 hn hI.lw hI.ll hI.ckLe (hI.waitLt ⟨hx1,hx2⟩ h0)) func66 V kr (Args.two .t .t)) r2 r1 (qf (Zjd (R:=Zg6) (l:=[(x,adj x)]) (sz:=2) (zs:=[.int .i64 0,.slice none 0 0]) (r:=[(0,.tmp 11)]) 101 YbI kr kr kr kr V V (.agg V (.conv .t .agg) kr kr .nil) V V (by intro x;rfl)) r1 qz (qO rr qZ))))) J [4,0] [101,1,0] (fun _=>rfl) (fun _=>rfl) fun τ a w F G=>?_
 try dsimp only [RS.sub,SF.sub,CF.sub,csub,Anc.sub,List.map,Zh,xL,xM,Nat.reduceAdd,xD,xE,xT,xU,xC,xN,zCF,Zk,Zex,Zg6] at G
 generalize τ 12=v12 at G
 refine Za (Yk (Zl (σ:=ZaH×ZjE×Value) [0] [0] (fun s=>[(4,.pv (.is s.2.2))]) (fun s=>[(1,RS.hp (Zbk (.clos f cps) n s.1 (.pointer (some ⟨b,0,none⟩)))),(101,.ob (.val s.2.2) (Zo 114 2 Zg6 s.2.1))]) (fun s=>FrI n adj sd.wh x s.1 s.2.1) (fun s=>muF n adj s.1 s.2.1) ((ZaC n sd x),([(x,adj x)]),(v12)) G ⟨rfl,rfl,tv⟩ ⟨rfl,rfl,rfl,tv⟩ (FrI.start ⟨hx1,hx2⟩ hI h0) ?_))
 clear G;intro s a w F hC G
 obtain ⟨q,way,wv2⟩:=s
 try dsimp only at hC
 obtain ⟨F,G⟩:=G.nM [4,0] [101,1,0]
 try dsimp only at G
 have hFr:FrI n adj sd.wh x q way:=hC
 refine Ya (Ya (rZ G (qR rr (qf (Zx 101 YbI .is) r1 r1 (qf (Zbq .t qi) r1 qz qZ))) J [15,4,0] [101,1,0] fun G=>?_))
 refine Zc G V (fun hc0=>?_) (fun hc0=>?_)
 ·skip
  obtain ⟨wy,⟨vd,nx⟩,rfl⟩:=Zk0 (l:=way) (by intro e;subst e;simp at hc0)
  have hI2:=hFr.1
  have hvn:=hI2.nodes (vd,nx) (by simp)
  have hwl:=hI2.wayLen
  rw [Yc,Yp] at hwl
  have hw1:IntKind.wrap .i64 (((wy ++ [(vd,nx)]).length:Int) - 1)=((wy.length:Nat):Int):=by rw [Zr (by rw [Yc,Yp];omega),Yc,Yp];omega
  refine Yg (Za (Yk (Ya (Zb G (qR rr (qR rr (qf (Zx 101 YbI .is) r1 r1 (qf (o_sub .t qi) r1 qz (qf (o_indexAddr_row (sz:=2) 101 (.mk YbI kr) .is .t (by rw [hw1];omega) (by rw [hw1,Yc,Yp];omega) (by rfl)) r2 r1 (qO rr qZ)))))) J [5,4,0] [101,1,0] V V fun a w F G=>?_))))
  try simp only [Yb] at G
  rw [hw1,Yb] at G
  refine Za (Ya (Ya (Zb G (qR rr (qf (o_nilCheck_row0 (sz:=2) 101 .t (by intro x;rfl) (by simp)) r1 r1 (qf (o_fieldAddr_row (off:=1) (sz:=2) 101 .t (by simp) kr (by rfl)) r1 r1 (qf (Z7 (ag:=false) (sz':=1) (sz:=2) 101 .t (by intro x;rfl) (by simp) kr kr kr) r1 r1 (qu YbA r1 (qf (o_eql .t qi) r1 qz qZ)))))) J [26,5,4,0] [101,1,0] V V fun a w F G=>?_)))
  rw [nth_last] at G
  try dsimp only at G
  refine Za (Zc G V (fun hc1=>?_) (fun hc1=>?_))
  ·skip
   have hnx:nx = []:=by simpa using hc1
   subst hnx
   refine Ya (Zar 5 G kr (cG V (oM .t) r1 trivial (cG V (oM .t) r1 trivial (cG V (o_nilCheck_row0 (sz:=2) 101 .t (by intro x;rfl) (by simp)) r1 r1 (cG V (o_fieldAddr_row (off:=0) (sz:=2) 101 .t (by simp) kr (by rfl)) r1 r1 (cG V (Z7 (ag:=false) (sz':=1) (sz:=2) 101 .t (by intro x;rfl) (by simp) kr kr kr) r1 r1 ChainN.nil))))) kr (by rw [J];kernel_rfl) fun a w F G=>?_)
   obtain ⟨F,G⟩:=G.nM [31,27,5,4,0] [101,1,0]
   try dsimp only [List.map,xD,xE,xT,xU,ldSF,Zk,Zex,Zg6] at G
   rw [nth_last] at G
   try dsimp only at G
   refine ZaJ G kr (cG V (o_callG1 1 (Zoy b cps f n q vd hvn.1 hI2.rng hn hI2.lw hI2.ll hI2.lout hI2.waitLe) func67 V kr (Args.two .t .t)) r2 r1 ChainN.nil) kr (by rw [J];kernel_rfl) fun a w F G=>?_
   obtain ⟨F,G⟩:=G.nM [5,4,0] [101,1,0]
   try dsimp only [Zk,Zex,Zg6] at G
   refine Za (Ya (Zb G (qR rr (qf (o_nilCheck_row0 (sz:=2) 101 .t (by intro x;rfl) (by simp)) r1 r1 (qf (o_fieldAddr_row (off:=0) (sz:=2) 101 .t (by simp) kr (by rfl)) r1 r1 (qf (Z7 (ag:=false) (sz':=1) (sz:=2) 101 .t (by intro x;rfl) (by simp) kr kr kr) r1 r1 (qO rr qZ))))) J [6,5,4,0] [101,1,0] V V fun a w F G=>?_))
   rw [nth_last] at G
   try dsimp only at G
   refine Za (Ya (Ze G (qR rr (qR rr (qf (Zx 101 YbI .is) r1 r1 (qf (o_sub .t qi) r1 qz (qf (Zck (sz:=2) 101 (.mk YbI kr) (by intro x;rfl) .is .t (by rw [hw1];omega) (by rw [hw1,Yc,Yp];omega)) r2 r1 (qO rr qZ)))))) J [6,5,4,0] [101,1,0] (fun _=>rfl) (fun _=>rfl) fun τ a w F G=>?_))
   try dsimp only [RS.sub,SF.sub,CF.sub,csub,Anc.sub,List.map,Zk,Zex,Zg6] at G
   generalize τ 41=v41 at G
   rw [hw1,Yb,List.take_left] at G
   refine Za (Ya (Ya (rZ G (qR rr (qf (Zx 101 YbI .is) r1 r1 (qf (Zbq .t qi) r1 qz qZ))) J [44,6,5,4,0] [101,1,0] fun G=>?_)))
   refine Zc G V (fun hc2=>?_) (fun hc2=>?_)
   ·skip
    obtain ⟨wy2,⟨u,nu⟩,rfl⟩:=Zk0 (l:=wy) (by intro e;subst e;simp at hc2)
    have hun:=hI2.nodes (u,nu) (by simp)
    rw [Yc,Yp] at hwl
    have hw2:IntKind.wrap .i64 (((wy2 ++ [(u,nu)]).length:Int) - 1)=((wy2.length:Nat):Int):=by rw [Zr (by rw [Yc,Yp];omega),Yc,Yp];omega
    have hlo2:(leaveD n q vd).lo=q.lo:=(Zem n q vd).2
    have hl2:(leaveD n q vd).lo.length=n:=by rw [hlo2];exact hI2.ll
    refine Ya (Zb G (qR rr (qR rr (qf (Zx 101 YbI .is) r1 r1 (qf (o_sub .t qi) r1 qz (qf (o_indexAddr_row (sz:=2) 101 (.mk YbI kr) .is .t (by rw [hw2];omega) (by rw [hw2,Yc,Yp];omega) (by rfl)) r2 r1 (qf (o_fieldAddr_row (off:=0) (sz:=2) 101 .t (by rw [hw2];simp) kr (by rfl)) r1 r1 (qf (Z7 (ag:=false) (sz':=1) (sz:=2) 101 .t (by intro x;rfl) (by rw [hw2];simp) kr kr kr) r1 r1 (qO rr qZ)))))))) J [7,6,5,4,0] [101,1,0] V V fun a w F G=>?_)
    try simp only [Yb] at G
    rw [hw2,Yb,nth_last] at G
    try dsimp only at G
    refine Za ?_
    obtain ⟨wv,G⟩:=G.open_ex 1 rfl
    obtain ⟨lv,G⟩:=G.open_ex 1 rfl
    obtain ⟨sv,G⟩:=G.open_ex 1 rfl
    obtain ⟨iv,G⟩:=G.open_ex 1 rfl
    obtain ⟨ov,G⟩:=G.open_ex 1 rfl
    obtain ⟨F,G⟩:=G.peel 1 2 V rfl
    obtain ⟨F,G⟩:=G.peel 1 3 V rfl
    obtain ⟨F,G⟩:=G.peel 1 4 V rfl
    obtain ⟨F,G⟩:=G.peel 1 5 V rfl
    obtain ⟨F,G⟩:=G.peel 1 6 V rfl
    obtain ⟨F,G⟩:=G.peel 1 7 V rfl
    replace G:=G.turn 5 V (r':=.ob (.val sv) (fun v=>stH v n (leaveD n q vd).wait)) (fun _ _ _ _ h=>h)
    obtain ⟨_,_,_,ho⟩:=G.obGet 5 rfl
    obtain ⟨sb,rfl⟩:=ZcS ho
    clear ho
    replace G:=G.turn 6 V (r':=.ob (.val iv) (Ze0 n (leaveD n q vd).inn)) (fun _ _ _ _ h=>h)
    obtain ⟨_,_,_,ho⟩:=G.obGet 6 rfl
    obtain ⟨ib,rfl⟩:=ZbH ho
    clear ho
    replace G:=G.turn 5 V (r':=RS.hp (stH (.pointer (some ⟨sb,0,none⟩)) n (leaveD n q vd).wait)) (fun _ _ _ _ h=>h)
    replace G:=G.turn 6 V (r':=RS.hp (Ze0 n (leaveD n q vd).inn (.pointer (some ⟨ib,0,none⟩)))) (fun _ _ _ _ h=>h)
    obtain ⟨F,G⟩:=G.nM [7,6,5,4,0] [101,7,6,5,4,3,2,0]
    refine Zp G (qR rr (qf (o_nilCheck 2 .is (by rfl)) r1 r1 (qf (oF 2 2 .adr) r1 r1 (qa 2 r1 r1 (qR rr (qR rr (qf (o_nilCheck 2 .is (by rfl)) r1 r1 (qf (oF 2 2 .adr) r1 r1 (qa 2 r1 r1 (qR rr (qf (o_indexAddr_row (sz:=1) 4 (.mk YbE kr) .is .t ow ow (by rfl)) r2 r1 (qf (Zg (ag:=false) (sz':=1) (sz:=1) 4 .t (by intro x;rfl) ow kr kr kr) r1 r1 (qR rr (qf (o_nilCheck 2 .is (by rfl)) r1 r1 (qf (oF 2 2 .adr) r1 r1 (qa 2 r1 r1 (qR rr (qf (o_indexAddr_row (sz:=1) 4 (.mk YbE kr) .is .t ow ow (by rfl)) r2 r1 (qf (Zg (ag:=false) (sz':=1) (sz:=1) 4 .t (by intro x;rfl) ow kr kr kr) r1 r1 (qf (o_min .t .t) r2 qz (qf (o_indexAddr_row (sz:=1) 4 (.mk YbE kr) .is .t ow ow (by rfl)) r2 r1 (qf (Zt (R:=Zex) (sz:=1) (v:=_) 4 .t (by intro x;rfl) ow .t V one_int kr) r2 r1 qZ)))))))))))))))))))))) J [5,4,0] [101,7,6,5,4,3,2,0] V V fun a w F G=>?_
    try dsimp only [List.map,Zh,xL,xM,Nat.reduceAdd,xD,xE,xT,xU,xC,xN,zCF,ldSF,Zk,Zex,Zg6] at G
    try simp only [Yb] at G
    rw [show (if Nn (leaveD n q vd).lo vd.toNat<Nn (leaveD n q vd).lo u.toNat then Nn (leaveD n q vd).lo vd.toNat else Nn (leaveD n q vd).lo u.toNat)=min (fI q.lo u) (fI q.lo vd) by rw [hlo2,Znm,← Zax hun.2.1,← Zax hvn.2.1]] at G
    refine Za (YI (Zm (Zu (Za ?_))))
    have G:=G.fresh 1 rfl
    obtain ⟨F,G⟩:=G.push 1 7 V V V kr
    obtain ⟨F,G⟩:=G.push 1 6 V V V kr
    obtain ⟨F,G⟩:=G.push 1 5 V V V kr
    obtain ⟨F,G⟩:=G.push 1 4 V V V kr
    obtain ⟨F,G⟩:=G.push 1 3 V V V kr
    obtain ⟨F,G⟩:=G.push 1 2 V V V kr
    have G:=G.turn 1 V (r':=RS.hp (Zbk (.clos f cps) n ({ leaveD n q vd with lo:=(leaveD n q vd).lo.set u.toNat (min (fI q.lo u) (fI q.lo vd)) }) (.pointer (some ⟨b,0,none⟩)))) (fun _ _ _ _ h=>⟨_,_,_,_,_,h⟩)
    obtain ⟨hE1,hE2⟩:=hFr.left
    obtain ⟨F,G⟩:=G.nM [0,4] [0,101,1]
    exact ⟨(({ leaveD n q vd with lo:=(leaveD n q vd).lo.set u.toNat (min (fI q.lo u) (fI q.lo vd)) }),(wy2 ++ [(u,nu)]),_),F,hE1,G,hE2⟩
   have hwe:wy = []:=by cases wy with | nil=>rfl | cons r l=>simp at hc2
   subst hwe
   refine Yg (Za (YI (Zm (Zu (Za ?_)))))
   obtain ⟨hE1,hE2⟩:=FrI.root hFr
   obtain ⟨F,G⟩:=G.nM [0,4] [0,101,1]
   exact ⟨((leaveD n q vd),([]),_),F,hE1,G,hE2⟩
  obtain ⟨y,nx,rfl⟩:∃ y l,nx=y :: l:=List.exists_cons_of_ne_nil (by intro e;subst e;simp at hc1)
  have hy:=hadj vd y (hI2.tj.sub (vd,y :: nx) (by simp) y (by simp))
  have hnl:=hI2.adjLe (r:=(vd,y :: nx)) (by simp)
  refine Yg (Za (Ya (Zb G (qR rr (qf (o_nilCheck_row0 (sz:=2) 101 .t (by intro x;rfl) (by simp)) r1 r1 (qf (o_fieldAddr_row (off:=1) (sz:=2) 101 .t (by simp) kr (by rfl)) r1 r1 (qf (Z7 (ag:=false) (sz':=1) (sz:=2) 101 .t (by intro x;rfl) (by simp) kr kr kr) r1 r1 (qf (o_indexAddr_sl (sz:=1) (.mk YbA kr) (by intro x;rfl) .t qi ow (by rw [nth_last];simp)) r1 qz (qf (oR false 1 .t) r1 qz (qO rr qZ))))))) J [8,5,4,0] [101,1,0] V V fun a w F G=>?_)))
  try simp only [Yb] at G
  try rw [show (0:Int).toNat=0 from rfl] at G
  rw [nth_last] at G
  try dsimp only at G
  rw [Zmc] at G
  refine Za (Ya (Zar 6 G kr (cG V (oM .t) r1 trivial (cG V (oM .t) r1 trivial (cG V (o_nilCheck_row0 (sz:=2) 101 .t (by intro x;rfl) (by simp)) r1 r1 (cG V (o_fieldAddr_row (off:=1) (sz:=2) 101 .t (by simp) kr (by rfl)) r1 r1 (cG V (Z7 (ag:=false) (sz':=1) (sz:=2) 101 .t (by intro x;rfl) (by simp) kr kr kr) r1 r1 (cG V (o_slice_lo (sz:=1) (.mk YbA kr) (by intro x;rfl) .t (.ci kr) ow (by rw [nth_last];simp;omega)) r1 trivial ChainN.nil)))))) kr (by rw [J];kernel_rfl) fun a w F G=>?_))
  obtain ⟨F,G⟩:=G.nM [84,79,8,5,4,0] [101,1,0]
  try dsimp only [List.map,xD,xE,xT,xU,ldSF,Zk,Zex,Zg6] at G
  replace G:=G.ent (i:=84) (s':=.pv (.sl Zk nx)) V (.sl (by rw [nth_last];rfl))
  refine ZaJ G kr (cG V (o_nilCheck_row0 (sz:=2) 101 .t (by intro x;rfl) (by simp)) r1 r1 (cG V (o_fieldAddr_row (off:=1) (sz:=2) 101 .t (by simp) kr (by rfl)) r1 r1 (cG V (ZgF (R:=Zg6) (sz:=2) (off:=1) (v':=(vd,nx)) 101 .t (by intro x;rfl) (by simp) (by decide) .t one_sl (by rw [nth_last];rfl) kr) r2 r1 ChainN.nil))) kr (by rw [J];kernel_rfl) fun a w F G=>?_
  obtain ⟨F,G⟩:=G.nM [8,5,4,0] [101,1,0]
  try dsimp only [List.map,Zh,xL,xM,Nat.reduceAdd,xD,xE,xT,xU,xC,xN,zCF,Zk,Zex,Zg6] at G
  rw [Zm6] at G
  refine Za (Yk (Ya ?_))
  obtain ⟨wv,G⟩:=G.open_ex 1 rfl
  obtain ⟨lv,G⟩:=G.open_ex 1 rfl
  obtain ⟨sv,G⟩:=G.open_ex 1 rfl
  obtain ⟨iv,G⟩:=G.open_ex 1 rfl
  obtain ⟨ov,G⟩:=G.open_ex 1 rfl
  obtain ⟨F,G⟩:=G.peel 1 2 V rfl
  obtain ⟨F,G⟩:=G.peel 1 3 V rfl
  obtain ⟨F,G⟩:=G.peel 1 4 V rfl
  obtain ⟨F,G⟩:=G.peel 1 5 V rfl
  obtain ⟨F,G⟩:=G.peel 1 6 V rfl
  obtain ⟨F,G⟩:=G.peel 1 7 V rfl
  replace G:=G.turn 5 V (r':=.ob (.val sv) (fun v=>stH v n q.wait)) (fun _ _ _ _ h=>h)
  obtain ⟨_,_,_,ho⟩:=G.obGet 5 rfl
  obtain ⟨sb,rfl⟩:=ZcS ho
  clear ho
  replace G:=G.turn 6 V (r':=.ob (.val iv) (Ze0 n q.inn)) (fun _ _ _ _ h=>h)
  obtain ⟨_,_,_,ho⟩:=G.obGet 6 rfl
  obtain ⟨ib,rfl⟩:=ZbH ho
  clear ho
  replace G:=G.turn 5 V (r':=RS.hp (stH (.pointer (some ⟨sb,0,none⟩)) n q.wait)) (fun _ _ _ _ h=>h)
  replace G:=G.turn 6 V (r':=RS.hp (Ze0 n q.inn (.pointer (some ⟨ib,0,none⟩)))) (fun _ _ _ _ h=>h)
  obtain ⟨F,G⟩:=G.nM [8,5,4,0] [101,7,6,5,4,3,2,0]
  refine Zb G (qR rr (qf (o_nilCheck 2 .is (by rfl)) r1 r1 (qf (oF 1 2 .adr) r1 r1 (qa 2 r1 r1 (qR rr (qf (o_indexAddr_row (sz:=1) 3 (.mk YbE kr) .is .t ow (by rw [hI2.lw];omega) (by rfl)) r2 r1 (qf (Zg (ag:=false) (sz':=1) (sz:=1) 3 .t (by intro x;rfl) (by rw [hI2.lw];omega) kr kr kr) r1 r1 (qf (o_eql .t qi) r1 qz (qO rr qZ))))))))) J [87,8,5,4,0] [101,7,6,5,4,3,2,0] V V fun a w F G=>?_
  try simp only [Yb] at G
  refine Za (Zc G V (fun hc3=>?_) (fun hc3=>?_))
  ·skip
   have h00:fI q.wh y=0:=by rw [Zax hy.1];simpa using hc3
   have G:=G.fresh 1 rfl
   obtain ⟨F,G⟩:=G.push 1 7 V V V kr
   obtain ⟨F,G⟩:=G.push 1 6 V V V kr
   obtain ⟨F,G⟩:=G.push 1 5 V V V kr
   obtain ⟨F,G⟩:=G.push 1 4 V V V kr
   obtain ⟨F,G⟩:=G.push 1 3 V V V kr
   obtain ⟨F,G⟩:=G.push 1 2 V V V kr
   have G:=G.turn 1 V (r':=RS.hp (Zbk (.clos f cps) n q (.pointer (some ⟨b,0,none⟩)))) (fun _ _ _ _ h=>⟨_,_,_,_,_,h⟩)
   obtain ⟨F,G⟩:=G.nM [87,8,5,4,0] [101,1,0]
   refine Ze G (qR rr (qR rr (qR rr (qf (o_callG1 1 (Zny b n adj f fn cps hf hb hnn hw q y hy.1 hy.2 hn hI2.lw hI2.ll hI2.ckLe (hI2.waitLt hy h00)) func66 V kr (Args.two .t .t)) r2 r1 (qf (o_buildSliceE (sz:=2) (zs:=[.int .i64 0,.slice none 0 0]) (r:=[(0,.tmp 99)]) (l:=[_,_]) YbI kr kr kr kr V V (.agg V (.conv .t .agg) kr kr .nil) V) r1 qz (qf (ZB (sz:=2) (bs:=32) 101 (.mk' YbI kr kr) (by intro x;rfl) .is (.arr (l':=[(y,adj y)]) .t) (by simp only [Yc,Yx,YS];omega) (by decide)) ⟨rfl,rfl,tv⟩ ⟨rfl,tv⟩ (qO rr qZ))))))) J [4,0] [101,1,0] (fun _=>rfl) (fun _=>rfl) fun τ a w F G=>?_
   try dsimp only [RS.sub,SF.sub,CF.sub,csub,Anc.sub,List.map,Zh,xL,xM,Nat.reduceAdd,xD,xE,xT,xU,xC,xN,zCF,Zk,Zex,Zg6] at G
   generalize τ 101=v101 at G
   refine Zi (Zi (Za ?_))
   obtain ⟨hE1,hE2⟩:=hFr.meet hadj h00
   obtain ⟨F,G⟩:=G.nM [0,4] [0,101,1]
   exact ⟨((ZaC n q y),(wy ++ [(vd,nx)] ++ [(y,adj y)]),_),F,hE1,G,hE2⟩
  have h00:fI q.wh y≠0:=by rw [Zax hy.1];simpa using hc3
  refine Ya (rZ G (qR rr (qf (o_nilCheck 2 .is (by rfl)) r1 r1 (qf (oF 4 2 .adr) r1 r1 (qa 2 r1 r1 (qR rr (qf (OpC.lend 6 [106] Zmg (oP (Zms n q.inn y) func26 (Args.two .t .t)) ⟨rfl,tv,tv⟩ (.pv (fun _ _ _ _ h=>h)) trivial (by rfl)) r2 r1 (qO rr qZ))))))) J [102,8,5,4,0] [101,7,6,5,4,3,2,0] fun G=>?_)
  refine Zc G V (fun hc4=>?_) (fun hc4=>?_)
  ·skip
   have hyq:y ∈ q.inn:=by simpa using hc4
   refine Zp G (qR rr (qf (o_nilCheck 2 .is (by rfl)) r1 r1 (qf (oF 2 2 .adr) r1 r1 (qa 2 r1 r1 (qR rr (qf (o_nilCheck_row0 (sz:=2) 101 .t (by intro x;rfl) (by simp)) r1 r1 (qf (o_fieldAddr_row (off:=0) (sz:=2) 101 .t (by simp) kr (by rfl)) r1 r1 (qf (Z7 (ag:=false) (sz':=1) (sz:=2) 101 .t (by intro x;rfl) (by simp) kr kr kr) r1 r1 (qR rr (qf (o_nilCheck 2 .is (by rfl)) r1 r1 (qf (oF 2 2 .adr) r1 r1 (qa 2 r1 r1 (qR rr (qf (o_nilCheck_row0 (sz:=2) 101 .t (by intro x;rfl) (by simp)) r1 r1 (qf (o_fieldAddr_row (off:=0) (sz:=2) 101 .t (by simp) kr (by rfl)) r1 r1 (qf (Z7 (ag:=false) (sz':=1) (sz:=2) 101 .t (by intro x;rfl) (by simp) kr kr kr) r1 r1 (qf (o_indexAddr_row (sz:=1) 4 (.mk YbE kr) .is .t (by rw [nth_last];exact hvn.2.1) (by rw [nth_last,hI2.ll];exact hvn.2.2) (by rfl)) r2 r1 (qf (Zg (ag:=false) (sz':=1) (sz:=1) 4 .t (by intro x;rfl) (by rw [nth_last,hI2.ll];have:=hvn.2;omega) kr kr kr) r1 r1 (qR rr (qf (o_nilCheck 2 .is (by rfl)) r1 r1 (qf (oF 1 2 .adr) r1 r1 (qa 2 r1 r1 (qR rr (qf (o_indexAddr_row (sz:=1) 3 (.mk YbE kr) .is .t ow (by rw [hI2.lw];omega) (by rfl)) r2 r1 (qf (Zg (ag:=false) (sz':=1) (sz:=1) 3 .t (by intro x;rfl) (by rw [hI2.lw];omega) kr kr kr) r1 r1 (qf (o_min .t .t) r2 qz (qf (o_indexAddr_row (sz:=1) 4 (.mk YbE kr) .is .t (by rw [nth_last];exact hvn.2.1) (by rw [nth_last,hI2.ll];exact hvn.2.2) (by rfl)) r2 r1 (qf (Zt (R:=Zex) (sz:=1) (v:=_) 4 .t (by intro x;rfl) (by rw [nth_last,hI2.ll];have:=hvn.2;omega) .t V one_int kr) r2 r1 qZ)))))))))))))))))))))))))))) J [4,0] [101,7,6,5,4,3,2,0] V V fun a w F G=>?_
   try dsimp only [List.map,Zh,xL,xM,Nat.reduceAdd,xD,xE,xT,xU,xC,xN,zCF,ldSF,Zk,Zex,Zg6] at G
   try simp only [Yb] at G
   rw [nth_last] at G
   try dsimp only at G
   rw [show (if Nn q.wh y.toNat<Nn q.lo vd.toNat then Nn q.wh y.toNat else Nn q.lo vd.toNat)=min (fI q.lo vd) (fI q.wh y) by rw [Znm,← Zax hy.1,← Zax hvn.2.1]] at G
   refine Zi (Zi (Za ?_))
   have G:=G.fresh 1 rfl
   obtain ⟨F,G⟩:=G.push 1 7 V V V kr
   obtain ⟨F,G⟩:=G.push 1 6 V V V kr
   obtain ⟨F,G⟩:=G.push 1 5 V V V kr
   obtain ⟨F,G⟩:=G.push 1 4 V V V kr
   obtain ⟨F,G⟩:=G.push 1 3 V V V kr
   obtain ⟨F,G⟩:=G.push 1 2 V V V kr
   have G:=G.turn 1 V (r':=RS.hp (Zbk (.clos f cps) n ({ q with lo:=q.lo.set vd.toNat (min (fI q.lo vd) (fI q.wh y)) }) (.pointer (some ⟨b,0,none⟩)))) (fun _ _ _ _ h=>⟨_,_,_,_,_,h⟩)
   obtain ⟨hE1,hE2⟩:=hFr.wait hyq
   obtain ⟨F,G⟩:=G.nM [0,4] [0,101,1]
   exact ⟨(({ q with lo:=q.lo.set vd.toNat (min (fI q.lo vd) (fI q.wh y)) }),(wy ++ [(vd,nx)]),_),F,hE1,G,hE2⟩
  have hyq:y ∉ q.inn:=by simpa using hc4
  refine Yg (Zi (Zi (Za ?_)))
  have G:=G.fresh 1 rfl
  obtain ⟨F,G⟩:=G.push 1 7 V V V kr
  obtain ⟨F,G⟩:=G.push 1 6 V V V kr
  obtain ⟨F,G⟩:=G.push 1 5 V V V kr
  obtain ⟨F,G⟩:=G.push 1 4 V V V kr
  obtain ⟨F,G⟩:=G.push 1 3 V V V kr
  obtain ⟨F,G⟩:=G.push 1 2 V V V kr
  have G:=G.turn 1 V (r':=RS.hp (Zbk (.clos f cps) n q (.pointer (some ⟨b,0,none⟩)))) (fun _ _ _ _ h=>⟨_,_,_,_,_,h⟩)
  obtain ⟨hE1,hE2⟩:=hFr.past h00 hyq
  obtain ⟨F,G⟩:=G.nM [0,4] [0,101,1]
  exact ⟨((q),(wy ++ [(vd,nx)]),_),F,hE1,G,hE2⟩
 have hwe:way = []:=by cases way with | nil=>rfl | cons r l=>simp at hc0
 subst hwe
 refine YI (Zm (Zm (Zu ?_)))
 have G:=G.turn 1 V (r':=RS.hp (.ex fun t:ZaH=>.and (TI n adj t []∧fI t.wh x≠0 ∧ ∀ y,fI sd.wh y≠0→fI t.wh y≠0) (Zbk (.clos f cps) n t (.pointer (some ⟨b,0,none⟩))))) (fun _ _ _ _ h=>⟨q,hFr,h⟩)
 refine Zy hG G V .nil .none rfl
theorem Zlo {l:List PV} : ∀ v w yy,(PV.ref l).p v w yy→v.oneCell' = true:=fun v _ _ ⟨_,_,_,e,_⟩=>by rw [e];rfl
theorem Znu:inR .i32 0:=by show IntKind.min .i32≤0∧0≤IntKind.max .i32;decide
theorem ZkI {n:Nat} (h:n≤65536):rowN (n:Int)=n:=by unfold rowN;repeat' split;all_goals omega
theorem ZbQ.adjR {n:Nat} {E:List ZT} {O I:List (List ZL)} (h:ZbQ n E O I) (mask:Int):(∀ u y,y ∈ adjO O mask u→0≤y∧y<(n:Int)) ∧ ∀ u,(adjO O mask u).length≤n:=by
 have h1:∀ u y,y ∈ adjO O mask u→0≤y∧y<(n:Int):=fun u y hy=>by
  obtain ⟨x,x1,x2,x3,x4⟩:=((h.next mask u).2 y).1 hy
  have:=(ZM.1 (h.ok x x1)).2.1
  omega
 exact ⟨h1,fun u=>ZcZ ((h.next mask u).1.imp fun h=>by omega) (h1 u)⟩
theorem ZkE (u:Int) (O I:List (List ZL)) (m:Nat) (mask:Int) (hO:∀ l ∈ O,l.length≤1000000):FnP prog 38 [.int .i64 u,.ref [ZeF O I m],.ref [.int .i64 mask]] (.sl Zk (adjO O mask u)):=by
 refine FnP.mk func38 V ntmps38 V fun B a w F J hfr G=>Ya ?_
 refine rZ G (qC qZ) J [4,2,1,0] [0] fun G=>Ya ?_
 refine rZ G (qf (oR false 1 .t) r1 qz (qR rr (qf (oR false 1 .t) r1 qz (qf (oP (ZiE O I m u mask hO) func39 (Args.three .t .t .t)) r3 qz (qO rr qZ))))) J [4] [0] fun G=>Yl ?_
 refine Zz hfr G V V V .refl
theorem ZfI (n:Nat) (E:List ZT) (O I:List (List ZL)) (m:Nat) (mask:Int) (h:ZbQ n E O I) (hn:n≤4096) (hE:E.length≤1000000) (L:List Int) (hL:ZcQ (adjO O mask) n L):FnP prog 14 [ZeF O I m,.int .i64 mask] (.sl Zk L):=by
 refine FnP.mk func14 V ntmps14 V fun B a w F J hfr G=>?_
 have hO:∀ l ∈ O,l.length≤1000000:=fun l hl=>(h.on.r hE l hl).1
 obtain ⟨hadj,hal0⟩:=h.adjR mask
 have hal:∀ u,(adjO O mask u).length≤4096:=fun u=>YaN (hal0 u) hn
 refine Ya (Ze G (qf (Zno 101 .t Zlo) r1 qz (qf (Zno 102 .t one_int) r1 qz (qC qZ))) J [4,3,2] [102,101,0] (fun _=>rfl) (fun _=>rfl) fun τ a w F G=>?_)
 try dsimp only [RS.sub,SF.sub,CF.sub,csub,Anc.sub,List.map,zCF,Zk,Zex] at G
 generalize τ 2=v2,τ 3=v3 at G
 obtain ⟨F,G⟩:=G.giveRef 101 2 V V rfl
 obtain ⟨F,G⟩:=G.nM [4,3,2] [102,0]
 try dsimp only [Go.Gm.unCF] at G
 obtain ⟨F,G⟩:=G.giveRef 102 3 V V rfl
 obtain ⟨F,G⟩:=G.nM [4,3,2] [0]
 try dsimp only [Go.Gm.unCF] at G
 refine Za (Ya (Zb G (qf (oR false 1 .t) r1 qz (qf (oP (ZbB O I m) func37 (Args.one .t)) r1 qz (qO rr qZ))) J [5,4,3,2] [0] V V fun a w F G=>?_))
 rw [h.ol] at G
 refine Za (Ya (rZ G (qf (ZjD (Args.two .t .t)) r2 qz (qO rr qZ)) J [6,5,4] [0] fun G=>Ya ?_))
 replace G:=G.fresh 103 rfl
 replace G:=G.fresh 104 rfl
 refine Zac G (qR rr (qR rr (qf (Z4 (R:=Zex) (v:=0) (c:=(n:Int)) (sz:=1) (bs:=4) (zs:=[.int .i32 0]) 105 YbE kr kr kr (fun _ _=>⟨⟨rfl,rfl,Znu⟩,tv⟩) .t .t (YaT _) ow ow) r2 qz (qR rr (qf (Z4 (R:=Zex) (v:=0) (c:=(n:Int)) (sz:=1) (bs:=4) (zs:=[.int .i32 0]) 106 YbE kr kr kr (fun _ _=>⟨⟨rfl,rfl,Znu⟩,tv⟩) .t .t (YaT _) ow ow) r2 qz (qR rr (qf (o_callN 103 (ZnR n) func40 V kr (Args.one .t) PV.ptr_one) r1 r1 (qR rr (qf (o_callN 104 (Zl7 n) func21 V kr (Args.one .t) PV.ptr_one) r1 r1 (qR rr (qf (Z4 (R:=Zk) (v:=0) (c:=(n:Int)) (sz:=1) (bs:=8) (zs:=[.int .i64 0]) 107 YbA kr kr kr (fun _ _=>⟨⟨rfl,rfl,Znp⟩,tv⟩) .t .t (YaT _) ow ow) r2 qz (qf (oB [(0,.tmp 12),(1,.tmp 14),(2,.tmp 16),(3,.tmp 18),(4,.tmp 20),(6,.tmp 22)] [.nilFunc,.slice none 0 0,.slice none 0 0,.pointer none,.pointer none,.int .i32 0,.slice none 0 0] [(0,1),(1,1),(2,1),(3,1),(4,1),(5,1),(6,1)] (.one V .t ZmJ kr (.same V kr (.same V kr (.same V kr (.same V kr (.same V kr .nil))))))) r6 qz (qf (oX 108 .t) r1 qz (qO rr qZ)))))))))))))) J [7,5,4] [108,107,106,105,104,103,0] (fun _=>rfl) (fun _=>rfl) fun τ a w F G=>?_
 try dsimp only [RS.sub,SF.sub,CF.sub,csub,Anc.sub,List.map,Zh,xL,xM,Nat.reduceAdd,xD,xE,xT,xU,xC,xN,zCF,Zk,Zex] at G
 generalize τ 24=v24,τ 18=v18 at G
 generalize τ 20=v20,τ 14=v14 at G
 generalize τ 16=v16,τ 22=v22 at G
 rw [Yb] at G
 obtain ⟨tb,rfl⟩:=G.shape 108 rfl
 replace G:=G.turn 103 V (r':=RS.hp (stH v18 n [])) (by rw [Zgh ow];exact fun _ _ _ _ h=>h)
 replace G:=G.turn 104 V (r':=RS.hp (Ze0 n [] v20)) (by rw [ZkI ow];exact fun _ _ _ _ h=>h)
 have G:=G.fresh 1 rfl
 obtain ⟨F,G⟩:=G.push 1 107 V V V kr
 obtain ⟨F,G⟩:=G.push 1 104 V V V kr
 obtain ⟨F,G⟩:=G.push 1 103 V V V kr
 obtain ⟨F,G⟩:=G.push 1 106 V V V kr
 obtain ⟨F,G⟩:=G.push 1 105 V V V kr
 obtain ⟨F,G⟩:=G.push 1 108 V V V kr
 have G:=G.turn 1 V (r':=RS.hp (Zbk (.clos 38 [.ref [ZeF O I m],.ref [.int .i64 mask]]) n ⟨List.replicate n 0,List.replicate n 0,[],[],0,List.replicate n 0⟩ (.pointer (some ⟨tb,0,none⟩)))) (fun _ _ _ _ h=>⟨_,_,_,_,_,h⟩)
 obtain ⟨F,G⟩:=G.nM [7,5,4] [1,0]
 refine Za (Ya (Ya (rZ G (qR rr (qJ qZ)) J [26,25,7,4] [1,0] fun G=>Yk ?_)))
 refine Zl (σ:=Nat×ZaH) [4,7,25] [0] (fun s=>[(26,.pv (.int .i64 (s.1:Int)))]) (fun s=>[(1,RS.hp (Zbk (.clos 38 [.ref [ZeF O I m],.ref [.int .i64 mask]]) n s.2 (.pointer (some ⟨tb,0,none⟩))))]) (fun s=>s.1≤n∧TI n (adjO O mask) s.2 [] ∧ ∀ u:Nat,u<s.1→Nn s.2.wh u≠0) (fun s=>n - s.1) ((0),_) G ⟨rfl,rfl,rfl,rfl,tv⟩ ⟨rfl,rfl,tv⟩ ⟨YA _,TI.zero n _,fun u hu=>absurd hu (YaH u)⟩ ?_
 clear G;intro s a w F hC G
 obtain ⟨i,q⟩:=s
 try dsimp only at hC
 obtain ⟨F,G⟩:=G.nM [26,25,7,4] [1,0]
 try dsimp only at G
 obtain ⟨hi,hI,hvs⟩:=hC
 have hck:=hI.lw
 refine Ya (rZ G (qL r2) J [27,26,25,7,4] [1,0] fun G=>Ya ?_)
 refine Zc G V (fun hc0=>?_) (fun hc0=>?_)
 ·have hil:i<n:=by simpa using hc0
  refine Yg (Za (Ya (Yk (Ya (rZ G (qR rr (qO rr qZ)) J [26,25,8,7,4] [1,0] fun G=>Ya ?_)))))
  obtain ⟨wv,G⟩:=G.open_ex 1 rfl
  obtain ⟨lv,G⟩:=G.open_ex 1 rfl
  obtain ⟨sv,G⟩:=G.open_ex 1 rfl
  obtain ⟨iv,G⟩:=G.open_ex 1 rfl
  obtain ⟨ov,G⟩:=G.open_ex 1 rfl
  obtain ⟨F,G⟩:=G.peel 1 2 V rfl
  obtain ⟨F,G⟩:=G.peel 1 3 V rfl
  obtain ⟨F,G⟩:=G.peel 1 4 V rfl
  obtain ⟨F,G⟩:=G.peel 1 5 V rfl
  obtain ⟨F,G⟩:=G.peel 1 6 V rfl
  obtain ⟨F,G⟩:=G.peel 1 7 V rfl
  replace G:=G.turn 5 V (r':=.ob (.val sv) (fun v=>stH v n q.wait)) (fun _ _ _ _ h=>h)
  obtain ⟨_,_,_,ho⟩:=G.obGet 5 rfl
  obtain ⟨sb,rfl⟩:=ZcS ho
  clear ho
  replace G:=G.turn 6 V (r':=.ob (.val iv) (Ze0 n q.inn)) (fun _ _ _ _ h=>h)
  obtain ⟨_,_,_,ho⟩:=G.obGet 6 rfl
  obtain ⟨ib,rfl⟩:=ZbH ho
  clear ho
  replace G:=G.turn 5 V (r':=RS.hp (stH (.pointer (some ⟨sb,0,none⟩)) n q.wait)) (fun _ _ _ _ h=>h)
  replace G:=G.turn 6 V (r':=RS.hp (Ze0 n q.inn (.pointer (some ⟨ib,0,none⟩)))) (fun _ _ _ _ h=>h)
  obtain ⟨F,G⟩:=G.nM [26,25,8,7,4] [7,6,5,4,3,2,0]
  refine Zb G (qR rr (qf (o_nilCheck 2 .is (by rfl)) r1 r1 (qf (oF 1 2 .adr) r1 r1 (qa 2 r1 r1 (qR rr (qf (o_indexAddr_row (sz:=1) 3 (.mk YbE kr) .is .t ow ow (by rfl)) r2 r1 (qf (Zg (ag:=false) (sz':=1) (sz:=1) 3 .t (by intro x;rfl) ow kr kr kr) r1 r1 (qf (o_eql .t qi) r1 qz qZ)))))))) J [36,26,25,8,7,4] [7,6,5,4,3,2,0] V V fun a w F G=>?_
  try simp only [Yb] at G
  refine Za (Zc G V (fun hc1=>?_) (fun hc1=>?_))
  ·have h00:fI q.wh i=0:=by rw [Zax ow];simpa using hc1
   have G:=G.fresh 1 rfl
   obtain ⟨F,G⟩:=G.push 1 7 V V V kr
   obtain ⟨F,G⟩:=G.push 1 6 V V V kr
   obtain ⟨F,G⟩:=G.push 1 5 V V V kr
   obtain ⟨F,G⟩:=G.push 1 4 V V V kr
   obtain ⟨F,G⟩:=G.push 1 3 V V V kr
   obtain ⟨F,G⟩:=G.push 1 2 V V V kr
   have G:=G.turn 1 V (r':=RS.hp (Zbk (.clos 38 [.ref [ZeF O I m],.ref [.int .i64 mask]]) n q (.pointer (some ⟨tb,0,none⟩)))) (fun _ _ _ _ h=>⟨_,_,_,_,_,h⟩)
   obtain ⟨F,G⟩:=G.nM [36,26,25,8,7,4] [1,0]
   refine Zb G (qR rr (qR rr (qf (o_callG1 1 (Zpe tb n (adjO O mask) 38 f38 [.ref [ZeF O I m],.ref [.int .i64 mask]] func38 V kr (fun u _=>ZkE u O I m mask hO) hadj hal q i ow ow hn hI h00) func41 V kr (Args.two .t .t)) r2 r1 qZ))) J [26,25,7,4] [1,0] V V fun a w F G=>?_
   obtain ⟨q2,G⟩:=G.open_ex 1 rfl
   obtain ⟨⟨hI2,hv2,hk3⟩,G⟩:=G.open_and 1 rfl
   have hv2:Nn q2.wh i≠0:=by rw [Zax ow] at hv2;exact hv2
   have hk2:∀ u:Nat,u<i→Nn q.wh u≠0→Nn q2.wh u≠0:=fun u hu h9=>by have:=hk3 u (by rw [Zax ow];exact h9);rw [Zax ow] at this;exact this
   refine Zi (Za (rZ G (qp r1 (qR rr qZ)) J [26,25,7,4] [1,0] fun G=>?_))
   replace G:=G.ent (i:=26) (s':=.pv (.int .i64 ((i+1:Nat):Int))) V (.int (Zf ow))
   obtain ⟨F,G⟩:=G.nM [25,7,4,26] [0,1]
   exact ⟨((i+1),(q2)),F,⟨by omega,hI2,fun u hu=>by rcases YaU (Ybf hu) with h9 | h9;exact hk2 u h9 (hvs u h9);rw [h9];exact hv2⟩,G,by omega⟩
  have G:=G.fresh 1 rfl
  obtain ⟨F,G⟩:=G.push 1 7 V V V kr
  obtain ⟨F,G⟩:=G.push 1 6 V V V kr
  obtain ⟨F,G⟩:=G.push 1 5 V V V kr
  obtain ⟨F,G⟩:=G.push 1 4 V V V kr
  obtain ⟨F,G⟩:=G.push 1 3 V V V kr
  obtain ⟨F,G⟩:=G.push 1 2 V V V kr
  have G:=G.turn 1 V (r':=RS.hp (Zbk (.clos 38 [.ref [ZeF O I m],.ref [.int .i64 mask]]) n q (.pointer (some ⟨tb,0,none⟩)))) (fun _ _ _ _ h=>⟨_,_,_,_,_,h⟩)
  obtain ⟨F,G⟩:=G.nM [36,26,25,8,7,4] [1,0]
  obtain ⟨q2,hq2⟩:∃ q2,q2=q:=⟨q,rfl⟩
  rw [← hq2] at G
  have hI2:=hI
  rw [← hq2] at hI2
  have hv2:Nn q2.wh i≠0:=by rw [hq2];simpa using hc1
  have hk2:∀ u:Nat,u<i→Nn q.wh u≠0→Nn q2.wh u≠0:=fun u _ h9=>by rw [hq2];exact h9
  refine Yg (Zi (Za (rZ G (qp r1 (qR rr qZ)) J [26,25,7,4] [1,0] fun G=>?_)))
  replace G:=G.ent (i:=26) (s':=.pv (.int .i64 ((i+1:Nat):Int))) V (.int (Zf ow))
  obtain ⟨F,G⟩:=G.nM [25,7,4,26] [0,1]
  exact ⟨((i+1),(q2)),F,⟨by omega,hI2,fun u hu=>by rcases YaU (Ybf hu) with h9 | h9;exact hk2 u h9 (hvs u h9);rw [h9];exact hv2⟩,G,by omega⟩
 have hil:i=n:=by have h9:¬ i<n:=(by simpa using hc0);omega
 have hlab:q.out=L:=(hI.labs (by rw [← hil];exact hvs)).one hL
 refine YI (Zm (Zm (Zu (Za (Ya ?_)))))
 obtain ⟨wv,G⟩:=G.open_ex 1 rfl
 obtain ⟨lv,G⟩:=G.open_ex 1 rfl
 obtain ⟨sv,G⟩:=G.open_ex 1 rfl
 obtain ⟨iv,G⟩:=G.open_ex 1 rfl
 obtain ⟨ov,G⟩:=G.open_ex 1 rfl
 obtain ⟨F,G⟩:=G.peel 1 2 V rfl
 obtain ⟨F,G⟩:=G.peel 1 3 V rfl
 obtain ⟨F,G⟩:=G.peel 1 4 V rfl
 obtain ⟨F,G⟩:=G.peel 1 5 V rfl
 obtain ⟨F,G⟩:=G.peel 1 6 V rfl
 obtain ⟨F,G⟩:=G.peel 1 7 V rfl
 replace G:=G.turn 5 V (r':=.ob (.val sv) (fun v=>stH v n q.wait)) (fun _ _ _ _ h=>h)
 obtain ⟨_,_,_,ho⟩:=G.obGet 5 rfl
 obtain ⟨sb,rfl⟩:=ZcS ho
 clear ho
 replace G:=G.turn 6 V (r':=.ob (.val iv) (Ze0 n q.inn)) (fun _ _ _ _ h=>h)
 obtain ⟨_,_,_,ho⟩:=G.obGet 6 rfl
 obtain ⟨ib,rfl⟩:=ZbH ho
 clear ho
 replace G:=G.turn 5 V (r':=RS.hp (stH (.pointer (some ⟨sb,0,none⟩)) n q.wait)) (fun _ _ _ _ h=>h)
 replace G:=G.turn 6 V (r':=RS.hp (Ze0 n q.inn (.pointer (some ⟨ib,0,none⟩)))) (fun _ _ _ _ h=>h)
 obtain ⟨F,G⟩:=G.nM [27,26,25,7,4] [7,6,5,4,3,2,0]
 refine rZ G (qR rr (qf (o_nilCheck 2 .is (by rfl)) r1 r1 (qf (oF 6 2 .adr) r1 r1 (qa 2 r1 r1 (qO rr qZ))))) J [4] [7,6,5,4,3,2,0] fun G=>Yl ?_
 obtain ⟨F,G⟩:=G.give 7 4 V rfl
 refine Zz hfr G V V V (.sl hlab)
def Zgc (s:List UInt8):Nat:=s.foldl (fun a c=>a*10+(c.toNat - 48)) 0
theorem ZhS {x:Int} (h:0≤x∧x≤18446744073709551615):bits .and .u64 x 4294967295=x % 4294967296:=by
 obtain ⟨X,rfl⟩:=Yz h.1
 have h1:(BitVec.ofInt 64 (X:Int)).toNat=X:=by rw [Yap];omega
 have h2:(BitVec.ofInt 64 (4294967295:Int)).toNat=2 ^ 32 - 1:=by decide
 show IntKind.wrap .u64 (((BitVec.ofInt 64 (X:Int) &&& BitVec.ofInt 64 4294967295).toNat:Nat):Int)=_
 rw [Ybu,h1,h2,Yaw,Zbd]
 omega
theorem Zpi {x:Int} : x.fdiv (2 ^ min (32:Int).toNat (IntKind.bits .u64))=x / 4294967296:=by
 rw [Yaj _ (by decide)]
 rfl
theorem ZnK (x y:Int):FnP prog 120 [.int .u64 x,.int .u64 y] (.tup [.int .u64 (x*y / 18446744073709551616),.int .u64 (x*y % 18446744073709551616)]):=by
 refine FnP.mk func120 V ntmps120 V fun B a w F J hfr G=>?_
 have hx:=Zef (G.range (i:=0) rfl)
 have hy:=Zef (G.range (i:=1) rfl)
 have h3:∀ {z:Int},0≤IntKind.wrap .u64 z∧IntKind.wrap .u64 z≤18446744073709551615:=fun {z}=>Zef (Zbj _ _)
 refine Ya (rZ G (qI (qI qZ)) J [5,4,1,0] [0] fun G=>Ya ?_)
 refine rZ G (qR rr (qf (o_and .t qi) r1 qz (qO rr qZ))) J [6,5,4,1,0] [0] fun G=>Ya ?_
 refine rZ G (qR rr (qf (Zb4 .t qi (by decide)) r1 qz (qO rr qZ))) J [7,6,5,4,1,0] [0] fun G=>Ya ?_
 refine rZ G (qR rr (qf (o_and .t qi) r1 qz (qO rr qZ))) J [8,7,6,5,4,1,0] [0] fun G=>Ya ?_
 refine rZ G (qR rr (qf (Zb4 .t qi (by decide)) r1 qz (qO rr qZ))) J [9,8,7,6,5,4,1,0] [0] fun G=>Ya ?_
 refine rZ G (qR rr (qR rr (qf (Zji .t .t) r2 qz (qO rr qZ)))) J [10,9,8,7,6,5,4,1,0] [0] fun G=>Ya ?_
 refine rZ G (qR rr (qR rr (qf (Zji .t .t) r2 qz (qR rr (qf (Zb4 .t qi (by decide)) r1 qz (qf (o_add .t .t) r2 qz (qO rr qZ))))))) J [11,9,7,6,5,4,1,0] [0] fun G=>Ya ?_
 refine rZ G (qR rr (qf (o_and .t qi) r1 qz (qO rr qZ))) J [12,11,9,7,6,5,4,1,0] [0] fun G=>Ya ?_
 refine rZ G (qR rr (qf (Zb4 .t qi (by decide)) r1 qz (qO rr qZ))) J [13,12,9,7,6,5,4,1,0] [0] fun G=>Ya ?_
 refine rZ G (qR rr (qR rr (qR rr (qf (Zji .t .t) r2 qz (qf (o_add .t .t) r2 qz (qO rr qZ)))))) J [13,12,9,7,5,4,1,0] [0] fun G=>Ya ?_
 refine rZ G (qR rr (qR rr (qf (Zji .t .t) r2 qz (qR rr (qf (o_add .t .t) r2 qz (qR rr (qf (Zb4 .t qi (by decide)) r1 qz (qf (o_add .t .t) r2 qz (qO rr qZ))))))))) J [5,4,1,0] [0] fun G=>Ya ?_
 refine rZ G (qR rr (qR rr (qf (Zji .t .t) r2 qz (qO rr qZ)))) J [5,4] [0] fun G=>Yl ?_
 refine Zdj hfr G V (.tmp V (.tmp V .nil)) (.two (.int (by simp only [Zpi,ZhS hx,ZhS hy,ZhS h3];simp only [Zbd];exact mul64_arith x y hx.1 ow hy.1 ow)) (.int (by rw [Zbd])))
section
variable {P:Program} {t t2 e ty:TypeId} {pos:String} {af:Array Edge} {g:Option (Nat×Bool)} {x y:Operand} {ps qs:List (Nat×SF)} {α:Type} {R:α→List PV} {l s:List α} {sz k d':Nat} {v:Value}
theorem Zei (n:Nat) (hu:P.underlying t=some (.slice e)) (hs:(P.info? e).map (·.size)=some sz) (hR:∀ x,(R x).length=sz) (hx:Opd x ps (.pv (.is (ZfV sz k v)))) (hs0:s≠[]) (hk:k+s.length≤l.length)
  (hy:∀ (act:Act) (w:World) (F:Fp),Hps qs (Act.tau act) w (U F)→(RS.ob (.val v) (Zo e sz R l)).holds (Act.tau act) w (F n) (U F) → ∃ a sLen sCap svs,act.eval y = .slice (some a) sLen sCap∧min sLen (l.length - k)=s.length∧(∀ j u,svs[j]? = some u→w.cell? (a.add j)=some u)∧PVs (s.flatMap R) svs w (U F)) :
  OpC P ⟨some d',.call { callee:=.builtin .copy,args:=#[x,y],argTypes:=#[t,t2] },ty,pos,af,g⟩ ⟨ps++qs,[(n,.ob (.val v) (Zo e sz R l))],.pv (.int .i64 s.length),[(n,.ob (.val v) (Zo e sz R (l.take k++s++l.drop (k+s.length))))]⟩:=fun act w F K Q hw hp hr ht=>by
 obtain ⟨xs,r1,r2,r3⟩:=id (hr (n,.ob (.val v) (Zo e sz R l)) (by simp))
 have hy':=hy act w F hp.right (hr (n,.ob (.val v) (Zo e sz R l)) (by simp))
 simp only [Anc.v] at r1 r3
 have hxl:=r1.1
 have hsl0:0<s.length:=YaL.2 hs0
 rcases r1.2 with ⟨_,hn0⟩ | ⟨b,cap,cur,ev,_,hg,hnc,hcm,hcs,htake⟩
 ·omega
 ·have ex:act.eval x = .slice (some ⟨b,0+k*sz,none⟩) (l.length - k) (cap - k):=by rw [(hx act w (U F) hp.left).1,ev];rfl
  obtain ⟨sa,sl,sc,svs,es,hmin,hcells,hpv⟩:=hy'
  have hcl:svs.length=s.length*sz:=by rw [← hpv.len,ZhZ hR]
  have hcur:cur.toList.length=cur.size:=by simp
  have hfit:k*sz+s.length*sz≤l.length*sz:=by rw [← YaW];exact YF _ hk
  have hfit2:l.length*sz≤cur.size:=by rw [hcs];exact YF _ hnc
  have hf:∀ z,F n z ↔ z=b:=fun z=>by rw [r3 z,ev];simp [Value.ownBlock,YaA]
  have hc:=ZbY (P:=P) (w:=w) (dT:=t) (sT:=t2) (ty:=ty) (g:=b) (o:=0+k*sz) (dLen:=l.length - k) (dCap:=cap - k) (n:=s.length) (a:=sa) (sLen:=sl) (sCap:=sc) hu hs hg hmin hcl hcells (by rw [hcl];omega) hpv.one
  rw [YG] at hc ex
  have hrun:(execOp act.eval ⟨some d',.call { callee:=.builtin .copy,args:=#[x,y],argTypes:=#[t,t2] },ty,pos,af,g⟩).run P w = .ok (.value (goInt s.length)) (w.setRow b (cur.toList.take (k*sz)++svs++cur.toList.drop (k*sz+svs.length)).toArray):=by
   simp only [execOp,resolve,invoke,builtin,ex,es]
   simp [hc,resolve,invoke,builtin,ex,es]
  obtain ⟨g1,g2⟩:=ZaK hw hg hf (cur.toList.take (k*sz)++svs++cur.toList.drop (k*sz+svs.length)).toArray
  simp only [Oper.wp,hrun,Oper.upon]
  refine ht _ _ F g1 g2 ⟨rfl,by unfold maxLen at hcm;show IntKind.min .i64≤_∧_≤IntKind.max .i64;simp [IntKind.min,IntKind.max,IntKind.signed,IntKind.bits];omega⟩ ?_
  intro z' hz'
  simp only [Yd] at hz'
  subst hz'
  have hll:(l.take k++s++l.drop (k+s.length)).length=l.length:=by simp;omega
  have htk:=Zfh (cur:=cur.toList) (us:=svs) (k:=k*sz) (sz:=s.length*sz) (N:=l.length*sz) hfit hcl (by rw [hcur];exact hfit2)
  rw [htake] at htk
  have hown:=Zfq (n:=l.length) (sz:=sz) (us:=cur.toList.take (k*sz)++svs++cur.toList.drop (k*sz+svs.length)) hg (by simp only [Yc,Ym,YJ,hcur,hcl];omega) hnc hcm
  rw [htk] at hown
  refine ⟨xs.take (k*sz)++svs++xs.drop (k*sz+s.length*sz),by rw [hll];simp only [Anc.v];rw [ev];exact hown,?_,r3⟩
  rw [Yah,Yah,Zbv hR,Zfr hR,YaW]
  have hp1:=PVs.mono g2.ev r2
  exact ((hp1.take _).append (PVs.mono g2.ev hpv)).append (hp1.drop _)
theorem ZhR (n:Nat) (hu:P.underlying t=some (.slice e)) (hs:(P.info? e).map (·.size)=some sz) (hR:∀ x,(R x).length=sz) (hx:Opd x ps (.pv (.is v))) (hy:Opd y qs (.pv (.sl R s))) (hs0:s≠[]) (hk:s.length≤l.length) :
  OpC P ⟨some d',.call { callee:=.builtin .copy,args:=#[x,y],argTypes:=#[t,t2] },ty,pos,af,g⟩ ⟨ps++qs,[(n,.ob (.val v) (Zo e sz R l))],.pv (.int .i64 s.length),[(n,.ob (.val v) (Zo e sz R (s++l.drop s.length)))]⟩:=fun act w F K Q hw hp hr ht=>by
 have hv:ZfV sz 0 v=v:=by
  obtain ⟨xs,r1,_,_⟩:=hr (n,.ob (.val v) (Zo e sz R l)) (by simp)
  have hsl0:0<s.length:=YaL.2 hs0
  rcases r1.2 with ⟨_,hn0⟩ | ⟨b,cap,cur,ev,_⟩
  ·omega
  ·simp only [Anc.v] at ev
   rw [ev];simp [ZfV]
 have h:=Zei (P:=P) (t:=t) (t2:=t2) (ty:=ty) (pos:=pos) (af:=af) (g:=g) (x:=x) (y:=y) (ps:=ps) (qs:=qs) (R:=R) (s:=s) (l:=l) (v:=v) (k:=0) (d':=d') n hu hs hR (by rw [hv];exact hx) hs0 ow (fun act w F hp _=>by
  obtain ⟨sa,sc,es,hsc,hscm,hsv⟩:=hy act w (U F) hp
  obtain ⟨sb,soff,svs,rfl,hny,hsb,hcells,hpv⟩:=hsv.resolve_left hs0
  exact ⟨_,_,_,svs,es,by omega,Zls hcells,hpv⟩)
 rw [List.take_zero,Yal,YG] at h
 exact h act w F K Q hw hp hr ht
theorem Zha {kx ky:Nat} (n:Nat) (hu:P.underlying t=some (.slice e)) (hs:(P.info? e).map (·.size)=some sz) (hR:∀ x,(R x).length=sz) (hx:Opd x ps (.pv (.is (ZfV sz kx v)))) (hy:Opd y qs (.pv (.is (ZlX ky v)))) (hkx:kx=k) (hky:ky=k) (h0:0<k) (hk:k<l.length) :
  OpC P ⟨some d',.call { callee:=.builtin .copy,args:=#[x,y],argTypes:=#[t,t2] },ty,pos,af,g⟩ ⟨ps++qs,[(n,.ob (.val v) (Zo e sz R l))],.pv (.int .i64 (l.take (min k (l.length - k))).length),[(n,.ob (.val v) (Zo e sz R (l.take k++l.take (min k (l.length - k))++l.drop (k+(l.take (min k (l.length - k))).length))))]⟩:=by
 subst hkx;subst hky
 have hlen:(l.take (min ky (l.length - ky))).length=min ky (l.length - ky):=by rw [Ym];omega
 refine Zei n hu hs hR hx (fun e=>by rw [← List.length_eq_zero_iff,hlen] at e;omega) (by rw [hlen];omega) fun act w F hp hr=>?_
 obtain ⟨xs,r1,r2,r3⟩:=hr
 simp only [Anc.v] at r1 r3
 have hxl:=r1.1
 have hsh:=Zs r1
 obtain ⟨ad,cap,ev,_,_,hq⟩:=hsh
 obtain ⟨b,rfl,_,hcells⟩:=hq.resolve_left ow
 have hle:min ky (l.length - ky)*sz≤l.length*sz:=YF _ ow
 refine ⟨⟨b,0,none⟩,ky,cap,xs.take (min ky (l.length - ky)*sz),by rw [(hy act w (U F) hp).1,ev];rfl,by rw [hlen],fun j u hj=>?_,?_⟩
 ·rw [YaS] at hj
  split at hj
  ·exact Zls hcells j u hj
  ·cases hj
 ·rw [Zbv hR];exact r2.take _
end
def ZaR (n k:Nat):List Int:=List.replicate k (-1)++List.replicate (n - k) 0
theorem Zga {n k:Nat} (h:k≤n):(ZaR n k).length=n:=by unfold ZaR;rw [Yc,YV,YV];omega
theorem Zho {n:Nat} (h:1≤n):[(-1:Int)] ++ (List.replicate n (0:Int)).drop [(-1:Int)].length=ZaR n 1:=by unfold ZaR;rw [List.drop_replicate];rfl
theorem ZeW {n k:Nat} (h:k<n):(ZaR n k).take k++(ZaR n k).take (min k ((ZaR n k).length - k))++(ZaR n k).drop (k+((ZaR n k).take (min k ((ZaR n k).length - k))).length)=ZaR n (k+min k (n - k))∧((ZaR n k).take (min k ((ZaR n k).length - k))).length=min k (n - k):=by
 have hl:=Zga (Nat.le_of_lt h)
 have hlen:((ZaR n k).take (min k (n - k))).length=min k (n - k):=by rw [Ym,hl];omega
 rw [hl,hlen]
 refine ⟨?_,rfl⟩
 have t1:∀ j,j≤k→(ZaR n k).take j=List.replicate j (-1):=fun j hj=>by
  unfold ZaR
  rw [Y2 (by rw [YV];exact hj),List.take_replicate,YaO hj]
 have d1:∀ j,(ZaR n k).drop (k+j)=List.replicate (n - k - j) 0:=fun j=>by
  unfold ZaR
  rw [List.drop_append,Ybj (by rw [YV];omega),YV,List.drop_replicate,Yal]
  congr 1;omega
 rw [t1 k (YT _),t1 _ ow,d1]
 unfold ZaR
 rw [List.replicate_append_replicate]
 congr 2;omega
theorem ZlT {n k:Nat} (h:n≤k) (h2:k≤n):ZaR n k=List.replicate n (-1):=by
 have:k=n:=by omega
 subst this
 unfold ZaR;simp
theorem Zo8 (x y:Int):FnP prog 102 [.int .u64 x,.int .u64 y] (.tup [.int .u64 (x*y / 18446744073709551616),.int .u64 (x*y % 18446744073709551616)]):=by
 refine FnP.mk func102 V ntmps102 V fun B a w F J hfr G=>Ya ?_
 refine rZ G (qI (qI qZ)) J [5,4,1,0] [0] fun G=>Ya ?_
 refine wp_cond (by rfl) ?_
 refine Yg (Za (Ya (rZ G (qR rr (qR rr (qf (oP (ZnK x y) func120 (Args.two .t .t)) r2 qz (qR rr (qf (o_extract .t V) r1 qz (qf (o_extract .t V) r1 qz (qO rr (qO rr qZ)))))))) J [9,8,5,4] [0] fun G=>Ya ?_)))
 refine rZ G (qR rr (qR rr (qO rr (qO rr qZ)))) J [5,4] [0] fun G=>Yl ?_
 refine Zdj hfr G V (.tmp V (.tmp V .nil)) (.two .refl .refl)
theorem Zmp (n:Nat) (hn1:1≤n) (hn2:n≤1000000):FnG prog 71 1 [.sl Zk [-1],.int .i64 (n:Int)] [.star []] (PV.one) (fun v=>[Zo 3 1 Zk (List.replicate n (-1)) v]):=by
 refine FnG.mk func71 V ntmps71 V kr fun B F0 a w F J hG G=>?_
 have hu1:IntKind.wrap .u64 ((([(-1)]:List Int).length:Nat):Int)=1:=ZI (by decide)
 have hu2:IntKind.wrap .u64 (n:Int)=n:=ZI ow
 have hw:IntKind.wrap .i64 (n:Int)=n:=Zr ow
 have hm:(1:Int)*(n:Int) / 18446744073709551616=0∧(1:Int)*(n:Int) % 18446744073709551616=(n:Int):=by omega
 obtain ⟨F,G⟩:=G.nM [1,0] [0]
 refine Ya (rZ G (qC qZ) J [4,1,0] [0] fun G=>(Ya (Ya ?_)))
 refine rZ G (qR rr (qf (Zbg .t qi) r1 qz qZ)) J [10,4,1,0] [0] fun G=>?_
 refine Zc G V (fun hc0=>?_) (fun hc0=>?_)
 ·have:=Yr hc0;omega
 refine Yg (Za (Ya (Zb G (qR rr (qu YbA r1 (qf (o_conv YbF kr .t) r1 qz (qR rr (qf (o_conv YbF kr .t) r1 qz (qf (oP (Zo8 _ _) func102 (Args.two .t .t)) r2 qz (qR rr (qf (o_extract .t V) r1 qz (qf (o_extract .t V) r1 qz (qO rr (qO rr qZ))))))))))) J [6,5,4,0] [0] V V fun a w F G=>?_)))
 rw [hu1,hu2,hm.1,hm.2] at G
 refine Za (Ya (Ya (rZ G (qR rr (qf (Zbq .t qi) r1 qz (qR rr (qm V V V V (qk V (fun h=>Zbq (.w h) qi) r2 qz (qf (Zaa .t .t) r2 qz qZ)))))) J [26,6,4,0] [0] fun G=>?_)))
 refine Zc G V (fun hc1=>?_) (fun hc1=>?_)
 ·simp at hc1;omega
 refine Yg (Za (Ya (Ze G (qR rr (qf (o_conv YbG kr .t) r1 qz (qf (Z4 (R:=Zk) (v:=0) (c:=(IntKind.wrap .i64 (n:Int))) (sz:=1) (bs:=8) (zs:=[.int .i64 0]) 101 YbA kr kr kr (fun _ _=>⟨⟨rfl,rfl,Znp⟩,tv⟩) .t .t (by rw [hw];omega) (by rw [hw];omega) (by rw [hw];omega)) r2 qz (qO rr qZ)))) J [7,4,0] [101,0] (fun _=>rfl) (fun _=>rfl) fun τ a w F G=>?_)))
 try dsimp only [RS.sub,SF.sub,CF.sub,csub,Anc.sub,List.map,Zh,xL,xM,Nat.reduceAdd,xD,xE,xT,xU,xC,xN,zCF,Z9,Zan,Zk,ZbD] at G
 generalize τ 30=v30 at G
 rw [hw,Yb] at G
 refine Za (Ya (Zb G (qR rr (qR rr (qf (ZhR 101 YbA kr (by intro x;rfl) .t .t (by simp) (by rw [YV];exact hn1)) r2 r1 (qO rr qZ)))) J [8,7,4] [101,0] V V fun a w F G=>?_))
 rw [Zho hn1] at G
 refine Za (Ya (Yk ?_))
 replace G:=G.ent (i:=8) (s':=.pv (.int .i64 ((1:Nat):Int))) V (.int V)
 refine Zl (σ:=Nat) [4,7] [0] (fun s=>[(8,.pv (.int .i64 (s:Int)))]) (fun s=>[(101,.ob (.val v30) (Zo 3 1 Zk (ZaR n s)))]) (fun s=>1≤s∧s≤n) (fun s=>n - s) (1) G ⟨rfl,rfl,rfl,tv⟩ ⟨rfl,rfl,tv⟩ ⟨YT 1,hn1⟩ ?_
 clear G;intro k a w F hC G
 try dsimp only at hC
 obtain ⟨F,G⟩:=G.nM [8,7,4] [101,0]
 try dsimp only at G
 obtain ⟨hk1,hk2⟩:=hC
 have hfl:=Zga hk2
 refine Ya (Ya (rZ G (qR rr (qR rr (qf (Zx 101 YbA .is) r1 r1 (qL r2)))) J [37,8,7,4] [101,0] fun G=>?_))
 refine Zc G V (fun hc2=>?_) (fun hc2=>?_)
 ·have hkn:k<n:=by have h9:=Yr hc2;rw [hfl] at h9;omega
  refine Yg (Za (Yk (Zp G (qR rr (qR rr (qR rr (qf (Zal (sz:=1) 101 (.mk YbA kr) .is .t ow (by rw [hfl];omega)) r2 r1 (qR rr (qR rr (qf (Zc0 (sz:=1) 101 (.mk YbA kr) .is .t ow (by rw [hfl];omega)) r2 r1 (qf (Zha 101 YbA kr (by intro x;rfl) .t .t V V ow (by rw [hfl];exact hkn)) r2 r1 (qf (o_add .t .t) r2 qz (qO rr qZ)))))))))) J [8,7,4] [101,0] V V fun a w F G=>?_)))
  try dsimp only [Z9,Zan,Zk,ZbD] at G
  simp only [Yb] at G
  rw [(ZeW hkn).1] at G
  refine Zi (Za ?_)
  replace G:=G.ent (i:=8) (s':=.pv (.int .i64 ((k+min k (n - k):Nat):Int))) V (.int (by rw [(ZeW hkn).2,Zr ow];omega))
  obtain ⟨F,G⟩:=G.nM [7,4,8] [0,101]
  exact ⟨(k+min k (n - k)),F,⟨by omega,by omega⟩,G,by omega⟩
 have hkn:n≤k:=by have h9:=Yag hc2;rw [hfl] at h9;omega
 rw [ZlT hkn hk2] at G
 have hg:(List.replicate n (-1):List Int)=List.replicate n (-1):=rfl
 refine YI (Zm (Zm (Zu (Za (Ya (rZ G (qR rr (qO rr qZ)) J [4] [101,0] fun G=>Yl ?_))))))
 obtain ⟨F,G⟩:=G.rename 101 1 V rfl
 have G:=G.turn 1 V (r':=RS.hp (Zo 3 1 Zk (List.replicate n (-1)) v30)) (fun _ _ _ _ h=>by rw [hg];exact h)
 refine ZU (h':=fun v=>Zo 3 1 Zk (List.replicate n (-1)) v) hG G V (.tmp V .nil) (.one .one) rfl
theorem Zo9 (O I:List (List ZL)) (m:Nat) (mask least:Int) (hn1:1≤O.length) (hn2:O.length≤1000000):FnG prog 45 1 [.agg [ZeF O I m,.int .i64 mask,.int .i64 least]] [.star []] (PV.one) (fun v=>[Zo 3 1 Zk (List.replicate O.length (-1)) v]):=by
 refine FnG.mk func45 V ntmps45 V kr fun B F0 a w F J hG G=>?_
 have hg:(List.replicate O.length (-1):List Int)=List.replicate O.length (-1):=rfl
 obtain ⟨F,G⟩:=G.nM [0] [0]
 refine Ya (Ze G (qx 101 r1 (qC qZ)) J [2,1] [101,0] (fun _=>rfl) (fun _=>rfl) fun τ a w F G=>?_)
 try dsimp only [RS.sub,SF.sub,CF.sub,csub,Anc.sub,List.map,zCF,Z9,Zan,Zk,ZbD] at G
 generalize τ 1=v1 at G
 refine Za (Ya ?_)
 replace G:=G.fresh 102 rfl
 refine Ze G (qf (o_buildSliceE (sz:=1) (zs:=[.int .i64 0]) (r:=[(0,_)]) (l:=[_]) YbA kr kr kr kr V V (.one V qi one_int kr .nil) V) trivial qz (qg 0 101 r1 r1 (qa 101 r1 r1 (qf (oP (ZbB O I m) func37 (Args.one .t)) r1 qz (qf (o_callN 102 (Zmp O.length hn1 hn2) func71 V kr (Args.two (.conv .t (Ent.arrSl (R:=Zk) (l:=[-1]) V)) .t) pvOne1) r2 r1 (qO rr qZ)))))) J [2] [102,101,0] (fun _=>rfl) (fun _=>rfl) fun τ a w F G=>?_
 try dsimp only [RS.sub,SF.sub,CF.sub,csub,Anc.sub,List.map,Zh,xL,xM,Nat.reduceAdd,xD,xE,xT,xU,xC,xN,zCF,ldSF,Z9,Zan,Zk,ZbD] at G
 generalize τ 7=v7 at G
 refine Za (Yl ?_)
 obtain ⟨F,G⟩:=G.rename 102 1 V rfl
 have G:=G.turn 1 V (r':=RS.hp (Zo 3 1 Zk (List.replicate O.length (-1)) v7)) (fun _ _ _ _ h=>by rw [hg];exact h)
 refine ZU (h':=fun v=>Zo 3 1 Zk (List.replicate O.length (-1)) v) hG G V (.tmp V .nil) (.one .one) rfl
theorem Zog (O I:List (List ZL)) (m:Nat) (mask least u:Int):FnP prog 46 [.agg [ZeF O I m,.int .i64 mask,.int .i64 least],.int .i64 u] (.bool (decide (least≤u∧0≤u∧u<O.length))):=by
 refine FnP.mk func46 V ntmps46 V fun B a w F J hfr G=>Ya ?_
 refine Ze G (qx 101 r1 qB) J [4,2,1] [101,0] (fun _=>rfl) (fun _=>rfl) fun τ a w F G=>?_
 try dsimp only [RS.sub,SF.sub,CF.sub,csub,Anc.sub,List.map,zCF,Z9,Zan,Zk,ZbD] at G
 generalize τ 2=v2 at G
 refine Za (Ya (rZ G (qR rr (qg 2 101 r1 r1 (qa 101 r1 r1 (qf (Zhx .t qi) r1 qz (qf (Zb6 .t .t) r2 qz (qR rr (qm V V V V (qv 0 101 V r2 r1 (qw 101 V r2 r1 (qk V (fun h=>oP (ZbB O I m) func37 (Args.one (.w h))) r2 qz (qk V (fun h=>Zbg (.w h) (.w h)) r3 qz (qf (ZF .t .t) r2 qz (qO rr qZ))))))))))))) J [4] [0] fun G=>Yl ?_))
 refine Zz hfr G V V V (.bool (by rw [Ybn];simp;split <;> omega))
section
variable {P:Program} {t t2 e ty:TypeId} {pos:String} {af:Array Edge} {g:Option (Nat×Bool)} {x y:Operand} {ps qs:List (Nat×SF)} {α:Type} {R:α→List PV} {l s:List α} {sz:Nat} {v:Value}
theorem Zjg {d':Nat} (n:Nat) (hu:P.underlying t=some (.slice e)) (hs:(P.info? e).map (·.size)=some sz) (hR:∀ x,(R x).length=sz) (hx:Opd x ps (.pv (.is v))) (hy:Opd y qs (.pv (.sl R s))) (hk:s.length≤l.length) :
  OpC P ⟨some d',.call { callee:=.builtin .copy,args:=#[x,y],argTypes:=#[t,t2] },ty,pos,af,g⟩ ⟨ps++qs,[(n,.ob (.val v) (Zo e sz R l))],.pv .any,[(n,.ob (.val v) (Zo e sz R (s++l.drop s.length)))]⟩:=fun act w F K Q hw hp hr ht=>by
 obtain ⟨xs,r1,r2,r3⟩:=id (hr (n,.ob (.val v) (Zo e sz R l)) (by simp))
 obtain ⟨ad,cap,ev,_,_,_⟩:=Zs r1
 simp only [Anc.v] at ev
 by_cases hs0:s = []
 ·subst hs0
  obtain ⟨sa,sc,es,_,_,_⟩:=hy act w (U F) hp.right
  have ex:act.eval x = .slice ad l.length cap:=by rw [(hx act w (U F) hp.left).1,ev]
  have hrun:(execOp act.eval ⟨some d',.call { callee:=.builtin .copy,args:=#[x,y],argTypes:=#[t,t2] },ty,pos,af,g⟩).run P w = .ok (.value (goInt 0)) w:=by
   cases ad <;> cases sa <;> simp [execOp,resolve,invoke,builtin,ex,es,Builtin.copy_,Yi hu,Builtin.lenOf,Builtin.firstCells,Go.Gm.run_sizeOf hs,goInt,storeCells,loadCells,loadCellsFrom]
  simp only [Oper.wp,hrun,Oper.upon]
  refine ht _ _ F hw ⟨rfl,rfl,rfl,YT _,fun _ _ _=>rfl,fun _ _=>rfl,fun n hn b hb=>.inl ⟨n,hn,hb⟩⟩ trivial ?_
  intro z' hz'
  simp only [Yd] at hz'
  subst hz'
  exact hr (n,.ob (.val v) (Zo e sz R l)) (by simp)
 ·have hsl0:0<s.length:=YaL.2 hs0
  have hv:ZfV sz 0 v=v:=by
   rcases r1.2 with ⟨_,hn0⟩ | ⟨b,cap,cur,ev,_⟩
   ·omega
   ·simp only [Anc.v] at ev
    rw [ev];simp [ZfV]
  have h:=o_copy_sub (P:=P) (t2:=t2) (ty:=ty) (pos:=pos) (af:=af) (g:=g) (s:=s) (l:=l) (v:=v) (k:=0) (d':=d') n hu hs hR (by rw [hv];exact hx) hy hs0 ow
  rw [List.take_zero,Yal,YG] at h
  exact h act w F K Q hw hp hr ht
end
theorem Zjq (x m:Nat) (hx:x<18446744073709551616) (hm:m<18446744073709551616):bits .and .u64 (x:Int) (m:Int)=((x &&& m:Nat):Int):=by
 have h1:(BitVec.ofInt 64 (x:Int)).toNat=x:=by rw [Yap];omega
 have h2:(BitVec.ofInt 64 (m:Int)).toNat=m:=by rw [Yap];omega
 show IntKind.wrap .u64 (((BitVec.ofInt 64 (x:Int) &&& BitVec.ofInt 64 (m:Int)).toNat:Nat):Int)=_
 rw [Ybu,h1,h2]
 exact ZI (by have:=Nat.and_lt_two_pow (n:=64) x (y:=m) ow;omega)
theorem Zn1 {n:Nat} (h:n≤65536):IntKind.wrap .i64 ((n:Int)*2 ^ min (1:Int).toNat (IntKind.bits .i64))=((2*n:Nat):Int):=by
 have:min (1:Int).toNat (IntKind.bits .i64)=1:=by decide
 rw [this,Zr ow];omega
def growN (n:Nat):Nat:=if n=0 then 1 else 2*n
theorem ZfQ {n:Nat} (h:n≤65536):(if (1:Int)<IntKind.wrap .i64 ((n:Int)*2 ^ min (1:Int).toNat (IntKind.bits .i64)) then IntKind.wrap .i64 ((n:Int)*2 ^ min (1:Int).toNat (IntKind.bits .i64)) else 1)=((growN n:Nat):Int):=by
 rw [Zn1 h]
 unfold growN
 split <;> split <;> omega
theorem Zmm {n:Nat} (h:n≤65536) (hp:n=0 ∨ ∃ k,k≤17∧n=2 ^ k):∃ k,k≤17∧growN n=2 ^ k:=by
 unfold growN
 rcases hp with rfl | ⟨k,hk,rfl⟩
 ·exact ⟨0,by decide,rfl⟩
 ·have h0:2 ^ k≠0:=by simp
  rw [Ye h0]
  refine ⟨k+1,?_,by rw [Nat.pow_succ];omega⟩
  refine Ybf (Nat.lt_of_not_le fun h2=>?_)
  have:2 ^ 17≤2 ^ k:=Ybr (by decide) ow
  omega
structure ZeA (room:Int) (c:List Int) (f:Nat) (l:List Int):Prop where
 r0:0≤room
 r1:room≤65536
 fits:(l.length:Int)≤room
 le:l.length≤c.length
 pow:(c.length=0∧f=0)∨(f<c.length ∧ ∃ k,k≤17∧c.length=2 ^ k)
 cells:∀ j,j<l.length→Nn c ((f+j) % c.length)=Nn l j
theorem Zov {n f j k:Nat} (h1:j<k) (h2:k<n):(f+j) % n≠(f+k) % n:=by
 intro e
 have h:=Nat.sub_mod_eq_zero_of_mod_eq e.symm
 rw [show f+k - (f+j)=k - j by omega,Nat.mod_eq_of_lt ow] at h
 omega
theorem ZeA.new {n:Int} (h:0≤n∧n≤65536):ZeA n [] 0 []:=⟨h.1,h.2,h.1,YT _,.inl ⟨rfl,rfl⟩,fun j hj=>absurd hj (YaH j)⟩
theorem Zng {l:List Int} {x:Int} {j:Nat} : Nn (l ++ [x]) j=if j<l.length then Nn l j else if j=l.length then x else default:=by
 by_cases h:j<l.length
 ·rw [Yf h,nth_eq (by simp;omega),nth_eq h,Yaq h]
 ·rw [Ye h]
  by_cases e:j=l.length
  ·subst e;rw [Yf rfl,nth_eq (by simp)];simp
  ·rw [Ye e];unfold Nn;simp [Yaf,show l.length+1≤j by omega]
theorem ZeA.put {room:Int} {c:List Int} {f:Nat} {l:List Int} {x:Int} (h:ZeA room c f l) (hl:(l.length:Int)<room) (hc:l.length<c.length):ZeA room (c.set ((f+l.length) % c.length) x) f (l ++ [x]):=by
 obtain ⟨h0,h1,h2,h3,h4,h5⟩:=h
 have hm:∀ j,(f+j) % c.length<c.length:=fun j=>YaZ _ ow
 refine ⟨h0,h1,by simp;omega,by simp;omega,?_,fun j hj=>?_⟩
 ·rcases h4 with h4 | ⟨h4,k,h6,h7⟩
  ·omega
  ·exact .inr ⟨by simpa using h4,k,h6,by simpa using h7⟩
 ·rw [Yc,Yp] at hj
  rw [YM,ZfB (hm _),Zng]
  by_cases e:j=l.length
  ·subst e;rw [Yf rfl,Ye (Nat.lt_irrefl _),Yf rfl]
  ·rw [Ye fun k=>Zov (show j<l.length by omega) hc k,Yf ow]
   exact h5 j ow
theorem ZeA.tail {room:Int} {c:List Int} {f:Nat} {x:Int} {l:List Int} (h:ZeA room c f (x :: l)):ZeA room c ((f+1) % c.length) l:=by
 obtain ⟨h0,h1,h2,h3,h4,h5⟩:=h
 rw [Yx] at h2 h3 h5
 have hc:0<c.length:=by omega
 have e:∀ j,j<l.length→Nn (x :: l) (j+1)=Nn l j:=fun j hj=>by rw [nth_eq (by simpa using hj),nth_eq hj];rfl
 refine ⟨h0,h1,by omega,by omega,?_,fun j hj=>?_⟩
 ·rcases h4 with h4 | ⟨h4,k⟩
  ·omega
  ·exact .inr ⟨YaZ _ hc,k⟩
 ·rw [Nat.mod_add_mod,← e j hj,← h5 (j+1) ow]
  congr 2;omega
theorem ZeA.first {room:Int} {c:List Int} {f:Nat} {x:Int} {l:List Int} (h:ZeA room c f (x :: l)):Nn c ((f+0) % c.length)=x:=by
 rw [h.cells 0 (by simp),nth_eq (by simp)];rfl
theorem ZeA.grow {room:Int} {l d:List Int} (h0:0≤room) (h1:room≤65536) (h2:(l.length:Int)≤room) (h3:l.length≤d.length) (ht:d.take l.length=l) (hp:∃ k,k≤17∧d.length=2 ^ k):ZeA room d 0 l:=by
 have hd:0<d.length:=by obtain ⟨k,_,e⟩:=hp;rw [e];exact Nat.pos_of_ne_zero (by simp)
 refine ⟨h0,h1,h2,h3,.inr ⟨hd,hp⟩,fun j hj=>?_⟩
 rw [YG,Nat.mod_eq_of_lt ow]
 have e:(d.take l.length)[j]? = l[j]?:=by rw [ht]
 rw [Yba hj,YN hj] at e
 obtain ⟨h2,e2⟩:=Yv.1 e
 rw [nth_eq h2,nth_eq hj,e2]
theorem ZeA.ring {room:Int} {c:List Int} {f:Nat} {l:List Int} (h:ZeA room c f l) (hc:0<c.length):(∃ k,k≤17∧c.length=2 ^ k)∧f<c.length:=by
 rcases h.pow with ⟨h1,_⟩ | ⟨h1,h2⟩
 ·omega
 ·exact ⟨h2,h1⟩
theorem ZeA.pow0 {room:Int} {c:List Int} {f:Nat} {l:List Int} (h:ZeA room c f l):c.length=0 ∨ ∃ k,k≤17∧c.length=2 ^ k:=by
 rcases h.pow with ⟨h1,_⟩ | ⟨_,h2⟩
 ·exact .inl h1
 ·exact .inr h2
def ZpQ (v rv:Value) (room:Int) (n f:Nat) (c:List Int):List RS:=[.pt (.val v) 123 [.pv (.int .i64 room),.pv (.is rv),.pv (.int .u64 (f:Int)),.pv (.int .i64 (n:Int))],.ob (.val rv) (Zo 3 1 Zk c)]
def rqH (v:Value) (room:Int) (l:List Int):HP:=.ex fun rv:Value=>.ex fun c:List Int=>.ex fun f:Nat=>.and (ZeA room c f l) (.star (ZpQ v rv room l.length f c))
theorem ZnP {v:Value} {room:Int} {l:List Int} {w:World} {f y:Ys} (h:(rqH v room l).p w f y):∃ b,v = .pointer (some ⟨b,0,none⟩):=by
 obtain ⟨rv,c,f,_,g⟩:=h
 exact HP.star_pt g
theorem ZnZ {f i n:Nat} {z:Int} (hz:z=i) (hp:∃ k,k≤17∧n=2 ^ k) (hf:f<n) (hi:i≤n):bits .and .u64 (IntKind.wrap .u64 ((f:Int)+IntKind.wrap .u64 z)) (IntKind.wrap .u64 (IntKind.wrap .i64 ((n:Int) - 1)))=(((f+i) % n:Nat):Int):=by
 subst hz
 obtain ⟨k,hk,rfl⟩:=hp
 have h17:2 ^ k≤2 ^ 17:=Ybr (by decide) hk
 have h0:0<2 ^ k:=Nat.pos_of_ne_zero (by simp)
 have e1:IntKind.wrap .u64 ((f:Int)+IntKind.wrap .u64 (i:Int))=((f+i:Nat):Int):=by rw [ZI (x:=(i:Int)) ow,ZI ow];omega
 have e2:IntKind.wrap .u64 (IntKind.wrap .i64 (((2 ^ k:Nat):Int) - 1))=((2 ^ k - 1:Nat):Int):=by rw [Zr ow,ZI ow];omega
 rw [e1,e2,Zjq _ _ ow ow,Yaw]
theorem Zbr (c:List Int) (room:Int) (n f i:Nat) (z:Int) (hz:z=i) (hp:∃ k,k≤17∧c.length=2 ^ k) (hf:f<c.length) (hi:i≤c.length):FnP prog 74 [.ref [.int .i64 room,.sl Zk c,.int .u64 (f:Int),.int .i64 (n:Int)],.int .i64 z] (.int .u64 (((f+i) % c.length:Nat):Int)):=by
 refine FnP.mk func74 V ntmps74 V fun B a w F J hfr G=>Ya ?_
 refine rZ G (qI qZ) J [4,1,0] [0] fun G=>Ya ?_
 refine Zp G (qR rr (qf (o_nilCheck_ref .t) r1 qz (qf (oG 2 .t) r1 qz (qf (oR false 1 .t) r1 qz (qR rr (qf (o_conv YbF kr .t) r1 qz (qf (o_add .t .t) r2 qz (qR rr (qf (o_nilCheck_ref .t) r1 qz (qf (oG 1 .t) r1 qz (qf (oR false 1 .t) r1 qz (qu YbA r1 (qf (o_sub .t qi) r1 qz (qf (o_conv YbF kr .t) r1 qz (qf (o_and .t .t) r2 qz (qO rr qZ)))))))))))))))) J [4] [0] V V fun a w F G=>?_
 try dsimp only [List.map,xD,xE,xT,xU,ldSF,Zk] at G
 refine Za (Yl (Zz hfr G V V V (.int (ZnZ hz hp hf hi))))
theorem Zhm (room n:Int) (p q:PV):FnP prog 103 [.ref [.int .i64 room,p,q,.int .i64 n]] (.int .i64 n):=by
 refine FnP.mk func103 V ntmps103 V fun B a w F J hfr G=>Ya ?_
 refine rZ G (qI qZ) J [2,0] [0] fun G=>(Ya (Ya ?_))
 refine rZ G (qR rr (qf (Zab underlying93 .t) r1 qz qZ)) J [4,2,0] [0] fun G=>?_
 refine Zc G V (fun hc0=>?_) (fun hc0=>?_)
 ·simp at hc0
 refine Yg (Za (Ya (rZ G (qR rr (qf (o_nilCheck_ref .t) r1 qz (qf (oG 3 .t) r1 qz (qf (oR false 1 .t) r1 qz (qO rr qZ))))) J [2] [0] fun G=>Yl ?_)))
 refine Zz hfr G V V V .refl
theorem ZmL (room n:Int) (p q:PV) (hr:0≤room∧room≤65536) (hn:0≤n∧n≤65536):FnP prog 72 [.ref [.int .i64 room,p,q,.int .i64 n]] (.int .i64 (room - n)):=by
 refine FnP.mk func72 V ntmps72 V fun B a w F J hfr G=>Ya ?_
 refine rZ G (qI qZ) J [2,0] [0] fun G=>(Ya (Ya ?_))
 refine rZ G (qR rr (qf (Zab underlying93 .t) r1 qz qZ)) J [4,2,0] [0] fun G=>?_
 refine Zc G V (fun hc0=>?_) (fun hc0=>?_)
 ·simp at hc0
 refine Yg (Za (Ya (Zp G (qR rr (qf (o_nilCheck_ref .t) r1 qz (qf (oG 0 .t) r1 qz (qf (oR false 1 .t) r1 qz (qR rr (qf (o_nilCheck_ref .t) r1 qz (qf (oG 3 .t) r1 qz (qf (oR false 1 .t) r1 qz (qf (o_sub .t .t) r2 qz (qO rr qZ)))))))))) J [2] [0] V V fun a w F G=>?_)))
 try dsimp only [List.map,xD,xE,xT,xU,ldSF,Zk] at G
 refine Za (Yl (Zz hfr G V V V (.int (Zr ow))))
theorem Zm8 (b:Nat) (room:Int) (l:List Int):FnG prog 73 1 [.is (.pointer (some ⟨b,0,none⟩))] [rqH (.pointer (some ⟨b,0,none⟩)) room l] (.sl Zk l) (fun _=>[rqH (.pointer (some ⟨b,0,none⟩)) room l]):=by
 refine FnG.mk func73 V ntmps73 V kr fun B F0 a w F J hG G=>?_
 obtain ⟨rv,G⟩:=G.open_ex 1 rfl
 obtain ⟨c,G⟩:=G.open_ex 1 rfl
 obtain ⟨f,G⟩:=G.open_ex 1 rfl
 obtain ⟨hI,G⟩:=G.open_and 1 rfl
 obtain ⟨F,G⟩:=G.peel 1 2 V rfl
 obtain ⟨F,G⟩:=G.peel 1 3 V rfl
 have hle:=hI.le
 have hfit:=hI.fits
 have hr0:=hI.r0
 have hr1:=hI.r1
 obtain ⟨F,G⟩:=G.nM [0] [3,2,0]
 refine Ya (rZ G (qC qZ) J [2,0] [3,2,0] fun G=>Ya ?_)
 refine rZ G (qC qZ) J [3,2,0] [3,2,0] fun G=>(Ya (Ya ?_))
 refine rZ G (qR rr (qf (ZfS (cells:=[.pv _,.pv _,.pv _,.pv _]) 2 (Zhm room l.length _ _) (fun _ _ _ _ _ h=>h) V func103 V kr (ZJ.one .is)) r1 r1 (qJ qZ))) J [7,6,3,2,0] [3,2,0] fun G=>Yk ?_
 replace G:=G.fresh 50 rfl
 replace G:=G.turn 50 V (Z1 (T:=3) (sz:=1) (R:=Zk))
 refine Zl (σ:=(Nat)×(Value)×(List Int)) [0,2,6] [0,2,3] (fun s=>[(7,.pv (.int .i64 (s.1:Int))),(3,.pv (.is s.2.1))]) (fun s=>[(50,.ob (.val s.2.1) (Zo 3 1 Zk s.2.2))]) (fun s=>s.1≤l.length∧(s.2.2=l.take s.1)) (fun s=>l.length - s.1) ((0),(.slice none 0 0),([])) G ⟨rfl,rfl,rfl,rfl,rfl,tv⟩ ⟨rfl,rfl,rfl,rfl,tv⟩ ⟨YA _,rfl⟩ ?_
 clear G;intro s a w F hC G
 obtain ⟨i,v,out⟩:=s
 try dsimp only at hC
 obtain ⟨F,G⟩:=G.nM [7,6,3,2,0] [50,3,2,0]
 try dsimp only at G
 obtain ⟨hi,hq⟩:=hC
 have hol:out.length≤i:=by rw [hq,Ym];omega
 refine Ya (rZ G (qL r2) J [8,7,6,3,2,0] [50,3,2,0] fun G=>Ya ?_)
 refine Zc G V (fun hc0=>?_) (fun hc0=>?_)
 ·have hil:i<l.length:=by simp at hc0;omega
  have hil2:i<l.length:=by simp at hc0;omega
  have hmi:(f+i) % c.length<c.length:=YaZ _ ow
  have hnl:Nn c ((f+i) % c.length)=Nn l i:=hI.cells i hil2
  refine Yg (Za (Ya (Yk (Ya (rZ G (qR rr (qO rr qZ)) J [7,6,4,3,2,0] [50,3,2,0] fun G=>?_)))))
  refine Zac G (qR rr (qR rr (qf (o_nilCheck 2 .is (by rfl)) r1 r1 (qf (oF 1 2 .adr) r1 r1 (qa 2 r1 r1 (qR rr (qR rr (qf (ZaU (cells:=[.pv _,.pv (.is rv),.pv _,.pv _]) 2 3 1 (Zbr c room l.length f i (i:Int) V (hI.ring ow).1 (hI.ring ow).2 ow) (fun _ _ _ _ _ h=>h) V func74 V kr V V (ZJ.two .is .t)) r2 r2 (qf (o_indexAddr_row (sz:=1) 3 (.mk YbA kr) .is .t ow ow (by rfl)) r2 r1 (qf (Zg (ag:=false) (sz':=1) (sz:=1) 3 .t (by intro x;rfl) ow kr kr kr) r1 r1 (qf (o_buildSliceE (sz:=1) (zs:=[.int .i64 0]) (r:=[(0,.tmp 19)]) (l:=[_]) YbA kr kr kr kr V V (.one V .t one_int kr .nil) V) r1 qz (qf (ZB (sz:=1) (bs:=8) 50 (.mk' YbA kr kr) (by intro x;rfl) .is (.arr (l':=[_]) .t) (by simp only [Yx,YS];omega) (by decide)) ⟨rfl,rfl,tv⟩ ⟨rfl,tv⟩ (qO rr qZ))))))))))))) J [7,6,3,2,0] [50,3,2,0] (fun _=>rfl) (fun _=>rfl) fun τ a w F G=>?_
  try dsimp only [RS.sub,SF.sub,CF.sub,csub,Anc.sub,List.map,Zh,xL,xM,Nat.reduceAdd,xD,xE,xT,xU,xC,xN,zCF,ldSF,Zk] at G
  generalize τ 21=v21 at G
  try simp only [Yb] at G
  refine Zi (Za (rZ G (qp r1 (qR rr qZ)) J [7,6,3,2,0] [50,3,2,0] fun G=>?_))
  replace G:=G.ent (i:=7) (s':=.pv (.int .i64 ((i+1:Nat):Int))) V (.int (Zf ow))
  obtain ⟨F,G⟩:=G.nM [6,2,0,3,7] [3,2,0,50]
  exact ⟨((i+1),_,_),F,⟨by omega,(by rw [hq,hnl,ZE hil])⟩,G,by omega⟩
 have hil:i=l.length:=by simp at hc0;omega
 refine YI (Zm (Zm (Zu (Za (Ya (rZ G (qR rr (qO rr qZ)) J [2] [50,3,2,0] fun G=>Yl ?_))))))
 obtain ⟨F,G⟩:=G.give 50 2 V rfl
 have G:=G.fresh 1 rfl
 obtain ⟨F,G⟩:=G.push 1 3 V V V kr
 obtain ⟨F,G⟩:=G.push 1 2 V V V kr
 have G:=G.turn 1 V (r':=RS.hp (rqH (.pointer (some ⟨b,0,none⟩)) room l)) (fun _ _ _ _ h=>⟨_,_,_,hI,h⟩)
 refine Zy hG G V (.tmp V .nil) (.one (.sl (by rw [hq,hil,Yac]))) rfl
theorem Zoz (n:Int):FnG prog 47 1 [.int .i64 n] [.star []] (PV.ptr) (fun v=>[rqH v (Za7 n) []]):=by
 refine FnG.mk func47 V ntmps47 V kr fun B F0 a w F J hG G=>Ya ?_
 refine rZ G (qC qZ) J [2,0] [1,0] fun G=>Ya ?_
 refine Ze G (qR rr (qf (oP (ZiX n) func65 (Args.one .t)) r1 qz (qf (oB [(0,.tmp 4)] [.int .i64 0,.slice none 0 0,.int .u64 0,.int .i64 0] [(0,1),(1,1),(2,1),(3,1)] (.one V .t one_int kr .nil)) r1 qz (qf (oX 101 .t) r1 qz (qO rr qZ))))) J [2] [101,1,0] (fun _=>rfl) (fun _=>rfl) fun τ a w F G=>?_
 try dsimp only [RS.sub,SF.sub,CF.sub,csub,Anc.sub,List.map,Zh,xL,xM,Nat.reduceAdd,xD,xE,xT,xU,xC,xN,zCF,Zk] at G
 generalize τ 6=v6 at G
 refine Za (Yl ?_)
 obtain ⟨b,rfl⟩:=G.shape 101 rfl
 have G:=G.fresh 3 rfl
 have G:=G.turn 3 V (Z1 (T:=3) (sz:=1) (R:=Zk))
 obtain ⟨F,G⟩:=G.push 1 3 V V V kr
 obtain ⟨F,G⟩:=G.push 1 101 V V V kr
 have G:=G.turn 1 V (r':=RS.hp (rqH (.pointer (some ⟨b,0,none⟩)) (Za7 n) [])) (fun _ _ _ _ h=>⟨_,[],0,ZeA.new (Zkg n),h⟩)
 refine ZU (h':=fun v=>rqH v (Za7 n) []) hG G V (.tmp V .nil) (.one .ptr) rfl
theorem ZkN (c:List Int) (room:Int) (f:Nat) (x:Int) (l:List Int) (hI:ZeA room c f (x :: l)):FnP prog 75 [.ref [.int .i64 room,.sl Zk c,.int .u64 (f:Int),.int .i64 (((x :: l).length:Nat):Int)]] (.tup [.int .i64 x,.bool true]):=by
 refine FnP.mk func75 V ntmps75 V fun B a w F J hfr G=>?_
 have hle:=hI.le
 rw [Yx] at hle
 have hmi:(f+0) % c.length<c.length:=YaZ _ ow
 refine Ya (rZ G (qI qB) J [3,2,0] [0] fun G=>(Ya (Ya ?_)))
 refine rZ G (qR rr (qf (oP (Zhm room _ _ _) func103 (Args.one .t)) r1 qz (qf (o_eql .t qi) r1 qz qZ))) J [6,3,2,0] [0] fun G=>?_
 refine Zc G V (fun hc0=>?_) (fun hc0=>?_)
 ·simp at hc0;try omega
 refine Yg (Za (Ya (Zp G (qR rr (qf (o_nilCheck_ref .t) r1 qz (qf (oG 1 .t) r1 qz (qf (oR false 1 .t) r1 qz (qR rr (qf (oP (Zbr c room (x :: l).length f 0 0 V (hI.ring ow).1 (hI.ring ow).2 ow) func74 (Args.two .t qi)) r1 qz (qy 1 YbA r2 (qf (oR false 1 .t) r1 qz (qO rr qB))))))))) J [3,2] [0] V V fun a w F G=>?_)))
 try dsimp only [List.map,xD,xE,xT,xU,ldSF,Zk] at G
 try simp only [Yb] at G
 try simp only [Yb] at G
 rw [hI.first] at G
 refine Za (Yl (Zdj hfr G V (.tmp V (.tmp V .nil)) (.two .refl .refl)))
theorem Zjy (room:Int) (p q:PV):FnP prog 75 [.ref [.int .i64 room,p,q,.int .i64 0]] (.tup [.int .i64 0,.bool false]):=by
 refine FnP.mk func75 V ntmps75 V fun B a w F J hfr G=>Ya ?_
 refine rZ G (qI qB) J [3,2,0] [0] fun G=>(Ya (Ya ?_))
 refine rZ G (qR rr (qf (oP (Zhm room _ _ _) func103 (Args.one .t)) r1 qz (qf (o_eql .t qi) r1 qz qZ))) J [6,3,2,0] [0] fun G=>?_
 refine Zc G V (fun hc0=>?_) (fun hc0=>?_)
 ·refine Ya (rZ G (qI qB) J [3,2,0] [0] fun G=>(Yl (Zw ?_)))
  refine Zdj hfr G V (.tmp V (.tmp V .nil)) (.two .refl .refl)
 simp at hc0
theorem ZmV (b:Nat) (room:Int) (x:Int) (l:List Int):FnG prog 49 1 [.is (.pointer (some ⟨b,0,none⟩))] [rqH (.pointer (some ⟨b,0,none⟩)) room (x :: l)] (.tup [.int .i64 x,.bool true]) (fun _=>[rqH (.pointer (some ⟨b,0,none⟩)) room l]):=by
 refine FnG.mk func49 V ntmps49 V kr fun B F0 a w F J hG G=>?_
 obtain ⟨rv,G⟩:=G.open_ex 1 rfl
 obtain ⟨c,G⟩:=G.open_ex 1 rfl
 obtain ⟨f,G⟩:=G.open_ex 1 rfl
 obtain ⟨hI,G⟩:=G.open_and 1 rfl
 obtain ⟨F,G⟩:=G.peel 1 2 V rfl
 obtain ⟨F,G⟩:=G.peel 1 3 V rfl
 have hle:=hI.le
 have hfit:=hI.fits
 have hr0:=hI.r0
 have hr1:=hI.r1
 obtain ⟨F,G⟩:=G.nM [0] [3,2,0]
 rw [Yx] at hle hfit
 have hw1:IntKind.wrap .i64 ((((x :: l).length:Nat):Int) - 1)=((l.length:Nat):Int):=by rw [Yx,Zr ow];omega
 refine Ya (rZ G (qI qB) J [3,2,0] [3,2,0] fun G=>Ya ?_)
 refine rZ G (qR rr (qf (ZaU (cells:=[.pv _,.pv (.is rv),.pv _,.pv _]) 2 3 1 (ZkN c room f x l hI) Zfk V func75 V kr V V (ZJ.one .is)) r1 r2 (qR rr (qf (o_extract .t V) r1 qz (qf (o_extract .t V) r1 qz (qO rr (qO rr qZ))))))) J [5,4,3,2,0] [3,2,0] fun G=>(Ya (Ya ?_))
 refine rZ G (qR rr qZ) J [11,5,4,3,2,0] [3,2,0] fun G=>?_
 refine Zc G V (fun hc0=>?_) (fun hc0=>?_)
 ·refine Ya (rZ G (qR rr (qR rr (qf (ZaU (cells:=[.pv _,.pv (.is rv),.pv _,.pv _]) 2 3 1 (Zbr c room (x :: l).length f 1 1 V (hI.ring ow).1 (hI.ring ow).2 ow) (fun _ _ _ _ _ h=>h) V func74 V kr V V (ZJ.two .is qi)) r1 r2 (qf (o_nilCheck 2 .is (by rfl)) r1 r1 (qf (oF 2 2 .adr) r1 r1 (qf (ZaG 2 .adr .t one_int kr kr) r2 r1 qZ)))))) J [5,4,3,2,0] [3,2,0] fun G=>?_)
  refine Zb G (qR rr (qf (o_nilCheck 2 .is (by rfl)) r1 r1 (qf (oF 3 2 .adr) r1 r1 (qa 2 r1 r1 (qf (o_sub .t qi) r1 qz (qf (o_nilCheck 2 .is (by rfl)) r1 r1 (qf (oF 3 2 .adr) r1 r1 (qf (ZaG 2 .adr .t one_int kr kr) r2 r1 qZ)))))))) J [5,4,3,2] [3,2,0] V V fun a w F G=>?_
  rw [hw1] at G
  refine Za (Ya (rZ G (qR rr (qR rr (qO rr (qO rr qZ)))) J [3,2] [3,2,0] fun G=>Yl ?_))
  have G:=G.fresh 1 rfl
  obtain ⟨F,G⟩:=G.push 1 3 V V V kr
  obtain ⟨F,G⟩:=G.push 1 2 V V V kr
  have G:=G.turn 1 V (r':=RS.hp (rqH (.pointer (some ⟨b,0,none⟩)) room l)) (fun _ _ _ _ h=>⟨_,_,_,hI.tail,h⟩)
  refine Zy hG G V (.tmp V (.tmp V .nil)) (.two .refl .refl) rfl
 simp at hc0
theorem Zl4 (b:Nat) (room:Int):FnG prog 49 1 [.is (.pointer (some ⟨b,0,none⟩))] [rqH (.pointer (some ⟨b,0,none⟩)) room []] (.tup [.int .i64 0,.bool false]) (fun _=>[rqH (.pointer (some ⟨b,0,none⟩)) room []]):=by
 refine FnG.mk func49 V ntmps49 V kr fun B F0 a w F J hG G=>?_
 obtain ⟨rv,G⟩:=G.open_ex 1 rfl
 obtain ⟨c,G⟩:=G.open_ex 1 rfl
 obtain ⟨f,G⟩:=G.open_ex 1 rfl
 obtain ⟨hI,G⟩:=G.open_and 1 rfl
 obtain ⟨F,G⟩:=G.peel 1 2 V rfl
 obtain ⟨F,G⟩:=G.peel 1 3 V rfl
 have hle:=hI.le
 have hfit:=hI.fits
 have hr0:=hI.r0
 have hr1:=hI.r1
 obtain ⟨F,G⟩:=G.nM [0] [3,2,0]
 refine Ya (rZ G (qI qB) J [3,2,0] [3,2,0] fun G=>Ya ?_)
 refine rZ G (qR rr (qf (ZfS (cells:=[.pv _,.pv _,.pv _,.pv _]) 2 (Zjy room _ _) Zfk V func75 V kr (ZJ.one .is)) r1 r1 (qR rr (qf (o_extract .t V) r1 qz (qf (o_extract .t V) r1 qz (qO rr (qO rr qZ))))))) J [5,4,3,2,0] [3,2,0] fun G=>(Ya (Ya ?_))
 refine rZ G (qR rr qZ) J [11,5,4,3,2,0] [3,2,0] fun G=>?_
 refine Zc G V (fun hc0=>?_) (fun hc0=>?_)
 ·simp at hc0
 refine Yg (Za (Ya (rZ G (qR rr (qR rr (qO rr (qO rr qZ)))) J [3,2] [3,2,0] fun G=>Yl ?_)))
 have G:=G.fresh 1 rfl
 obtain ⟨F,G⟩:=G.push 1 3 V V V kr
 obtain ⟨F,G⟩:=G.push 1 2 V V V kr
 have G:=G.turn 1 V (r':=RS.hp (rqH (.pointer (some ⟨b,0,none⟩)) room [])) (fun _ _ _ _ h=>⟨_,_,_,hI,h⟩)
 refine Zy hG G V (.tmp V (.tmp V .nil)) (.two .refl .refl) rfl
theorem Zkh (b:Nat) (room:Int) (l:List Int):FnG prog 49 1 [.is (.pointer (some ⟨b,0,none⟩))] [rqH (.pointer (some ⟨b,0,none⟩)) room l] (.tup [.int .i64 (l.headD 0),.bool (decide (l≠[]))]) (fun _=>[rqH (.pointer (some ⟨b,0,none⟩)) room l.tail]):=by
 cases l with
 | nil=>exact Zl4 b room
 | cons x l=>exact ZmV b room x l
theorem Zip (b:Nat) (room:Int) (l:List Int) (x:Int) (hrm:(l.length:Int)<room):FnG prog 48 1 [.is (.pointer (some ⟨b,0,none⟩)),.int .i64 x] [rqH (.pointer (some ⟨b,0,none⟩)) room l] (.int .i64 0) (fun _=>[rqH (.pointer (some ⟨b,0,none⟩)) room (l ++ [x])]):=by
 refine FnG.mk func48 V ntmps48 V kr fun B F0 a w F J hG G=>?_
 obtain ⟨rv,G⟩:=G.open_ex 1 rfl
 obtain ⟨c,G⟩:=G.open_ex 1 rfl
 obtain ⟨f,G⟩:=G.open_ex 1 rfl
 obtain ⟨hI,G⟩:=G.open_and 1 rfl
 obtain ⟨F,G⟩:=G.peel 1 2 V rfl
 obtain ⟨F,G⟩:=G.peel 1 3 V rfl
 have hle:=hI.le
 have hfit:=hI.fits
 have hr0:=hI.r0
 have hr1:=hI.r1
 obtain ⟨F,G⟩:=G.nM [1,0] [3,2,0]
 refine Ya (rZ G (qI qZ) J [4,1,0] [3,2,0] fun G=>(Ya (Ya ?_)))
 refine rZ G (qR rr (qf (ZfS (cells:=[.pv _,.pv _,.pv _,.pv _]) 2 (ZmL room l.length _ _ ⟨hr0,hr1⟩ ow) (fun _ _ _ _ _ h=>h) V func72 V kr (ZJ.one .is)) r1 r1 (qf (o_eql .t qi) r1 qz qZ))) J [8,4,1,0] [3,2,0] fun G=>?_
 refine Zc G V (fun hc0=>?_) (fun hc0=>?_)
 ·simp at hc0;omega
 refine Yg (Za (Ya (Ya (Zp G (qR rr (qf (o_nilCheck 2 .is (by rfl)) r1 r1 (qf (oF 3 2 .adr) r1 r1 (qa 2 r1 r1 (qR rr (qf (o_nilCheck 2 .is (by rfl)) r1 r1 (qf (oF 1 2 .adr) r1 r1 (qa 2 r1 r1 (qf (Zx 3 YbA .is) r1 r1 (qf (o_eql .t .t) r2 qz qZ)))))))))) J [18,4,1,0] [3,2,0] V V fun a w F G=>?_))))
 try dsimp only [List.map,xD,xE,xT,xU,ldSF,Zk] at G
 refine Za (Zc G V (fun hc1=>?_) (fun hc1=>?_))
 ·have hcl:l.length=c.length:=by simp at hc1;omega
  have hp2:=Zmm (n:=c.length) ow hI.pow0
  rw [← hcl] at hp2
  clear hcl
  have hgl:l.length<growN l.length:=by unfold growN;split <;> omega
  refine Ya ?_
  have G:=G.fresh 1 rfl
  obtain ⟨F,G⟩:=G.push 1 3 V V V kr
  obtain ⟨F,G⟩:=G.push 1 2 V V V kr
  have G:=G.turn 1 V (r':=RS.hp (rqH (.pointer (some ⟨b,0,none⟩)) room l)) (fun _ _ _ _ h=>⟨_,_,_,hI,h⟩)
  obtain ⟨F,G⟩:=G.nM [18,4,1,0] [1,0]
  refine Zb G (qR rr (qf (o_callG1 1 (Zm8 b room l) func73 V kr (Args.one .t)) r1 r1 (qO rr qZ))) J [5,4,1,0] [1,0] V V fun a w F G=>?_
  obtain ⟨rv,G⟩:=G.open_ex 1 rfl
  obtain ⟨c,G⟩:=G.open_ex 1 rfl
  obtain ⟨f,G⟩:=G.open_ex 1 rfl
  obtain ⟨hI,G⟩:=G.open_and 1 rfl
  obtain ⟨F,G⟩:=G.peel 1 2 V rfl
  obtain ⟨F,G⟩:=G.peel 1 3 V rfl
  obtain ⟨F,G⟩:=G.nM [5,4,1,0] [3,2,0]
  refine Za (Ya (Ze G (qR rr (qR rr (qR rr (qf (o_nilCheck 2 .is (by rfl)) r1 r1 (qf (oF 3 2 .adr) r1 r1 (qa 2 r1 r1 (qf (o_shl .t qi (by decide)) r1 qz (qf (Zhx qi .t) r1 qz (qf (Z4 (R:=Zk) (v:=0) (c:=_) (sz:=1) (bs:=8) (zs:=[.int .i64 0]) 101 YbA kr kr kr (fun _ _=>⟨⟨rfl,rfl,Znp⟩,tv⟩) .t .t (by rw [ZfQ ow];omega) (by rw [ZfQ ow];unfold growN;split <;> omega) (by rw [ZfQ ow];unfold growN;split <;> omega)) r2 qz (qf (o_nilCheck 2 .is (by rfl)) r1 r1 (qf (oF 1 2 .adr) r1 r1 (qf (o_storeS 2 .adr kr kr) r2 r1 (qf (o_nilCheck 2 .is (by rfl)) r1 r1 (qf (oF 2 2 .adr) r1 r1 (qf (ZaG 2 .adr qi one_int kr kr) r1 r1 qZ))))))))))))))) J [5,4,1,0] [101,3,2,0] (fun _=>rfl) (fun _=>rfl) fun τ a w F G=>?_))
  try dsimp only [RS.sub,SF.sub,CF.sub,csub,Anc.sub,List.map,Zh,xL,xM,Nat.reduceAdd,xD,xE,xT,xU,xC,xN,zCF,ldSF,Zk] at G
  generalize τ 29=v29 at G
  rw [ZfQ ow,Yb] at G
  refine Za (Zb G (qR rr (qf (o_nilCheck 2 .is (by rfl)) r1 r1 (qf (oF 1 2 .adr) r1 r1 (qa 2 r1 r1 (qR rr (qf (Zjg 101 YbA kr (by intro x;rfl) .t .t (by rw [YV];unfold growN;split <;> omega)) r2 r1 qZ)))))) J [4,1,0] [101,3,2,0] V V fun a w F G=>?_)
  obtain ⟨c2,hce⟩:∃ c2,c2=l++(List.replicate (growN l.length) (0:Int)).drop l.length:=⟨_,rfl⟩
  rw [← hce] at G
  have hcl2:c2.length=growN l.length:=by rw [hce,Yc,YJ,YV];omega
  have hc2:l.length<c2.length:=by rw [hcl2];exact hgl
  have ht2:c2.take l.length=l:=by rw [hce,List.take_left]
  rw [← hcl2] at hp2
  have hR:ZeA room c2 0 l:=ZeA.grow hr0 hr1 hfit (Nat.le_of_lt hc2) ht2 hp2
  have hP:=hR.put (x:=x) hrm hc2
  have hmi:(0+l.length) % c2.length<c2.length:=YaZ _ ow
  refine Za (Ya (Zp G (qR rr (qf (o_nilCheck 2 .is (by rfl)) r1 r1 (qf (oF 1 2 .adr) r1 r1 (qa 2 r1 r1 (qR rr (qR rr (qf (o_nilCheck 2 .is (by rfl)) r1 r1 (qf (oF 3 2 .adr) r1 r1 (qa 2 r1 r1 (qf (ZaU (cells:=[.pv _,.pv (.is v29),.pv _,.pv _]) 2 101 1 (Zbr c2 room l.length 0 l.length (l.length:Int) V hp2 ow ow) (fun _ _ _ _ _ h=>h) V func74 V kr V V (ZJ.two .is .t)) r2 r2 (qR rr (qf (o_indexAddr_row (sz:=1) 101 (.mk YbA kr) .is .t ow ow (by rfl)) r2 r1 (qf (Zt (R:=Zk) (sz:=1) (v:=x) 101 .t (by intro x;rfl) ow .t V one_int kr) r2 r1 qZ))))))))))))) J [4,0] [101,3,2,0] V V fun a w F G=>?_))
  try dsimp only [List.map,Zh,xL,xM,Nat.reduceAdd,xD,xE,xT,xU,xC,xN,zCF,ldSF,Zk] at G
  try simp only [Yb] at G
  try rw [Yb] at G
  refine Za (Ya (rZ G (qR rr (qf (o_nilCheck 2 .is (by rfl)) r1 r1 (qf (oF 3 2 .adr) r1 r1 (qa 2 r1 r1 (qp r1 (qf (o_nilCheck 2 .is (by rfl)) r1 r1 (qf (oF 3 2 .adr) r1 r1 (qf (ZaG 2 .adr .t one_int kr kr) r2 r1 qZ)))))))) J [4] [101,3,2,0] fun G=>Ya ?_))
  refine rZ G (qI qZ) J [4] [101,3,2,0] fun G=>Yl ?_
  rw [Zf ow] at G
  have G:=G.fresh 1 rfl
  obtain ⟨F,G⟩:=G.push 1 101 V V V kr
  obtain ⟨F,G⟩:=G.push 1 2 V V V kr
  have G:=G.turn 1 V (r':=RS.hp (rqH (.pointer (some ⟨b,0,none⟩)) room (l ++ [x]))) (fun _ _ _ _ h=>⟨_,_,0,hP,(by rw [Yc];exact h)⟩)
  refine Zy hG G V (.tmp V .nil) (.one .refl) rfl
 have hc2:l.length<c.length:=by simp at hc1;omega
 obtain ⟨c2,hce⟩:∃ c2,c2=c:=⟨_,rfl⟩
 rw [← hce] at G hc2
 have hR:ZeA room c2 f l:=by rw [hce];exact hI
 obtain ⟨hp2,hf2⟩:=hR.ring ow
 have hP:=hR.put (x:=x) hrm hc2
 have hmi:(f+l.length) % c2.length<c2.length:=YaZ _ ow
 refine Yg (Za (Ya (Zp G (qR rr (qf (o_nilCheck 2 .is (by rfl)) r1 r1 (qf (oF 1 2 .adr) r1 r1 (qa 2 r1 r1 (qR rr (qR rr (qf (o_nilCheck 2 .is (by rfl)) r1 r1 (qf (oF 3 2 .adr) r1 r1 (qa 2 r1 r1 (qf (ZaU (cells:=[.pv _,.pv (.is rv),.pv _,.pv _]) 2 3 1 (Zbr c2 room l.length f l.length (l.length:Int) V hp2 ow ow) (fun _ _ _ _ _ h=>h) V func74 V kr V V (ZJ.two .is .t)) r2 r2 (qR rr (qf (o_indexAddr_row (sz:=1) 3 (.mk YbA kr) .is .t ow ow (by rfl)) r2 r1 (qf (Zt (R:=Zk) (sz:=1) (v:=x) 3 .t (by intro x;rfl) ow .t V one_int kr) r2 r1 qZ))))))))))))) J [4,0] [3,2,0] V V fun a w F G=>?_)))
 try dsimp only [List.map,Zh,xL,xM,Nat.reduceAdd,xD,xE,xT,xU,xC,xN,zCF,ldSF,Zk] at G
 try simp only [Yb] at G
 try rw [Yb] at G
 refine Za (Ya (rZ G (qR rr (qf (o_nilCheck 2 .is (by rfl)) r1 r1 (qf (oF 3 2 .adr) r1 r1 (qa 2 r1 r1 (qp r1 (qf (o_nilCheck 2 .is (by rfl)) r1 r1 (qf (oF 3 2 .adr) r1 r1 (qf (ZaG 2 .adr .t one_int kr kr) r2 r1 qZ)))))))) J [4] [3,2,0] fun G=>Ya ?_))
 refine rZ G (qI qZ) J [4] [3,2,0] fun G=>Yl ?_
 rw [Zf ow] at G
 have G:=G.fresh 1 rfl
 obtain ⟨F,G⟩:=G.push 1 3 V V V kr
 obtain ⟨F,G⟩:=G.push 1 2 V V V kr
 have G:=G.turn 1 V (r':=RS.hp (rqH (.pointer (some ⟨b,0,none⟩)) room (l ++ [x]))) (fun _ _ _ _ h=>⟨_,_,f,hP,(by rw [Yc];exact h)⟩)
 refine Zy hG G V (.tmp V .nil) (.one .refl) rfl
end Go.Proofs.YtlaaiihdhockcaaGreatDoor
