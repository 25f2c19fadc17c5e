/- Texts put together. No condition beyond those that each theorem says. -/
import Derived.Test.YtlkpllemoepamaaGreatJ11
import Derived.Test.YtlkpllemoepamaaGreatJ5
import Derived.Test.YtlkpllemoepamaaGreatJ7
import Derived.Test.YtlkpllemoepamaaGreatJ0
namespace Go.Proofs.YtlkpllemoepamaaGreat
open Go Go.Gm Tryz
set_option linter.unusedVariables false
set_option linter.unusedSimpArgs false
set_option maxHeartbeats 4000000
set_option maxRecDepth 8000
theorem TI.adjLe {n:Nat} {adj:Int→List Int} {q:Zbm} {way:Zme} (h:TI n adj q way) {r:Int×List Int} (hr:r ∈ way):∀ y ∈ r.2,y ∈ adj r.1:=h.tj.sub r (Yal.2 hr)
theorem Zu7 (b : Nat) (n : Nat) (adj : Int → List Int) (f : FuncId) (fn : Func) (cps : List PV) (hf : prog.funcs[f]? = some fn) (hb : fn.body.isSome = true) (hnn : (fn.name == "runtime.NumGoroutine") = false) (hw : ∀ u, 0 ≤ u ∧ u < (n : Int) → FnP prog f ([.int .i64 u] ++ cps) (.sl rInt (adj u))) (hadj : ∀ u y, y ∈ adj u → 0 ≤ y ∧ y < (n : Int)) (hal : ∀ u, (adj u).length ≤ 4096) (sd : Zbm) (x : Int) (hx1 : 0 ≤ x) (hx2 : x < n) (hn : n ≤ 4096) (hI : TI n adj sd []) (h0 : fI sd.wh x = 0) : FnG prog 163 1 [.is (.pointer (some ⟨b, 0, none⟩)), .int .i64 x] [Zcj (.clos f cps) n sd (.pointer (some ⟨b, 0, none⟩))] (.tup []) (fun _ => [.ex fun t : Zbm => .and (TI n adj t [] ∧ fI t.wh x ≠ 0 ∧ ∀ y, fI sd.wh y ≠ 0 → fI t.wh y ≠ 0) (Zcj (.clos f cps) n t (.pointer (some ⟨b, 0, none⟩)))]) := by
 refine FnG.mk func163 rfl ntmps163 rfl kr fun B F0 a w F V hG G=>Ya ?_
 refine Zb G (qR rr (qR rr (qf (ZJ 1 (ZsA b n adj f fn cps hf hb hnn hw sd x hx1 hx2 hn hI.lw hI.ll hI.ckLe (hI.waitLt ⟨hx1,hx2⟩ h0)) func200 rfl kr (Args.two .t .t)) r2 r1 (qf (Zl8 (R:=ZiX) (l:=[(x,adj x)]) (sz:=2) (zs:=[.int .i64 0,.slice none 0 0]) (r:=[(0,.tmp 11)]) 101 underlying278 kr kr kr kr rfl rfl (.agg rfl (.conv .t .agg) kr kr .nil) rfl rfl (by intro x;rfl)) r1 qz (qO rr qZ))))) V [4,0] [101,1,0] (fun _=>rfl) (fun _=>rfl) fun τ a w F G=>?_
 try dsimp only [RS.sub,SF.sub,CF.sub,csub,Anc.sub,List.map,Ze,xL,xM,Nat.reduceAdd,xD,xE,xT,xU,xC,xN,zCF,rInt,Zfk,ZiX] at G
 generalize τ 12=v12 at G
 refine Za (Yg (Zl (σ:=Zbm×Zme×Value) [0] [0] (fun s=>[(4,.pv (.is s.2.2))]) (fun s=>[(1,RS.hp (Zcj (.clos f cps) n s.1 (.pointer (some ⟨b,0,none⟩)))),(101,.ob (.val s.2.2) (ZA 276 2 ZiX s.2.1))]) (fun s=>FrI n adj sd.wh x s.1 s.2.1) (fun s=>muF n adj s.1 s.2.1) ((Zbs n sd x),([(x,adj x)]),(v12)) G ⟨rfl,rfl,tv⟩ ⟨rfl,rfl,rfl,tv⟩ (FrI.start ⟨hx1,hx2⟩ hI h0) ?_))
 clear G;intro s a w F hC G
 obtain ⟨q,way,wv2⟩:=s
 try dsimp only at hC
 obtain ⟨F,G⟩:=G.nM [4,0] [101,1,0]
 try dsimp only at G
 have hFr:FrI n adj sd.wh x q way:=hC
 refine Ya (Ya (rZ G (qR rr (qf (Z1 101 underlying278 .is) r1 r1 (qf (ZaU .t qi) r1 qz qZ))) V [15,4,0] [101,1,0] fun G=>?_))
 refine Zc G rfl (fun hc0=>?_) (fun hc0=>?_)
 ·skip
  obtain ⟨wy,⟨vd,nx⟩,rfl⟩:=Zo4 (l:=way) (by intro e;subst e;simp at hc0)
  have hI2:=hFr.1
  have hvn:=hI2.nodes (vd,nx) (by simp)
  have hwl:=hI2.wayLen
  rw [Yd,YK] at hwl
  have hw1:IntKind.wrap .i64 (((wy ++ [(vd,nx)]).length:Int) - 1)=((wy.length:Nat):Int):=by rw [Zy (by rw [Yd,YK];omega),Yd,YK];omega
  refine Ye (Za (Yg (Ya (Zf G (qR rr (qR rr (qf (Z1 101 underlying278 .is) r1 r1 (qf (o_sub .t qi) r1 qz (qf (o_indexAddr_row (sz:=2) 101 (.mk underlying278 kr) .is .t (by rw [hw1];omega) (by rw [hw1,Yd,YK];omega) (by rfl)) r2 r1 (qO rr qZ)))))) V [5,4,0] [101,1,0] rfl rfl fun a w F G=>?_))))
  try simp only [Yb] at G
  rw [hw1,Yb] at G
  refine Za (Ya (Ya (Zf G (qR rr (qf (o_nilCheck_row0 (sz:=2) 101 .t (by intro x;rfl) (by simp)) r1 r1 (qf (o_fieldAddr_row (off:=1) (sz:=2) 101 .t (by simp) kr (by rfl)) r1 r1 (qf (ZaM (ag:=false) (sz':=1) (sz:=2) 101 .t (by intro x;rfl) (by simp) kr kr kr) r1 r1 (qu underlying45 r1 (qf (o_eql .t qi) r1 qz qZ)))))) V [26,5,4,0] [101,1,0] rfl rfl fun a w F G=>?_)))
  rw [nth_last] at G
  try dsimp only at G
  refine Za (Zc G rfl (fun hc1=>?_) (fun hc1=>?_))
  ·skip
   have hnx:nx = []:=by simpa using hc1
   subst hnx
   refine Ya (Zad 5 G kr (cG rfl (oM .t) r1 trivial (cG rfl (oM .t) r1 trivial (cG rfl (o_nilCheck_row0 (sz:=2) 101 .t (by intro x;rfl) (by simp)) r1 r1 (cG rfl (o_fieldAddr_row (off:=0) (sz:=2) 101 .t (by simp) kr (by rfl)) r1 r1 (cG rfl (ZaM (ag:=false) (sz':=1) (sz:=2) 101 .t (by intro x;rfl) (by simp) kr kr kr) r1 r1 ChainN.nil))))) kr (by rw [V];kernel_rfl) fun a w F G=>?_)
   obtain ⟨F,G⟩:=G.nM [31,27,5,4,0] [101,1,0]
   try dsimp only [List.map,xD,xE,xT,xU,ldSF,rInt,Zfk,ZiX] at G
   rw [nth_last] at G
   try dsimp only at G
   refine Zax G kr (cG rfl (ZJ 1 (Ztc b cps f n q vd hvn.1 hI2.rng hn hI2.lw hI2.ll hI2.lout hI2.waitLe) func201 rfl kr (Args.two .t .t)) r2 r1 ChainN.nil) kr (by rw [V];kernel_rfl) fun a w F G=>?_
   obtain ⟨F,G⟩:=G.nM [5,4,0] [101,1,0]
   try dsimp only [rInt,Zfk,ZiX] at G
   refine Za (Ya (Zf G (qR rr (qf (o_nilCheck_row0 (sz:=2) 101 .t (by intro x;rfl) (by simp)) r1 r1 (qf (o_fieldAddr_row (off:=0) (sz:=2) 101 .t (by simp) kr (by rfl)) r1 r1 (qf (ZaM (ag:=false) (sz':=1) (sz:=2) 101 .t (by intro x;rfl) (by simp) kr kr kr) r1 r1 (qO rr qZ))))) V [6,5,4,0] [101,1,0] rfl rfl fun a w F G=>?_))
   rw [nth_last] at G
   try dsimp only at G
   refine Za (Ya (Zb G (qR rr (qR rr (qf (Z1 101 underlying278 .is) r1 r1 (qf (o_sub .t qi) r1 qz (qf (ZcV (sz:=2) 101 (.mk underlying278 kr) (by intro x;rfl) .is .t (by rw [hw1];omega) (by rw [hw1,Yd,YK];omega)) r2 r1 (qO rr qZ)))))) V [6,5,4,0] [101,1,0] (fun _=>rfl) (fun _=>rfl) fun τ a w F G=>?_))
   try dsimp only [RS.sub,SF.sub,CF.sub,csub,Anc.sub,List.map,rInt,Zfk,ZiX] at G
   generalize τ 41=v41 at G
   rw [hw1,Yb,List.take_left] at G
   refine Za (Ya (Ya (rZ G (qR rr (qf (Z1 101 underlying278 .is) r1 r1 (qf (ZaU .t qi) r1 qz qZ))) V [44,6,5,4,0] [101,1,0] fun G=>?_)))
   refine Zc G rfl (fun hc2=>?_) (fun hc2=>?_)
   ·skip
    obtain ⟨wy2,⟨u,nu⟩,rfl⟩:=Zo4 (l:=wy) (by intro e;subst e;simp at hc2)
    have hun:=hI2.nodes (u,nu) (by simp)
    rw [Yd,YK] at hwl
    have hw2:IntKind.wrap .i64 (((wy2 ++ [(u,nu)]).length:Int) - 1)=((wy2.length:Nat):Int):=by rw [Zy (by rw [Yd,YK];omega),Yd,YK];omega
    have hlo2:(leaveD n q vd).lo=q.lo:=(Zfs n q vd).2
    have hl2:(leaveD n q vd).lo.length=n:=by rw [hlo2];exact hI2.ll
    refine Ya (Zf G (qR rr (qR rr (qf (Z1 101 underlying278 .is) r1 r1 (qf (o_sub .t qi) r1 qz (qf (o_indexAddr_row (sz:=2) 101 (.mk underlying278 kr) .is .t (by rw [hw2];omega) (by rw [hw2,Yd,YK];omega) (by rfl)) r2 r1 (qf (o_fieldAddr_row (off:=0) (sz:=2) 101 .t (by rw [hw2];simp) kr (by rfl)) r1 r1 (qf (ZaM (ag:=false) (sz':=1) (sz:=2) 101 .t (by intro x;rfl) (by rw [hw2];simp) kr kr kr) r1 r1 (qO rr qZ)))))))) V [7,6,5,4,0] [101,1,0] rfl rfl fun a w F G=>?_)
    try simp only [Yb] at G
    rw [hw2,Yb,nth_last] at G
    try dsimp only at G
    refine Za ?_
    obtain ⟨wv,G⟩:=G.open_ex 1 rfl
    obtain ⟨lv,G⟩:=G.open_ex 1 rfl
    obtain ⟨sv,G⟩:=G.open_ex 1 rfl
    obtain ⟨iv,G⟩:=G.open_ex 1 rfl
    obtain ⟨ov,G⟩:=G.open_ex 1 rfl
    obtain ⟨F,G⟩:=G.peel 1 2 rfl rfl
    obtain ⟨F,G⟩:=G.peel 1 3 rfl rfl
    obtain ⟨F,G⟩:=G.peel 1 4 rfl rfl
    obtain ⟨F,G⟩:=G.peel 1 5 rfl rfl
    obtain ⟨F,G⟩:=G.peel 1 6 rfl rfl
    obtain ⟨F,G⟩:=G.peel 1 7 rfl rfl
    replace G:=G.turn 5 rfl (r':=.ob (.val sv) (fun v=>stH v n (leaveD n q vd).wait)) (fun _ _ _ _ h=>h)
    obtain ⟨_,_,_,ho⟩:=G.obGet 5 rfl
    obtain ⟨sb,rfl⟩:=Zeg ho
    clear ho
    replace G:=G.turn 6 rfl (r':=.ob (.val iv) (ZgN n (leaveD n q vd).inn)) (fun _ _ _ _ h=>h)
    obtain ⟨_,_,_,ho⟩:=G.obGet 6 rfl
    obtain ⟨ib,rfl⟩:=Zc3 ho
    clear ho
    replace G:=G.turn 5 rfl (r':=RS.hp (stH (.pointer (some ⟨sb,0,none⟩)) n (leaveD n q vd).wait)) (fun _ _ _ _ h=>h)
    replace G:=G.turn 6 rfl (r':=RS.hp (ZgN n (leaveD n q vd).inn (.pointer (some ⟨ib,0,none⟩)))) (fun _ _ _ _ h=>h)
    obtain ⟨F,G⟩:=G.nM [7,6,5,4,0] [101,7,6,5,4,3,2,0]
    refine Zx G (qR rr (qf (o_nilCheck 2 .is (by rfl)) r1 r1 (qf (oF 2 2 .adr) r1 r1 (qa 2 r1 r1 (qR rr (qR rr (qf (o_nilCheck 2 .is (by rfl)) r1 r1 (qf (oF 2 2 .adr) r1 r1 (qa 2 r1 r1 (qR rr (qf (o_indexAddr_row (sz:=1) 4 (.mk underlying226 kr) .is .t ow ow (by rfl)) r2 r1 (qf (Zv (ag:=false) (sz':=1) (sz:=1) 4 .t (by intro x;rfl) ow kr kr kr) r1 r1 (qR rr (qf (o_nilCheck 2 .is (by rfl)) r1 r1 (qf (oF 2 2 .adr) r1 r1 (qa 2 r1 r1 (qR rr (qf (o_indexAddr_row (sz:=1) 4 (.mk underlying226 kr) .is .t ow ow (by rfl)) r2 r1 (qf (Zv (ag:=false) (sz':=1) (sz:=1) 4 .t (by intro x;rfl) ow kr kr kr) r1 r1 (qf (o_min .t .t) r2 qz (qf (o_indexAddr_row (sz:=1) 4 (.mk underlying226 kr) .is .t ow ow (by rfl)) r2 r1 (qf (ZF (R:=Zfk) (sz:=1) (v:=_) 4 .t (by intro x;rfl) ow .t rfl one_int kr) r2 r1 qZ)))))))))))))))))))))) V [5,4,0] [101,7,6,5,4,3,2,0] rfl rfl fun a w F G=>?_
    try dsimp only [List.map,Ze,xL,xM,Nat.reduceAdd,xD,xE,xT,xU,xC,xN,zCF,ldSF,rInt,Zfk,ZiX] at G
    try simp only [Yb] at G
    rw [show (if Nn (leaveD n q vd).lo vd.toNat<Nn (leaveD n q vd).lo u.toNat then Nn (leaveD n q vd).lo vd.toNat else Nn (leaveD n q vd).lo u.toNat)=min (fI q.lo u) (fI q.lo vd) by rw [hlo2,Zsh,← ZaJ hun.2.1,← ZaJ hvn.2.1]] at G
    refine Za (Yw (Zi (Zn (Za ?_))))
    have G:=G.fresh 1 rfl
    obtain ⟨F,G⟩:=G.push 1 7 rfl rfl rfl kr
    obtain ⟨F,G⟩:=G.push 1 6 rfl rfl rfl kr
    obtain ⟨F,G⟩:=G.push 1 5 rfl rfl rfl kr
    obtain ⟨F,G⟩:=G.push 1 4 rfl rfl rfl kr
    obtain ⟨F,G⟩:=G.push 1 3 rfl rfl rfl kr
    obtain ⟨F,G⟩:=G.push 1 2 rfl rfl rfl kr
    have G:=G.turn 1 rfl (r':=RS.hp (Zcj (.clos f cps) n ({ leaveD n q vd with lo:=(leaveD n q vd).lo.set u.toNat (min (fI q.lo u) (fI q.lo vd)) }) (.pointer (some ⟨b,0,none⟩)))) (fun _ _ _ _ h=>⟨_,_,_,_,_,h⟩)
    obtain ⟨hE1,hE2⟩:=hFr.left
    obtain ⟨F,G⟩:=G.nM [0,4] [0,101,1]
    exact ⟨(({ leaveD n q vd with lo:=(leaveD n q vd).lo.set u.toNat (min (fI q.lo u) (fI q.lo vd)) }),(wy2 ++ [(u,nu)]),_),F,hE1,G,hE2⟩
   have hwe:wy = []:=by cases wy with | nil=>rfl | cons r l=>simp at hc2
   subst hwe
   refine Ye (Za (Yw (Zi (Zn (Za ?_)))))
   obtain ⟨hE1,hE2⟩:=FrI.root hFr
   obtain ⟨F,G⟩:=G.nM [0,4] [0,101,1]
   exact ⟨((leaveD n q vd),([]),_),F,hE1,G,hE2⟩
  obtain ⟨y,nx,rfl⟩:∃ y l,nx=y :: l:=List.exists_cons_of_ne_nil (by intro e;subst e;simp at hc1)
  have hy:=hadj vd y (hI2.tj.sub (vd,y :: nx) (by simp) y (by simp))
  have hnl:=hI2.adjLe (r:=(vd,y :: nx)) (by simp)
  refine Ye (Za (Ya (Zf G (qR rr (qf (o_nilCheck_row0 (sz:=2) 101 .t (by intro x;rfl) (by simp)) r1 r1 (qf (o_fieldAddr_row (off:=1) (sz:=2) 101 .t (by simp) kr (by rfl)) r1 r1 (qf (ZaM (ag:=false) (sz':=1) (sz:=2) 101 .t (by intro x;rfl) (by simp) kr kr kr) r1 r1 (qf (o_indexAddr_sl (sz:=1) (.mk underlying45 kr) (by intro x;rfl) .t qi ow (by rw [nth_last];simp)) r1 qz (qf (oR false 1 .t) r1 qz (qO rr qZ))))))) V [8,5,4,0] [101,1,0] rfl rfl fun a w F G=>?_)))
  try simp only [Yb] at G
  try rw [show (0:Int).toNat=0 from rfl] at G
  rw [nth_last] at G
  try dsimp only at G
  rw [Zqm] at G
  refine Za (Ya (Zad 6 G kr (cG rfl (oM .t) r1 trivial (cG rfl (oM .t) r1 trivial (cG rfl (o_nilCheck_row0 (sz:=2) 101 .t (by intro x;rfl) (by simp)) r1 r1 (cG rfl (o_fieldAddr_row (off:=1) (sz:=2) 101 .t (by simp) kr (by rfl)) r1 r1 (cG rfl (ZaM (ag:=false) (sz':=1) (sz:=2) 101 .t (by intro x;rfl) (by simp) kr kr kr) r1 r1 (cG rfl (o_slice_lo (sz:=1) (.mk underlying45 kr) (by intro x;rfl) .t (.ci kr) ow (by rw [nth_last];simp;omega)) r1 trivial ChainN.nil)))))) kr (by rw [V];kernel_rfl) fun a w F G=>?_))
  obtain ⟨F,G⟩:=G.nM [84,79,8,5,4,0] [101,1,0]
  try dsimp only [List.map,xD,xE,xT,xU,ldSF,rInt,Zfk,ZiX] at G
  replace G:=G.ent (i:=84) (s':=.pv (.sl rInt nx)) rfl (.sl (by rw [nth_last];rfl))
  refine Zax G kr (cG rfl (o_nilCheck_row0 (sz:=2) 101 .t (by intro x;rfl) (by simp)) r1 r1 (cG rfl (o_fieldAddr_row (off:=1) (sz:=2) 101 .t (by simp) kr (by rfl)) r1 r1 (cG rfl (Zev (R:=ZiX) (sz:=2) (off:=1) (v':=(vd,nx)) 101 .t (by intro x;rfl) (by simp) (by decide) .t one_sl (by rw [nth_last];rfl) kr) r2 r1 ChainN.nil))) kr (by rw [V];kernel_rfl) fun a w F G=>?_
  obtain ⟨F,G⟩:=G.nM [8,5,4,0] [101,1,0]
  try dsimp only [List.map,Ze,xL,xM,Nat.reduceAdd,xD,xE,xT,xU,xC,xN,zCF,rInt,Zfk,ZiX] at G
  rw [Zqj] at G
  refine Za (Yg (Ya ?_))
  obtain ⟨wv,G⟩:=G.open_ex 1 rfl
  obtain ⟨lv,G⟩:=G.open_ex 1 rfl
  obtain ⟨sv,G⟩:=G.open_ex 1 rfl
  obtain ⟨iv,G⟩:=G.open_ex 1 rfl
  obtain ⟨ov,G⟩:=G.open_ex 1 rfl
  obtain ⟨F,G⟩:=G.peel 1 2 rfl rfl
  obtain ⟨F,G⟩:=G.peel 1 3 rfl rfl
  obtain ⟨F,G⟩:=G.peel 1 4 rfl rfl
  obtain ⟨F,G⟩:=G.peel 1 5 rfl rfl
  obtain ⟨F,G⟩:=G.peel 1 6 rfl rfl
  obtain ⟨F,G⟩:=G.peel 1 7 rfl rfl
  replace G:=G.turn 5 rfl (r':=.ob (.val sv) (fun v=>stH v n q.wait)) (fun _ _ _ _ h=>h)
  obtain ⟨_,_,_,ho⟩:=G.obGet 5 rfl
  obtain ⟨sb,rfl⟩:=Zeg ho
  clear ho
  replace G:=G.turn 6 rfl (r':=.ob (.val iv) (ZgN n q.inn)) (fun _ _ _ _ h=>h)
  obtain ⟨_,_,_,ho⟩:=G.obGet 6 rfl
  obtain ⟨ib,rfl⟩:=Zc3 ho
  clear ho
  replace G:=G.turn 5 rfl (r':=RS.hp (stH (.pointer (some ⟨sb,0,none⟩)) n q.wait)) (fun _ _ _ _ h=>h)
  replace G:=G.turn 6 rfl (r':=RS.hp (ZgN n q.inn (.pointer (some ⟨ib,0,none⟩)))) (fun _ _ _ _ h=>h)
  obtain ⟨F,G⟩:=G.nM [8,5,4,0] [101,7,6,5,4,3,2,0]
  refine Zf G (qR rr (qf (o_nilCheck 2 .is (by rfl)) r1 r1 (qf (oF 1 2 .adr) r1 r1 (qa 2 r1 r1 (qR rr (qf (o_indexAddr_row (sz:=1) 3 (.mk underlying226 kr) .is .t ow (by rw [hI2.lw];omega) (by rfl)) r2 r1 (qf (Zv (ag:=false) (sz':=1) (sz:=1) 3 .t (by intro x;rfl) (by rw [hI2.lw];omega) kr kr kr) r1 r1 (qf (o_eql .t qi) r1 qz (qO rr qZ))))))))) V [87,8,5,4,0] [101,7,6,5,4,3,2,0] rfl rfl fun a w F G=>?_
  try simp only [Yb] at G
  refine Za (Zc G rfl (fun hc3=>?_) (fun hc3=>?_))
  ·skip
   have h00:fI q.wh y=0:=by rw [ZaJ hy.1];simpa using hc3
   have G:=G.fresh 1 rfl
   obtain ⟨F,G⟩:=G.push 1 7 rfl rfl rfl kr
   obtain ⟨F,G⟩:=G.push 1 6 rfl rfl rfl kr
   obtain ⟨F,G⟩:=G.push 1 5 rfl rfl rfl kr
   obtain ⟨F,G⟩:=G.push 1 4 rfl rfl rfl kr
   obtain ⟨F,G⟩:=G.push 1 3 rfl rfl rfl kr
   obtain ⟨F,G⟩:=G.push 1 2 rfl rfl rfl kr
   have G:=G.turn 1 rfl (r':=RS.hp (Zcj (.clos f cps) n q (.pointer (some ⟨b,0,none⟩)))) (fun _ _ _ _ h=>⟨_,_,_,_,_,h⟩)
   obtain ⟨F,G⟩:=G.nM [87,8,5,4,0] [101,1,0]
   refine Zb G (qR rr (qR rr (qR rr (qf (ZJ 1 (ZsA b n adj f fn cps hf hb hnn hw q y hy.1 hy.2 hn hI2.lw hI2.ll hI2.ckLe (hI2.waitLt hy h00)) func200 rfl kr (Args.two .t .t)) r2 r1 (qf (o_buildSliceE (sz:=2) (zs:=[.int .i64 0,.slice none 0 0]) (r:=[(0,.tmp 99)]) (l:=[_,_]) underlying278 kr kr kr kr rfl rfl (.agg rfl (.conv .t .agg) kr kr .nil) rfl) r1 qz (qf (ZW (sz:=2) (bs:=32) 101 (.mk' underlying278 kr kr) (by intro x;rfl) .is (.arr (l':=[(y,adj y)]) .t) (by simp only [Yd,Yl,Yy];omega) (by decide)) ⟨rfl,rfl,tv⟩ ⟨rfl,tv⟩ (qO rr qZ))))))) V [4,0] [101,1,0] (fun _=>rfl) (fun _=>rfl) fun τ a w F G=>?_
   try dsimp only [RS.sub,SF.sub,CF.sub,csub,Anc.sub,List.map,Ze,xL,xM,Nat.reduceAdd,xD,xE,xT,xU,xC,xN,zCF,rInt,Zfk,ZiX] at G
   generalize τ 101=v101 at G
   refine Zj (Zj (Za ?_))
   obtain ⟨hE1,hE2⟩:=hFr.meet hadj h00
   obtain ⟨F,G⟩:=G.nM [0,4] [0,101,1]
   exact ⟨((Zbs n q y),(wy ++ [(vd,nx)] ++ [(y,adj y)]),_),F,hE1,G,hE2⟩
  have h00:fI q.wh y≠0:=by rw [ZaJ hy.1];simpa using hc3
  refine Ya (rZ G (qR rr (qf (o_nilCheck 2 .is (by rfl)) r1 r1 (qf (oF 4 2 .adr) r1 r1 (qa 2 r1 r1 (qR rr (qf (OpC.lend 6 [106] Zqg (oP (ZrM n q.inn y) func202 (Args.two .t .t)) ⟨rfl,tv,tv⟩ (.pv (fun _ _ _ _ h=>h)) trivial (by rfl)) r2 r1 (qO rr qZ))))))) V [102,8,5,4,0] [101,7,6,5,4,3,2,0] fun G=>?_)
  refine Zc G rfl (fun hc4=>?_) (fun hc4=>?_)
  ·skip
   have hyq:y ∈ q.inn:=by simpa using hc4
   refine Zx G (qR rr (qf (o_nilCheck 2 .is (by rfl)) r1 r1 (qf (oF 2 2 .adr) r1 r1 (qa 2 r1 r1 (qR rr (qf (o_nilCheck_row0 (sz:=2) 101 .t (by intro x;rfl) (by simp)) r1 r1 (qf (o_fieldAddr_row (off:=0) (sz:=2) 101 .t (by simp) kr (by rfl)) r1 r1 (qf (ZaM (ag:=false) (sz':=1) (sz:=2) 101 .t (by intro x;rfl) (by simp) kr kr kr) r1 r1 (qR rr (qf (o_nilCheck 2 .is (by rfl)) r1 r1 (qf (oF 2 2 .adr) r1 r1 (qa 2 r1 r1 (qR rr (qf (o_nilCheck_row0 (sz:=2) 101 .t (by intro x;rfl) (by simp)) r1 r1 (qf (o_fieldAddr_row (off:=0) (sz:=2) 101 .t (by simp) kr (by rfl)) r1 r1 (qf (ZaM (ag:=false) (sz':=1) (sz:=2) 101 .t (by intro x;rfl) (by simp) kr kr kr) r1 r1 (qf (o_indexAddr_row (sz:=1) 4 (.mk underlying226 kr) .is .t (by rw [nth_last];exact hvn.2.1) (by rw [nth_last,hI2.ll];exact hvn.2.2) (by rfl)) r2 r1 (qf (Zv (ag:=false) (sz':=1) (sz:=1) 4 .t (by intro x;rfl) (by rw [nth_last,hI2.ll];have:=hvn.2;omega) kr kr kr) r1 r1 (qR rr (qf (o_nilCheck 2 .is (by rfl)) r1 r1 (qf (oF 1 2 .adr) r1 r1 (qa 2 r1 r1 (qR rr (qf (o_indexAddr_row (sz:=1) 3 (.mk underlying226 kr) .is .t ow (by rw [hI2.lw];omega) (by rfl)) r2 r1 (qf (Zv (ag:=false) (sz':=1) (sz:=1) 3 .t (by intro x;rfl) (by rw [hI2.lw];omega) kr kr kr) r1 r1 (qf (o_min .t .t) r2 qz (qf (o_indexAddr_row (sz:=1) 4 (.mk underlying226 kr) .is .t (by rw [nth_last];exact hvn.2.1) (by rw [nth_last,hI2.ll];exact hvn.2.2) (by rfl)) r2 r1 (qf (ZF (R:=Zfk) (sz:=1) (v:=_) 4 .t (by intro x;rfl) (by rw [nth_last,hI2.ll];have:=hvn.2;omega) .t rfl one_int kr) r2 r1 qZ)))))))))))))))))))))))))))) V [4,0] [101,7,6,5,4,3,2,0] rfl rfl fun a w F G=>?_
   try dsimp only [List.map,Ze,xL,xM,Nat.reduceAdd,xD,xE,xT,xU,xC,xN,zCF,ldSF,rInt,Zfk,ZiX] at G
   try simp only [Yb] at G
   rw [nth_last] at G
   try dsimp only at G
   rw [show (if Nn q.wh y.toNat<Nn q.lo vd.toNat then Nn q.wh y.toNat else Nn q.lo vd.toNat)=min (fI q.lo vd) (fI q.wh y) by rw [Zsh,← ZaJ hy.1,← ZaJ hvn.2.1]] at G
   refine Zj (Zj (Za ?_))
   have G:=G.fresh 1 rfl
   obtain ⟨F,G⟩:=G.push 1 7 rfl rfl rfl kr
   obtain ⟨F,G⟩:=G.push 1 6 rfl rfl rfl kr
   obtain ⟨F,G⟩:=G.push 1 5 rfl rfl rfl kr
   obtain ⟨F,G⟩:=G.push 1 4 rfl rfl rfl kr
   obtain ⟨F,G⟩:=G.push 1 3 rfl rfl rfl kr
   obtain ⟨F,G⟩:=G.push 1 2 rfl rfl rfl kr
   have G:=G.turn 1 rfl (r':=RS.hp (Zcj (.clos f cps) n ({ q with lo:=q.lo.set vd.toNat (min (fI q.lo vd) (fI q.wh y)) }) (.pointer (some ⟨b,0,none⟩)))) (fun _ _ _ _ h=>⟨_,_,_,_,_,h⟩)
   obtain ⟨hE1,hE2⟩:=hFr.wait hyq
   obtain ⟨F,G⟩:=G.nM [0,4] [0,101,1]
   exact ⟨(({ q with lo:=q.lo.set vd.toNat (min (fI q.lo vd) (fI q.wh y)) }),(wy ++ [(vd,nx)]),_),F,hE1,G,hE2⟩
  have hyq:y ∉ q.inn:=by simpa using hc4
  refine Ye (Zj (Zj (Za ?_)))
  have G:=G.fresh 1 rfl
  obtain ⟨F,G⟩:=G.push 1 7 rfl rfl rfl kr
  obtain ⟨F,G⟩:=G.push 1 6 rfl rfl rfl kr
  obtain ⟨F,G⟩:=G.push 1 5 rfl rfl rfl kr
  obtain ⟨F,G⟩:=G.push 1 4 rfl rfl rfl kr
  obtain ⟨F,G⟩:=G.push 1 3 rfl rfl rfl kr
  obtain ⟨F,G⟩:=G.push 1 2 rfl rfl rfl kr
  have G:=G.turn 1 rfl (r':=RS.hp (Zcj (.clos f cps) n q (.pointer (some ⟨b,0,none⟩)))) (fun _ _ _ _ h=>⟨_,_,_,_,_,h⟩)
  obtain ⟨hE1,hE2⟩:=hFr.past h00 hyq
  obtain ⟨F,G⟩:=G.nM [0,4] [0,101,1]
  exact ⟨((q),(wy ++ [(vd,nx)]),_),F,hE1,G,hE2⟩
 have hwe:way = []:=by cases way with | nil=>rfl | cons r l=>simp at hc0
 subst hwe
 refine Yw (Zi (Zi (Zn ?_)))
 have G:=G.turn 1 rfl (r':=RS.hp (.ex fun t:Zbm=>.and (TI n adj t []∧fI t.wh x≠0 ∧ ∀ y,fI sd.wh y≠0→fI t.wh y≠0) (Zcj (.clos f cps) n t (.pointer (some ⟨b,0,none⟩))))) (fun _ _ _ _ h=>⟨q,hFr,h⟩)
 refine Zac hG G rfl .nil .none rfl
def EQ_ (q:List Zod) (a b:Int):Prop:=(⟨a,b⟩:Zod) ∈ q
def ZaP (N:List Int) (x:Int):List Int:=if x ∈ N then N else N ++ [x]
def Zdc (N:List Int) (e:Zg):List Int:=ZaP (ZaP N e.src) e.dst
def ZH (l:List Zg):List Int:=l.foldl Zdc []
theorem Zqp (N:List Int) (x:Int):x ∈ ZaP N x:=by
 unfold ZaP;split
 ·assumption
 ·simp
theorem Zix {N:List Int} {x y:Int} : y ∈ ZaP N x ↔ y ∈ N∨y=x:=by
 unfold ZaP;split
 ·rename_i h
  exact ⟨.inl,fun h2=>h2.elim id fun e=>e ▸ h⟩
 ·simp
theorem nodeP_nodup {N:List Int} {x:Int} (h:N.Nodup):(ZaP N x).Nodup:=by
 unfold ZaP;split
 ·exact h
 ·rename_i hx
  exact YbM.2 ⟨h,by simp,fun a ha b hb e=>hx (by rw [Yk.1 hb] at e;exact e ▸ ha)⟩
theorem Zfi (N:List Int) (x:Int):N.length≤(ZaP N x).length∧(ZaP N x).length≤N.length+1:=by
 unfold ZaP;split
 ·omega
 ·simp
theorem ZeO {v:Int} {l m:List Int} (h:v ∈ l):ZZ v (l++m)=ZZ v l:=by
 induction l with
 | nil=>cases h
 | cons x l ih=>
  rw [Yah]
  by_cases hx:x=v
  ·rw [ZZ,Yf hx,ZZ,Yf hx]
  ·have hm:v ∈ l:=(Yi.1 h).resolve_left fun e=>hx e.symm
   rw [ZZ,Yc hx,ZZ,Yc hx,ih hm]
theorem Zkw {v:Int} {l:List Int} (h:v ∉ l):ZZ v (l ++ [v])=l.length:=by
 induction l with
 | nil=>simp [ZZ]
 | cons x l ih=>
  have hx:x≠v:=fun e=>h (e ▸ YaH)
  have:=ih fun h2=>h (YB _ h2)
  rw [Yah,ZZ,Yc hx,this,Yc ow]
  simp
theorem ZoM {N:List Int} {x y:Int} (h:y ∈ N):ZZ y (ZaP N x)=ZZ y N:=by
 unfold ZaP;split
 ·rfl
 ·exact ZeO h
theorem ZiK {N:List Int} {x:Int} (h:x ∈ N):0≤ZZ x N∧ZZ x N<N.length:=by
 obtain ⟨i,h1,h2,_⟩:=ZcA h
 omega
theorem ZhI {N:List Int} {x y:Int} (hx:x ∈ N) (hy:y ∈ N) (h:ZZ x N=ZZ y N):x=y:=by
 obtain ⟨i,h1,h2,h3,_⟩:=ZcA hx
 obtain ⟨j,k1,k2,k3,_⟩:=ZcA hy
 have:i=j:=by omega
 subst this
 rw [← h3,k3]
theorem Znl {N:List Int} {e:Zg} {y:Int} : y ∈ Zdc N e ↔ y ∈ N∨y=e.src∨y=e.dst:=by
 unfold Zdc
 rw [Zix,Zix,or_assoc]
theorem Zb7:∀ {l:List Zg} {y:Int},y ∈ ZH l ↔ ∃ e ∈ l,y=e.src∨y=e.dst:=by
 have key:∀ (l:List Zg) (N:List Int) (y:Int),y ∈ l.foldl Zdc N ↔ y ∈ N ∨ ∃ e ∈ l,y=e.src∨y=e.dst:=by
  intro l
  induction l with
  | nil=>intro N y;simp
  | cons e l ih=>
   intro N y
   rw [YaE,ih,Znl]
   simp [or_assoc]
 intro l y
 unfold ZH
 rw [key];simp
theorem ZiY (l:List Zg):(ZH l).Nodup:=by
 have key:∀ (l:List Zg) (N:List Int),N.Nodup→(l.foldl Zdc N).Nodup:=by
  intro l
  induction l with
  | nil=>intro N h;exact h
  | cons e l ih=>intro N h;exact ih _ (nodeP_nodup (nodeP_nodup h))
 exact key l [] .nil
theorem Zmu (l:List Zg):(ZH l).length≤2*l.length:=by
 have key:∀ (l:List Zg) (N:List Int),(l.foldl Zdc N).length≤N.length+2*l.length:=by
  intro l
  induction l with
  | nil=>intro N;simp
  | cons e l ih=>
   intro N
   have h1:=ih (Zdc N e)
   have h2:=(Zfi N e.src).2
   have h3:=(Zfi (ZaP N e.src) e.dst).2
   unfold Zdc at h1
   rw [YaE,Yl]
   unfold Zdc
   omega
 have:=key l []
 show (l.foldl Zdc []).length≤_
 simpa using this
def Zvg (N:List Int) (e:Zg):Zod:=⟨ZZ e.src N,ZZ e.dst N⟩
def LE_ (l:List Zg) (a b:Int):Prop:=∃ e ∈ l,e.src=a∧e.dst=b
theorem Znc {l:List Zg} {a b:Int} (ha:a ∈ ZH l) (hb:b ∈ ZH l):Rch (EQ_ (l.map (Zvg (ZH l)))) (ZZ a (ZH l)) (ZZ b (ZH l)) ↔ Rch (LE_ l) a b:=by
 have hm:∀ {e:Zg},e ∈ l→e.src ∈ ZH l∧e.dst ∈ ZH l:=fun {e} he=>⟨Zb7.2 ⟨e,he,.inl rfl⟩,Zb7.2 ⟨e,he,.inr rfl⟩⟩
 constructor
 ·have key:∀ {y:Int},Rch (EQ_ (l.map (Zvg (ZH l)))) (ZZ a (ZH l)) y → ∃ b,b ∈ ZH l∧y=ZZ b (ZH l)∧Rch (LE_ l) a b:=fun {y} h=>by
   induction h with
   | one k=>
    obtain ⟨e,he,e2⟩:=Yu.1 k
    injection e2 with e3 e4
    refine ⟨e.dst,(hm he).2,e4.symm,.one ⟨e,he,?_,rfl⟩⟩
    exact ZhI (hm he).1 ha e3
   | step _ k ih=>
    obtain ⟨c,hc,e1,h1⟩:=ih
    obtain ⟨e,he,e2⟩:=Yu.1 k
    injection e2 with e3 e4
    refine ⟨e.dst,(hm he).2,e4.symm,.step h1 ⟨e,he,?_,rfl⟩⟩
    exact ZhI (hm he).1 hc (e3.trans e1)
  intro h
  obtain ⟨c,hc,e,h1⟩:=key h
  rw [ZhI hb hc e];exact h1
 ·intro h
  clear hb
  induction h with
  | one k=>
   obtain ⟨e,he,rfl,rfl⟩:=k
   exact .one (Yu.2 ⟨e,he,rfl⟩)
  | step _ k ih=>
   obtain ⟨e,he,rfl,rfl⟩:=k
   exact .step ih (Yu.2 ⟨e,he,rfl⟩)
structure Ze4 (es:List (Zch Int)) (N:List Int):Prop where
 len:es.length=N.length
 get:∀ x,ZeJ x es=if x ∈ N then some (ZZ x N) else none
def Zum (N:List Int) (v:Value):HP:=.ex fun s:List (Zch Int)×Nat=>.and (Ze4 s.1 N) (ZnC .i64 (fun _=>True) (fun n:Int=>Value.int .i64 n) s.1 s.2 v)
theorem Ze4.nil:Ze4 [] []:=⟨rfl,fun x=>by simp [ZeJ]⟩
theorem Ze4.put {es:List (Zch Int)} {ck:Nat} {N:List Int} {x:Int} (h:Ze4 es N) (hx:x ∉ N):Ze4 (mPut x (N.length:Int) (es,ck)).1 (N ++ [x]):=by
 have hg:ZeJ x es=none:=by rw [h.get,Yc hx]
 have hi:(mIdx x es).isSome=false:=by rw [Zhf,hg];rfl
 refine ⟨?_,fun y=>?_⟩
 ·unfold mPut
  rw [hi]
  simp [h.len]
 ·rw [ZrE]
  by_cases e:y=x
  ·subst e
   rw [Yf rfl,Yf (by simp),Zkw hx]
  ·rw [Yc e]
   show ZeJ y es=_
   rw [h.get]
   by_cases hy:y ∈ N
   ·rw [Yf hy,Yf (by simp [hy]),ZeO hy]
   ·rw [Yc hy,Yc (by simp [hy,e])]
theorem Ze4.old {es:List (Zch Int)} {N:List Int} {x:Int} (h:Ze4 es N) (hx:(ZeJ x es).isSome=true):x ∈ N∧ZdT x es=ZZ x N:=by
 rw [h.get] at hx
 split at hx
 ·rename_i e
  exact ⟨e,by rw [Zkk,h.get,Yf e];rfl⟩
 ·cases hx
theorem Ze4.new {es:List (Zch Int)} {N:List Int} {x:Int} (h:Ze4 es N) (hx:(ZeJ x es).isSome=false):x ∉ N:=fun e=>by
 rw [h.get,Yf e] at hx;cases hx
theorem Zpd (P:Prop):∃ b:Bool,b=true ↔ P:=(Classical.em P).elim (fun h=>⟨true,by simp [h]⟩) fun h=>⟨false,by simp [h]⟩
def kindOk (mask:Int) (e:Zg):Bool:=(decide (1≤e.kind) && decide (e.kind≤3)) && ofB mask e.kind
def Zgq (must kind:Int):Bool:=decide (bits .and .i64 must 14=0) || ofB must kind
def Zjy (N:List Int) (e:Zg):Zw:=⟨ZZ e.src N,ZZ e.dst N,e.kind,0⟩
def ZeB (l:List Zg) (mask must:Int):Prop:=∃ e ∈ l.filter (kindOk mask),Zgq must e.kind=true∧(e.dst=e.src∨Rch (LE_ (l.filter (kindOk mask))) e.dst e.src)
theorem ZrV {N M:List Int} {l:List Zg} (h:∀ e ∈ l,e.src ∈ N∧e.dst ∈ N):l.map (Zjy (N++M))=l.map (Zjy N):=by
 refine List.map_congr_left fun e he=>?_
 unfold Zjy
 rw [ZeO (h e he).1,ZeO (h e he).2]
theorem ZoL (N:List Int) (e:Zg):∃ M,Zdc N e=N++M:=by
 have one:∀ (N:List Int) (x:Int),∃ M,ZaP N x=N++M:=fun N x=>by
  unfold ZaP;split
  ·exact ⟨[],by simp⟩
  ·exact ⟨[x],rfl⟩
 obtain ⟨M1,h1⟩:=one N e.src
 obtain ⟨M2,h2⟩:=one (ZaP N e.src) e.dst
 exact ⟨M1++M2,by unfold Zdc;rw [h2,h1,YJ]⟩
theorem ZhP {l:List Zg} {e:Zg} (he:e ∈ l):e.src ∈ ZH l∧e.dst ∈ ZH l:=⟨Zb7.2 ⟨e,he,.inl rfl⟩,Zb7.2 ⟨e,he,.inr rfl⟩⟩
theorem Zpp (l:List Zg) (e:Zg):(l ++ [e]).map (Zjy (ZH (l ++ [e])))=l.map (Zjy (ZH l)) ++ [⟨ZZ e.src (ZaP (ZH l) e.src),ZZ e.dst (Zdc (ZH l) e),e.kind,0⟩]:=by
 have e1:ZH (l ++ [e])=Zdc (ZH l) e:=by unfold ZH;rw [YaF];rfl
 obtain ⟨M,hM⟩:=ZoL (ZH l) e
 rw [e1,YQ,List.map_singleton]
 congr 1
 ·rw [hM];exact ZrV fun x hx=>ZhP hx
 ·unfold Zjy
  have:ZZ e.src (Zdc (ZH l) e)=ZZ e.src (ZaP (ZH l) e.src):=by
   unfold Zdc
   exact ZoM (Zqp _ _)
  rw [this]
section
variable {l:List Zg} {n:Nat} {E:List Zw} {O I:List (List Z5)} {L:List Int}
theorem Zcb {mask:Int} {e:Zg} (he:e ∈ l.filter (kindOk mask)) (hn:n=(ZH (l.filter (kindOk mask))).length):ZaD n (Zjy (ZH (l.filter (kindOk mask))) e)=true:=by
 obtain ⟨h1,h2⟩:=ZhP he
 obtain ⟨a1,a2⟩:=ZiK h1
 obtain ⟨b1,b2⟩:=ZiK h2
 have hk:=(Y4.1 he).2
 unfold kindOk at hk
 simp only [Yx,Yq] at hk
 exact ZM.2 ⟨⟨a1,by show ZZ _ _<_;omega⟩,⟨b1,by show ZZ _ _<_;omega⟩,hk.1,Yao _,by show (0:Int)≤_;decide⟩
theorem of14 {k:Int} (h:1≤k∧k≤3):ofB 14 k=true:=by
 have:k=1∨k=2∨k=3:=by omega
 rcases this with rfl | rfl | rfl <;> decide
theorem Zh7 {mask:Int} (h:ZbF n E O I) (hn:n=(ZH (l.filter (kindOk mask))).length) (hE:∀ x,x ∈ E ↔ x ∈ (l.filter (kindOk mask)).map (Zjy (ZH (l.filter (kindOk mask))))) (a b:Int) :
  EJ (adjO O 14) a b ↔ EQ_ ((l.filter (kindOk mask)).map (Zvg (ZH (l.filter (kindOk mask))))) a b:=by
 show b ∈ adjO O 14 a ↔ _
 rw [(h.next 14 a).2]
 unfold EQ_
 rw [Yu]
 constructor
 ·rintro ⟨x,hx,h1,_,h2⟩
  obtain ⟨e,he,rfl⟩:=Yu.1 ((hE x).1 hx)
  exact ⟨e,he,by rw [← h1,← h2];rfl⟩
 ·rintro ⟨e,he,h1⟩
  injection h1 with h2 h3
  refine ⟨Zjy _ e,(hE _).2 (Yu.2 ⟨e,he,rfl⟩),h2,?_,h3⟩
  exact of14 (ZM.1 (Zcb he hn)).2.2.1
theorem ZpU {mask must:Int} (h:ZbF n E O I) (hn:n=(ZH (l.filter (kindOk mask))).length) (hE:∀ x,x ∈ E ↔ x ∈ (l.filter (kindOk mask)).map (Zjy (ZH (l.filter (kindOk mask))))) (hL:ZjA (adjO O 14) n L) :
  (∃ x ∈ (l.filter (kindOk mask)).map (Zjy (ZH (l.filter (kindOk mask)))),Nn L x.src.toNat=Nn L x.dst.toNat∧Zgq must x.kind=true) ↔ ZeB l mask must:=by
 have hr:∀ {a b:Int},Rch (EJ (adjO O 14)) a b ↔ Rch (EQ_ ((l.filter (kindOk mask)).map (Zvg (ZH (l.filter (kindOk mask)))))) a b:=fun {a b}=>⟨Rch.mono fun x y=>(Zh7 h hn hE x y).1,Rch.mono fun x y=>(Zh7 h hn hE x y).2⟩
 have one:∀ e ∈ l.filter (kindOk mask),(Nn L (Zjy (ZH (l.filter (kindOk mask))) e).src.toNat=Nn L (Zjy (ZH (l.filter (kindOk mask))) e).dst.toNat ↔ (e.dst=e.src∨Rch (LE_ (l.filter (kindOk mask))) e.dst e.src)):=fun e he=>by
  obtain ⟨s1,s2⟩:=(ZM.1 (Zcb he hn)).1
  obtain ⟨d1,d2⟩:=(ZM.1 (Zcb he hn)).2.1
  obtain ⟨m1,m2⟩:=ZhP he
  have k1:=hL.2 (Zjy (ZH (l.filter (kindOk mask))) e).src.toNat ow
  have k2:=hL.2 (Zjy (ZH (l.filter (kindOk mask))) e).dst.toNat ow
  rw [Yay s1] at k1
  rw [Yay d1] at k2
  rw [k1.same k2]
  show (ZZ e.dst _=ZZ e.src _∨(Rch _ (ZZ e.src _) (ZZ e.dst _)∧Rch _ (ZZ e.dst _) (ZZ e.src _))) ↔ _
  rw [hr,hr,Znc m1 m2,Znc m2 m1]
  constructor
  ·rintro (h9 | h9)
   ·exact .inl (ZhI m2 m1 h9)
   ·exact .inr h9.2
  ·rintro (h9 | h9)
   ·exact .inl (by rw [h9])
   ·exact .inr ⟨.one ⟨e,he,rfl,rfl⟩,h9⟩
 constructor
 ·rintro ⟨x,hx,h1,h2⟩
  obtain ⟨e,he,rfl⟩:=Yu.1 hx
  exact ⟨e,he,h2,(one e he).1 h1⟩
 ·rintro ⟨e,he,h1,h2⟩
  exact ⟨_,Yu.2 ⟨e,he,rfl⟩,(one e he).2 h2,h1⟩
end
theorem Zsf (mv:Value) (N:List Int) (id:Int) (hN:N.length≤1000000):FnG prog 113 1 [.is mv,.int .i64 id] [Zum N mv] (.int .i64 (ZZ id (ZaP N id))) (fun _=>[Zum (ZaP N id) mv]):=by
 refine FnG.mk func113 rfl ntmps113 rfl kr fun B F0 a w F V hG G=>Ya ?_
 refine rZ G (qI qZ) V [4,1,0] [1,0] fun G=>Ya ?_
 obtain ⟨⟨es,ck⟩,G⟩:=G.open_ex 1 rfl
 obtain ⟨hk,G⟩:=G.open_and 1 rfl
 replace G:=G.turn 1 rfl (r':=.ob (.val mv) (ZnC .i64 (fun _=>True) (fun n:Int=>Value.int .i64 n) es ck)) (fun _ _ _ _ h=>h)
 dsimp only at hk
 obtain ⟨F,G⟩:=G.nM [4,1,0] [1,0]
 refine rZ G (qR rr (qR rr (qf (ZmJ 1 underlying160 (Znv underlying3) kr .is (ZI.int .t rfl)) r2 r1 (qR rr (qf (Zh .t rfl) r1 qz (qf (Zh .t rfl) r1 qz (qO rr (qO rr qZ)))))))) V [6,5,4,1,0] [1,0] fun G=>(Ya (Ya ?_))
 refine rZ G (qR rr (qf (o_not .t) r1 qz qZ)) V [14,5,4,1,0] [1,0] fun G=>?_
 refine Zc G rfl (fun hc0=>?_) (fun hc0=>?_)
 ·have hid:id ∉ N:=hk.new (by simpa using hc0)
  have hg:ZaP N id=N ++ [id]:=Yc hid
  have hgi:(N.length:Int)=ZZ id (N ++ [id]):=(Zkw hid).symm
  refine Ya (Zf G (qR rr (qf (ZfN 1 underlying160 .is (by rw [hk.len];omega)) r1 r1 (qO rr qZ))) V [5,4,1,0] [1,0] rfl rfl fun a w F G=>?_)
  rw [hk.len] at G
  refine Za (rZ G (qR rr (qR rr (qR rr (qf (ZjW 1 underlying160 (Znv underlying3) .is (ZI.int .t rfl) .t) r3 r1 qZ)))) V [5,4] [1,0] fun G=>Ya ?_)
  refine rZ G (qR rr (qO rr qZ)) V [4] [1,0] fun G=>Yh ?_
  have G:=G.turn 1 rfl (r':=RS.hp (Zum (N ++ [id]) mv)) (fun _ _ _ _ h=>⟨mPut id (N.length:Int) (es,ck),hk.put hid,h⟩)
  rw [hg]
  refine Zac hG G rfl (.tmp rfl .nil) (.one (.int hgi)) rfl
 obtain ⟨hid,hgv⟩:=hk.old (by simpa using hc0)
 have hg:ZaP N id=N:=Yf hid
 have hgi:ZdT id es=ZZ id N:=hgv
 refine Ye (Za (Ya (rZ G (qR rr (qO rr qZ)) V [4] [1,0] fun G=>Yh ?_)))
 have G:=G.turn 1 rfl (r':=RS.hp (Zum N mv)) (fun _ _ _ _ h=>⟨(es,ck),hk,h⟩)
 rw [hg]
 refine Zac hG G rfl (.tmp rfl .nil) (.one (.int hgi)) rfl
theorem Zhh {l:List PV} : ∀ v w yy,(PV.ref l).p v w yy→v.oneCell' = true:=fun v _ _ ⟨_,_,_,e,_⟩=>by rw [e];rfl
theorem Zsg:inR .i32 0:=by show IntKind.min .i32≤0∧0≤IntKind.max .i32;decide
theorem Zov {n:Nat} (h:n≤65536):rowN (n:Int)=n:=by unfold rowN;repeat' split;all_goals omega
theorem ZbF.adjR {n:Nat} {E:List Zw} {O I:List (List Z5)} (h:ZbF n E O I) (mask:Int):(∀ u y,y ∈ adjO O mask u→0≤y∧y<(n:Int)) ∧ ∀ u,(adjO O mask u).length≤n:=by
 have h1:∀ u y,y ∈ adjO O mask u→0≤y∧y<(n:Int):=fun u y hy=>by
  obtain ⟨x,x1,x2,x3,x4⟩:=((h.next mask u).2 y).1 hy
  have:=(ZM.1 (h.ok x x1)).2.1
  omega
 exact ⟨h1,fun u=>Zdv ((h.next mask u).1.imp fun h=>by omega) (h1 u)⟩
theorem Zph (u:Int) (O I:List (List Z5)) (m:Nat) (mask:Int) (hO:∀ l ∈ O,l.length≤1000000):FnP prog 159 [.int .i64 u,.ref [Zel O I m],.ref [.int .i64 mask]] (.sl rInt (adjO O mask u)):=by
 refine FnP.mk func159 rfl ntmps159 rfl fun B a w F V hfr G=>Ya ?_
 refine rZ G (qC qZ) V [4,2,1,0] [0] fun G=>Ya ?_
 refine rZ G (qf (oR false 1 .t) r1 qz (qR rr (qf (oR false 1 .t) r1 qz (qf (oP (ZqU O I m u mask hO) func160 (Args.three .t .t .t)) r3 qz (qO rr qZ))))) V [4] [0] fun G=>Yh ?_
 refine Zo hfr G rfl rfl rfl .refl
theorem Zq4 (n:Nat) (E:List Zw) (O I:List (List Z5)) (m:Nat) (mask:Int) (h:ZbF n E O I) (hn:n≤4096) (hE:E.length≤1000000) (L:List Int) (hL:ZjA (adjO O mask) n L):FnP prog 117 [Zel O I m,.int .i64 mask] (.sl rInt L):=by
 refine FnP.mk func117 rfl ntmps117 rfl fun B a w F V hfr G=>?_
 have hO:∀ l ∈ O,l.length≤1000000:=fun l hl=>(h.on.r hE l hl).1
 obtain ⟨hadj,hal0⟩:=h.adjR mask
 have hal:∀ u,(adjO O mask u).length≤4096:=fun u=>Y5 (hal0 u) hn
 refine Ya (Zb G (qf (Zeu 101 .t Zhh) r1 qz (qf (Zeu 102 .t one_int) r1 qz (qC qZ))) V [4,3,2] [102,101,0] (fun _=>rfl) (fun _=>rfl) fun τ a w F G=>?_)
 try dsimp only [RS.sub,SF.sub,CF.sub,csub,Anc.sub,List.map,zCF,rInt,Zfk] at G
 generalize τ 2=v2 at G
 generalize τ 3=v3 at G
 obtain ⟨F,G⟩:=G.giveRef 101 2 rfl rfl rfl
 obtain ⟨F,G⟩:=G.nM [4,3,2] [102,0]
 try dsimp only [Go.Gm.unCF] at G
 obtain ⟨F,G⟩:=G.giveRef 102 3 rfl rfl rfl
 obtain ⟨F,G⟩:=G.nM [4,3,2] [0]
 try dsimp only [Go.Gm.unCF] at G
 refine Za (Ya (Zf G (qf (oR false 1 .t) r1 qz (qf (oP (Zcf O I m) func158 (Args.one .t)) r1 qz (qO rr qZ))) V [5,4,3,2] [0] rfl rfl fun a w F G=>?_))
 rw [h.ol] at G
 refine Za (Ya (rZ G (qf (ZaH (Args.two .t .t)) r2 qz (qO rr qZ)) V [6,5,4] [0] fun G=>Ya ?_))
 replace G:=G.fresh 103 rfl
 replace G:=G.fresh 104 rfl
 refine ZaI G (qR rr (qR rr (qf (ZaE (R:=Zfk) (v:=0) (c:=(n:Int)) (sz:=1) (bs:=4) (zs:=[.int .i32 0]) 105 underlying226 kr kr kr (fun _ _=>⟨⟨rfl,rfl,Zsg⟩,tv⟩) .t .t (Yat _) ow ow) r2 qz (qR rr (qf (ZaE (R:=Zfk) (v:=0) (c:=(n:Int)) (sz:=1) (bs:=4) (zs:=[.int .i32 0]) 106 underlying226 kr kr kr (fun _ _=>⟨⟨rfl,rfl,Zsg⟩,tv⟩) .t .t (Yat _) ow ow) r2 qz (qR rr (qf (Zav 103 (Zuh n) func161 rfl kr (Args.one .t) PV.ptr_one) r1 r1 (qR rr (qf (Zav 104 (ZqX n) func162 rfl kr (Args.one .t) PV.ptr_one) r1 r1 (qR rr (qf (ZaE (R:=rInt) (v:=0) (c:=(n:Int)) (sz:=1) (bs:=8) (zs:=[.int .i64 0]) 107 underlying45 kr kr kr (fun _ _=>⟨⟨rfl,rfl,Zdj⟩,tv⟩) .t .t (Yat _) ow ow) r2 qz (qf (oB [(0,.tmp 12),(1,.tmp 14),(2,.tmp 16),(3,.tmp 18),(4,.tmp 20),(6,.tmp 22)] [.nilFunc,.slice none 0 0,.slice none 0 0,.pointer none,.pointer none,.int .i32 0,.slice none 0 0] [(0,1),(1,1),(2,1),(3,1),(4,1),(5,1),(6,1)] (.one rfl .t ZpY kr (.same rfl kr (.same rfl kr (.same rfl kr (.same rfl kr (.same rfl kr .nil))))))) r6 qz (qf (oX 108 .t) r1 qz (qO rr qZ)))))))))))))) V [7,5,4] [108,107,106,105,104,103,0] (fun _=>rfl) (fun _=>rfl) fun τ a w F G=>?_
 try dsimp only [RS.sub,SF.sub,CF.sub,csub,Anc.sub,List.map,Ze,xL,xM,Nat.reduceAdd,xD,xE,xT,xU,xC,xN,zCF,rInt,Zfk] at G
 generalize τ 24=v24 at G
 generalize τ 18=v18 at G
 generalize τ 20=v20 at G
 generalize τ 14=v14 at G
 generalize τ 16=v16 at G
 generalize τ 22=v22 at G
 rw [Yb] at G
 obtain ⟨tb,rfl⟩:=G.shape 108 rfl
 replace G:=G.turn 103 rfl (r':=RS.hp (stH v18 n [])) (by rw [ZfO ow];exact fun _ _ _ _ h=>h)
 replace G:=G.turn 104 rfl (r':=RS.hp (ZgN n [] v20)) (by rw [Zov ow];exact fun _ _ _ _ h=>h)
 have G:=G.fresh 1 rfl
 obtain ⟨F,G⟩:=G.push 1 107 rfl rfl rfl kr
 obtain ⟨F,G⟩:=G.push 1 104 rfl rfl rfl kr
 obtain ⟨F,G⟩:=G.push 1 103 rfl rfl rfl kr
 obtain ⟨F,G⟩:=G.push 1 106 rfl rfl rfl kr
 obtain ⟨F,G⟩:=G.push 1 105 rfl rfl rfl kr
 obtain ⟨F,G⟩:=G.push 1 108 rfl rfl rfl kr
 have G:=G.turn 1 rfl (r':=RS.hp (Zcj (.clos 159 [.ref [Zel O I m],.ref [.int .i64 mask]]) n ⟨List.replicate n 0,List.replicate n 0,[],[],0,List.replicate n 0⟩ (.pointer (some ⟨tb,0,none⟩)))) (fun _ _ _ _ h=>⟨_,_,_,_,_,h⟩)
 obtain ⟨F,G⟩:=G.nM [7,5,4] [1,0]
 refine Za (Ya (Ya (rZ G (qR rr (qJ qZ)) V [26,25,7,4] [1,0] fun G=>Yg ?_)))
 refine Zl (σ:=Nat×Zbm) [4,7,25] [0] (fun s=>[(26,.pv (.int .i64 (s.1:Int)))]) (fun s=>[(1,RS.hp (Zcj (.clos 159 [.ref [Zel O I m],.ref [.int .i64 mask]]) n s.2 (.pointer (some ⟨tb,0,none⟩))))]) (fun s=>s.1≤n∧TI n (adjO O mask) s.2 [] ∧ ∀ u:Nat,u<s.1→Nn s.2.wh u≠0) (fun s=>n - s.1) ((0),_) G ⟨rfl,rfl,rfl,rfl,tv⟩ ⟨rfl,rfl,tv⟩ ⟨Yv _,TI.zero n _,fun u hu=>absurd hu (YX u)⟩ ?_
 clear G;intro s a w F hC G
 obtain ⟨i,q⟩:=s
 try dsimp only at hC
 obtain ⟨F,G⟩:=G.nM [26,25,7,4] [1,0]
 try dsimp only at G
 obtain ⟨hi,hI,hvs⟩:=hC
 have hck:=hI.lw
 refine Ya (rZ G (qL r2) V [27,26,25,7,4] [1,0] fun G=>Ya ?_)
 refine Zc G rfl (fun hc0=>?_) (fun hc0=>?_)
 ·have hil:i<n:=by simpa using hc0
  refine Ye (Za (Ya (Yg (Ya (rZ G (qR rr (qO rr qZ)) V [26,25,8,7,4] [1,0] fun G=>Ya ?_)))))
  obtain ⟨wv,G⟩:=G.open_ex 1 rfl
  obtain ⟨lv,G⟩:=G.open_ex 1 rfl
  obtain ⟨sv,G⟩:=G.open_ex 1 rfl
  obtain ⟨iv,G⟩:=G.open_ex 1 rfl
  obtain ⟨ov,G⟩:=G.open_ex 1 rfl
  obtain ⟨F,G⟩:=G.peel 1 2 rfl rfl
  obtain ⟨F,G⟩:=G.peel 1 3 rfl rfl
  obtain ⟨F,G⟩:=G.peel 1 4 rfl rfl
  obtain ⟨F,G⟩:=G.peel 1 5 rfl rfl
  obtain ⟨F,G⟩:=G.peel 1 6 rfl rfl
  obtain ⟨F,G⟩:=G.peel 1 7 rfl rfl
  replace G:=G.turn 5 rfl (r':=.ob (.val sv) (fun v=>stH v n q.wait)) (fun _ _ _ _ h=>h)
  obtain ⟨_,_,_,ho⟩:=G.obGet 5 rfl
  obtain ⟨sb,rfl⟩:=Zeg ho
  clear ho
  replace G:=G.turn 6 rfl (r':=.ob (.val iv) (ZgN n q.inn)) (fun _ _ _ _ h=>h)
  obtain ⟨_,_,_,ho⟩:=G.obGet 6 rfl
  obtain ⟨ib,rfl⟩:=Zc3 ho
  clear ho
  replace G:=G.turn 5 rfl (r':=RS.hp (stH (.pointer (some ⟨sb,0,none⟩)) n q.wait)) (fun _ _ _ _ h=>h)
  replace G:=G.turn 6 rfl (r':=RS.hp (ZgN n q.inn (.pointer (some ⟨ib,0,none⟩)))) (fun _ _ _ _ h=>h)
  obtain ⟨F,G⟩:=G.nM [26,25,8,7,4] [7,6,5,4,3,2,0]
  refine Zf G (qR rr (qf (o_nilCheck 2 .is (by rfl)) r1 r1 (qf (oF 1 2 .adr) r1 r1 (qa 2 r1 r1 (qR rr (qf (o_indexAddr_row (sz:=1) 3 (.mk underlying226 kr) .is .t ow ow (by rfl)) r2 r1 (qf (Zv (ag:=false) (sz':=1) (sz:=1) 3 .t (by intro x;rfl) ow kr kr kr) r1 r1 (qf (o_eql .t qi) r1 qz qZ)))))))) V [36,26,25,8,7,4] [7,6,5,4,3,2,0] rfl rfl fun a w F G=>?_
  try simp only [Yb] at G
  refine Za (Zc G rfl (fun hc1=>?_) (fun hc1=>?_))
  ·have h00:fI q.wh i=0:=by rw [ZaJ ow];simpa using hc1
   have G:=G.fresh 1 rfl
   obtain ⟨F,G⟩:=G.push 1 7 rfl rfl rfl kr
   obtain ⟨F,G⟩:=G.push 1 6 rfl rfl rfl kr
   obtain ⟨F,G⟩:=G.push 1 5 rfl rfl rfl kr
   obtain ⟨F,G⟩:=G.push 1 4 rfl rfl rfl kr
   obtain ⟨F,G⟩:=G.push 1 3 rfl rfl rfl kr
   obtain ⟨F,G⟩:=G.push 1 2 rfl rfl rfl kr
   have G:=G.turn 1 rfl (r':=RS.hp (Zcj (.clos 159 [.ref [Zel O I m],.ref [.int .i64 mask]]) n q (.pointer (some ⟨tb,0,none⟩)))) (fun _ _ _ _ h=>⟨_,_,_,_,_,h⟩)
   obtain ⟨F,G⟩:=G.nM [36,26,25,8,7,4] [1,0]
   refine Zf G (qR rr (qR rr (qf (ZJ 1 (Zu7 tb n (adjO O mask) 159 f159 [.ref [Zel O I m],.ref [.int .i64 mask]] func159 rfl kr (fun u _=>Zph u O I m mask hO) hadj hal q i ow ow hn hI h00) func163 rfl kr (Args.two .t .t)) r2 r1 qZ))) V [26,25,7,4] [1,0] rfl rfl fun a w F G=>?_
   obtain ⟨q2,G⟩:=G.open_ex 1 rfl
   obtain ⟨⟨hI2,hv2,hk3⟩,G⟩:=G.open_and 1 rfl
   have hv2:Nn q2.wh i≠0:=by rw [ZaJ ow] at hv2;exact hv2
   have hk2:∀ u:Nat,u<i→Nn q.wh u≠0→Nn q2.wh u≠0:=fun u hu h9=>by have:=hk3 u (by rw [ZaJ ow];exact h9);rw [ZaJ ow] at this;exact this
   refine Zj (Za (rZ G (qp r1 (qR rr qZ)) V [26,25,7,4] [1,0] fun G=>?_))
   replace G:=G.ent (i:=26) (s':=.pv (.int .i64 ((i+1:Nat):Int))) rfl (.int (Zd ow))
   obtain ⟨F,G⟩:=G.nM [25,7,4,26] [0,1]
   exact ⟨((i+1),(q2)),F,⟨by omega,hI2,fun u hu=>by rcases YS (YY hu) with h9 | h9;exact hk2 u h9 (hvs u h9);rw [h9];exact hv2⟩,G,by omega⟩
  have G:=G.fresh 1 rfl
  obtain ⟨F,G⟩:=G.push 1 7 rfl rfl rfl kr
  obtain ⟨F,G⟩:=G.push 1 6 rfl rfl rfl kr
  obtain ⟨F,G⟩:=G.push 1 5 rfl rfl rfl kr
  obtain ⟨F,G⟩:=G.push 1 4 rfl rfl rfl kr
  obtain ⟨F,G⟩:=G.push 1 3 rfl rfl rfl kr
  obtain ⟨F,G⟩:=G.push 1 2 rfl rfl rfl kr
  have G:=G.turn 1 rfl (r':=RS.hp (Zcj (.clos 159 [.ref [Zel O I m],.ref [.int .i64 mask]]) n q (.pointer (some ⟨tb,0,none⟩)))) (fun _ _ _ _ h=>⟨_,_,_,_,_,h⟩)
  obtain ⟨F,G⟩:=G.nM [36,26,25,8,7,4] [1,0]
  obtain ⟨q2,hq2⟩:∃ q2,q2=q:=⟨q,rfl⟩
  rw [← hq2] at G
  have hI2:=hI
  rw [← hq2] at hI2
  have hv2:Nn q2.wh i≠0:=by rw [hq2];simpa using hc1
  have hk2:∀ u:Nat,u<i→Nn q.wh u≠0→Nn q2.wh u≠0:=fun u _ h9=>by rw [hq2];exact h9
  refine Ye (Zj (Za (rZ G (qp r1 (qR rr qZ)) V [26,25,7,4] [1,0] fun G=>?_)))
  replace G:=G.ent (i:=26) (s':=.pv (.int .i64 ((i+1:Nat):Int))) rfl (.int (Zd ow))
  obtain ⟨F,G⟩:=G.nM [25,7,4,26] [0,1]
  exact ⟨((i+1),(q2)),F,⟨by omega,hI2,fun u hu=>by rcases YS (YY hu) with h9 | h9;exact hk2 u h9 (hvs u h9);rw [h9];exact hv2⟩,G,by omega⟩
 have hil:i=n:=by have h9:¬ i<n:=(by simpa using hc0);omega
 have hlab:q.out=L:=(hI.labs (by rw [← hil];exact hvs)).one hL
 refine Yw (Zi (Zi (Zn (Za (Ya ?_)))))
 obtain ⟨wv,G⟩:=G.open_ex 1 rfl
 obtain ⟨lv,G⟩:=G.open_ex 1 rfl
 obtain ⟨sv,G⟩:=G.open_ex 1 rfl
 obtain ⟨iv,G⟩:=G.open_ex 1 rfl
 obtain ⟨ov,G⟩:=G.open_ex 1 rfl
 obtain ⟨F,G⟩:=G.peel 1 2 rfl rfl
 obtain ⟨F,G⟩:=G.peel 1 3 rfl rfl
 obtain ⟨F,G⟩:=G.peel 1 4 rfl rfl
 obtain ⟨F,G⟩:=G.peel 1 5 rfl rfl
 obtain ⟨F,G⟩:=G.peel 1 6 rfl rfl
 obtain ⟨F,G⟩:=G.peel 1 7 rfl rfl
 replace G:=G.turn 5 rfl (r':=.ob (.val sv) (fun v=>stH v n q.wait)) (fun _ _ _ _ h=>h)
 obtain ⟨_,_,_,ho⟩:=G.obGet 5 rfl
 obtain ⟨sb,rfl⟩:=Zeg ho
 clear ho
 replace G:=G.turn 6 rfl (r':=.ob (.val iv) (ZgN n q.inn)) (fun _ _ _ _ h=>h)
 obtain ⟨_,_,_,ho⟩:=G.obGet 6 rfl
 obtain ⟨ib,rfl⟩:=Zc3 ho
 clear ho
 replace G:=G.turn 5 rfl (r':=RS.hp (stH (.pointer (some ⟨sb,0,none⟩)) n q.wait)) (fun _ _ _ _ h=>h)
 replace G:=G.turn 6 rfl (r':=RS.hp (ZgN n q.inn (.pointer (some ⟨ib,0,none⟩)))) (fun _ _ _ _ h=>h)
 obtain ⟨F,G⟩:=G.nM [27,26,25,7,4] [7,6,5,4,3,2,0]
 refine rZ G (qR rr (qf (o_nilCheck 2 .is (by rfl)) r1 r1 (qf (oF 6 2 .adr) r1 r1 (qa 2 r1 r1 (qO rr qZ))))) V [4] [7,6,5,4,3,2,0] fun G=>Yh ?_
 obtain ⟨F,G⟩:=G.give 7 4 rfl rfl
 refine Zo hfr G rfl rfl rfl (.sl hlab)
def roomN (n:Int):Nat:=(if n<0 then 0 else if n > 4096 then 4096 else n).toNat
theorem ZeI (n:Int):roomN n≤4096:=by unfold roomN;split; (· omega);split <;> omega
theorem ZrC (n:Int):(if 4096<(if n<0 then 0 else n) then 4096 else if n<0 then 0 else n)=((roomN n:Nat):Int):=by unfold roomN;split <;> split <;> (try split) <;> omega
theorem Zid {w:World} {y:Ys} {r:RS} (hd:r.deps = []) (hr:r.holds tau0 w (fun _=>False) y):∀ n:Nat,stars w y (List.replicate n r) (fun _=>False)
 | 0=>fun _ h=>h
 | n+1=>⟨fun _=>False,fun _=>False,fun b=>by simp,fun _ h=>h.elim,hd,hr,Zid hd hr n⟩
theorem ZrO (n:Nat) (s:Value):ZeF (List.replicate n s) (List.replicate n [])=List.replicate n (s,[]):=by
 apply Ya0 (by simp [ZeF])
 intro j h1 h2
 have hj:j<n:=by simpa using h2
 simp [ZeF,nth_eq (l:=List.replicate n s) (i:=j) (by simpa using hj),nth_eq (l:=List.replicate n ([]:List Z5)) (i:=j) (by simpa using hj)]
theorem Zkv {n:Nat} {v:Value} (τ:Tau) (w:World) (f y:Ys) (h:(RS.ob (.val v) (ZA 220 1 rV (List.replicate n (.slice none 0 0)))).holds τ w f y):(RS.hp (Zjo (List.replicate n []) v)).holds τ w f y:=by
 refine ⟨List.replicate n (.slice none 0 0),by simp,f,fun _=>False,fun b=>by simp,fun _ _ h=>h,rfl,h,fun _=>False,fun _=>False,fun b=>by simp,fun _ h=>h.elim,rfl,?_,fun _ h=>h⟩
 show stars w y ((ZeF (List.replicate n (.slice none 0 0)) (List.replicate n [])).map fun x=>RS.hp (ZmS x)) fun _=>False
 rw [ZrO,List.map_replicate]
 exact Zid (r:=RS.hp (ZmS (.slice none 0 0,[]))) rfl (show (ZA 217 3 Zat ([]:List Z5) (.slice none 0 0)).p w (fun _=>False) y from Zli) n
theorem Zln (w:World) (y:Ys):PVs (rV (.slice none 0 0)) [.slice none 0 0] w y:=⟨⟨rfl,rfl,by first | rfl | trivial⟩,tv⟩
theorem Znj (room:Int):FnG prog 115 1 [.int .i64 room] [.star []] (PV.ptr) (fun v=>[ZmQ (List.replicate (roomN room) []) (List.replicate (roomN room) []) 0 v]):=by
 refine FnG.mk func115 rfl ntmps115 rfl kr fun B F0 a w F V hG G=>?_
 have hr:=ZrC room
 refine Ya (rZ G (qC qZ) V [2,0] [1,0] fun G=>Ya ?_)
 refine Zf G (qR rr (qf (ZnR .t qi) r1 qz (qf (o_min .t qi) r1 qz (qO rr qZ)))) V [2,0] [1,0] rfl rfl fun a w F G=>?_
 rw [hr] at G
 refine Za (Ya (ZaI G (qR rr (qf (ZaE (R:=rV) (v:=(.slice none 0 0)) (c:=((roomN room:Nat):Int)) (sz:=1) (bs:=24) (zs:=[.slice none 0 0]) 101 underlying213 kr kr kr Zln .t .t (Yat _) (by have:=ZeI room;omega) (by have:=ZeI room;omega)) r2 qz (qR rr (qf (ZaE (R:=rV) (v:=(.slice none 0 0)) (c:=((roomN room:Nat):Int)) (sz:=1) (bs:=24) (zs:=[.slice none 0 0]) 102 underlying213 kr kr kr Zln .t .t (Yat _) (by have:=ZeI room;omega) (by have:=ZeI room;omega)) r2 qz (qf (oB [(0,.tmp 7),(1,.tmp 9)] [.slice none 0 0,.slice none 0 0,.int .i64 0] [(0,1),(1,1),(2,1)] (.same rfl kr (.same rfl kr .nil))) r2 qz (qf (oX 103 .t) r1 qz (qO rr qZ))))))) V [2] [103,102,101,1,0] (fun _=>rfl) (fun _=>rfl) fun τ a w F G=>?_))
 try dsimp only [RS.sub,SF.sub,CF.sub,csub,Anc.sub,List.map,Ze,xL,xM,Nat.reduceAdd,xD,xE,xT,xU,xC,xN,zCF,Zat,Zas,rInt,Zak] at G
 generalize τ 11=v11 at G
 generalize τ 7=v7 at G
 generalize τ 9=v9 at G
 rw [Yb] at G
 refine Za (Yh ?_)
 obtain ⟨b,rfl⟩:=G.shape 103 rfl
 replace G:=G.turn 101 rfl (Zkv)
 replace G:=G.turn 102 rfl (Zkv)
 obtain ⟨F,G⟩:=G.push 1 102 rfl rfl rfl kr
 obtain ⟨F,G⟩:=G.push 1 101 rfl rfl rfl kr
 obtain ⟨F,G⟩:=G.push 1 103 rfl rfl rfl kr
 have G:=G.turn 1 rfl (r':=RS.hp (ZmQ (List.replicate (roomN room) []) (List.replicate (roomN room) []) 0 (Value.pointer (some { block:=b,off:=0 })))) (fun _ _ _ _ h=>⟨_,_,h⟩)
 refine Z8 (h':=fun v=>ZmQ (List.replicate (roomN room) []) (List.replicate (roomN room) []) 0 v) hG G rfl (.tmp rfl .nil) (.one .ptr) rfl
end Go.Proofs.YtlkpllemoepamaaGreat
