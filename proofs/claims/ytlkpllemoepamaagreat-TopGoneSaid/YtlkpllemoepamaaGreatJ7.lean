/- Texts put together. No condition beyond those that each theorem says. -/
import Derived.Test.YtlkpllemoepamaaGreatJ6
import Derived.Test.YtlkpllemoepamaaGreatJ3
import Derived.Test.YtlkpllemoepamaaGreatJ5
import Derived.Test.YtlkpllemoepamaaGreatJ0
import Derived.Test.YtlkpllemoepamaaGreatJ4
import Derived.Test.YtlkpllemoepamaaGreatJ1
import Derived.Test.YtlkpllemoepamaaGreatLibG
import Derived.Shelf.SlIter.Collect
import Derived.Maps.RangeRun
import Derived.Sort.MapsRangeIn
import Derived.RangeFuncBound
namespace Go.Proofs.YtlkpllemoepamaaGreat
open Go Go.Gm Tryz
set_option linter.unusedVariables false
set_option linter.unusedSimpArgs false
set_option maxHeartbeats 4000000
set_option maxRecDepth 8000
theorem ZuN (l:List Int) (hl:l≠[]):FnP prog 224 [.sl Zn l] (.int .i64 (ZjQ l)):=by
 refine FnP.mk func224 rfl ntmps224 rfl fun B a w F V hfr G=>?_
 have hxl:=Sat.lenSl G (i:=0) rfl
 have hl0:0<l.length:=YaA.2 hl
 refine Ya (rZ G (qI qZ) V [2,0] [0] fun G=>(Ya (Ya ?_)))
 refine rZ G (qR rr (qu underlying45 r1 (qf (ZaC .t qi) r1 qz qZ))) V [7,2,0] [0] fun G=>?_
 refine Zc G rfl (fun hc0=>?_) (fun hc0=>?_)
 ·have:=Yq hc0;omega
 refine Ye (Za (Ya (Ze G (qR rr (qf (o_indexAddr_sl (sz:=1) (.mk underlying45 kr) (by intro x;rfl) .t qi ow ow) r1 qz (qf (oR false 1 .t) r1 qz (qO rr qZ)))) V [3,2,0] [0] rfl rfl fun a w F G=>?_)))
 try simp only [Yb] at G
 try rw [show (0:Int).toNat=0 from rfl] at G
 refine Za (Ya (Ya (rZ G (qI qZ) V [4,3,2,0] [0] fun G=>Yg ?_)))
 replace G:=G.ent (i:=3) (s':=.pv (.int .i64 (ZjQ (l.take 1)))) rfl (.int (Zr2 hl))
 replace G:=G.ent (i:=4) (s':=.pv (.int .i64 ((1:Nat):Int))) rfl (.int rfl)
 refine Zk (σ:=Nat) [0,2] [0] (fun s=>[(3,.pv (.int .i64 (ZjQ (l.take s)))),(4,.pv (.int .i64 (s:Int)))]) (fun s=>[]) (fun s=>1≤s∧s≤l.length) (fun s=>l.length - s) (1) G ⟨rfl,rfl,rfl,rfl,tv⟩ ⟨rfl,tv⟩ ⟨YN _,hl0⟩ ?_
 clear G;intro i a w F hC G
 try dsimp only at hC
 obtain ⟨F,G⟩:=G.nM [4,3,2,0] [0]
 try dsimp only at G
 obtain ⟨hi1,hi2⟩:=hC
 refine Ya (Ya (rZ G (qR rr (qR rr (qu underlying45 r1 (qL r2)))) V [15,4,3,2,0] [0] fun G=>?_))
 refine Zc G rfl (fun hc1=>?_) (fun hc1=>?_)
 ·have hil:i<l.length:=by have:=Yq hc1;omega
  refine Ye (Za (Ya (Yg (Ze G (qR rr (qR rr (qR rr (qy 1 underlying45 r2 (qf (oR false 1 .t) r1 qz (qf (o_min .t .t) r2 qz (qO rr qZ))))))) V [4,3,2,0] [0] rfl rfl fun a w F G=>?_))))
  try simp only [Yb] at G
  refine Zh (Za (rZ G (qR rr (qp r1 (qO rr qZ))) V [4,3,2,0] [0] fun G=>?_))
  replace G:=G.ent (i:=3) (s':=.pv (.int .i64 (ZjQ (l.take (i+1))))) rfl (.int (ZpD hi1 hil))
  replace G:=G.ent (i:=4) (s':=.pv (.int .i64 ((i+1:Nat):Int))) rfl (.int (Zd ow))
  obtain ⟨F,G⟩:=G.nM [2,0,4,3] [0]
  exact ⟨(i+1),F,⟨by omega,by omega⟩,G,by omega⟩
 have hil:i=l.length:=by have:=YJ hc1;omega
 refine Yv (Zi (Zi (Zo (Za (Ya (rZ G (qR rr (qO rr qZ)) V [2] [0] fun G=>Yh ?_))))))
 refine Zr hfr G rfl rfl rfl (.int (by rw [hil,Yz]))
theorem Zt5 (b:Nat) (cps:List PV) (f:FuncId) (n:Nat) (sd:Zbz) (x:Int) (hx:x ∈ sd.wait) (hrng:∀ u ∈ sd.wait,0≤u∧u<(n:Int)) (hn:n≤4096) (hlw:sd.wh.length=n) (hll:sd.lo.length=n) (hlo:sd.out.length=n) (hwl:sd.wait.length≤n):FnG prog 201 1 [.is (.pointer (some ⟨b,0,none⟩)),.int .i64 x] [ZcJ (.clos f cps) n sd (.pointer (some ⟨b,0,none⟩))] (.tup []) (fun _=>[ZcJ (.clos f cps) n (leaveD n sd x) (.pointer (some ⟨b,0,none⟩))]):=by
 refine FnG.mk func201 rfl ntmps201 rfl kr fun B F0 a w F V hG G=>?_
 obtain ⟨hx1,hx2⟩:=hrng x hx
 refine Ya (Ya ?_)
 obtain ⟨wv,G⟩:=G.open_ex 1 rfl
 obtain ⟨lv,G⟩:=G.open_ex 1 rfl
 obtain ⟨sv,G⟩:=G.open_ex 1 rfl
 obtain ⟨iv,G⟩:=G.open_ex 1 rfl
 obtain ⟨ov,G⟩:=G.open_ex 1 rfl
 obtain ⟨F,G⟩:=G.peel 1 2 rfl rfl
 obtain ⟨F,G⟩:=G.peel 1 3 rfl rfl
 obtain ⟨F,G⟩:=G.peel 1 4 rfl rfl
 obtain ⟨F,G⟩:=G.peel 1 5 rfl rfl
 obtain ⟨F,G⟩:=G.peel 1 6 rfl rfl
 obtain ⟨F,G⟩:=G.peel 1 7 rfl rfl
 replace G:=G.turn 5 rfl (r':=.ob (.val sv) (fun v=>stH v n sd.wait)) (fun _ _ _ _ h=>h)
 obtain ⟨_,_,_,ho⟩:=G.obGet 5 rfl
 obtain ⟨sb,rfl⟩:=ZeL ho
 clear ho
 replace G:=G.turn 6 rfl (r':=.ob (.val iv) (Zhl n sd.inn)) (fun _ _ _ _ h=>h)
 obtain ⟨_,_,_,ho⟩:=G.obGet 6 rfl
 obtain ⟨ib,rfl⟩:=Zdi ho
 clear ho
 replace G:=G.turn 5 rfl (r':=RS.hp (stH (.pointer (some ⟨sb,0,none⟩)) n sd.wait)) (fun _ _ _ _ h=>h)
 replace G:=G.turn 6 rfl (r':=RS.hp (Zhl n sd.inn (.pointer (some ⟨ib,0,none⟩)))) (fun _ _ _ _ h=>h)
 obtain ⟨F,G⟩:=G.nM [1,0] [7,6,5,4,3,2,0]
 refine Zv G (qR rr (qf (o_nilCheck 2 .is (by rfl)) r1 r1 (qf (oF 2 2 .adr) r1 r1 (qa 2 r1 r1 (qR rr (qf (o_indexAddr_row (sz:=1) 4 (.mk underlying226 kr) .is .t ow ow (by rfl)) r2 r1 (qf (Zt (ag:=false) (sz':=1) (sz:=1) 4 .t (by intro x;rfl) ow kr kr kr) r1 r1 (qR rr (qf (o_nilCheck 2 .is (by rfl)) r1 r1 (qf (oF 1 2 .adr) r1 r1 (qa 2 r1 r1 (qR rr (qf (o_indexAddr_row (sz:=1) 3 (.mk underlying226 kr) .is .t ow ow (by rfl)) r2 r1 (qf (Zt (ag:=false) (sz':=1) (sz:=1) 3 .t (by intro x;rfl) ow kr kr kr) r1 r1 (qf (o_neq .t .t) r2 qz qZ))))))))))))))) V [24,1,0] [7,6,5,4,3,2,0] rfl rfl fun a w F G=>?_
 try dsimp only [List.map,xD,xE,xT,xU,ldSF,Zn,Zgi,Zi5] at G
 try simp only [Yb] at G
 refine Za (Zc G rfl (fun hc0=>?_) (fun hc0=>?_))
 ·have hg:leaveD n sd x=sd:=by unfold leaveD;rw [Yc];rw [ZaL hx1,ZaL hx1];simpa using hc0
  refine Yh (Zl ?_)
  have G:=G.fresh 1 rfl
  obtain ⟨F,G⟩:=G.push 1 7 rfl rfl rfl kr
  obtain ⟨F,G⟩:=G.push 1 6 rfl rfl rfl kr
  obtain ⟨F,G⟩:=G.push 1 5 rfl rfl rfl kr
  obtain ⟨F,G⟩:=G.push 1 4 rfl rfl rfl kr
  obtain ⟨F,G⟩:=G.push 1 3 rfl rfl rfl kr
  obtain ⟨F,G⟩:=G.push 1 2 rfl rfl rfl kr
  have G:=G.turn 1 rfl (r':=RS.hp (ZcJ (.clos f cps) n sd (.pointer (some ⟨b,0,none⟩)))) (fun _ _ _ _ h=>⟨_,_,_,_,_,h⟩)
  rw [hg]
  refine Zad hG G rfl .nil .none rfl
 have hg:leaveD n sd x=ZnZ n sd x (ZjQ (partL sd.wait x)):=by unfold leaveD;rw [Yf];rw [ZaL hx1,ZaL hx1];simpa using hc0
 refine Ye (Za (Ya (rZ G (qC qZ) V [4,1,0] [7,6,5,4,3,2,0] fun G=>(Ya (Yg ?_)))))
 replace G:=G.fresh 50 rfl
 replace G:=G.turn 50 rfl (ZaD (T:=3) (sz:=1) (R:=Zn))
 replace G:=G.turn 5 rfl (r':=RS.hp (stH (.pointer (some ⟨sb,0,none⟩)) n (sd.wait.take (sd.wait.length - 0)))) (by rw [YbV,Yz];exact fun _ _ _ _ h=>h)
 refine Zk (σ:=Nat×Value×List Int) [0,1] [0,2,3,4,7] (fun s=>[(4,.pv (.is s.2.1))]) (fun s=>[(5,RS.hp (stH (.pointer (some ⟨sb,0,none⟩)) n (sd.wait.take (sd.wait.length - s.1)))),(6,RS.hp (Zhl n (innL n s.2.2 sd.inn) (.pointer (some ⟨ib,0,none⟩)))),(50,.ob (.val s.2.1) (Zu 3 1 Zn s.2.2))]) (fun s=>s.1<sd.wait.length∧s.2.2=sd.wait.reverse.take s.1∧x ∉ s.2.2) (fun s=>sd.wait.length - s.1) ((0),(.slice none 0 0),([])) G ⟨rfl,rfl,rfl,tv⟩ ⟨rfl,rfl,rfl,rfl,rfl,rfl,rfl,rfl,tv⟩ ⟨List.length_pos_of_mem hx,rfl,by simp⟩ ?_
 clear G;intro s a w F hC G
 obtain ⟨k,v4,out⟩:=s
 try dsimp only at hC
 obtain ⟨F,G⟩:=G.nM [4,1,0] [50,7,6,5,4,3,2,0]
 try dsimp only at G
 obtain ⟨hk,hq,hxo⟩:=hC
 have hol:out.length≤k:=by rw [hq,Yi];omega
 rw [(Zk2 hk).2] at G
 have hyr:=hrng _ (nth_mem (show sd.wait.length - (k+1)<sd.wait.length by omega))
 refine Yg (Ya (rZ G (qR rr (qf (o_nilCheck 2 .is (by rfl)) r1 r1 (qf (oF 3 2 .adr) r1 r1 (qa 2 r1 r1 (qf (ZK 5 (Zuh sb n (sd.wait.take (sd.wait.length - (k+1))) (Nn sd.wait (sd.wait.length - (k+1))) (by rw [Yi];omega)) func223 rfl kr (Args.one .t)) r1 r1 (qR rr (qf (Zj .t rfl) r1 qz (qf (Zj .t rfl) r1 qz (qO rr (qO rr qZ)))))))))) V [6,5,4,1,0] [50,7,6,5,4,3,2,0] fun G=>(Ya (Ya ?_))))
 refine rZ G (qR rr (qf (o_not .t) r1 qz qZ)) V [34,5,4,1,0] [50,7,6,5,4,3,2,0] fun G=>?_
 refine Zc G rfl (fun hc1=>?_) (fun hc1=>?_)
 ·simp at hc1
 refine Ye (Za (Ya (Ze G (qR rr (qf (o_nilCheck 2 .is (by rfl)) r1 r1 (qf (oF 4 2 .adr) r1 r1 (qa 2 r1 r1 (qR rr (qf (ZK 6 (Zlm ib n (innL n out sd.inn) (Nn sd.wait (sd.wait.length - (k+1))) false) func222 rfl kr (Args.three .t .t .cb)) r2 r1 qZ)))))) V [5,4,1,0] [50,7,6,5,4,3,2,0] rfl rfl fun a w F G=>?_)))
 rw [ZnE] at G
 refine Za (Ya (Zb G (qR rr (qR rr (qf (o_buildSliceE (sz:=1) (zs:=[.int .i64 0]) (r:=[(0,.tmp 42)]) (l:=[_]) underlying45 kr kr kr kr rfl rfl (.one rfl .t one_int kr .nil) rfl) r1 qz (qf (ZV (sz:=1) (bs:=8) 50 (.mk' underlying45 kr kr) (by intro x;rfl) .is (.arr (l':=[(Nn sd.wait (sd.wait.length - (k+1)))]) .t) (by simp only [Yd,Yl,Yy];omega) (by decide)) ⟨rfl,rfl,tv⟩ ⟨rfl,tv⟩ (qO rr qZ))))) V [5,4,1,0] [50,7,6,5,4,3,2,0] (fun _=>rfl) (fun _=>rfl) fun τ a w F G=>?_))
 try dsimp only [RS.sub,SF.sub,CF.sub,csub,Anc.sub,List.map,Zf,xL,xM,Nat.reduceAdd,xD,xE,xT,xU,xC,xN,zCF,Zn,Zgi,Zi5] at G
 generalize τ 44=v44 at G
 refine Za (Ya (rZ G (qR rr (qR rr (qf (o_eql .t .t) r2 qz qZ))) V [47,4,1,0] [50,7,6,5,4,3,2,0] fun G=>?_))
 refine Zc G rfl (fun hc2=>?_) (fun hc2=>?_)
 ·have hyx:(Nn sd.wait (sd.wait.length - (k+1)))=x:=by simpa using hc2
  obtain ⟨hp1,hp2⟩:=Zt6 hk (by rw [← hq];exact hxo) hyx
  rw [hyx] at G
  subst hq
  rw [hp1,hp2] at G
  have hpl:(partL sd.wait x).length≤4096:=by rw [← hp1,Yd,Yi,List.length_reverse,YM];omega
  refine Yv (Zpp (by decide) ?_)
  refine Zi (Zo (Za (Ya ?_)))
  obtain ⟨F,G⟩:=G.give 50 4 rfl rfl
  obtain ⟨F,G⟩:=G.nM [47,4,1,0] [7,6,5,4,3,2,0]
  refine rZ G (qR rr (qf (oP (ZuN (partL sd.wait x) (Zhv _ _)) func224 (Args.one .t)) r1 qz (qO rr qZ))) V [7,4,0] [7,6,5,4,3,2,0] fun G=>Ya ?_
  refine rZ G (qR rr (qu underlying45 r1 (qJ qZ))) V [52,51,50,7,0] [7,6,5,4,3,2,0] fun G=>Yg ?_
  refine Zk (σ:=(Nat)) [0,7,50,51] [0,2,3,4,5,6] (fun s=>[(52,.pv (.int .i64 (s:Int)))]) (fun s=>[(7,.ob (.val ov) (Zu 3 1 Zn (outL ((partL sd.wait x).take s) (ZjQ (partL sd.wait x)) sd.out)))]) (fun s=>s≤(partL sd.wait x).length∧(True)) (fun s=>(partL sd.wait x).length - s) (0) G ⟨rfl,rfl,rfl,rfl,rfl,tv⟩ ⟨rfl,rfl,rfl,rfl,rfl,rfl,rfl,tv⟩ ⟨Yx _,tv⟩ ?_
  clear G;intro i a w F hC G
  try dsimp only at hC
  obtain ⟨F,G⟩:=G.nM [52,51,50,7,0] [7,6,5,4,3,2,0]
  try dsimp only at G
  obtain ⟨hi,hq⟩:=hC
  refine Ya (rZ G (qL r2) V [53,52,51,50,7,0] [7,6,5,4,3,2,0] fun G=>Ya ?_)
  refine Zc G rfl (fun hc3=>?_) (fun hc3=>?_)
  ·have hil:i<(partL sd.wait x).length:=by simp at hc3;omega
   have hyr2:=hrng _ (Zqe hx (nth_mem hil))
   have hol2:(outL ((partL sd.wait x).take i) (ZjQ (partL sd.wait x)) sd.out).length=n:=by rw [ZhG];exact hlo
   refine Ye (Za (Ya (Yg (Ya (Ze G (qy 1 underlying45 r2 (qf (oR false 1 .t) r1 qz (qO rr qZ))) V [52,51,50,9,7,0] [7,6,5,4,3,2,0] rfl rfl fun a w F G=>?_)))))
   try simp only [Yb] at G
   refine Za (Ze G (qR rr (qf (o_nilCheck 2 .is (by rfl)) r1 r1 (qf (oF 6 2 .adr) r1 r1 (qa 2 r1 r1 (qR rr (qR rr (qf (o_indexAddr_row (sz:=1) 7 (.mk underlying45 kr) .is .t ow ow (by rfl)) r2 r1 (qf (ZH (R:=Zn) (sz:=1) (v:=(ZjQ (partL sd.wait x))) 7 .t (by intro x;rfl) ow .t rfl one_int kr) r2 r1 qZ)))))))) V [52,51,50,7,0] [7,6,5,4,3,2,0] rfl rfl fun a w F G=>?_)
   try simp only [Yb] at G
   refine Zh (Za (rZ G (qp r1 (qR rr qZ)) V [52,51,50,7,0] [7,6,5,4,3,2,0] fun G=>?_))
   rw [ZoK hil] at G
   replace G:=G.ent (i:=52) (s':=.pv (.int .i64 ((i+1:Nat):Int))) rfl (.int (Zd ow))
   obtain ⟨F,G⟩:=G.nM [51,50,7,0,52] [6,5,4,3,2,0,7]
   exact ⟨(i+1),F,⟨by omega,tv⟩,G,by omega⟩
  have hil:i=(partL sd.wait x).length:=by simp at hc3;omega
  refine Yv (Zi (Zi (Zo ?_)))
  rw [hil,Yz] at G
  have G:=G.fresh 1 rfl
  obtain ⟨F,G⟩:=G.push 1 7 rfl rfl rfl kr
  obtain ⟨F,G⟩:=G.push 1 6 rfl rfl rfl kr
  obtain ⟨F,G⟩:=G.push 1 5 rfl rfl rfl kr
  obtain ⟨F,G⟩:=G.push 1 4 rfl rfl rfl kr
  obtain ⟨F,G⟩:=G.push 1 3 rfl rfl rfl kr
  obtain ⟨F,G⟩:=G.push 1 2 rfl rfl rfl kr
  have G:=G.turn 1 rfl (r':=RS.hp (ZcJ (.clos f cps) n (ZnZ n sd x (ZjQ (partL sd.wait x))) (.pointer (some ⟨b,0,none⟩)))) (fun _ _ _ _ h=>⟨_,_,_,_,_,h⟩)
  rw [hg]
  refine Zad hG G rfl .nil .none rfl
 have hyx:¬ (Nn sd.wait (sd.wait.length - (k+1)))=x:=by simpa using hc2
 refine Ye (Zh (Za ?_))
 have hno:x ∉ out ++ [(Nn sd.wait (sd.wait.length - (k+1)))]:=by rw [YD,Yj];exact fun h9=>h9.elim hxo fun h8=>hyx h8.symm
 have hq2:out ++ [(Nn sd.wait (sd.wait.length - (k+1)))] = sd.wait.reverse.take (k+1):=by rw [hq];exact (Zk2 hk).1
 obtain ⟨F,G⟩:=G.nM [1,0,4] [7,4,3,2,0,50,6,5]
 exact ⟨((k+1),_,_),F,⟨Zoj hx (by rw [← hq2];exact hno),hq2,hno⟩,G,by omega⟩
theorem TI.adjLe {n:Nat} {adj:Int→List Int} {q:Zbz} {way:ZmK} (h:TI n adj q way) {r:Int×List Int} (hr:r ∈ way):∀ y ∈ r.2,y ∈ adj r.1:=h.tj.sub r (Yal.2 hr)
theorem Zvh (b : Nat) (n : Nat) (adj : Int → List Int) (f : FuncId) (fn : Func) (cps : List PV) (hf : prog.funcs[f]? = some fn) (hb : fn.body.isSome = true) (hnn : (fn.name == "runtime.NumGoroutine") = false) (hw : ∀ u, 0 ≤ u ∧ u < (n : Int) → FnP prog f ([.int .i64 u] ++ cps) (.sl Zn (adj u))) (hadj : ∀ u y, y ∈ adj u → 0 ≤ y ∧ y < (n : Int)) (hal : ∀ u, (adj u).length ≤ 4096) (sd : Zbz) (x : Int) (hx1 : 0 ≤ x) (hx2 : x < n) (hn : n ≤ 4096) (hI : TI n adj sd []) (h0 : fI sd.wh x = 0) : FnG prog 163 1 [.is (.pointer (some ⟨b, 0, none⟩)), .int .i64 x] [ZcJ (.clos f cps) n sd (.pointer (some ⟨b, 0, none⟩))] (.tup []) (fun _ => [.ex fun t : Zbz => .and (TI n adj t [] ∧ fI t.wh x ≠ 0 ∧ ∀ y, fI sd.wh y ≠ 0 → fI t.wh y ≠ 0) (ZcJ (.clos f cps) n t (.pointer (some ⟨b, 0, none⟩)))]) := by
 refine FnG.mk func163 rfl ntmps163 rfl kr fun B F0 a w F V hG G=>Ya ?_
 refine Zb G (qR rr (qR rr (qf (ZK 1 (Zsy b n adj f fn cps hf hb hnn hw sd x hx1 hx2 hn hI.lw hI.ll hI.ckLe (hI.waitLt ⟨hx1,hx2⟩ h0)) func200 rfl kr (Args.two .t .t)) r2 r1 (qf (Zm1 (R:=Zi5) (l:=[(x,adj x)]) (sz:=2) (zs:=[.int .i64 0,.slice none 0 0]) (r:=[(0,.tmp 11)]) 101 underlying278 kr kr kr kr rfl rfl (.agg rfl (.conv .t .agg) kr kr .nil) rfl rfl (by intro x;rfl)) r1 qz (qO rr qZ))))) V [4,0] [101,1,0] (fun _=>rfl) (fun _=>rfl) fun τ a w F G=>?_
 try dsimp only [RS.sub,SF.sub,CF.sub,csub,Anc.sub,List.map,Zf,xL,xM,Nat.reduceAdd,xD,xE,xT,xU,xC,xN,zCF,Zn,Zgi,Zi5] at G
 generalize τ 12=v12 at G
 refine Za (Yg (Zk (σ:=Zbz×ZmK×Value) [0] [0] (fun s=>[(4,.pv (.is s.2.2))]) (fun s=>[(1,RS.hp (ZcJ (.clos f cps) n s.1 (.pointer (some ⟨b,0,none⟩)))),(101,.ob (.val s.2.2) (Zu 276 2 Zi5 s.2.1))]) (fun s=>FrI n adj sd.wh x s.1 s.2.1) (fun s=>muF n adj s.1 s.2.1) ((Zbv n sd x),([(x,adj x)]),(v12)) G ⟨rfl,rfl,tv⟩ ⟨rfl,rfl,rfl,tv⟩ (FrI.start ⟨hx1,hx2⟩ hI h0) ?_))
 clear G;intro s a w F hC G
 obtain ⟨q,way,wv2⟩:=s
 try dsimp only at hC
 obtain ⟨F,G⟩:=G.nM [4,0] [101,1,0]
 try dsimp only at G
 have hFr:FrI n adj sd.wh x q way:=hC
 refine Ya (Ya (rZ G (qR rr (qf (ZS 101 underlying278 .is) r1 r1 (qf (ZaR .t qi) r1 qz qZ))) V [15,4,0] [101,1,0] fun G=>?_))
 refine Zc G rfl (fun hc0=>?_) (fun hc0=>?_)
 ·skip
  obtain ⟨wy,⟨vd,nx⟩,rfl⟩:=Zoz (l:=way) (by intro e;subst e;simp at hc0)
  have hI2:=hFr.1
  have hvn:=hI2.nodes (vd,nx) (by simp)
  have hwl:=hI2.wayLen
  rw [Yd,YM] at hwl
  have hw1:IntKind.wrap .i64 (((wy ++ [(vd,nx)]).length:Int) - 1)=((wy.length:Nat):Int):=by rw [ZA (by rw [Yd,YM];omega),Yd,YM];omega
  refine Ye (Za (Yg (Ya (Ze G (qR rr (qR rr (qf (ZS 101 underlying278 .is) r1 r1 (qf (o_sub .t qi) r1 qz (qf (o_indexAddr_row (sz:=2) 101 (.mk underlying278 kr) .is .t (by rw [hw1];omega) (by rw [hw1,Yd,YM];omega) (by rfl)) r2 r1 (qO rr qZ)))))) V [5,4,0] [101,1,0] rfl rfl fun a w F G=>?_))))
  try simp only [Yb] at G
  rw [hw1,Yb] at G
  refine Za (Ya (Ya (Ze G (qR rr (qf (o_nilCheck_row0 (sz:=2) 101 .t (by intro x;rfl) (by simp)) r1 r1 (qf (o_fieldAddr_row (off:=1) (sz:=2) 101 .t (by simp) kr (by rfl)) r1 r1 (qf (Zah (ag:=false) (sz':=1) (sz:=2) 101 .t (by intro x;rfl) (by simp) kr kr kr) r1 r1 (qu underlying45 r1 (qf (o_eql .t qi) r1 qz qZ)))))) V [26,5,4,0] [101,1,0] rfl rfl fun a w F G=>?_)))
  rw [nth_last] at G
  try dsimp only at G
  refine Za (Zc G rfl (fun hc1=>?_) (fun hc1=>?_))
  ·skip
   have hnx:nx = []:=by simpa using hc1
   subst hnx
   refine Ya (Zap 5 G kr (cG rfl (oM .t) r1 trivial (cG rfl (oM .t) r1 trivial (cG rfl (o_nilCheck_row0 (sz:=2) 101 .t (by intro x;rfl) (by simp)) r1 r1 (cG rfl (o_fieldAddr_row (off:=0) (sz:=2) 101 .t (by simp) kr (by rfl)) r1 r1 (cG rfl (Zah (ag:=false) (sz':=1) (sz:=2) 101 .t (by intro x;rfl) (by simp) kr kr kr) r1 r1 ChainN.nil))))) kr (by rw [V];kernel_rfl) fun a w F G=>?_)
   obtain ⟨F,G⟩:=G.nM [31,27,5,4,0] [101,1,0]
   try dsimp only [List.map,xD,xE,xT,xU,ldSF,Zn,Zgi,Zi5] at G
   rw [nth_last] at G
   try dsimp only at G
   refine ZaJ G kr (cG rfl (ZK 1 (Zt5 b cps f n q vd hvn.1 hI2.rng hn hI2.lw hI2.ll hI2.lout hI2.waitLe) func201 rfl kr (Args.two .t .t)) r2 r1 ChainN.nil) kr (by rw [V];kernel_rfl) fun a w F G=>?_
   obtain ⟨F,G⟩:=G.nM [5,4,0] [101,1,0]
   try dsimp only [Zn,Zgi,Zi5] at G
   refine Za (Ya (Ze G (qR rr (qf (o_nilCheck_row0 (sz:=2) 101 .t (by intro x;rfl) (by simp)) r1 r1 (qf (o_fieldAddr_row (off:=0) (sz:=2) 101 .t (by simp) kr (by rfl)) r1 r1 (qf (Zah (ag:=false) (sz':=1) (sz:=2) 101 .t (by intro x;rfl) (by simp) kr kr kr) r1 r1 (qO rr qZ))))) V [6,5,4,0] [101,1,0] rfl rfl fun a w F G=>?_))
   rw [nth_last] at G
   try dsimp only at G
   refine Za (Ya (Zb G (qR rr (qR rr (qf (ZS 101 underlying278 .is) r1 r1 (qf (o_sub .t qi) r1 qz (qf (ZbE (sz:=2) 101 (.mk underlying278 kr) (by intro x;rfl) .is .t (by rw [hw1];omega) (by rw [hw1,Yd,YM];omega)) r2 r1 (qO rr qZ)))))) V [6,5,4,0] [101,1,0] (fun _=>rfl) (fun _=>rfl) fun τ a w F G=>?_))
   try dsimp only [RS.sub,SF.sub,CF.sub,csub,Anc.sub,List.map,Zn,Zgi,Zi5] at G
   generalize τ 41=v41 at G
   rw [hw1,Yb,List.take_left] at G
   refine Za (Ya (Ya (rZ G (qR rr (qf (ZS 101 underlying278 .is) r1 r1 (qf (ZaR .t qi) r1 qz qZ))) V [44,6,5,4,0] [101,1,0] fun G=>?_)))
   refine Zc G rfl (fun hc2=>?_) (fun hc2=>?_)
   ·skip
    obtain ⟨wy2,⟨u,nu⟩,rfl⟩:=Zoz (l:=wy) (by intro e;subst e;simp at hc2)
    have hun:=hI2.nodes (u,nu) (by simp)
    rw [Yd,YM] at hwl
    have hw2:IntKind.wrap .i64 (((wy2 ++ [(u,nu)]).length:Int) - 1)=((wy2.length:Nat):Int):=by rw [ZA (by rw [Yd,YM];omega),Yd,YM];omega
    have hlo2:(leaveD n q vd).lo=q.lo:=(ZfG n q vd).2
    have hl2:(leaveD n q vd).lo.length=n:=by rw [hlo2];exact hI2.ll
    refine Ya (Ze G (qR rr (qR rr (qf (ZS 101 underlying278 .is) r1 r1 (qf (o_sub .t qi) r1 qz (qf (o_indexAddr_row (sz:=2) 101 (.mk underlying278 kr) .is .t (by rw [hw2];omega) (by rw [hw2,Yd,YM];omega) (by rfl)) r2 r1 (qf (o_fieldAddr_row (off:=0) (sz:=2) 101 .t (by rw [hw2];simp) kr (by rfl)) r1 r1 (qf (Zah (ag:=false) (sz':=1) (sz:=2) 101 .t (by intro x;rfl) (by rw [hw2];simp) kr kr kr) r1 r1 (qO rr qZ)))))))) V [7,6,5,4,0] [101,1,0] rfl rfl fun a w F G=>?_)
    try simp only [Yb] at G
    rw [hw2,Yb,nth_last] at G
    try dsimp only at G
    refine Za ?_
    obtain ⟨wv,G⟩:=G.open_ex 1 rfl
    obtain ⟨lv,G⟩:=G.open_ex 1 rfl
    obtain ⟨sv,G⟩:=G.open_ex 1 rfl
    obtain ⟨iv,G⟩:=G.open_ex 1 rfl
    obtain ⟨ov,G⟩:=G.open_ex 1 rfl
    obtain ⟨F,G⟩:=G.peel 1 2 rfl rfl
    obtain ⟨F,G⟩:=G.peel 1 3 rfl rfl
    obtain ⟨F,G⟩:=G.peel 1 4 rfl rfl
    obtain ⟨F,G⟩:=G.peel 1 5 rfl rfl
    obtain ⟨F,G⟩:=G.peel 1 6 rfl rfl
    obtain ⟨F,G⟩:=G.peel 1 7 rfl rfl
    replace G:=G.turn 5 rfl (r':=.ob (.val sv) (fun v=>stH v n (leaveD n q vd).wait)) (fun _ _ _ _ h=>h)
    obtain ⟨_,_,_,ho⟩:=G.obGet 5 rfl
    obtain ⟨sb,rfl⟩:=ZeL ho
    clear ho
    replace G:=G.turn 6 rfl (r':=.ob (.val iv) (Zhl n (leaveD n q vd).inn)) (fun _ _ _ _ h=>h)
    obtain ⟨_,_,_,ho⟩:=G.obGet 6 rfl
    obtain ⟨ib,rfl⟩:=Zdi ho
    clear ho
    replace G:=G.turn 5 rfl (r':=RS.hp (stH (.pointer (some ⟨sb,0,none⟩)) n (leaveD n q vd).wait)) (fun _ _ _ _ h=>h)
    replace G:=G.turn 6 rfl (r':=RS.hp (Zhl n (leaveD n q vd).inn (.pointer (some ⟨ib,0,none⟩)))) (fun _ _ _ _ h=>h)
    obtain ⟨F,G⟩:=G.nM [7,6,5,4,0] [101,7,6,5,4,3,2,0]
    refine Zv G (qR rr (qf (o_nilCheck 2 .is (by rfl)) r1 r1 (qf (oF 2 2 .adr) r1 r1 (qa 2 r1 r1 (qR rr (qR rr (qf (o_nilCheck 2 .is (by rfl)) r1 r1 (qf (oF 2 2 .adr) r1 r1 (qa 2 r1 r1 (qR rr (qf (o_indexAddr_row (sz:=1) 4 (.mk underlying226 kr) .is .t ow ow (by rfl)) r2 r1 (qf (Zt (ag:=false) (sz':=1) (sz:=1) 4 .t (by intro x;rfl) ow kr kr kr) r1 r1 (qR rr (qf (o_nilCheck 2 .is (by rfl)) r1 r1 (qf (oF 2 2 .adr) r1 r1 (qa 2 r1 r1 (qR rr (qf (o_indexAddr_row (sz:=1) 4 (.mk underlying226 kr) .is .t ow ow (by rfl)) r2 r1 (qf (Zt (ag:=false) (sz':=1) (sz:=1) 4 .t (by intro x;rfl) ow kr kr kr) r1 r1 (qf (o_min .t .t) r2 qz (qf (o_indexAddr_row (sz:=1) 4 (.mk underlying226 kr) .is .t ow ow (by rfl)) r2 r1 (qf (ZH (R:=Zgi) (sz:=1) (v:=_) 4 .t (by intro x;rfl) ow .t rfl one_int kr) r2 r1 qZ)))))))))))))))))))))) V [5,4,0] [101,7,6,5,4,3,2,0] rfl rfl fun a w F G=>?_
    try dsimp only [List.map,Zf,xL,xM,Nat.reduceAdd,xD,xE,xT,xU,xC,xN,zCF,ldSF,Zn,Zgi,Zi5] at G
    try simp only [Yb] at G
    rw [show (if Nn (leaveD n q vd).lo vd.toNat<Nn (leaveD n q vd).lo u.toNat then Nn (leaveD n q vd).lo vd.toNat else Nn (leaveD n q vd).lo u.toNat)=min (fI q.lo u) (fI q.lo vd) by rw [hlo2,Zsu,← ZaL hun.2.1,← ZaL hvn.2.1]] at G
    refine Za (Yv (Zi (Zo (Za ?_))))
    have G:=G.fresh 1 rfl
    obtain ⟨F,G⟩:=G.push 1 7 rfl rfl rfl kr
    obtain ⟨F,G⟩:=G.push 1 6 rfl rfl rfl kr
    obtain ⟨F,G⟩:=G.push 1 5 rfl rfl rfl kr
    obtain ⟨F,G⟩:=G.push 1 4 rfl rfl rfl kr
    obtain ⟨F,G⟩:=G.push 1 3 rfl rfl rfl kr
    obtain ⟨F,G⟩:=G.push 1 2 rfl rfl rfl kr
    have G:=G.turn 1 rfl (r':=RS.hp (ZcJ (.clos f cps) n ({ leaveD n q vd with lo:=(leaveD n q vd).lo.set u.toNat (min (fI q.lo u) (fI q.lo vd)) }) (.pointer (some ⟨b,0,none⟩)))) (fun _ _ _ _ h=>⟨_,_,_,_,_,h⟩)
    obtain ⟨hE1,hE2⟩:=hFr.left
    obtain ⟨F,G⟩:=G.nM [0,4] [0,101,1]
    exact ⟨(({ leaveD n q vd with lo:=(leaveD n q vd).lo.set u.toNat (min (fI q.lo u) (fI q.lo vd)) }),(wy2 ++ [(u,nu)]),_),F,hE1,G,hE2⟩
   have hwe:wy = []:=by cases wy with | nil=>rfl | cons r l=>simp at hc2
   subst hwe
   refine Ye (Za (Yv (Zi (Zo (Za ?_)))))
   obtain ⟨hE1,hE2⟩:=FrI.root hFr
   obtain ⟨F,G⟩:=G.nM [0,4] [0,101,1]
   exact ⟨((leaveD n q vd),([]),_),F,hE1,G,hE2⟩
  obtain ⟨y,nx,rfl⟩:∃ y l,nx=y :: l:=List.exists_cons_of_ne_nil (by intro e;subst e;simp at hc1)
  have hy:=hadj vd y (hI2.tj.sub (vd,y :: nx) (by simp) y (by simp))
  have hnl:=hI2.adjLe (r:=(vd,y :: nx)) (by simp)
  refine Ye (Za (Ya (Ze G (qR rr (qf (o_nilCheck_row0 (sz:=2) 101 .t (by intro x;rfl) (by simp)) r1 r1 (qf (o_fieldAddr_row (off:=1) (sz:=2) 101 .t (by simp) kr (by rfl)) r1 r1 (qf (Zah (ag:=false) (sz':=1) (sz:=2) 101 .t (by intro x;rfl) (by simp) kr kr kr) r1 r1 (qf (o_indexAddr_sl (sz:=1) (.mk underlying45 kr) (by intro x;rfl) .t qi ow (by rw [nth_last];simp)) r1 qz (qf (oR false 1 .t) r1 qz (qO rr qZ))))))) V [8,5,4,0] [101,1,0] rfl rfl fun a w F G=>?_)))
  try simp only [Yb] at G
  try rw [show (0:Int).toNat=0 from rfl] at G
  rw [nth_last] at G
  try dsimp only at G
  rw [ZqD] at G
  refine Za (Ya (Zap 6 G kr (cG rfl (oM .t) r1 trivial (cG rfl (oM .t) r1 trivial (cG rfl (o_nilCheck_row0 (sz:=2) 101 .t (by intro x;rfl) (by simp)) r1 r1 (cG rfl (o_fieldAddr_row (off:=1) (sz:=2) 101 .t (by simp) kr (by rfl)) r1 r1 (cG rfl (Zah (ag:=false) (sz':=1) (sz:=2) 101 .t (by intro x;rfl) (by simp) kr kr kr) r1 r1 (cG rfl (o_slice_lo (sz:=1) (.mk underlying45 kr) (by intro x;rfl) .t (.ci kr) ow (by rw [nth_last];simp;omega)) r1 trivial ChainN.nil)))))) kr (by rw [V];kernel_rfl) fun a w F G=>?_))
  obtain ⟨F,G⟩:=G.nM [84,79,8,5,4,0] [101,1,0]
  try dsimp only [List.map,xD,xE,xT,xU,ldSF,Zn,Zgi,Zi5] at G
  replace G:=G.ent (i:=84) (s':=.pv (.sl Zn nx)) rfl (.sl (by rw [nth_last];rfl))
  refine ZaJ G kr (cG rfl (o_nilCheck_row0 (sz:=2) 101 .t (by intro x;rfl) (by simp)) r1 r1 (cG rfl (o_fieldAddr_row (off:=1) (sz:=2) 101 .t (by simp) kr (by rfl)) r1 r1 (cG rfl (Zc4 (R:=Zi5) (sz:=2) (off:=1) (v':=(vd,nx)) 101 .t (by intro x;rfl) (by simp) (by decide) .t one_sl (by rw [nth_last];rfl) kr) r2 r1 ChainN.nil))) kr (by rw [V];kernel_rfl) fun a w F G=>?_
  obtain ⟨F,G⟩:=G.nM [8,5,4,0] [101,1,0]
  try dsimp only [List.map,Zf,xL,xM,Nat.reduceAdd,xD,xE,xT,xU,xC,xN,zCF,Zn,Zgi,Zi5] at G
  rw [Zrn] at G
  refine Za (Yg (Ya ?_))
  obtain ⟨wv,G⟩:=G.open_ex 1 rfl
  obtain ⟨lv,G⟩:=G.open_ex 1 rfl
  obtain ⟨sv,G⟩:=G.open_ex 1 rfl
  obtain ⟨iv,G⟩:=G.open_ex 1 rfl
  obtain ⟨ov,G⟩:=G.open_ex 1 rfl
  obtain ⟨F,G⟩:=G.peel 1 2 rfl rfl
  obtain ⟨F,G⟩:=G.peel 1 3 rfl rfl
  obtain ⟨F,G⟩:=G.peel 1 4 rfl rfl
  obtain ⟨F,G⟩:=G.peel 1 5 rfl rfl
  obtain ⟨F,G⟩:=G.peel 1 6 rfl rfl
  obtain ⟨F,G⟩:=G.peel 1 7 rfl rfl
  replace G:=G.turn 5 rfl (r':=.ob (.val sv) (fun v=>stH v n q.wait)) (fun _ _ _ _ h=>h)
  obtain ⟨_,_,_,ho⟩:=G.obGet 5 rfl
  obtain ⟨sb,rfl⟩:=ZeL ho
  clear ho
  replace G:=G.turn 6 rfl (r':=.ob (.val iv) (Zhl n q.inn)) (fun _ _ _ _ h=>h)
  obtain ⟨_,_,_,ho⟩:=G.obGet 6 rfl
  obtain ⟨ib,rfl⟩:=Zdi ho
  clear ho
  replace G:=G.turn 5 rfl (r':=RS.hp (stH (.pointer (some ⟨sb,0,none⟩)) n q.wait)) (fun _ _ _ _ h=>h)
  replace G:=G.turn 6 rfl (r':=RS.hp (Zhl n q.inn (.pointer (some ⟨ib,0,none⟩)))) (fun _ _ _ _ h=>h)
  obtain ⟨F,G⟩:=G.nM [8,5,4,0] [101,7,6,5,4,3,2,0]
  refine Ze G (qR rr (qf (o_nilCheck 2 .is (by rfl)) r1 r1 (qf (oF 1 2 .adr) r1 r1 (qa 2 r1 r1 (qR rr (qf (o_indexAddr_row (sz:=1) 3 (.mk underlying226 kr) .is .t ow (by rw [hI2.lw];omega) (by rfl)) r2 r1 (qf (Zt (ag:=false) (sz':=1) (sz:=1) 3 .t (by intro x;rfl) (by rw [hI2.lw];omega) kr kr kr) r1 r1 (qf (o_eql .t qi) r1 qz (qO rr qZ))))))))) V [87,8,5,4,0] [101,7,6,5,4,3,2,0] rfl rfl fun a w F G=>?_
  try simp only [Yb] at G
  refine Za (Zc G rfl (fun hc3=>?_) (fun hc3=>?_))
  ·skip
   have h00:fI q.wh y=0:=by rw [ZaL hy.1];simpa using hc3
   have G:=G.fresh 1 rfl
   obtain ⟨F,G⟩:=G.push 1 7 rfl rfl rfl kr
   obtain ⟨F,G⟩:=G.push 1 6 rfl rfl rfl kr
   obtain ⟨F,G⟩:=G.push 1 5 rfl rfl rfl kr
   obtain ⟨F,G⟩:=G.push 1 4 rfl rfl rfl kr
   obtain ⟨F,G⟩:=G.push 1 3 rfl rfl rfl kr
   obtain ⟨F,G⟩:=G.push 1 2 rfl rfl rfl kr
   have G:=G.turn 1 rfl (r':=RS.hp (ZcJ (.clos f cps) n q (.pointer (some ⟨b,0,none⟩)))) (fun _ _ _ _ h=>⟨_,_,_,_,_,h⟩)
   obtain ⟨F,G⟩:=G.nM [87,8,5,4,0] [101,1,0]
   refine Zb G (qR rr (qR rr (qR rr (qf (ZK 1 (Zsy b n adj f fn cps hf hb hnn hw q y hy.1 hy.2 hn hI2.lw hI2.ll hI2.ckLe (hI2.waitLt hy h00)) func200 rfl kr (Args.two .t .t)) r2 r1 (qf (o_buildSliceE (sz:=2) (zs:=[.int .i64 0,.slice none 0 0]) (r:=[(0,.tmp 99)]) (l:=[_,_]) underlying278 kr kr kr kr rfl rfl (.agg rfl (.conv .t .agg) kr kr .nil) rfl) r1 qz (qf (ZV (sz:=2) (bs:=32) 101 (.mk' underlying278 kr kr) (by intro x;rfl) .is (.arr (l':=[(y,adj y)]) .t) (by simp only [Yd,Yl,Yy];omega) (by decide)) ⟨rfl,rfl,tv⟩ ⟨rfl,tv⟩ (qO rr qZ))))))) V [4,0] [101,1,0] (fun _=>rfl) (fun _=>rfl) fun τ a w F G=>?_
   try dsimp only [RS.sub,SF.sub,CF.sub,csub,Anc.sub,List.map,Zf,xL,xM,Nat.reduceAdd,xD,xE,xT,xU,xC,xN,zCF,Zn,Zgi,Zi5] at G
   generalize τ 101=v101 at G
   refine Zh (Zh (Za ?_))
   obtain ⟨hE1,hE2⟩:=hFr.meet hadj h00
   obtain ⟨F,G⟩:=G.nM [0,4] [0,101,1]
   exact ⟨((Zbv n q y),(wy ++ [(vd,nx)] ++ [(y,adj y)]),_),F,hE1,G,hE2⟩
  have h00:fI q.wh y≠0:=by rw [ZaL hy.1];simpa using hc3
  refine Ya (rZ G (qR rr (qf (o_nilCheck 2 .is (by rfl)) r1 r1 (qf (oF 4 2 .adr) r1 r1 (qa 2 r1 r1 (qR rr (qf (OpC.lend 6 [106] ZrQ (oP (Zrr n q.inn y) func202 (Args.two .t .t)) ⟨rfl,tv,tv⟩ (.pv (fun _ _ _ _ h=>h)) trivial (by rfl)) r2 r1 (qO rr qZ))))))) V [102,8,5,4,0] [101,7,6,5,4,3,2,0] fun G=>?_)
  refine Zc G rfl (fun hc4=>?_) (fun hc4=>?_)
  ·skip
   have hyq:y ∈ q.inn:=by simpa using hc4
   refine Zv G (qR rr (qf (o_nilCheck 2 .is (by rfl)) r1 r1 (qf (oF 2 2 .adr) r1 r1 (qa 2 r1 r1 (qR rr (qf (o_nilCheck_row0 (sz:=2) 101 .t (by intro x;rfl) (by simp)) r1 r1 (qf (o_fieldAddr_row (off:=0) (sz:=2) 101 .t (by simp) kr (by rfl)) r1 r1 (qf (Zah (ag:=false) (sz':=1) (sz:=2) 101 .t (by intro x;rfl) (by simp) kr kr kr) r1 r1 (qR rr (qf (o_nilCheck 2 .is (by rfl)) r1 r1 (qf (oF 2 2 .adr) r1 r1 (qa 2 r1 r1 (qR rr (qf (o_nilCheck_row0 (sz:=2) 101 .t (by intro x;rfl) (by simp)) r1 r1 (qf (o_fieldAddr_row (off:=0) (sz:=2) 101 .t (by simp) kr (by rfl)) r1 r1 (qf (Zah (ag:=false) (sz':=1) (sz:=2) 101 .t (by intro x;rfl) (by simp) kr kr kr) r1 r1 (qf (o_indexAddr_row (sz:=1) 4 (.mk underlying226 kr) .is .t (by rw [nth_last];exact hvn.2.1) (by rw [nth_last,hI2.ll];exact hvn.2.2) (by rfl)) r2 r1 (qf (Zt (ag:=false) (sz':=1) (sz:=1) 4 .t (by intro x;rfl) (by rw [nth_last,hI2.ll];have:=hvn.2;omega) kr kr kr) r1 r1 (qR rr (qf (o_nilCheck 2 .is (by rfl)) r1 r1 (qf (oF 1 2 .adr) r1 r1 (qa 2 r1 r1 (qR rr (qf (o_indexAddr_row (sz:=1) 3 (.mk underlying226 kr) .is .t ow (by rw [hI2.lw];omega) (by rfl)) r2 r1 (qf (Zt (ag:=false) (sz':=1) (sz:=1) 3 .t (by intro x;rfl) (by rw [hI2.lw];omega) kr kr kr) r1 r1 (qf (o_min .t .t) r2 qz (qf (o_indexAddr_row (sz:=1) 4 (.mk underlying226 kr) .is .t (by rw [nth_last];exact hvn.2.1) (by rw [nth_last,hI2.ll];exact hvn.2.2) (by rfl)) r2 r1 (qf (ZH (R:=Zgi) (sz:=1) (v:=_) 4 .t (by intro x;rfl) (by rw [nth_last,hI2.ll];have:=hvn.2;omega) .t rfl one_int kr) r2 r1 qZ)))))))))))))))))))))))))))) V [4,0] [101,7,6,5,4,3,2,0] rfl rfl fun a w F G=>?_
   try dsimp only [List.map,Zf,xL,xM,Nat.reduceAdd,xD,xE,xT,xU,xC,xN,zCF,ldSF,Zn,Zgi,Zi5] at G
   try simp only [Yb] at G
   rw [nth_last] at G
   try dsimp only at G
   rw [show (if Nn q.wh y.toNat<Nn q.lo vd.toNat then Nn q.wh y.toNat else Nn q.lo vd.toNat)=min (fI q.lo vd) (fI q.wh y) by rw [Zsu,← ZaL hy.1,← ZaL hvn.2.1]] at G
   refine Zh (Zh (Za ?_))
   have G:=G.fresh 1 rfl
   obtain ⟨F,G⟩:=G.push 1 7 rfl rfl rfl kr
   obtain ⟨F,G⟩:=G.push 1 6 rfl rfl rfl kr
   obtain ⟨F,G⟩:=G.push 1 5 rfl rfl rfl kr
   obtain ⟨F,G⟩:=G.push 1 4 rfl rfl rfl kr
   obtain ⟨F,G⟩:=G.push 1 3 rfl rfl rfl kr
   obtain ⟨F,G⟩:=G.push 1 2 rfl rfl rfl kr
   have G:=G.turn 1 rfl (r':=RS.hp (ZcJ (.clos f cps) n ({ q with lo:=q.lo.set vd.toNat (min (fI q.lo vd) (fI q.wh y)) }) (.pointer (some ⟨b,0,none⟩)))) (fun _ _ _ _ h=>⟨_,_,_,_,_,h⟩)
   obtain ⟨hE1,hE2⟩:=hFr.wait hyq
   obtain ⟨F,G⟩:=G.nM [0,4] [0,101,1]
   exact ⟨(({ q with lo:=q.lo.set vd.toNat (min (fI q.lo vd) (fI q.wh y)) }),(wy ++ [(vd,nx)]),_),F,hE1,G,hE2⟩
  have hyq:y ∉ q.inn:=by simpa using hc4
  refine Ye (Zh (Zh (Za ?_)))
  have G:=G.fresh 1 rfl
  obtain ⟨F,G⟩:=G.push 1 7 rfl rfl rfl kr
  obtain ⟨F,G⟩:=G.push 1 6 rfl rfl rfl kr
  obtain ⟨F,G⟩:=G.push 1 5 rfl rfl rfl kr
  obtain ⟨F,G⟩:=G.push 1 4 rfl rfl rfl kr
  obtain ⟨F,G⟩:=G.push 1 3 rfl rfl rfl kr
  obtain ⟨F,G⟩:=G.push 1 2 rfl rfl rfl kr
  have G:=G.turn 1 rfl (r':=RS.hp (ZcJ (.clos f cps) n q (.pointer (some ⟨b,0,none⟩)))) (fun _ _ _ _ h=>⟨_,_,_,_,_,h⟩)
  obtain ⟨hE1,hE2⟩:=hFr.past h00 hyq
  obtain ⟨F,G⟩:=G.nM [0,4] [0,101,1]
  exact ⟨((q),(wy ++ [(vd,nx)]),_),F,hE1,G,hE2⟩
 have hwe:way = []:=by cases way with | nil=>rfl | cons r l=>simp at hc0
 subst hwe
 refine Yv (Zi (Zi (Zo ?_)))
 have G:=G.turn 1 rfl (r':=RS.hp (.ex fun t:Zbz=>.and (TI n adj t []∧fI t.wh x≠0 ∧ ∀ y,fI sd.wh y≠0→fI t.wh y≠0) (ZcJ (.clos f cps) n t (.pointer (some ⟨b,0,none⟩))))) (fun _ _ _ _ h=>⟨q,hFr,h⟩)
 refine Zad hG G rfl .nil .none rfl
def EQ_ (q:List Zn3) (a b:Int):Prop:=(⟨a,b⟩:Zn3) ∈ q
def ZaX (N:List Int) (x:Int):List Int:=if x ∈ N then N else N ++ [x]
def Zdw (N:List Int) (e:Zg):List Int:=ZaX (ZaX N e.src) e.dst
def ZI (l:List Zg):List Int:=l.foldl Zdw []
theorem Zq7 (N:List Int) (x:Int):x ∈ ZaX N x:=by
 unfold ZaX;split
 ·assumption
 ·simp
theorem ZjB {N:List Int} {x y:Int} : y ∈ ZaX N x ↔ y ∈ N∨y=x:=by
 unfold ZaX;split
 ·rename_i h
  exact ⟨.inl,fun h2=>h2.elim id fun e=>e ▸ h⟩
 ·simp
theorem nodeP_nodup {N:List Int} {x:Int} (h:N.Nodup):(ZaX N x).Nodup:=by
 unfold ZaX;split
 ·exact h
 ·rename_i hx
  exact YbB.2 ⟨h,by simp,fun a ha b hb e=>hx (by rw [Yj.1 hb] at e;exact e ▸ ha)⟩
theorem Zgk (N:List Int) (x:Int):N.length≤(ZaX N x).length∧(ZaX N x).length≤N.length+1:=by
 unfold ZaX;split
 ·omega
 ·simp
theorem Zfi {v:Int} {l m:List Int} (h:v ∈ l):ZaF v (l++m)=ZaF v l:=by
 induction l with
 | nil=>cases h
 | cons x l ih=>
  rw [Yak]
  by_cases hx:x=v
  ·rw [ZaF,Yf hx,ZaF,Yf hx]
  ·have hm:v ∈ l:=(Yk.1 h).resolve_left fun e=>hx e.symm
   rw [ZaF,Yc hx,ZaF,Yc hx,ih hm]
theorem ZlJ {v:Int} {l:List Int} (h:v ∉ l):ZaF v (l ++ [v])=l.length:=by
 induction l with
 | nil=>simp [ZaF]
 | cons x l ih=>
  have hx:x≠v:=fun e=>h (e ▸ YaE)
  have:=ih fun h2=>h (YC _ h2)
  rw [Yak,ZaF,Yc hx,this,Yc ow]
  simp
theorem ZoA {N:List Int} {x y:Int} (h:y ∈ N):ZaF y (ZaX N x)=ZaF y N:=by
 unfold ZaX;split
 ·rfl
 ·exact Zfi h
theorem ZiL {N:List Int} {x:Int} (h:x ∈ N):0≤ZaF x N∧ZaF x N<N.length:=by
 obtain ⟨i,h1,h2,_⟩:=Zeg h
 omega
theorem Zh7 {N:List Int} {x y:Int} (hx:x ∈ N) (hy:y ∈ N) (h:ZaF x N=ZaF y N):x=y:=by
 obtain ⟨i,h1,h2,h3,_⟩:=Zeg hx
 obtain ⟨j,k1,k2,k3,_⟩:=Zeg hy
 have:i=j:=by omega
 subst this
 rw [← h3,k3]
theorem Znw {N:List Int} {e:Zg} {y:Int} : y ∈ Zdw N e ↔ y ∈ N∨y=e.src∨y=e.dst:=by
 unfold Zdw
 rw [ZjB,ZjB,or_assoc]
theorem Zcl:∀ {l:List Zg} {y:Int},y ∈ ZI l ↔ ∃ e ∈ l,y=e.src∨y=e.dst:=by
 have key:∀ (l:List Zg) (N:List Int) (y:Int),y ∈ l.foldl Zdw N ↔ y ∈ N ∨ ∃ e ∈ l,y=e.src∨y=e.dst:=by
  intro l
  induction l with
  | nil=>intro N y;simp
  | cons e l ih=>
   intro N y
   rw [Yan,ih,Znw]
   simp [or_assoc]
 intro l y
 unfold ZI
 rw [key];simp
theorem Zja (l:List Zg):(ZI l).Nodup:=by
 have key:∀ (l:List Zg) (N:List Int),N.Nodup→(l.foldl Zdw N).Nodup:=by
  intro l
  induction l with
  | nil=>intro N h;exact h
  | cons e l ih=>intro N h;exact ih _ (nodeP_nodup (nodeP_nodup h))
 exact key l [] .nil
theorem ZmQ (l:List Zg):(ZI l).length≤2*l.length:=by
 have key:∀ (l:List Zg) (N:List Int),(l.foldl Zdw N).length≤N.length+2*l.length:=by
  intro l
  induction l with
  | nil=>intro N;simp
  | cons e l ih=>
   intro N
   have h1:=ih (Zdw N e)
   have h2:=(Zgk N e.src).2
   have h3:=(Zgk (ZaX N e.src) e.dst).2
   unfold Zdw at h1
   rw [Yan,Yl]
   unfold Zdw
   omega
 have:=key l []
 show (l.foldl Zdw []).length≤_
 simpa using this
def Zvt (N:List Int) (e:Zg):Zn3:=⟨ZaF e.src N,ZaF e.dst N⟩
def LE_ (l:List Zg) (a b:Int):Prop:=∃ e ∈ l,e.src=a∧e.dst=b
theorem Zpd {l:List Zg} {a b:Int} (ha:a ∈ ZI l) (hb:b ∈ ZI l):Rch (EQ_ (l.map (Zvt (ZI l)))) (ZaF a (ZI l)) (ZaF b (ZI l)) ↔ Rch (LE_ l) a b:=by
 have hm:∀ {e:Zg},e ∈ l→e.src ∈ ZI l∧e.dst ∈ ZI l:=fun {e} he=>⟨Zcl.2 ⟨e,he,.inl rfl⟩,Zcl.2 ⟨e,he,.inr rfl⟩⟩
 constructor
 ·have key:∀ {y:Int},Rch (EQ_ (l.map (Zvt (ZI l)))) (ZaF a (ZI l)) y → ∃ b,b ∈ ZI l∧y=ZaF b (ZI l)∧Rch (LE_ l) a b:=fun {y} h=>by
   induction h with
   | one k=>
    obtain ⟨e,he,e2⟩:=Yw.1 k
    injection e2 with e3 e4
    refine ⟨e.dst,(hm he).2,e4.symm,.one ⟨e,he,?_,rfl⟩⟩
    exact Zh7 (hm he).1 ha e3
   | step _ k ih=>
    obtain ⟨c,hc,e1,h1⟩:=ih
    obtain ⟨e,he,e2⟩:=Yw.1 k
    injection e2 with e3 e4
    refine ⟨e.dst,(hm he).2,e4.symm,.step h1 ⟨e,he,?_,rfl⟩⟩
    exact Zh7 (hm he).1 hc (e3.trans e1)
  intro h
  obtain ⟨c,hc,e,h1⟩:=key h
  rw [Zh7 hb hc e];exact h1
 ·intro h
  clear hb
  induction h with
  | one k=>
   obtain ⟨e,he,rfl,rfl⟩:=k
   exact .one (Yw.2 ⟨e,he,rfl⟩)
  | step _ k ih=>
   obtain ⟨e,he,rfl,rfl⟩:=k
   exact .step ih (Yw.2 ⟨e,he,rfl⟩)
structure ZfD (es:List (Zcr Int)) (N:List Int):Prop where
 len:es.length=N.length
 get:∀ x,Zff x es=if x ∈ N then some (ZaF x N) else none
def Zuw (N:List Int) (v:Value):HP:=.ex fun s:List (Zcr Int)×Nat=>.and (ZfD s.1 N) (ZnG .i64 (fun _=>True) (fun n:Int=>Value.int .i64 n) s.1 s.2 v)
theorem ZfD.nil:ZfD [] []:=⟨rfl,fun x=>by simp [Zff]⟩
theorem ZfD.put {es:List (Zcr Int)} {ck:Nat} {N:List Int} {x:Int} (h:ZfD es N) (hx:x ∉ N):ZfD (mPut x (N.length:Int) (es,ck)).1 (N ++ [x]):=by
 have hg:Zff x es=none:=by rw [h.get,Yc hx]
 have hi:(mIdx x es).isSome=false:=by rw [ZhK,hg];rfl
 refine ⟨?_,fun y=>?_⟩
 ·unfold mPut
  rw [hi]
  simp [h.len]
 ·rw [Zqh]
  by_cases e:y=x
  ·subst e
   rw [Yf rfl,Yf (by simp),ZlJ hx]
  ·rw [Yc e]
   show Zff y es=_
   rw [h.get]
   by_cases hy:y ∈ N
   ·rw [Yf hy,Yf (by simp [hy]),Zfi hy]
   ·rw [Yc hy,Yc (by simp [hy,e])]
theorem ZfD.old {es:List (Zcr Int)} {N:List Int} {x:Int} (h:ZfD es N) (hx:(Zff x es).isSome=true):x ∈ N∧Zd1 x es=ZaF x N:=by
 rw [h.get] at hx
 split at hx
 ·rename_i e
  exact ⟨e,by rw [ZlP,h.get,Yf e];rfl⟩
 ·cases hx
theorem ZfD.new {es:List (Zcr Int)} {N:List Int} {x:Int} (h:ZfD es N) (hx:(Zff x es).isSome=false):x ∉ N:=fun e=>by
 rw [h.get,Yf e] at hx;cases hx
theorem ZhP (P:Prop):∃ b:Bool,b=true ↔ P:=(Classical.em P).elim (fun h=>⟨true,by simp [h]⟩) fun h=>⟨false,by simp [h]⟩
def kindOk (mask:Int) (e:Zg):Bool:=(decide (1≤e.kind) && decide (e.kind≤3)) && ofB mask e.kind
def ZmX (must kind:Int):Bool:=decide (bits .and .i64 must 14=0) || ofB must kind
def ZjO (N:List Int) (e:Zg):Zy:=⟨ZaF e.src N,ZaF e.dst N,e.kind,0⟩
def ZeR (l:List Zg) (mask must:Int):Prop:=∃ e ∈ l.filter (kindOk mask),ZmX must e.kind=true∧(e.dst=e.src∨Rch (LE_ (l.filter (kindOk mask))) e.dst e.src)
theorem ZqH {N M:List Int} {l:List Zg} (h:∀ e ∈ l,e.src ∈ N∧e.dst ∈ N):l.map (ZjO (N++M))=l.map (ZjO N):=by
 refine List.map_congr_left fun e he=>?_
 unfold ZjO
 rw [Zfi (h e he).1,Zfi (h e he).2]
theorem ZnS (N:List Int) (e:Zg):∃ M,Zdw N e=N++M:=by
 have one:∀ (N:List Int) (x:Int),∃ M,ZaX N x=N++M:=fun N x=>by
  unfold ZaX;split
  ·exact ⟨[],by simp⟩
  ·exact ⟨[x],rfl⟩
 obtain ⟨M1,h1⟩:=one N e.src
 obtain ⟨M2,h2⟩:=one (ZaX N e.src) e.dst
 exact ⟨M1++M2,by unfold Zdw;rw [h2,h1,YO]⟩
theorem ZhF {l:List Zg} {e:Zg} (he:e ∈ l):e.src ∈ ZI l∧e.dst ∈ ZI l:=⟨Zcl.2 ⟨e,he,.inl rfl⟩,Zcl.2 ⟨e,he,.inr rfl⟩⟩
theorem Zo2 (l:List Zg) (e:Zg):(l ++ [e]).map (ZjO (ZI (l ++ [e])))=l.map (ZjO (ZI l)) ++ [⟨ZaF e.src (ZaX (ZI l) e.src),ZaF e.dst (Zdw (ZI l) e),e.kind,0⟩]:=by
 have e1:ZI (l ++ [e])=Zdw (ZI l) e:=by unfold ZI;rw [Yau];rfl
 obtain ⟨M,hM⟩:=ZnS (ZI l) e
 rw [e1,YP,List.map_singleton]
 congr 1
 ·rw [hM];exact ZqH fun x hx=>ZhF hx
 ·unfold ZjO
  have:ZaF e.src (Zdw (ZI l) e)=ZaF e.src (ZaX (ZI l) e.src):=by
   unfold Zdw
   exact ZoA (Zq7 _ _)
  rw [this]
section
variable {l:List Zg} {n:Nat} {E:List Zy} {O I:List (List Z9)} {L:List Int}
theorem Zck {mask:Int} {e:Zg} (he:e ∈ l.filter (kindOk mask)) (hn:n=(ZI (l.filter (kindOk mask))).length):ZaG n (ZjO (ZI (l.filter (kindOk mask))) e)=true:=by
 obtain ⟨h1,h2⟩:=ZhF he
 obtain ⟨a1,a2⟩:=ZiL h1
 obtain ⟨b1,b2⟩:=ZiL h2
 have hk:=(YT.1 he).2
 unfold kindOk at hk
 simp only [Yr,Yu] at hk
 exact ZQ.2 ⟨⟨a1,by show ZaF _ _<_;omega⟩,⟨b1,by show ZaF _ _<_;omega⟩,hk.1,Yaq _,by show (0:Int)≤_;decide⟩
theorem of14 {k:Int} (h:1≤k∧k≤3):ofB 14 k=true:=by
 have:k=1∨k=2∨k=3:=by omega
 rcases this with rfl | rfl | rfl <;> decide
theorem Zif {mask:Int} (h:ZbS n E O I) (hn:n=(ZI (l.filter (kindOk mask))).length) (hE:∀ x,x ∈ E ↔ x ∈ (l.filter (kindOk mask)).map (ZjO (ZI (l.filter (kindOk mask))))) (a b:Int) :
  EJ (adjO O 14) a b ↔ EQ_ ((l.filter (kindOk mask)).map (Zvt (ZI (l.filter (kindOk mask))))) a b:=by
 show b ∈ adjO O 14 a ↔ _
 rw [(h.next 14 a).2]
 unfold EQ_
 rw [Yw]
 constructor
 ·rintro ⟨x,hx,h1,_,h2⟩
  obtain ⟨e,he,rfl⟩:=Yw.1 ((hE x).1 hx)
  exact ⟨e,he,by rw [← h1,← h2];rfl⟩
 ·rintro ⟨e,he,h1⟩
  injection h1 with h2 h3
  refine ⟨ZjO _ e,(hE _).2 (Yw.2 ⟨e,he,rfl⟩),h2,?_,h3⟩
  exact of14 (ZQ.1 (Zck he hn)).2.2.1
theorem Zrc {mask must:Int} (h:ZbS n E O I) (hn:n=(ZI (l.filter (kindOk mask))).length) (hE:∀ x,x ∈ E ↔ x ∈ (l.filter (kindOk mask)).map (ZjO (ZI (l.filter (kindOk mask))))) (hL:ZjV (adjO O 14) n L) :
  (∃ x ∈ (l.filter (kindOk mask)).map (ZjO (ZI (l.filter (kindOk mask)))),Nn L x.src.toNat=Nn L x.dst.toNat∧ZmX must x.kind=true) ↔ ZeR l mask must:=by
 have hr:∀ {a b:Int},Rch (EJ (adjO O 14)) a b ↔ Rch (EQ_ ((l.filter (kindOk mask)).map (Zvt (ZI (l.filter (kindOk mask)))))) a b:=fun {a b}=>⟨Rch.mono fun x y=>(Zif h hn hE x y).1,Rch.mono fun x y=>(Zif h hn hE x y).2⟩
 have one:∀ e ∈ l.filter (kindOk mask),(Nn L (ZjO (ZI (l.filter (kindOk mask))) e).src.toNat=Nn L (ZjO (ZI (l.filter (kindOk mask))) e).dst.toNat ↔ (e.dst=e.src∨Rch (LE_ (l.filter (kindOk mask))) e.dst e.src)):=fun e he=>by
  obtain ⟨s1,s2⟩:=(ZQ.1 (Zck he hn)).1
  obtain ⟨d1,d2⟩:=(ZQ.1 (Zck he hn)).2.1
  obtain ⟨m1,m2⟩:=ZhF he
  have k1:=hL.2 (ZjO (ZI (l.filter (kindOk mask))) e).src.toNat ow
  have k2:=hL.2 (ZjO (ZI (l.filter (kindOk mask))) e).dst.toNat ow
  rw [Yax s1] at k1
  rw [Yax d1] at k2
  rw [k1.same k2]
  show (ZaF e.dst _=ZaF e.src _∨(Rch _ (ZaF e.src _) (ZaF e.dst _)∧Rch _ (ZaF e.dst _) (ZaF e.src _))) ↔ _
  rw [hr,hr,Zpd m1 m2,Zpd m2 m1]
  constructor
  ·rintro (h9 | h9)
   ·exact .inl (Zh7 m2 m1 h9)
   ·exact .inr h9.2
  ·rintro (h9 | h9)
   ·exact .inl (by rw [h9])
   ·exact .inr ⟨.one ⟨e,he,rfl,rfl⟩,h9⟩
 constructor
 ·rintro ⟨x,hx,h1,h2⟩
  obtain ⟨e,he,rfl⟩:=Yw.1 hx
  exact ⟨e,he,h2,(one e he).1 h1⟩
 ·rintro ⟨e,he,h1,h2⟩
  exact ⟨_,Yw.2 ⟨e,he,rfl⟩,(one e he).2 h2,h1⟩
end
theorem ZsI (mv:Value) (N:List Int) (id:Int) (hN:N.length≤1000000):FnG prog 113 1 [.is mv,.int .i64 id] [Zuw N mv] (.int .i64 (ZaF id (ZaX N id))) (fun _=>[Zuw (ZaX N id) mv]):=by
 refine FnG.mk func113 rfl ntmps113 rfl kr fun B F0 a w F V hG G=>Ya ?_
 refine rZ G (qI qZ) V [4,1,0] [1,0] fun G=>Ya ?_
 obtain ⟨⟨es,ck⟩,G⟩:=G.open_ex 1 rfl
 obtain ⟨hk,G⟩:=G.open_and 1 rfl
 replace G:=G.turn 1 rfl (r':=.ob (.val mv) (ZnG .i64 (fun _=>True) (fun n:Int=>Value.int .i64 n) es ck)) (fun _ _ _ _ h=>h)
 dsimp only at hk
 obtain ⟨F,G⟩:=G.nM [4,1,0] [1,0]
 refine rZ G (qR rr (qR rr (qf (ZmF 1 underlying160 (Zp7 underlying3) kr .is (ZM.int .t rfl)) r2 r1 (qR rr (qf (Zj .t rfl) r1 qz (qf (Zj .t rfl) r1 qz (qO rr (qO rr qZ)))))))) V [6,5,4,1,0] [1,0] fun G=>(Ya (Ya ?_))
 refine rZ G (qR rr (qf (o_not .t) r1 qz qZ)) V [14,5,4,1,0] [1,0] fun G=>?_
 refine Zc G rfl (fun hc0=>?_) (fun hc0=>?_)
 ·have hid:id ∉ N:=hk.new (by simpa using hc0)
  have hg:ZaX N id=N ++ [id]:=Yc hid
  have hgi:(N.length:Int)=ZaF id (N ++ [id]):=(ZlJ hid).symm
  refine Ya (Ze G (qR rr (qf (Zgm 1 underlying160 .is (by rw [hk.len];omega)) r1 r1 (qO rr qZ))) V [5,4,1,0] [1,0] rfl rfl fun a w F G=>?_)
  rw [hk.len] at G
  refine Za (rZ G (qR rr (qR rr (qR rr (qf (Zj5 1 underlying160 (Zp7 underlying3) .is (ZM.int .t rfl) .t) r3 r1 qZ)))) V [5,4] [1,0] fun G=>Ya ?_)
  refine rZ G (qR rr (qO rr qZ)) V [4] [1,0] fun G=>Yh ?_
  have G:=G.turn 1 rfl (r':=RS.hp (Zuw (N ++ [id]) mv)) (fun _ _ _ _ h=>⟨mPut id (N.length:Int) (es,ck),hk.put hid,h⟩)
  rw [hg]
  refine Zad hG G rfl (.tmp rfl .nil) (.one (.int hgi)) rfl
 obtain ⟨hid,hgv⟩:=hk.old (by simpa using hc0)
 have hg:ZaX N id=N:=Yf hid
 have hgi:Zd1 id es=ZaF id N:=hgv
 refine Ye (Za (Ya (rZ G (qR rr (qO rr qZ)) V [4] [1,0] fun G=>Yh ?_)))
 have G:=G.turn 1 rfl (r':=RS.hp (Zuw N mv)) (fun _ _ _ _ h=>⟨(es,ck),hk,h⟩)
 rw [hg]
 refine Zad hG G rfl (.tmp rfl .nil) (.one (.int hgi)) rfl
theorem ZhD {l:List PV} : ∀ v w yy,(PV.ref l).p v w yy→v.oneCell' = true:=fun v _ _ ⟨_,_,_,e,_⟩=>by rw [e];rfl
theorem ZsE:inR .i32 0:=by show IntKind.min .i32≤0∧0≤IntKind.max .i32;decide
theorem ZpE {n:Nat} (h:n≤65536):rowN (n:Int)=n:=by unfold rowN;repeat' split;all_goals omega
theorem ZbS.adjR {n:Nat} {E:List Zy} {O I:List (List Z9)} (h:ZbS n E O I) (mask:Int):(∀ u y,y ∈ adjO O mask u→0≤y∧y<(n:Int)) ∧ ∀ u,(adjO O mask u).length≤n:=by
 have h1:∀ u y,y ∈ adjO O mask u→0≤y∧y<(n:Int):=fun u y hy=>by
  obtain ⟨x,x1,x2,x3,x4⟩:=((h.next mask u).2 y).1 hy
  have:=(ZQ.1 (h.ok x x1)).2.1
  omega
 exact ⟨h1,fun u=>ZdK ((h.next mask u).1.imp fun h=>by omega) (h1 u)⟩
theorem Zpl (u:Int) (O I:List (List Z9)) (m:Nat) (mask:Int) (hO:∀ l ∈ O,l.length≤1000000):FnP prog 159 [.int .i64 u,.ref [ZeJ O I m],.ref [.int .i64 mask]] (.sl Zn (adjO O mask u)):=by
 refine FnP.mk func159 rfl ntmps159 rfl fun B a w F V hfr G=>Ya ?_
 refine rZ G (qC qZ) V [4,2,1,0] [0] fun G=>Ya ?_
 refine rZ G (qf (oR false 1 .t) r1 qz (qR rr (qf (oR false 1 .t) r1 qz (qf (oP (ZqG O I m u mask hO) func160 (Args.three .t .t .t)) r3 qz (qO rr qZ))))) V [4] [0] fun G=>Yh ?_
 refine Zr hfr G rfl rfl rfl .refl
theorem ZqA (n:Nat) (E:List Zy) (O I:List (List Z9)) (m:Nat) (mask:Int) (h:ZbS n E O I) (hn:n≤4096) (hE:E.length≤1000000) (L:List Int) (hL:ZjV (adjO O mask) n L):FnP prog 117 [ZeJ O I m,.int .i64 mask] (.sl Zn L):=by
 refine FnP.mk func117 rfl ntmps117 rfl fun B a w F V hfr G=>?_
 have hO:∀ l ∈ O,l.length≤1000000:=fun l hl=>(h.on.r hE l hl).1
 obtain ⟨hadj,hal0⟩:=h.adjR mask
 have hal:∀ u,(adjO O mask u).length≤4096:=fun u=>Y0 (hal0 u) hn
 refine Ya (Zb G (qf (ZfF 101 .t ZhD) r1 qz (qf (ZfF 102 .t one_int) r1 qz (qC qZ))) V [4,3,2] [102,101,0] (fun _=>rfl) (fun _=>rfl) fun τ a w F G=>?_)
 try dsimp only [RS.sub,SF.sub,CF.sub,csub,Anc.sub,List.map,zCF,Zn,Zgi] at G
 generalize τ 2=v2 at G
 generalize τ 3=v3 at G
 obtain ⟨F,G⟩:=G.giveRef 101 2 rfl rfl rfl
 obtain ⟨F,G⟩:=G.nM [4,3,2] [102,0]
 try dsimp only [Go.Gm.unCF] at G
 obtain ⟨F,G⟩:=G.giveRef 102 3 rfl rfl rfl
 obtain ⟨F,G⟩:=G.nM [4,3,2] [0]
 try dsimp only [Go.Gm.unCF] at G
 refine Za (Ya (Ze G (qf (oR false 1 .t) r1 qz (qf (oP (Zce O I m) func158 (Args.one .t)) r1 qz (qO rr qZ))) V [5,4,3,2] [0] rfl rfl fun a w F G=>?_))
 rw [h.ol] at G
 refine Za (Ya (rZ G (qf (ZaK (Args.two .t .t)) r2 qz (qO rr qZ)) V [6,5,4] [0] fun G=>Ya ?_))
 replace G:=G.fresh 103 rfl
 replace G:=G.fresh 104 rfl
 refine ZaP G (qR rr (qR rr (qf (ZaI (R:=Zgi) (v:=0) (c:=(n:Int)) (sz:=1) (bs:=4) (zs:=[.int .i32 0]) 105 underlying226 kr kr kr (fun _ _=>⟨⟨rfl,rfl,ZsE⟩,tv⟩) .t .t (Yav _) ow ow) r2 qz (qR rr (qf (ZaI (R:=Zgi) (v:=0) (c:=(n:Int)) (sz:=1) (bs:=4) (zs:=[.int .i32 0]) 106 underlying226 kr kr kr (fun _ _=>⟨⟨rfl,rfl,ZsE⟩,tv⟩) .t .t (Yav _) ow ow) r2 qz (qR rr (qf (Zaq 103 (ZtF n) func161 rfl kr (Args.one .t) PV.ptr_one) r1 r1 (qR rr (qf (Zaq 104 (ZrK n) func162 rfl kr (Args.one .t) PV.ptr_one) r1 r1 (qR rr (qf (ZaI (R:=Zn) (v:=0) (c:=(n:Int)) (sz:=1) (bs:=8) (zs:=[.int .i64 0]) 107 underlying45 kr kr kr (fun _ _=>⟨⟨rfl,rfl,ZcY⟩,tv⟩) .t .t (Yav _) ow ow) r2 qz (qf (oB [(0,.tmp 12),(1,.tmp 14),(2,.tmp 16),(3,.tmp 18),(4,.tmp 20),(6,.tmp 22)] [.nilFunc,.slice none 0 0,.slice none 0 0,.pointer none,.pointer none,.int .i32 0,.slice none 0 0] [(0,1),(1,1),(2,1),(3,1),(4,1),(5,1),(6,1)] (.one rfl .t ZrH kr (.same rfl kr (.same rfl kr (.same rfl kr (.same rfl kr (.same rfl kr .nil))))))) r6 qz (qf (oX 108 .t) r1 qz (qO rr qZ)))))))))))))) V [7,5,4] [108,107,106,105,104,103,0] (fun _=>rfl) (fun _=>rfl) fun τ a w F G=>?_
 try dsimp only [RS.sub,SF.sub,CF.sub,csub,Anc.sub,List.map,Zf,xL,xM,Nat.reduceAdd,xD,xE,xT,xU,xC,xN,zCF,Zn,Zgi] at G
 generalize τ 24=v24 at G
 generalize τ 18=v18 at G
 generalize τ 20=v20 at G
 generalize τ 14=v14 at G
 generalize τ 16=v16 at G
 generalize τ 22=v22 at G
 rw [Yb] at G
 obtain ⟨tb,rfl⟩:=G.shape 108 rfl
 replace G:=G.turn 103 rfl (r':=RS.hp (stH v18 n [])) (by rw [ZfP ow];exact fun _ _ _ _ h=>h)
 replace G:=G.turn 104 rfl (r':=RS.hp (Zhl n [] v20)) (by rw [ZpE ow];exact fun _ _ _ _ h=>h)
 have G:=G.fresh 1 rfl
 obtain ⟨F,G⟩:=G.push 1 107 rfl rfl rfl kr
 obtain ⟨F,G⟩:=G.push 1 104 rfl rfl rfl kr
 obtain ⟨F,G⟩:=G.push 1 103 rfl rfl rfl kr
 obtain ⟨F,G⟩:=G.push 1 106 rfl rfl rfl kr
 obtain ⟨F,G⟩:=G.push 1 105 rfl rfl rfl kr
 obtain ⟨F,G⟩:=G.push 1 108 rfl rfl rfl kr
 have G:=G.turn 1 rfl (r':=RS.hp (ZcJ (.clos 159 [.ref [ZeJ O I m],.ref [.int .i64 mask]]) n ⟨List.replicate n 0,List.replicate n 0,[],[],0,List.replicate n 0⟩ (.pointer (some ⟨tb,0,none⟩)))) (fun _ _ _ _ h=>⟨_,_,_,_,_,h⟩)
 obtain ⟨F,G⟩:=G.nM [7,5,4] [1,0]
 refine Za (Ya (Ya (rZ G (qR rr (qJ qZ)) V [26,25,7,4] [1,0] fun G=>Yg ?_)))
 refine Zk (σ:=Nat×Zbz) [4,7,25] [0] (fun s=>[(26,.pv (.int .i64 (s.1:Int)))]) (fun s=>[(1,RS.hp (ZcJ (.clos 159 [.ref [ZeJ O I m],.ref [.int .i64 mask]]) n s.2 (.pointer (some ⟨tb,0,none⟩))))]) (fun s=>s.1≤n∧TI n (adjO O mask) s.2 [] ∧ ∀ u:Nat,u<s.1→Nn s.2.wh u≠0) (fun s=>n - s.1) ((0),_) G ⟨rfl,rfl,rfl,rfl,tv⟩ ⟨rfl,rfl,tv⟩ ⟨Yx _,TI.zero n _,fun u hu=>absurd hu (Y1 u)⟩ ?_
 clear G;intro s a w F hC G
 obtain ⟨i,q⟩:=s
 try dsimp only at hC
 obtain ⟨F,G⟩:=G.nM [26,25,7,4] [1,0]
 try dsimp only at G
 obtain ⟨hi,hI,hvs⟩:=hC
 have hck:=hI.lw
 refine Ya (rZ G (qL r2) V [27,26,25,7,4] [1,0] fun G=>Ya ?_)
 refine Zc G rfl (fun hc0=>?_) (fun hc0=>?_)
 ·have hil:i<n:=by simpa using hc0
  refine Ye (Za (Ya (Yg (Ya (rZ G (qR rr (qO rr qZ)) V [26,25,8,7,4] [1,0] fun G=>Ya ?_)))))
  obtain ⟨wv,G⟩:=G.open_ex 1 rfl
  obtain ⟨lv,G⟩:=G.open_ex 1 rfl
  obtain ⟨sv,G⟩:=G.open_ex 1 rfl
  obtain ⟨iv,G⟩:=G.open_ex 1 rfl
  obtain ⟨ov,G⟩:=G.open_ex 1 rfl
  obtain ⟨F,G⟩:=G.peel 1 2 rfl rfl
  obtain ⟨F,G⟩:=G.peel 1 3 rfl rfl
  obtain ⟨F,G⟩:=G.peel 1 4 rfl rfl
  obtain ⟨F,G⟩:=G.peel 1 5 rfl rfl
  obtain ⟨F,G⟩:=G.peel 1 6 rfl rfl
  obtain ⟨F,G⟩:=G.peel 1 7 rfl rfl
  replace G:=G.turn 5 rfl (r':=.ob (.val sv) (fun v=>stH v n q.wait)) (fun _ _ _ _ h=>h)
  obtain ⟨_,_,_,ho⟩:=G.obGet 5 rfl
  obtain ⟨sb,rfl⟩:=ZeL ho
  clear ho
  replace G:=G.turn 6 rfl (r':=.ob (.val iv) (Zhl n q.inn)) (fun _ _ _ _ h=>h)
  obtain ⟨_,_,_,ho⟩:=G.obGet 6 rfl
  obtain ⟨ib,rfl⟩:=Zdi ho
  clear ho
  replace G:=G.turn 5 rfl (r':=RS.hp (stH (.pointer (some ⟨sb,0,none⟩)) n q.wait)) (fun _ _ _ _ h=>h)
  replace G:=G.turn 6 rfl (r':=RS.hp (Zhl n q.inn (.pointer (some ⟨ib,0,none⟩)))) (fun _ _ _ _ h=>h)
  obtain ⟨F,G⟩:=G.nM [26,25,8,7,4] [7,6,5,4,3,2,0]
  refine Ze G (qR rr (qf (o_nilCheck 2 .is (by rfl)) r1 r1 (qf (oF 1 2 .adr) r1 r1 (qa 2 r1 r1 (qR rr (qf (o_indexAddr_row (sz:=1) 3 (.mk underlying226 kr) .is .t ow ow (by rfl)) r2 r1 (qf (Zt (ag:=false) (sz':=1) (sz:=1) 3 .t (by intro x;rfl) ow kr kr kr) r1 r1 (qf (o_eql .t qi) r1 qz qZ)))))))) V [36,26,25,8,7,4] [7,6,5,4,3,2,0] rfl rfl fun a w F G=>?_
  try simp only [Yb] at G
  refine Za (Zc G rfl (fun hc1=>?_) (fun hc1=>?_))
  ·have h00:fI q.wh i=0:=by rw [ZaL ow];simpa using hc1
   have G:=G.fresh 1 rfl
   obtain ⟨F,G⟩:=G.push 1 7 rfl rfl rfl kr
   obtain ⟨F,G⟩:=G.push 1 6 rfl rfl rfl kr
   obtain ⟨F,G⟩:=G.push 1 5 rfl rfl rfl kr
   obtain ⟨F,G⟩:=G.push 1 4 rfl rfl rfl kr
   obtain ⟨F,G⟩:=G.push 1 3 rfl rfl rfl kr
   obtain ⟨F,G⟩:=G.push 1 2 rfl rfl rfl kr
   have G:=G.turn 1 rfl (r':=RS.hp (ZcJ (.clos 159 [.ref [ZeJ O I m],.ref [.int .i64 mask]]) n q (.pointer (some ⟨tb,0,none⟩)))) (fun _ _ _ _ h=>⟨_,_,_,_,_,h⟩)
   obtain ⟨F,G⟩:=G.nM [36,26,25,8,7,4] [1,0]
   refine Ze G (qR rr (qR rr (qf (ZK 1 (Zvh tb n (adjO O mask) 159 f159 [.ref [ZeJ O I m],.ref [.int .i64 mask]] func159 rfl kr (fun u _=>Zpl u O I m mask hO) hadj hal q i ow ow hn hI h00) func163 rfl kr (Args.two .t .t)) r2 r1 qZ))) V [26,25,7,4] [1,0] rfl rfl fun a w F G=>?_
   obtain ⟨q2,G⟩:=G.open_ex 1 rfl
   obtain ⟨⟨hI2,hv2,hk3⟩,G⟩:=G.open_and 1 rfl
   have hv2:Nn q2.wh i≠0:=by rw [ZaL ow] at hv2;exact hv2
   have hk2:∀ u:Nat,u<i→Nn q.wh u≠0→Nn q2.wh u≠0:=fun u hu h9=>by have:=hk3 u (by rw [ZaL ow];exact h9);rw [ZaL ow] at this;exact this
   refine Zh (Za (rZ G (qp r1 (qR rr qZ)) V [26,25,7,4] [1,0] fun G=>?_))
   replace G:=G.ent (i:=26) (s':=.pv (.int .i64 ((i+1:Nat):Int))) rfl (.int (Zd ow))
   obtain ⟨F,G⟩:=G.nM [25,7,4,26] [0,1]
   exact ⟨((i+1),(q2)),F,⟨by omega,hI2,fun u hu=>by rcases YX (Y5 hu) with h9 | h9;exact hk2 u h9 (hvs u h9);rw [h9];exact hv2⟩,G,by omega⟩
  have G:=G.fresh 1 rfl
  obtain ⟨F,G⟩:=G.push 1 7 rfl rfl rfl kr
  obtain ⟨F,G⟩:=G.push 1 6 rfl rfl rfl kr
  obtain ⟨F,G⟩:=G.push 1 5 rfl rfl rfl kr
  obtain ⟨F,G⟩:=G.push 1 4 rfl rfl rfl kr
  obtain ⟨F,G⟩:=G.push 1 3 rfl rfl rfl kr
  obtain ⟨F,G⟩:=G.push 1 2 rfl rfl rfl kr
  have G:=G.turn 1 rfl (r':=RS.hp (ZcJ (.clos 159 [.ref [ZeJ O I m],.ref [.int .i64 mask]]) n q (.pointer (some ⟨tb,0,none⟩)))) (fun _ _ _ _ h=>⟨_,_,_,_,_,h⟩)
  obtain ⟨F,G⟩:=G.nM [36,26,25,8,7,4] [1,0]
  obtain ⟨q2,hq2⟩:∃ q2,q2=q:=⟨q,rfl⟩
  rw [← hq2] at G
  have hI2:=hI
  rw [← hq2] at hI2
  have hv2:Nn q2.wh i≠0:=by rw [hq2];simpa using hc1
  have hk2:∀ u:Nat,u<i→Nn q.wh u≠0→Nn q2.wh u≠0:=fun u _ h9=>by rw [hq2];exact h9
  refine Ye (Zh (Za (rZ G (qp r1 (qR rr qZ)) V [26,25,7,4] [1,0] fun G=>?_)))
  replace G:=G.ent (i:=26) (s':=.pv (.int .i64 ((i+1:Nat):Int))) rfl (.int (Zd ow))
  obtain ⟨F,G⟩:=G.nM [25,7,4,26] [0,1]
  exact ⟨((i+1),(q2)),F,⟨by omega,hI2,fun u hu=>by rcases YX (Y5 hu) with h9 | h9;exact hk2 u h9 (hvs u h9);rw [h9];exact hv2⟩,G,by omega⟩
 have hil:i=n:=by have h9:¬ i<n:=(by simpa using hc0);omega
 have hlab:q.out=L:=(hI.labs (by rw [← hil];exact hvs)).one hL
 refine Yv (Zi (Zi (Zo (Za (Ya ?_)))))
 obtain ⟨wv,G⟩:=G.open_ex 1 rfl
 obtain ⟨lv,G⟩:=G.open_ex 1 rfl
 obtain ⟨sv,G⟩:=G.open_ex 1 rfl
 obtain ⟨iv,G⟩:=G.open_ex 1 rfl
 obtain ⟨ov,G⟩:=G.open_ex 1 rfl
 obtain ⟨F,G⟩:=G.peel 1 2 rfl rfl
 obtain ⟨F,G⟩:=G.peel 1 3 rfl rfl
 obtain ⟨F,G⟩:=G.peel 1 4 rfl rfl
 obtain ⟨F,G⟩:=G.peel 1 5 rfl rfl
 obtain ⟨F,G⟩:=G.peel 1 6 rfl rfl
 obtain ⟨F,G⟩:=G.peel 1 7 rfl rfl
 replace G:=G.turn 5 rfl (r':=.ob (.val sv) (fun v=>stH v n q.wait)) (fun _ _ _ _ h=>h)
 obtain ⟨_,_,_,ho⟩:=G.obGet 5 rfl
 obtain ⟨sb,rfl⟩:=ZeL ho
 clear ho
 replace G:=G.turn 6 rfl (r':=.ob (.val iv) (Zhl n q.inn)) (fun _ _ _ _ h=>h)
 obtain ⟨_,_,_,ho⟩:=G.obGet 6 rfl
 obtain ⟨ib,rfl⟩:=Zdi ho
 clear ho
 replace G:=G.turn 5 rfl (r':=RS.hp (stH (.pointer (some ⟨sb,0,none⟩)) n q.wait)) (fun _ _ _ _ h=>h)
 replace G:=G.turn 6 rfl (r':=RS.hp (Zhl n q.inn (.pointer (some ⟨ib,0,none⟩)))) (fun _ _ _ _ h=>h)
 obtain ⟨F,G⟩:=G.nM [27,26,25,7,4] [7,6,5,4,3,2,0]
 refine rZ G (qR rr (qf (o_nilCheck 2 .is (by rfl)) r1 r1 (qf (oF 6 2 .adr) r1 r1 (qa 2 r1 r1 (qO rr qZ))))) V [4] [7,6,5,4,3,2,0] fun G=>Yh ?_
 obtain ⟨F,G⟩:=G.give 7 4 rfl rfl
 refine Zr hfr G rfl rfl rfl (.sl hlab)
def roomN (n:Int):Nat:=(if n<0 then 0 else if n > 4096 then 4096 else n).toNat
theorem Zfg (n:Int):roomN n≤4096:=by unfold roomN;split; (· omega);split <;> omega
theorem ZrW (n:Int):(if 4096<(if n<0 then 0 else n) then 4096 else if n<0 then 0 else n)=((roomN n:Nat):Int):=by unfold roomN;split <;> split <;> (try split) <;> omega
theorem Zjk {w:World} {y:Ys} {r:RS} (hd:r.deps = []) (hr:r.holds tau0 w (fun _=>False) y):∀ n:Nat,stars w y (List.replicate n r) (fun _=>False)
 | 0=>fun _ h=>h
 | n+1=>⟨fun _=>False,fun _=>False,fun b=>by simp,fun _ h=>h.elim,hd,hr,Zjk hd hr n⟩
theorem Zqu (n:Nat) (s:Value):Ze0 (List.replicate n s) (List.replicate n [])=List.replicate n (s,[]):=by
 apply Ya6 (by simp [Ze0])
 intro j h1 h2
 have hj:j<n:=by simpa using h2
 simp [Ze0,nth_eq (l:=List.replicate n s) (i:=j) (by simpa using hj),nth_eq (l:=List.replicate n ([]:List Z9)) (i:=j) (by simpa using hj)]
theorem ZlG {n:Nat} {v:Value} (τ:Tau) (w:World) (f y:Ys) (h:(RS.ob (.val v) (Zu 220 1 rV (List.replicate n (.slice none 0 0)))).holds τ w f y):(RS.hp (Zi8 (List.replicate n []) v)).holds τ w f y:=by
 refine ⟨List.replicate n (.slice none 0 0),by simp,f,fun _=>False,fun b=>by simp,fun _ _ h=>h,rfl,h,fun _=>False,fun _=>False,fun b=>by simp,fun _ h=>h.elim,rfl,?_,fun _ h=>h⟩
 show stars w y ((Ze0 (List.replicate n (.slice none 0 0)) (List.replicate n [])).map fun x=>RS.hp (Znl x)) fun _=>False
 rw [Zqu,List.map_replicate]
 exact Zjk (r:=RS.hp (Znl (.slice none 0 0,[]))) rfl (show (Zu 217 3 Zau ([]:List Z9) (.slice none 0 0)).p w (fun _=>False) y from ZkT) n
theorem Zl9 (w:World) (y:Ys):PVs (rV (.slice none 0 0)) [.slice none 0 0] w y:=⟨⟨rfl,rfl,by first | rfl | trivial⟩,tv⟩
theorem ZpX (room:Int):FnG prog 115 1 [.int .i64 room] [.star []] (PV.ptr) (fun v=>[Znm (List.replicate (roomN room) []) (List.replicate (roomN room) []) 0 v]):=by
 refine FnG.mk func115 rfl ntmps115 rfl kr fun B F0 a w F V hG G=>?_
 have hr:=ZrW room
 refine Ya (rZ G (qC qZ) V [2,0] [1,0] fun G=>Ya ?_)
 refine Ze G (qR rr (qf (Zpn .t qi) r1 qz (qf (o_min .t qi) r1 qz (qO rr qZ)))) V [2,0] [1,0] rfl rfl fun a w F G=>?_
 rw [hr] at G
 refine Za (Ya (ZaP G (qR rr (qf (ZaI (R:=rV) (v:=(.slice none 0 0)) (c:=((roomN room:Nat):Int)) (sz:=1) (bs:=24) (zs:=[.slice none 0 0]) 101 underlying213 kr kr kr Zl9 .t .t (Yav _) (by have:=Zfg room;omega) (by have:=Zfg room;omega)) r2 qz (qR rr (qf (ZaI (R:=rV) (v:=(.slice none 0 0)) (c:=((roomN room:Nat):Int)) (sz:=1) (bs:=24) (zs:=[.slice none 0 0]) 102 underlying213 kr kr kr Zl9 .t .t (Yav _) (by have:=Zfg room;omega) (by have:=Zfg room;omega)) r2 qz (qf (oB [(0,.tmp 7),(1,.tmp 9)] [.slice none 0 0,.slice none 0 0,.int .i64 0] [(0,1),(1,1),(2,1)] (.same rfl kr (.same rfl kr .nil))) r2 qz (qf (oX 103 .t) r1 qz (qO rr qZ))))))) V [2] [103,102,101,1,0] (fun _=>rfl) (fun _=>rfl) fun τ a w F G=>?_))
 try dsimp only [RS.sub,SF.sub,CF.sub,csub,Anc.sub,List.map,Zf,xL,xM,Nat.reduceAdd,xD,xE,xT,xU,xC,xN,zCF,Zau,Zav,Zn,Zao] at G
 generalize τ 11=v11 at G
 generalize τ 7=v7 at G
 generalize τ 9=v9 at G
 rw [Yb] at G
 refine Za (Yh ?_)
 obtain ⟨b,rfl⟩:=G.shape 103 rfl
 replace G:=G.turn 101 rfl (ZlG)
 replace G:=G.turn 102 rfl (ZlG)
 obtain ⟨F,G⟩:=G.push 1 102 rfl rfl rfl kr
 obtain ⟨F,G⟩:=G.push 1 101 rfl rfl rfl kr
 obtain ⟨F,G⟩:=G.push 1 103 rfl rfl rfl kr
 have G:=G.turn 1 rfl (r':=RS.hp (Znm (List.replicate (roomN room) []) (List.replicate (roomN room) []) 0 (Value.pointer (some { block:=b,off:=0 })))) (fun _ _ _ _ h=>⟨_,_,h⟩)
 refine Z2 (h':=fun v=>Znm (List.replicate (roomN room) []) (List.replicate (roomN room) []) 0 v) hG G rfl (.tmp rfl .nil) (.one .ptr) rfl
theorem Sat.giveL {B:Zbk} {E:En} {a:Act} {w:World} {F:Fp} {v:Value} {ho:HP} {p:PV} (h:Sat B E a w F) (n i:Nat) (hn:Go.Gm.look E.r n=some (RS.hp ho)) (hi:Go.Gm.look E.s i=some (.pv (.is v))) (hl:Zux ho v p) :
  ∃ F',Sat B ⟨(i,.pv p) :: E.s,(n,RS.hp (HP.star [])) :: E.r⟩ a w F':=by
 have hle:∀ b,U (fun m=>if m=n then fun _=>False else F m) b→U F b:=fun b ⟨m,hm⟩=>⟨m,by
  by_cases e:m=n
  ·simp only [e,Yt] at hm
  ·simp only [e,Yp] at hm;exact hm⟩
 have hev:=Ev.less w hle
 refine ⟨fun m=>if m=n then fun _=>False else F m,⟨fun m k b hm hk=>?_,fun m b hm=>?_⟩,h.ev.trans hev,h.n,h.df,fun j s hj=>?_,fun m r hm=>?_,fun m b hm=>?_⟩
 ·by_cases e1:m=n
  ·simp only [e1,Yt] at hm
  ·by_cases e2:k=n
   ·simp only [e2,Yt] at hk
   ·simp only [e1,e2,Yp] at hm hk;exact h.wf.dis m k b hm hk
 ·by_cases e1:m=n
  ·simp only [e1,Yt] at hm
  ·simp only [e1,Yp] at hm;exact h.wf.bd m b hm
 ·rw [Zm] at hj
  split at hj
  ·rename_i e
   simp only [Y8] at hj;subst hj;subst e
   have hv:Act.tau a i=v:=(h.s i _ hi).1
   show p.p (Act.tau a i) w _
   rw [hv]
   refine hl w (F n) (U F) _ (h.r n _ hn) hle (fun b hb hm=>?_) (fun b hb=>h.wf.bd n b hb)
   obtain ⟨m,hm⟩:=hm
   by_cases e2:m=n
   ·simp only [e2,Yt] at hm
   ·simp only [e2,Yp] at hm
    exact e2 (h.wf.dis m n b hm hb)
  ·exact SF.mono hev (fun _ _=>rfl) (h.s j s hj)
 ·rw [Zm] at hm
  split at hm
  ·rename_i e
   simp only [Y8] at hm;subst hm;subst e
   intro b hb
   simp only [Yt] at hb
  ·rename_i e
   have e2:¬ m=n:=fun h=>e h.symm
   simp only [e2,Yp]
   exact RS.mono hev (fun _ _=>rfl) (fun _ _=>rfl) (h.r m r hm)
 ·by_cases e1:m=n
  ·simp only [e1,Yt] at hm
  ·simp only [e1,Yp] at hm
   obtain ⟨r,hr⟩:=h.em m b hm
   exact ⟨r,by rw [Zm,Yc (fun h=>e1 h.symm)];exact hr⟩
def ZeM (l:List Zg) (mask:Int):List Zg:=l.filter (kindOk mask)
def ZbJ (l:List Zg) (mask:Int):List Zy:=(ZeM l mask).map (ZjO (ZI (ZeM l mask)))
theorem ZlF (l:List Zg) (mask:Int) (i:Nat):(ZeM (l.take i) mask).length≤i:=Y0 (Y6 _ _) (by rw [Yi];omega)
theorem ZiP (l:List Zg) (mask:Int) (i:Nat):(ZbJ (l.take i) mask).length≤i:=by unfold ZbJ;rw [YH];exact ZlF l mask i
theorem Zma {l:List Zg} {mask:Int} {i:Nat} (hi:i<l.length) (h:kindOk mask (Nn l i)=true):ZeM (l.take (i+1)) mask=ZeM (l.take i) mask ++ [Nn l i]:=by
 unfold ZeM
 rw [Zp hi,Yai];simp [h]
theorem ZnT {l:List Zg} {mask:Int} {i:Nat} (hi:i<l.length) (h:kindOk mask (Nn l i)=false):ZeM (l.take (i+1)) mask=ZeM (l.take i) mask:=by
 unfold ZeM
 rw [Zp hi,Yai];simp [h]
theorem Zjl {l:List Zg} {mask:Int} {i:Nat} (hi:i<l.length) (h:kindOk mask (Nn l i)=true):ZaX (ZaX (ZI (ZeM (l.take i) mask)) (Nn l i).src) (Nn l i).dst=ZI (ZeM (l.take (i+1)) mask):=by
 rw [Zma hi h]
 unfold ZI
 rw [Yau];rfl
theorem ZoO {l:List Zg} {mask:Int} {i:Nat} (hi:i<l.length) (h:kindOk mask (Nn l i)=true):ZbJ (l.take i) mask ++ [⟨ZaF (Nn l i).src (ZaX (ZI (ZeM (l.take i) mask)) (Nn l i).src),ZaF (Nn l i).dst (ZaX (ZaX (ZI (ZeM (l.take i) mask)) (Nn l i).src) (Nn l i).dst),(Nn l i).kind,0⟩] = ZbJ (l.take (i+1)) mask:=by
 unfold ZbJ
 rw [Zma hi h,Zo2];rfl
theorem Zls {O I:List (List Z9)} {n:Nat} {v:Value} {w:World} {f y:Ys} (h:(Znm O I n v).p w f y):∃ b,v = .pointer (some ⟨b,0,none⟩):=by
 obtain ⟨_,_,g⟩:=h
 exact HP.star_pt g
theorem ZjJ {n:Nat} (h:n≤4096):roomN (n:Int)=n:=by unfold roomN;repeat' split;all_goals omega
theorem Zmx {l:List Zg} {mask:Int} (x:Zy):x ∈ (ZbJ l mask).foldl (ZiW (ZI (ZeM l mask)).length) [] ↔ x ∈ ZbJ l mask:=by
 rw [Zh6]
 constructor
 ·rintro (h | h)
  ·cases h
  ·exact h.1
 ·intro h
  refine .inr ⟨h,?_⟩
  obtain ⟨e,he,rfl⟩:=Yw.1 h
  exact Zck he rfl
theorem Zlo {l:List Zg} {mask:Int} {x:Zy} (h:x ∈ ZbJ l mask):(0≤x.src∧x.src<((ZI (ZeM l mask)).length:Int))∧0≤x.dst∧x.dst<((ZI (ZeM l mask)).length:Int):=by
 obtain ⟨e,he,rfl⟩:=Yw.1 h
 have:=ZQ.1 (Zck he rfl)
 exact ⟨this.1,this.2.1⟩
theorem Zs8 (l : List Zy) (p : Zy → Bool) (f : FuncId) (fn : Func) (cps : List PV) (hf : prog.funcs[f]? = some fn) (hb : fn.body.isSome = true) (hnn : (fn.name == "runtime.NumGoroutine") = false) (hw : ∀ x ∈ l, FnP prog f (.agg (Zao x) :: cps) (.bool (p x))) : FnP prog 164 [.sl Zao l, .clos f cps] (.int .i64 (Z3 p l)) := by
 refine FnP.mk func164 rfl ntmps164 rfl fun B a w F V hfr G=>?_
 have hll:=Sat.lenSl G (i:=0) rfl
 refine Ya (rZ G (qI qZ) V [4,1,0] [0] fun G=>(Ya (Ya ?_)))
 refine rZ G (qR rr (qu underlying161 r1 (qJ qZ))) V [8,7,4,1,0] [0] fun G=>Yg ?_
 refine Zk (σ:=(Nat)) [0,1,4,7] [0] (fun s=>[(8,.pv (.int .i64 (s:Int)))]) (fun s=>[]) (fun s=>s≤l.length∧(∀ k,k<s→p (Nn l k)=false)) (fun s=>l.length - s) (0) G ⟨rfl,rfl,rfl,rfl,rfl,tv⟩ ⟨rfl,tv⟩ ⟨Yx _,fun k hk=>absurd hk (Y1 k)⟩ ?_
 clear G;intro i a w F hC G
 try dsimp only at hC
 obtain ⟨F,G⟩:=G.nM [8,7,4,1,0] [0]
 try dsimp only at G
 obtain ⟨hi,hq⟩:=hC
 refine Ya (rZ G (qL r2) V [9,8,7,4,1,0] [0] fun G=>Ya ?_)
 refine Zc G rfl (fun hc0=>?_) (fun hc0=>?_)
 ·skip
  have hil:i<l.length:=by simp at hc0;omega
  refine Ye (Za (Ya (Yg (Ya (rZ G (qR rr (qO rr qZ)) V [8,7,5,4,1,0] [0] fun G=>Ya ?_)))))
  refine Ze G (qR rr (qR rr (qR rr (qy 4 underlying161 r2 (qf (oR true 4 .t) r1 qz (qf (ZO (avs:=[.agg (Zao (Nn l i))]) .t (hw (Nn l i) (nth_mem ow)) hf hb hnn (Args.one (.pagg .t))) r2 qz qZ)))))) V [16,8,7,5,4,1,0] [0] rfl rfl fun a w F G=>?_
  try simp only [Yb] at G
  refine Za (Zc G rfl (fun hc1=>?_) (fun hc1=>?_))
  ·skip
   have hg:(i:Int)=Z3 p l:=(Zci hil hc1 hq).symm
   refine Ya (rZ G (qR rr (qO rr qZ)) V [8,7,4,1,0] [0] fun G=>(Yh (Zz (Zl (Zl (Zz (Zl ?_)))))))
   refine Zr hfr G rfl rfl rfl (.int hg)
  have hne:p (Nn l i)=false:=hc1
  refine Ye (Zh (Za (rZ G (qp r1 (qR rr qZ)) V [8,7,4,1,0] [0] fun G=>?_)))
  replace G:=G.ent (i:=8) (s':=.pv (.int .i64 ((i+1:Nat):Int))) rfl (.int (Zd ow))
  obtain ⟨F,G⟩:=G.nM [7,4,1,0,8] [0]
  exact ⟨(i+1),F,⟨by omega,(fun k hk=>by rcases YX (Y5 hk) with h | h;exact hq k h;rw [h];exact hne)⟩,G,by omega⟩
 have hil:i=l.length:=by simp at hc0;omega
 have hg : -1=Z3 p l:=(Zbh fun k hk=>hq k (by simp at hc0;omega)).symm
 refine Yv (Zi (Zi (Zo (Za (Ya (rZ G (qI qZ) V [4] [0] fun G=>Yh ?_))))))
 refine Zr hfr G rfl rfl rfl (.int hg)
theorem Zt1 (l : List Zy) (p : Zy → Bool) (f : FuncId) (fn : Func) (cps : List PV) (hf : prog.funcs[f]? = some fn) (hb : fn.body.isSome = true) (hnn : (fn.name == "runtime.NumGoroutine") = false) (hw : ∀ x ∈ l, FnP prog f (.agg (Zao x) :: cps) (.bool (p x))) : FnP prog 118 [.sl Zao l, .clos f cps] (.bool (l.any p)) := by
 refine FnP.mk func118 rfl ntmps118 rfl fun B a w F V hfr G=>Ya ?_
 refine rZ G qB V [4,1,0] [0] fun G=>Ya ?_
 refine rZ G (qR rr (qR rr (qf (oP (Zs8 l p f fn cps hf hb hnn hw) func164 (Args.two .t .t)) r2 qz (qf (Zbp .t qi) r1 qz (qO rr qZ))))) V [4] [0] fun G=>Yh ?_
 refine Zr hfr G rfl rfl rfl (.bool (by rw [Zjx]))
theorem Zrw (x:Zy) (L:List Int) (must:Int) (h1:0≤x.src∧x.src<(L.length:Int)) (h2:0≤x.dst∧x.dst<(L.length:Int)):FnP prog 119 [.agg (Zao x),.ref [.sl Zn L],.ref [.int .i64 must]] (.bool (decide (Nn L x.src.toNat=Nn L x.dst.toNat) && ZmX must x.kind)):=by
 refine FnP.mk func119 rfl ntmps119 rfl fun B a w F V hfr G=>Ya ?_
 refine Zb G (qx 101 r1 qB) V [4,3,2,1] [101,0] (fun _=>rfl) (fun _=>rfl) fun τ a w F G=>?_
 try dsimp only [RS.sub,SF.sub,CF.sub,csub,Anc.sub,List.map,zCF,Zau,Zav,Zn,Zao] at G
 generalize τ 3=v3 at G
 refine Za (Ya (Zv G (qf (oR false 1 .t) r1 qz (qg 0 101 r1 r1 (qa 101 r1 r1 (qf (o_indexAddr_sl (sz:=1) (.mk underlying45 kr) (by intro x;rfl) .t .t (by exact h1.1) (by exact h1.2)) r2 qz (qf (oR false 1 .t) r1 qz (qf (oR false 1 .t) r1 qz (qg 1 101 r1 r1 (qa 101 r1 r1 (qf (o_indexAddr_sl (sz:=1) (.mk underlying45 kr) (by intro x;rfl) .t .t (by exact h2.1) (by exact h2.2)) r2 qz (qf (oR false 1 .t) r1 qz (qf (o_eql .t .t) r2 qz (qR rr (qk rfl (fun h=>oR false 1 .t) r2 qz (qk rfl (fun h=>o_and (.w h) qi) r2 qz (qk rfl (fun h=>o_eql (.w h) qi) r2 qz (qk rfl (fun h=>oM (.w h)) r2 qz (ZB.cons (ZaE.cond2 rfl rfl (fun h=>Zet (ag:=false) (sz:=1) .t kr kr kr)) r2 qz (ZB.cons (ZaE.cond2 rfl rfl (fun h=>Z8 (off:=2) 101 .is kr (by rfl))) r2 r1 (ZB.cons (ZaE.cond2 rfl rfl (fun h=>ZbV (ag:=false) (sz:=1) 101 (.w h .adr) kr kr kr (by rfl))) r2 r1 (ZB.cons (ZaE.cond2 rfl rfl (fun h=>o_conv underlying162 kr (.w h))) r2 qz (ZB.cons (ZaE.cond2 rfl rfl (fun h=>Zcg (.w h) (.w h)  (by rw [Zal];omega))) r3 qz (ZB.cons (ZaE.cond2 rfl rfl (fun h=>o_and (.w h) qi)) r2 qz (ZB.cons (ZaE.cond2 rfl rfl (fun h=>o_eql (.w h) qi)) r2 qz (qk rfl (fun h=>ZaA (.w h) (.wc h)) r3 qz (qf (ZE .t .t) r2 qz (qO rr qZ)))))))))))))))))))))))))) V [4] [0] rfl rfl fun a w F G=>?_))
 try dsimp only [List.map,xD,xE,xT,xU,ldSF,Zau,Zav,Zn,Zao] at G
 try simp only [Yb] at G
 refine Za (Yh (Zr hfr G rfl rfl rfl (.bool rfl)))
theorem Zup (l:List Zg) (mask must:Int) (hl:l.length≤100000) (hN:(ZI (ZeM l mask)).length≤4096) (rb:Bool) (hr:rb=true ↔ ZeR l mask must):FnP prog 69 [.sl Zs l,.int .i64 mask,.int .i64 must] (.bool rb):=by
 refine FnP.mk func69 rfl ntmps69 rfl fun B a w F V hfr G=>Ya ?_
 refine Zb G (qf (ZfF 101 .t one_int) r1 qz qB) V [6,5,1,0] [101,0] (fun _=>rfl) (fun _=>rfl) fun τ a w F G=>?_
 try dsimp only [RS.sub,SF.sub,CF.sub,csub,Anc.sub,List.map,zCF,Zs,Zao,Zn] at G
 generalize τ 5=v5 at G
 refine Za (Ya (Zb G (qf (ZoY (vk:=.i64) (ok:=(fun _=>True)) (kv:=(fun n:Int=>Value.int .i64 n)) 102) trivial qz (qO rr qZ)) V [7,6,5,1,0] [102,101,0] (fun _=>rfl) (fun _=>rfl) fun τ a w F G=>?_))
 try dsimp only [RS.sub,SF.sub,CF.sub,csub,Anc.sub,List.map,Zf,xL,xM,Nat.reduceAdd,xD,xE,xT,xU,xC,xN,zCF,Zs,Zao,Zn] at G
 generalize τ 15=v15 at G
 replace G:=G.turn 102 rfl (r':=RS.hp (Zuw [] v15)) (fun _ _ _ _ h=>⟨([],0),ZfD.nil,h⟩)
 obtain ⟨F,G⟩:=G.nM [7,6,5,1,0] [102,101,0]
 refine Za (Ya (rZ G (qC qZ) V [8,7,6,5,1,0] [102,101,0] fun G=>(Ya (Ya ?_))))
 refine rZ G (qR rr (qu underlying31 r1 (qJ qZ))) V [18,17,16,8,7,6,5,1] [102,101,0] fun G=>Yg ?_
 replace G:=G.fresh 50 rfl
 replace G:=G.turn 50 rfl (ZaD (T:=165) (sz:=4) (R:=Zao))
 refine Zk (σ:=(Nat)×(Value)×(List Zy)) [1,5,6,7,16,17] [0,101] (fun s=>[(18,.pv (.int .i64 (s.1:Int))),(8,.pv (.is s.2.1))]) (fun s=>[(102,RS.hp (Zuw (ZI (ZeM (l.take s.1) mask)) v15)),(50,.ob (.val s.2.1) (Zu 165 4 Zao s.2.2))]) (fun s=>s.1≤l.length∧(s.2.2=ZbJ (l.take s.1) mask)) (fun s=>l.length - s.1) ((0),(.slice none 0 0),([])) G ⟨rfl,rfl,rfl,rfl,rfl,rfl,rfl,rfl,tv⟩ ⟨rfl,rfl,rfl,rfl,tv⟩ ⟨Yx _,rfl⟩ ?_
 clear G;intro s a w F hC G
 obtain ⟨i,v,out⟩:=s
 try dsimp only at hC
 obtain ⟨F,G⟩:=G.nM [18,17,16,8,7,6,5,1] [102,101,50,0]
 try dsimp only at G
 obtain ⟨hi,hq⟩:=hC
 have hol:=ZiP l mask i
 rw [← hq] at hol
 have hnl:=ZmQ (ZeM (l.take i) mask)
 have hfl:=ZlF l mask i
 have hnl2:=(Zgk (ZI (ZeM (l.take i) mask)) (Nn l i).src).2
 refine Ya (rZ G (qL r2) V [19,18,17,16,8,7,6,5,1] [102,101,50,0] fun G=>Ya ?_)
 refine Zc G rfl (fun hc0=>?_) (fun hc0=>?_)
 ·have hil:i<l.length:=by simp at hc0;omega
  refine Ye (Za (Ya (Yg (Ya (Zb G (qy 4 underlying31 r2 (qf (oR true 4 .t) r1 qz (qf (oH [.int .i64 0,.int .i64 0,.int .i64 0,.int .i64 0] 103) trivial qz (qS 4 103 r2 r1 qZ)))) V [18,17,16,10,8,7,6,5,1] [103,102,101,50,0] (fun _=>rfl) (fun _=>rfl) fun τ a w F G=>?_)))))
  try dsimp only [RS.sub,SF.sub,CF.sub,csub,Anc.sub,List.map,Zf,xL,xM,Nat.reduceAdd,xD,xE,xT,xU,xC,xN,zCF,ldSF,Zs,Zao,Zn] at G
  generalize τ 10=v10 at G
  try simp only [Yb] at G
  refine Za (Ya (rZ G (qg 2 103 r1 r1 (qa 103 r1 r1 (qf (Zbp .t qi) r1 qz (qR rr (qv 2 103 rfl r2 r1 (qw 103 rfl r2 r1 (qk rfl (fun h=>ZkF (.w h) qi) r2 qz (qf (ZE .t .t) r2 qz (qR rr (qm rfl rfl rfl rfl (qv 2 103 rfl r2 r1 (qw 103 rfl r2 r1 (qk rfl (fun h=>o_conv underlying162 kr (.w h)) r2 qz (qk rfl (fun h=>Zcg (.w h) (.w h)  (by rw [Zal];omega)) r3 qz (qk rfl (fun h=>o_and (.w h) qi) r2 qz (qk rfl (fun h=>o_eql (.w h) qi) r2 qz (qf (ZE .t .t) r2 qz qZ))))))))))))))))) V [38,18,17,16,10,8,7,6,5,1] [103,102,101,50,0] fun G=>?_))
  refine Zc G rfl (fun hc1=>?_) (fun hc1=>?_)
  ·have hBq:kindOk mask (Nn l i)=true:=by unfold kindOk ofB;simpa using hc1
   refine ZaP G (qR rr (qR rr (qg 0 103 r1 r1 (qa 103 r1 r1 (qf (ZK 102 (ZsI v15 (ZI (ZeM (l.take i) mask)) (Nn l i).src ow) func113 rfl kr (Args.two .t .t)) r2 r1 (qR rr (qg 1 103 r1 r1 (qa 103 r1 r1 (qf (ZK 102 (ZsI v15 (ZaX (ZI (ZeM (l.take i) mask)) (Nn l i).src) (Nn l i).dst ow) func113 rfl kr (Args.two .t .t)) r2 r1 (qg 2 103 r1 r1 (qa 103 r1 r1 (qf (oB [(0,.tmp 43),(1,.tmp 47),(2,.tmp 49)] [.int .i64 0,.int .i64 0,.int .i64 0,.int .i64 0] [(0,1),(1,1),(2,1),(3,1)] (.one rfl .t one_int kr (.one rfl .t one_int kr (.one rfl .t one_int kr .nil)))) r3 qz (qf (o_buildSliceE (sz:=4) (zs:=[.int .i64 0,.int .i64 0,.int .i64 0,.int .i64 0]) (r:=[(0,.tmp 50)]) (l:=[_,_,_,_]) underlying161 kr kr kr kr rfl rfl (.agg rfl .t kr kr .nil) rfl) r1 qz (qf (ZV (sz:=4) (bs:=32) 50 (.mk' underlying161 kr kr) (by intro x;rfl) .is (.arr (l':=[(⟨ZaF (Nn l i).src (ZaX (ZI (ZeM (l.take i) mask)) (Nn l i).src),ZaF (Nn l i).dst (ZaX (ZaX (ZI (ZeM (l.take i) mask)) (Nn l i).src) (Nn l i).dst),(Nn l i).kind,0⟩:Zy)]) .t) (by simp only [Yd,Yl,Yy];omega) (by decide)) ⟨rfl,rfl,tv⟩ ⟨rfl,tv⟩ (qO rr qZ))))))))))))))) V [18,17,16,8,7,6,5,1] [103,102,101,50,0] (fun _=>rfl) (fun _=>rfl) fun τ a w F G=>?_
   try dsimp only [RS.sub,SF.sub,CF.sub,csub,Anc.sub,List.map,Zf,xL,xM,Nat.reduceAdd,xD,xE,xT,xU,xC,xN,zCF,ldSF,Zs,Zao,Zn] at G
   generalize τ 52=v52 at G
   refine Zh (Za (rZ G (qp r1 (qR rr qZ)) V [18,17,16,8,7,6,5,1] [103,102,101,50,0] fun G=>?_))
   rw [Zjl hil hBq] at G
   replace G:=G.ent (i:=18) (s':=.pv (.int .i64 ((i+1:Nat):Int))) rfl (.int (Zd ow))
   obtain ⟨F,G⟩:=G.nM [17,16,7,6,5,1,8,18] [101,0,50,102]
   exact ⟨((i+1),_,_),F,⟨by omega,(by rw [hq];have h9:=ZoO hil hBq;rw [Zjl hil hBq] at h9;exact h9)⟩,G,by omega⟩
  have hBq:kindOk mask (Nn l i)=false:=by unfold kindOk ofB;simpa using hc1
  refine Ye (Zh (Za (rZ G (qp r1 (qR rr qZ)) V [18,17,16,8,7,6,5,1] [103,102,101,50,0] fun G=>?_)))
  rw [← ZnT hil hBq] at G
  replace G:=G.ent (i:=18) (s':=.pv (.int .i64 ((i+1:Nat):Int))) rfl (.int (Zd ow))
  obtain ⟨F,G⟩:=G.nM [17,16,7,6,5,1,8,18] [101,0,50,102]
  exact ⟨((i+1),_,_),F,⟨by omega,(by rw [hq];unfold ZbJ;rw [ZnT hil hBq])⟩,G,by omega⟩
 have hil:i=l.length:=by simp at hc0;omega
 rw [hil,Yz] at hq G
 subst hq
 have hal2:(ZbJ l mask).length≤l.length:=by have:=ZiP l mask l.length;rwa [Yz] at this
 obtain ⟨n,hne⟩:∃ n,(ZI (ZeM l mask)).length=n:=⟨_,rfl⟩
 have hn:n≤4096:=by omega
 refine Yv (Zi (Zi (Zo (Za (Ya (Ya ?_))))))
 obtain ⟨⟨es,ck⟩,G⟩:=G.open_ex 102 rfl
 obtain ⟨hk,G⟩:=G.open_and 102 rfl
 replace G:=G.turn 102 rfl (r':=.ob (.val v15) (ZnG .i64 (fun _=>True) (fun n:Int=>Value.int .i64 n) es ck)) (fun _ _ _ _ h=>h)
 dsimp only at hk
 obtain ⟨F,G⟩:=G.nM [19,18,17,16,8,7,6,5,1] [102,101,50,0]
 refine Ze G (qR rr (qf (Zgm 102 underlying160 .is (by rw [hk.len];omega)) r1 r1 (qf (ZaR .t qi) r1 qz qZ))) V [56,8,7,6,5] [102,101,50,0] rfl rfl fun a w F G=>?_
 rw [hk.len,hne] at G
 refine Za (Zc G rfl (fun hc2=>?_) (fun hc2=>?_))
 ·simp at hc2;omega
 refine Ye (Za (Ya (Zap 2 G kr (cG rfl (oM .t) r1 trivial (cG rfl (Zgm 102 underlying160 .is (by rw [hk.len];omega)) r1 r1 ChainN.nil)) kr (by rw [V];kernel_rfl) fun a w F G=>?_)))
 obtain ⟨F,G⟩:=G.nM [61,8,6,5] [102,101,50,0]
 try dsimp only [Zs,Zao,Zn] at G
 rw [hk.len,hne] at G
 replace G:=G.fresh 104 rfl
 refine ZaJ G kr (cG rfl (Zaq 104 (ZpX (n:Int)) func115 rfl kr (Args.one .t) PV.ptr_one) r1 r1 (cG rfl (oN .t) r1 trivial ChainN.nil)) kr (by rw [V];kernel_rfl) fun a w F G=>?_
 replace G:=G.sub
 obtain ⟨F,G⟩:=G.nM [11,8,6,5] [104,102,101,50,0]
 try dsimp only [RS.sub,SF.sub,CF.sub,csub,Anc.sub,List.map,Zs,Zao,Zn] at G
 generalize Act.tau a 62=v62 at G
 obtain ⟨_,_,_,ho⟩:=G.obGet 104 rfl
 obtain ⟨gb,rfl⟩:=Zls ho
 clear ho
 replace G:=G.turn 104 rfl (r':=RS.hp (Znm (List.replicate (roomN (n:Int)) []) (List.replicate (roomN (n:Int)) []) 0 (.pointer (some ⟨gb,0,none⟩)))) (fun _ _ _ _ h=>h)
 obtain ⟨F,G⟩:=G.nM [11,8,6,5] [104,102,101,50,0]
 rw [ZjJ hn] at G
 refine Za (Ya (Ya ?_))
 obtain ⟨F,G⟩:=G.give 50 8 rfl rfl
 obtain ⟨F,G⟩:=G.nM [11,8,6,5] [104,102,101,0]
 refine rZ G (qR rr (qu underlying161 r1 (qJ qZ))) V [65,64,63,11,8,6,5] [104,102,101,0] fun G=>Yg ?_
 refine Zk (σ:=(Nat)×(List (List Z9))×(List (List Z9))×(Nat)) [5,6,8,11,63,64] [0,101,102] (fun s=>[(65,.pv (.int .i64 (s.1:Int)))]) (fun s=>[(104,RS.hp (Znm s.2.1 s.2.2.1 s.2.2.2 (.pointer (some ⟨gb,0,none⟩))))]) (fun s=>s.1≤(ZbJ l mask).length∧(ZbS n (((ZbJ l mask).take s.1).foldl (ZiW n) []) s.2.1 s.2.2.1∧s.2.2.2≤s.1)) (fun s=>(ZbJ l mask).length - s.1) ((0),_,_,(0)) G ⟨rfl,rfl,rfl,rfl,rfl,rfl,rfl,tv⟩ ⟨rfl,rfl,rfl,rfl,tv⟩ ⟨Yx _,⟨ZbS.new n,YN 0⟩⟩ ?_
 clear G;intro s a w F hC G
 obtain ⟨i,O,I,m⟩:=s
 try dsimp only at hC
 obtain ⟨F,G⟩:=G.nM [65,64,63,11,8,6,5] [104,102,101,0]
 try dsimp only at G
 obtain ⟨hi,hq⟩:=hC
 obtain ⟨hD,hm⟩:=hq
 have hEl:=Zd0 (n:=n) ((ZbJ l mask).take i) []
 rw [Yi,Yy] at hEl
 refine Ya (rZ G (qL r2) V [66,65,64,63,11,8,6,5] [104,102,101,0] fun G=>Ya ?_)
 refine Zc G rfl (fun hc3=>?_) (fun hc3=>?_)
 ·have hil:i<(ZbJ l mask).length:=by simp at hc3;omega
  refine Ye (Za (Ya (Yg (Ya (Zb G (qy 4 underlying161 r2 (qf (oR true 4 .t) r1 qz (qf (oH [.int .i64 0,.int .i64 0,.int .i64 0,.int .i64 0] 105) trivial qz (qS 4 105 r2 r1 qZ)))) V [65,64,63,13,11,8,6,5] [105,104,102,101,0] (fun _=>rfl) (fun _=>rfl) fun τ a w F G=>?_)))))
  try dsimp only [RS.sub,SF.sub,CF.sub,csub,Anc.sub,List.map,Zf,xL,xM,Nat.reduceAdd,xD,xE,xT,xU,xC,xN,zCF,ldSF,Zs,Zao,Zn] at G
  generalize τ 13=v13 at G
  try simp only [Yb] at G
  refine Za (Ze G (qR rr (qe 4 105 r1 r1 (qf (ZK 104 (Zo0 gb O I m (Nn (ZbJ l mask) i) (hD.on.r ow) (hD.inn.r ow) (by rw [hD.ol,hD.il]) (by rw [hD.ol];exact hn) ow) func116 rfl kr (Args.two .t (.pagg .t))) r2 r1 qZ))) V [65,64,63,11,8,6,5] [105,104,102,101,0] rfl rfl fun a w F G=>Zh (Za ?_))
  refine rZ G (qp r1 (qR rr qZ)) V [65,64,63,11,8,6,5] [105,104,102,101,0] fun G=>?_
  replace G:=G.ent (i:=65) (s':=.pv (.int .i64 ((i+1:Nat):Int))) rfl (.int (Zd ow))
  obtain ⟨F,G⟩:=G.nM [64,63,11,8,6,5,65] [102,101,0,104]
  exact ⟨((i+1),_,_,_),F,⟨by omega,⟨by rw [Zp hil,Yau];exact (hD.step hn _ m).1,Y0 (hD.step hn _ m).2 ow⟩⟩,G,by omega⟩
 have hil:i=(ZbJ l mask).length:=by simp at hc3;omega
 rw [hil,Yz] at hD
 obtain ⟨L,hL⟩:=Ztf (adj:=adjO O 14) n fun u y hy=>((hD.adjR 14).1 u y hy).1
 have hElen:((ZbJ l mask).foldl (ZiW n) []).length≤1000000:=by have:=Zd0 (n:=n) (ZbJ l mask) [];rw [Yy] at this;omega
 have hfin:(ZbJ l mask).any (fun x=>decide (Nn L x.src.toNat=Nn L x.dst.toNat) && ZmX must x.kind)=rb:=by
   rw [Yar,hr,Yay,← Zrc (n:=n) hD hne.symm (fun x=>by rw [← hne];exact Zmx x) hL]
   simp only [Yr,Yu]
   rfl
 refine Yv (Zi (Zi (Zo (Za (Ya ?_)))))
 obtain ⟨F,G⟩:=Sat.giveL (p:=ZeJ O I m) G 104 11 rfl rfl Zfc
 obtain ⟨F,G⟩:=G.nM [66,65,64,63,11,8,6,5] [102,101,0]
 refine Zb G (qR rr (qf (oP (ZqA n ((ZbJ l mask).foldl (ZiW n) []) O I m 14 hD hn hElen L hL) func117 (Args.two .t qi)) r1 qz (qf (oH [.slice none 0 0] 106) trivial qz (qf (Za4 106 .same .t one_sl kr kr) r2 r1 qZ)))) V [14,8,6,5] [106,102,101,0] (fun _=>rfl) (fun _=>rfl) fun τ a w F G=>?_
 try dsimp only [RS.sub,SF.sub,CF.sub,csub,Anc.sub,List.map,Zf,xL,xM,Nat.reduceAdd,xD,xE,xT,xU,xC,xN,zCF,Zs,Zao,Zn] at G
 generalize τ 14=v14 at G
 obtain ⟨F,G⟩:=G.giveRef 106 14 rfl rfl rfl
 obtain ⟨F,G⟩:=G.nM [14,8,6,5] [102,101,0]
 try dsimp only [Go.Gm.unCF] at G
 obtain ⟨F,G⟩:=G.giveRef 101 5 rfl rfl rfl
 obtain ⟨F,G⟩:=G.nM [14,8,6,5] [102,0]
 try dsimp only [Go.Gm.unCF] at G
 refine Za (Ya (rZ G (qR rr (qf (ZaK (Args.two .t .t)) r2 qz (qf (oP (Zt1 (ZbJ l mask) (fun x=>decide (Nn L x.src.toNat=Nn L x.dst.toNat) && ZmX must x.kind) 119 f119 [.ref [.sl Zn L],.ref [.int .i64 must]] func119 rfl kr (fun x hx=>Zrw x L must (by rw [hL.1,← hne];exact (Zlo hx).1) (by rw [hL.1,← hne];exact (Zlo hx).2))) func118 (Args.two .t .t)) r2 qz (qO rr qZ)))) V [6] [102,0] fun G=>Yh ?_))
 refine Zr hfr G rfl rfl rfl (.bool hfin)
end Go.Proofs.YtlkpllemoepamaaGreat
namespace Go.Proofs.YtlkpllemoepamaaGreat
open Go Go.Gm Tryz
set_option linter.unusedVariables false
set_option linter.unusedSimpArgs false
set_option maxHeartbeats 4000000
set_option maxRecDepth 8000
open Go.RowKit Go.Maps Go.Sort Go.Shelf Go.ChangeMaps Go.MapKept
section
variable {F:Fence} {n:Nat} {P:Program} {ops:Array Oper} {rest:List Oper} {o:Oper} {a:Act} {w:World} {Q:Exit→Act→World→Prop}
theorem Zd9 (hg:o.guard=none) (m:Operand) (t:TypeId) (hop:o.op=Op.range t m) (k e:TypeId) (ht:P.underlying t=some (.map k e)) (b:Nat) (es:Array MapEntry) (clock:Nat) (hm:a.eval m = .map (some b)) (hb:w.heap[b]? = some (.map es clock))
  (hK:wpListIn F n P ops Q rest (a.put o.dst (.pointer (some ⟨w.heap.size,0,none⟩))) (w.alloc (.mapIter (some b) clock #[] clock))):wpListIn F n P ops Q (o :: rest) a w:=by
 refine wpListIn_plain hg fun K' hK'=>?_
 unfold Oper.wpIn
 refine ⟨by simp [Oper.about,hop],?_⟩
 rw [Oper.semAt_plain F _ _ (by rw [hop];intro c hc';cases hc')]
 simp [execOp,hop,hm,run_range_map w t k e b es clock ht hb,Result.andThen]
 exact hK' _ _ hK
end
theorem ZpA {w w1:World} {r b:Nat} {clock c0:Nat} {seen:Array Nat} {es:Array MapEntry} {x:Nat} (hal:w1=w∨w1=w.drew) (hr:w.heap[r]? = some (.mapIter (some b) clock seen c0)) (hb:w.heap[b]? = some (.map es clock)) (hne:r≠b) :
  (setBlock w1 r (.mapIter (some b) clock (seen.push x) clock)).heap[r]? = some (.mapIter (some b) clock (seen.push x) clock)∧(setBlock w1 r (.mapIter (some b) clock (seen.push x) clock)).heap[b]? = some (.map es clock)∧w.grownBy (setBlock w1 r (.mapIter (some b) clock (seen.push x) clock)) (some r):=by
 have hr1:w1.heap[r]? = some (.mapIter (some b) clock seen c0):=by rcases hal with rfl | rfl <;> exact hr
 have hb1:w1.heap[b]? = some (.map es clock):=by rcases hal with rfl | rfl <;> exact hb
 have hset:=heap_set (o':=.mapIter (some b) clock (seen.push x) clock) hr1
 refine ⟨hset.1,(hset.2 b (fun e1=>hne e1.symm)).trans hb1,?_⟩
 rcases hal with rfl | rfl <;> exact ⟨rfl,rfl,rfl,by simp [setBlock],fun i _ hi=>hset.2 i (fun e1=>hi (by rw [e1]))⟩
def ZrX (es:Array MapEntry) (seen:Array Nat):Prop:=(leftOf es seen).size=0
structure Zq9 (P:Program) (w w2:World) (r b clock:Nat) (seen:Array Nat) (es:Array MapEntry) (e:MapEntry):Prop where
 left:e ∈ (leftOf es seen).toList
 it:w2.heap[r]? = some (.mapIter (some b) clock (seen.push e.born) clock)
 mp:w2.heap[b]? = some (.map es clock)
 grown:w.grownBy w2 (some r)
 entry:(Instr.entry (.pointer (some ⟨r,0,none⟩))).run P w2 = .ok (.tuple #[e.key,e.val]) w2
section
variable {F:Fence} {n:Nat} {P:Program} {ops:Array Oper} {rest:List Oper} {o:Oper} {a:Act} {w:World} {Q:Exit→Act→World→Prop}
theorem Zeu (hg:o.guard=none) (it:Operand) (hop:o.op=Op.next it false) (r b clock c0:Nat) (seen:Array Nat) (es:Array MapEntry) (hit:a.eval it = .pointer (some ⟨r,0,none⟩))
  (hr:w.heap[r]? = some (.mapIter (some b) clock seen c0)) (hb:w.heap[b]? = some (.map es clock)) (hold:∀ x ∈ es.toList,x.born<clock) (hsc:clock≤c0) (hne:r≠b) (hnd:(es.toList.map (·.born)).Nodup)
  (hDone:ZrX es seen→wpListIn F n P ops Q rest (a.put o.dst (.tuple #[.bool false])) w)
  (hMore:∀ (e:MapEntry) (w2:World),Zq9 P w w2 r b clock seen es e→wpListIn F n P ops Q rest (a.put o.dst (.tuple #[.bool true,e.key,e.val])) w2) :
  wpListIn F n P ops Q (o :: rest) a w:=by
 refine wpListIn_plain hg fun K' hK'=>?_
 unfold Oper.wpIn
 refine ⟨by simp [Oper.about,hop],?_⟩
 rw [Oper.semAt_plain F _ _ (by rw [hop];intro c hc';cases hc')]
 rcases run_next_at (P:=P) w o.type r b clock c0 seen es clock hr hb hold hsc with ⟨h0,hrun⟩ | ⟨e,he,w1,hal,hrun⟩
 ·simp [execOp,hop,hit,hrun,Result.andThen]
  exact hK' _ _ (hDone h0)
 ·simp [execOp,hop,hit,hrun,Result.andThen]
  obtain ⟨h1,h2,h3⟩:=ZpA (x:=e.born) hal hr hb hne
  exact hK' _ _ (hMore e _ ⟨he,h1,h2,h3,run_entry_at _ r b clock seen es clock e h1 h2 (mem_left he).1 hnd⟩)
end
theorem Zil:∀ {es:List MapEntry} {seen:Array Nat} {e:MapEntry},(es.map (·.born)).Nodup→e ∈ es→seen.contains e.born=false→(es.filter fun x=>(seen.push e.born).contains x.born).Perm (e :: es.filter fun x=>seen.contains x.born)
 | [],_,_,_,h,_=>by cases h
 | x :: es,seen,e,hn,hm,hs=>by
  rw [YU,YaT] at hn
  rcases Yk.1 hm with rfl | hm
  ·have hrest:(es.filter fun x=>(seen.push e.born).contains x.born)=es.filter fun x=>seen.contains x.born:=List.filter_congr fun y hy=>by
    rw [contains_push]
    have:(y.born == e.born)=false:=by
     simp
     intro h9
     exact hn.1 (h9 ▸ Yw.2 ⟨y,hy,rfl⟩)
    rw [this,Bool.or_false]
   rw [Yae (by rw [contains_push];simp),hrest,Yag (by rw [hs];simp)]
  ·have ih:=Zil hn.2 hm hs
   have hx:(x.born == e.born)=false:=by
    simp
    intro h9
    exact hn.1 (h9 ▸ Yw.2 ⟨e,hm,rfl⟩)
   have hc:(seen.push e.born).contains x.born=seen.contains x.born:=by rw [contains_push,hx,Bool.or_false]
   cases hsx:seen.contains x.born with
   | true=>
    rw [Yae (by rw [hc,hsx]),Yae (by rw [hsx])]
    exact (ih.cons x).trans (List.Perm.swap e x _)
   | false=>
    rw [Yag (by rw [hc,hsx];simp),Yag (by rw [hsx];simp)]
    exact ih
theorem ZqU {es:Array MapEntry} {seen:Array Nat} (h:(leftOf es seen).size=0):(es.toList.filter fun x=>seen.contains x.born)=es.toList:=Ybj.2 fun x hx=>all_seen es seen h x hx
theorem Zoi {es:List MapEntry} : (es.filter fun x=>(#[]:Array Nat).contains x.born) = []:=by
 rw [Ybl];simp
theorem Zn9 {es:Array MapEntry} : (leftOf es #[]).size=es.size:=by simp [leftOf]
end Go.Proofs.YtlkpllemoepamaaGreat
