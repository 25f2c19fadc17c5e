/- Laws and walks. No condition beyond what each says. -/
import Derived.Test.YtlkpllemoepamaaGreatJ9
namespace Go.Proofs.YtlkpllemoepamaaGreat
open Go Go.Gm Tryz
set_option linter.unusedVariables false
set_option linter.unusedSimpArgs false
set_option maxHeartbeats 4000000
set_option maxRecDepth 8000
def Zdi (p q:Int→List Int) (s:Int):List Int:=(p (s / 2)).map (fun u=>2*u+s % 2)++(q (s / 2)).map fun u=>2*u+1
def ZaA (n:Nat) (d:List Int):List Int:=(List.range n).map fun u=>Nn d (2*u+1)
theorem sh1 (s:Int):s.fdiv (2 ^ min (1:Int).toNat (IntKind.bits .i64))=s / 2:=by
 have e:min (1:Int).toNat (IntKind.bits .i64)=1:=by decide
 rw [e]
 exact Ya8 _ (by decide)
theorem Zis (x:Nat) (hx:x<18446744073709551616):(BitVec.ofInt 64 (x:Int)).toNat=x:=by rw [Ya1];omega
theorem and1m {s:Int} (h:0≤s∧s≤1000000):bits .and .i64 s 1=s % 2:=by
 obtain ⟨n,rfl⟩:=YaE h.1
 show IntKind.wrap .i64 (((BitVec.ofInt 64 (n:Int) &&& BitVec.ofInt 64 ((1:Nat):Int)).toNat:Nat):Int)=_
 rw [YbH,Zis n ow,Zis 1 ow,Nat.and_one_is_mod,ZC ow]
 omega
theorem Zh2 {u h:Int} (hu:0≤u∧u≤65536) (hh:h=0∨h=1):bits .or .i64 (IntKind.wrap .i64 (u*2 ^ min (1:Int).toNat (IntKind.bits .i64))) h=2*u+h:=by
 have e:min (1:Int).toNat (IntKind.bits .i64)=1:=by decide
 rw [e,show (2:Int) ^ 1=2 from rfl,ZC ow]
 obtain ⟨n,rfl⟩:=YaE hu.1
 obtain ⟨k,rfl⟩:=YaE (show 0≤h by omega)
 show IntKind.wrap .i64 (((BitVec.ofInt 64 ((n*2:Nat):Int) ||| BitVec.ofInt 64 ((k:Nat):Int)).toNat:Nat):Int)=_
 rw [BitVec.toNat_or,Zis k ow,Zis _ ow,show n*2=n <<< 1 by rw [Nat.shiftLeft_eq],← Nat.shiftLeft_add_eq_or_of_lt ow,Nat.shiftLeft_eq,ZC ow]
 omega
def Zch (n:Nat) (d:List Int):List Int:=(List.range n).map fun u=>Nn d (2*u)
theorem Zam {n:Nat} {d:List Int} : (Zch n d).length=n:=by simp [Zch]
theorem Zax {n:Nat} {d:List Int} : (ZaA n d).length=n:=by simp [ZaA]
theorem ZbR {n:Nat} {d:List Int} {u:Nat} (h:u<n):Nn (Zch n d) u=Nn d (2*u):=by rw [nth_eq (by rw [Zam];exact h)];simp [Zch]
theorem Zc0 {n:Nat} {d:List Int} {u:Nat} (h:u<n):Nn (ZaA n d) u=Nn d (2*u+1):=by rw [nth_eq (by rw [Zax];exact h)];simp [ZaA]
theorem ZeB {n:Nat} {d:List Int} {u:Int} (h:0≤u∧u<n):Nn (Zch n d) u.toNat=fI d (2*u+0):=by
 rw [Zct ow,ZbR ow];congr 1;omega
theorem ZbE {n:Nat} {d:List Int} {u:Int} (h:0≤u∧u<n):Nn (ZaA n d) u.toNat=fI d (2*u+1):=by
 rw [Zct ow,Zc0 ow];congr 1;omega
theorem Zhy {n:Nat} {d:List Int} {u c:Int} (hd:d.length=2*n) (h:0≤u∧u<n):Zch n (d.set (2*u+0).toNat c)=(Zch n d).set u.toNat c:=by
 refine ZaK (by rw [YR,Zam,Zam]) fun j hj=>?_
 rw [Zam] at hj
 rw [Zce (by rw [Zam];omega),ZbR hj,ZbR hj,Zce ow]
 by_cases e:j=u.toNat
 ·rw [Ye e,Ye ow]
 ·rw [Yb e,Yb ow]
theorem ZgY {n:Nat} {d:List Int} {u c:Int} (hd:d.length=2*n) (h:0≤u∧u<n):ZaA n (d.set (2*u+1).toNat c)=(ZaA n d).set u.toNat c:=by
 refine ZaK (by rw [YR,Zax,Zax]) fun j hj=>?_
 rw [Zax] at hj
 rw [Zce (by rw [Zax];omega),Zc0 hj,Zc0 hj,Zce ow]
 by_cases e:j=u.toNat
 ·rw [Ye e,Ye ow]
 ·rw [Yb e,Yb ow]
theorem ZdS {n:Nat} {d:List Int} {u c:Int} (hd:d.length=2*n) (h:0≤u∧u<n):Zch n (d.set (2*u+1).toNat c)=Zch n d:=by
 refine ZaK (by rw [Zam,Zam]) fun j hj=>?_
 rw [Zam] at hj
 rw [ZbR hj,ZbR hj,Zce ow,Yb ow]
theorem ZhS {n:Nat} {d:List Int} {u c:Int} (hd:d.length=2*n) (h:0≤u∧u<n):ZaA n (d.set (2*u+0).toNat c)=ZaA n d:=by
 refine ZaK (by rw [Zax,Zax]) fun j hj=>?_
 rw [Zax] at hj
 rw [Zc0 hj,Zc0 hj,Zce ow,Yb ow]
theorem Zm6 (n:Nat):Zch n (List.replicate (2*n) (-1))=List.replicate n (-1):=by
 refine ZaK (by rw [Zam,YW]) fun j hj=>?_
 rw [Zam] at hj
 rw [ZbR hj,nth_eq (by simp;omega),nth_eq (by simp;omega)];simp
theorem Zpd (n:Nat):ZaA n (List.replicate (2*n) (-1))=List.replicate n (-1):=by
 refine ZaK (by rw [Zax,YW]) fun j hj=>?_
 rw [Zax] at hj
 rw [Zc0 hj,nth_eq (by simp;omega),nth_eq (by simp;omega)];simp
theorem ZmM {n:Nat} {p q:Int→List Int} (hp:∀ x,∀ u ∈ p x,0≤u∧u<(n:Int)) (hq:∀ x,∀ u ∈ q x,0≤u∧u<(n:Int)):∀ s,∀ u ∈ Zdi p q s,0≤u∧u<((2*n:Nat):Int):=fun s u hu=>by
 rcases YA.1 hu with hu | hu
 ·obtain ⟨v,hv,rfl⟩:=Yv.1 hu
  have:=hp _ v hv;omega
 ·obtain ⟨v,hv,rfl⟩:=Yv.1 hu
  have:=hq _ v hv;omega
def Ztw (a b:List Int) (h:Int):Nat→List Int
 | 0=>[]
 | 1=>a.map fun u=>2*u+h
 | _=>(a.map fun u=>2*u+h)++b.map fun u=>2*u+1
section
variable {P:Program} {d:Option Nat} {ty:TypeId} {pos:String} {af:Array Edge} {g:Option (Nat×Bool)} {x y:Operand} {ps qs:List (Nat×SF)} {t:TypeId} {α:Type}
theorem PVs.pick1 [Inhabited α] {p:α→PV} {w:World} {yy:Ys} : ∀ {l:List α} {vs:List Value} (i:Nat),PVs (l.map p) vs w yy→i<l.length → ∃ v,vs[i]? = some v∧(p (Nn l i)).p v w yy
 | [],_,i,_,h=>by simp at h
 | _ :: _,[],_,h,_=>h.elim
 | z :: l,v :: vs,0,h,_=>⟨v,rfl,h.1.2⟩
 | z :: l,v :: vs,i+1,h,hi=>by
  obtain ⟨u,h1,h2⟩:=PVs.pick1 (l:=l) (vs:=vs) i h.2 (by simpa using hi)
  exact ⟨u,by simpa using h1,by rw [nth_eq hi];rw [nth_eq (by simpa using hi)] at h2;simpa using h2⟩
theorem Zfs [Inhabited α] {e n:Nat} {l:List α} {p:α→PV} {k:IntKind} {i:Int} (hu:P.underlying t=some (.array n e)) (ha:P.aggB e=some false) (hs:(P.info? e).map (·.size)=some 1) (hx:Opd x ps (.pv (.agg (l.map p)))) (hy:Opd y qs (.pv (.int k i))) (h0:0≤i) (h1:i<n) (hn:l.length=n) :
  OpC P ⟨d,.index t x y,ty,pos,af,g⟩ ⟨ps++qs,[],.pv (p (Nn l i.toNat)),[]⟩:=
 OpC.pure fun a w yy hp=>by
  obtain ⟨vs,e1,hv⟩:=hx a w yy hp.left
  have e2:=(hy a w yy hp.right).1
  obtain ⟨v,h2,h3⟩:=PVs.pick1 i.toNat hv ow
  refine ⟨v,?_,fun _ _=>h3⟩
  simp [execOp,Instr.index,e1,e2,asIntOf,asInt,Ym hu,Ye (And.intro h0 h1),part,Go.Gm.run_isAgg ha,Go.Gm.run_sizeOf hs,h2]
end
theorem ZsA (E:List Zu) (O I:List (List Z4)) (m:Nat) (mask must node least mn mm:Int) (hmn:bits .andNot .i64 mask must=mn) (hmm:bits .and .i64 mask must=mm) (hne:mn≠mm) (h:Zcz O.length E O I) (hn1:1≤O.length) (hn:O.length≤4096) (hE:E.length≤1000000) (hs0:least≤node) (hs1:0≤node) (hs2:node<O.length) (D:List Int) (hD:Zc5 (2*O.length) (Zdi (fun x=>adjO I mn x) (fun x=>adjO I mm x)) (2*least) (2*node) D):FnP prog 170 [Zhq O I m,.int .i64 mask,.int .i64 must,.int .i64 node,.int .i64 least] (.sl Zo (ZaA O.length D)):=by
 refine FnP.mk func170 rfl ntmps170 rfl fun B a w F Z hfr G=>?_
 obtain ⟨hpn,hln⟩:=h.prevR mn
 obtain ⟨hpm,hlm⟩:=h.prevR mm
 have hpr:=ZmM hpn hpm
 have hw2:IntKind.wrap .i64 (2*(O.length:Int))=(2*(O.length:Int)):=ZC ow
 have hB0:Zds (2*O.length) (Zdi (fun x=>adjO I mn x) (fun x=>adjO I mm x)) (2*least) (2*node) ((List.replicate (2*O.length) (-1)).set (2*node).toNat 0) [2*node]:=Zds.first ⟨by omega,by omega⟩
 have hev0:Zch O.length ((List.replicate (2*O.length) (-1)).set (2*node+0).toNat 0)=(List.replicate O.length (-1)).set node.toNat 0:=by rw [Zhy (by simp) ⟨hs1,hs2⟩,Zm6]
 have hod0:ZaA O.length ((List.replicate (2*O.length) (-1)).set (2*node+0).toNat 0)=List.replicate O.length (-1):=by rw [ZhS (by simp) ⟨hs1,hs2⟩,Zpd]
 refine Ya (rZ G (qC qZ) Z [10,4,3,2,1,0] [0] fun G=>Ya ?_)
 refine Zb G (qR rr (qR rr (qR rr (qf (oB [(0,.tmp 23),(1,.tmp 24),(2,.tmp 25)] [.pointer none,.int .i64 0,.int .i64 0] [(0,1),(1,1),(2,1)] (.one rfl .t ZiZ kr (.one rfl .t one_int kr (.one rfl .t one_int kr .nil)))) r3 qz (qf (oH [.pointer none,.int .i64 0,.int .i64 0] 101) trivial qz (qS 3 101 r2 r1 qZ)))))) Z [11,10,4,3,2,1,0] [101,0] (fun _=>rfl) (fun _=>rfl) fun τ a w F G=>?_
 try dsimp only [RS.sub,SF.sub,CF.sub,csub,Anc.sub,List.map,Zf,xL,xM,Nat.reduceAdd,xD,xE,xT,xU,xC,xN,zCF,Zo] at G
 generalize τ 11=v11 at G
 refine Za (Ya ?_)
 replace G:=G.fresh 102 rfl
 replace G:=G.fresh 103 rfl
 refine ZbI G (qe 3 101 r1 r1 (qf (ZaE 102 (Znu O I m mask least ow ow) func204 rfl kr (Args.one (.pagg .t)) pvOne1) r1 r1 (qe 3 101 r1 r1 (qf (ZaE 103 (Znu O I m mask least ow ow) func204 rfl kr (Args.one (.pagg .t)) pvOne1) r1 r1 (qf (Zbf (sz:=1) (r:=[(0,.tmp 28),(1,.tmp 30)]) (zs:=[.slice none 0 0,.slice none 0 0]) (pl:=[(0,1),(1,1)]) Yb7 kr kr rfl (.same rfl kr (.same rfl kr .nil)) (by rfl)) r2 qz (qf (oH [.slice none 0 0,.slice none 0 0] 104) trivial qz (qS 2 104 r2 r1 qZ))))))) Z [12,11,10,4,3,2,1,0] [104,103,102,101,0] (fun _=>rfl) (fun _=>rfl) fun τ a w F G=>?_
 try dsimp only [RS.sub,SF.sub,CF.sub,csub,Anc.sub,List.map,Zf,xL,xM,Nat.reduceAdd,xD,xE,xT,xU,xC,xN,zCF,ldSF,Zo] at G
 generalize τ 12=v12,τ 28=v28,τ 30=v30 at G
 refine Za (Ya (Ya (rZ G (qe 3 101 r1 r1 (qR rr (qf (oP (Zm9 O I m mask least node) func205 (Args.two (.pagg .t) .t)) r2 qz (qf (o_not .t) r1 qz qZ)))) Z [35,12,10,4,3,2,1,0] [104,103,102,101,0] fun G=>?_)))
 refine Zc G rfl (fun hc0=>?_) (fun hc0=>?_)
 ·simp at hc0;omega
 refine Yf (Za (Ya ?_))
 replace G:=G.fresh 105 rfl
 refine Zb G (qR rr (qf (oP (ZcD O I m) func158 (Args.one .t)) r1 qz (qf (ZlQ qi .t) r1 qz (qf (ZaE 105 (ZmG _) func206 rfl kr (Args.one .t) PV.ptr_one) r1 r1 (qO rr qZ))))) Z [13,12,10,4,3,2,1,0] [105,104,103,102,101,0] (fun _=>rfl) (fun _=>rfl) fun τ a w F G=>?_
 try dsimp only [RS.sub,SF.sub,CF.sub,csub,Anc.sub,List.map,Zo] at G
 generalize τ 41=v41 at G
 obtain ⟨_,_,_,ho⟩:=G.obGet 105 rfl
 obtain ⟨qb,rfl⟩:=ZmP ho
 clear ho
 replace G:=G.turn 105 rfl (r':=RS.hp (rqH (.pointer (some ⟨qb,0,none⟩)) (ZcB (IntKind.wrap .i64 (2*(O.length:Int)))) [])) (fun _ _ _ _ h=>h)
 obtain ⟨F,G⟩:=G.nM [13,12,10,4,3,2,1,0] [105,104,103,102,101,0]
 rw [hw2,ZiQ ow] at G
 refine Za (Ya (Zg G (qf (ZE (sz:=1) 104 Yb7 kr .is qi (by decide) (by decide) (by rfl)) r1 r1 (qa 104 r1 r1 (qR rr (qf (o_indexAddr_row (sz:=1) 102 (.mk YbZ kr) .is .t ow (by rw [YW];omega) (by rfl)) r2 r1 (qf (ZU (R:=Zo) (sz:=1) (v:=0) 102 .t (by intro x;rfl) (by rw [YW];omega) qi rfl one_int kr) r1 r1 qZ))))) Z [13,12,10,4,3,2,1,0] [105,104,103,102,101,0] rfl rfl fun a w F G=>?_))
 try simp only [Yc] at G
 rw [← hev0,← hod0] at G
 refine Za (Ya (rZ G (qR rr (qR rr (qf (ZgG .t qi (by decide)) r1 qz (qf (ZqK .t qi) r1 qz (qf (ZX 105 (Zcl qb (2*(O.length:Int)) [] (2*node+0) (by simp;omega)) func207 rfl kr (Args.two .t (.conv .t (Ent.int (Zh2 ⟨by omega,by omega⟩ (.inl rfl)))))) r2 r1 qZ))))) Z [13,12,10,4,2,1,0] [105,104,103,102,101,0] fun G=>(Ya (Ya ?_))))
 refine Zg G (qR rr (qf (ZX 105 (Zha qb (2*(O.length:Int)) [2*node+0]) func208 rfl kr (Args.one .t)) r1 r1 (qR rr (qf (Zh .t rfl) r1 qz (qf (Zh .t rfl) r1 qz (qO rr (qO rr qZ))))))) Z [15,14,13,12,10,4,2,1,0] [105,104,103,102,101,0] rfl rfl fun a w F G=>?_
 try rw [Int.add_zero] at G
 refine Za (Yg (Zl (σ:=List Int×List Int) [0,1,2,4,10,12,13] [0,101,104] (fun s=>[(14,.pv (.int .i64 (s.2.headD 0))),(15,.pv (.bool (decide (s.2≠[]))))]) (fun s=>[(102,.ob (.val v28) (ZA 3 1 Zo (Zch O.length s.1))),(103,.ob (.val v30) (ZA 3 1 Zo (ZaA O.length s.1))),(105,RS.hp (rqH (.pointer (some ⟨qb,0,none⟩)) (2*(O.length:Int)) s.2.tail))]) (fun s=>Zds (2*O.length) (Zdi (fun x=>adjO I mn x) (fun x=>adjO I mm x)) (2*least) (2*node) s.1 s.2) (fun s=>2*negC s.1+s.2.length) (_,([2*node])) G ⟨rfl,rfl,rfl,rfl,rfl,rfl,rfl,rfl,rfl,tv⟩ ⟨rfl,rfl,rfl,rfl,rfl,rfl,tv⟩ hB0 ?_))
 clear G;intro s a w F hC G
 obtain ⟨d,q⟩:=s
 try dsimp only at hC
 obtain ⟨F,G⟩:=G.nM [15,14,13,12,10,4,2,1,0] [105,104,103,102,101,0]
 try dsimp only at G
 have hBI:Zds (2*O.length) (Zdi (fun x=>adjO I mn x) (fun x=>adjO I mm x)) (2*least) (2*node) d q:=hC
 refine Ya (Ya (rZ G (qR rr qZ) Z [56,15,14,13,12,10,4,2,1,0] [105,104,103,102,101,0] fun G=>?_))
 refine Zc G rfl (fun hc1=>?_) (fun hc1=>?_)
 ·obtain ⟨x,q,rfl⟩:∃ x l,q=x :: l:=List.exists_cons_of_ne_nil (by simpa using hc1)
  try dsimp only [List.headD_cons,List.tail_cons] at G
  have hM0:=hBI.pop
  have hxh:=hM0.1.here
  have hxa:0≤x / 2∧x / 2<(O.length:Int):=by omega
  refine Yf (Za (Ya (Yg (Ya (Zg G (qR rr (qf (Zej .t qi (by decide)) r1 qz (qR rr (qf (Zde .t qi) r1 qz (qO rr (qO rr qZ)))))) Z [17,16,15,14,13,12,10,4,2,1,0] [105,104,103,102,101,0] rfl rfl fun a w F G=>?_)))))
  rw [sh1,and1m ow] at G
  refine Za (Ya (Zg G (qR rr (qR rr (qf (Zkg .t .t) r2 qz (qR rr (qR rr (qf (Zde .t .t) r2 qz (qf (Zbf (sz:=1) (r:=[(0,.tmp 68),(1,.tmp 71)]) (zs:=[.int .i64 0,.int .i64 0]) (pl:=[(0,1),(1,1)]) Yca kr kr rfl (.one rfl .t one_int kr (.one rfl .t one_int kr .nil)) (by rfl)) r2 qz (qJ qZ)))))))) Z [73,72,17,16,15,14,13,12,10,4,2,1,0] [105,104,103,102,101,0] rfl rfl fun a w F G=>?_))
  rw [hmn,hmm] at G
  refine Za (Yg (Zl (σ:=Nat×List Int×List Int) [0,1,2,4,10,12,13,14,15,16,17,72] [0,101,104] (fun s=>[(73,.pv (.int .i64 (s.1:Int)))]) (fun s=>[(102,.ob (.val v28) (ZA 3 1 Zo (Zch O.length s.2.1))),(103,.ob (.val v30) (ZA 3 1 Zo (ZaA O.length s.2.1))),(105,RS.hp (rqH (.pointer (some ⟨qb,0,none⟩)) (2*(O.length:Int)) s.2.2))]) (fun s=>s.1≤2∧ZcA (2*O.length) (Zdi (fun x=>adjO I mn x) (fun x=>adjO I mm x)) (2*least) (2*node) s.2.1 s.2.2 x (Ztw (adjO I mn (x / 2)) (adjO I mm (x / 2)) (x % 2) s.1)∧2*negC s.2.1+s.2.2.length≤2*negC d+q.length) (fun s=>2 - s.1) ((0),(d),(q)) G ⟨rfl,rfl,rfl,rfl,rfl,rfl,rfl,rfl,rfl,rfl,rfl,rfl,rfl,tv⟩ ⟨rfl,rfl,rfl,rfl,rfl,rfl,tv⟩ ⟨by omega,hM0,YL _⟩ ?_))
  clear G;intro s a w F hC G
  obtain ⟨j,d1,q1⟩:=s
  try dsimp only at hC
  obtain ⟨F,G⟩:=G.nM [73,72,17,16,15,14,13,12,10,4,2,1,0] [105,104,103,102,101,0]
  try dsimp only at G
  obtain ⟨hj2,hM1,hmu1⟩:=hC
  refine Ya (rZ G (qf (ZaD .t qi) r1 qz qZ) Z [74,73,72,17,16,15,14,13,12,10,4,2,1,0] [105,104,103,102,101,0] fun G=>Ya ?_)
  refine Zc G rfl (fun hc2=>?_) (fun hc2=>?_)
  ·have hj3:j<2:=by simp at hc2;omega
   refine Yf (Za (Ya (Yg (Ya ?_))))
   by_cases hfk:j=0
   ·subst hfk
    refine Zg G (qf (Zfs (l:=[mn,mm]) (p:=(fun y=>PV.int .i64 y)) Yca kr kr (.conv .t (.aggU rfl rfl)) .t ow ow rfl) r2 qz (qO rr qZ)) Z [73,72,19,17,16,15,14,13,12,10,4,2,1,0] [105,104,103,102,101,0] rfl rfl fun a w F G=>?_
    try simp only [Yc] at G
    rw [show Nn [mn,mm] 0=mn from rfl] at G
    refine Za (Ya (rZ G (qR rr (qO rr qZ)) Z [73,72,20,19,17,16,15,14,13,12,10,4,2,1,0] [105,104,103,102,101,0] fun G=>(Ya (Ya ?_))))
    refine Zg G (qR rr (qR rr (qR rr (qf (Zde .t .t) r2 qz (qf (o_eql .t .t) r2 qz qZ))))) Z [81,73,72,20,19,17,16,15,14,13,12,10,4,2,1,0] [105,104,103,102,101,0] rfl rfl fun a w F G=>?_
    rw [hmm] at G
    refine Za (Zc G rfl (fun hc3=>?_) (fun hc3=>?_))
    ·exact (hne (Yt hc3)).elim
    refine Yf (Za (Ya (rZ G (qR rr (qR rr (qR rr (qf (oP (Zg1 O I m (x / 2) mn (fun l hl=>(h.inn.r hE l hl).1) (by rw [h.ol,h.il])) func209 (Args.three .t .t .t)) r3 qz (qu YbZ r1 (qJ qZ)))))) Z [87,86,85,73,72,20,17,16,15,14,13,12,10,4,2,1,0] [105,104,103,102,101,0] fun G=>Yg ?_)))
    refine Zl (σ:=(Nat)×(List Int)×(List Int)) [0,1,2,4,10,12,13,14,15,16,17,20,72,73,85,86] [0,101,104] (fun s=>[(87,.pv (.int .i64 (s.1:Int)))]) (fun s=>[(102,.ob (.val v28) (ZA 3 1 Zo (Zch O.length s.2.1))),(103,.ob (.val v30) (ZA 3 1 Zo (ZaA O.length s.2.1))),(105,RS.hp (rqH (.pointer (some ⟨qb,0,none⟩)) (2*(O.length:Int)) s.2.2))]) (fun s=>s.1≤(adjO I mn (x / 2)).length∧(ZcA (2*O.length) (Zdi (fun x=>adjO I mn x) (fun x=>adjO I mm x)) (2*least) (2*node) s.2.1 s.2.2 x ([] ++ ((adjO I mn (x / 2)).take s.1).map fun u=>2*u+x % 2)∧2*negC s.2.1+s.2.2.length≤2*negC d+q.length)) (fun s=>(adjO I mn (x / 2)).length - s.1) ((0),(d1),(q1)) G ⟨rfl,rfl,rfl,rfl,rfl,rfl,rfl,rfl,rfl,rfl,rfl,rfl,rfl,rfl,rfl,rfl,rfl,tv⟩ ⟨rfl,rfl,rfl,rfl,rfl,rfl,tv⟩ ⟨Yw _,⟨hM1,hmu1⟩⟩ ?_
    clear G;intro s a w F hC G
    obtain ⟨i,d2,q2⟩:=s
    try dsimp only at hC
    obtain ⟨F,G⟩:=G.nM [87,86,85,73,72,20,17,16,15,14,13,12,10,4,2,1,0] [105,104,103,102,101,0]
    try dsimp only at G
    obtain ⟨hi,hq⟩:=hC
    obtain ⟨hM,hmu⟩:=hq
    have hdl:=hM.1.len
    have hxr:=hM.1.here
    have hxv:=hM.val
    have hqr:=hM.1.room
    have hpx:(adjO I mn (x / 2)).length≤O.length:=hln _
    have hel:(Zch O.length d2).length=O.length:=Zam
    have hol:(ZaA O.length d2).length=O.length:=Zax
    refine Ya (rZ G (qL r2) Z [88,87,86,85,73,72,20,17,16,15,14,13,12,10,4,2,1,0] [105,104,103,102,101,0] fun G=>Ya ?_)
    refine Zc G rfl (fun hc4=>?_) (fun hc4=>?_)
    ·have hil:i<(adjO I mn (x / 2)).length:=by simp at hc4;omega
     have hur:0≤(Nn (adjO I mn (x / 2)) i)∧(Nn (adjO I mn (x / 2)) i)<(O.length:Int):=hpn _ _ (nth_mem hil)
     have hsr:0≤2*(Nn (adjO I mn (x / 2)) i)+x % 2∧2*(Nn (adjO I mn (x / 2)) i)+x % 2<(((2*O.length):Nat):Int):=by omega
     refine Yf (Za (Ya (Yg (Ya (Zg G (qy 1 YbZ r2 (qf (oR false 1 .t) r1 qz (qO rr qZ))) Z [87,86,85,73,72,22,20,17,16,15,14,13,12,10,4,2,1,0] [105,104,103,102,101,0] rfl rfl fun a w F G=>?_)))))
     try simp only [Yc] at G
     refine Za (Ya ?_)
     by_cases hfk:x % 2=0
     ·refine Zg G (qR rr (qR rr (qf (ZbM .t .t) r2 qz (qR rr (qm rfl rfl rfl rfl (qk rfl (fun h=>ZE (sz:=1) 104 Yb7 kr .is (.conv (.w h) (.int hfk)) (by decide) (by decide) (by rfl)) r3 r1 (qw 104 rfl r2 r1 (qm rfl rfl rfl rfl (qk rfl (fun h=>o_indexAddr_row (sz:=1) 102 (.mk YbZ kr) (.w h .is) (.w h) ow ow (by rfl)) r3 r1 (qk rfl (fun h=>ZD (ag:=false) (sz':=1) (sz:=1) 102 (.w h) (by intro x;rfl) ow kr kr kr) r2 r1 (qk rfl (fun h=>ZaD (.w h) qi) r2 qz (qf (ZH .t .t) r2 qz qZ)))))))))))) Z [102,87,86,85,73,72,22,20,17,16,15,14,13,12,10,4,2,1,0] [105,104,103,102,101,0] rfl rfl fun a w F G=>?_
      try simp only [Yc] at G
      refine Za (Zc G rfl (fun hc5=>?_) (fun hc5=>?_))
      ·have hput:least≤(Nn (adjO I mn (x / 2)) i)∧fI d2 (2*(Nn (adjO I mn (x / 2)) i)+0)<0:=by rw [← ZeB hur];simpa using hc5
       rw [show 2*(Nn (adjO I mn (x / 2)) i)+(0:Int)=2*(Nn (adjO I mn (x / 2)) i)+x % 2 by omega] at hput
       obtain ⟨hP1,hP2⟩:=hM.put hsr (Yae _ (Yv.2 ⟨_,nth_mem hil,rfl⟩)) ow hput.2
       have hval:IntKind.wrap .i64 (Nn (Zch O.length d2) (x / 2).toNat+1)=fI d2 x+1:=by rw [ZeB hxa,show 2*(x / 2)+(0:Int)=x by omega];exact ZC ow
       refine Ya (Zz G (qR rr (qf (ZE (sz:=1) 104 Yb7 kr .is (.conv .t (.int hfk)) (by decide) (by decide) (by rfl)) r2 r1 (qa 104 r1 r1 (qR rr (qR rr (qf (ZE (sz:=1) 104 Yb7 kr .is (.conv .t (.int hfk)) (by decide) (by decide) (by rfl)) r2 r1 (qa 104 r1 r1 (qR rr (qf (o_indexAddr_row (sz:=1) 102 (.mk YbZ kr) .is .t ow ow (by rfl)) r2 r1 (qf (ZD (ag:=false) (sz':=1) (sz:=1) 102 .t (by intro x;rfl) ow kr kr kr) r1 r1 (qp r1 (qf (o_indexAddr_row (sz:=1) 102 (.mk YbZ kr) .is .t ow ow (by rfl)) r2 r1 (qf (ZU (R:=Zo) (sz:=1) (v:=_) 102 .t (by intro x;rfl) ow .t rfl one_int kr) r2 r1 qZ))))))))))))) Z [87,86,85,73,72,22,20,17,16,15,14,13,12,10,4,2,1,0] [105,104,103,102,101,0] rfl rfl fun a w F G=>?_)
       try dsimp only [List.map,Zf,xL,xM,Nat.reduceAdd,xD,xE,xT,xU,xC,xN,zCF,ldSF,Zo] at G
       try simp only [Yc] at G
       rw [hval,← Zhy hdl hur,← ZhS (c:=fI d2 x+1) hdl hur] at G
       rw [show 2*(Nn (adjO I mn (x / 2)) i)+(0:Int)=2*(Nn (adjO I mn (x / 2)) i)+x % 2 by omega] at G
       refine Za (Zg G (qR rr (qR rr (qf (ZgG .t qi (by decide)) r1 qz (qR rr (qf (ZqK .t .t) r2 qz (qf (ZX 105 (Zcl qb (2*(O.length:Int)) q2 (2*(Nn (adjO I mn (x / 2)) i)+x % 2) ow) func207 rfl kr (Args.two .t (.conv .t (Ent.int (Zh2 ⟨by omega,by omega⟩ ow))))) r2 r1 qZ)))))) Z [87,86,85,73,72,20,17,16,15,14,13,12,10,4,2,1,0] [105,104,103,102,101,0] rfl rfl fun a w F G=>Zk (Za ?_))
       refine rZ G (qp r1 (qR rr qZ)) Z [87,86,85,73,72,20,17,16,15,14,13,12,10,4,2,1,0] [105,104,103,102,101,0] fun G=>?_
       have hmu3:2*negC (d2.set (2*(Nn (adjO I mn (x / 2)) i)+x % 2).toNat (fI d2 x+1))+(q2 ++ [2*(Nn (adjO I mn (x / 2)) i)+x % 2]).length≤2*negC d+q.length:=by rw [Yd,Yar];omega
       replace G:=G.ent (i:=87) (s':=.pv (.int .i64 ((i+1:Nat):Int))) rfl (.int (Zd ow))
       obtain ⟨F,G⟩:=G.nM [86,85,73,72,20,17,16,15,14,13,12,10,4,2,1,0,87] [104,101,0,105,103,102]
       exact ⟨((i+1),_,(q2 ++ [2*(Nn (adjO I mn (x / 2)) i)+x % 2])),F,⟨by omega,⟨by rw [Zt hil,YK,← YP];exact hP1,hmu3⟩⟩,G,by omega⟩
      have hsk:2*least≤2*(Nn (adjO I mn (x / 2)) i)+x % 2→0≤fI d2 (2*(Nn (adjO I mn (x / 2)) i)+x % 2):=fun h9=>by have h8:=hc5;rw [ZeB hur] at h8;rw [show 2*(Nn (adjO I mn (x / 2)) i)+(0:Int)=2*(Nn (adjO I mn (x / 2)) i)+x % 2 by omega] at h8;simp at h8;exact h8 ow
      refine Yf (Zk (Za (rZ G (qp r1 (qR rr qZ)) Z [87,86,85,73,72,20,17,16,15,14,13,12,10,4,2,1,0] [105,104,103,102,101,0] fun G=>?_)))
      replace G:=G.ent (i:=87) (s':=.pv (.int .i64 ((i+1:Nat):Int))) rfl (.int (Zd ow))
      obtain ⟨F,G⟩:=G.nM [86,85,73,72,20,17,16,15,14,13,12,10,4,2,1,0,87] [104,101,0,105,103,102]
      exact ⟨((i+1),_,_),F,⟨by omega,⟨by rw [Zt hil,YK,← YP];exact hM.skip hsr hsk,hmu⟩⟩,G,by omega⟩
     have hh1:x % 2=1:=by omega
     refine Zg G (qR rr (qR rr (qf (ZbM .t .t) r2 qz (qR rr (qm rfl rfl rfl rfl (qk rfl (fun h=>ZE (sz:=1) 104 Yb7 kr .is (.conv (.w h) (.int hh1)) (by decide) (by decide) (by rfl)) r3 r1 (qw 104 rfl r2 r1 (qm rfl rfl rfl rfl (qk rfl (fun h=>o_indexAddr_row (sz:=1) 103 (.mk YbZ kr) (.w h .is) (.w h) ow ow (by rfl)) r3 r1 (qk rfl (fun h=>ZD (ag:=false) (sz':=1) (sz:=1) 103 (.w h) (by intro x;rfl) ow kr kr kr) r2 r1 (qk rfl (fun h=>ZaD (.w h) qi) r2 qz (qf (ZH .t .t) r2 qz qZ)))))))))))) Z [102,87,86,85,73,72,22,20,17,16,15,14,13,12,10,4,2,1,0] [105,104,103,102,101,0] rfl rfl fun a w F G=>?_
     try simp only [Yc] at G
     refine Za (Zc G rfl (fun hc6=>?_) (fun hc6=>?_))
     ·have hput:least≤(Nn (adjO I mn (x / 2)) i)∧fI d2 (2*(Nn (adjO I mn (x / 2)) i)+1)<0:=by rw [← ZbE hur];simpa using hc6
      rw [show 2*(Nn (adjO I mn (x / 2)) i)+(1:Int)=2*(Nn (adjO I mn (x / 2)) i)+x % 2 by omega] at hput
      obtain ⟨hP1,hP2⟩:=hM.put hsr (Yae _ (Yv.2 ⟨_,nth_mem hil,rfl⟩)) ow hput.2
      have hval:IntKind.wrap .i64 (Nn (ZaA O.length d2) (x / 2).toNat+1)=fI d2 x+1:=by rw [ZbE hxa,show 2*(x / 2)+(1:Int)=x by omega];exact ZC ow
      refine Ya (Zz G (qR rr (qf (ZE (sz:=1) 104 Yb7 kr .is (.conv .t (.int hh1)) (by decide) (by decide) (by rfl)) r2 r1 (qa 104 r1 r1 (qR rr (qR rr (qf (ZE (sz:=1) 104 Yb7 kr .is (.conv .t (.int hh1)) (by decide) (by decide) (by rfl)) r2 r1 (qa 104 r1 r1 (qR rr (qf (o_indexAddr_row (sz:=1) 103 (.mk YbZ kr) .is .t ow ow (by rfl)) r2 r1 (qf (ZD (ag:=false) (sz':=1) (sz:=1) 103 .t (by intro x;rfl) ow kr kr kr) r1 r1 (qp r1 (qf (o_indexAddr_row (sz:=1) 103 (.mk YbZ kr) .is .t ow ow (by rfl)) r2 r1 (qf (ZU (R:=Zo) (sz:=1) (v:=_) 103 .t (by intro x;rfl) ow .t rfl one_int kr) r2 r1 qZ))))))))))))) Z [87,86,85,73,72,22,20,17,16,15,14,13,12,10,4,2,1,0] [105,104,103,102,101,0] rfl rfl fun a w F G=>?_)
      try dsimp only [List.map,Zf,xL,xM,Nat.reduceAdd,xD,xE,xT,xU,xC,xN,zCF,ldSF,Zo] at G
      try simp only [Yc] at G
      rw [hval,← ZgY hdl hur,← ZdS (c:=fI d2 x+1) hdl hur] at G
      rw [show 2*(Nn (adjO I mn (x / 2)) i)+(1:Int)=2*(Nn (adjO I mn (x / 2)) i)+x % 2 by omega] at G
      refine Za (Zg G (qR rr (qR rr (qf (ZgG .t qi (by decide)) r1 qz (qR rr (qf (ZqK .t .t) r2 qz (qf (ZX 105 (Zcl qb (2*(O.length:Int)) q2 (2*(Nn (adjO I mn (x / 2)) i)+x % 2) ow) func207 rfl kr (Args.two .t (.conv .t (Ent.int (Zh2 ⟨by omega,by omega⟩ ow))))) r2 r1 qZ)))))) Z [87,86,85,73,72,20,17,16,15,14,13,12,10,4,2,1,0] [105,104,103,102,101,0] rfl rfl fun a w F G=>Zk (Za ?_))
      refine rZ G (qp r1 (qR rr qZ)) Z [87,86,85,73,72,20,17,16,15,14,13,12,10,4,2,1,0] [105,104,103,102,101,0] fun G=>?_
      have hmu3:2*negC (d2.set (2*(Nn (adjO I mn (x / 2)) i)+x % 2).toNat (fI d2 x+1))+(q2 ++ [2*(Nn (adjO I mn (x / 2)) i)+x % 2]).length≤2*negC d+q.length:=by rw [Yd,Yar];omega
      replace G:=G.ent (i:=87) (s':=.pv (.int .i64 ((i+1:Nat):Int))) rfl (.int (Zd ow))
      obtain ⟨F,G⟩:=G.nM [86,85,73,72,20,17,16,15,14,13,12,10,4,2,1,0,87] [104,101,0,105,103,102]
      exact ⟨((i+1),_,(q2 ++ [2*(Nn (adjO I mn (x / 2)) i)+x % 2])),F,⟨by omega,⟨by rw [Zt hil,YK,← YP];exact hP1,hmu3⟩⟩,G,by omega⟩
     have hsk:2*least≤2*(Nn (adjO I mn (x / 2)) i)+x % 2→0≤fI d2 (2*(Nn (adjO I mn (x / 2)) i)+x % 2):=fun h9=>by have h8:=hc6;rw [ZbE hur] at h8;rw [show 2*(Nn (adjO I mn (x / 2)) i)+(1:Int)=2*(Nn (adjO I mn (x / 2)) i)+x % 2 by omega] at h8;simp at h8;exact h8 ow
     refine Yf (Zk (Za (rZ G (qp r1 (qR rr qZ)) Z [87,86,85,73,72,20,17,16,15,14,13,12,10,4,2,1,0] [105,104,103,102,101,0] fun G=>?_)))
     replace G:=G.ent (i:=87) (s':=.pv (.int .i64 ((i+1:Nat):Int))) rfl (.int (Zd ow))
     obtain ⟨F,G⟩:=G.nM [86,85,73,72,20,17,16,15,14,13,12,10,4,2,1,0,87] [104,101,0,105,103,102]
     exact ⟨((i+1),_,_),F,⟨by omega,⟨by rw [Zt hil,YK,← YP];exact hM.skip hsr hsk,hmu⟩⟩,G,by omega⟩
    have hil:i=(adjO I mn (x / 2)).length:=by simp at hc4;omega
    refine Yx (Zj (Zj (Zr (Zk (Za (rZ G (qp r1 (qR rr qZ)) Z [73,72,17,16,15,14,13,12,10,4,2,1,0] [105,104,103,102,101,0] fun G=>?_))))))
    replace G:=G.ent (i:=73) (s':=.pv (.int .i64 (((1:Nat):Nat):Int))) rfl (.int rfl)
    obtain ⟨F,G⟩:=G.nM [72,17,16,15,14,13,12,10,4,2,1,0,73] [104,101,0,105,103,102]
    exact ⟨((1),(d2),(q2)),F,⟨by omega,by rw [hil,YC] at hM;exact hM,hmu⟩,G,by omega⟩
   have hj1:j=1:=by omega
   subst hj1
   clear hfk
   refine Zg G (qf (Zfs (l:=[mn,mm]) (p:=(fun y=>PV.int .i64 y)) Yca kr kr (.conv .t (.aggU rfl rfl)) .t ow ow rfl) r2 qz (qO rr qZ)) Z [73,72,19,17,16,15,14,13,12,10,4,2,1,0] [105,104,103,102,101,0] rfl rfl fun a w F G=>?_
   try simp only [Yc] at G
   rw [show Nn [mn,mm] 1=mm from rfl] at G
   refine Za (Ya (rZ G (qR rr (qO rr qZ)) Z [73,72,20,19,17,16,15,14,13,12,10,4,2,1,0] [105,104,103,102,101,0] fun G=>(Ya (Ya ?_))))
   refine Zg G (qR rr (qR rr (qR rr (qf (Zde .t .t) r2 qz (qf (o_eql .t .t) r2 qz qZ))))) Z [81,73,72,20,19,17,16,15,14,13,12,10,4,2,1,0] [105,104,103,102,101,0] rfl rfl fun a w F G=>?_
   rw [hmm] at G
   refine Za (Zc G rfl (fun hc7=>?_) (fun hc7=>?_))
   ·refine rZ G (qI qZ) Z [73,72,20,19,17,16,15,14,13,12,10,4,2,1,0] [105,104,103,102,101,0] fun G=>Ya ?_
    refine rZ G (qR rr (qR rr (qR rr (qf (oP (Zg1 O I m (x / 2) mm (fun l hl=>(h.inn.r hE l hl).1) (by rw [h.ol,h.il])) func209 (Args.three .t .t .t)) r3 qz (qu YbZ r1 (qJ qZ)))))) Z [87,86,85,73,72,20,17,16,15,14,13,12,10,4,2,1,0] [105,104,103,102,101,0] fun G=>Yg ?_
    refine Zl (σ:=(Nat)×(List Int)×(List Int)) [0,1,2,4,10,12,13,14,15,16,17,20,72,73,85,86] [0,101,104] (fun s=>[(87,.pv (.int .i64 (s.1:Int)))]) (fun s=>[(102,.ob (.val v28) (ZA 3 1 Zo (Zch O.length s.2.1))),(103,.ob (.val v30) (ZA 3 1 Zo (ZaA O.length s.2.1))),(105,RS.hp (rqH (.pointer (some ⟨qb,0,none⟩)) (2*(O.length:Int)) s.2.2))]) (fun s=>s.1≤(adjO I mm (x / 2)).length∧(ZcA (2*O.length) (Zdi (fun x=>adjO I mn x) (fun x=>adjO I mm x)) (2*least) (2*node) s.2.1 s.2.2 x (((adjO I mn (x / 2)).map fun u=>2*u+x % 2)++((adjO I mm (x / 2)).take s.1).map fun u=>2*u+1)∧2*negC s.2.1+s.2.2.length≤2*negC d+q.length)) (fun s=>(adjO I mm (x / 2)).length - s.1) ((0),(d1),(q1)) G ⟨rfl,rfl,rfl,rfl,rfl,rfl,rfl,rfl,rfl,rfl,rfl,rfl,rfl,rfl,rfl,rfl,rfl,tv⟩ ⟨rfl,rfl,rfl,rfl,rfl,rfl,tv⟩ ⟨Yw _,⟨by show ZcA _ _ _ _ _ _ _ (_ ++ []);rw [YN];exact hM1,hmu1⟩⟩ ?_
    clear G;intro s a w F hC G
    obtain ⟨i,d2,q2⟩:=s
    try dsimp only at hC
    obtain ⟨F,G⟩:=G.nM [87,86,85,73,72,20,17,16,15,14,13,12,10,4,2,1,0] [105,104,103,102,101,0]
    try dsimp only at G
    obtain ⟨hi,hq⟩:=hC
    obtain ⟨hM,hmu⟩:=hq
    have hdl:=hM.1.len
    have hxr:=hM.1.here
    have hxv:=hM.val
    have hqr:=hM.1.room
    have hpx:(adjO I mm (x / 2)).length≤O.length:=hlm _
    have hel:(Zch O.length d2).length=O.length:=Zam
    have hol:(ZaA O.length d2).length=O.length:=Zax
    refine Ya (rZ G (qL r2) Z [88,87,86,85,73,72,20,17,16,15,14,13,12,10,4,2,1,0] [105,104,103,102,101,0] fun G=>Ya ?_)
    refine Zc G rfl (fun hc8=>?_) (fun hc8=>?_)
    ·have hil:i<(adjO I mm (x / 2)).length:=by simp at hc8;omega
     have hur:0≤(Nn (adjO I mm (x / 2)) i)∧(Nn (adjO I mm (x / 2)) i)<(O.length:Int):=hpm _ _ (nth_mem hil)
     have hsr:0≤2*(Nn (adjO I mm (x / 2)) i)+1∧2*(Nn (adjO I mm (x / 2)) i)+1<(((2*O.length):Nat):Int):=by omega
     refine Yf (Za (Ya (Yg (Ya (Zg G (qy 1 YbZ r2 (qf (oR false 1 .t) r1 qz (qO rr qZ))) Z [87,86,85,73,72,22,20,17,16,15,14,13,12,10,4,2,1,0] [105,104,103,102,101,0] rfl rfl fun a w F G=>?_)))))
     try simp only [Yc] at G
     refine Za (Ya ?_)
     by_cases hfk:x % 2=0
     ·refine Zg G (qR rr (qR rr (qf (ZbM .t .t) r2 qz (qR rr (qm rfl rfl rfl rfl (qk rfl (fun h=>ZE (sz:=1) 104 Yb7 kr .is (.w h) (by decide) (by decide) (by rfl)) r3 r1 (qw 104 rfl r2 r1 (qm rfl rfl rfl rfl (qk rfl (fun h=>o_indexAddr_row (sz:=1) 103 (.mk YbZ kr) (.w h .is) (.w h) ow ow (by rfl)) r3 r1 (qk rfl (fun h=>ZD (ag:=false) (sz':=1) (sz:=1) 103 (.w h) (by intro x;rfl) ow kr kr kr) r2 r1 (qk rfl (fun h=>ZaD (.w h) qi) r2 qz (qf (ZH .t .t) r2 qz qZ)))))))))))) Z [102,87,86,85,73,72,22,20,17,16,15,14,13,12,10,4,2,1,0] [105,104,103,102,101,0] rfl rfl fun a w F G=>?_
      try simp only [Yc] at G
      refine Za (Zc G rfl (fun hc9=>?_) (fun hc9=>?_))
      ·have hput:least≤(Nn (adjO I mm (x / 2)) i)∧fI d2 (2*(Nn (adjO I mm (x / 2)) i)+1)<0:=by rw [← ZbE hur];simpa using hc9
       obtain ⟨hP1,hP2⟩:=hM.put hsr (YU _ (Yv.2 ⟨_,nth_mem hil,rfl⟩)) ow hput.2
       have hval:IntKind.wrap .i64 (Nn (Zch O.length d2) (x / 2).toNat+1)=fI d2 x+1:=by rw [ZeB hxa,show 2*(x / 2)+(0:Int)=x by omega];exact ZC ow
       refine Ya (Zz G (qR rr (qf (ZE (sz:=1) 104 Yb7 kr .is .t (by decide) (by decide) (by rfl)) r2 r1 (qa 104 r1 r1 (qR rr (qR rr (qf (ZE (sz:=1) 104 Yb7 kr .is (.conv .t (.int hfk)) (by decide) (by decide) (by rfl)) r2 r1 (qa 104 r1 r1 (qR rr (qf (o_indexAddr_row (sz:=1) 102 (.mk YbZ kr) .is .t ow ow (by rfl)) r2 r1 (qf (ZD (ag:=false) (sz':=1) (sz:=1) 102 .t (by intro x;rfl) ow kr kr kr) r1 r1 (qp r1 (qf (o_indexAddr_row (sz:=1) 103 (.mk YbZ kr) .is .t ow ow (by rfl)) r2 r1 (qf (ZU (R:=Zo) (sz:=1) (v:=_) 103 .t (by intro x;rfl) ow .t rfl one_int kr) r2 r1 qZ))))))))))))) Z [87,86,85,73,72,22,20,17,16,15,14,13,12,10,4,2,1,0] [105,104,103,102,101,0] rfl rfl fun a w F G=>?_)
       try dsimp only [List.map,Zf,xL,xM,Nat.reduceAdd,xD,xE,xT,xU,xC,xN,zCF,ldSF,Zo] at G
       try simp only [Yc] at G
       rw [hval,← ZgY hdl hur,← ZdS (c:=fI d2 x+1) hdl hur] at G
       refine Za (Zg G (qR rr (qR rr (qf (ZgG .t qi (by decide)) r1 qz (qR rr (qf (ZqK .t .t) r2 qz (qf (ZX 105 (Zcl qb (2*(O.length:Int)) q2 (2*(Nn (adjO I mm (x / 2)) i)+1) ow) func207 rfl kr (Args.two .t (.conv .t (Ent.int (Zh2 ⟨by omega,by omega⟩ ow))))) r2 r1 qZ)))))) Z [87,86,85,73,72,20,17,16,15,14,13,12,10,4,2,1,0] [105,104,103,102,101,0] rfl rfl fun a w F G=>Zk (Za ?_))
       refine rZ G (qp r1 (qR rr qZ)) Z [87,86,85,73,72,20,17,16,15,14,13,12,10,4,2,1,0] [105,104,103,102,101,0] fun G=>?_
       have hmu3:2*negC (d2.set (2*(Nn (adjO I mm (x / 2)) i)+1).toNat (fI d2 x+1))+(q2 ++ [2*(Nn (adjO I mm (x / 2)) i)+1]).length≤2*negC d+q.length:=by rw [Yd,Yar];omega
       replace G:=G.ent (i:=87) (s':=.pv (.int .i64 ((i+1:Nat):Int))) rfl (.int (Zd ow))
       obtain ⟨F,G⟩:=G.nM [86,85,73,72,20,17,16,15,14,13,12,10,4,2,1,0,87] [104,101,0,105,103,102]
       exact ⟨((i+1),_,(q2 ++ [2*(Nn (adjO I mm (x / 2)) i)+1])),F,⟨by omega,⟨by rw [Zt hil,YK,← YP];exact hP1,hmu3⟩⟩,G,by omega⟩
      have hsk:2*least≤2*(Nn (adjO I mm (x / 2)) i)+1→0≤fI d2 (2*(Nn (adjO I mm (x / 2)) i)+1):=fun h9=>by have h8:=hc9;rw [ZbE hur] at h8;simp at h8;exact h8 ow
      refine Yf (Zk (Za (rZ G (qp r1 (qR rr qZ)) Z [87,86,85,73,72,20,17,16,15,14,13,12,10,4,2,1,0] [105,104,103,102,101,0] fun G=>?_)))
      replace G:=G.ent (i:=87) (s':=.pv (.int .i64 ((i+1:Nat):Int))) rfl (.int (Zd ow))
      obtain ⟨F,G⟩:=G.nM [86,85,73,72,20,17,16,15,14,13,12,10,4,2,1,0,87] [104,101,0,105,103,102]
      exact ⟨((i+1),_,_),F,⟨by omega,⟨by rw [Zt hil,YK,← YP];exact hM.skip hsr hsk,hmu⟩⟩,G,by omega⟩
     have hh1:x % 2=1:=by omega
     refine Zg G (qR rr (qR rr (qf (ZbM .t .t) r2 qz (qR rr (qm rfl rfl rfl rfl (qk rfl (fun h=>ZE (sz:=1) 104 Yb7 kr .is (.w h) (by decide) (by decide) (by rfl)) r3 r1 (qw 104 rfl r2 r1 (qm rfl rfl rfl rfl (qk rfl (fun h=>o_indexAddr_row (sz:=1) 103 (.mk YbZ kr) (.w h .is) (.w h) ow ow (by rfl)) r3 r1 (qk rfl (fun h=>ZD (ag:=false) (sz':=1) (sz:=1) 103 (.w h) (by intro x;rfl) ow kr kr kr) r2 r1 (qk rfl (fun h=>ZaD (.w h) qi) r2 qz (qf (ZH .t .t) r2 qz qZ)))))))))))) Z [102,87,86,85,73,72,22,20,17,16,15,14,13,12,10,4,2,1,0] [105,104,103,102,101,0] rfl rfl fun a w F G=>?_
     try simp only [Yc] at G
     refine Za (Zc G rfl (fun hc10=>?_) (fun hc10=>?_))
     ·have hput:least≤(Nn (adjO I mm (x / 2)) i)∧fI d2 (2*(Nn (adjO I mm (x / 2)) i)+1)<0:=by rw [← ZbE hur];simpa using hc10
      obtain ⟨hP1,hP2⟩:=hM.put hsr (YU _ (Yv.2 ⟨_,nth_mem hil,rfl⟩)) ow hput.2
      have hval:IntKind.wrap .i64 (Nn (ZaA O.length d2) (x / 2).toNat+1)=fI d2 x+1:=by rw [ZbE hxa,show 2*(x / 2)+(1:Int)=x by omega];exact ZC ow
      refine Ya (Zz G (qR rr (qf (ZE (sz:=1) 104 Yb7 kr .is .t (by decide) (by decide) (by rfl)) r2 r1 (qa 104 r1 r1 (qR rr (qR rr (qf (ZE (sz:=1) 104 Yb7 kr .is (.conv .t (.int hh1)) (by decide) (by decide) (by rfl)) r2 r1 (qa 104 r1 r1 (qR rr (qf (o_indexAddr_row (sz:=1) 103 (.mk YbZ kr) .is .t ow ow (by rfl)) r2 r1 (qf (ZD (ag:=false) (sz':=1) (sz:=1) 103 .t (by intro x;rfl) ow kr kr kr) r1 r1 (qp r1 (qf (o_indexAddr_row (sz:=1) 103 (.mk YbZ kr) .is .t ow ow (by rfl)) r2 r1 (qf (ZU (R:=Zo) (sz:=1) (v:=_) 103 .t (by intro x;rfl) ow .t rfl one_int kr) r2 r1 qZ))))))))))))) Z [87,86,85,73,72,22,20,17,16,15,14,13,12,10,4,2,1,0] [105,104,103,102,101,0] rfl rfl fun a w F G=>?_)
      try dsimp only [List.map,Zf,xL,xM,Nat.reduceAdd,xD,xE,xT,xU,xC,xN,zCF,ldSF,Zo] at G
      try simp only [Yc] at G
      rw [hval,← ZgY hdl hur,← ZdS (c:=fI d2 x+1) hdl hur] at G
      refine Za (Zg G (qR rr (qR rr (qf (ZgG .t qi (by decide)) r1 qz (qR rr (qf (ZqK .t .t) r2 qz (qf (ZX 105 (Zcl qb (2*(O.length:Int)) q2 (2*(Nn (adjO I mm (x / 2)) i)+1) ow) func207 rfl kr (Args.two .t (.conv .t (Ent.int (Zh2 ⟨by omega,by omega⟩ ow))))) r2 r1 qZ)))))) Z [87,86,85,73,72,20,17,16,15,14,13,12,10,4,2,1,0] [105,104,103,102,101,0] rfl rfl fun a w F G=>Zk (Za ?_))
      refine rZ G (qp r1 (qR rr qZ)) Z [87,86,85,73,72,20,17,16,15,14,13,12,10,4,2,1,0] [105,104,103,102,101,0] fun G=>?_
      have hmu3:2*negC (d2.set (2*(Nn (adjO I mm (x / 2)) i)+1).toNat (fI d2 x+1))+(q2 ++ [2*(Nn (adjO I mm (x / 2)) i)+1]).length≤2*negC d+q.length:=by rw [Yd,Yar];omega
      replace G:=G.ent (i:=87) (s':=.pv (.int .i64 ((i+1:Nat):Int))) rfl (.int (Zd ow))
      obtain ⟨F,G⟩:=G.nM [86,85,73,72,20,17,16,15,14,13,12,10,4,2,1,0,87] [104,101,0,105,103,102]
      exact ⟨((i+1),_,(q2 ++ [2*(Nn (adjO I mm (x / 2)) i)+1])),F,⟨by omega,⟨by rw [Zt hil,YK,← YP];exact hP1,hmu3⟩⟩,G,by omega⟩
     have hsk:2*least≤2*(Nn (adjO I mm (x / 2)) i)+1→0≤fI d2 (2*(Nn (adjO I mm (x / 2)) i)+1):=fun h9=>by have h8:=hc10;rw [ZbE hur] at h8;simp at h8;exact h8 ow
     refine Yf (Zk (Za (rZ G (qp r1 (qR rr qZ)) Z [87,86,85,73,72,20,17,16,15,14,13,12,10,4,2,1,0] [105,104,103,102,101,0] fun G=>?_)))
     replace G:=G.ent (i:=87) (s':=.pv (.int .i64 ((i+1:Nat):Int))) rfl (.int (Zd ow))
     obtain ⟨F,G⟩:=G.nM [86,85,73,72,20,17,16,15,14,13,12,10,4,2,1,0,87] [104,101,0,105,103,102]
     exact ⟨((i+1),_,_),F,⟨by omega,⟨by rw [Zt hil,YK,← YP];exact hM.skip hsr hsk,hmu⟩⟩,G,by omega⟩
    have hil:i=(adjO I mm (x / 2)).length:=by simp at hc8;omega
    refine Yx (Zj (Zj (Zr (Zk (Za (rZ G (qp r1 (qR rr qZ)) Z [73,72,17,16,15,14,13,12,10,4,2,1,0] [105,104,103,102,101,0] fun G=>?_))))))
    replace G:=G.ent (i:=73) (s':=.pv (.int .i64 (((2:Nat):Nat):Int))) rfl (.int rfl)
    obtain ⟨F,G⟩:=G.nM [72,17,16,15,14,13,12,10,4,2,1,0,73] [104,101,0,105,103,102]
    exact ⟨((2),(d2),(q2)),F,⟨by omega,by rw [hil,YC] at hM;exact hM,hmu⟩,G,by omega⟩
   simp at hc7
  have hj3:j=2:=by simp at hc2;omega
  subst hj3
  have hBI2:Zds (2*O.length) (Zdi (fun x=>adjO I mn x) (fun x=>adjO I mm x)) (2*least) (2*node) d1 q1:=ZcA.done hM1
  have hmu2:2*negC d1+q1.length<2*negC d+(x :: q).length:=by rw [Yl];omega
  refine Yx (Zj (Zj (Zr (Zk (Za (rZ G (qR rr (qf (ZX 105 (Zha qb (2*(O.length:Int)) q1) func208 rfl kr (Args.one .t)) r1 r1 (qR rr (qf (Zh .t rfl) r1 qz (qf (Zh .t rfl) r1 qz (qO rr (qO rr qZ))))))) Z [15,14,13,12,10,4,2,1,0] [105,104,103,102,101,0] fun G=>?_))))))
  obtain ⟨F,G⟩:=G.nM [13,12,10,4,2,1,0,15,14] [104,101,0,105,103,102]
  exact ⟨((d1),(q1)),F,hBI2,G,hmu2⟩
 have hqe:q = []:=by simpa using hc1
 subst hqe
 have hfin:ZaA O.length d=ZaA O.length D:=Y1 _ ((Znw.dist hpr hBI.1).one hD)
 refine Yx (Zj (Zj (Zr (Za (Ya (Zg G (qf (ZE (sz:=1) 104 Yb7 kr .is qi (by decide) (by decide) (by rfl)) r1 r1 (qa 104 r1 r1 (qO rr qZ))) Z [10] [105,104,103,102,101,0] rfl rfl fun a w F G=>?_))))))
 try simp only [Yc] at G
 refine Za (Yh ?_)
 obtain ⟨F,G⟩:=G.give 103 10 rfl rfl
 refine Zw hfr G rfl rfl rfl (.sl hfin)
end Go.Proofs.YtlkpllemoepamaaGreat
