/- Texts put together. No condition beyond those that each theorem says. -/
import Derived.Test.YtlkpllemoepamaaGreatJ13
namespace Go.Proofs.YtlkpllemoepamaaGreat
open Go Go.Gm Tryz
set_option linter.unusedVariables false
set_option linter.unusedSimpArgs false
set_option maxHeartbeats 4000000
set_option maxRecDepth 8000
def ZdJ (p q:Int→List Int) (s:Int):List Int:=(p (s / 2)).map (fun u=>2*u+s % 2)++(q (s / 2)).map fun u=>2*u+1
def ZaU (n:Nat) (d:List Int):List Int:=(List.range n).map fun u=>Nn d (2*u+1)
theorem sh1 (s:Int):s.fdiv (2 ^ min (1:Int).toNat (IntKind.bits .i64))=s / 2:=by
 have e:min (1:Int).toNat (IntKind.bits .i64)=1:=by decide
 rw [e]
 exact YaQ _ (by decide)
theorem Zji (x:Nat) (hx:x<18446744073709551616):(BitVec.ofInt 64 (x:Int)).toNat=x:=by rw [YaE];omega
theorem and1m {s:Int} (h:0≤s∧s≤1000000):bits .and .i64 s 1=s % 2:=by
 obtain ⟨n,rfl⟩:=Yae h.1
 show IntKind.wrap .i64 (((BitVec.ofInt 64 (n:Int) &&& BitVec.ofInt 64 ((1:Nat):Int)).toNat:Nat):Int)=_
 rw [Ybq,Zji n ow,Zji 1 ow,Nat.and_one_is_mod,Zz ow]
 omega
theorem Zjo {u h:Int} (hu:0≤u∧u≤65536) (hh:h=0∨h=1):bits .or .i64 (IntKind.wrap .i64 (u*2 ^ min (1:Int).toNat (IntKind.bits .i64))) h=2*u+h:=by
 have e:min (1:Int).toNat (IntKind.bits .i64)=1:=by decide
 rw [e,show (2:Int) ^ 1=2 from rfl,Zz ow]
 obtain ⟨n,rfl⟩:=Yae hu.1
 obtain ⟨k,rfl⟩:=Yae (show 0≤h by omega)
 show IntKind.wrap .i64 (((BitVec.ofInt 64 ((n*2:Nat):Int) ||| BitVec.ofInt 64 ((k:Nat):Int)).toNat:Nat):Int)=_
 rw [BitVec.toNat_or,Zji k ow,Zji _ ow,show n*2=n <<< 1 by rw [Nat.shiftLeft_eq],← Nat.shiftLeft_add_eq_or_of_lt ow,Nat.shiftLeft_eq,Zz ow]
 omega
def Zcu (n:Nat) (d:List Int):List Int:=(List.range n).map fun u=>Nn d (2*u)
theorem Zay {n:Nat} {d:List Int} : (Zcu n d).length=n:=by simp [Zcu]
theorem ZaL {n:Nat} {d:List Int} : (ZaU n d).length=n:=by simp [ZaU]
theorem Zco {n:Nat} {d:List Int} {u:Nat} (h:u<n):Nn (Zcu n d) u=Nn d (2*u):=by rw [nth_eq (by rw [Zay];exact h)];simp [Zcu]
theorem Zdf {n:Nat} {d:List Int} {u:Nat} (h:u<n):Nn (ZaU n d) u=Nn d (2*u+1):=by rw [nth_eq (by rw [ZaL];exact h)];simp [ZaU]
theorem Zfb {n:Nat} {d:List Int} {u:Int} (h:0≤u∧u<n):Nn (Zcu n d) u.toNat=fI d (2*u+0):=by
 rw [ZaR ow,Zco ow];congr 1;omega
theorem ZbR {n:Nat} {d:List Int} {u:Int} (h:0≤u∧u<n):Nn (ZaU n d) u.toNat=fI d (2*u+1):=by
 rw [ZaR ow,Zdf ow];congr 1;omega
theorem ZiE {n:Nat} {d:List Int} {u c:Int} (hd:d.length=2*n) (h:0≤u∧u<n):Zcu n (d.set (2*u+0).toNat c)=(Zcu n d).set u.toNat c:=by
 refine ZaV (by rw [YI,Zay,Zay]) fun j hj=>?_
 rw [Zay] at hj
 rw [ZcI (by rw [Zay];omega),Zco hj,Zco hj,ZcI ow]
 by_cases e:j=u.toNat
 ·rw [Yf e,Yf ow]
 ·rw [Yc e,Yc ow]
theorem ZhF {n:Nat} {d:List Int} {u c:Int} (hd:d.length=2*n) (h:0≤u∧u<n):ZaU n (d.set (2*u+1).toNat c)=(ZaU n d).set u.toNat c:=by
 refine ZaV (by rw [YI,ZaL,ZaL]) fun j hj=>?_
 rw [ZaL] at hj
 rw [ZcI (by rw [ZaL];omega),Zdf hj,Zdf hj,ZcI ow]
 by_cases e:j=u.toNat
 ·rw [Yf e,Yf ow]
 ·rw [Yc e,Yc ow]
theorem Zev {n:Nat} {d:List Int} {u c:Int} (hd:d.length=2*n) (h:0≤u∧u<n):Zcu n (d.set (2*u+1).toNat c)=Zcu n d:=by
 refine ZaV (by rw [Zay,Zay]) fun j hj=>?_
 rw [Zay] at hj
 rw [Zco hj,Zco hj,ZcI ow,Yc ow]
theorem Ziz {n:Nat} {d:List Int} {u c:Int} (hd:d.length=2*n) (h:0≤u∧u<n):ZaU n (d.set (2*u+0).toNat c)=ZaU n d:=by
 refine ZaV (by rw [ZaL,ZaL]) fun j hj=>?_
 rw [ZaL] at hj
 rw [Zdf hj,Zdf hj,ZcI ow,Yc ow]
theorem ZpT (n:Nat):Zcu n (List.replicate (2*n) (-1))=List.replicate n (-1):=by
 refine ZaV (by rw [Zay,YT]) fun j hj=>?_
 rw [Zay] at hj
 rw [Zco hj,nth_eq (by simp;omega),nth_eq (by simp;omega)];simp
theorem Zri (n:Nat):ZaU n (List.replicate (2*n) (-1))=List.replicate n (-1):=by
 refine ZaV (by rw [ZaL,YT]) fun j hj=>?_
 rw [ZaL] at hj
 rw [Zdf hj,nth_eq (by simp;omega),nth_eq (by simp;omega)];simp
theorem Zp8 {n:Nat} {p q:Int→List Int} (hp:∀ x,∀ u ∈ p x,0≤u∧u<(n:Int)) (hq:∀ x,∀ u ∈ q x,0≤u∧u<(n:Int)):∀ s,∀ u ∈ ZdJ p q s,0≤u∧u<((2*n:Nat):Int):=fun s u hu=>by
 rcases Yz.1 hu with hu | hu
 ·obtain ⟨v,hv,rfl⟩:=Yv.1 hu
  have:=hp _ v hv;omega
 ·obtain ⟨v,hv,rfl⟩:=Yv.1 hu
  have:=hq _ v hv;omega
def ZvY (a b:List Int) (h:Int):Nat→List Int
 | 0=>[]
 | 1=>a.map fun u=>2*u+h
 | _=>(a.map fun u=>2*u+h)++b.map fun u=>2*u+1
section
variable {P:Program} {d:Option Nat} {ty:TypeId} {pos:String} {af:Array Edge} {g:Option (Nat×Bool)} {x y:Operand} {ps qs:List (Nat×SF)} {t:TypeId} {α:Type}
theorem PVs.pick1 [Inhabited α] {p:α→PV} {w:World} {yy:Ys} : ∀ {l:List α} {vs:List Value} (i:Nat),PVs (l.map p) vs w yy→i<l.length → ∃ v,vs[i]? = some v∧(p (Nn l i)).p v w yy
 | [],_,i,_,h=>by simp at h
 | _ :: _,[],_,h,_=>h.elim
 | z :: l,v :: vs,0,h,_=>⟨v,rfl,h.1.2⟩
 | z :: l,v :: vs,i+1,h,hi=>by
  obtain ⟨u,h1,h2⟩:=PVs.pick1 (l:=l) (vs:=vs) i h.2 (by simpa using hi)
  exact ⟨u,by simpa using h1,by rw [nth_eq hi];rw [nth_eq (by simpa using hi)] at h2;simpa using h2⟩
theorem ZfK [Inhabited α] {e n:Nat} {l:List α} {p:α→PV} {k:IntKind} {i:Int} (hu:P.underlying t=some (.array n e)) (ha:P.aggB e=some false) (hs:(P.info? e).map (·.size)=some 1) (hx:Opd x ps (.pv (.agg (l.map p)))) (hy:Opd y qs (.pv (.int k i))) (h0:0≤i) (h1:i<n) (hn:l.length=n) :
  OpC P ⟨d,.index t x y,ty,pos,af,g⟩ ⟨ps++qs,[],.pv (p (Nn l i.toNat)),[]⟩:=
 OpC.pure fun a w yy hp=>by
  obtain ⟨vs,e1,hv⟩:=hx a w yy hp.left
  have e2:=(hy a w yy hp.right).1
  obtain ⟨v,h2,h3⟩:=PVs.pick1 i.toNat hv ow
  refine ⟨v,?_,fun _ _=>h3⟩
  simp [execOp,Instr.index,e1,e2,asIntOf,asInt,Ym hu,Yf (And.intro h0 h1),part,Go.Gm.run_isAgg ha,Go.Gm.run_sizeOf hs,h2]
end
theorem ZuR (E:List Zx) (O I:List (List Z8)) (m:Nat) (mask must node least mn mm:Int) (hmn:bits .andNot .i64 mask must=mn) (hmm:bits .and .i64 mask must=mm) (hne:mn≠mm) (h:ZbN O.length E O I) (hn1:1≤O.length) (hn:O.length≤4096) (hE:E.length≤1000000) (hs0:least≤node) (hs1:0≤node) (hs2:node<O.length) (D:List Int) (hD:Zdt (2*O.length) (ZdJ (fun x=>adjO I mn x) (fun x=>adjO I mm x)) (2*least) (2*node) D):FnP prog 170 [Zez O I m,.int .i64 mask,.int .i64 must,.int .i64 node,.int .i64 least] (.sl Zn (ZaU O.length D)):=by
 refine FnP.mk func170 rfl ntmps170 rfl fun B a w F V hfr G=>?_
 obtain ⟨hpn,hln⟩:=h.prevR mn
 obtain ⟨hpm,hlm⟩:=h.prevR mm
 have hpr:=Zp8 hpn hpm
 have hw2:IntKind.wrap .i64 (2*(O.length:Int))=(2*(O.length:Int)):=Zz ow
 have hB0:Zd7 (2*O.length) (ZdJ (fun x=>adjO I mn x) (fun x=>adjO I mm x)) (2*least) (2*node) ((List.replicate (2*O.length) (-1)).set (2*node).toNat 0) [2*node]:=Zd7.first ⟨by omega,by omega⟩
 have hev0:Zcu O.length ((List.replicate (2*O.length) (-1)).set (2*node+0).toNat 0)=(List.replicate O.length (-1)).set node.toNat 0:=by rw [ZiE (by simp) ⟨hs1,hs2⟩,ZpT]
 have hod0:ZaU O.length ((List.replicate (2*O.length) (-1)).set (2*node+0).toNat 0)=List.replicate O.length (-1):=by rw [Ziz (by simp) ⟨hs1,hs2⟩,Zri]
 refine Ya (rZ G (qC qZ) V [10,4,3,2,1,0] [0] fun G=>Ya ?_)
 refine Zb G (qR rr (qR rr (qR rr (qf (oB [(0,.tmp 23),(1,.tmp 24),(2,.tmp 25)] [.pointer none,.int .i64 0,.int .i64 0] [(0,1),(1,1),(2,1)] (.one rfl .t Zif kr (.one rfl .t one_int kr (.one rfl .t one_int kr .nil)))) r3 qz (qf (oH [.pointer none,.int .i64 0,.int .i64 0] 101) trivial qz (qS 3 101 r2 r1 qZ)))))) V [11,10,4,3,2,1,0] [101,0] (fun _=>rfl) (fun _=>rfl) fun τ a w F G=>?_
 try dsimp only [RS.sub,SF.sub,CF.sub,csub,Anc.sub,List.map,Zf,xL,xM,Nat.reduceAdd,xD,xE,xT,xU,xC,xN,zCF,Zn] at G
 generalize τ 11=v11 at G
 refine Za (Ya ?_)
 replace G:=G.fresh 102 rfl
 replace G:=G.fresh 103 rfl
 refine ZaD G (qe 3 101 r1 r1 (qf (Zar 102 (Zn9 O I m mask least ow ow) func204 rfl kr (Args.one (.pagg .t)) pvOne1) r1 r1 (qe 3 101 r1 r1 (qf (Zar 103 (Zn9 O I m mask least ow ow) func204 rfl kr (Args.one (.pagg .t)) pvOne1) r1 r1 (qf (Zby (sz:=1) (r:=[(0,.tmp 28),(1,.tmp 30)]) (zs:=[.slice none 0 0,.slice none 0 0]) (pl:=[(0,1),(1,1)]) Ycm kr kr rfl (.same rfl kr (.same rfl kr .nil)) (by rfl)) r2 qz (qf (oH [.slice none 0 0,.slice none 0 0] 104) trivial qz (qS 2 104 r2 r1 qZ))))))) V [12,11,10,4,3,2,1,0] [104,103,102,101,0] (fun _=>rfl) (fun _=>rfl) fun τ a w F G=>?_
 try dsimp only [RS.sub,SF.sub,CF.sub,csub,Anc.sub,List.map,Zf,xL,xM,Nat.reduceAdd,xD,xE,xT,xU,xC,xN,zCF,ldSF,Zn] at G
 generalize τ 12=v12,τ 28=v28,τ 30=v30 at G
 refine Za (Ya (Ya (rZ G (qe 3 101 r1 r1 (qR rr (qf (oP (ZpG O I m mask least node) func205 (Args.two (.pagg .t) .t)) r2 qz (qf (o_not .t) r1 qz qZ)))) V [35,12,10,4,3,2,1,0] [104,103,102,101,0] fun G=>?_)))
 refine Zc G rfl (fun hc0=>?_) (fun hc0=>?_)
 ·simp at hc0;omega
 refine Ye (Za (Ya ?_))
 replace G:=G.fresh 105 rfl
 refine Zb G (qR rr (qf (oP (Zcj O I m) func158 (Args.one .t)) r1 qz (qf (Zm8 qi .t) r1 qz (qf (Zar 105 (Zot _) func206 rfl kr (Args.one .t) PV.ptr_one) r1 r1 (qO rr qZ))))) V [13,12,10,4,3,2,1,0] [105,104,103,102,101,0] (fun _=>rfl) (fun _=>rfl) fun τ a w F G=>?_
 try dsimp only [RS.sub,SF.sub,CF.sub,csub,Anc.sub,List.map,Zn] at G
 generalize τ 41=v41 at G
 obtain ⟨_,_,_,ho⟩:=G.obGet 105 rfl
 obtain ⟨qb,rfl⟩:=Zqd ho
 clear ho
 replace G:=G.turn 105 rfl (r':=RS.hp (rqH (.pointer (some ⟨qb,0,none⟩)) (ZbX (IntKind.wrap .i64 (2*(O.length:Int)))) [])) (fun _ _ _ _ h=>h)
 obtain ⟨F,G⟩:=G.nM [13,12,10,4,3,2,1,0] [105,104,103,102,101,0]
 rw [hw2,Zga ow] at G
 refine Za (Ya (Ze G (qf (ZF (sz:=1) 104 Ycm kr .is qi (by decide) (by decide) (by rfl)) r1 r1 (qa 104 r1 r1 (qR rr (qf (o_indexAddr_row (sz:=1) 102 (.mk Ycd kr) .is .t ow (by rw [YT];omega) (by rfl)) r2 r1 (qf (ZI (R:=Zn) (sz:=1) (v:=0) 102 .t (by intro x;rfl) (by rw [YT];omega) qi rfl one_int kr) r1 r1 qZ))))) V [13,12,10,4,3,2,1,0] [105,104,103,102,101,0] rfl rfl fun a w F G=>?_))
 try simp only [Yb] at G
 rw [← hev0,← hod0] at G
 refine Za (Ya (rZ G (qR rr (qR rr (qf (o_shl .t qi (by decide)) r1 qz (qf (ZsG .t qi) r1 qz (qf (ZK 105 (Zcx qb (2*(O.length:Int)) [] (2*node+0) (by simp;omega)) func207 rfl kr (Args.two .t (.conv .t (Ent.int (Zjo ⟨by omega,by omega⟩ (.inl rfl)))))) r2 r1 qZ))))) V [13,12,10,4,2,1,0] [105,104,103,102,101,0] fun G=>(Ya (Ya ?_))))
 refine Ze G (qR rr (qf (ZK 105 (ZhR qb (2*(O.length:Int)) [2*node+0]) func208 rfl kr (Args.one .t)) r1 r1 (qR rr (qf (Zh .t rfl) r1 qz (qf (Zh .t rfl) r1 qz (qO rr (qO rr qZ))))))) V [15,14,13,12,10,4,2,1,0] [105,104,103,102,101,0] rfl rfl fun a w F G=>?_
 try rw [Int.add_zero] at G
 refine Za (Yg (Zl (σ:=List Int×List Int) [0,1,2,4,10,12,13] [0,101,104] (fun s=>[(14,.pv (.int .i64 (s.2.headD 0))),(15,.pv (.bool (decide (s.2≠[]))))]) (fun s=>[(102,.ob (.val v28) (Zy 3 1 Zn (Zcu O.length s.1))),(103,.ob (.val v30) (Zy 3 1 Zn (ZaU O.length s.1))),(105,RS.hp (rqH (.pointer (some ⟨qb,0,none⟩)) (2*(O.length:Int)) s.2.tail))]) (fun s=>Zd7 (2*O.length) (ZdJ (fun x=>adjO I mn x) (fun x=>adjO I mm x)) (2*least) (2*node) s.1 s.2) (fun s=>2*negC s.1+s.2.length) (_,([2*node])) G ⟨rfl,rfl,rfl,rfl,rfl,rfl,rfl,rfl,rfl,tv⟩ ⟨rfl,rfl,rfl,rfl,rfl,rfl,tv⟩ hB0 ?_))
 clear G;intro s a w F hC G
 obtain ⟨d,q⟩:=s
 try dsimp only at hC
 obtain ⟨F,G⟩:=G.nM [15,14,13,12,10,4,2,1,0] [105,104,103,102,101,0]
 try dsimp only at G
 have hBI:Zd7 (2*O.length) (ZdJ (fun x=>adjO I mn x) (fun x=>adjO I mm x)) (2*least) (2*node) d q:=hC
 refine Ya (Ya (rZ G (qR rr qZ) V [56,15,14,13,12,10,4,2,1,0] [105,104,103,102,101,0] fun G=>?_))
 refine Zc G rfl (fun hc1=>?_) (fun hc1=>?_)
 ·obtain ⟨x,q,rfl⟩:∃ x l,q=x :: l:=List.exists_cons_of_ne_nil (by simpa using hc1)
  try dsimp only [List.headD_cons,List.tail_cons] at G
  have hM0:=hBI.pop
  have hxh:=hM0.1.here
  have hxa:0≤x / 2∧x / 2<(O.length:Int):=by omega
  refine Ye (Za (Ya (Yg (Ya (Ze G (qR rr (qf (Zci .t qi (by decide)) r1 qz (qR rr (qf (o_and .t qi) r1 qz (qO rr (qO rr qZ)))))) V [17,16,15,14,13,12,10,4,2,1,0] [105,104,103,102,101,0] rfl rfl fun a w F G=>?_)))))
  rw [sh1,and1m ow] at G
  refine Za (Ya (Ze G (qR rr (qR rr (qf (Zk1 .t .t) r2 qz (qR rr (qR rr (qf (o_and .t .t) r2 qz (qf (Zby (sz:=1) (r:=[(0,.tmp 68),(1,.tmp 71)]) (zs:=[.int .i64 0,.int .i64 0]) (pl:=[(0,1),(1,1)]) Ycq kr kr rfl (.one rfl .t one_int kr (.one rfl .t one_int kr .nil)) (by rfl)) r2 qz (qJ qZ)))))))) V [73,72,17,16,15,14,13,12,10,4,2,1,0] [105,104,103,102,101,0] rfl rfl fun a w F G=>?_))
  rw [hmn,hmm] at G
  refine Za (Yg (Zl (σ:=Nat×List Int×List Int) [0,1,2,4,10,12,13,14,15,16,17,72] [0,101,104] (fun s=>[(73,.pv (.int .i64 (s.1:Int)))]) (fun s=>[(102,.ob (.val v28) (Zy 3 1 Zn (Zcu O.length s.2.1))),(103,.ob (.val v30) (Zy 3 1 Zn (ZaU O.length s.2.1))),(105,RS.hp (rqH (.pointer (some ⟨qb,0,none⟩)) (2*(O.length:Int)) s.2.2))]) (fun s=>s.1≤2∧ZcY (2*O.length) (ZdJ (fun x=>adjO I mn x) (fun x=>adjO I mm x)) (2*least) (2*node) s.2.1 s.2.2 x (ZvY (adjO I mn (x / 2)) (adjO I mm (x / 2)) (x % 2) s.1)∧2*negC s.2.1+s.2.2.length≤2*negC d+q.length) (fun s=>2 - s.1) ((0),(d),(q)) G ⟨rfl,rfl,rfl,rfl,rfl,rfl,rfl,rfl,rfl,rfl,rfl,rfl,rfl,tv⟩ ⟨rfl,rfl,rfl,rfl,rfl,rfl,tv⟩ ⟨by omega,hM0,YL _⟩ ?_))
  clear G;intro s a w F hC G
  obtain ⟨j,d1,q1⟩:=s
  try dsimp only at hC
  obtain ⟨F,G⟩:=G.nM [73,72,17,16,15,14,13,12,10,4,2,1,0] [105,104,103,102,101,0]
  try dsimp only at G
  obtain ⟨hj2,hM1,hmu1⟩:=hC
  refine Ya (rZ G (qf (ZaA .t qi) r1 qz qZ) V [74,73,72,17,16,15,14,13,12,10,4,2,1,0] [105,104,103,102,101,0] fun G=>Ya ?_)
  refine Zc G rfl (fun hc2=>?_) (fun hc2=>?_)
  ·have hj3:j<2:=by simp at hc2;omega
   refine Ye (Za (Ya (Yg (Ya ?_))))
   by_cases hfk:j=0
   ·subst hfk
    refine Ze G (qf (ZfK (l:=[mn,mm]) (p:=(fun y=>PV.int .i64 y)) Ycq kr kr (.conv .t (.aggU rfl rfl)) .t ow ow rfl) r2 qz (qO rr qZ)) V [73,72,19,17,16,15,14,13,12,10,4,2,1,0] [105,104,103,102,101,0] rfl rfl fun a w F G=>?_
    try simp only [Yb] at G
    rw [show Nn [mn,mm] 0=mn from rfl] at G
    refine Za (Ya (rZ G (qR rr (qO rr qZ)) V [73,72,20,19,17,16,15,14,13,12,10,4,2,1,0] [105,104,103,102,101,0] fun G=>(Ya (Ya ?_))))
    refine Ze G (qR rr (qR rr (qR rr (qf (o_and .t .t) r2 qz (qf (o_eql .t .t) r2 qz qZ))))) V [81,73,72,20,19,17,16,15,14,13,12,10,4,2,1,0] [105,104,103,102,101,0] rfl rfl fun a w F G=>?_
    rw [hmm] at G
    refine Za (Zc G rfl (fun hc3=>?_) (fun hc3=>?_))
    ·exact (hne (Yt hc3)).elim
    refine Ye (Za (Ya (rZ G (qR rr (qR rr (qR rr (qf (oP (ZhT O I m (x / 2) mn (fun l hl=>(h.inn.r hE l hl).1) (by rw [h.ol,h.il])) func209 (Args.three .t .t .t)) r3 qz (qu Ycd r1 (qJ qZ)))))) V [87,86,85,73,72,20,17,16,15,14,13,12,10,4,2,1,0] [105,104,103,102,101,0] fun G=>Yg ?_)))
    refine Zl (σ:=(Nat)×(List Int)×(List Int)) [0,1,2,4,10,12,13,14,15,16,17,20,72,73,85,86] [0,101,104] (fun s=>[(87,.pv (.int .i64 (s.1:Int)))]) (fun s=>[(102,.ob (.val v28) (Zy 3 1 Zn (Zcu O.length s.2.1))),(103,.ob (.val v30) (Zy 3 1 Zn (ZaU O.length s.2.1))),(105,RS.hp (rqH (.pointer (some ⟨qb,0,none⟩)) (2*(O.length:Int)) s.2.2))]) (fun s=>s.1≤(adjO I mn (x / 2)).length∧(ZcY (2*O.length) (ZdJ (fun x=>adjO I mn x) (fun x=>adjO I mm x)) (2*least) (2*node) s.2.1 s.2.2 x ([] ++ ((adjO I mn (x / 2)).take s.1).map fun u=>2*u+x % 2)∧2*negC s.2.1+s.2.2.length≤2*negC d+q.length)) (fun s=>(adjO I mn (x / 2)).length - s.1) ((0),(d1),(q1)) G ⟨rfl,rfl,rfl,rfl,rfl,rfl,rfl,rfl,rfl,rfl,rfl,rfl,rfl,rfl,rfl,rfl,rfl,tv⟩ ⟨rfl,rfl,rfl,rfl,rfl,rfl,tv⟩ ⟨Yx _,⟨hM1,hmu1⟩⟩ ?_
    clear G;intro s a w F hC G
    obtain ⟨i,d2,q2⟩:=s
    try dsimp only at hC
    obtain ⟨F,G⟩:=G.nM [87,86,85,73,72,20,17,16,15,14,13,12,10,4,2,1,0] [105,104,103,102,101,0]
    try dsimp only at G
    obtain ⟨hi,hq⟩:=hC
    obtain ⟨hM,hmu⟩:=hq
    have hdl:=hM.1.len
    have hxr:=hM.1.here
    have hxv:=hM.val
    have hqr:=hM.1.room
    have hpx:(adjO I mn (x / 2)).length≤O.length:=hln _
    have hel:(Zcu O.length d2).length=O.length:=Zay
    have hol:(ZaU O.length d2).length=O.length:=ZaL
    refine Ya (rZ G (qL r2) V [88,87,86,85,73,72,20,17,16,15,14,13,12,10,4,2,1,0] [105,104,103,102,101,0] fun G=>Ya ?_)
    refine Zc G rfl (fun hc4=>?_) (fun hc4=>?_)
    ·have hil:i<(adjO I mn (x / 2)).length:=by simp at hc4;omega
     have hur:0≤(Nn (adjO I mn (x / 2)) i)∧(Nn (adjO I mn (x / 2)) i)<(O.length:Int):=hpn _ _ (nth_mem hil)
     have hsr:0≤2*(Nn (adjO I mn (x / 2)) i)+x % 2∧2*(Nn (adjO I mn (x / 2)) i)+x % 2<(((2*O.length):Nat):Int):=by omega
     refine Ye (Za (Ya (Yg (Ya (Ze G (qy 1 Ycd r2 (qf (oR false 1 .t) r1 qz (qO rr qZ))) V [87,86,85,73,72,22,20,17,16,15,14,13,12,10,4,2,1,0] [105,104,103,102,101,0] rfl rfl fun a w F G=>?_)))))
     try simp only [Yb] at G
     refine Za (Ya ?_)
     by_cases hfk:x % 2=0
     ·refine Ze G (qR rr (qR rr (qf (Zbq .t .t) r2 qz (qR rr (qm rfl rfl rfl rfl (qk rfl (fun h=>ZF (sz:=1) 104 Ycm kr .is (.conv (.w h) (.int hfk)) (by decide) (by decide) (by rfl)) r3 r1 (qw 104 rfl r2 r1 (qm rfl rfl rfl rfl (qk rfl (fun h=>o_indexAddr_row (sz:=1) 102 (.mk Ycd kr) (.w h .is) (.w h) ow ow (by rfl)) r3 r1 (qk rfl (fun h=>Zu (ag:=false) (sz':=1) (sz:=1) 102 (.w h) (by intro x;rfl) ow kr kr kr) r2 r1 (qk rfl (fun h=>ZaA (.w h) qi) r2 qz (qf (ZE .t .t) r2 qz qZ)))))))))))) V [102,87,86,85,73,72,22,20,17,16,15,14,13,12,10,4,2,1,0] [105,104,103,102,101,0] rfl rfl fun a w F G=>?_
      try simp only [Yb] at G
      refine Za (Zc G rfl (fun hc5=>?_) (fun hc5=>?_))
      ·have hput:least≤(Nn (adjO I mn (x / 2)) i)∧fI d2 (2*(Nn (adjO I mn (x / 2)) i)+0)<0:=by rw [← Zfb hur];simpa using hc5
       rw [show 2*(Nn (adjO I mn (x / 2)) i)+(0:Int)=2*(Nn (adjO I mn (x / 2)) i)+x % 2 by omega] at hput
       obtain ⟨hP1,hP2⟩:=hM.put hsr (Yaf _ (Yv.2 ⟨_,nth_mem hil,rfl⟩)) ow hput.2
       have hval:IntKind.wrap .i64 (Nn (Zcu O.length d2) (x / 2).toNat+1)=fI d2 x+1:=by rw [Zfb hxa,show 2*(x / 2)+(0:Int)=x by omega];exact Zz ow
       refine Ya (Zv G (qR rr (qf (ZF (sz:=1) 104 Ycm kr .is (.conv .t (.int hfk)) (by decide) (by decide) (by rfl)) r2 r1 (qa 104 r1 r1 (qR rr (qR rr (qf (ZF (sz:=1) 104 Ycm kr .is (.conv .t (.int hfk)) (by decide) (by decide) (by rfl)) r2 r1 (qa 104 r1 r1 (qR rr (qf (o_indexAddr_row (sz:=1) 102 (.mk Ycd kr) .is .t ow ow (by rfl)) r2 r1 (qf (Zu (ag:=false) (sz':=1) (sz:=1) 102 .t (by intro x;rfl) ow kr kr kr) r1 r1 (qp r1 (qf (o_indexAddr_row (sz:=1) 102 (.mk Ycd kr) .is .t ow ow (by rfl)) r2 r1 (qf (ZI (R:=Zn) (sz:=1) (v:=_) 102 .t (by intro x;rfl) ow .t rfl one_int kr) r2 r1 qZ))))))))))))) V [87,86,85,73,72,22,20,17,16,15,14,13,12,10,4,2,1,0] [105,104,103,102,101,0] rfl rfl fun a w F G=>?_)
       try dsimp only [List.map,Zf,xL,xM,Nat.reduceAdd,xD,xE,xT,xU,xC,xN,zCF,ldSF,Zn] at G
       try simp only [Yb] at G
       rw [hval,← ZiE hdl hur,← Ziz (c:=fI d2 x+1) hdl hur] at G
       rw [show 2*(Nn (adjO I mn (x / 2)) i)+(0:Int)=2*(Nn (adjO I mn (x / 2)) i)+x % 2 by omega] at G
       refine Za (Ze G (qR rr (qR rr (qf (o_shl .t qi (by decide)) r1 qz (qR rr (qf (ZsG .t .t) r2 qz (qf (ZK 105 (Zcx qb (2*(O.length:Int)) q2 (2*(Nn (adjO I mn (x / 2)) i)+x % 2) ow) func207 rfl kr (Args.two .t (.conv .t (Ent.int (Zjo ⟨by omega,by omega⟩ ow))))) r2 r1 qZ)))))) V [87,86,85,73,72,20,17,16,15,14,13,12,10,4,2,1,0] [105,104,103,102,101,0] rfl rfl fun a w F G=>Zi (Za ?_))
       refine rZ G (qp r1 (qR rr qZ)) V [87,86,85,73,72,20,17,16,15,14,13,12,10,4,2,1,0] [105,104,103,102,101,0] fun G=>?_
       have hmu3:2*negC (d2.set (2*(Nn (adjO I mn (x / 2)) i)+x % 2).toNat (fI d2 x+1))+(q2 ++ [2*(Nn (adjO I mn (x / 2)) i)+x % 2]).length≤2*negC d+q.length:=by rw [Yd,YM];omega
       replace G:=G.ent (i:=87) (s':=.pv (.int .i64 ((i+1:Nat):Int))) rfl (.int (Zd ow))
       obtain ⟨F,G⟩:=G.nM [86,85,73,72,20,17,16,15,14,13,12,10,4,2,1,0,87] [104,101,0,105,103,102]
       exact ⟨((i+1),_,(q2 ++ [2*(Nn (adjO I mn (x / 2)) i)+x % 2])),F,⟨by omega,⟨by rw [Zp hil,YQ,← YN];exact hP1,hmu3⟩⟩,G,by omega⟩
      have hsk:2*least≤2*(Nn (adjO I mn (x / 2)) i)+x % 2→0≤fI d2 (2*(Nn (adjO I mn (x / 2)) i)+x % 2):=fun h9=>by have h8:=hc5;rw [Zfb hur] at h8;rw [show 2*(Nn (adjO I mn (x / 2)) i)+(0:Int)=2*(Nn (adjO I mn (x / 2)) i)+x % 2 by omega] at h8;simp at h8;exact h8 ow
      refine Ye (Zi (Za (rZ G (qp r1 (qR rr qZ)) V [87,86,85,73,72,20,17,16,15,14,13,12,10,4,2,1,0] [105,104,103,102,101,0] fun G=>?_)))
      replace G:=G.ent (i:=87) (s':=.pv (.int .i64 ((i+1:Nat):Int))) rfl (.int (Zd ow))
      obtain ⟨F,G⟩:=G.nM [86,85,73,72,20,17,16,15,14,13,12,10,4,2,1,0,87] [104,101,0,105,103,102]
      exact ⟨((i+1),_,_),F,⟨by omega,⟨by rw [Zp hil,YQ,← YN];exact hM.skip hsr hsk,hmu⟩⟩,G,by omega⟩
     have hh1:x % 2=1:=by omega
     refine Ze G (qR rr (qR rr (qf (Zbq .t .t) r2 qz (qR rr (qm rfl rfl rfl rfl (qk rfl (fun h=>ZF (sz:=1) 104 Ycm kr .is (.conv (.w h) (.int hh1)) (by decide) (by decide) (by rfl)) r3 r1 (qw 104 rfl r2 r1 (qm rfl rfl rfl rfl (qk rfl (fun h=>o_indexAddr_row (sz:=1) 103 (.mk Ycd kr) (.w h .is) (.w h) ow ow (by rfl)) r3 r1 (qk rfl (fun h=>Zu (ag:=false) (sz':=1) (sz:=1) 103 (.w h) (by intro x;rfl) ow kr kr kr) r2 r1 (qk rfl (fun h=>ZaA (.w h) qi) r2 qz (qf (ZE .t .t) r2 qz qZ)))))))))))) V [102,87,86,85,73,72,22,20,17,16,15,14,13,12,10,4,2,1,0] [105,104,103,102,101,0] rfl rfl fun a w F G=>?_
     try simp only [Yb] at G
     refine Za (Zc G rfl (fun hc6=>?_) (fun hc6=>?_))
     ·have hput:least≤(Nn (adjO I mn (x / 2)) i)∧fI d2 (2*(Nn (adjO I mn (x / 2)) i)+1)<0:=by rw [← ZbR hur];simpa using hc6
      rw [show 2*(Nn (adjO I mn (x / 2)) i)+(1:Int)=2*(Nn (adjO I mn (x / 2)) i)+x % 2 by omega] at hput
      obtain ⟨hP1,hP2⟩:=hM.put hsr (Yaf _ (Yv.2 ⟨_,nth_mem hil,rfl⟩)) ow hput.2
      have hval:IntKind.wrap .i64 (Nn (ZaU O.length d2) (x / 2).toNat+1)=fI d2 x+1:=by rw [ZbR hxa,show 2*(x / 2)+(1:Int)=x by omega];exact Zz ow
      refine Ya (Zv G (qR rr (qf (ZF (sz:=1) 104 Ycm kr .is (.conv .t (.int hh1)) (by decide) (by decide) (by rfl)) r2 r1 (qa 104 r1 r1 (qR rr (qR rr (qf (ZF (sz:=1) 104 Ycm kr .is (.conv .t (.int hh1)) (by decide) (by decide) (by rfl)) r2 r1 (qa 104 r1 r1 (qR rr (qf (o_indexAddr_row (sz:=1) 103 (.mk Ycd kr) .is .t ow ow (by rfl)) r2 r1 (qf (Zu (ag:=false) (sz':=1) (sz:=1) 103 .t (by intro x;rfl) ow kr kr kr) r1 r1 (qp r1 (qf (o_indexAddr_row (sz:=1) 103 (.mk Ycd kr) .is .t ow ow (by rfl)) r2 r1 (qf (ZI (R:=Zn) (sz:=1) (v:=_) 103 .t (by intro x;rfl) ow .t rfl one_int kr) r2 r1 qZ))))))))))))) V [87,86,85,73,72,22,20,17,16,15,14,13,12,10,4,2,1,0] [105,104,103,102,101,0] rfl rfl fun a w F G=>?_)
      try dsimp only [List.map,Zf,xL,xM,Nat.reduceAdd,xD,xE,xT,xU,xC,xN,zCF,ldSF,Zn] at G
      try simp only [Yb] at G
      rw [hval,← ZhF hdl hur,← Zev (c:=fI d2 x+1) hdl hur] at G
      rw [show 2*(Nn (adjO I mn (x / 2)) i)+(1:Int)=2*(Nn (adjO I mn (x / 2)) i)+x % 2 by omega] at G
      refine Za (Ze G (qR rr (qR rr (qf (o_shl .t qi (by decide)) r1 qz (qR rr (qf (ZsG .t .t) r2 qz (qf (ZK 105 (Zcx qb (2*(O.length:Int)) q2 (2*(Nn (adjO I mn (x / 2)) i)+x % 2) ow) func207 rfl kr (Args.two .t (.conv .t (Ent.int (Zjo ⟨by omega,by omega⟩ ow))))) r2 r1 qZ)))))) V [87,86,85,73,72,20,17,16,15,14,13,12,10,4,2,1,0] [105,104,103,102,101,0] rfl rfl fun a w F G=>Zi (Za ?_))
      refine rZ G (qp r1 (qR rr qZ)) V [87,86,85,73,72,20,17,16,15,14,13,12,10,4,2,1,0] [105,104,103,102,101,0] fun G=>?_
      have hmu3:2*negC (d2.set (2*(Nn (adjO I mn (x / 2)) i)+x % 2).toNat (fI d2 x+1))+(q2 ++ [2*(Nn (adjO I mn (x / 2)) i)+x % 2]).length≤2*negC d+q.length:=by rw [Yd,YM];omega
      replace G:=G.ent (i:=87) (s':=.pv (.int .i64 ((i+1:Nat):Int))) rfl (.int (Zd ow))
      obtain ⟨F,G⟩:=G.nM [86,85,73,72,20,17,16,15,14,13,12,10,4,2,1,0,87] [104,101,0,105,103,102]
      exact ⟨((i+1),_,(q2 ++ [2*(Nn (adjO I mn (x / 2)) i)+x % 2])),F,⟨by omega,⟨by rw [Zp hil,YQ,← YN];exact hP1,hmu3⟩⟩,G,by omega⟩
     have hsk:2*least≤2*(Nn (adjO I mn (x / 2)) i)+x % 2→0≤fI d2 (2*(Nn (adjO I mn (x / 2)) i)+x % 2):=fun h9=>by have h8:=hc6;rw [ZbR hur] at h8;rw [show 2*(Nn (adjO I mn (x / 2)) i)+(1:Int)=2*(Nn (adjO I mn (x / 2)) i)+x % 2 by omega] at h8;simp at h8;exact h8 ow
     refine Ye (Zi (Za (rZ G (qp r1 (qR rr qZ)) V [87,86,85,73,72,20,17,16,15,14,13,12,10,4,2,1,0] [105,104,103,102,101,0] fun G=>?_)))
     replace G:=G.ent (i:=87) (s':=.pv (.int .i64 ((i+1:Nat):Int))) rfl (.int (Zd ow))
     obtain ⟨F,G⟩:=G.nM [86,85,73,72,20,17,16,15,14,13,12,10,4,2,1,0,87] [104,101,0,105,103,102]
     exact ⟨((i+1),_,_),F,⟨by omega,⟨by rw [Zp hil,YQ,← YN];exact hM.skip hsr hsk,hmu⟩⟩,G,by omega⟩
    have hil:i=(adjO I mn (x / 2)).length:=by simp at hc4;omega
    refine Yw (Zj (Zj (Zo (Zi (Za (rZ G (qp r1 (qR rr qZ)) V [73,72,17,16,15,14,13,12,10,4,2,1,0] [105,104,103,102,101,0] fun G=>?_))))))
    replace G:=G.ent (i:=73) (s':=.pv (.int .i64 (((1:Nat):Nat):Int))) rfl (.int rfl)
    obtain ⟨F,G⟩:=G.nM [72,17,16,15,14,13,12,10,4,2,1,0,73] [104,101,0,105,103,102]
    exact ⟨((1),(d2),(q2)),F,⟨by omega,by rw [hil,YA] at hM;exact hM,hmu⟩,G,by omega⟩
   have hj1:j=1:=by omega
   subst hj1
   clear hfk
   refine Ze G (qf (ZfK (l:=[mn,mm]) (p:=(fun y=>PV.int .i64 y)) Ycq kr kr (.conv .t (.aggU rfl rfl)) .t ow ow rfl) r2 qz (qO rr qZ)) V [73,72,19,17,16,15,14,13,12,10,4,2,1,0] [105,104,103,102,101,0] rfl rfl fun a w F G=>?_
   try simp only [Yb] at G
   rw [show Nn [mn,mm] 1=mm from rfl] at G
   refine Za (Ya (rZ G (qR rr (qO rr qZ)) V [73,72,20,19,17,16,15,14,13,12,10,4,2,1,0] [105,104,103,102,101,0] fun G=>(Ya (Ya ?_))))
   refine Ze G (qR rr (qR rr (qR rr (qf (o_and .t .t) r2 qz (qf (o_eql .t .t) r2 qz qZ))))) V [81,73,72,20,19,17,16,15,14,13,12,10,4,2,1,0] [105,104,103,102,101,0] rfl rfl fun a w F G=>?_
   rw [hmm] at G
   refine Za (Zc G rfl (fun hc7=>?_) (fun hc7=>?_))
   ·refine rZ G (qI qZ) V [73,72,20,19,17,16,15,14,13,12,10,4,2,1,0] [105,104,103,102,101,0] fun G=>Ya ?_
    refine rZ G (qR rr (qR rr (qR rr (qf (oP (ZhT O I m (x / 2) mm (fun l hl=>(h.inn.r hE l hl).1) (by rw [h.ol,h.il])) func209 (Args.three .t .t .t)) r3 qz (qu Ycd r1 (qJ qZ)))))) V [87,86,85,73,72,20,17,16,15,14,13,12,10,4,2,1,0] [105,104,103,102,101,0] fun G=>Yg ?_
    refine Zl (σ:=(Nat)×(List Int)×(List Int)) [0,1,2,4,10,12,13,14,15,16,17,20,72,73,85,86] [0,101,104] (fun s=>[(87,.pv (.int .i64 (s.1:Int)))]) (fun s=>[(102,.ob (.val v28) (Zy 3 1 Zn (Zcu O.length s.2.1))),(103,.ob (.val v30) (Zy 3 1 Zn (ZaU O.length s.2.1))),(105,RS.hp (rqH (.pointer (some ⟨qb,0,none⟩)) (2*(O.length:Int)) s.2.2))]) (fun s=>s.1≤(adjO I mm (x / 2)).length∧(ZcY (2*O.length) (ZdJ (fun x=>adjO I mn x) (fun x=>adjO I mm x)) (2*least) (2*node) s.2.1 s.2.2 x (((adjO I mn (x / 2)).map fun u=>2*u+x % 2)++((adjO I mm (x / 2)).take s.1).map fun u=>2*u+1)∧2*negC s.2.1+s.2.2.length≤2*negC d+q.length)) (fun s=>(adjO I mm (x / 2)).length - s.1) ((0),(d1),(q1)) G ⟨rfl,rfl,rfl,rfl,rfl,rfl,rfl,rfl,rfl,rfl,rfl,rfl,rfl,rfl,rfl,rfl,rfl,tv⟩ ⟨rfl,rfl,rfl,rfl,rfl,rfl,tv⟩ ⟨Yx _,⟨by show ZcY _ _ _ _ _ _ _ (_ ++ []);rw [YP];exact hM1,hmu1⟩⟩ ?_
    clear G;intro s a w F hC G
    obtain ⟨i,d2,q2⟩:=s
    try dsimp only at hC
    obtain ⟨F,G⟩:=G.nM [87,86,85,73,72,20,17,16,15,14,13,12,10,4,2,1,0] [105,104,103,102,101,0]
    try dsimp only at G
    obtain ⟨hi,hq⟩:=hC
    obtain ⟨hM,hmu⟩:=hq
    have hdl:=hM.1.len
    have hxr:=hM.1.here
    have hxv:=hM.val
    have hqr:=hM.1.room
    have hpx:(adjO I mm (x / 2)).length≤O.length:=hlm _
    have hel:(Zcu O.length d2).length=O.length:=Zay
    have hol:(ZaU O.length d2).length=O.length:=ZaL
    refine Ya (rZ G (qL r2) V [88,87,86,85,73,72,20,17,16,15,14,13,12,10,4,2,1,0] [105,104,103,102,101,0] fun G=>Ya ?_)
    refine Zc G rfl (fun hc8=>?_) (fun hc8=>?_)
    ·have hil:i<(adjO I mm (x / 2)).length:=by simp at hc8;omega
     have hur:0≤(Nn (adjO I mm (x / 2)) i)∧(Nn (adjO I mm (x / 2)) i)<(O.length:Int):=hpm _ _ (nth_mem hil)
     have hsr:0≤2*(Nn (adjO I mm (x / 2)) i)+1∧2*(Nn (adjO I mm (x / 2)) i)+1<(((2*O.length):Nat):Int):=by omega
     refine Ye (Za (Ya (Yg (Ya (Ze G (qy 1 Ycd r2 (qf (oR false 1 .t) r1 qz (qO rr qZ))) V [87,86,85,73,72,22,20,17,16,15,14,13,12,10,4,2,1,0] [105,104,103,102,101,0] rfl rfl fun a w F G=>?_)))))
     try simp only [Yb] at G
     refine Za (Ya ?_)
     by_cases hfk:x % 2=0
     ·refine Ze G (qR rr (qR rr (qf (Zbq .t .t) r2 qz (qR rr (qm rfl rfl rfl rfl (qk rfl (fun h=>ZF (sz:=1) 104 Ycm kr .is (.w h) (by decide) (by decide) (by rfl)) r3 r1 (qw 104 rfl r2 r1 (qm rfl rfl rfl rfl (qk rfl (fun h=>o_indexAddr_row (sz:=1) 103 (.mk Ycd kr) (.w h .is) (.w h) ow ow (by rfl)) r3 r1 (qk rfl (fun h=>Zu (ag:=false) (sz':=1) (sz:=1) 103 (.w h) (by intro x;rfl) ow kr kr kr) r2 r1 (qk rfl (fun h=>ZaA (.w h) qi) r2 qz (qf (ZE .t .t) r2 qz qZ)))))))))))) V [102,87,86,85,73,72,22,20,17,16,15,14,13,12,10,4,2,1,0] [105,104,103,102,101,0] rfl rfl fun a w F G=>?_
      try simp only [Yb] at G
      refine Za (Zc G rfl (fun hc9=>?_) (fun hc9=>?_))
      ·have hput:least≤(Nn (adjO I mm (x / 2)) i)∧fI d2 (2*(Nn (adjO I mm (x / 2)) i)+1)<0:=by rw [← ZbR hur];simpa using hc9
       obtain ⟨hP1,hP2⟩:=hM.put hsr (YX _ (Yv.2 ⟨_,nth_mem hil,rfl⟩)) ow hput.2
       have hval:IntKind.wrap .i64 (Nn (Zcu O.length d2) (x / 2).toNat+1)=fI d2 x+1:=by rw [Zfb hxa,show 2*(x / 2)+(0:Int)=x by omega];exact Zz ow
       refine Ya (Zv G (qR rr (qf (ZF (sz:=1) 104 Ycm kr .is .t (by decide) (by decide) (by rfl)) r2 r1 (qa 104 r1 r1 (qR rr (qR rr (qf (ZF (sz:=1) 104 Ycm kr .is (.conv .t (.int hfk)) (by decide) (by decide) (by rfl)) r2 r1 (qa 104 r1 r1 (qR rr (qf (o_indexAddr_row (sz:=1) 102 (.mk Ycd kr) .is .t ow ow (by rfl)) r2 r1 (qf (Zu (ag:=false) (sz':=1) (sz:=1) 102 .t (by intro x;rfl) ow kr kr kr) r1 r1 (qp r1 (qf (o_indexAddr_row (sz:=1) 103 (.mk Ycd kr) .is .t ow ow (by rfl)) r2 r1 (qf (ZI (R:=Zn) (sz:=1) (v:=_) 103 .t (by intro x;rfl) ow .t rfl one_int kr) r2 r1 qZ))))))))))))) V [87,86,85,73,72,22,20,17,16,15,14,13,12,10,4,2,1,0] [105,104,103,102,101,0] rfl rfl fun a w F G=>?_)
       try dsimp only [List.map,Zf,xL,xM,Nat.reduceAdd,xD,xE,xT,xU,xC,xN,zCF,ldSF,Zn] at G
       try simp only [Yb] at G
       rw [hval,← ZhF hdl hur,← Zev (c:=fI d2 x+1) hdl hur] at G
       refine Za (Ze G (qR rr (qR rr (qf (o_shl .t qi (by decide)) r1 qz (qR rr (qf (ZsG .t .t) r2 qz (qf (ZK 105 (Zcx qb (2*(O.length:Int)) q2 (2*(Nn (adjO I mm (x / 2)) i)+1) ow) func207 rfl kr (Args.two .t (.conv .t (Ent.int (Zjo ⟨by omega,by omega⟩ ow))))) r2 r1 qZ)))))) V [87,86,85,73,72,20,17,16,15,14,13,12,10,4,2,1,0] [105,104,103,102,101,0] rfl rfl fun a w F G=>Zi (Za ?_))
       refine rZ G (qp r1 (qR rr qZ)) V [87,86,85,73,72,20,17,16,15,14,13,12,10,4,2,1,0] [105,104,103,102,101,0] fun G=>?_
       have hmu3:2*negC (d2.set (2*(Nn (adjO I mm (x / 2)) i)+1).toNat (fI d2 x+1))+(q2 ++ [2*(Nn (adjO I mm (x / 2)) i)+1]).length≤2*negC d+q.length:=by rw [Yd,YM];omega
       replace G:=G.ent (i:=87) (s':=.pv (.int .i64 ((i+1:Nat):Int))) rfl (.int (Zd ow))
       obtain ⟨F,G⟩:=G.nM [86,85,73,72,20,17,16,15,14,13,12,10,4,2,1,0,87] [104,101,0,105,103,102]
       exact ⟨((i+1),_,(q2 ++ [2*(Nn (adjO I mm (x / 2)) i)+1])),F,⟨by omega,⟨by rw [Zp hil,YQ,← YN];exact hP1,hmu3⟩⟩,G,by omega⟩
      have hsk:2*least≤2*(Nn (adjO I mm (x / 2)) i)+1→0≤fI d2 (2*(Nn (adjO I mm (x / 2)) i)+1):=fun h9=>by have h8:=hc9;rw [ZbR hur] at h8;simp at h8;exact h8 ow
      refine Ye (Zi (Za (rZ G (qp r1 (qR rr qZ)) V [87,86,85,73,72,20,17,16,15,14,13,12,10,4,2,1,0] [105,104,103,102,101,0] fun G=>?_)))
      replace G:=G.ent (i:=87) (s':=.pv (.int .i64 ((i+1:Nat):Int))) rfl (.int (Zd ow))
      obtain ⟨F,G⟩:=G.nM [86,85,73,72,20,17,16,15,14,13,12,10,4,2,1,0,87] [104,101,0,105,103,102]
      exact ⟨((i+1),_,_),F,⟨by omega,⟨by rw [Zp hil,YQ,← YN];exact hM.skip hsr hsk,hmu⟩⟩,G,by omega⟩
     have hh1:x % 2=1:=by omega
     refine Ze G (qR rr (qR rr (qf (Zbq .t .t) r2 qz (qR rr (qm rfl rfl rfl rfl (qk rfl (fun h=>ZF (sz:=1) 104 Ycm kr .is (.w h) (by decide) (by decide) (by rfl)) r3 r1 (qw 104 rfl r2 r1 (qm rfl rfl rfl rfl (qk rfl (fun h=>o_indexAddr_row (sz:=1) 103 (.mk Ycd kr) (.w h .is) (.w h) ow ow (by rfl)) r3 r1 (qk rfl (fun h=>Zu (ag:=false) (sz':=1) (sz:=1) 103 (.w h) (by intro x;rfl) ow kr kr kr) r2 r1 (qk rfl (fun h=>ZaA (.w h) qi) r2 qz (qf (ZE .t .t) r2 qz qZ)))))))))))) V [102,87,86,85,73,72,22,20,17,16,15,14,13,12,10,4,2,1,0] [105,104,103,102,101,0] rfl rfl fun a w F G=>?_
     try simp only [Yb] at G
     refine Za (Zc G rfl (fun hc10=>?_) (fun hc10=>?_))
     ·have hput:least≤(Nn (adjO I mm (x / 2)) i)∧fI d2 (2*(Nn (adjO I mm (x / 2)) i)+1)<0:=by rw [← ZbR hur];simpa using hc10
      obtain ⟨hP1,hP2⟩:=hM.put hsr (YX _ (Yv.2 ⟨_,nth_mem hil,rfl⟩)) ow hput.2
      have hval:IntKind.wrap .i64 (Nn (ZaU O.length d2) (x / 2).toNat+1)=fI d2 x+1:=by rw [ZbR hxa,show 2*(x / 2)+(1:Int)=x by omega];exact Zz ow
      refine Ya (Zv G (qR rr (qf (ZF (sz:=1) 104 Ycm kr .is .t (by decide) (by decide) (by rfl)) r2 r1 (qa 104 r1 r1 (qR rr (qR rr (qf (ZF (sz:=1) 104 Ycm kr .is (.conv .t (.int hh1)) (by decide) (by decide) (by rfl)) r2 r1 (qa 104 r1 r1 (qR rr (qf (o_indexAddr_row (sz:=1) 103 (.mk Ycd kr) .is .t ow ow (by rfl)) r2 r1 (qf (Zu (ag:=false) (sz':=1) (sz:=1) 103 .t (by intro x;rfl) ow kr kr kr) r1 r1 (qp r1 (qf (o_indexAddr_row (sz:=1) 103 (.mk Ycd kr) .is .t ow ow (by rfl)) r2 r1 (qf (ZI (R:=Zn) (sz:=1) (v:=_) 103 .t (by intro x;rfl) ow .t rfl one_int kr) r2 r1 qZ))))))))))))) V [87,86,85,73,72,22,20,17,16,15,14,13,12,10,4,2,1,0] [105,104,103,102,101,0] rfl rfl fun a w F G=>?_)
      try dsimp only [List.map,Zf,xL,xM,Nat.reduceAdd,xD,xE,xT,xU,xC,xN,zCF,ldSF,Zn] at G
      try simp only [Yb] at G
      rw [hval,← ZhF hdl hur,← Zev (c:=fI d2 x+1) hdl hur] at G
      refine Za (Ze G (qR rr (qR rr (qf (o_shl .t qi (by decide)) r1 qz (qR rr (qf (ZsG .t .t) r2 qz (qf (ZK 105 (Zcx qb (2*(O.length:Int)) q2 (2*(Nn (adjO I mm (x / 2)) i)+1) ow) func207 rfl kr (Args.two .t (.conv .t (Ent.int (Zjo ⟨by omega,by omega⟩ ow))))) r2 r1 qZ)))))) V [87,86,85,73,72,20,17,16,15,14,13,12,10,4,2,1,0] [105,104,103,102,101,0] rfl rfl fun a w F G=>Zi (Za ?_))
      refine rZ G (qp r1 (qR rr qZ)) V [87,86,85,73,72,20,17,16,15,14,13,12,10,4,2,1,0] [105,104,103,102,101,0] fun G=>?_
      have hmu3:2*negC (d2.set (2*(Nn (adjO I mm (x / 2)) i)+1).toNat (fI d2 x+1))+(q2 ++ [2*(Nn (adjO I mm (x / 2)) i)+1]).length≤2*negC d+q.length:=by rw [Yd,YM];omega
      replace G:=G.ent (i:=87) (s':=.pv (.int .i64 ((i+1:Nat):Int))) rfl (.int (Zd ow))
      obtain ⟨F,G⟩:=G.nM [86,85,73,72,20,17,16,15,14,13,12,10,4,2,1,0,87] [104,101,0,105,103,102]
      exact ⟨((i+1),_,(q2 ++ [2*(Nn (adjO I mm (x / 2)) i)+1])),F,⟨by omega,⟨by rw [Zp hil,YQ,← YN];exact hP1,hmu3⟩⟩,G,by omega⟩
     have hsk:2*least≤2*(Nn (adjO I mm (x / 2)) i)+1→0≤fI d2 (2*(Nn (adjO I mm (x / 2)) i)+1):=fun h9=>by have h8:=hc10;rw [ZbR hur] at h8;simp at h8;exact h8 ow
     refine Ye (Zi (Za (rZ G (qp r1 (qR rr qZ)) V [87,86,85,73,72,20,17,16,15,14,13,12,10,4,2,1,0] [105,104,103,102,101,0] fun G=>?_)))
     replace G:=G.ent (i:=87) (s':=.pv (.int .i64 ((i+1:Nat):Int))) rfl (.int (Zd ow))
     obtain ⟨F,G⟩:=G.nM [86,85,73,72,20,17,16,15,14,13,12,10,4,2,1,0,87] [104,101,0,105,103,102]
     exact ⟨((i+1),_,_),F,⟨by omega,⟨by rw [Zp hil,YQ,← YN];exact hM.skip hsr hsk,hmu⟩⟩,G,by omega⟩
    have hil:i=(adjO I mm (x / 2)).length:=by simp at hc8;omega
    refine Yw (Zj (Zj (Zo (Zi (Za (rZ G (qp r1 (qR rr qZ)) V [73,72,17,16,15,14,13,12,10,4,2,1,0] [105,104,103,102,101,0] fun G=>?_))))))
    replace G:=G.ent (i:=73) (s':=.pv (.int .i64 (((2:Nat):Nat):Int))) rfl (.int rfl)
    obtain ⟨F,G⟩:=G.nM [72,17,16,15,14,13,12,10,4,2,1,0,73] [104,101,0,105,103,102]
    exact ⟨((2),(d2),(q2)),F,⟨by omega,by rw [hil,YA] at hM;exact hM,hmu⟩,G,by omega⟩
   simp at hc7
  have hj3:j=2:=by simp at hc2;omega
  subst hj3
  have hBI2:Zd7 (2*O.length) (ZdJ (fun x=>adjO I mn x) (fun x=>adjO I mm x)) (2*least) (2*node) d1 q1:=ZcY.done hM1
  have hmu2:2*negC d1+q1.length<2*negC d+(x :: q).length:=by rw [Yl];omega
  refine Yw (Zj (Zj (Zo (Zi (Za (rZ G (qR rr (qf (ZK 105 (ZhR qb (2*(O.length:Int)) q1) func208 rfl kr (Args.one .t)) r1 r1 (qR rr (qf (Zh .t rfl) r1 qz (qf (Zh .t rfl) r1 qz (qO rr (qO rr qZ))))))) V [15,14,13,12,10,4,2,1,0] [105,104,103,102,101,0] fun G=>?_))))))
  obtain ⟨F,G⟩:=G.nM [13,12,10,4,2,1,0,15,14] [104,101,0,105,103,102]
  exact ⟨((d1),(q1)),F,hBI2,G,hmu2⟩
 have hqe:q = []:=by simpa using hc1
 subst hqe
 have hfin:ZaU O.length d=ZaU O.length D:=Y4 _ ((ZoJ.dist hpr hBI.1).one hD)
 refine Yw (Zj (Zj (Zo (Za (Ya (Ze G (qf (ZF (sz:=1) 104 Ycm kr .is qi (by decide) (by decide) (by rfl)) r1 r1 (qa 104 r1 r1 (qO rr qZ))) V [10] [105,104,103,102,101,0] rfl rfl fun a w F G=>?_))))))
 try simp only [Yb] at G
 refine Za (Yh ?_)
 obtain ⟨F,G⟩:=G.give 103 10 rfl rfl
 refine Zs hfr G rfl rfl rfl (.sl hfin)
end Go.Proofs.YtlkpllemoepamaaGreat
