/- Laws and walks. No condition beyond what each says. -/
import Derived.Test.YtlkpllemoepamaaGreatJ6
namespace Go.Proofs.YtlkpllemoepamaaGreat
open Go Go.Gm Tryz
set_option linter.unusedVariables false
set_option linter.unusedSimpArgs false
set_option maxHeartbeats 4000000
set_option maxRecDepth 8000
def Zdb (p q:Int→List Int) (s:Int):List Int:=(p (s / 2)).map (fun u=>2*u+s % 2)++(q (s / 2)).map fun u=>2*u+1
def ZaG (n:Nat) (d:List Int):List Int:=(List.range n).map fun u=>Nn d (2*u+1)
theorem sh1 (s:Int):s.fdiv (2 ^ min (1:Int).toNat (IntKind.bits .i64))=s / 2:=by
 have e:min (1:Int).toNat (IntKind.bits .i64)=1:=by decide
 rw [e]
 exact Ybi _ (by decide)
theorem ZiX (x:Nat) (hx:x<18446744073709551616):(BitVec.ofInt 64 (x:Int)).toNat=x:=by rw [Ya9];omega
theorem and1m {s:Int} (h:0≤s∧s≤1000000):bits .and .i64 s 1=s % 2:=by
 obtain ⟨n,rfl⟩:=YaF h.1
 show IntKind.wrap .i64 (((BitVec.ofInt 64 (n:Int) &&& BitVec.ofInt 64 ((1:Nat):Int)).toNat:Nat):Int)=_
 rw [YbI,ZiX n ow,ZiX 1 ow,Nat.and_one_is_mod,Zz ow]
 omega
theorem ZhY {u h:Int} (hu:0≤u∧u≤65536) (hh:h=0∨h=1):bits .or .i64 (IntKind.wrap .i64 (u*2 ^ min (1:Int).toNat (IntKind.bits .i64))) h=2*u+h:=by
 have e:min (1:Int).toNat (IntKind.bits .i64)=1:=by decide
 rw [e,show (2:Int) ^ 1=2 from rfl,Zz ow]
 obtain ⟨n,rfl⟩:=YaF hu.1
 obtain ⟨k,rfl⟩:=YaF (show 0≤h by omega)
 show IntKind.wrap .i64 (((BitVec.ofInt 64 ((n*2:Nat):Int) ||| BitVec.ofInt 64 ((k:Nat):Int)).toNat:Nat):Int)=_
 rw [BitVec.toNat_or,ZiX k ow,ZiX _ ow,show n*2=n <<< 1 by rw [Nat.shiftLeft_eq],← Nat.shiftLeft_add_eq_or_of_lt ow,Nat.shiftLeft_eq,Zz ow]
 omega
def Zcg (n:Nat) (d:List Int):List Int:=(List.range n).map fun u=>Nn d (2*u)
theorem Zao {n:Nat} {d:List Int} : (Zcg n d).length=n:=by simp [Zcg]
theorem Zax {n:Nat} {d:List Int} : (ZaG n d).length=n:=by simp [ZaG]
theorem Zb3 {n:Nat} {d:List Int} {u:Nat} (h:u<n):Nn (Zcg n d) u=Nn d (2*u):=by rw [nth_eq (by rw [Zao];exact h)];simp [Zcg]
theorem ZcW {n:Nat} {d:List Int} {u:Nat} (h:u<n):Nn (ZaG n d) u=Nn d (2*u+1):=by rw [nth_eq (by rw [Zax];exact h)];simp [ZaG]
theorem ZeA {n:Nat} {d:List Int} {u:Int} (h:0≤u∧u<n):Nn (Zcg n d) u.toNat=fI d (2*u+0):=by
 rw [Zcr ow,Zb3 ow];congr 1;omega
theorem ZbM {n:Nat} {d:List Int} {u:Int} (h:0≤u∧u<n):Nn (ZaG n d) u.toNat=fI d (2*u+1):=by
 rw [Zcr ow,ZcW ow];congr 1;omega
theorem Zh7 {n:Nat} {d:List Int} {u c:Int} (hd:d.length=2*n) (h:0≤u∧u<n):Zcg n (d.set (2*u+0).toNat c)=(Zcg n d).set u.toNat c:=by
 refine ZaJ (by rw [YU,Zao,Zao]) fun j hj=>?_
 rw [Zao] at hj
 rw [Zck (by rw [Zao];omega),Zb3 hj,Zb3 hj,Zck ow]
 by_cases e:j=u.toNat
 ·rw [Ye e,Ye ow]
 ·rw [Yb e,Yb ow]
theorem Zg7 {n:Nat} {d:List Int} {u c:Int} (hd:d.length=2*n) (h:0≤u∧u<n):ZaG n (d.set (2*u+1).toNat c)=(ZaG n d).set u.toNat c:=by
 refine ZaJ (by rw [YU,Zax,Zax]) fun j hj=>?_
 rw [Zax] at hj
 rw [Zck (by rw [Zax];omega),ZcW hj,ZcW hj,Zck ow]
 by_cases e:j=u.toNat
 ·rw [Ye e,Ye ow]
 ·rw [Yb e,Yb ow]
theorem Zd6 {n:Nat} {d:List Int} {u c:Int} (hd:d.length=2*n) (h:0≤u∧u<n):Zcg n (d.set (2*u+1).toNat c)=Zcg n d:=by
 refine ZaJ (by rw [Zao,Zao]) fun j hj=>?_
 rw [Zao] at hj
 rw [Zb3 hj,Zb3 hj,Zck ow,Yb ow]
theorem ZhZ {n:Nat} {d:List Int} {u c:Int} (hd:d.length=2*n) (h:0≤u∧u<n):ZaG n (d.set (2*u+0).toNat c)=ZaG n d:=by
 refine ZaJ (by rw [Zax,Zax]) fun j hj=>?_
 rw [Zax] at hj
 rw [ZcW hj,ZcW hj,Zck ow,Yb ow]
theorem ZnT (n:Nat):Zcg n (List.replicate (2*n) (-1))=List.replicate n (-1):=by
 refine ZaJ (by rw [Zao,YY]) fun j hj=>?_
 rw [Zao] at hj
 rw [Zb3 hj,nth_eq (by simp;omega),nth_eq (by simp;omega)];simp
theorem Zqv (n:Nat):ZaG n (List.replicate (2*n) (-1))=List.replicate n (-1):=by
 refine ZaJ (by rw [Zax,YY]) fun j hj=>?_
 rw [Zax] at hj
 rw [ZcW hj,nth_eq (by simp;omega),nth_eq (by simp;omega)];simp
theorem Zom {n:Nat} {p q:Int→List Int} (hp:∀ x,∀ u ∈ p x,0≤u∧u<(n:Int)) (hq:∀ x,∀ u ∈ q x,0≤u∧u<(n:Int)):∀ s,∀ u ∈ Zdb p q s,0≤u∧u<((2*n:Nat):Int):=fun s u hu=>by
 rcases Yy.1 hu with hu | hu
 ·obtain ⟨v,hv,rfl⟩:=Yu.1 hu
  have:=hp _ v hv;omega
 ·obtain ⟨v,hv,rfl⟩:=Yu.1 hu
  have:=hq _ v hv;omega
def ZtQ (a b:List Int) (h:Int):Nat→List Int
 | 0=>[]
 | 1=>a.map fun u=>2*u+h
 | _=>(a.map fun u=>2*u+h)++b.map fun u=>2*u+1
section
variable {P:Program} {d:Option Nat} {ty:TypeId} {pos:String} {af:Array Edge} {g:Option (Nat×Bool)} {x y:Operand} {ps qs:List (Nat×SF)} {t:TypeId} {α:Type}
theorem PVs.pick1 [Inhabited α] {p:α→PV} {w:World} {yy:Ys} : ∀ {l:List α} {vs:List Value} (i:Nat),PVs (l.map p) vs w yy→i<l.length → ∃ v,vs[i]? = some v∧(p (Nn l i)).p v w yy
 | [],_,i,_,h=>by simp at h
 | _ :: _,[],_,h,_=>h.elim
 | z :: l,v :: vs,0,h,_=>⟨v,rfl,h.1.2⟩
 | z :: l,v :: vs,i+1,h,hi=>by
  obtain ⟨u,h1,h2⟩:=PVs.pick1 (l:=l) (vs:=vs) i h.2 (by simpa using hi)
  exact ⟨u,by simpa using h1,by rw [nth_eq hi];rw [nth_eq (by simpa using hi)] at h2;simpa using h2⟩
theorem Ze1 [Inhabited α] {e n:Nat} {l:List α} {p:α→PV} {k:IntKind} {i:Int} (hu:P.underlying t=some (.array n e)) (ha:P.aggB e=some false) (hs:(P.info? e).map (·.size)=some 1) (hx:Opd x ps (.pv (.agg (l.map p)))) (hy:Opd y qs (.pv (.int k i))) (h0:0≤i) (h1:i<n) (hn:l.length=n) :
  OpC P ⟨d,.index t x y,ty,pos,af,g⟩ ⟨ps++qs,[],.pv (p (Nn l i.toNat)),[]⟩:=
 OpC.pure fun a w yy hp=>by
  obtain ⟨vs,e1,hv⟩:=hx a w yy hp.left
  have e2:=(hy a w yy hp.right).1
  obtain ⟨v,h2,h3⟩:=PVs.pick1 i.toNat hv ow
  refine ⟨v,?_,fun _ _=>h3⟩
  simp [execOp,Instr.index,e1,e2,asIntOf,asInt,Yo hu,Ye (And.intro h0 h1),part,Go.Gm.run_isAgg ha,Go.Gm.run_sizeOf hs,h2]
end
theorem ZsX (E:List Zw) (O I:List (List Z8)) (m:Nat) (mask must node least mn mm:Int) (hmn:bits .andNot .i64 mask must=mn) (hmm:bits .and .i64 mask must=mm) (hne:mn≠mm) (h:Zcs O.length E O I) (hn1:1≤O.length) (hn:O.length≤4096) (hE:E.length≤1000000) (hs0:least≤node) (hs1:0≤node) (hs2:node<O.length) (D:List Int) (hD:Zc3 (2*O.length) (Zdb (fun x=>adjO I mn x) (fun x=>adjO I mm x)) (2*least) (2*node) D):FnP prog 170 [ZhD O I m,.int .i64 mask,.int .i64 must,.int .i64 node,.int .i64 least] (.sl Zn (ZaG O.length D)):=by
 refine FnP.mk func170 rfl ntmps170 rfl fun B a w F Z hfr G=>?_
 obtain ⟨hpn,hln⟩:=h.prevR mn
 obtain ⟨hpm,hlm⟩:=h.prevR mm
 have hpr:=Zom hpn hpm
 have hw2:IntKind.wrap .i64 (2*(O.length:Int))=(2*(O.length:Int)):=Zz ow
 have hB0:ZdD (2*O.length) (Zdb (fun x=>adjO I mn x) (fun x=>adjO I mm x)) (2*least) (2*node) ((List.replicate (2*O.length) (-1)).set (2*node).toNat 0) [2*node]:=ZdD.first ⟨by omega,by omega⟩
 have hev0:Zcg O.length ((List.replicate (2*O.length) (-1)).set (2*node+0).toNat 0)=(List.replicate O.length (-1)).set node.toNat 0:=by rw [Zh7 (by simp) ⟨hs1,hs2⟩,ZnT]
 have hod0:ZaG O.length ((List.replicate (2*O.length) (-1)).set (2*node+0).toNat 0)=List.replicate O.length (-1):=by rw [ZhZ (by simp) ⟨hs1,hs2⟩,Zqv]
 refine Ya (rZ G (qC qZ) Z [10,4,3,2,1,0] [0] fun G=>Ya ?_)
 refine Zb G (qR rr (qR rr (qR rr (qf (oB [(0,.tmp 23),(1,.tmp 24),(2,.tmp 25)] [.pointer none,.int .i64 0,.int .i64 0] [(0,1),(1,1),(2,1)] (.one rfl .t ZjG kr (.one rfl .t one_int kr (.one rfl .t one_int kr .nil)))) r3 qz (qf (oH [.pointer none,.int .i64 0,.int .i64 0] 101) trivial qz (qS 3 101 r2 r1 qZ)))))) Z [11,10,4,3,2,1,0] [101,0] (fun _=>rfl) (fun _=>rfl) fun τ a w F G=>?_
 try dsimp only [RS.sub,SF.sub,CF.sub,csub,Anc.sub,List.map,Ze,xL,xM,Nat.reduceAdd,xD,xE,xT,xU,xC,xN,zCF,Zn] at G
 generalize τ 11=v11 at G
 refine Za (Ya ?_)
 replace G:=G.fresh 102 rfl
 replace G:=G.fresh 103 rfl
 refine Zba G (qe 3 101 r1 r1 (qf (ZaM 102 (Zop O I m mask least ow ow) func204 rfl kr (Args.one (.pagg .t)) pvOne1) r1 r1 (qe 3 101 r1 r1 (qf (ZaM 103 (Zop O I m mask least ow ow) func204 rfl kr (Args.one (.pagg .t)) pvOne1) r1 r1 (qf (ZaV (sz:=1) (r:=[(0,.tmp 28),(1,.tmp 30)]) (zs:=[.slice none 0 0,.slice none 0 0]) (pl:=[(0,1),(1,1)]) Yb7 kr kr rfl (.same rfl kr (.same rfl kr .nil)) (by rfl)) r2 qz (qf (oH [.slice none 0 0,.slice none 0 0] 104) trivial qz (qS 2 104 r2 r1 qZ))))))) Z [12,11,10,4,3,2,1,0] [104,103,102,101,0] (fun _=>rfl) (fun _=>rfl) fun τ a w F G=>?_
 try dsimp only [RS.sub,SF.sub,CF.sub,csub,Anc.sub,List.map,Ze,xL,xM,Nat.reduceAdd,xD,xE,xT,xU,xC,xN,zCF,ldSF,Zn] at G
 generalize τ 12=v12,τ 28=v28,τ 30=v30 at G
 refine Za (Ya (Ya (rZ G (qe 3 101 r1 r1 (qR rr (qf (oP (ZmU O I m mask least node) func205 (Args.two (.pagg .t) .t)) r2 qz (qf (o_not .t) r1 qz qZ)))) Z [35,12,10,4,3,2,1,0] [104,103,102,101,0] fun G=>?_)))
 refine Zc G rfl (fun hc0=>?_) (fun hc0=>?_)
 ·simp at hc0;omega
 refine Yf (Za (Ya ?_))
 replace G:=G.fresh 105 rfl
 refine Zb G (qR rr (qf (oP (Zcz O I m) func158 (Args.one .t)) r1 qz (qf (Zlr qi .t) r1 qz (qf (ZaM 105 (ZnK _) func206 rfl kr (Args.one .t) PV.ptr_one) r1 r1 (qO rr qZ))))) Z [13,12,10,4,3,2,1,0] [105,104,103,102,101,0] (fun _=>rfl) (fun _=>rfl) fun τ a w F G=>?_
 try dsimp only [RS.sub,SF.sub,CF.sub,csub,Anc.sub,List.map,Zn] at G
 generalize τ 41=v41 at G
 obtain ⟨_,_,_,ho⟩:=G.obGet 105 rfl
 obtain ⟨qb,rfl⟩:=ZnV ho
 clear ho
 replace G:=G.turn 105 rfl (r':=RS.hp (rqH (.pointer (some ⟨qb,0,none⟩)) (ZcN (IntKind.wrap .i64 (2*(O.length:Int)))) [])) (fun _ _ _ _ h=>h)
 obtain ⟨F,G⟩:=G.nM [13,12,10,4,3,2,1,0] [105,104,103,102,101,0]
 rw [hw2,ZhR ow] at G
 refine Za (Ya (Zg G (qf (ZE (sz:=1) 104 Yb7 kr .is qi (by decide) (by decide) (by rfl)) r1 r1 (qa 104 r1 r1 (qR rr (qf (o_indexAddr_row (sz:=1) 102 (.mk Yb0 kr) .is .t ow (by rw [YY];omega) (by rfl)) r2 r1 (qf (ZW (R:=Zn) (sz:=1) (v:=0) 102 .t (by intro x;rfl) (by rw [YY];omega) qi rfl one_int kr) r1 r1 qZ))))) Z [13,12,10,4,3,2,1,0] [105,104,103,102,101,0] rfl rfl fun a w F G=>?_))
 try simp only [Yd] at G
 rw [← hev0,← hod0] at G
 refine Za (Ya (rZ G (qR rr (qR rr (qf (ZgZ .t qi (by decide)) r1 qz (qf (ZqN .t qi) r1 qz (qf (Z0 105 (Zcd qb (2*(O.length:Int)) [] (2*node+0) (by simp;omega)) func207 rfl kr (Args.two .t (.conv .t (Ent.int (ZhY ⟨by omega,by omega⟩ (.inl rfl)))))) r2 r1 qZ))))) Z [13,12,10,4,2,1,0] [105,104,103,102,101,0] fun G=>(Ya (Ya ?_))))
 refine Zg G (qR rr (qf (Z0 105 (ZgT qb (2*(O.length:Int)) [2*node+0]) func208 rfl kr (Args.one .t)) r1 r1 (qR rr (qf (Zi .t rfl) r1 qz (qf (Zi .t rfl) r1 qz (qO rr (qO rr qZ))))))) Z [15,14,13,12,10,4,2,1,0] [105,104,103,102,101,0] rfl rfl fun a w F G=>?_
 try rw [Int.add_zero] at G
 refine Za (Yg (Zm (σ:=List Int×List Int) [0,1,2,4,10,12,13] [0,101,104] (fun s=>[(14,.pv (.int .i64 (s.2.headD 0))),(15,.pv (.bool (decide (s.2≠[]))))]) (fun s=>[(102,.ob (.val v28) (ZC 3 1 Zn (Zcg O.length s.1))),(103,.ob (.val v30) (ZC 3 1 Zn (ZaG O.length s.1))),(105,RS.hp (rqH (.pointer (some ⟨qb,0,none⟩)) (2*(O.length:Int)) s.2.tail))]) (fun s=>ZdD (2*O.length) (Zdb (fun x=>adjO I mn x) (fun x=>adjO I mm x)) (2*least) (2*node) s.1 s.2) (fun s=>2*negC s.1+s.2.length) (_,([2*node])) G ⟨rfl,rfl,rfl,rfl,rfl,rfl,rfl,rfl,rfl,tv⟩ ⟨rfl,rfl,rfl,rfl,rfl,rfl,tv⟩ hB0 ?_))
 clear G;intro s a w F hC G
 obtain ⟨d,q⟩:=s
 try dsimp only at hC
 obtain ⟨F,G⟩:=G.nM [15,14,13,12,10,4,2,1,0] [105,104,103,102,101,0]
 try dsimp only at G
 have hBI:ZdD (2*O.length) (Zdb (fun x=>adjO I mn x) (fun x=>adjO I mm x)) (2*least) (2*node) d q:=hC
 refine Ya (Ya (rZ G (qR rr qZ) Z [56,15,14,13,12,10,4,2,1,0] [105,104,103,102,101,0] fun G=>?_))
 refine Zc G rfl (fun hc1=>?_) (fun hc1=>?_)
 ·obtain ⟨x,q,rfl⟩:∃ x l,q=x :: l:=List.exists_cons_of_ne_nil (by simpa using hc1)
  try dsimp only [List.headD_cons,List.tail_cons] at G
  have hM0:=hBI.pop
  have hxh:=hM0.1.here
  have hxa:0≤x / 2∧x / 2<(O.length:Int):=by omega
  refine Yf (Za (Ya (Yg (Ya (Zg G (qR rr (qf (Zev .t qi (by decide)) r1 qz (qR rr (qf (Zdk .t qi) r1 qz (qO rr (qO rr qZ)))))) Z [17,16,15,14,13,12,10,4,2,1,0] [105,104,103,102,101,0] rfl rfl fun a w F G=>?_)))))
  rw [sh1,and1m ow] at G
  refine Za (Ya (Zg G (qR rr (qR rr (qf (ZjU .t .t) r2 qz (qR rr (qR rr (qf (Zdk .t .t) r2 qz (qf (ZaV (sz:=1) (r:=[(0,.tmp 68),(1,.tmp 71)]) (zs:=[.int .i64 0,.int .i64 0]) (pl:=[(0,1),(1,1)]) Ycb kr kr rfl (.one rfl .t one_int kr (.one rfl .t one_int kr .nil)) (by rfl)) r2 qz (qJ qZ)))))))) Z [73,72,17,16,15,14,13,12,10,4,2,1,0] [105,104,103,102,101,0] rfl rfl fun a w F G=>?_))
  rw [hmn,hmm] at G
  refine Za (Yg (Zm (σ:=Nat×List Int×List Int) [0,1,2,4,10,12,13,14,15,16,17,72] [0,101,104] (fun s=>[(73,.pv (.int .i64 (s.1:Int)))]) (fun s=>[(102,.ob (.val v28) (ZC 3 1 Zn (Zcg O.length s.2.1))),(103,.ob (.val v30) (ZC 3 1 Zn (ZaG O.length s.2.1))),(105,RS.hp (rqH (.pointer (some ⟨qb,0,none⟩)) (2*(O.length:Int)) s.2.2))]) (fun s=>s.1≤2∧Zcu (2*O.length) (Zdb (fun x=>adjO I mn x) (fun x=>adjO I mm x)) (2*least) (2*node) s.2.1 s.2.2 x (ZtQ (adjO I mn (x / 2)) (adjO I mm (x / 2)) (x % 2) s.1)∧2*negC s.2.1+s.2.2.length≤2*negC d+q.length) (fun s=>2 - s.1) ((0),(d),(q)) G ⟨rfl,rfl,rfl,rfl,rfl,rfl,rfl,rfl,rfl,rfl,rfl,rfl,rfl,tv⟩ ⟨rfl,rfl,rfl,rfl,rfl,rfl,tv⟩ ⟨by omega,hM0,YO _⟩ ?_))
  clear G;intro s a w F hC G
  obtain ⟨j,d1,q1⟩:=s
  try dsimp only at hC
  obtain ⟨F,G⟩:=G.nM [73,72,17,16,15,14,13,12,10,4,2,1,0] [105,104,103,102,101,0]
  try dsimp only at G
  obtain ⟨hj2,hM1,hmu1⟩:=hC
  refine Ya (rZ G (qf (Zar .t qi) r1 qz qZ) Z [74,73,72,17,16,15,14,13,12,10,4,2,1,0] [105,104,103,102,101,0] fun G=>Ya ?_)
  refine Zc G rfl (fun hc2=>?_) (fun hc2=>?_)
  ·have hj3:j<2:=by simp at hc2;omega
   refine Yf (Za (Ya (Yg (Ya ?_))))
   by_cases hfk:j=0
   ·subst hfk
    refine Zg G (qf (Ze1 (l:=[mn,mm]) (p:=(fun y=>PV.int .i64 y)) Ycb kr kr (.conv .t (.aggU rfl rfl)) .t ow ow rfl) r2 qz (qO rr qZ)) Z [73,72,19,17,16,15,14,13,12,10,4,2,1,0] [105,104,103,102,101,0] rfl rfl fun a w F G=>?_
    try simp only [Yd] at G
    rw [show Nn [mn,mm] 0=mn from rfl] at G
    refine Za (Ya (rZ G (qR rr (qO rr qZ)) Z [73,72,20,19,17,16,15,14,13,12,10,4,2,1,0] [105,104,103,102,101,0] fun G=>(Ya (Ya ?_))))
    refine Zg G (qR rr (qR rr (qR rr (qf (Zdk .t .t) r2 qz (qf (o_eql .t .t) r2 qz qZ))))) Z [81,73,72,20,19,17,16,15,14,13,12,10,4,2,1,0] [105,104,103,102,101,0] rfl rfl fun a w F G=>?_
    rw [hmm] at G
    refine Za (Zc G rfl (fun hc3=>?_) (fun hc3=>?_))
    ·exact (hne (Yw hc3)).elim
    refine Yf (Za (Ya (rZ G (qR rr (qR rr (qR rr (qf (oP (Zht O I m (x / 2) mn (fun l hl=>(h.inn.r hE l hl).1) (by rw [h.ol,h.il])) func209 (Args.three .t .t .t)) r3 qz (qu Yb0 r1 (qJ qZ)))))) Z [87,86,85,73,72,20,17,16,15,14,13,12,10,4,2,1,0] [105,104,103,102,101,0] fun G=>Yg ?_)))
    refine Zm (σ:=(Nat)×(List Int)×(List Int)) [0,1,2,4,10,12,13,14,15,16,17,20,72,73,85,86] [0,101,104] (fun s=>[(87,.pv (.int .i64 (s.1:Int)))]) (fun s=>[(102,.ob (.val v28) (ZC 3 1 Zn (Zcg O.length s.2.1))),(103,.ob (.val v30) (ZC 3 1 Zn (ZaG O.length s.2.1))),(105,RS.hp (rqH (.pointer (some ⟨qb,0,none⟩)) (2*(O.length:Int)) s.2.2))]) (fun s=>s.1≤(adjO I mn (x / 2)).length∧(Zcu (2*O.length) (Zdb (fun x=>adjO I mn x) (fun x=>adjO I mm x)) (2*least) (2*node) s.2.1 s.2.2 x ([] ++ ((adjO I mn (x / 2)).take s.1).map fun u=>2*u+x % 2)∧2*negC s.2.1+s.2.2.length≤2*negC d+q.length)) (fun s=>(adjO I mn (x / 2)).length - s.1) ((0),(d1),(q1)) G ⟨rfl,rfl,rfl,rfl,rfl,rfl,rfl,rfl,rfl,rfl,rfl,rfl,rfl,rfl,rfl,rfl,rfl,tv⟩ ⟨rfl,rfl,rfl,rfl,rfl,rfl,tv⟩ ⟨Yx _,⟨hM1,hmu1⟩⟩ ?_
    clear G;intro s a w F hC G
    obtain ⟨i,d2,q2⟩:=s
    try dsimp only at hC
    obtain ⟨F,G⟩:=G.nM [87,86,85,73,72,20,17,16,15,14,13,12,10,4,2,1,0] [105,104,103,102,101,0]
    try dsimp only at G
    obtain ⟨hi,hq⟩:=hC
    obtain ⟨hM,hmu⟩:=hq
    have hdl:=hM.1.len
    have hxr:=hM.1.here
    have hxv:=hM.val
    have hqr:=hM.1.room
    have hpx:(adjO I mn (x / 2)).length≤O.length:=hln _
    have hel:(Zcg O.length d2).length=O.length:=Zao
    have hol:(ZaG O.length d2).length=O.length:=Zax
    refine Ya (rZ G (qL r2) Z [88,87,86,85,73,72,20,17,16,15,14,13,12,10,4,2,1,0] [105,104,103,102,101,0] fun G=>Ya ?_)
    refine Zc G rfl (fun hc4=>?_) (fun hc4=>?_)
    ·have hil:i<(adjO I mn (x / 2)).length:=by simp at hc4;omega
     have hur:0≤(Nn (adjO I mn (x / 2)) i)∧(Nn (adjO I mn (x / 2)) i)<(O.length:Int):=hpn _ _ (nth_mem hil)
     have hsr:0≤2*(Nn (adjO I mn (x / 2)) i)+x % 2∧2*(Nn (adjO I mn (x / 2)) i)+x % 2<(((2*O.length):Nat):Int):=by omega
     refine Yf (Za (Ya (Yg (Ya (Zg G (qy 1 Yb0 r2 (qf (oR false 1 .t) r1 qz (qO rr qZ))) Z [87,86,85,73,72,22,20,17,16,15,14,13,12,10,4,2,1,0] [105,104,103,102,101,0] rfl rfl fun a w F G=>?_)))))
     try simp only [Yd] at G
     refine Za (Ya ?_)
     by_cases hfk:x % 2=0
     ·refine Zg G (qR rr (qR rr (qf (ZbE .t .t) r2 qz (qR rr (qm rfl rfl rfl rfl (qk rfl (fun h=>ZE (sz:=1) 104 Yb7 kr .is (.conv (.w h) (.int hfk)) (by decide) (by decide) (by rfl)) r3 r1 (qw 104 rfl r2 r1 (qm rfl rfl rfl rfl (qk rfl (fun h=>o_indexAddr_row (sz:=1) 102 (.mk Yb0 kr) (.w h .is) (.w h) ow ow (by rfl)) r3 r1 (qk rfl (fun h=>ZD (ag:=false) (sz':=1) (sz:=1) 102 (.w h) (by intro x;rfl) ow kr kr kr) r2 r1 (qk rfl (fun h=>Zar (.w h) qi) r2 qz (qf (ZH .t .t) r2 qz qZ)))))))))))) Z [102,87,86,85,73,72,22,20,17,16,15,14,13,12,10,4,2,1,0] [105,104,103,102,101,0] rfl rfl fun a w F G=>?_
      try simp only [Yd] at G
      refine Za (Zc G rfl (fun hc5=>?_) (fun hc5=>?_))
      ·have hput:least≤(Nn (adjO I mn (x / 2)) i)∧fI d2 (2*(Nn (adjO I mn (x / 2)) i)+0)<0:=by rw [← ZeA hur];simpa using hc5
       rw [show 2*(Nn (adjO I mn (x / 2)) i)+(0:Int)=2*(Nn (adjO I mn (x / 2)) i)+x % 2 by omega] at hput
       obtain ⟨hP1,hP2⟩:=hM.put hsr (Yac _ (Yu.2 ⟨_,nth_mem hil,rfl⟩)) ow hput.2
       have hval:IntKind.wrap .i64 (Nn (Zcg O.length d2) (x / 2).toNat+1)=fI d2 x+1:=by rw [ZeA hxa,show 2*(x / 2)+(0:Int)=x by omega];exact Zz ow
       refine Ya (ZB G (qR rr (qf (ZE (sz:=1) 104 Yb7 kr .is (.conv .t (.int hfk)) (by decide) (by decide) (by rfl)) r2 r1 (qa 104 r1 r1 (qR rr (qR rr (qf (ZE (sz:=1) 104 Yb7 kr .is (.conv .t (.int hfk)) (by decide) (by decide) (by rfl)) r2 r1 (qa 104 r1 r1 (qR rr (qf (o_indexAddr_row (sz:=1) 102 (.mk Yb0 kr) .is .t ow ow (by rfl)) r2 r1 (qf (ZD (ag:=false) (sz':=1) (sz:=1) 102 .t (by intro x;rfl) ow kr kr kr) r1 r1 (qp r1 (qf (o_indexAddr_row (sz:=1) 102 (.mk Yb0 kr) .is .t ow ow (by rfl)) r2 r1 (qf (ZW (R:=Zn) (sz:=1) (v:=_) 102 .t (by intro x;rfl) ow .t rfl one_int kr) r2 r1 qZ))))))))))))) Z [87,86,85,73,72,22,20,17,16,15,14,13,12,10,4,2,1,0] [105,104,103,102,101,0] rfl rfl fun a w F G=>?_)
       try dsimp only [List.map,Ze,xL,xM,Nat.reduceAdd,xD,xE,xT,xU,xC,xN,zCF,ldSF,Zn] at G
       try simp only [Yd] at G
       rw [hval,← Zh7 hdl hur,← ZhZ (c:=fI d2 x+1) hdl hur] at G
       rw [show 2*(Nn (adjO I mn (x / 2)) i)+(0:Int)=2*(Nn (adjO I mn (x / 2)) i)+x % 2 by omega] at G
       refine Za (Zg G (qR rr (qR rr (qf (ZgZ .t qi (by decide)) r1 qz (qR rr (qf (ZqN .t .t) r2 qz (qf (Z0 105 (Zcd qb (2*(O.length:Int)) q2 (2*(Nn (adjO I mn (x / 2)) i)+x % 2) ow) func207 rfl kr (Args.two .t (.conv .t (Ent.int (ZhY ⟨by omega,by omega⟩ ow))))) r2 r1 qZ)))))) Z [87,86,85,73,72,20,17,16,15,14,13,12,10,4,2,1,0] [105,104,103,102,101,0] rfl rfl fun a w F G=>Zj (Za ?_))
       refine rZ G (qp r1 (qR rr qZ)) Z [87,86,85,73,72,20,17,16,15,14,13,12,10,4,2,1,0] [105,104,103,102,101,0] fun G=>?_
       have hmu3:2*negC (d2.set (2*(Nn (adjO I mn (x / 2)) i)+x % 2).toNat (fI d2 x+1))+(q2 ++ [2*(Nn (adjO I mn (x / 2)) i)+x % 2]).length≤2*negC d+q.length:=by rw [Yc,Yav];omega
       replace G:=G.ent (i:=87) (s':=.pv (.int .i64 ((i+1:Nat):Int))) rfl (.int (Zd ow))
       obtain ⟨F,G⟩:=G.nM [86,85,73,72,20,17,16,15,14,13,12,10,4,2,1,0,87] [104,101,0,105,103,102]
       exact ⟨((i+1),_,(q2 ++ [2*(Nn (adjO I mn (x / 2)) i)+x % 2])),F,⟨by omega,⟨by rw [Zs hil,YJ,← YS];exact hP1,hmu3⟩⟩,G,by omega⟩
      have hsk:2*least≤2*(Nn (adjO I mn (x / 2)) i)+x % 2→0≤fI d2 (2*(Nn (adjO I mn (x / 2)) i)+x % 2):=fun h9=>by have h8:=hc5;rw [ZeA hur] at h8;rw [show 2*(Nn (adjO I mn (x / 2)) i)+(0:Int)=2*(Nn (adjO I mn (x / 2)) i)+x % 2 by omega] at h8;simp at h8;exact h8 ow
      refine Yf (Zj (Za (rZ G (qp r1 (qR rr qZ)) Z [87,86,85,73,72,20,17,16,15,14,13,12,10,4,2,1,0] [105,104,103,102,101,0] fun G=>?_)))
      replace G:=G.ent (i:=87) (s':=.pv (.int .i64 ((i+1:Nat):Int))) rfl (.int (Zd ow))
      obtain ⟨F,G⟩:=G.nM [86,85,73,72,20,17,16,15,14,13,12,10,4,2,1,0,87] [104,101,0,105,103,102]
      exact ⟨((i+1),_,_),F,⟨by omega,⟨by rw [Zs hil,YJ,← YS];exact hM.skip hsr hsk,hmu⟩⟩,G,by omega⟩
     have hh1:x % 2=1:=by omega
     refine Zg G (qR rr (qR rr (qf (ZbE .t .t) r2 qz (qR rr (qm rfl rfl rfl rfl (qk rfl (fun h=>ZE (sz:=1) 104 Yb7 kr .is (.conv (.w h) (.int hh1)) (by decide) (by decide) (by rfl)) r3 r1 (qw 104 rfl r2 r1 (qm rfl rfl rfl rfl (qk rfl (fun h=>o_indexAddr_row (sz:=1) 103 (.mk Yb0 kr) (.w h .is) (.w h) ow ow (by rfl)) r3 r1 (qk rfl (fun h=>ZD (ag:=false) (sz':=1) (sz:=1) 103 (.w h) (by intro x;rfl) ow kr kr kr) r2 r1 (qk rfl (fun h=>Zar (.w h) qi) r2 qz (qf (ZH .t .t) r2 qz qZ)))))))))))) Z [102,87,86,85,73,72,22,20,17,16,15,14,13,12,10,4,2,1,0] [105,104,103,102,101,0] rfl rfl fun a w F G=>?_
     try simp only [Yd] at G
     refine Za (Zc G rfl (fun hc6=>?_) (fun hc6=>?_))
     ·have hput:least≤(Nn (adjO I mn (x / 2)) i)∧fI d2 (2*(Nn (adjO I mn (x / 2)) i)+1)<0:=by rw [← ZbM hur];simpa using hc6
      rw [show 2*(Nn (adjO I mn (x / 2)) i)+(1:Int)=2*(Nn (adjO I mn (x / 2)) i)+x % 2 by omega] at hput
      obtain ⟨hP1,hP2⟩:=hM.put hsr (Yac _ (Yu.2 ⟨_,nth_mem hil,rfl⟩)) ow hput.2
      have hval:IntKind.wrap .i64 (Nn (ZaG O.length d2) (x / 2).toNat+1)=fI d2 x+1:=by rw [ZbM hxa,show 2*(x / 2)+(1:Int)=x by omega];exact Zz ow
      refine Ya (ZB G (qR rr (qf (ZE (sz:=1) 104 Yb7 kr .is (.conv .t (.int hh1)) (by decide) (by decide) (by rfl)) r2 r1 (qa 104 r1 r1 (qR rr (qR rr (qf (ZE (sz:=1) 104 Yb7 kr .is (.conv .t (.int hh1)) (by decide) (by decide) (by rfl)) r2 r1 (qa 104 r1 r1 (qR rr (qf (o_indexAddr_row (sz:=1) 103 (.mk Yb0 kr) .is .t ow ow (by rfl)) r2 r1 (qf (ZD (ag:=false) (sz':=1) (sz:=1) 103 .t (by intro x;rfl) ow kr kr kr) r1 r1 (qp r1 (qf (o_indexAddr_row (sz:=1) 103 (.mk Yb0 kr) .is .t ow ow (by rfl)) r2 r1 (qf (ZW (R:=Zn) (sz:=1) (v:=_) 103 .t (by intro x;rfl) ow .t rfl one_int kr) r2 r1 qZ))))))))))))) Z [87,86,85,73,72,22,20,17,16,15,14,13,12,10,4,2,1,0] [105,104,103,102,101,0] rfl rfl fun a w F G=>?_)
      try dsimp only [List.map,Ze,xL,xM,Nat.reduceAdd,xD,xE,xT,xU,xC,xN,zCF,ldSF,Zn] at G
      try simp only [Yd] at G
      rw [hval,← Zg7 hdl hur,← Zd6 (c:=fI d2 x+1) hdl hur] at G
      rw [show 2*(Nn (adjO I mn (x / 2)) i)+(1:Int)=2*(Nn (adjO I mn (x / 2)) i)+x % 2 by omega] at G
      refine Za (Zg G (qR rr (qR rr (qf (ZgZ .t qi (by decide)) r1 qz (qR rr (qf (ZqN .t .t) r2 qz (qf (Z0 105 (Zcd qb (2*(O.length:Int)) q2 (2*(Nn (adjO I mn (x / 2)) i)+x % 2) ow) func207 rfl kr (Args.two .t (.conv .t (Ent.int (ZhY ⟨by omega,by omega⟩ ow))))) r2 r1 qZ)))))) Z [87,86,85,73,72,20,17,16,15,14,13,12,10,4,2,1,0] [105,104,103,102,101,0] rfl rfl fun a w F G=>Zj (Za ?_))
      refine rZ G (qp r1 (qR rr qZ)) Z [87,86,85,73,72,20,17,16,15,14,13,12,10,4,2,1,0] [105,104,103,102,101,0] fun G=>?_
      have hmu3:2*negC (d2.set (2*(Nn (adjO I mn (x / 2)) i)+x % 2).toNat (fI d2 x+1))+(q2 ++ [2*(Nn (adjO I mn (x / 2)) i)+x % 2]).length≤2*negC d+q.length:=by rw [Yc,Yav];omega
      replace G:=G.ent (i:=87) (s':=.pv (.int .i64 ((i+1:Nat):Int))) rfl (.int (Zd ow))
      obtain ⟨F,G⟩:=G.nM [86,85,73,72,20,17,16,15,14,13,12,10,4,2,1,0,87] [104,101,0,105,103,102]
      exact ⟨((i+1),_,(q2 ++ [2*(Nn (adjO I mn (x / 2)) i)+x % 2])),F,⟨by omega,⟨by rw [Zs hil,YJ,← YS];exact hP1,hmu3⟩⟩,G,by omega⟩
     have hsk:2*least≤2*(Nn (adjO I mn (x / 2)) i)+x % 2→0≤fI d2 (2*(Nn (adjO I mn (x / 2)) i)+x % 2):=fun h9=>by have h8:=hc6;rw [ZbM hur] at h8;rw [show 2*(Nn (adjO I mn (x / 2)) i)+(1:Int)=2*(Nn (adjO I mn (x / 2)) i)+x % 2 by omega] at h8;simp at h8;exact h8 ow
     refine Yf (Zj (Za (rZ G (qp r1 (qR rr qZ)) Z [87,86,85,73,72,20,17,16,15,14,13,12,10,4,2,1,0] [105,104,103,102,101,0] fun G=>?_)))
     replace G:=G.ent (i:=87) (s':=.pv (.int .i64 ((i+1:Nat):Int))) rfl (.int (Zd ow))
     obtain ⟨F,G⟩:=G.nM [86,85,73,72,20,17,16,15,14,13,12,10,4,2,1,0,87] [104,101,0,105,103,102]
     exact ⟨((i+1),_,_),F,⟨by omega,⟨by rw [Zs hil,YJ,← YS];exact hM.skip hsr hsk,hmu⟩⟩,G,by omega⟩
    have hil:i=(adjO I mn (x / 2)).length:=by simp at hc4;omega
    refine Yz (Zh (Zh (Zr (Zj (Za (rZ G (qp r1 (qR rr qZ)) Z [73,72,17,16,15,14,13,12,10,4,2,1,0] [105,104,103,102,101,0] fun G=>?_))))))
    replace G:=G.ent (i:=73) (s':=.pv (.int .i64 (((1:Nat):Nat):Int))) rfl (.int rfl)
    obtain ⟨F,G⟩:=G.nM [72,17,16,15,14,13,12,10,4,2,1,0,73] [104,101,0,105,103,102]
    exact ⟨((1),(d2),(q2)),F,⟨by omega,by rw [hil,YD] at hM;exact hM,hmu⟩,G,by omega⟩
   have hj1:j=1:=by omega
   subst hj1
   clear hfk
   refine Zg G (qf (Ze1 (l:=[mn,mm]) (p:=(fun y=>PV.int .i64 y)) Ycb kr kr (.conv .t (.aggU rfl rfl)) .t ow ow rfl) r2 qz (qO rr qZ)) Z [73,72,19,17,16,15,14,13,12,10,4,2,1,0] [105,104,103,102,101,0] rfl rfl fun a w F G=>?_
   try simp only [Yd] at G
   rw [show Nn [mn,mm] 1=mm from rfl] at G
   refine Za (Ya (rZ G (qR rr (qO rr qZ)) Z [73,72,20,19,17,16,15,14,13,12,10,4,2,1,0] [105,104,103,102,101,0] fun G=>(Ya (Ya ?_))))
   refine Zg G (qR rr (qR rr (qR rr (qf (Zdk .t .t) r2 qz (qf (o_eql .t .t) r2 qz qZ))))) Z [81,73,72,20,19,17,16,15,14,13,12,10,4,2,1,0] [105,104,103,102,101,0] rfl rfl fun a w F G=>?_
   rw [hmm] at G
   refine Za (Zc G rfl (fun hc7=>?_) (fun hc7=>?_))
   ·refine rZ G (qI qZ) Z [73,72,20,19,17,16,15,14,13,12,10,4,2,1,0] [105,104,103,102,101,0] fun G=>Ya ?_
    refine rZ G (qR rr (qR rr (qR rr (qf (oP (Zht O I m (x / 2) mm (fun l hl=>(h.inn.r hE l hl).1) (by rw [h.ol,h.il])) func209 (Args.three .t .t .t)) r3 qz (qu Yb0 r1 (qJ qZ)))))) Z [87,86,85,73,72,20,17,16,15,14,13,12,10,4,2,1,0] [105,104,103,102,101,0] fun G=>Yg ?_
    refine Zm (σ:=(Nat)×(List Int)×(List Int)) [0,1,2,4,10,12,13,14,15,16,17,20,72,73,85,86] [0,101,104] (fun s=>[(87,.pv (.int .i64 (s.1:Int)))]) (fun s=>[(102,.ob (.val v28) (ZC 3 1 Zn (Zcg O.length s.2.1))),(103,.ob (.val v30) (ZC 3 1 Zn (ZaG O.length s.2.1))),(105,RS.hp (rqH (.pointer (some ⟨qb,0,none⟩)) (2*(O.length:Int)) s.2.2))]) (fun s=>s.1≤(adjO I mm (x / 2)).length∧(Zcu (2*O.length) (Zdb (fun x=>adjO I mn x) (fun x=>adjO I mm x)) (2*least) (2*node) s.2.1 s.2.2 x (((adjO I mn (x / 2)).map fun u=>2*u+x % 2)++((adjO I mm (x / 2)).take s.1).map fun u=>2*u+1)∧2*negC s.2.1+s.2.2.length≤2*negC d+q.length)) (fun s=>(adjO I mm (x / 2)).length - s.1) ((0),(d1),(q1)) G ⟨rfl,rfl,rfl,rfl,rfl,rfl,rfl,rfl,rfl,rfl,rfl,rfl,rfl,rfl,rfl,rfl,rfl,tv⟩ ⟨rfl,rfl,rfl,rfl,rfl,rfl,tv⟩ ⟨Yx _,⟨by show Zcu _ _ _ _ _ _ _ (_ ++ []);rw [YM];exact hM1,hmu1⟩⟩ ?_
    clear G;intro s a w F hC G
    obtain ⟨i,d2,q2⟩:=s
    try dsimp only at hC
    obtain ⟨F,G⟩:=G.nM [87,86,85,73,72,20,17,16,15,14,13,12,10,4,2,1,0] [105,104,103,102,101,0]
    try dsimp only at G
    obtain ⟨hi,hq⟩:=hC
    obtain ⟨hM,hmu⟩:=hq
    have hdl:=hM.1.len
    have hxr:=hM.1.here
    have hxv:=hM.val
    have hqr:=hM.1.room
    have hpx:(adjO I mm (x / 2)).length≤O.length:=hlm _
    have hel:(Zcg O.length d2).length=O.length:=Zao
    have hol:(ZaG O.length d2).length=O.length:=Zax
    refine Ya (rZ G (qL r2) Z [88,87,86,85,73,72,20,17,16,15,14,13,12,10,4,2,1,0] [105,104,103,102,101,0] fun G=>Ya ?_)
    refine Zc G rfl (fun hc8=>?_) (fun hc8=>?_)
    ·have hil:i<(adjO I mm (x / 2)).length:=by simp at hc8;omega
     have hur:0≤(Nn (adjO I mm (x / 2)) i)∧(Nn (adjO I mm (x / 2)) i)<(O.length:Int):=hpm _ _ (nth_mem hil)
     have hsr:0≤2*(Nn (adjO I mm (x / 2)) i)+1∧2*(Nn (adjO I mm (x / 2)) i)+1<(((2*O.length):Nat):Int):=by omega
     refine Yf (Za (Ya (Yg (Ya (Zg G (qy 1 Yb0 r2 (qf (oR false 1 .t) r1 qz (qO rr qZ))) Z [87,86,85,73,72,22,20,17,16,15,14,13,12,10,4,2,1,0] [105,104,103,102,101,0] rfl rfl fun a w F G=>?_)))))
     try simp only [Yd] at G
     refine Za (Ya ?_)
     by_cases hfk:x % 2=0
     ·refine Zg G (qR rr (qR rr (qf (ZbE .t .t) r2 qz (qR rr (qm rfl rfl rfl rfl (qk rfl (fun h=>ZE (sz:=1) 104 Yb7 kr .is (.w h) (by decide) (by decide) (by rfl)) r3 r1 (qw 104 rfl r2 r1 (qm rfl rfl rfl rfl (qk rfl (fun h=>o_indexAddr_row (sz:=1) 103 (.mk Yb0 kr) (.w h .is) (.w h) ow ow (by rfl)) r3 r1 (qk rfl (fun h=>ZD (ag:=false) (sz':=1) (sz:=1) 103 (.w h) (by intro x;rfl) ow kr kr kr) r2 r1 (qk rfl (fun h=>Zar (.w h) qi) r2 qz (qf (ZH .t .t) r2 qz qZ)))))))))))) Z [102,87,86,85,73,72,22,20,17,16,15,14,13,12,10,4,2,1,0] [105,104,103,102,101,0] rfl rfl fun a w F G=>?_
      try simp only [Yd] at G
      refine Za (Zc G rfl (fun hc9=>?_) (fun hc9=>?_))
      ·have hput:least≤(Nn (adjO I mm (x / 2)) i)∧fI d2 (2*(Nn (adjO I mm (x / 2)) i)+1)<0:=by rw [← ZbM hur];simpa using hc9
       obtain ⟨hP1,hP2⟩:=hM.put hsr (YX _ (Yu.2 ⟨_,nth_mem hil,rfl⟩)) ow hput.2
       have hval:IntKind.wrap .i64 (Nn (Zcg O.length d2) (x / 2).toNat+1)=fI d2 x+1:=by rw [ZeA hxa,show 2*(x / 2)+(0:Int)=x by omega];exact Zz ow
       refine Ya (ZB G (qR rr (qf (ZE (sz:=1) 104 Yb7 kr .is .t (by decide) (by decide) (by rfl)) r2 r1 (qa 104 r1 r1 (qR rr (qR rr (qf (ZE (sz:=1) 104 Yb7 kr .is (.conv .t (.int hfk)) (by decide) (by decide) (by rfl)) r2 r1 (qa 104 r1 r1 (qR rr (qf (o_indexAddr_row (sz:=1) 102 (.mk Yb0 kr) .is .t ow ow (by rfl)) r2 r1 (qf (ZD (ag:=false) (sz':=1) (sz:=1) 102 .t (by intro x;rfl) ow kr kr kr) r1 r1 (qp r1 (qf (o_indexAddr_row (sz:=1) 103 (.mk Yb0 kr) .is .t ow ow (by rfl)) r2 r1 (qf (ZW (R:=Zn) (sz:=1) (v:=_) 103 .t (by intro x;rfl) ow .t rfl one_int kr) r2 r1 qZ))))))))))))) Z [87,86,85,73,72,22,20,17,16,15,14,13,12,10,4,2,1,0] [105,104,103,102,101,0] rfl rfl fun a w F G=>?_)
       try dsimp only [List.map,Ze,xL,xM,Nat.reduceAdd,xD,xE,xT,xU,xC,xN,zCF,ldSF,Zn] at G
       try simp only [Yd] at G
       rw [hval,← Zg7 hdl hur,← Zd6 (c:=fI d2 x+1) hdl hur] at G
       refine Za (Zg G (qR rr (qR rr (qf (ZgZ .t qi (by decide)) r1 qz (qR rr (qf (ZqN .t .t) r2 qz (qf (Z0 105 (Zcd qb (2*(O.length:Int)) q2 (2*(Nn (adjO I mm (x / 2)) i)+1) ow) func207 rfl kr (Args.two .t (.conv .t (Ent.int (ZhY ⟨by omega,by omega⟩ ow))))) r2 r1 qZ)))))) Z [87,86,85,73,72,20,17,16,15,14,13,12,10,4,2,1,0] [105,104,103,102,101,0] rfl rfl fun a w F G=>Zj (Za ?_))
       refine rZ G (qp r1 (qR rr qZ)) Z [87,86,85,73,72,20,17,16,15,14,13,12,10,4,2,1,0] [105,104,103,102,101,0] fun G=>?_
       have hmu3:2*negC (d2.set (2*(Nn (adjO I mm (x / 2)) i)+1).toNat (fI d2 x+1))+(q2 ++ [2*(Nn (adjO I mm (x / 2)) i)+1]).length≤2*negC d+q.length:=by rw [Yc,Yav];omega
       replace G:=G.ent (i:=87) (s':=.pv (.int .i64 ((i+1:Nat):Int))) rfl (.int (Zd ow))
       obtain ⟨F,G⟩:=G.nM [86,85,73,72,20,17,16,15,14,13,12,10,4,2,1,0,87] [104,101,0,105,103,102]
       exact ⟨((i+1),_,(q2 ++ [2*(Nn (adjO I mm (x / 2)) i)+1])),F,⟨by omega,⟨by rw [Zs hil,YJ,← YS];exact hP1,hmu3⟩⟩,G,by omega⟩
      have hsk:2*least≤2*(Nn (adjO I mm (x / 2)) i)+1→0≤fI d2 (2*(Nn (adjO I mm (x / 2)) i)+1):=fun h9=>by have h8:=hc9;rw [ZbM hur] at h8;simp at h8;exact h8 ow
      refine Yf (Zj (Za (rZ G (qp r1 (qR rr qZ)) Z [87,86,85,73,72,20,17,16,15,14,13,12,10,4,2,1,0] [105,104,103,102,101,0] fun G=>?_)))
      replace G:=G.ent (i:=87) (s':=.pv (.int .i64 ((i+1:Nat):Int))) rfl (.int (Zd ow))
      obtain ⟨F,G⟩:=G.nM [86,85,73,72,20,17,16,15,14,13,12,10,4,2,1,0,87] [104,101,0,105,103,102]
      exact ⟨((i+1),_,_),F,⟨by omega,⟨by rw [Zs hil,YJ,← YS];exact hM.skip hsr hsk,hmu⟩⟩,G,by omega⟩
     have hh1:x % 2=1:=by omega
     refine Zg G (qR rr (qR rr (qf (ZbE .t .t) r2 qz (qR rr (qm rfl rfl rfl rfl (qk rfl (fun h=>ZE (sz:=1) 104 Yb7 kr .is (.w h) (by decide) (by decide) (by rfl)) r3 r1 (qw 104 rfl r2 r1 (qm rfl rfl rfl rfl (qk rfl (fun h=>o_indexAddr_row (sz:=1) 103 (.mk Yb0 kr) (.w h .is) (.w h) ow ow (by rfl)) r3 r1 (qk rfl (fun h=>ZD (ag:=false) (sz':=1) (sz:=1) 103 (.w h) (by intro x;rfl) ow kr kr kr) r2 r1 (qk rfl (fun h=>Zar (.w h) qi) r2 qz (qf (ZH .t .t) r2 qz qZ)))))))))))) Z [102,87,86,85,73,72,22,20,17,16,15,14,13,12,10,4,2,1,0] [105,104,103,102,101,0] rfl rfl fun a w F G=>?_
     try simp only [Yd] at G
     refine Za (Zc G rfl (fun hc10=>?_) (fun hc10=>?_))
     ·have hput:least≤(Nn (adjO I mm (x / 2)) i)∧fI d2 (2*(Nn (adjO I mm (x / 2)) i)+1)<0:=by rw [← ZbM hur];simpa using hc10
      obtain ⟨hP1,hP2⟩:=hM.put hsr (YX _ (Yu.2 ⟨_,nth_mem hil,rfl⟩)) ow hput.2
      have hval:IntKind.wrap .i64 (Nn (ZaG O.length d2) (x / 2).toNat+1)=fI d2 x+1:=by rw [ZbM hxa,show 2*(x / 2)+(1:Int)=x by omega];exact Zz ow
      refine Ya (ZB G (qR rr (qf (ZE (sz:=1) 104 Yb7 kr .is .t (by decide) (by decide) (by rfl)) r2 r1 (qa 104 r1 r1 (qR rr (qR rr (qf (ZE (sz:=1) 104 Yb7 kr .is (.conv .t (.int hh1)) (by decide) (by decide) (by rfl)) r2 r1 (qa 104 r1 r1 (qR rr (qf (o_indexAddr_row (sz:=1) 103 (.mk Yb0 kr) .is .t ow ow (by rfl)) r2 r1 (qf (ZD (ag:=false) (sz':=1) (sz:=1) 103 .t (by intro x;rfl) ow kr kr kr) r1 r1 (qp r1 (qf (o_indexAddr_row (sz:=1) 103 (.mk Yb0 kr) .is .t ow ow (by rfl)) r2 r1 (qf (ZW (R:=Zn) (sz:=1) (v:=_) 103 .t (by intro x;rfl) ow .t rfl one_int kr) r2 r1 qZ))))))))))))) Z [87,86,85,73,72,22,20,17,16,15,14,13,12,10,4,2,1,0] [105,104,103,102,101,0] rfl rfl fun a w F G=>?_)
      try dsimp only [List.map,Ze,xL,xM,Nat.reduceAdd,xD,xE,xT,xU,xC,xN,zCF,ldSF,Zn] at G
      try simp only [Yd] at G
      rw [hval,← Zg7 hdl hur,← Zd6 (c:=fI d2 x+1) hdl hur] at G
      refine Za (Zg G (qR rr (qR rr (qf (ZgZ .t qi (by decide)) r1 qz (qR rr (qf (ZqN .t .t) r2 qz (qf (Z0 105 (Zcd qb (2*(O.length:Int)) q2 (2*(Nn (adjO I mm (x / 2)) i)+1) ow) func207 rfl kr (Args.two .t (.conv .t (Ent.int (ZhY ⟨by omega,by omega⟩ ow))))) r2 r1 qZ)))))) Z [87,86,85,73,72,20,17,16,15,14,13,12,10,4,2,1,0] [105,104,103,102,101,0] rfl rfl fun a w F G=>Zj (Za ?_))
      refine rZ G (qp r1 (qR rr qZ)) Z [87,86,85,73,72,20,17,16,15,14,13,12,10,4,2,1,0] [105,104,103,102,101,0] fun G=>?_
      have hmu3:2*negC (d2.set (2*(Nn (adjO I mm (x / 2)) i)+1).toNat (fI d2 x+1))+(q2 ++ [2*(Nn (adjO I mm (x / 2)) i)+1]).length≤2*negC d+q.length:=by rw [Yc,Yav];omega
      replace G:=G.ent (i:=87) (s':=.pv (.int .i64 ((i+1:Nat):Int))) rfl (.int (Zd ow))
      obtain ⟨F,G⟩:=G.nM [86,85,73,72,20,17,16,15,14,13,12,10,4,2,1,0,87] [104,101,0,105,103,102]
      exact ⟨((i+1),_,(q2 ++ [2*(Nn (adjO I mm (x / 2)) i)+1])),F,⟨by omega,⟨by rw [Zs hil,YJ,← YS];exact hP1,hmu3⟩⟩,G,by omega⟩
     have hsk:2*least≤2*(Nn (adjO I mm (x / 2)) i)+1→0≤fI d2 (2*(Nn (adjO I mm (x / 2)) i)+1):=fun h9=>by have h8:=hc10;rw [ZbM hur] at h8;simp at h8;exact h8 ow
     refine Yf (Zj (Za (rZ G (qp r1 (qR rr qZ)) Z [87,86,85,73,72,20,17,16,15,14,13,12,10,4,2,1,0] [105,104,103,102,101,0] fun G=>?_)))
     replace G:=G.ent (i:=87) (s':=.pv (.int .i64 ((i+1:Nat):Int))) rfl (.int (Zd ow))
     obtain ⟨F,G⟩:=G.nM [86,85,73,72,20,17,16,15,14,13,12,10,4,2,1,0,87] [104,101,0,105,103,102]
     exact ⟨((i+1),_,_),F,⟨by omega,⟨by rw [Zs hil,YJ,← YS];exact hM.skip hsr hsk,hmu⟩⟩,G,by omega⟩
    have hil:i=(adjO I mm (x / 2)).length:=by simp at hc8;omega
    refine Yz (Zh (Zh (Zr (Zj (Za (rZ G (qp r1 (qR rr qZ)) Z [73,72,17,16,15,14,13,12,10,4,2,1,0] [105,104,103,102,101,0] fun G=>?_))))))
    replace G:=G.ent (i:=73) (s':=.pv (.int .i64 (((2:Nat):Nat):Int))) rfl (.int rfl)
    obtain ⟨F,G⟩:=G.nM [72,17,16,15,14,13,12,10,4,2,1,0,73] [104,101,0,105,103,102]
    exact ⟨((2),(d2),(q2)),F,⟨by omega,by rw [hil,YD] at hM;exact hM,hmu⟩,G,by omega⟩
   simp at hc7
  have hj3:j=2:=by simp at hc2;omega
  subst hj3
  have hBI2:ZdD (2*O.length) (Zdb (fun x=>adjO I mn x) (fun x=>adjO I mm x)) (2*least) (2*node) d1 q1:=Zcu.done hM1
  have hmu2:2*negC d1+q1.length<2*negC d+(x :: q).length:=by rw [Yk];omega
  refine Yz (Zh (Zh (Zr (Zj (Za (rZ G (qR rr (qf (Z0 105 (ZgT qb (2*(O.length:Int)) q1) func208 rfl kr (Args.one .t)) r1 r1 (qR rr (qf (Zi .t rfl) r1 qz (qf (Zi .t rfl) r1 qz (qO rr (qO rr qZ))))))) Z [15,14,13,12,10,4,2,1,0] [105,104,103,102,101,0] fun G=>?_))))))
  obtain ⟨F,G⟩:=G.nM [13,12,10,4,2,1,0,15,14] [104,101,0,105,103,102]
  exact ⟨((d1),(q1)),F,hBI2,G,hmu2⟩
 have hqe:q = []:=by simpa using hc1
 subst hqe
 have hfin:ZaG O.length d=ZaG O.length D:=Y0 _ ((ZoA.dist hpr hBI.1).one hD)
 refine Yz (Zh (Zh (Zr (Za (Ya (Zg G (qf (ZE (sz:=1) 104 Yb7 kr .is qi (by decide) (by decide) (by rfl)) r1 r1 (qa 104 r1 r1 (qO rr qZ))) Z [10] [105,104,103,102,101,0] rfl rfl fun a w F G=>?_))))))
 try simp only [Yd] at G
 refine Za (Yh ?_)
 obtain ⟨F,G⟩:=G.give 103 10 rfl rfl
 refine Zv hfr G rfl rfl rfl (.sl hfin)
def Ztf (u:Int) (e:Z8):Zw:=⟨u,e.node,e.kind,e.label⟩
def Z5 (O:List (List Z8)) (mask u:Int):List Zw:=if 0≤u∧u<O.length then ((Nn O u.toNat).filter fun e=>ofB mask e.kind).map (Ztf u) else []
def Zmg (x:Zw):Int:=(x.kind*1048576+x.label)*4096+x.dst
theorem Zr8 {α:Type} [Inhabited α] {κ:α→Int} {l:List α} (h:Zgn κ l):l.Pairwise fun a b=>κ a<κ b:=Yaz.2 fun a b ha hb hab=>by
 have:=h a b hab hb
 rwa [nth_eq ha,nth_eq hb] at this
theorem Zcs.outM {n:Nat} {E:List Zw} {O I:List (List Z8)} (h:Zcs n E O I) (mask u:Int) (x:Zw):x ∈ Z5 O mask u ↔ (x ∈ E∧ofB mask x.kind=true)∧x.src=u:=by
 unfold Z5
 by_cases hu:0≤u∧u<O.length
 ·have hol:=h.ol
  rw [Ye hu,Yu]
  constructor
  ·rintro ⟨e,h1,rfl⟩
   obtain ⟨h2,h3⟩:=YN.1 h1
   obtain ⟨y,y1,y2,rfl⟩:=(h.om u.toNat ow e).1 h2
   have e1:y.src=u:=by omega
   have e2:Ztf u (endO y)=y:=by subst e1;rfl
   rw [e2]
   exact ⟨⟨y1,h3⟩,e1⟩
  ·rintro ⟨⟨h1,h2⟩,rfl⟩
   exact ⟨endO x,YN.2 ⟨(h.om x.src.toNat ow _).2 ⟨x,h1,by omega,rfl⟩,h2⟩,rfl⟩
 ·rw [Yb hu]
  constructor
  ·intro k;cases k
  ·rintro ⟨⟨h1,_⟩,rfl⟩
   have:=(ZZ.1 (h.ok x h1)).1
   have:=h.ol
   exact absurd ⟨by omega,by omega⟩ hu
theorem Zcs.outP {n:Nat} {E:List Zw} {O I:List (List Z8)} (h:Zcs n E O I) (mask u:Int):(Z5 O mask u).Pairwise fun a b=>Zmg a<Zmg b:=by
 unfold Z5
 split
 ·have hol:=h.ol
  exact Ybc.2 (List.Pairwise.filter _ (Zr8 (h.on _ (nth_mem ow)).2.1))
 ·exact .nil
theorem Zcs.outR {n:Nat} {E:List Zw} {O I:List (List Z8)} (h:Zcs n E O I) (mask u:Int):∀ x ∈ Z5 O mask u,(0≤x.dst∧x.dst<(n:Int))∧1≤x.kind∧x.kind≤3:=fun x hx=>by
 have k:=ZZ.1 (h.ok x ((h.outM mask u x).1 hx).1.1)
 exact ⟨k.2.1,k.2.2.1⟩
theorem Zcs.outL {n:Nat} {E:List Zw} {O I:List (List Z8)} (h:Zcs n E O I) (mask u:Int):(Z5 O mask u).length≤E.length:=by
 unfold Z5
 split
 ·have hol:=h.ol
  rw [YC]
  exact Y6 (Y8 _ _) (h.on _ (nth_mem ow)).1
 ·exact Yx _
theorem bit1 (y:Int):bits .and .i64 y 1=0∨bits .and .i64 y 1=1:=by
 have h:(BitVec.ofInt 64 y &&& BitVec.ofInt 64 ((1:Nat):Int)).toNat≤1:=by rw [YbI,ZiX 1 ow];exact Nat.and_le_right
 have e:bits .and .i64 y 1=IntKind.wrap .i64 (((BitVec.ofInt 64 y &&& BitVec.ofInt 64 ((1:Nat):Int)).toNat:Nat):Int):=rfl
 rw [e,Zz ow]
 omega
theorem of_zero (mask kind:Int):decide (bits .and .i64 (mask.fdiv (2 ^ min (IntKind.wrap .u64 kind).toNat (IntKind.bits .i64))) 1=0) = !ofB mask kind:=by
 unfold ofB
 rcases bit1 (mask.fdiv (2 ^ min (IntKind.wrap .u64 kind).toNat (IntKind.bits .i64))) with h | h <;> rw [h] <;> decide
theorem Zn8 {α:Type} [Inhabited α] {p:α→Bool} {l:List α} {i:Nat} (hi:i=l.length) (hb:∀ q,q<i→p (Nn l q)=false):l.find? p=none:=by
 subst hi
 refine YaQ.2 fun x hx=>?_
 obtain ⟨q,hq,rfl⟩:=YaS.1 hx
 rw [← nth_eq hq,hb q hq];decide
def ZdR (A:Zw→Prop) (i:Int):Int→List Zw→Int→Prop
 | a,[],b=>a=b
 | a,x :: w,b=>A x∧x.src=a∧i≤x.dst∧ZdR A i x.dst w b
def Zcy (m:Zw→Bool) (need:Bool) (w:List Zw):Prop:=need=true → ∃ x ∈ w,m x=true
def Zse (A:Zw→Prop) (m:Zw→Bool) (i:Int) (need:Bool) (u k:Int):Prop:=
 (k = -1 ∧ ∀ w,ZdR A i u w i→¬ Zcy m need w) ∨ ∃ w,ZdR A i u w i∧Zcy m need w∧(w.length:Int)=k ∧ ∀ w',ZdR A i u w' i→Zcy m need w' → w.length≤w'.length
def CwA (A:Zw→Prop) (m:Zw→Bool) (need:Bool) (i:Int) (w:List Zw):Prop:=w≠[]∧ZdR A i i w i∧Zcy m need w
def ZpS (A:Zw→Prop) (m:Zw→Bool) (i:Int) (need:Bool) (u:Int) (n:Nat):Prop:=
 (∃ w,w≠[]∧ZdR A i u w i∧Zcy m need w∧w.length=n) ∧ ∀ w,w≠[]→ZdR A i u w i→Zcy m need w→n≤w.length
def LtA (κ:Zw→Int):List Zw→List Zw→Prop
 | x :: w,y :: v=>κ x<κ y∨(x=y∧LtA κ w v)
 | _,_=>False
def ZF (m:Zw→Bool) (any with_:List Int) (need:Bool) (x:Zw):Int:=if need && !m x then fI with_ x.dst else fI any x.dst
def Zco (f:Zw→Int) (l:List Zw) (b:Int):Prop:=0≤b∧(b=0 → ∀ a ∈ l,f a<0)∧(0<b→(∃ a ∈ l,f a=b - 1) ∧ ∀ a ∈ l,0≤f a→b - 1≤f a)
theorem Zco.nil (f:Zw→Int):Zco f [] 0:=⟨Yam _,(fun _ a h=>by cases h),fun h=>absurd h (by decide)⟩
theorem Zco.take {f:Zw→Int} {l:List Zw} {b:Int} {x:Zw} (h:Zco f l b) (h1:0≤f x) (h2:b=0∨f x+1<b):Zco f (l ++ [x]) (f x+1):=by
 obtain ⟨a1,a2,a3⟩:=h
 refine ⟨by omega,fun h=>by omega,fun _=>⟨⟨x,by simp,by omega⟩,fun a ha hf=>?_⟩⟩
 rcases Yy.1 ha with ha | ha
 ·rcases h2 with h2 | h2
  ·have:=a2 h2 a ha;omega
  ·have:=(a3 ow).2 a ha hf;omega
 ·rw [Yi.1 ha];omega
theorem Zco.skip {f:Zw→Int} {l:List Zw} {b:Int} {x:Zw} (h:Zco f l b) (h1:¬ (0≤f x∧(b=0∨f x+1<b))):Zco f (l ++ [x]) b:=by
 obtain ⟨a1,a2,a3⟩:=h
 refine ⟨a1,fun hb a ha=>?_,fun hb=>?_⟩
 ·rcases Yy.1 ha with ha | ha
  ·exact a2 hb a ha
  ·rw [Yi.1 ha];omega
 ·obtain ⟨⟨a,b1,b2⟩,b3⟩:=a3 hb
  refine ⟨⟨a,by simp [b1],b2⟩,fun a ha hf=>?_⟩
  rcases Yy.1 ha with ha | ha
  ·exact b3 a ha hf
  ·rw [Yi.1 ha] at hf ⊢;omega
section
variable {A:Zw→Prop} {m:Zw→Bool} {i:Int} {κ:Zw→Int} {any with_:List Int}
theorem Zb4 {need:Bool} {x:Zw} {w:List Zw} : Zcy m need (x :: w) ↔ Zcy m (need && !m x) w:=by
 unfold Zcy
 cases need <;> cases hx:m x <;> simp [hx]
structure Zcf (A:Zw→Prop) (m:Zw→Bool) (i:Int) (any with_:List Int):Prop where
 fa:∀ x,A x→i≤x.dst→Zse A m i false x.dst (fI any x.dst)
 fw:∀ x,A x→i≤x.dst→Zse A m i true x.dst (fI with_ x.dst)
 less:∀ x,A x→x.dst<i→fI any x.dst = -1∧fI with_ x.dst = -1
theorem Zcf.left (h:Zcf A m i any with_) {x:Zw} (hx:A x) (hi:i≤x.dst) (need:Bool):Zse A m i (need && !m x) x.dst (ZF m any with_ need x):=by
 unfold ZF
 cases hn:(need && !m x)
 ·rw [Yb (by simp)];exact h.fa x hx hi
 ·rw [Ye rfl];exact h.fw x hx hi
theorem Zcf.low (h:Zcf A m i any with_) {x:Zw} (hx:A x) (hi:x.dst<i) (need:Bool):ZF m any with_ need x = -1:=by
 unfold ZF
 split
 ·exact (h.less x hx hi).2
 ·exact (h.less x hx hi).1
theorem Zcf.way (h:Zcf A m i any with_) {x:Zw} (hx:A x) {need:Bool} (h0:0≤ZF m any with_ need x):i≤x.dst ∧ ∃ w,ZdR A i x.src (x :: w) i∧Zcy m need (x :: w)∧(w.length:Int)=ZF m any with_ need x ∧ ∀ w',ZdR A i x.dst w' i→Zcy m (need && !m x) w' → w.length≤w'.length:=by
 have hi:i≤x.dst:=Int.not_lt.1 fun k=>by rw [h.low hx k] at h0;omega
 refine ⟨hi,?_⟩
 rcases h.left hx hi need with ⟨k,_⟩ | ⟨w,w1,w2,w3,w4⟩
 ·omega
 ·exact ⟨w,⟨hx,rfl,hi,w1⟩,Zb4.2 w2,w3,w4⟩
theorem Zcf.first (h:Zcf A m i any with_) {x:Zw} {w:List Zw} {u:Int} {need:Bool} (hw:ZdR A i u (x :: w) i) (hm:Zcy m need (x :: w)):0≤ZF m any with_ need x∧ZF m any with_ need x≤w.length:=by
 obtain ⟨h1,h2,h3,h4⟩:=hw
 rcases h.left h1 h3 need with ⟨_,k⟩ | ⟨v,v1,v2,v3,v4⟩
 ·exact absurd (Zb4.1 hm) (k w h4)
 ·have:=v4 w h4 (Zb4.1 hm);omega
theorem Zcf.short (h:Zcf A m i any with_) {need:Bool} {u:Int} {l:List Zw} (hl:∀ x,x ∈ l ↔ A x∧x.src=u) {b:Int} (hb:Zco (ZF m any with_ need) l b):(b=0 → ∀ w,w≠[]→ZdR A i u w i→¬ Zcy m need w)∧(0<b→ZpS A m i need u b.toNat):=by
 obtain ⟨b0,b1,b2⟩:=hb
 constructor
 ·intro hb w hn hw hm
  cases w with
  | nil=>exact hn rfl
  | cons x w=>
   have k:=b1 hb x ((hl x).2 ⟨hw.1,hw.2.1⟩)
   have:=(h.first hw hm).1
   omega
 ·intro hb
  obtain ⟨⟨a,a1,a2⟩,a3⟩:=b2 hb
  obtain ⟨a4,a5⟩:=(hl a).1 a1
  obtain ⟨_,w,w1,w2,w3,_⟩:=h.way a4 (need:=need) ow
  refine ⟨⟨a :: w,by simp,a5 ▸ w1,w2,by rw [Yk];omega⟩,fun v hn hv hm=>?_⟩
  cases v with
  | nil=>exact absurd rfl hn
  | cons x v=>
   obtain ⟨k1,k2⟩:=h.first hv hm
   have:=a3 x ((hl x).2 ⟨hv.1,hv.2.1⟩) k1
   rw [Yk];omega
theorem Zpk {a b:Int} {w:List Zw} {x:Zw} : ZdR A i a (w ++ [x]) b ↔ ZdR A i a w x.src∧A x∧i≤x.dst∧x.dst=b:=by
 induction w generalizing a with
 | nil=>exact ⟨fun ⟨h1,h2,h3,h4⟩=>⟨h2.symm,h1,h3,h4⟩,fun ⟨h1,h2,h3,h4⟩=>⟨h2,h1.symm,h3,h4⟩⟩
 | cons y w ih=>
  rw [Yax]
  show (A y∧y.src=a∧i≤y.dst∧ZdR A i y.dst (w ++ [x]) b) ↔ (A y∧y.src=a∧i≤y.dst∧ZdR A i y.dst w x.src)∧_
  rw [ih]
  constructor
  ·rintro ⟨h1,h2,h3,h4,h5⟩;exact ⟨⟨h1,h2,h3,h4⟩,h5⟩
  ·rintro ⟨⟨h1,h2,h3,h4⟩,h5⟩;exact ⟨h1,h2,h3,h4,h5⟩
theorem ZrF {a b:Int} {w v:List Zw} : ZdR A i a (w++v) b ↔ ∃ c,ZdR A i a w c∧ZdR A i c v b:=by
 induction w generalizing a with
 | nil=>exact ⟨fun h=>⟨a,rfl,h⟩,fun ⟨c,h,k⟩=>by subst h;exact k⟩
 | cons y w ih=>
  rw [Yax]
  show (A y∧y.src=a∧i≤y.dst∧ZdR A i y.dst (w++v) b) ↔ _
  rw [ih]
  constructor
  ·rintro ⟨h1,h2,h3,c,h4,h5⟩;exact ⟨c,⟨h1,h2,h3,h4⟩,h5⟩
  ·rintro ⟨c,⟨h1,h2,h3,h4⟩,h5⟩;exact ⟨h1,h2,h3,c,h4,h5⟩
theorem Zm7 {a b c:Int} : ∀ {w:List Zw},ZdR A i a w b→ZdR A i a w c→b=c
 | [],h,k=>h.symm.trans k
 | x :: w,h,k=>Zm7 (w:=w) h.2.2.2 k.2.2.2
theorem Zrr {w v:List Zw} {x:Zw} : LtA κ w v→LtA κ (w ++ [x]) v:=by
 induction w generalizing v with
 | nil=>intro h;cases v <;> exact h.elim
 | cons y w ih=>
  intro h
  cases v with
  | nil=>exact h.elim
  | cons z v=>
   rcases h with h | ⟨h,k⟩
   ·exact .inl h
   ·exact .inr ⟨h,ih k⟩
theorem ZtO {w v:List Zw} {x y:Zw} (h:κ x<κ y):LtA κ (w ++ [x]) (w++y :: v):=by
 induction w with
 | nil=>exact .inl h
 | cons z w ih=>exact .inr ⟨rfl,ih⟩
structure Zb0 (A:Zw→Prop) (m:Zw→Bool) (κ:Zw→Int) (i:Int) (k:Nat) (need0:Bool) (way:List Zw) (here:Int) (n:Nat) (need:Bool):Prop where
 path:ZdR A i i way here
 len:way.length+n=k
 must:need=(need0 && !way.any m)
 near:0<n→ZpS A m i need here n
 zero:n=0→here=i∧need=false
 first:∀ w,CwA A m need0 i w→w.length=k→(∃ v,w=way++v)∨LtA κ way w
theorem Zp3 {need0:Bool} {way v:List Zw} : Zcy m need0 (way++v) ↔ Zcy m (need0 && !way.any m) v:=by
 induction way generalizing need0 with
 | nil=>simp
 | cons x w ih=>
  rw [Yax,Zb4,ih,YbP]
  cases need0 <;> cases m x <;> simp
theorem Zb0.start {k:Nat} {need:Bool} (hk:0<k) (h:ZpS A m i need i k):Zb0 A m κ i k need [] i k need:=
 ⟨rfl,by simp,by simp,fun _=>h,fun h=>by omega,fun w _ _=>.inl ⟨w,rfl⟩⟩
theorem Zb0.next {k n:Nat} {need0 need:Bool} {way:List Zw} {x:Zw} (hL:Zcf A m i any with_) (h:Zb0 A m κ i k need0 way x.src (n+1) need) (hx:A x) (hf:ZF m any with_ need x=n)
  (hmin:∀ y,A y→y.src=x.src→ZF m any with_ need y=n→y=x∨κ x<κ y):Zb0 A m κ i k need0 (way ++ [x]) x.dst n (need && !m x):=by
 obtain ⟨hi,w,w1,w2,w3,w4⟩:=hL.way hx (need:=need) ow
 refine ⟨Zpk.2 ⟨h.path,hx,hi,rfl⟩,by rw [Yc,Yav];have:=h.len;omega,?_,fun hn=>⟨⟨w,fun e=>by subst e;simp at w3;omega,w1.2.2.2,Zb4.1 w2,by omega⟩,fun v _ hv hm=>by have:=w4 v hv hm;omega⟩,fun hn=>?_,fun v hv hvl=>?_⟩
 ·rw [h.must,List.any_append];cases need0 <;> simp
 ·have e:w = []:=YR ow
  subst e
  refine ⟨w1.2.2.2,?_⟩
  have:=Zb4.1 w2
  cases hn2:(need && !m x)
  ·rfl
  ·obtain ⟨y,hy,_⟩:=this hn2;cases hy
 ·rcases h.first v hv hvl with ⟨u,e⟩ | e
  ·subst e
   cases u with
   | nil=>rw [YM] at hvl;have:=h.len;omega
   | cons y u=>
    obtain ⟨c,c1,c2⟩:=ZrF.1 hv.2.1
    have ec:c=x.src:=Zm7 c1 h.path
    subst ec
    have hm:Zcy m need (y :: u):=by rw [h.must];exact Zp3.1 hv.2.2
    obtain ⟨f1,f2⟩:=hL.first c2 hm
    have hlen:u.length=n:=by
     have:=h.len
     rw [Yc,Yk] at hvl;omega
    have hge:=(h.near ow).2
    obtain ⟨_,z,z1,z2,z3,_⟩:=hL.way c2.1 (need:=need) f1
    have:=hge (y :: z) (by simp) (c2.2.1 ▸ z1) z2
    rw [Yk] at this
    rcases hmin y c2.1 c2.2.1 ow with e | e
    ·subst e;exact .inl ⟨u,by rw [YS];rfl⟩
    ·exact .inr (ZtO e)
  ·exact .inr (Zrr e)
theorem Zb0.some {k n:Nat} {need0 need:Bool} {way:List Zw} {here:Int} (hL:Zcf A m i any with_) (h:Zb0 A m κ i k need0 way here (n+1) need):∃ x,A x∧x.src=here∧i≤x.dst∧ZF m any with_ need x=n:=by
 obtain ⟨⟨w,hn,hw,hm,hl⟩,hmin⟩:=h.near ow
 cases w with
 | nil=>exact absurd rfl hn
 | cons x w=>
  obtain ⟨f1,f2⟩:=hL.first hw hm
  obtain ⟨hi,z,z1,z2,z3,_⟩:=hL.way hw.1 (need:=need) f1
  have:=hmin (x :: z) (by simp) (hw.2.1 ▸ z1) z2
  rw [Yk] at this hl
  exact ⟨x,hw.1,hw.2.1,hi,by omega⟩
theorem Zb0.done {k:Nat} {need0 need:Bool} {way:List Zw} {here:Int} (hk:0<k) (h:Zb0 A m κ i k need0 way here 0 need):CwA A m need0 i way∧way.length=k ∧ ∀ w,CwA A m need0 i w→w.length=k→w=way∨LtA κ way w:=by
 obtain ⟨z1,z2⟩:=h.zero rfl
 have hl:way.length=k:=by have:=h.len;omega
 subst z1
 refine ⟨⟨fun e=>by subst e;simp at hl;omega,h.path,?_⟩,hl,fun w hw hwl=>?_⟩
 ·have:=h.must
  rw [z2] at this
  intro hn
  subst hn
  simp at this
  obtain ⟨x,h1,h2⟩:=this
  exact ⟨x,h1,h2⟩
 ·rcases h.first w hw hwl with ⟨v,e⟩ | e
  ·left
   rw [e,Yc] at hwl
   have:v = []:=YR ow
   rw [e,this,YM]
  ·exact .inr e
def Zdo (A:Zw→Prop) (m:Zw→Bool) (κ:Zw→Int) (need:Bool) (n:Int) (way:List Zw):Prop:=
 (way = [] → ∀ j w,j<n→¬ CwA A m need j w)∧(way≠[] → ∃ j,j<n∧CwA A m need j way ∧ ∀ j' w,j' < n→CwA A m need j' w→way.length<w.length∨(way.length=w.length∧(j<j' ∨ (j=j' ∧ (w=way∨LtA κ way w)))))
end
def ZS (f:Zw→Int) (l:List Zw):Int:=l.foldl (fun b x=>if 0≤f x∧(b=0∨f x+1<b) then f x+1 else b) 0
theorem Zde {f:Zw→Int} {l:List Zw} {x:Zw} : ZS f (l ++ [x])=if 0≤f x∧(ZS f l=0∨f x+1<ZS f l) then f x+1 else ZS f l:=by
 unfold ZS
 rw [Ybp];rfl
theorem Zh0 (f:Zw→Int) (l:List Zw):Zco f l (ZS f l):=by
 suffices ∀ r:List Zw,Zco f r.reverse (ZS f r.reverse) by have:=this l.reverse;rwa [List.reverse_reverse] at this
 intro r
 induction r with
 | nil=>exact Zco.nil f
 | cons x r ih=>
  rw [List.reverse_cons,Zde]
  split
  ·rename_i h;exact ih.take h.1 h.2
  ·rename_i h;exact ih.skip h
theorem ZiI {f:Zw→Int} {l:List Zw} {N:Int} (hN:0≤N) (h:∀ x ∈ l,f x+1≤N):0≤ZS f l∧ZS f l≤N:=by
 obtain ⟨h1,h2,h3⟩:=Zh0 f l
 refine ⟨h1,?_⟩
 by_cases h0:ZS f l=0
 ·omega
 ·obtain ⟨a,a1,a2⟩:=(h3 ow).1
  have:=h a a1;omega
def Za7 (out:Int→List Zw) (f:Bool→Zw→Int) (m:Zw→Bool) (i:Int):Nat→Int→Bool→List Zw
 | 0,_,_=>[]
 | n+1,here,need=>match (out here).find? fun x=>decide (i≤x.dst) && decide (f need x=n) with
  | none=>[]
  | some x=>x :: Za7 out f m i n x.dst (need && !m x)
theorem ZlU {α:Type} [Inhabited α] {p:α→Bool} {l:List α} {i:Nat} (hi:i<l.length) (hp:p (Nn l i)=true) (hb:∀ q,q<i→p (Nn l q)=false):l.find? p=some (Nn l i):=by
 induction l generalizing i with
 | nil=>simp at hi
 | cons y l ih=>
  cases i with
  | zero=>
   rw [nth_eq (by simp)] at hp ⊢
   exact List.find?_cons_of_pos hp
  | succ i=>
   have h0:=hb 0 ow
   rw [nth_eq (by simp)] at h0
   have hs:∀ q,q<l.length→Nn (y :: l) (q+1)=Nn l q:=fun q hq=>by rw [nth_eq (by simpa using hq),nth_eq hq];rfl
   have hi':i<l.length:=by simpa using hi
   rw [hs i hi'] at hp ⊢
   rw [List.find?_cons_of_neg (by simpa using h0)]
   exact ih hi' hp fun q hq=>by have:=hb (q+1) ow;rwa [hs q ow] at this
section
variable {A:Zw→Prop} {m:Zw→Bool} {i:Int} {κ:Zw→Int} {any with_:List Int}
theorem Zgu {out:Int→List Zw} (ho:∀ u x,x ∈ out u ↔ A x∧x.src=u) (hs:∀ u,(out u).Pairwise fun a b=>κ a<κ b) (hL:Zcf A m i any with_) {k n:Nat} {need0 need:Bool} {way:List Zw} {here:Int} (h:Zb0 A m κ i k need0 way here (n+1) need) :
  ∃ x,(out here).find? (fun x=>decide (i≤x.dst) && decide (ZF m any with_ need x=n))=some x∧x.src=here∧Zb0 A m κ i k need0 (way ++ [x]) x.dst n (need && !m x):=by
 obtain ⟨y,y1,y2,y3,y4⟩:=h.some hL
 have hy:y ∈ out here:=(ho _ _).2 ⟨y1,y2⟩
 cases hf:(out here).find? (fun x=>decide (i≤x.dst) && decide (ZF m any with_ need x=n)) with
 | none=>have:=YaQ.1 hf y hy;simp [y3,y4] at this
 | some x=>
  have hx:=List.find?_some hf
  have hm:=List.mem_of_find?_eq_some hf
  simp at hx
  obtain ⟨x1,x2⟩:=(ho _ _).1 hm
  subst x2
  refine ⟨x,rfl,rfl,h.next hL x1 hx.2 fun z z1 z2 z3=>?_⟩
  have hz:z ∈ out x.src:=(ho _ _).2 ⟨z1,z2⟩
  have hzi:i≤z.dst:=Int.not_lt.1 fun k=>by rw [hL.low z1 k] at z3;omega
  obtain ⟨l1,l2,hl,hn⟩:=List.find?_eq_some_iff_append.1 hf |>.2
  rw [hl] at hz
  rcases Yy.1 hz with hz | hz
  ·have:=hn z hz;simp [hzi,z3] at this
  ·rcases Yl.1 hz with hz | hz
   ·exact .inl hz
   ·have hp:=hs x.src
    rw [hl] at hp
    exact .inr ((Yr.1 (YaT.1 hp).2.1).1 z hz)
theorem ZiV {out:Int→List Zw} (ho:∀ u x,x ∈ out u ↔ A x∧x.src=u) (hs:∀ u,(out u).Pairwise fun a b=>κ a<κ b) (hL:Zcf A m i any with_) {k:Nat} {need0:Bool} : ∀ {n:Nat} {need:Bool} {way:List Zw} {here:Int},Zb0 A m κ i k need0 way here n need →
  ∃ here' need',Zb0 A m κ i k need0 (way++Za7 out (ZF m any with_) m i n here need) here' 0 need'
 | 0,need,way,here,h=>⟨here,need,by rw [Za7,YM];exact h⟩
 | n+1,need,way,here,h=>by
  obtain ⟨x,hx,_,hw⟩:=Zgu ho hs hL h
  obtain ⟨a,b,hr⟩:=ZiV ho hs hL hw
  refine ⟨a,b,?_⟩
  rw [Za7,hx]
  rwa [YS] at hr
theorem Zpz {out:Int→List Zw} (ho:∀ u x,x ∈ out u ↔ A x∧x.src=u) (hs:∀ u,(out u).Pairwise fun a b=>κ a<κ b) (hL:Zcf A m i any with_) {k:Nat} {need:Bool} (hk:0<k) (h:ZpS A m i need i k) :
  CwA A m need i (Za7 out (ZF m any with_) m i k i need)∧(Za7 out (ZF m any with_) m i k i need).length=k ∧ ∀ w,CwA A m need i w→w.length=k→w=Za7 out (ZF m any with_) m i k i need∨LtA κ (Za7 out (ZF m any with_) m i k i need) w:=by
 obtain ⟨a,b,hr⟩:=ZiV ho hs hL (Zb0.start (κ:=κ) hk h)
 exact Zb0.done hk hr
end
theorem ZnH {n:Nat} {prev:Int→List Int} {least t:Int} (hp:∀ x,∀ u ∈ prev x,0≤u∧u<(n:Int)) (ht:0≤t∧t<(n:Int)) {k:Nat} {u:Int} (h:ZeC prev least t k u) :
  (∀ j,ZeC prev least t j u→k≤j) → ∃ l:List Int,l.length=k+1∧l.Nodup ∧ ∀ y ∈ l,(0≤y∧y<(n:Int)) ∧ ∃ j,j≤k∧ZeC prev least t j y ∧ ∀ j',ZeC prev least t j' y→j≤j':=by
 induction h with
 | zero=>intro hm;exact ⟨[t],rfl,by simp,fun y hy=>by rw [Yi.1 hy];exact ⟨ht,0,YO _,.zero,fun _ _=>Yx _⟩⟩
 | @step k u x h1 hl r ih=>
  intro hm
  obtain ⟨l,l1,l2,l3⟩:=ih fun j hj=>by have:=hm (j+1) (.step h1 hl hj);omega
  refine ⟨u :: l,by rw [Yk,l1],YaP.2 ⟨fun hu=>?_,l2⟩,fun y hy=>?_⟩
  ·obtain ⟨_,j,j1,j2,_⟩:=l3 u hu
   have:=hm j j2;omega
  ·rcases Yl.1 hy with rfl | hy
   ·exact ⟨hp _ _ h1,k+1,YO _,.step h1 hl r,hm⟩
   ·obtain ⟨a,j,j1,j2⟩:=l3 y hy
    exact ⟨a,j,by omega,j2⟩
theorem Zc3.le {n:Nat} {prev:Int→List Int} {least t:Int} {D:List Int} (h:Zc3 n prev least t D) (hp:∀ x,∀ u ∈ prev x,0≤u∧u<(n:Int)) (ht:0≤t∧t<(n:Int)):∀ z ∈ D,-1≤z∧z<(n:Int):=fun z hz=>by
 obtain ⟨u,hu,rfl⟩:=YaS.1 hz
 rw [← nth_eq hu]
 rcases h.2 u (by have:=h.1;omega) with ⟨h1,_⟩ | ⟨k,h1,h2,h3⟩
 ·omega
 ·obtain ⟨l,l1,l2,l3⟩:=ZnH hp ht h2 h3
  have:=ZjF l2 fun y hy=>(l3 y hy).1
  omega
theorem Zny (O I:List (List Z8)) (m:Nat) (u mask:Int) (hO:∀ l ∈ O,l.length≤1000000):FnP prog 171 [ZhD O I m,.int .i64 u,.int .i64 mask] (.sl ZaI (Z5 O mask u)):=by
 refine FnP.mk func171 rfl ntmps171 rfl fun B a w F Z hfr G=>Ya ?_
 refine rZ G (qC qZ) Z [6,2,1,0] [0] fun G=>Ya ?_
 refine rZ G (qC qZ) Z [7,6,2,1,0] [0] fun G=>(Ya (Ya ?_))
 refine rZ G (qR rr (qR rr (qf (oP (ZeH O I m u) func194 (Args.two .t .t)) r2 qz (qf (o_not .t) r1 qz qZ)))) Z [13,7,6,2,1,0] [0] fun G=>?_
 refine Zc G rfl (fun hc0=>?_) (fun hc0=>?_)
 ·have hg:[] = Z5 O mask u:=by unfold Z5;rw [Yb (by have h9:=hc0;simp at h9;omega)]
  refine Ya (rZ G (qR rr (qO rr qZ)) Z [7,6,2,1,0] [0] fun G=>(Yh (Zl ?_)))
  refine Zv hfr G rfl rfl rfl (.trans .nilSl (.sl hg))
 have hth:0≤u∧u<O.length:=by simpa using hc0
 have hNl:=hO _ (nth_mem (q:=O) (k:=u.toNat) ow)
 refine Yf (Za (Ya (Ya (Zg G (qR rr (qf (ZT .t) r1 qz (qf (oG 0 .t) r1 qz (qf (oR false 1 .t) r1 qz (qR rr (qf (o_indexAddr_sl (sz:=1) (.mk Yca kr) (by intro x;rfl) .t .t (by exact hth.1) (by exact hth.2)) r2 qz (qf (oR false 1 .t) r1 qz (qu Yb4 r1 (qJ qZ))))))))) Z [23,22,21,7,6,2,1] [0] rfl rfl fun a w F G=>?_))))
 try simp only [Yd] at G
 refine Za (Yg ?_)
 replace G:=G.fresh 50 rfl
 replace G:=G.turn 50 rfl (Zas (T:=165) (sz:=4) (R:=ZaI))
 refine Zm (σ:=(Nat)×(Value)×(List Zw)) [1,2,6,21,22] [0] (fun s=>[(23,.pv (.int .i64 (s.1:Int))),(7,.pv (.is s.2.1))]) (fun s=>[(50,.ob (.val s.2.1) (ZC 165 4 ZaI s.2.2))]) (fun s=>s.1≤(Nn O u.toNat).length∧(s.2.2=(((Nn O u.toNat).take s.1).filter fun e=>ofB mask e.kind).map (Ztf u))) (fun s=>(Nn O u.toNat).length - s.1) ((0),(.slice none 0 0),([])) G ⟨rfl,rfl,rfl,rfl,rfl,rfl,rfl,tv⟩ ⟨rfl,rfl,tv⟩ ⟨Yx _,rfl⟩ ?_
 clear G;intro s a w F hC G
 obtain ⟨i,v,out⟩:=s
 try dsimp only at hC
 obtain ⟨F,G⟩:=G.nM [23,22,21,7,6,2,1] [50,0]
 try dsimp only at G
 obtain ⟨hi,hq⟩:=hC
 have hol:out.length≤i:=by rw [hq,YC];exact Y6 (Y8 _ _) (by rw [Yj];omega)
 refine Ya (rZ G (qL r2) Z [24,23,22,21,7,6,2,1] [50,0] fun G=>Ya ?_)
 refine Zc G rfl (fun hc1=>?_) (fun hc1=>?_)
 ·have hil:i<(Nn O u.toNat).length:=by simp at hc1;omega
  refine Yf (Za (Ya (Yg (Ya (Zb G (qy 3 Yb4 r2 (qf (oR true 3 .t) r1 qz (qf (oH [.int .i64 0,.int .i64 0,.int .i64 0] 101) trivial qz (qS 3 101 r2 r1 qZ)))) Z [23,22,21,9,7,6,2,1] [101,50,0] (fun _=>rfl) (fun _=>rfl) fun τ a w F G=>?_)))))
  try dsimp only [RS.sub,SF.sub,CF.sub,csub,Anc.sub,List.map,Ze,xL,xM,Nat.reduceAdd,xD,xE,xT,xU,xC,xN,zCF,ldSF,Zal,Zan,Zn,ZaI] at G
  generalize τ 9=v9 at G
  try simp only [Yd] at G
  refine Za (Ya (rZ G (qR rr (qg 0 101 r1 r1 (qa 101 r1 r1 (qf (oP (Zq4 mask (Nn (Nn O u.toNat) i).kind) func210 (Args.two .t .t)) r2 qz qZ)))) Z [30,23,22,21,9,7,6,2,1] [101,50,0] fun G=>?_))
  refine Zc G rfl (fun hc2=>?_) (fun hc2=>?_)
  ·have hBq:ofB mask (Nn (Nn O u.toNat) i).kind=true:=by simpa using hc2
   refine Zb G (qR rr (qR rr (qg 2 101 r1 r1 (qa 101 r1 r1 (qg 0 101 r1 r1 (qa 101 r1 r1 (qg 1 101 r1 r1 (qa 101 r1 r1 (qf (oB [(0,.tmp 32),(1,.tmp 34),(2,.tmp 36),(3,.tmp 38)] [.int .i64 0,.int .i64 0,.int .i64 0,.int .i64 0] [(0,1),(1,1),(2,1),(3,1)] (.one rfl .t one_int kr (.one rfl .t one_int kr (.one rfl .t one_int kr (.one rfl .t one_int kr .nil))))) r4 qz (qf (o_buildSliceE (sz:=4) (zs:=[.int .i64 0,.int .i64 0,.int .i64 0,.int .i64 0]) (r:=[(0,.tmp 39)]) (l:=[_,_,_,_]) Yb6 kr kr kr kr rfl rfl (.agg rfl .t kr kr .nil) rfl) r1 qz (qf (o_append (sz:=4) (bs:=32) 50 (.mk' Yb6 kr kr) (by intro x;rfl) .is (.arr (l':=[(⟨u,(Nn (Nn O u.toNat) i).node,(Nn (Nn O u.toNat) i).kind,(Nn (Nn O u.toNat) i).label⟩:Zw)]) .t) (by simp only [Yc,Yk,Yv,Yj,YL];omega) (by decide)) ⟨rfl,rfl,tv⟩ ⟨rfl,tv⟩ (qO rr qZ)))))))))))) Z [23,22,21,7,6,2,1] [101,50,0] (fun _=>rfl) (fun _=>rfl) fun τ a w F G=>?_
   try dsimp only [RS.sub,SF.sub,CF.sub,csub,Anc.sub,List.map,Ze,xL,xM,Nat.reduceAdd,xD,xE,xT,xU,xC,xN,zCF,ldSF,Zal,Zan,Zn,ZaI] at G
   generalize τ 41=v41 at G
   refine Zj (Za (rZ G (qp r1 (qR rr qZ)) Z [23,22,21,7,6,2,1] [101,50,0] fun G=>?_))
   replace G:=G.ent (i:=23) (s':=.pv (.int .i64 ((i+1:Nat):Int))) rfl (.int (Zd ow))
   obtain ⟨F,G⟩:=G.nM [22,21,6,2,1,7,23] [0,50]
   exact ⟨((i+1),_,_),F,⟨by omega,(by rw [Zs hil,Yae,YJ,← hq];simp [hBq,Ztf])⟩,G,by omega⟩
  have hBq:ofB mask (Nn (Nn O u.toNat) i).kind=false:=by simpa using hc2
  refine Yf (Zj (Za (rZ G (qp r1 (qR rr qZ)) Z [23,22,21,7,6,2,1] [101,50,0] fun G=>?_)))
  replace G:=G.ent (i:=23) (s':=.pv (.int .i64 ((i+1:Nat):Int))) rfl (.int (Zd ow))
  obtain ⟨F,G⟩:=G.nM [22,21,6,2,1,7,23] [0,50]
  exact ⟨((i+1),_,_),F,⟨by omega,(by rw [Zs hil,Yae,YJ,← hq];simp [hBq,Ztf])⟩,G,by omega⟩
 have hil:i=(Nn O u.toNat).length:=by simp at hc1;omega
 have hg:out=Z5 O mask u:=by rw [hq,hil,YD];unfold Z5;rw [Ye hth]
 refine Yz (Zh (Zh (Zr (Za (Ya (rZ G (qR rr (qO rr qZ)) Z [6] [50,0] fun G=>Yh ?_))))))
 obtain ⟨F,G⟩:=G.give 50 6 rfl rfl
 refine Zv hfr G rfl rfl rfl (.sl hg)
theorem ZqZ (O I:List (List Z8)) (m:Nat) (mask must:Int) (dv ev:List Int) (x:Zw) (need:Bool) (hx:0≤x.dst∧x.dst<dv.length∧x.dst<ev.length):FnP prog 172 [.agg [ZhD O I m,.int .i64 mask,.int .i64 must,.sl Zn dv,.sl Zn ev],.agg (ZaI x),.bool need] (.int .i64 (ZF (fun y:Zw=>ofB must y.kind) dv ev need x)):=by
 refine FnP.mk func172 rfl ntmps172 rfl fun B a w F Z hfr G=>Ya ?_
 refine Zb G (qx 101 r1 (qx 102 r1 (qI qZ))) Z [6,4,3,2] [102,101,0] (fun _=>rfl) (fun _=>rfl) fun τ a w F G=>?_
 try dsimp only [RS.sub,SF.sub,CF.sub,csub,Anc.sub,List.map,zCF,Zal,Zan,Zn,ZaI] at G
 generalize τ 3=v3,τ 4=v4 at G
 refine Za (Ya (Ya (rZ G (qR rr (qR rr (qv 2 101 rfl r2 r1 (qw 101 rfl r2 r1 (qv 2 102 rfl r2 r1 (qw 102 rfl r2 r1 (qk rfl (fun h=>Zat Yb8 kr (.w h)) r2 qz (qk rfl (fun h=>Zev (.w h) (.w h)  (by rw [Zap];omega)) r3 qz (qk rfl (fun h=>Zdk (.w h) qi) r2 qz (qk rfl (fun h=>o_eql (.w h) qi) r2 qz (qf (ZH .t .t) r2 qz qZ))))))))))) Z [17,6,4,3] [102,101,0] fun G=>?_)))
 refine Zc G rfl (fun hc0=>?_) (fun hc0=>?_)
 ·have hg:Nn ev x.dst.toNat=ZF (fun y:Zw=>ofB must y.kind) dv ev need x:=by unfold ZF;rw [Ye (by rw [← of_zero];exact hc0),Zcr hx.1]
  refine Ya (Zg G (qg 4 101 r1 r1 (qa 101 r1 r1 (qg 1 102 r1 r1 (qa 102 r1 r1 (qy 1 Yb0 r2 (qf (oR false 1 .t) r1 qz (qO rr qZ))))))) Z [6,4,3] [102,101,0] rfl rfl fun a w F G=>?_)
  try simp only [Yd] at G
  refine Za (Yh (Zl (Zv hfr G rfl rfl rfl (.int hg))))
 have hg:Nn dv x.dst.toNat=ZF (fun y:Zw=>ofB must y.kind) dv ev need x:=by unfold ZF;rw [Yb (by rw [← of_zero,Bool.not_eq_true];exact hc0),Zcr hx.1]
 refine Yf (Za (Ya (Zg G (qg 3 101 r1 r1 (qa 101 r1 r1 (qg 1 102 r1 r1 (qa 102 r1 r1 (qy 1 Yb0 r2 (qf (oR false 1 .t) r1 qz (qO rr qZ))))))) Z [6] [0] rfl rfl fun a w F G=>?_)))
 try simp only [Yd] at G
 refine Za (Yh (Zv hfr G rfl rfl rfl (.int hg)))
theorem Zr0 (O I:List (List Z8)) (m:Nat) (mask must:Int) (dv ev:List Int) (node:Int) (need:Bool) (hO:∀ l ∈ O,l.length≤1000000) (hor:∀ u,∀ x ∈ Z5 O mask u,0≤x.dst∧x.dst<dv.length∧x.dst<ev.length) (hol:∀ u,(Z5 O mask u).length≤1000000) (hlv:∀ x ∈ (Z5 O mask node),-1≤ZF (fun y:Zw=>ofB must y.kind) dv ev need x∧ZF (fun y:Zw=>ofB must y.kind) dv ev need x≤90000):FnP prog 129 [.agg [ZhD O I m,.int .i64 mask,.int .i64 must,.sl Zn dv,.sl Zn ev],.int .i64 node,.bool need] (.int .i64 (ZS (ZF (fun y:Zw=>ofB must y.kind) dv ev need) (Z5 O mask node))):=by
 refine FnP.mk func129 rfl ntmps129 rfl fun B a w F Z hfr G=>?_
 have hln:=hol node
 refine Ya (Zb G (qx 101 r1 (qI qZ)) Z [6,3,2,1] [101,0] (fun _=>rfl) (fun _=>rfl) fun τ a w F G=>?_)
 try dsimp only [RS.sub,SF.sub,CF.sub,csub,Anc.sub,List.map,zCF,Zal,Zan,Zn,ZaI] at G
 generalize τ 3=v3 at G
 refine Za (Ya (rZ G (qI qZ) Z [7,6,3,2,1] [101,0] fun G=>(Ya (Ya ?_))))
 refine rZ G (qg 0 101 r1 r1 (qa 101 r1 r1 (qR rr (qg 1 101 r1 r1 (qa 101 r1 r1 (qf (oP (Zny O I m node mask hO) func171 (Args.three .t .t .t)) r3 qz (qu Yb6 r1 (qJ qZ)))))))) Z [18,17,16,7,6,3,2] [101,0] fun G=>Yg ?_
 refine Zm (σ:=(Nat)) [2,3,6,16,17] [0,101] (fun s=>[(18,.pv (.int .i64 (s:Int))),(7,.pv (.int .i64 (ZS (ZF (fun y:Zw=>ofB must y.kind) dv ev need) ((Z5 O mask node).take s))))]) (fun s=>[]) (fun s=>s≤(Z5 O mask node).length∧(True)) (fun s=>(Z5 O mask node).length - s) (0) G ⟨rfl,rfl,rfl,rfl,rfl,rfl,rfl,tv⟩ ⟨rfl,rfl,tv⟩ ⟨Yx _,tv⟩ ?_
 clear G;intro i a w F hC G
 try dsimp only at hC
 obtain ⟨F,G⟩:=G.nM [18,17,16,7,6,3,2] [101,0]
 try dsimp only at G
 obtain ⟨hi,hq⟩:=hC
 have hsl:=ZiI (f:=(ZF (fun y:Zw=>ofB must y.kind) dv ev need)) (l:=(Z5 O mask node).take i) (N:=100000) ow fun x hx=>(by have:=hlv x (Yap hx);omega)
 refine Ya (rZ G (qL r2) Z [19,18,17,16,7,6,3,2] [101,0] fun G=>Ya ?_)
 refine Zc G rfl (fun hc0=>?_) (fun hc0=>?_)
 ·have hil:i<(Z5 O mask node).length:=by simp at hc0;omega
  have hlx:=hlv (Nn (Z5 O mask node) i) (nth_mem hil)
  refine Yf (Za (Ya (Yg (Ya (Zb G (qy 4 Yb6 r2 (qf (oR true 4 .t) r1 qz (qf (oH [.int .i64 0,.int .i64 0,.int .i64 0,.int .i64 0] 102) trivial qz (qS 4 102 r2 r1 qZ)))) Z [18,17,16,9,7,6,3,2] [102,101,0] (fun _=>rfl) (fun _=>rfl) fun τ a w F G=>?_)))))
  try dsimp only [RS.sub,SF.sub,CF.sub,csub,Anc.sub,List.map,Ze,xL,xM,Nat.reduceAdd,xD,xE,xT,xU,xC,xN,zCF,ldSF,Zal,Zan,Zn,ZaI] at G
  generalize τ 9=v9 at G
  try simp only [Yd] at G
  refine Za (Ya (rZ G (qe 5 101 r1 r1 (qe 4 102 r1 r1 (qR rr (qf (oP (ZqZ O I m mask must dv ev (Nn (Z5 O mask node) i) need (hor _ _ (nth_mem hil))) func172 (Args.three (.pagg .t) (.pagg .t) .t)) r3 qz (qO rr qZ))))) Z [18,17,16,10,7,6,3,2] [101,0] fun G=>Ya ?_))
  refine Zg G (qR rr (qf (ZbE .t qi) r1 qz (qR rr (qm rfl rfl rfl rfl (qk rfl (fun h=>o_eql (.w h) qi) r2 qz (qk rfl (fun h=>oM (.w h)) r2 qz (Zy.cons (ZaD.cond2 rfl rfl (fun h=>Za0 .t (by rfl))) r2 qz (Zy.cons (ZaD.cond2 rfl rfl (fun h=>o_add (.w h) qi)) r2 qz (Zy.cons (ZaD.cond2 rfl rfl (fun h=>Za0 .t (by rfl))) r2 qz (Zy.cons (ZaD.cond2 rfl rfl (fun h=>Zar (.w h) (.w h))) r3 qz (qk rfl (fun h=>Zaa (.w h) (.wc h)) r3 qz (qf (ZH .t .t) r2 qz qZ)))))))))))) Z [37,18,17,16,10,7,6,3,2] [101,0] rfl rfl fun a w F G=>?_
  try dsimp only [Zal,Zan,Zn,ZaI] at G
  refine Za (Zc G rfl (fun hc1=>?_) (fun hc1=>?_))
  ·have hyn:(0≤ZF (fun y:Zw=>ofB must y.kind) dv ev need (Nn (Z5 O mask node) i)∧(ZS (ZF (fun y:Zw=>ofB must y.kind) dv ev need) ((Z5 O mask node).take i)=0∨ZF (fun y:Zw=>ofB must y.kind) dv ev need (Nn (Z5 O mask node) i)+1<ZS (ZF (fun y:Zw=>ofB must y.kind) dv ev need) ((Z5 O mask node).take i))):=by have hlx:=hlv (Nn (Z5 O mask node) i) (nth_mem hil);have h9:=hc1;rw [Zz ow] at h9;simpa using h9
   refine Zg G (qR rr (qp r1 (qO rr qZ))) Z [18,17,16,7,6,3,2] [101,0] rfl rfl fun a w F G=>Zj (Za ?_)
   refine rZ G (qp r1 (qR rr qZ)) Z [18,17,16,7,6,3,2] [101,0] fun G=>?_
   replace G:=G.ent (i:=18) (s':=.pv (.int .i64 ((i+1:Nat):Int))) rfl (.int (Zd ow))
   replace G:=G.ent (i:=7) (s':=.pv (.int .i64 (ZS (ZF (fun y:Zw=>ofB must y.kind) dv ev need) ((Z5 O mask node).take (i+1))))) rfl (.int (by rw [Zs hil,Zde,Ye hyn];exact Zz ow))
   obtain ⟨F,G⟩:=G.nM [17,16,6,3,2,7,18] [101,0]
   exact ⟨(i+1),F,⟨by omega,tv⟩,G,by omega⟩
  have hyn:¬ (0≤ZF (fun y:Zw=>ofB must y.kind) dv ev need (Nn (Z5 O mask node) i)∧(ZS (ZF (fun y:Zw=>ofB must y.kind) dv ev need) ((Z5 O mask node).take i)=0∨ZF (fun y:Zw=>ofB must y.kind) dv ev need (Nn (Z5 O mask node) i)+1<ZS (ZF (fun y:Zw=>ofB must y.kind) dv ev need) ((Z5 O mask node).take i))):=by have hlx:=hlv (Nn (Z5 O mask node) i) (nth_mem hil);have h9:=hc1;rw [Zz ow] at h9;simpa using h9
  refine Yf (Zj (Za (rZ G (qp r1 (qR rr qZ)) Z [18,17,16,7,6,3,2] [101,0] fun G=>?_)))
  replace G:=G.ent (i:=18) (s':=.pv (.int .i64 ((i+1:Nat):Int))) rfl (.int (Zd ow))
  replace G:=G.ent (i:=7) (s':=.pv (.int .i64 (ZS (ZF (fun y:Zw=>ofB must y.kind) dv ev need) ((Z5 O mask node).take (i+1))))) rfl (.int (by rw [Zs hil,Zde,Yb hyn]))
  obtain ⟨F,G⟩:=G.nM [17,16,6,3,2,7,18] [101,0]
  exact ⟨(i+1),F,⟨by omega,tv⟩,G,by omega⟩
 have hil:i=(Z5 O mask node).length:=by simp at hc0;omega
 refine Yz (Zh (Zh (Zr (Za (Ya (rZ G (qR rr (qO rr qZ)) Z [6] [0] fun G=>Yh ?_))))))
 refine Zv hfr G rfl rfl rfl (.int (by rw [hil,YD]))
theorem ZqT (E:List Zw) (O I:List (List Z8)) (m:Nat) (mask must:Int) (dv ev:List Int) (node:Int) (k:Nat) (need:Bool) (hk:k≤100000) (h:Zcs O.length E O I) (hL:Zcf (fun x=>x ∈ E∧ofB mask x.kind=true) (fun y:Zw=>ofB must y.kind) node dv ev) (hW0:Zb0 (fun x=>x ∈ E∧ofB mask x.kind=true) (fun y:Zw=>ofB must y.kind) Zmg node k need [] node k need) (hO:∀ l ∈ O,l.length≤1000000) (hor:∀ u,∀ x ∈ Z5 O mask u,0≤x.dst∧x.dst<dv.length∧x.dst<ev.length) (hol:∀ u,(Z5 O mask u).length≤1000000):FnP prog 130 [.agg [ZhD O I m,.int .i64 mask,.int .i64 must,.sl Zn dv,.sl Zn ev],.int .i64 node,.int .i64 (k:Int),.bool need] (.sl ZaI (Za7 (Z5 O mask) (ZF (fun y:Zw=>ofB must y.kind) dv ev) (fun y:Zw=>ofB must y.kind) node k node need)):=by
 refine FnP.mk func130 rfl ntmps130 rfl fun B a w F Z hfr G=>Ya ?_
 refine Zb G (qx 101 r1 (qC qZ)) Z [8,4,3,2,1] [101,0] (fun _=>rfl) (fun _=>rfl) fun τ a w F G=>?_
 try dsimp only [RS.sub,SF.sub,CF.sub,csub,Anc.sub,List.map,zCF,Zal,Zan,Zn,ZaI] at G
 generalize τ 4=v4 at G
 refine Za (Ya (rZ G (qC qZ) Z [9,8,4,3,2,1] [101,0] fun G=>(Ya (Ya ?_))))
 refine rZ G (qR rr (qO rr qZ)) Z [10,9,8,4,3,2,1] [101,0] fun G=>Yg ?_
 replace G:=G.fresh 50 rfl
 replace G:=G.turn 50 rfl (Zas (T:=165) (sz:=4) (R:=ZaI))
 refine Zm (σ:=Nat×Int×Bool×Value×List Zw) [1,4,8] [0,101] (fun s=>[(2,.pv (.int .i64 (s.1:Int))),(10,.pv (.int .i64 s.2.1)),(3,.pv (.bool s.2.2.1)),(9,.pv (.is s.2.2.2.1))]) (fun s=>[(50,.ob (.val s.2.2.2.1) (ZC 165 4 ZaI s.2.2.2.2))]) (fun s=>Zb0 (fun x=>x ∈ E∧ofB mask x.kind=true) (fun y:Zw=>ofB must y.kind) Zmg node k need s.2.2.2.2 s.2.1 s.1 s.2.2.1∧s.2.2.2.2++Za7 (Z5 O mask) (ZF (fun y:Zw=>ofB must y.kind) dv ev) (fun y:Zw=>ofB must y.kind) node s.1 s.2.1 s.2.2.1=Za7 (Z5 O mask) (ZF (fun y:Zw=>ofB must y.kind) dv ev) (fun y:Zw=>ofB must y.kind) node k node need) (fun s=>s.1) ((k),(node),(need),(.slice none 0 0),([])) G ⟨rfl,rfl,rfl,rfl,rfl,rfl,rfl,tv⟩ ⟨rfl,rfl,rfl,tv⟩ ⟨hW0,rfl⟩ ?_
 clear G;intro s a w F hC G
 obtain ⟨n,here,need2,v,way⟩:=s
 try dsimp only at hC
 obtain ⟨F,G⟩:=G.nM [10,9,8,4,3,2,1] [101,50,0]
 try dsimp only at G
 obtain ⟨hWI,hWF⟩:=hC
 have hwl:=hWI.len
 refine Ya (Ya (rZ G (qR rr (qf (Za3 .t qi) r1 qz qZ)) Z [15,10,9,8,4,3,2,1] [101,50,0] fun G=>?_))
 refine Zc G rfl (fun hc0=>?_) (fun hc0=>?_)
 ·obtain ⟨n1,rfl⟩:∃ n1,n=n1+1:=⟨n - 1,by have:=Yw hc0;omega⟩
  have hw1:IntKind.wrap .i64 (((n1+1:Nat):Int) - 1)=(n1:Int):=by rw [Zz ow];omega
  have hln:=hol here
  obtain ⟨x,hx1,hx2,hx3⟩:=Zgu (h.outM mask) (h.outP mask) hL hWI
  refine Yf (Za (Ya (Yg (Ya (rZ G (qg 0 101 r1 r1 (qa 101 r1 r1 (qR rr (qg 1 101 r1 r1 (qa 101 r1 r1 (qf (oP (Zny O I m here mask hO) func171 (Args.three .t .t .t)) r3 qz (qu Yb6 r1 (qJ qZ)))))))) Z [25,24,23,10,9,8,4,3,2,1] [101,50,0] fun G=>Yg ?_)))))
  refine Zm (σ:=(Nat)) [1,2,3,4,8,9,10,23,24] [0,50,101] (fun s=>[(25,.pv (.int .i64 (s:Int)))]) (fun s=>[]) (fun s=>s≤(Z5 O mask here).length∧(∀ q,q<s→(fun x:Zw=>decide (node≤x.dst) && decide (ZF (fun y:Zw=>ofB must y.kind) dv ev need2 x=(n1:Int))) (Nn (Z5 O mask here) q)=false)) (fun s=>(Z5 O mask here).length - s) (0) G ⟨rfl,rfl,rfl,rfl,rfl,rfl,rfl,rfl,rfl,rfl,tv⟩ ⟨rfl,rfl,rfl,tv⟩ ⟨Yx _,fun q hq=>absurd hq (Y3 q)⟩ ?_
  clear G;intro i a w F hC G
  try dsimp only at hC
  obtain ⟨F,G⟩:=G.nM [25,24,23,10,9,8,4,3,2,1] [101,50,0]
  try dsimp only at G
  obtain ⟨hi,hq⟩:=hC
  refine Ya (rZ G (qL r2) Z [26,25,24,23,10,9,8,4,3,2,1] [101,50,0] fun G=>Ya ?_)
  refine Zc G rfl (fun hc1=>?_) (fun hc1=>?_)
  ·have hil:i<(Z5 O mask here).length:=by simp at hc1;omega
   refine Yf (Za (Ya (Yg (Ya (Zb G (qy 4 Yb6 r2 (qf (oR true 4 .t) r1 qz (qf (oH [.int .i64 0,.int .i64 0,.int .i64 0,.int .i64 0] 102) trivial qz (qS 4 102 r2 r1 qZ)))) Z [25,24,23,12,10,9,8,4,3,2,1] [102,101,50,0] (fun _=>rfl) (fun _=>rfl) fun τ a w F G=>?_)))))
   try dsimp only [RS.sub,SF.sub,CF.sub,csub,Anc.sub,List.map,Ze,xL,xM,Nat.reduceAdd,xD,xE,xT,xU,xC,xN,zCF,ldSF,Zal,Zan,Zn,ZaI] at G
   generalize τ 12=v12 at G
   try simp only [Yd] at G
   refine Za (Ya (Ya (rZ G (qg 1 102 r1 r1 (qa 102 r1 r1 (qR rr (qf (Zar .t .t) r2 qz (qR rr (qk rfl (fun h=>oL true 5 101 .is) r2 r1 (qk rfl (fun h=>oL true 4 102 .is) r2 r1 (qm rfl rfl rfl rfl (qk rfl (fun h=>oP (ZqZ O I m mask must dv ev (Nn (Z5 O mask here) i) need2 (hor _ _ (nth_mem hil))) func172 (Args.three (.pagg (.w h)) (.pagg (.w h)) (.w h))) r4 qz (qm rfl rfl rfl rfl (qk rfl (fun h=>o_sub (.w h) qi) r2 qz (qk rfl (fun h=>o_neq (.w h) (.w h)) r3 qz (qf (Zaa .t .t) r2 qz qZ))))))))))))) Z [41,25,24,23,12,10,9,8,4,3,2,1] [102,101,50,0] fun G=>?_)))
   refine Zc G rfl (fun hc2=>?_) (fun hc2=>?_)
   ·have hpf:(fun x:Zw=>decide (node≤x.dst) && decide (ZF (fun y:Zw=>ofB must y.kind) dv ev need2 x=(n1:Int))) (Nn (Z5 O mask here) i)=false:=by have h9:=hc2;rw [hw1] at h9;simp at h9 ⊢;intro h8;rcases h9 with h9 | h9;omega;exact h9
    refine Yz (Zh (Zr (Za (rZ G (qp r1 (qR rr qZ)) Z [25,24,23,10,9,8,4,3,2,1] [102,101,50,0] fun G=>?_))))
    replace G:=G.ent (i:=25) (s':=.pv (.int .i64 ((i+1:Nat):Int))) rfl (.int (Zd ow))
    obtain ⟨F,G⟩:=G.nM [24,23,10,9,8,4,3,2,1,25] [101,50,0]
    exact ⟨(i+1),F,⟨by omega,(fun q h9=>by rcases YZ (Y5 h9) with h8 | h8;exact hq q h8;rw [h8];exact hpf)⟩,G,by omega⟩
   have hpt:(fun x:Zw=>decide (node≤x.dst) && decide (ZF (fun y:Zw=>ofB must y.kind) dv ev need2 x=(n1:Int))) (Nn (Z5 O mask here) i)=true:=by have h9:=hc2;rw [hw1] at h9;simp at h9 ⊢;exact ⟨h9.1,h9.2⟩
   have hff:=ZlU (p:=(fun x:Zw=>decide (node≤x.dst) && decide (ZF (fun y:Zw=>ofB must y.kind) dv ev need2 x=(n1:Int)))) hil hpt hq
   rw [hff] at hx1
   have hxe:=YaB hx1
   have hW2:Zb0 (fun x=>x ∈ E∧ofB mask x.kind=true) (fun y:Zw=>ofB must y.kind) Zmg node k need (way ++ [(Nn (Z5 O mask here) i)]) (Nn (Z5 O mask here) i).dst n1 (need2 && !ofB must (Nn (Z5 O mask here) i).kind):=by rw [hxe];exact hx3
   have hWF2:(way ++ [(Nn (Z5 O mask here) i)])++Za7 (Z5 O mask) (ZF (fun y:Zw=>ofB must y.kind) dv ev) (fun y:Zw=>ofB must y.kind) node n1 (Nn (Z5 O mask here) i).dst (need2 && !ofB must (Nn (Z5 O mask here) i).kind)=Za7 (Z5 O mask) (ZF (fun y:Zw=>ofB must y.kind) dv ev) (fun y:Zw=>ofB must y.kind) node k node need:=by rw [← hWF,Za7,hff,YS];rfl
   refine Yf (Za (Ya (Zb G (qR rr (qe 4 102 r1 r1 (qf (o_buildSliceE (sz:=4) (zs:=[.int .i64 0,.int .i64 0,.int .i64 0,.int .i64 0]) (r:=[(0,.tmp 43)]) (l:=[_,_,_,_]) Yb6 kr kr kr kr rfl rfl (.agg rfl .t kr kr .nil) rfl) r1 qz (qf (o_append (sz:=4) (bs:=32) 50 (.mk' Yb6 kr kr) (by intro x;rfl) .is (.arr (l':=[(Nn (Z5 O mask here) i)]) .t) (by simp only [Yc,Yk,Yv,Yj,YL];omega) (by decide)) ⟨rfl,rfl,tv⟩ ⟨rfl,tv⟩ (qO rr qZ))))) Z [25,24,23,12,10,9,8,4,3,2,1] [102,101,50,0] (fun _=>rfl) (fun _=>rfl) fun τ a w F G=>?_)))
   try dsimp only [RS.sub,SF.sub,CF.sub,csub,Anc.sub,List.map,Ze,xL,xM,Nat.reduceAdd,xD,xE,xT,xU,xC,xN,zCF,ldSF,Zal,Zan,Zn,ZaI] at G
   generalize τ 45=v45 at G
   refine Za (Ya (rZ G (qg 1 102 r1 r1 (qa 102 r1 r1 (qO rr qZ))) Z [25,24,23,12,10,9,8,4,3,2,1] [102,101,50,0] fun G=>Ya ?_))
   refine rZ G (qR rr (qR rr (qv 2 101 rfl r2 r1 (qw 101 rfl r2 r1 (qv 2 102 rfl r2 r1 (qw 102 rfl r2 r1 (qk rfl (fun h=>Zat Yb8 kr (.w h)) r2 qz (qk rfl (fun h=>Zev (.w h) (.w h)  (by rw [Zap];omega)) r3 qz (qk rfl (fun h=>Zdk (.w h) qi) r2 qz (qk rfl (fun h=>o_eql (.w h) qi) r2 qz (qf (ZH .t .t) r2 qz (qO rr qZ)))))))))))) Z [25,24,23,10,9,8,4,3,2,1] [102,101,50,0] fun G=>Yz ?_
   refine Zsk (by decide) ?_
   refine Zh (Zh (Zr (Zj (Za (rZ G (qR rr (qf (o_sub .t qi) r1 qz (qO rr qZ))) Z [10,9,8,4,3,2,1] [102,101,50,0] fun G=>?_)))))
   replace G:=G.ent (i:=2) (s':=.pv (.int .i64 (n1:Int))) rfl (.int (by rw [Zz ow];omega))
   replace G:=G.ent (i:=3) (s':=.pv (.bool (need2 && !ofB must (Nn (Z5 O mask here) i).kind))) rfl (.bool (by rw [of_zero]))
   obtain ⟨F,G⟩:=G.nM [8,4,1,9,3,10,2] [101,0,50]
   exact ⟨((n1),((Nn (Z5 O mask here) i).dst),((need2 && !ofB must (Nn (Z5 O mask here) i).kind)),_,_),F,⟨hW2,hWF2⟩,G,by omega⟩
  have hil:i=(Z5 O mask here).length:=by simp at hc1;omega
  rw [Zn8 (p:=(fun x:Zw=>decide (node≤x.dst) && decide (ZF (fun y:Zw=>ofB must y.kind) dv ev need2 x=(n1:Int)))) hil hq] at hx1;cases hx1
 have hn0:n=0:=by have:=YG hc0;omega
 subst hn0
 have hg:way=Za7 (Z5 O mask) (ZF (fun y:Zw=>ofB must y.kind) dv ev) (fun y:Zw=>ofB must y.kind) node k node need:=by rw [← hWF,Za7,YM]
 refine Yz (Zh (Zh (Zr (Za (Ya (rZ G (qR rr (qO rr qZ)) Z [8] [101,50,0] fun G=>Yh ?_))))))
 obtain ⟨F,G⟩:=G.give 50 8 rfl rfl
 refine Zv hfr G rfl rfl rfl (.sl hg)
theorem Zue (E:List Zw) (O I:List (List Z8)) (m:Nat) (mask must node mn mm:Int) (hmn:bits .andNot .i64 mask must=mn) (hmm:bits .and .i64 mask must=mm) (hne:mn≠mm) (h:Zcs O.length E O I) (hn1:1≤O.length) (hn:O.length≤4096) (hE:E.length≤1000000) (hs1:0≤node) (hs2:node<O.length) (D D2:List Int) (hD:Zc3 O.length (fun x=>adjO I mask x) node node D) (hD2:Zc3 (2*O.length) (Zdb (fun x=>adjO I mn x) (fun x=>adjO I mm x)) (2*node) (2*node) D2):FnP prog 128 [ZhD O I m,.int .i64 mask,.int .i64 must,.int .i64 node] (.agg [ZhD O I m,.int .i64 mask,.int .i64 must,.sl Zn D,.sl Zn (ZaG O.length D2)]):=by
 refine FnP.mk func128 rfl ntmps128 rfl fun B a w F Z hfr G=>Ya ?_
 refine Zb G (qf (oH [.pointer none,.int .i64 0,.int .i64 0,.slice none 0 0,.slice none 0 0] 101) trivial qz qZ) Z [8,3,2,1,0] [101,0] (fun _=>rfl) (fun _=>rfl) fun τ a w F G=>?_
 try dsimp only [RS.sub,SF.sub,CF.sub,csub,Anc.sub,List.map,zCF,Zal,Zan,Zn,ZaI] at G
 generalize τ 8=v8 at G
 refine Za (Ya (rZ G (qR rr (qR rr (qR rr (qR rr (qR rr (qR rr (qR rr (qf (oP (Zua E O I m mask node node h hn1 hn hE (Yam _) hs1 hs2 D hD) func169 (Args.four .t .t .t .t)) r4 qz (qR rr (qR rr (qR rr (qR rr (qR rr (qf (oP (ZsX E O I m mask must node node mn mm hmn hmm hne h hn1 hn hE (Yam _) hs1 hs2 D2 hD2) func170 (Args.five .t .t .t .t .t)) r5 qz (qf (oB [(0,.tmp 9),(1,.tmp 10),(2,.tmp 11),(3,.tmp 16),(4,.tmp 22)] [.pointer none,.int .i64 0,.int .i64 0,.slice none 0 0,.slice none 0 0] [(0,1),(1,1),(2,1),(3,1),(4,1)] (.one rfl .t ZjG kr (.one rfl .t one_int kr (.one rfl .t one_int kr (.one rfl .t Zm1 kr (.one rfl .t Zm1 kr .nil)))))) r5 qz (qs 5 101 r2 r1 qZ)))))))))))))))) Z [8] [101,0] fun G=>Yh ?_))
 refine Zae hfr G rfl (.cl 101 true 5 rfl rfl .nil) (.one (.aggU rfl rfl))
end Go.Proofs.YtlkpllemoepamaaGreat
