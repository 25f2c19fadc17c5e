/- Laws and walks. No condition beyond what each says. -/
import Derived.Test.YtfecljadegkmdaaGreatJ0
import Derived.Test.YtfecljadegkmdaaGreatLibE
namespace Go.Proofs.YtfecljadegkmdaaGreat
open Go Go.Gm Tryz
set_option linter.unusedVariables false
set_option linter.unusedSimpArgs false
set_option maxHeartbeats 4000000
set_option maxRecDepth 8000
def Zgw (x y:Int):Int:=if x<y then -1 else if y<x then 1 else 0
theorem ZgO {x y:Int} : Zgw x y<0 ↔ x<y:=by unfold Zgw;split <;> (try split) <;> omega
theorem ZlX {x y:Int} : Zgw x y=0 ↔ x=y:=by unfold Zgw;split <;> (try split) <;> omega
theorem ZpO {x:Int} (h:0≤x∧x≤18446744073709551615):IntKind.wrap .u64 x=x:=Zgm ⟨by simp [IntKind.min,IntKind.signed,IntKind.bits];omega,by simp [IntKind.max,IntKind.signed,IntKind.bits];omega⟩
theorem Zh9 {i j:Nat} (h:i+j≤2000000):IntKind.wrap .i64 ((IntKind.wrap .u64 (IntKind.wrap .i64 ((i:Int)+(j:Int)))).fdiv (2 ^ min (1:Int).toNat (IntKind.bits .u64)))=(((i+j) / 2:Nat):Int):=by
 rw [ZK (x:=(i:Int)+(j:Int)) ow,ZpO ow,show (2:Int) ^ min (1:Int).toNat (IntKind.bits .u64)=2 by decide,Int.fdiv_eq_ediv_of_nonneg _ XJ,ZK ow]
 omega
def Zb1 {α:Type} [Inhabited α] (κ:α→Int) (l:List α):Prop:=∀ a b,a<b→b<l.length→κ (Nn l a)<κ (Nn l b)
def lowK {α:Type} (κ:α→Int) (k:Int) (l:List α):Nat:=(l.takeWhile fun x=>decide (κ x<k)).length
def isK {α:Type} (κ:α→Int) (k:Int) (l:List α):Bool:=l.any fun x=>decide (κ x=k)
theorem Zfo {α:Type} [Inhabited α] {κ:α→Int} {k:Int} : ∀ {l:List α} {i:Nat},i≤l.length→(∀ q,q<i→κ (Nn l q)<k)→(∀ q,i≤q→q<l.length→k≤κ (Nn l q))→lowK κ k l=i
 | [],i,hi,_,_=>by simp at hi;subst hi;rfl
 | x :: l,0,_,_,h2=>by
  have:=h2 0 (YP _) XA
  rw [Zw XA] at this
  unfold lowK
  rw [Ya4 (by simpa using this)];rfl
 | x :: l,i+1,hi,h1,h2=>by
  have hx:=h1 0 ow
  rw [Zw XA] at hx
  have ih:=Zfo (κ:=κ) (k:=k) (l:=l) (i:=i) XD (fun q hq=>by
   have:=h1 (q+1) ow
   rw [Zw (by simp at hi ⊢;omega)] at this
   rw [Zw (by simp at hi;omega)];simpa using this) (fun q hq hq2=>by
   have:=h2 (q+1) ow XG
   rw [Zw XG] at this
   rw [Zw hq2];simpa using this)
  unfold lowK at ih ⊢
  rw [Ya5 XP,Yl,ih]
theorem ZlC {α:Type} [Inhabited α] {κ:α→Int} {k:Int} {l:List α} {i:Nat} (hi:i≤l.length) (hs:Zb1 κ l) (h1:∀ q,q<i→κ (Nn l q)<k) (h2:∀ q,i≤q→q<l.length→k≤κ (Nn l q)):isK κ k l=true ↔ i<l.length∧κ (Nn l i)=k:=by
 unfold isK
 rw [Yal]
 constructor
 ·rintro ⟨x,hx,hk⟩
  obtain ⟨q,hq,e⟩:=YK hx
  have hk':κ (Nn l q)=k:=by rw [Zw hq,e];simpa using hk
  have hiq:i≤q:=Nat.le_of_not_lt fun h=>by have:=h1 q h;omega
  rcases YF hiq with h | h
  ·have a1:=hs i q h hq
   have a2:=h2 i (YP _) ow
   omega
  ·subst h;exact ⟨hq,hk'⟩
 ·rintro ⟨h3,h4⟩
  exact ⟨_,ZT h3,by simpa using h4⟩
theorem ZcX {α:Type} [Inhabited α] {κ:α→Int} {l:List α} (hs:Zb1 κ l) {a b:Nat} (h:a≤b) (hb:b<l.length):κ (Nn l a)≤κ (Nn l b):=by
 rcases YF h with h | h
 ·exact Int.le_of_lt (hs a b h hb)
 ·subst h;exact Ybh _
theorem Ziz (x:Int):FnP prog 175 [.int .i64 x] (.bool false):=by
 refine FnP.mk func175 O ntmps175 O fun B a w F M hfr G=>Ya ?_
 refine rZ G qB M KO [0] fun G=>Ya ?_
 refine rZ G (qR rr (qR rr (qf (o_neq .t .t) r2 qz (qO rr qZ)))) M [2] [0] fun G=>Yh ?_
 refine Zr hfr G O O O (.bool XA)
theorem Znq (x y:Int):FnP prog 108 [.int .i64 x,.int .i64 y] (.int .i64 (Zgw x y)):=by
 refine FnP.mk func108 O ntmps108 O fun B a w F M hfr G=>Ya ?_
 refine rZ G (qI qZ) M Kr [0] fun G=>Ya ?_
 refine rZ G (qR rr (qf (oP (Ziz x) func175 (Args.one .t)) r1 qz (qO rr qZ))) M KA [0] fun G=>Ya ?_
 refine rZ G (qR rr (qf (oP (Ziz y) func175 (Args.one .t)) r1 qz (qO rr qZ))) M Kx [0] fun G=>(Ya (Ya ?_))
 refine rZ G (qR rr qZ) M [11,6,4,1,0] [0] fun G=>?_
 refine Zb G O (fun hc0=>?_) (fun hc0=>?_)
 ·simp at hc0
 refine Yc (Za (Ya (Ya (rZ G (qR rr qZ) M [13,4,1,0] [0] fun G=>?_))))
 refine Zb G O (fun hc1=>?_) (fun hc1=>?_)
 ·simp at hc1
 refine Yc (Za (Ya (Ya (rZ G (qR rr (qR rr (qL r2))) M [16,4,1,0] [0] fun G=>?_))))
 refine Zb G O (fun hc2=>?_) (fun hc2=>?_)
 ·have hg:(-1:Int)=Zgw x y:=by unfold Zgw;rw [Ye Wh]
  refine Ya (rZ G (qI qZ) M Kr [0] fun G=>(Yh (Ze ?_)))
  refine Zr hfr G O O O (.int hg)
 have h1:¬ x<y:=Wh
 refine Yc (Za (Ya (Ya (rZ G (qR rr (qR rr (qf (Za7 .t .t) r2 qz qZ))) M [19,4] [0] fun G=>?_))))
 refine Zb G O (fun hc3=>?_) (fun hc3=>?_)
 ·have hg:(1:Int)=Zgw x y:=by unfold Zgw;rw [Yb h1,Ye Wi]
  refine Ya (rZ G (qI qZ) M [4] [0] fun G=>(Yh (Ze ?_)))
  refine Zr hfr G O O O (.int hg)
 have hg:(0:Int)=Zgw x y:=by unfold Zgw;rw [Yb h1,Yb Wi]
 refine Yc (Za (Ya (rZ G (qI qZ) M [4] [0] fun G=>Yh ?_)))
 refine Zr hfr G O O O (.int hg)
theorem Zmd (x:TxD) (k:Int):FnP prog 156 [.agg (rTx x),.int .i64 k] (.int .i64 (Zgw x.id k)):=by
 refine FnP.mk func156 O ntmps156 O fun B a w F M hfr G=>Ya ?_
 refine rS G (qx 101 r1 (qI qZ)) M QS Kf fun τ G=>?_
 try dsimp only [RS.sub,SF.sub,CF.sub,csub,Anc.sub,List.map,zCF,rTx] at G
 generalize τ 2=v2 at G
 refine Za (Ya (rZ G (qg 0 101 r1 r1 (qa 101 r1 r1 (qR rr (qf (oP (Znq x.id k) func108 (Args.two .t .t)) r2 qz (qO rr qZ))))) M [4] [0] fun G=>Yh ?_))
 refine Zr hfr G O O O (.int O)
theorem Zos (x:OrdD) (k:Int):FnP prog 159 [.agg (Zv x),.int .i64 k] (.int .i64 (Zgw x.key k)):=by
 refine FnP.mk func159 O ntmps159 O fun B a w F M hfr G=>Ya ?_
 refine rS G (qx 101 r1 (qI qZ)) M QS Kf fun τ G=>?_
 try dsimp only [RS.sub,SF.sub,CF.sub,csub,Anc.sub,List.map,zCF,Zv] at G
 generalize τ 2=v2 at G
 refine Za (Ya (rZ G (qg 0 101 r1 r1 (qa 101 r1 r1 (qR rr (qf (oP (Znq x.key k) func108 (Args.two .t .t)) r2 qz (qO rr qZ))))) M [4] [0] fun G=>Yh ?_))
 refine Zr hfr G O O O (.int O)
theorem ZpT (l : List TxD) (k : Int) (hll : l.length ≤ 1000000) (hs : Zb1 TxD.id l) (f : FuncId) (fn : Func) (cps : List PV) (hf : prog.funcs[f]? = some fn) (hb : fn.body.isSome = true) (hnn : (fn.name == "runtime.NumGoroutine") = false) (hw : ∀ x : TxD, FnP prog f (.agg (rTx x) :: .int .i64 k :: cps) (.int .i64 (Zgw (TxD.id x) k))) : FnP prog 155 [.sl rTx l, .int .i64 k, .clos f cps] (.tup [.int .i64 (lowK TxD.id k l), .bool (isK TxD.id k l)]) := by
 refine FnP.mk func155 O ntmps155 O fun B a w F M hfr G=>Ya ?_
 refine rZ G (qI qB) M KK [0] fun G=>Ya ?_
 refine rZ G (qR rr (qu Ybt r1 (qO rr qZ))) M Ku [0] fun G=>Ya ?_
 refine rZ G (qR rr (qI (qO rr qZ))) M KH [0] fun G=>(Ya (Yf ?_))
 refine Zj (σ:=Nat×Nat) [0,1,2,6,7,8] [0] (fun s=>[(9,.pv (.int .i64 (s.1:Int))),(10,.pv (.int .i64 (s.2:Int)))]) (fun s=>[]) (fun s=>s.1≤s.2∧s.2≤l.length∧(∀ q,q<s.1→TxD.id (Nn l q)<k) ∧ ∀ q,s.2≤q→q<l.length→k≤TxD.id (Nn l q)) (fun s=>s.2 - s.1) ((0),(l.length)) G ⟨rfl,rfl,rfl,rfl,rfl,rfl,rfl,rfl,tv⟩ ⟨rfl,tv⟩ ⟨Yp _,YP _,fun q hq=>absurd hq (YO q),fun q h1 h2=>by omega⟩ ?_
 clear G;intro s a w F hC G
 obtain ⟨i,j⟩:=s
 have hC:=X4
 obtain ⟨F,G⟩:=G.nM KH [0]
 have G:=X2
 obtain ⟨hij,hjl,hlo,hhi⟩:=hC
 have hgs:=ZlC (i:=i) ow hs hlo
 have hgl:=Zfo (i:=i) ow hlo
 refine Ya (Ya (rZ G (qR rr (qR rr (qL r2))) M [17,10,9,8,7,6,2,1,0] [0] fun G=>?_))
 refine Zb G O (fun hc0=>?_) (fun hc0=>?_)
 ·skip
  have hlt:i<j:=XV
  refine Yc (Za (Yf (Ya (Zi G (qR rr (qR rr (qf (Zbb .t .t) r2 qz (qf (ZbY underlying219 kr .t) r1 qz (qf (ZnI .t qi XJ) r1 qz (qf (ZbY Ybx kr .t) r1 qz (qO rr qZ))))))) M Qo [0] O O fun a w F G=>?_))))
  obtain ⟨m,hm⟩:∃ m:Nat,m=(i+j) / 2:=⟨_,rfl⟩
  replace G:=G.ent (i:=11) (s':=.pv (.int .i64 (m:Int))) O (.int (by rw [hm];exact Zh9 ow))
  obtain ⟨F,G⟩:=G.nM Qo [0]
  refine Za (Ya (Zi G (qR rr (qR rr (qR rr (qy 3 Ybt r2 (qf (oR true 3 .t) r1 qz (qR rr (qf (ZJ (avs:=[.agg (rTx (Nn l m)),.int .i64 k]) .t (hw (Nn l m)) hf hb hnn (Args.two (.pagg .t) .t)) r3 qz (qf (ZcQ .t qi) r1 qz qZ)))))))) M Jk [0] O O fun a w F G=>?_))
  try simp only [Yg] at G
  refine Za (Zb G O (fun hc1=>?_) (fun hc1=>?_))
  ·skip
   have hmk:TxD.id (Nn l m)<k:=ZgO.1 Wj
   obtain ⟨i2,hi2e⟩:∃ z,z=m+1:=⟨_,rfl⟩
   obtain ⟨j2,hj2e⟩:∃ z,z=j:=⟨_,rfl⟩
   have hi2:IntKind.wrap .i64 ((m:Int)+1)=(i2:Int):=WR
   have hj2:(j:Int)=(j2:Int):=Kd
   have hmu:j2 - i2<j - i:=ow
   have hC2:i2≤j2∧j2≤l.length∧(∀ q,q<i2→TxD.id (Nn l q)<k) ∧ ∀ q,j2≤q→q<l.length→k≤TxD.id (Nn l q):=⟨ow,ow,fun q hq=>Int.lt_of_le_of_lt (ZcX hs ow ow) hmk,by rw [hj2e];exact hhi⟩
   refine Zi G (qR rr (qp r1 (qO rr qZ))) M KH [0] O O fun a w F G=>Zh (Za ?_)
   replace G:=G.ent (i:=9) (s':=.pv (.int .i64 (i2:Int))) O (.int hi2)
   replace G:=G.ent (i:=10) (s':=.pv (.int .i64 (j2:Int))) O (.int hj2)
   obtain ⟨F,G⟩:=G.nM Qz [0]
   exact ⟨((i2),(j2)),F,hC2,G,hmu⟩
  have hmk:k≤TxD.id (Nn l m):=Int.not_lt.1 fun e=>(show ¬ Zgw (TxD.id (Nn l m)) k<0 by simpa using hc1) (ZgO.2 e)
  obtain ⟨i2,hi2e⟩:∃ z,z=i:=⟨_,rfl⟩
  obtain ⟨j2,hj2e⟩:∃ z,z=m:=⟨_,rfl⟩
  have hi2:(i:Int)=(i2:Int):=Kc
  have hj2:(m:Int)=(j2:Int):=Kd
  have hmu:j2 - i2<j - i:=ow
  have hC2:i2≤j2∧j2≤l.length∧(∀ q,q<i2→TxD.id (Nn l q)<k) ∧ ∀ q,j2≤q→q<l.length→k≤TxD.id (Nn l q):=⟨ow,ow,by rw [hi2e];exact hlo,fun q h1 h2=>Yba hmk (ZcX hs ow h2)⟩
  refine Zi G (qR rr (qO rr qZ)) M KH [0] O O fun a w F G=>Zh (Za ?_)
  replace G:=G.ent (i:=9) (s':=.pv (.int .i64 (i2:Int))) O (.int hi2)
  replace G:=G.ent (i:=10) (s':=.pv (.int .i64 (j2:Int))) O (.int hj2)
  obtain ⟨F,G⟩:=G.nM Qz [0]
  exact ⟨((i2),(j2)),F,hC2,G,hmu⟩
 have hjj:i=j:=XV
 subst hjj
 have hgl2:=hgl hhi
 have hgs2:=hgs hhi
 have hb2:(decide ((i:Int)<(l.length:Int)) && decide (Zgw (TxD.id (Nn l i)) k=0))=isK TxD.id k l:=by
   rw [Y4,hgs2]
   simp [ZlX]
 refine Yt (Zg (Zg (Zp (Za (Ya (Zi G (qR rr (qR rr (qR rr (qf (ZcQ .t .t) r2 qz (qR rr (qm O O O O (qm O O O O (qm O O O O (qk O (fun h=>ZP (sz:=3) (.mk Ybt kr) XW (.w h) (.w h) ow (by have:=YV h;omega)) r3 qz (qk O (fun h=>oR true 3 (.w h)) r2 qz (qm O O O O (qk O (fun h=>ZJ (avs:=[.agg (rTx (Nn l i)),.int .i64 k]) (.w h) (hw (Nn l i)) hf hb hnn (Args.two (.pagg (.w h)) (.w h))) r4 qz (qk O (fun h=>o_eql (.w h) qi) r2 qz (qf (o_and2 .t .t) r2 qz (qO rr (qO rr qZ)))))))))))))))) M [7,6] [0] O O fun a w F G=>?_))))))
 try simp only [Yg] at G
 refine Za (Yh (ZL hfr G O (.tmp O (.tmp O .nil)) (.two (.int (by rw [hgl2])) (.bool hb2))))
theorem ZpU (l : List OrdD) (k : Int) (hll : l.length ≤ 1000000) (hs : Zb1 OrdD.key l) (f : FuncId) (fn : Func) (cps : List PV) (hf : prog.funcs[f]? = some fn) (hb : fn.body.isSome = true) (hnn : (fn.name == "runtime.NumGoroutine") = false) (hw : ∀ x : OrdD, FnP prog f (.agg (Zv x) :: .int .i64 k :: cps) (.int .i64 (Zgw (OrdD.key x) k))) : FnP prog 158 [.sl Zv l, .int .i64 k, .clos f cps] (.tup [.int .i64 (lowK OrdD.key k l), .bool (isK OrdD.key k l)]) := by
 refine FnP.mk func158 O ntmps158 O fun B a w F M hfr G=>Ya ?_
 refine rZ G (qI qB) M KK [0] fun G=>Ya ?_
 refine rZ G (qR rr (qu Ybu r1 (qO rr qZ))) M Ku [0] fun G=>Ya ?_
 refine rZ G (qR rr (qI (qO rr qZ))) M KH [0] fun G=>(Ya (Yf ?_))
 refine Zj (σ:=Nat×Nat) [0,1,2,6,7,8] [0] (fun s=>[(9,.pv (.int .i64 (s.1:Int))),(10,.pv (.int .i64 (s.2:Int)))]) (fun s=>[]) (fun s=>s.1≤s.2∧s.2≤l.length∧(∀ q,q<s.1→OrdD.key (Nn l q)<k) ∧ ∀ q,s.2≤q→q<l.length→k≤OrdD.key (Nn l q)) (fun s=>s.2 - s.1) ((0),(l.length)) G ⟨rfl,rfl,rfl,rfl,rfl,rfl,rfl,rfl,tv⟩ ⟨rfl,tv⟩ ⟨Yp _,YP _,fun q hq=>absurd hq (YO q),fun q h1 h2=>by omega⟩ ?_
 clear G;intro s a w F hC G
 obtain ⟨i,j⟩:=s
 have hC:=X4
 obtain ⟨F,G⟩:=G.nM KH [0]
 have G:=X2
 obtain ⟨hij,hjl,hlo,hhi⟩:=hC
 have hgs:=ZlC (i:=i) ow hs hlo
 have hgl:=Zfo (i:=i) ow hlo
 refine Ya (Ya (rZ G (qR rr (qR rr (qL r2))) M [17,10,9,8,7,6,2,1,0] [0] fun G=>?_))
 refine Zb G O (fun hc0=>?_) (fun hc0=>?_)
 ·skip
  have hlt:i<j:=XV
  refine Yc (Za (Yf (Ya (Zi G (qR rr (qR rr (qf (Zbb .t .t) r2 qz (qf (ZbY underlying219 kr .t) r1 qz (qf (ZnI .t qi XJ) r1 qz (qf (ZbY Ybx kr .t) r1 qz (qO rr qZ))))))) M Qo [0] O O fun a w F G=>?_))))
  obtain ⟨m,hm⟩:∃ m:Nat,m=(i+j) / 2:=⟨_,rfl⟩
  replace G:=G.ent (i:=11) (s':=.pv (.int .i64 (m:Int))) O (.int (by rw [hm];exact Zh9 ow))
  obtain ⟨F,G⟩:=G.nM Qo [0]
  refine Za (Ya (Zi G (qR rr (qR rr (qR rr (qy 2 Ybu r2 (qf (oR true 2 .t) r1 qz (qR rr (qf (ZJ (avs:=[.agg (Zv (Nn l m)),.int .i64 k]) .t (hw (Nn l m)) hf hb hnn (Args.two (.pagg .t) .t)) r3 qz (qf (ZcQ .t qi) r1 qz qZ)))))))) M Jk [0] O O fun a w F G=>?_))
  try simp only [Yg] at G
  refine Za (Zb G O (fun hc1=>?_) (fun hc1=>?_))
  ·skip
   have hmk:OrdD.key (Nn l m)<k:=ZgO.1 Wj
   obtain ⟨i2,hi2e⟩:∃ z,z=m+1:=⟨_,rfl⟩
   obtain ⟨j2,hj2e⟩:∃ z,z=j:=⟨_,rfl⟩
   have hi2:IntKind.wrap .i64 ((m:Int)+1)=(i2:Int):=WR
   have hj2:(j:Int)=(j2:Int):=Kd
   have hmu:j2 - i2<j - i:=ow
   have hC2:i2≤j2∧j2≤l.length∧(∀ q,q<i2→OrdD.key (Nn l q)<k) ∧ ∀ q,j2≤q→q<l.length→k≤OrdD.key (Nn l q):=⟨ow,ow,fun q hq=>Int.lt_of_le_of_lt (ZcX hs ow ow) hmk,by rw [hj2e];exact hhi⟩
   refine Zi G (qR rr (qp r1 (qO rr qZ))) M KH [0] O O fun a w F G=>Zh (Za ?_)
   replace G:=G.ent (i:=9) (s':=.pv (.int .i64 (i2:Int))) O (.int hi2)
   replace G:=G.ent (i:=10) (s':=.pv (.int .i64 (j2:Int))) O (.int hj2)
   obtain ⟨F,G⟩:=G.nM Qz [0]
   exact ⟨((i2),(j2)),F,hC2,G,hmu⟩
  have hmk:k≤OrdD.key (Nn l m):=Int.not_lt.1 fun e=>(show ¬ Zgw (OrdD.key (Nn l m)) k<0 by simpa using hc1) (ZgO.2 e)
  obtain ⟨i2,hi2e⟩:∃ z,z=i:=⟨_,rfl⟩
  obtain ⟨j2,hj2e⟩:∃ z,z=m:=⟨_,rfl⟩
  have hi2:(i:Int)=(i2:Int):=Kc
  have hj2:(m:Int)=(j2:Int):=Kd
  have hmu:j2 - i2<j - i:=ow
  have hC2:i2≤j2∧j2≤l.length∧(∀ q,q<i2→OrdD.key (Nn l q)<k) ∧ ∀ q,j2≤q→q<l.length→k≤OrdD.key (Nn l q):=⟨ow,ow,by rw [hi2e];exact hlo,fun q h1 h2=>Yba hmk (ZcX hs ow h2)⟩
  refine Zi G (qR rr (qO rr qZ)) M KH [0] O O fun a w F G=>Zh (Za ?_)
  replace G:=G.ent (i:=9) (s':=.pv (.int .i64 (i2:Int))) O (.int hi2)
  replace G:=G.ent (i:=10) (s':=.pv (.int .i64 (j2:Int))) O (.int hj2)
  obtain ⟨F,G⟩:=G.nM Qz [0]
  exact ⟨((i2),(j2)),F,hC2,G,hmu⟩
 have hjj:i=j:=XV
 subst hjj
 have hgl2:=hgl hhi
 have hgs2:=hgs hhi
 have hb2:(decide ((i:Int)<(l.length:Int)) && decide (Zgw (OrdD.key (Nn l i)) k=0))=isK OrdD.key k l:=by
   rw [Y4,hgs2]
   simp [ZlX]
 refine Yt (Zg (Zg (Zp (Za (Ya (Zi G (qR rr (qR rr (qR rr (qf (ZcQ .t .t) r2 qz (qR rr (qm O O O O (qm O O O O (qm O O O O (qk O (fun h=>ZP (sz:=2) (.mk Ybu kr) XW (.w h) (.w h) ow (by have:=YV h;omega)) r3 qz (qk O (fun h=>oR true 2 (.w h)) r2 qz (qm O O O O (qk O (fun h=>ZJ (avs:=[.agg (Zv (Nn l i)),.int .i64 k]) (.w h) (hw (Nn l i)) hf hb hnn (Args.two (.pagg (.w h)) (.w h))) r4 qz (qk O (fun h=>o_eql (.w h) qi) r2 qz (qf (o_and2 .t .t) r2 qz (qO rr (qO rr qZ)))))))))))))))) M [7,6] [0] O O fun a w F G=>?_))))))
 try simp only [Yg] at G
 refine Za (Yh (ZL hfr G O (.tmp O (.tmp O .nil)) (.two (.int (by rw [hgl2])) (.bool hb2))))
theorem ZnB (g:Zs) (id:Int) (hs:Zae g.txs) (hr:Zb1 TxD.id g.txs):FnP prog 96 [.agg (Zm g),.int .i64 id] (.tup [.int .i64 (lowK TxD.id id g.txs),.bool (isK TxD.id id g.txs)]):=by
 refine FnP.mk func96 O ntmps96 O fun B a w F M hfr G=>?_
 have hsl:=hs.1
 refine Ya (rS G (qx 101 r1 (qI qB)) M KU Kf fun τ G=>?_)
 have G:=X1
 generalize τ 2=v2 at G
 refine Za (Ya (rZ G (qg 0 101 r1 r1 (qa 101 r1 r1 (qR rr (qf (oP (ZpT g.txs id ow hr 156 f156 [] func156 O kr (fun x=>Zmd x id)) func155 (Args.three .t .t (.conv .f (Ent.fnClos)))) r2 qz (qf (Zn .t O) r1 qz (qf (Zn .t O) r1 qz (qO rr (qO rr qZ)))))))) M KZ Kf fun G=>Yh ?_))
 refine ZL hfr G O (.tmp O (.tmp O .nil)) (.two .refl .refl)
section
variable {α:Type} {κ:α→Int}
abbrev Zax (κ:α→Int) (l:List α):Prop:=l.Pairwise fun x y=>κ x<κ y
def ZkF (κ:α→Int) (l:List α):List α:=l.mergeSort fun x y=>decide (κ x≤κ y)
theorem ZdM (l:List α):(ZkF κ l).Perm l:=Yaz _ _
theorem ZgW:∀ {a b:List α},Zax κ a→Zax κ b→(∀ x,x ∈ a ↔ x ∈ b)→a=b
 | [],[],_,_,_=>rfl
 | [],y :: b,_,_,hm=>by have:=(hm y).2 XA;cases this
 | x :: a,[],_,_,hm=>by have:=(hm x).1 XA;cases this
 | x :: a,y :: b,ha,hb,hm=>by
  have ha':=Yx.1 ha
  have hb':=Yx.1 hb
  have e1:x=y:=by
   rcases Yo.1 ((hm x).1 XA) with e | e
   ·exact e
   ·rcases Yo.1 ((hm y).2 XA) with e2 | e2
    ·exact e2.symm
    ·have:=ha'.1 y e2;have:=hb'.1 x e;omega
  subst e1
  congr 1
  refine ZgW ha'.2 hb'.2 fun z=>⟨fun hz=>?_,fun hz=>?_⟩
  ·rcases Yo.1 ((hm z).1 (YQ _ hz)) with e | e
   ·subst e;have:=ha'.1 z hz;omega
   ·exact e
  ·rcases Yo.1 ((hm z).2 (YQ _ hz)) with e | e
   ·subst e;have:=hb'.1 z hz;omega
   ·exact e
abbrev Unl (κ:α→Int) (l:List α):Prop:=l.Pairwise fun x y=>κ x≠κ y
theorem Unl.perm {a b:List α} (h:Unl κ a) (hp:a.Perm b):Unl κ b:=(hp.pairwise_iff (fun {x y} h=>h.symm)).1 h
theorem Zax.unl {l:List α} (h:Zax κ l):Unl κ l:=h.imp fun h=>by omega
theorem Zjw {l:List α} (h:Unl κ l):Zax κ (ZkF κ l):=by
 have h1:(ZkF κ l).Pairwise fun x y=>decide (κ x≤κ y)=true:=Ybe (fun a b c h1 h2=>by simp at *;omega) (fun a b=>by simp;omega) l
 have h2:Unl κ (ZkF κ l):=h.perm (ZdM l).symm
 exact (h1.and h2).imp fun {x y} k => by have h3 : κ x ≤ κ y := by simpa using k.1
                                         have h4:=k.2
                                         omega
end
section
variable {α:Type} {κ:α→Int}
end
section
variable {α:Type} [Inhabited α] {κ:α→Int}
end
theorem PVs.lenAt {α:Type} {R:α→List PV} {l:List α} {v:Value} {w:World} {y:Ys} (h:(PV.sl R l).p v w y):l.length≤9223372036854775807:=by
 obtain ⟨_,cap,_,h1,h2,_⟩:=h
 unfold maxLen at h2
 omega
theorem Sat.lenHist {B:ZaK} {E:En} {a:Act} {w:World} {F:Fp} (h:Sat B E a w F) {i:Nat} {u:Zs} (hl:Go.Gm.look E.s i=some (SF.pv (PV.agg (Zm u)))):u.txs.length≤9223372036854775807∧u.orders.length≤9223372036854775807:=by
 obtain ⟨vs,_,hp⟩:=h.s i _ hl
 match vs,hp with
 | [x,y],hp=>exact ⟨PVs.lenAt hp.1.2,PVs.lenAt hp.2.1.2⟩
theorem ZjB (x:List OpD) (hx:x.length≤1000000):FnP prog 86 [.sl rOp x] (.sl rOp x):=by
 refine FnP.mk func86 O ntmps86 O fun B a w F M hfr G=>Ya ?_
 refine rZ G (qC qZ) M KO [0] fun G=>(Ya (Ya ?_))
 refine Zi G (qR rr (qf (Zbn Ybv .t) r1 qz qZ)) M Qe [0] O O fun a w F G=>?_
 obtain ⟨β4,hβ4,G⟩:=G.pickBool 4 rfl
 obtain ⟨F,G⟩:=G.nM Qe [0]
 refine Za (Zb G O (fun hc0=>?_) (fun hc0=>?_))
 ·refine Ya (rZ G (qC qZ) M KO [0] fun G=>(Yh (Ze ?_)))
  replace G:=G.ent (i:=2) (s':=.pv (.sl rOp x)) O (by rw [hβ4 Wk];exact .nilSl)
  refine Zr hfr G O O O .refl
 refine Yc (Za (Ya (rS G (qf (Z2 (R:=rOp) (sz:=4) 101 Ybv kr) trivial qz (qR rr (qf (o_append (sz:=4) (bs:=32) 101 (.mk' Ybv kr kr) XW .same (.sl .t) (by simp only [Yy];omega) XJ) ⟨rfl,rfl,tv⟩ ⟨rfl,tv⟩ (qO rr qZ)))) M [2] Kf fun τ G=>?_)))
 have G:=Xo
 generalize τ 7=v7 at G
 refine Za (Yh ?_)
 obtain ⟨F,G⟩:=G.give 101 2 O rfl
 refine Zr hfr G O O O .refl
theorem Ziq (x:List Int) (hx:x.length≤1000000):FnP prog 91 [.sl Zk x] (.sl Zk x):=by
 refine FnP.mk func91 O ntmps91 O fun B a w F M hfr G=>Ya ?_
 refine rZ G (qC qZ) M KO [0] fun G=>(Ya (Ya ?_))
 refine Zi G (qR rr (qf (Zbn Ybs .t) r1 qz qZ)) M Qe [0] O O fun a w F G=>?_
 obtain ⟨β4,hβ4,G⟩:=G.pickBool 4 rfl
 obtain ⟨F,G⟩:=G.nM Qe [0]
 refine Za (Zb G O (fun hc0=>?_) (fun hc0=>?_))
 ·refine Ya (rZ G (qC qZ) M KO [0] fun G=>(Yh (Ze ?_)))
  replace G:=G.ent (i:=2) (s':=.pv (.sl Zk x)) O (by rw [hβ4 Wk];exact .nilSl)
  refine Zr hfr G O O O .refl
 refine Yc (Za (Ya (rS G (qf (Z2 (R:=Zk) (sz:=1) 101 Ybs kr) trivial qz (qR rr (qf (o_append (sz:=1) (bs:=8) 101 (.mk' Ybs kr kr) XW .same (.sl .t) (by simp only [Yy];omega) XJ) ⟨rfl,rfl,tv⟩ ⟨rfl,tv⟩ (qO rr qZ)))) M [2] Kf fun τ G=>?_)))
 have G:=Xo
 generalize τ 7=v7 at G
 refine Za (Yh ?_)
 obtain ⟨F,G⟩:=G.give 101 2 O rfl
 refine Zr hfr G O O O .refl
theorem Zpo (x:List TxD) (hx:x.length≤1000000) (hx2:∀ t ∈ x,t.ops.length≤1000000):FnP prog 115 [.sl rTx x] (.sl rTx x):=by
 refine FnP.mk func115 O ntmps115 O fun B a w F M hfr G=>Ya ?_
 refine rZ G (qC qZ) M KO [0] fun G=>Ya ?_
 refine rZ G (qC qZ) M J4 [0] fun G=>(Ya (Ya ?_))
 refine rZ G (qR rr (qu Ybt r1 (qJ qZ))) M [8,7,6,3,2] [0] fun G=>Yf ?_
 replace G:=G.fresh 50 rfl
 replace G:=G.turn 50 O (ZaC (T:=36) (sz:=3) (R:=rTx))
 obtain ⟨F,G⟩:=G.nM QA Ks
 refine ZbX (σ:=(Nat×Value)) (fun s=>(⟨[(3,.pv (.is s.2)),(6,.pv (.sl rTx x)),(7,.pv (.int .i64 x.length)),(8,.pv (.int .i64 s.1))],[(0,frame B),(50,RS.ob (.val s.2) (ZC 36 3 rTx (x.take s.1)))]⟩:En)) (fun s=>s.1≤x.length) (fun s=>x.length - s.1) (0,.slice none 0 0) G (Yp _) ?_
 clear G;intro s a w F hC G
 obtain ⟨i,v⟩:=s
 have hC:=X4
 have G:=X2
 have hi:i≤x.length:=hC
 refine Ya (rZ G (qL r2) M [9,8,7,6,3] Ks fun G=>Ya ?_)
 refine Zb G O (fun hc0=>?_) (fun hc0=>?_)
 ·have hil:i<x.length:=XV
  refine Yc (Za (Ya (Yf (Ya (rS G (qy 3 Ybt r2 (qf (oR true 3 .t) r1 qz (qf (oH [.int .i64 0,.bool false,.slice none 0 0] 101) trivial qz (qS 3 101 r2 r1 qZ)))) M [8,7,6,5,3] Kp fun τ G=>?_)))))
  have G:=Xf
  generalize τ 5=v5 at G
  rw [Yg] at G
  have hcl:=hx2 _ (ZT hil)
  refine Za (Ya (rZ G (qg 2 101 r1 r1 (qa 101 r1 r1 (qf (oP (ZjB (Nn x i).ops hcl) func86 (Args.one .t)) r1 qz (qg 2 101 r1 r1 (qf (Zgv 101 .adr .t Z7 kr kr) r2 r1 qZ))))) M [8,7,6,5,3] Kp fun G=>?_))
  refine rS G (qR rr (qe 3 101 r1 r1 (qf (Zo (sz:=3) (zs:=[.int .i64 0,.bool false,.slice none 0 0]) (r:=[(0,.tmp 17)]) (l:=[_,_,_]) Ybt kr kr kr kr O O (.agg O .t kr kr .nil) O) r1 qz (qf (o_append (sz:=3) (bs:=40) 50 (.mk' Ybt kr kr) XW .is (.arr (l':=[Nn x i]) .t) (by simp only [Yl,Yy,Yj];omega) XJ) ⟨rfl,rfl,tv⟩ ⟨rfl,tv⟩ (qO rr qZ))))) M QA Ks fun τ G=>?_
  have G:=Xf
  generalize τ 19=v19 at G
  refine Zh (Za (rZ G (qp r1 (qR rr qZ)) M QA Ks fun G=>?_))
  rw [Zez hil] at G
  replace G:=G.eI 8 i
  obtain ⟨F,G⟩:=G.nM QA Ks
  exact ⟨(i+1,v19),F,by dsimp only;omega,G,by dsimp only;omega⟩
 have hil:i=x.length:=XV
 rw [show x.take i=x by rw [hil,Yz]] at G
 refine Yt (Zg (Zg (Zp (Za (Ya (rZ G (qR rr (qO rr qZ)) M [2] Ks fun G=>Yh ?_))))))
 obtain ⟨F,G⟩:=G.give 50 2 O rfl
 refine Zr hfr G O O O .refl
theorem Zix (x:List OrdD) (hx:x.length≤1000000) (hx2:∀ t ∈ x,t.txs.length≤1000000):FnP prog 116 [.sl Zv x] (.sl Zv x):=by
 refine FnP.mk func116 O ntmps116 O fun B a w F M hfr G=>Ya ?_
 refine rZ G (qC qZ) M KO [0] fun G=>Ya ?_
 refine rZ G (qC qZ) M J4 [0] fun G=>(Ya (Ya ?_))
 refine rZ G (qR rr (qu Ybu r1 (qJ qZ))) M [8,7,6,3,2] [0] fun G=>Yf ?_
 replace G:=G.fresh 50 rfl
 replace G:=G.turn 50 O (ZaC (T:=39) (sz:=2) (R:=Zv))
 obtain ⟨F,G⟩:=G.nM QA Ks
 refine ZbX (σ:=(Nat×Value)) (fun s=>(⟨[(3,.pv (.is s.2)),(6,.pv (.sl Zv x)),(7,.pv (.int .i64 x.length)),(8,.pv (.int .i64 s.1))],[(0,frame B),(50,RS.ob (.val s.2) (ZC 39 2 Zv (x.take s.1)))]⟩:En)) (fun s=>s.1≤x.length) (fun s=>x.length - s.1) (0,.slice none 0 0) G (Yp _) ?_
 clear G;intro s a w F hC G
 obtain ⟨i,v⟩:=s
 have hC:=X4
 have G:=X2
 have hi:i≤x.length:=hC
 refine Ya (rZ G (qL r2) M [9,8,7,6,3] Ks fun G=>Ya ?_)
 refine Zb G O (fun hc0=>?_) (fun hc0=>?_)
 ·have hil:i<x.length:=XV
  refine Yc (Za (Ya (Yf (Ya (rS G (qy 2 Ybu r2 (qf (oR true 2 .t) r1 qz (qf (oH [.int .i64 0,.slice none 0 0] 101) trivial qz (qS 2 101 r2 r1 qZ)))) M [8,7,6,5,3] Kp fun τ G=>?_)))))
  have G:=Xf
  generalize τ 5=v5 at G
  rw [Yg] at G
  have hcl:=hx2 _ (ZT hil)
  refine Za (rT G (qR rr (qg 0 101 r1 r1 (qa 101 r1 r1 (qg 1 101 r1 r1 (qa 101 r1 r1 (qf (oP (Ziq (Nn x i).txs hcl) func91 (Args.one .t)) r1 qz (qf (oB [(0,.tmp 14),(1,.tmp 17)] [.int .i64 0,.slice none 0 0] [(0,1),(1,1)] (.one O .t one_int kr (.one O .t Z7 kr .nil))) r2 qz (qf (Zo (sz:=2) (zs:=[.int .i64 0,.slice none 0 0]) (r:=[(0,.tmp 18)]) (l:=[_,_]) Ybu kr kr kr kr O O (.agg O .t kr kr .nil) O) r1 qz (qf (o_append (sz:=2) (bs:=32) 50 (.mk' Ybu kr kr) XW .is (.arr (l':=[Nn x i]) .t) (by simp only [Yl,Yy,Yj];omega) XJ) ⟨rfl,rfl,tv⟩ ⟨rfl,tv⟩ (qO rr qZ)))))))))) M QA Ks fun τ G=>?_)
  have G:=Xf
  generalize τ 20=v20 at G
  refine Zh (Za (rZ G (qp r1 (qR rr qZ)) M QA Ks fun G=>?_))
  rw [Zez hil] at G
  replace G:=G.eI 8 i
  obtain ⟨F,G⟩:=G.nM QA Ks
  exact ⟨(i+1,v20),F,by dsimp only;omega,G,by dsimp only;omega⟩
 have hil:i=x.length:=XV
 rw [show x.take i=x by rw [hil,Yz]] at G
 refine Yt (Zg (Zg (Zp (Za (Ya (rZ G (qR rr (qO rr qZ)) M [2] Ks fun G=>Yh ?_))))))
 obtain ⟨F,G⟩:=G.give 50 2 O rfl
 refine Zr hfr G O O O .refl
def Zpd (l:List TxD):Prop:=l.length≤1000000 ∧ ∀ t ∈ l,t.ops.length≤1000000
def Zne (l:List OrdD):Prop:=l.length≤1000000 ∧ ∀ t ∈ l,t.txs.length≤1000000
structure DOk (d:Za4):Prop where
 was:Zpd d.was
 now:Zpd d.now
 old:Zne d.old
 new:Zne d.new
theorem ZlB (d:Za4) (h:DOk d):FnP prog 75 [.agg (Zaf d)] (.agg (Zaf d)):=by
 refine FnP.mk func75 O ntmps75 O fun B a w F M hfr G=>Ya ?_
 refine rS G (qx 101 r1 (qf (oH [.slice none 0 0,.slice none 0 0,.slice none 0 0,.slice none 0 0] 102) trivial qz qZ)) M Ky Ke fun τ G=>?_
 have G:=Xc
 generalize τ 1=v1,τ 2=v2 at G
 refine Za (Ya (ZA G (qg 0 101 r1 r1 (qa 101 r1 r1 (qf (oP (Zpo d.was h.was.1 h.was.2) func115 (Args.one .t)) r1 qz (qg 1 101 r1 r1 (qa 101 r1 r1 (qf (oP (Zpo d.now h.now.1 h.now.2) func115 (Args.one .t)) r1 qz (qg 2 101 r1 r1 (qa 101 r1 r1 (qf (oP (Zix d.old h.old.1 h.old.2) func116 (Args.one .t)) r1 qz (qg 3 101 r1 r1 (qa 101 r1 r1 (qf (oP (Zix d.new h.new.1 h.new.2) func116 (Args.one .t)) r1 qz (qf (oB [(0,.tmp 5),(1,.tmp 8),(2,.tmp 11),(3,.tmp 14)] [.slice none 0 0,.slice none 0 0,.slice none 0 0,.slice none 0 0] [(0,1),(1,1),(2,1),(3,1)] (.one O .t Z7 kr (.one O .t Z7 kr (.one O .t Z7 kr (.one O .t Z7 kr .nil))))) r4 qz (qs 4 102 r2 r1 qZ)))))))))))))) M [2] Ji O O fun a w F G=>?_))
 try dsimp only [List.map,Zc,xL,xM,Nat.reduceAdd,xD,xE,xT,xU,xC,xN,zCF,ldSF] at G
 refine Za (Yh (ZL hfr G O (.cl 102 true 4 O O .nil) (.one (.aggU O O))))
section
variable {α:Type} {κ:α→Int}
def ZV (κ:α→Int) (l:List α) (n:Int):Option α:=l.find? fun x=>decide (κ x=n)
theorem ZiA [Inhabited α] {l:List α} {n:Int} {i:Nat} (hi:i<l.length) (h:κ (Nn l i)=n) (hq:∀ k,k<i→κ (Nn l k)≠n):ZV κ l n=some (Nn l i):=by
 unfold ZV
 rw [List.find?_eq_some_iff_getElem]
 refine ⟨by simpa using h,i,hi,(Zw hi).symm,fun j hj=>?_⟩
 have:=hq j hj
 rw [Zw ow] at this
 simpa using this
theorem Zf3 [Inhabited α] {l:List α} {n:Int} (hq:∀ k,k<l.length→κ (Nn l k)≠n):ZV κ l n=none:=by
 unfold ZV
 rw [Yaq]
 intro x hx
 obtain ⟨k,hk,e⟩:=YK hx
 have:=hq k hk
 rw [Zw hk,e] at this
 simpa using this
theorem ZeR {l:List α} {n:Int} {x:α} (h:ZV κ l n=some x):x ∈ l∧κ x=n:=⟨List.mem_of_find?_eq_some h,by have:=List.find?_some h;simpa using this⟩
theorem Zgc {l:List α} (h:Unl κ l) {x y:α} (hx:x ∈ l) (hy:y ∈ l) (e:κ x=κ y):x=y:=by
 obtain ⟨i,hi,rfl⟩:=YK hx
 obtain ⟨j,hj,rfl⟩:=YK hy
 have hp:=Yao.1 h
 rcases Nat.lt_trichotomy i j with h1 | h1 | h1
 ·exact absurd e (hp i j hi hj h1)
 ·subst h1;rfl
 ·exact absurd e.symm (hp j i hj hi h1)
theorem ZaQ {l:List α} (h:Unl κ l) {x:α} (hx:x ∈ l):ZV κ l (κ x)=some x:=by
 cases e:ZV κ l (κ x) with
 | none=>
  unfold ZV at e
  rw [Yaq] at e
  exact absurd XA (e x hx)
 | some y=>rw [Zgc h (ZeR e).1 hx (ZeR e).2]
theorem Zel {l:List α} {n:Int} : (ZV κ l n).isSome=true ↔ ∃ x ∈ l,κ x=n:=by
 unfold ZV
 rw [List.find?_isSome]
 simp
theorem ZcA {l:List α} {n:Int} : (ZV κ l n).isNone=true ↔ ∀ x ∈ l,κ x≠n:=by
 unfold ZV
 rw [Option.isNone_iff_eq_none,Yaq]
 simp
def Zkc (κ:α→Int) (l was now:List α):List α:=ZkF κ ((l.filter fun x=>(ZV κ was (κ x)).isNone)++now)
theorem ZmL {l was now:List α} {x:α} : x ∈ Zkc κ l was now ↔ (x ∈ l ∧ ∀ y ∈ was,κ y≠κ x)∨x ∈ now:=by
 unfold Zkc
 rw [(ZdM _).mem_iff,YC,YA,ZcA]
variable [DecidableEq α]
def ZN (κ:α→Int) (a b:List α):List α:=a.filter fun x=>decide (ZV κ b (κ x)≠some x)
theorem Zbi (a b:List α):(ZN κ a b).length≤a.length:=YG _ _
theorem Zbh {a b:List α} {x:α} (h:x ∈ ZN κ a b):x ∈ a:=(YA.1 h).1
theorem ZbG {a b:List α} (hb:Unl κ b) {x:α} : x ∈ ZN κ a b ↔ x ∈ a∧x ∉ b:=by
 unfold ZN
 rw [YA]
 refine and_congr_right fun _=>?_
 rw [Yi]
 exact not_congr ⟨fun e=>(ZeR e).1,fun e=>ZaQ hb e⟩
def ZkH (κ:α→Int) (l was now:List α):Bool:=decide (ZN κ was l = []) && now.all fun x=>!((ZV κ l (κ x)).isSome && !(ZV κ was (κ x)).isSome)
theorem ZeF {a b:List α} (h:Zax κ a):Zax κ (ZN κ a b):=h.sublist YaM
theorem Zhq {a b:List α} (ha:Zax κ a) (hb:Zax κ b):ZkH κ a (ZN κ a b) (ZN κ b a)=true:=by
 unfold ZkH
 rw [Yr,Yi,Yag]
 refine ⟨List.eq_nil_iff_forall_not_mem.2 fun x hx=>?_,fun x hx=>?_⟩
 ·have h1:=(ZbG ha.unl).1 hx
  exact h1.2 (Zbh h1.1)
 ·have h1:=(ZbG ha.unl).1 hx
  cases e:(ZV κ a (κ x)).isSome with
  | false=>rfl
  | true=>
   obtain ⟨y,hy,ey⟩:=Zel.1 e
   have:(ZV κ (ZN κ a b) (κ x)).isSome=true:=Zel.2 ⟨y,(ZbG hb.unl).2 ⟨hy,fun h2=>h1.2 (by rw [← Zgc hb.unl h2 h1.1 ey];exact hy)⟩,ey⟩
   rw [this];rfl
theorem ZiG {l was now:List α} (hl:Unl κ l) (hn:Unl κ now) (hf:ZkH κ l was now=true):Unl κ ((l.filter fun x=>(ZV κ was (κ x)).isNone)++now):=by
 unfold ZkH at hf
 rw [Yr,Yi,Yag] at hf
 refine Ybj.2 ⟨hl.sublist YaM,hn,fun x hx y hy e=>?_⟩
 have h1:=YA.1 hx
 have h2:=hf.2 y hy
 have h3:(ZV κ l (κ y)).isSome=true:=Zel.2 ⟨x,h1.1,e⟩
 have h4:(ZV κ was (κ y)).isSome=false:=by
  cases e2:(ZV κ was (κ y)).isSome with
  | false=>rfl
  | true=>
   obtain ⟨z,hz,ez⟩:=Zel.1 e2
   exact absurd (ez.trans e.symm) (ZcA.1 h1.2 z hz)
 rw [h3,h4] at h2
 cases h2
theorem ZkL {l was now:List α} (hl:Unl κ l) (hn:Unl κ now) (hf:ZkH κ l was now=true):Zax κ (Zkc κ l was now):=Zjw (ZiG hl hn hf)
theorem Zlj {a b:List α} (ha:Zax κ a) (hb:Zax κ b):Zkc κ a (ZN κ a b) (ZN κ b a)=b:=by
 refine ZgW (ZkL ha.unl (ZeF hb).unl (Zhq ha hb)) hb fun x=>?_
 rw [ZmL,ZbG ha.unl]
 constructor
 ·rintro (⟨h1,h2⟩ | ⟨h1,_⟩)
  ·refine YaP fun h3=>h2 x ((ZbG hb.unl).2 ⟨h1,h3⟩) rfl
  ·exact h1
 ·intro h1
  by_cases h2:x ∈ a
  ·exact .inl ⟨h2,fun y hy e=>by
   have h3:=(ZbG hb.unl).1 hy
   exact h3.2 (by rw [Zgc ha.unl h3.1 h2 e];exact h1)⟩
  ·exact .inr ⟨h1,h2⟩
end
def Znj (d:Za4):Prop:=Zax TxD.id d.was∧Zax TxD.id d.now∧Zax OrdD.key d.old∧Zax OrdD.key d.new
instance (d:Za4):Decidable (Znj d):=by unfold Znj;exact inferInstance
def noD:Za4:=⟨[],[],[],[]⟩
def ofD (h g:Zs):Za4×Int:=if Zx h∧Zx g then (⟨ZN TxD.id h.txs g.txs,ZN TxD.id g.txs h.txs,ZN OrdD.key h.orders g.orders,ZN OrdD.key g.orders h.orders⟩,0) else (noD,5)
theorem ZeY (t:TxD) (hl:t.ops.length≤1000000):FnP prog 81 [.agg (rTx t)] (.int .i64 ((t.ops.length+1:Nat):Int)):=by
 refine FnP.mk func81 O ntmps81 O fun B a w F M hfr G=>Ya ?_
 refine rS G (qx 101 r1 (qI qZ)) M Ky Kf fun τ G=>?_
 try dsimp only [RS.sub,SF.sub,CF.sub,csub,Anc.sub,List.map,zCF,rTx,rOp] at G
 generalize τ 1=v1 at G
 refine Za (Ya (rZ G (qg 2 101 r1 r1 (qa 101 r1 r1 (qu Ybv r1 (qp r1 (qO rr qZ))))) M [2] [0] fun G=>Yh ?_))
 refine Zr hfr G O O O (.int (Z4 ow))
theorem Zmw (x y:List OpD):FnP prog 165 [.sl rOp x,.sl rOp y] (.bool (decide (x=y))):=by
 refine FnP.mk func165 O ntmps165 O fun B a w F M hfr G=>?_
 have hxl:=Sat.lenSl G (i:=0) rfl
 refine Ya (rZ G qB M Kr [0] fun G=>(Ya (Ya ?_)))
 refine rZ G (qR rr (qu Ybv r1 (qR rr (qu Ybv r1 (qf (o_neq .t .t) r2 qz qZ))))) M [10,4,1,0] [0] fun G=>?_
 refine Zb G O (fun hc0=>?_) (fun hc0=>?_)
 ·have hg:false=decide (x=y):=by
    rw [Yak,YM]
    intro h
    subst h
    simp at hc0
  refine Ya (rZ G qB M Kr [0] fun G=>(Yh (Ze ?_)))
  refine Zr hfr G O O O (.bool hg)
 have hl:x.length=y.length:=XV
 refine Yc (Za (Ya (Ya (rZ G (qR rr (qu Ybv r1 (qJ qZ))) M Je [0] fun G=>Yf ?_))))
 obtain ⟨F,G⟩:=G.nM QL [0]
 refine ZbX (σ:=Nat) (fun s=>(⟨[(0,.pv (.sl rOp x)),(1,.pv (.sl rOp y)),(12,.pv (.int .i64 x.length)),(13,.pv (.int .i64 s))],[(0,frame B)]⟩:En)) (fun s=>s≤x.length ∧ ∀ j,j<s→Nn x j=Nn y j) (fun s=>x.length - s) 0 G ⟨Yp _,fun j hj=>absurd hj (YO j)⟩ ?_
 clear G;intro i a w F hC G
 have hC:=X4
 have G:=X2
 obtain ⟨hi,hq⟩:=hC
 refine Ya (rZ G (qL r2) M [14,13,12,1,0] [0] fun G=>Ya ?_)
 refine Zb G O (fun hc1=>?_) (fun hc1=>?_)
 ·have hil:i<x.length:=XU
  refine Yc (Za (Ya (Yf (Ya (rZ G (qR rr (qO rr qZ)) M [13,12,5,1,0] [0] fun G=>Ya ?_)))))
  refine ZA G (qR rr (qR rr (qy 4 Ybv r2 (qf (oR true 4 .t) r1 qz (qR rr (qR rr (qy 4 Ybv r2 (qf (oR true 4 .t) r1 qz (qf (Znu (ks:=[false,true,true,true]) kr .t .t (.bool (.int (.int (.int .nil))))) r2 qz qZ))))))))) M [24,13,12,1,0] [0] O O fun a w F G=>?_
  have G:=Xp
  refine Za (Zb G O (fun hc2=>?_) (fun hc2=>?_))
  ·have hg:false=decide (x=y):=by
     rw [Yak,YM]
     intro h
     subst h
     simp at hc2
   refine Ya (rZ G qB M Je [0] fun G=>(Yh (Zq (Ze (Ze (Zq (Ze ?_)))))))
   refine Zr hfr G O O O (.bool hg)
  rw [Yg] at hc2
  have hqi:Nn x i=Nn y i:=Zo5 hc2
  refine Yc (Zh (Za (rZ G (qp r1 (qR rr qZ)) M QL [0] fun G=>?_)))
  replace G:=G.eI 13 i
  obtain ⟨F,G⟩:=G.nM QL [0]
  exact ⟨i+1,F,⟨ow,fun j hj=>by rcases YF (YL hj) with h | h;exact hq j h;rw [h];exact hqi⟩,G,ow⟩
 have hg:true=decide (x=y):=by
   rw [Yak,Yi]
   exact Zhv hl fun j hj=>hq j XU
 refine Yt (Zg (Zg (Zp (Za (Ya (rZ G qB M [4] [0] fun G=>Yh ?_))))))
 refine Zr hfr G O O O (.bool hg)
theorem Znw (u v:TxD):((decide (u.id=v.id) && (u.done == v.done)) && decide (u.ops=v.ops))=decide (u=v):=by
 cases u;cases v
 rw [Y4]
 simp [and_assoc]
theorem Zm6 (x y:List OpD):FnP prog 101 [.sl rOp x,.sl rOp y] (.bool (decide (x=y))):=by
 refine FnP.mk func101 O ntmps101 O fun B a w F M hfr G=>Ya ?_
 refine rZ G qB M Kr [0] fun G=>Ya ?_
 refine rZ G (qR rr (qR rr (qf (oP (Zmw x y) func165 (Args.two .t .t)) r2 qz (qO rr qZ)))) M [4] [0] fun G=>Yh ?_
 refine Zr hfr G O O O .refl
theorem ZiU (u v:TxD):FnP prog 42 [.agg (rTx u),.agg (rTx v)] (.bool (decide (u=v))):=by
 refine FnP.mk func42 O ntmps42 O fun B a w F M hfr G=>Ya ?_
 refine rS G (qx 101 r1 (qx 102 r1 qB)) M Qu Ke fun τ G=>?_
 try dsimp only [RS.sub,SF.sub,CF.sub,csub,Anc.sub,List.map,zCF,rTx,rOp] at G
 generalize τ 2=v2,τ 3=v3 at G
 refine Za (Ya (rZ G (qg 0 101 r1 r1 (qa 101 r1 r1 (qg 0 102 r1 r1 (qa 102 r1 r1 (qf (o_eql .t .t) r2 qz (qR rr (qv 1 101 O r2 r1 (qw 101 O r2 r1 (qv 1 102 O r2 r1 (qw 102 O r2 r1 (qk O (fun h=>Zpb underlying4 (.w h) (.w h)) r3 qz (qf (o_and2 .t .t) r2 qz (qR rr (qv 2 101 O r2 r1 (qw 101 O r2 r1 (qv 2 102 O r2 r1 (qw 102 O r2 r1 (qk O (fun h=>oP (Zm6 u.ops v.ops) func101 (Args.two (.w h) (.w h))) r3 qz (qf (o_and2 .t .t) r2 qz (qO rr qZ)))))))))))))))))))) M [4] Ke fun G=>Yh ?_))
 refine Zr hfr G O O O (.bool (Znw u v))
def ZjL:OrdD:=⟨0,[]⟩
theorem Zmh (u v:OrdD):FnP prog 80 [.agg (Zv u),.agg (Zv v)] (.bool (decide (u=v))):=by
 refine FnP.mk func80 O ntmps80 O fun B a w F M hfr G=>Ya ?_
 refine rS G (qx 101 r1 (qx 102 r1 qB)) M Qu Ke fun τ G=>?_
 have G:=X1
 generalize τ 2=v2,τ 3=v3 at G
 refine Za (Ya (rZ G (qg 0 101 r1 r1 (qa 101 r1 r1 (qg 0 102 r1 r1 (qa 102 r1 r1 (qf (o_eql .t .t) r2 qz (qR rr (qv 1 101 O r2 r1 (qw 101 O r2 r1 (qv 1 102 O r2 r1 (qw 102 O r2 r1 (qk O (fun h=>oP (Zod u.txs v.txs) func143 (Args.two (.w h) (.w h))) r3 qz (qf (o_and2 .t .t) r2 qz (qO rr qZ))))))))))))) M [4] Ke fun G=>Yh ?_))
 refine Zr hfr G O O O (.bool ZoI)
theorem Zpy (x:TxD):FnP prog 77 [.agg (rTx x)] (.int .i64 x.id):=by
 refine FnP.mk func77 O ntmps77 O fun B a w F M hfr G=>Ya ?_
 refine rS G (qx 101 r1 (qI qZ)) M Ky Kf fun τ G=>?_
 have G:=X1
 generalize τ 1=v1 at G
 refine Za (Ya (rZ G (qg 0 101 r1 r1 (qa 101 r1 r1 (qO rr qZ))) M [2] Kf fun G=>Yh ?_))
 refine Zr hfr G O O O (.int O)
theorem Zpn (x:OrdD):FnP prog 79 [.agg (Zv x)] (.int .i64 x.key):=by
 refine FnP.mk func79 O ntmps79 O fun B a w F M hfr G=>Ya ?_
 refine rS G (qx 101 r1 (qI qZ)) M Ky Kf fun τ G=>?_
 have G:=X1
 generalize τ 1=v1 at G
 refine Za (Ya (rZ G (qg 0 101 r1 r1 (qa 101 r1 r1 (qO rr qZ))) M [2] Kf fun G=>Yh ?_))
 refine Zr hfr G O O O (.int O)
theorem Zoy (l:List TxD) (n:Int):FnP prog 141 [.sl rTx l,.int .i64 n,.clos 77 []] (.tup [.agg (rTx ((ZV TxD.id l n).getD zeroT)),.bool (ZV TxD.id l n).isSome]):=by
 refine FnP.mk func141 O ntmps141 O fun B a w F M hfr G=>?_
 have hxl:=Sat.lenSl G (i:=0) rfl
 refine Ya (rS G (qf (oH [.int .i64 0,.bool false,.slice none 0 0] 101) trivial qz qB) M KK Kf fun τ G=>?_)
 have G:=X1
 generalize τ 6=v6 at G
 refine Za (Ya (Ya (rZ G (qR rr (qu Ybt r1 (qJ qZ))) M KI Kf fun G=>Yf ?_)))
 refine Zj (σ:=(Nat)) [1,2,6,7,11,12] [0,101] (fun s=>[(13,.pv (.int .i64 (s:Int)))]) (fun s=>[]) (fun s=>s≤l.length∧(∀ k,k<s→TxD.id (Nn l k)≠n)) (fun s=>l.length - s) (0) G ⟨rfl,rfl,rfl,rfl,rfl,rfl,rfl,tv⟩ ⟨rfl,rfl,tv⟩ ⟨Yp _,fun k hk=>absurd hk (YO k)⟩ ?_
 clear G;intro i a w F hC G
 have hC:=X4
 obtain ⟨F,G⟩:=G.nM KI Kf
 have G:=X2
 obtain ⟨hi,hq⟩:=hC
 refine Ya (rZ G (qL r2) M [14,13,12,11,7,6,2,1] Kf fun G=>Ya ?_)
 refine Zb G O (fun hc0=>?_) (fun hc0=>?_)
 ·have hil:i<l.length:=XV
  refine Yc (Za (Ya (Yf (Ya (rS G (qy 3 Ybt r2 (qf (oR true 3 .t) r1 qz (qf (oH [.int .i64 0,.bool false,.slice none 0 0] 102) trivial qz (qS 3 102 r2 r1 qZ)))) M [13,12,11,9,7,6,2,1] Ke fun τ G=>?_)))))
  have G:=X0
  generalize τ 9=v9 at G
  try simp only [Yg] at G
  refine Za (Ya (rZ G (qR rr (qe 3 102 r1 r1 (qf (ZJ (avs:=[.agg (rTx (Nn l i))]) .t (Zpy (Nn l i)) func77 O kr (Args.one (.pagg .t))) r2 qz (qR rr (qf (o_eql .t .t) r2 qz qZ))))) M Jo Ke fun G=>?_))
  refine Zb G O (fun hc1=>?_) (fun hc1=>?_)
  ·have hg:ZV TxD.id l n=some (Nn l i):=ZiA hil Wj hq
   refine Ya (rZ G (qe 3 102 r1 r1 (qs 3 101 r2 r1 qB)) M KI Ke fun G=>(Yh (Zq (Ze (Ze (Zq (Ze ?_)))))))
   refine ZL hfr G O (.cl 101 true 3 O O (.tmp O .nil)) (.two Wl (.bool XT))
  have hne:TxD.id (Nn l i)≠n:=Wj
  refine Yc (Zh (Za (rZ G (qp r1 (qR rr qZ)) M KI Ke fun G=>?_)))
  replace G:=G.eI 13 i
  obtain ⟨F,G⟩:=G.nM [12,11,7,6,2,1,13] Kf
  exact ⟨(i+1),F,⟨ow,(fun k hk=>by rcases YF (YL hk) with h9 | h9;exact hq k h9;rw [h9];exact hne)⟩,G,ow⟩
 have hil:i=l.length:=XV
 have hg:ZV TxD.id l n=none:=Zf3 Wm
 refine Yt (Zg (Zg (Zp (Za (Ya (rS G (qf (oH [.int .i64 0,.bool false,.slice none 0 0] 103) trivial qz qZ) M [10,7,6] KC fun τ G=>?_))))))
 have G:=X1
 generalize τ 10=v10 at G
 refine Za (Ya (rZ G (qe 3 103 r1 r1 (qs 3 101 r2 r1 qB)) M [7,6] KC fun G=>Yh ?_))
 refine ZL hfr G O (.cl 101 true 3 O O (.tmp O .nil)) (.two Wl (.bool XT))
theorem ZnN (l:List OrdD) (n:Int):FnP prog 142 [.sl Zv l,.int .i64 n,.clos 79 []] (.tup [.agg (Zv ((ZV OrdD.key l n).getD ZjL)),.bool (ZV OrdD.key l n).isSome]):=by
 refine FnP.mk func142 O ntmps142 O fun B a w F M hfr G=>?_
 have hxl:=Sat.lenSl G (i:=0) rfl
 refine Ya (rS G (qf (oH [.int .i64 0,.slice none 0 0] 101) trivial qz qB) M KK Kf fun τ G=>?_)
 have G:=X1
 generalize τ 6=v6 at G
 refine Za (Ya (Ya (rZ G (qR rr (qu Ybu r1 (qJ qZ))) M KI Kf fun G=>Yf ?_)))
 refine Zj (σ:=(Nat)) [1,2,6,7,11,12] [0,101] (fun s=>[(13,.pv (.int .i64 (s:Int)))]) (fun s=>[]) (fun s=>s≤l.length∧(∀ k,k<s→OrdD.key (Nn l k)≠n)) (fun s=>l.length - s) (0) G ⟨rfl,rfl,rfl,rfl,rfl,rfl,rfl,tv⟩ ⟨rfl,rfl,tv⟩ ⟨Yp _,fun k hk=>absurd hk (YO k)⟩ ?_
 clear G;intro i a w F hC G
 have hC:=X4
 obtain ⟨F,G⟩:=G.nM KI Kf
 have G:=X2
 obtain ⟨hi,hq⟩:=hC
 refine Ya (rZ G (qL r2) M [14,13,12,11,7,6,2,1] Kf fun G=>Ya ?_)
 refine Zb G O (fun hc0=>?_) (fun hc0=>?_)
 ·have hil:i<l.length:=XV
  refine Yc (Za (Ya (Yf (Ya (rS G (qy 2 Ybu r2 (qf (oR true 2 .t) r1 qz (qf (oH [.int .i64 0,.slice none 0 0] 102) trivial qz (qS 2 102 r2 r1 qZ)))) M [13,12,11,9,7,6,2,1] Ke fun τ G=>?_)))))
  have G:=X0
  generalize τ 9=v9 at G
  try simp only [Yg] at G
  refine Za (Ya (rZ G (qR rr (qe 2 102 r1 r1 (qf (ZJ (avs:=[.agg (Zv (Nn l i))]) .t (Zpn (Nn l i)) func79 O kr (Args.one (.pagg .t))) r2 qz (qR rr (qf (o_eql .t .t) r2 qz qZ))))) M Jo Ke fun G=>?_))
  refine Zb G O (fun hc1=>?_) (fun hc1=>?_)
  ·have hg:ZV OrdD.key l n=some (Nn l i):=ZiA hil Wj hq
   refine Ya (rZ G (qe 2 102 r1 r1 (qs 2 101 r2 r1 qB)) M KI Ke fun G=>(Yh (Zq (Ze (Ze (Zq (Ze ?_)))))))
   refine ZL hfr G O (.cl 101 true 2 O O (.tmp O .nil)) (.two Wn (.bool XT))
  have hne:OrdD.key (Nn l i)≠n:=Wj
  refine Yc (Zh (Za (rZ G (qp r1 (qR rr qZ)) M KI Ke fun G=>?_)))
  replace G:=G.eI 13 i
  obtain ⟨F,G⟩:=G.nM [12,11,7,6,2,1,13] Kf
  exact ⟨(i+1),F,⟨ow,(fun k hk=>by rcases YF (YL hk) with h9 | h9;exact hq k h9;rw [h9];exact hne)⟩,G,ow⟩
 have hil:i=l.length:=XV
 have hg:ZV OrdD.key l n=none:=Zf3 Wm
 refine Yt (Zg (Zg (Zp (Za (Ya (rS G (qf (oH [.int .i64 0,.slice none 0 0] 103) trivial qz qZ) M [10,7,6] KC fun τ G=>?_))))))
 have G:=X1
 generalize τ 10=v10 at G
 refine Za (Ya (rZ G (qe 2 103 r1 r1 (qs 2 101 r2 r1 qB)) M [7,6] KC fun G=>Yh ?_))
 refine ZL hfr G O (.cl 101 true 2 O O (.tmp O .nil)) (.two Wn (.bool XT))
theorem Zkn (c d:List TxD) (hll:c.length≤1000000):FnP prog 76 [.sl rTx c,.sl rTx d,.clos 77 [],.clos 42 []] (.sl rTx (ZN TxD.id c d)):=by
 refine FnP.mk func76 O ntmps76 O fun B a w F M hfr G=>Ya ?_
 refine rZ G (qC qZ) M [8,3,2,1,0] [0] fun G=>Ya ?_
 refine rZ G (qC qZ) M [9,8,3,2,1,0] [0] fun G=>(Ya (Ya ?_))
 refine rZ G (qR rr (qu Ybt r1 (qJ qZ))) M Kz [0] fun G=>Yf ?_
 replace G:=G.fresh 50 rfl
 replace G:=G.turn 50 O (ZaC (T:=36) (sz:=3) (R:=rTx))
 refine Zj (σ:=(Nat)×(Value)×(List TxD)) [1,2,3,8,14,15] [0] (fun s=>[(16,.pv (.int .i64 (s.1:Int))),(9,.pv (.is s.2.1))]) (fun s=>[(50,.ob (.val s.2.1) (ZC 36 3 rTx s.2.2))]) (fun s=>s.1≤c.length∧(s.2.2=ZN TxD.id (c.take s.1) d)) (fun s=>c.length - s.1) ((0),(.slice none 0 0),([])) G ⟨rfl,rfl,rfl,rfl,rfl,rfl,rfl,rfl,tv⟩ ⟨rfl,rfl,tv⟩ ⟨Yp _,rfl⟩ ?_
 clear G;intro s a w F hC G
 obtain ⟨i,v,out⟩:=s
 have hC:=X4
 obtain ⟨F,G⟩:=G.nM Kz Ks
 have G:=X2
 obtain ⟨hi,hq⟩:=hC
 have hol:out.length≤i:=by rw [hq];exact Y5 (Zbi _ _) W4
 refine Ya (rZ G (qL r2) M Jp Ks fun G=>Ya ?_)
 refine Zb G O (fun hc0=>?_) (fun hc0=>?_)
 ·have hil:i<c.length:=XV
  have hcd:(!(ZV TxD.id d (TxD.id (Nn c i))).isSome || !decide ((Nn c i)=(ZV TxD.id d (TxD.id (Nn c i))).getD zeroT))=decide ((ZV TxD.id d (TxD.id (Nn c i)))≠some (Nn c i)):=by cases hsk:(ZV TxD.id d (TxD.id (Nn c i))) with | none=>simp | some z=>rw [Y4];simp;exact not_congr ⟨Eq.symm,Eq.symm⟩
  refine Yc (Za (Ya (Yf (Ya (rS G (qy 3 Ybt r2 (qf (oR true 3 .t) r1 qz (qf (oH [.int .i64 0,.bool false,.slice none 0 0] 101) trivial qz (qS 3 101 r2 r1 qZ)))) M Jq Kp fun τ G=>?_)))))
  have G:=X0
  generalize τ 11=v11 at G
  try simp only [Yg] at G
  refine Za (Ya (rS G (qR rr (qR rr (qe 3 101 r1 r1 (qf (ZJ (avs:=[.agg (rTx (Nn c i))]) .t (Zpy (Nn c i)) func77 O kr (Args.one (.pagg .t))) r2 qz (qR rr (qf (oP (Zoy d (TxD.id (Nn c i))) func141 (Args.three .t .t .t)) r3 qz (qR rr (qf (Zn .t O) r1 qz (qf (Zn .t O) r1 qz (qf (oH [.int .i64 0,.bool false,.slice none 0 0] 102) trivial qz (qf (oA 3 102 .same (.conv .t .agg)) r2 r1 (qO rr qZ)))))))))))) M J0 Ki fun τ G=>?_))
  have G:=X0
  generalize τ 12=v12 at G
  refine Za (Ya (rZ G (qR rr (qf (o_not .t) r1 qz (qR rr (qm O O O O (qk O (fun h=>oL true 3 101 .is) r2 r1 (qk O (fun h=>oL true 3 102 .is) r2 r1 (qk O (fun h=>ZJ (avs:=[.agg (rTx (Nn c i)),.agg (rTx ((ZV TxD.id d (TxD.id (Nn c i))).getD zeroT))]) (.w h) (ZiU (Nn c i) ((ZV TxD.id d (TxD.id (Nn c i))).getD zeroT)) func42 O kr (Args.two (.pagg (.w h)) (.pagg (.w h)))) r4 qz (qk O (fun h=>o_not (.w h)) r2 qz (qf (ZaU .t .t) r2 qz qZ))))))))) M Jf Ki fun G=>?_))
  refine Zb G O (fun hc1=>?_) (fun hc1=>?_)
  ·have h9:(!(ZV TxD.id d (TxD.id (Nn c i))).isSome || !decide ((Nn c i)=(ZV TxD.id d (TxD.id (Nn c i))).getD zeroT))=true:=hc1
   rw [hcd] at h9
   have hst9:out ++ [(Nn c i)] = ZN TxD.id (c.take (i+1)) d:=by rw [hq];unfold ZN;rw [Zay hil,Ye h9]
   refine rS G (qR rr (qe 3 101 r1 r1 (qf (Zo (sz:=3) (zs:=[.int .i64 0,.bool false,.slice none 0 0]) (r:=[(0,.tmp 39)]) (l:=[_,_,_]) Ybt kr kr kr kr O O (.agg O .t kr kr .nil) O) r1 qz (qf (o_append (sz:=3) (bs:=40) 50 (.mk' Ybt kr kr) XW .is (.arr (l':=[(Nn c i)]) .t) W7 XJ) ⟨rfl,rfl,tv⟩ ⟨rfl,tv⟩ (qO rr qZ))))) M Kz Ki fun τ G=>?_
   have G:=X0
   generalize τ 41=v41 at G
   refine Zh (Za (rZ G (qp r1 (qR rr qZ)) M Kz Ki fun G=>?_))
   replace G:=G.eI 16 i
   obtain ⟨F,G⟩:=G.nM Qr QU
   exact ⟨((i+1),_,_),F,⟨ow,hst9⟩,G,ow⟩
  have h9:(!(ZV TxD.id d (TxD.id (Nn c i))).isSome || !decide ((Nn c i)=(ZV TxD.id d (TxD.id (Nn c i))).getD zeroT))=false:=hc1
  rw [hcd] at h9
  have hst9:out=ZN TxD.id (c.take (i+1)) d:=WU
  refine Yc (Zh (Za (rZ G (qp r1 (qR rr qZ)) M Kz Ki fun G=>?_)))
  replace G:=G.eI 16 i
  obtain ⟨F,G⟩:=G.nM Qr QU
  exact ⟨((i+1),_,_),F,⟨ow,hst9⟩,G,ow⟩
 have hil:i=c.length:=XV
 have hg:out=ZN TxD.id c d:=K5
 refine Yt (Zg (Zg (Zp (Za (Ya (rZ G (qR rr (qO rr qZ)) M [8] Ks fun G=>Yh ?_))))))
 obtain ⟨F,G⟩:=G.give 50 8 O rfl
 refine Zr hfr G O O O (.sl W9)
theorem ZlD (c d:List OrdD) (hll:c.length≤1000000):FnP prog 78 [.sl Zv c,.sl Zv d,.clos 79 [],.clos 80 []] (.sl Zv (ZN OrdD.key c d)):=by
 refine FnP.mk func78 O ntmps78 O fun B a w F M hfr G=>Ya ?_
 refine rZ G (qC qZ) M [8,3,2,1,0] [0] fun G=>Ya ?_
 refine rZ G (qC qZ) M [9,8,3,2,1,0] [0] fun G=>(Ya (Ya ?_))
 refine rZ G (qR rr (qu Ybu r1 (qJ qZ))) M Kz [0] fun G=>Yf ?_
 replace G:=G.fresh 50 rfl
 replace G:=G.turn 50 O (ZaC (T:=39) (sz:=2) (R:=Zv))
 refine Zj (σ:=(Nat)×(Value)×(List OrdD)) [1,2,3,8,14,15] [0] (fun s=>[(16,.pv (.int .i64 (s.1:Int))),(9,.pv (.is s.2.1))]) (fun s=>[(50,.ob (.val s.2.1) (ZC 39 2 Zv s.2.2))]) (fun s=>s.1≤c.length∧(s.2.2=ZN OrdD.key (c.take s.1) d)) (fun s=>c.length - s.1) ((0),(.slice none 0 0),([])) G ⟨rfl,rfl,rfl,rfl,rfl,rfl,rfl,rfl,tv⟩ ⟨rfl,rfl,tv⟩ ⟨Yp _,rfl⟩ ?_
 clear G;intro s a w F hC G
 obtain ⟨i,v,out⟩:=s
 have hC:=X4
 obtain ⟨F,G⟩:=G.nM Kz Ks
 have G:=X2
 obtain ⟨hi,hq⟩:=hC
 have hol:out.length≤i:=by rw [hq];exact Y5 (Zbi _ _) W4
 refine Ya (rZ G (qL r2) M Jp Ks fun G=>Ya ?_)
 refine Zb G O (fun hc0=>?_) (fun hc0=>?_)
 ·have hil:i<c.length:=XV
  have hcd:(!(ZV OrdD.key d (OrdD.key (Nn c i))).isSome || !decide ((Nn c i)=(ZV OrdD.key d (OrdD.key (Nn c i))).getD ZjL))=decide ((ZV OrdD.key d (OrdD.key (Nn c i)))≠some (Nn c i)):=by cases hsk:(ZV OrdD.key d (OrdD.key (Nn c i))) with | none=>simp | some z=>rw [Y4];simp;exact not_congr ⟨Eq.symm,Eq.symm⟩
  refine Yc (Za (Ya (Yf (Ya (rS G (qy 2 Ybu r2 (qf (oR true 2 .t) r1 qz (qf (oH [.int .i64 0,.slice none 0 0] 101) trivial qz (qS 2 101 r2 r1 qZ)))) M Jq Kp fun τ G=>?_)))))
  have G:=X0
  generalize τ 11=v11 at G
  try simp only [Yg] at G
  refine Za (Ya (rS G (qR rr (qR rr (qe 2 101 r1 r1 (qf (ZJ (avs:=[.agg (Zv (Nn c i))]) .t (Zpn (Nn c i)) func79 O kr (Args.one (.pagg .t))) r2 qz (qR rr (qf (oP (ZnN d (OrdD.key (Nn c i))) func142 (Args.three .t .t .t)) r3 qz (qR rr (qf (Zn .t O) r1 qz (qf (Zn .t O) r1 qz (qf (oH [.int .i64 0,.slice none 0 0] 102) trivial qz (qf (oA 2 102 .same (.conv .t .agg)) r2 r1 (qO rr qZ)))))))))))) M J0 Ki fun τ G=>?_))
  have G:=X0
  generalize τ 12=v12 at G
  refine Za (Ya (rZ G (qR rr (qf (o_not .t) r1 qz (qR rr (qm O O O O (qk O (fun h=>oL true 2 101 .is) r2 r1 (qk O (fun h=>oL true 2 102 .is) r2 r1 (qk O (fun h=>ZJ (avs:=[.agg (Zv (Nn c i)),.agg (Zv ((ZV OrdD.key d (OrdD.key (Nn c i))).getD ZjL))]) (.w h) (Zmh (Nn c i) ((ZV OrdD.key d (OrdD.key (Nn c i))).getD ZjL)) func80 O kr (Args.two (.pagg (.w h)) (.pagg (.w h)))) r4 qz (qk O (fun h=>o_not (.w h)) r2 qz (qf (ZaU .t .t) r2 qz qZ))))))))) M Jf Ki fun G=>?_))
  refine Zb G O (fun hc1=>?_) (fun hc1=>?_)
  ·have h9:(!(ZV OrdD.key d (OrdD.key (Nn c i))).isSome || !decide ((Nn c i)=(ZV OrdD.key d (OrdD.key (Nn c i))).getD ZjL))=true:=hc1
   rw [hcd] at h9
   have hst9:out ++ [(Nn c i)] = ZN OrdD.key (c.take (i+1)) d:=by rw [hq];unfold ZN;rw [Zay hil,Ye h9]
   refine rS G (qR rr (qe 2 101 r1 r1 (qf (Zo (sz:=2) (zs:=[.int .i64 0,.slice none 0 0]) (r:=[(0,.tmp 39)]) (l:=[_,_]) Ybu kr kr kr kr O O (.agg O .t kr kr .nil) O) r1 qz (qf (o_append (sz:=2) (bs:=32) 50 (.mk' Ybu kr kr) XW .is (.arr (l':=[(Nn c i)]) .t) W7 XJ) ⟨rfl,rfl,tv⟩ ⟨rfl,tv⟩ (qO rr qZ))))) M Kz Ki fun τ G=>?_
   have G:=X0
   generalize τ 41=v41 at G
   refine Zh (Za (rZ G (qp r1 (qR rr qZ)) M Kz Ki fun G=>?_))
   replace G:=G.eI 16 i
   obtain ⟨F,G⟩:=G.nM Qr QU
   exact ⟨((i+1),_,_),F,⟨ow,hst9⟩,G,ow⟩
  have h9:(!(ZV OrdD.key d (OrdD.key (Nn c i))).isSome || !decide ((Nn c i)=(ZV OrdD.key d (OrdD.key (Nn c i))).getD ZjL))=false:=hc1
  rw [hcd] at h9
  have hst9:out=ZN OrdD.key (c.take (i+1)) d:=WU
  refine Yc (Zh (Za (rZ G (qp r1 (qR rr qZ)) M Kz Ki fun G=>?_)))
  replace G:=G.eI 16 i
  obtain ⟨F,G⟩:=G.nM Qr QU
  exact ⟨((i+1),_,_),F,⟨ow,hst9⟩,G,ow⟩
 have hil:i=c.length:=XV
 have hg:out=ZN OrdD.key c d:=K5
 refine Yt (Zg (Zg (Zp (Za (Ya (rZ G (qR rr (qO rr qZ)) M [8] Ks fun G=>Yh ?_))))))
 obtain ⟨F,G⟩:=G.give 50 8 O rfl
 refine Zr hfr G O O O (.sl W9)
theorem ZiF (t:TxD) (hl:t.ops.length≤1000000):FnP prog 157 [.agg (rTx t)] (.agg (rTx t)):=by
 refine FnP.mk func157 O ntmps157 O fun B a w F M hfr G=>Ya ?_
 refine rS G (qx 101 r1 (qf (oH [.int .i64 0,.bool false,.slice none 0 0] 102) trivial qz qZ)) M Ky Ke fun τ G=>?_
 have G:=X1
 generalize τ 1=v1,τ 2=v2 at G
 refine Za (Ya ?_)
 replace G:=G.fresh 103 rfl
 refine rS G (qg 2 101 r1 r1 (qa 101 r1 r1 (qf (Zbd 103 (ZgK t.ops hl) func86 O kr (Args.one .t) Zar) r1 r1 (qg 2 101 r1 r1 (qf (Zbr 101 .adr kr kr) r2 r1 qZ))))) M Ky Kg fun τ G=>?_
 have G:=X0
 generalize τ 5=v5 at G
 obtain ⟨F,G⟩:=G.giveCell 103 101 2 O O O O rfl
 have G:=Xw
 obtain ⟨F,G⟩:=G.nM Ky Ke
 refine Za (Ya (rZ G (qe 3 101 r1 r1 (qs 3 102 r2 r1 qZ)) M [2] Ke fun G=>Yh ?_))
 refine ZL hfr G O (.cl 102 true 3 O O .nil) (.one (.aggU O O))
theorem Zo9 (g:Zs) (id:Int) (hs:Zae g.txs):FnP prog 258 [.agg (Zm g),.int .i64 id] (.tup [.agg (rTx ((ZS g.txs id).getD zeroT)),.bool (ZS g.txs id).isSome]):=by
 refine FnP.mk func258 O ntmps258 O fun B a w F M hfr G=>?_
 have hsl:=hs.1
 refine Ya (rS G (qx 101 r1 (qf (oH [.int .i64 0,.bool false,.slice none 0 0] 102) trivial qz qB)) M KU Ke fun τ G=>?_)
 have G:=X1
 generalize τ 2=v2,τ 4=v4 at G
 refine Za (Ya (Ya (rZ G (qg 0 101 r1 r1 (qa 101 r1 r1 (qu Ybt r1 (qJ qZ)))) M Km Ke fun G=>Yf ?_)))
 refine Zj (σ:=(Nat)) [1,4,5,9,10] [0,101,102] (fun s=>[(11,.pv (.int .i64 (s:Int)))]) (fun s=>[]) (fun s=>s≤g.txs.length∧(∀ k,k<s→(Nn g.txs k).id≠id)) (fun s=>g.txs.length - s) (0) G ⟨rfl,rfl,rfl,rfl,rfl,rfl,tv⟩ ⟨rfl,rfl,rfl,tv⟩ ⟨Yp _,fun k hk=>absurd hk (YO k)⟩ ?_
 clear G;intro i a w F hC G
 have hC:=X4
 obtain ⟨F,G⟩:=G.nM Km Ke
 have G:=X2
 obtain ⟨hi,hq⟩:=hC
 refine Ya (rZ G (qL r2) M Q0 Ke fun G=>Ya ?_)
 refine Zb G O (fun hc0=>?_) (fun hc0=>?_)
 ·have hil:i<g.txs.length:=XV
  refine Yc (Za (Ya (Yf (Ya (rS G (qy 3 Ybt r2 (qf (oR true 3 .t) r1 qz (qf (oH [.int .i64 0,.bool false,.slice none 0 0] 103) trivial qz (qS 3 103 r2 r1 qZ)))) M Q2 Kg fun τ G=>?_)))))
  have G:=X0
  generalize τ 7=v7 at G
  try simp only [Yg] at G
  refine Za (Ya (rZ G (qg 0 103 r1 r1 (qa 103 r1 r1 (qR rr (qf (o_eql .t .t) r2 qz qZ)))) M [18,11,10,9,7,5,4,1] Kg fun G=>?_))
  refine Zb G O (fun hc1=>?_) (fun hc1=>?_)
  ·have hg:ZS g.txs id=some (Nn g.txs i):=Zjk hil Wj hq
   refine Ya (rZ G (qe 3 103 r1 r1 (qf (oP (ZiF (Nn g.txs i) (by have:=hs.at hil;omega)) func157 (Args.one (.pagg .t))) r1 qz (qf (oA 3 102 .is (.conv .t .agg)) r2 r1 qB))) M Km Kg fun G=>(Yh (Zq (Ze (Ze (Zq (Ze ?_)))))))
   refine ZL hfr G O (.cl 102 true 3 O O (.tmp O .nil)) (.two Wl (.bool XT))
  have hne:(Nn g.txs i).id≠id:=Wj
  refine Yc (Zh (Za (rZ G (qp r1 (qR rr qZ)) M Km Kg fun G=>?_)))
  replace G:=G.eI 11 i
  obtain ⟨F,G⟩:=G.nM [10,9,5,4,1,11] Ke
  exact ⟨(i+1),F,⟨ow,(fun k hk=>by rcases YF (YL hk) with h9 | h9;exact hq k h9;rw [h9];exact hne)⟩,G,ow⟩
 have hil:i=g.txs.length:=XV
 have hg:ZS g.txs id=none:=ZfN Wm
 refine Yt (Zg (Zg (Zp (Za (Ya (rZ G (qf (oB [] [.int .i64 0,.bool false,.slice none 0 0] [(0,1),(1,1),(2,1)] .nil) trivial qz (qs 3 102 r2 r1 qB)) M KZ Ke fun G=>Yh ?_))))))
 refine ZL hfr G O (.cl 102 true 3 O O (.tmp O .nil)) (.two Wl (.bool XT))
theorem Zdc (g:Zs) (id:Int) (hs:Zae g.txs):FnP prog 12 [.agg (Zm g),.int .i64 id] (.tup [.agg (rTx ((ZS g.txs id).getD zeroT)),.bool (ZS g.txs id).isSome]):=by
 refine FnP.mk func12 O ntmps12 O fun B a w F M hfr G=>?_
 have hsl:=hs.1
 refine Ya (rS G (qx 101 r1 (qf (oH [.int .i64 0,.bool false,.slice none 0 0] 102) trivial qz qB)) M KU Ke fun τ G=>?_)
 have G:=X1
 generalize τ 2=v2,τ 4=v4 at G
 refine Za (Ya (Ya (rZ G (qg 0 101 r1 r1 (qa 101 r1 r1 (qu Ybt r1 (qJ qZ)))) M Km Ke fun G=>Yf ?_)))
 refine Zj (σ:=(Nat)) [1,4,5,9,10] [0,101,102] (fun s=>[(11,.pv (.int .i64 (s:Int)))]) (fun s=>[]) (fun s=>s≤g.txs.length∧(∀ k,k<s→(Nn g.txs k).id≠id)) (fun s=>g.txs.length - s) (0) G ⟨rfl,rfl,rfl,rfl,rfl,rfl,tv⟩ ⟨rfl,rfl,rfl,tv⟩ ⟨Yp _,fun k hk=>absurd hk (YO k)⟩ ?_
 clear G;intro i a w F hC G
 have hC:=X4
 obtain ⟨F,G⟩:=G.nM Km Ke
 have G:=X2
 obtain ⟨hi,hq⟩:=hC
 refine Ya (rZ G (qL r2) M Q0 Ke fun G=>Ya ?_)
 refine Zb G O (fun hc0=>?_) (fun hc0=>?_)
 ·have hil:i<g.txs.length:=XV
  refine Yc (Za (Ya (Yf (Ya (rS G (qy 3 Ybt r2 (qf (oR true 3 .t) r1 qz (qf (oH [.int .i64 0,.bool false,.slice none 0 0] 103) trivial qz (qS 3 103 r2 r1 qZ)))) M Q2 Kg fun τ G=>?_)))))
  have G:=X0
  generalize τ 7=v7 at G
  try simp only [Yg] at G
  refine Za (Ya (rZ G (qg 0 103 r1 r1 (qa 103 r1 r1 (qR rr (qf (o_eql .t .t) r2 qz qZ)))) M [18,11,10,9,7,5,4,1] Kg fun G=>?_))
  refine Zb G O (fun hc1=>?_) (fun hc1=>?_)
  ·have hg:ZS g.txs id=some (Nn g.txs i):=Zjk hil Wj hq
   refine Ya (rZ G (qe 3 103 r1 r1 (qs 3 102 r2 r1 qB)) M Km Kg fun G=>(Yh (Zq (Ze (Ze (Zq (Ze ?_)))))))
   refine ZL hfr G O (.cl 102 true 3 O O (.tmp O .nil)) (.two Wl (.bool XT))
  have hne:(Nn g.txs i).id≠id:=Wj
  refine Yc (Zh (Za (rZ G (qp r1 (qR rr qZ)) M Km Kg fun G=>?_)))
  replace G:=G.eI 11 i
  obtain ⟨F,G⟩:=G.nM [10,9,5,4,1,11] Ke
  exact ⟨(i+1),F,⟨ow,(fun k hk=>by rcases YF (YL hk) with h9 | h9;exact hq k h9;rw [h9];exact hne)⟩,G,ow⟩
 have hil:i=g.txs.length:=XV
 have hg:ZS g.txs id=none:=ZfN Wm
 refine Yt (Zg (Zg (Zp (Za (Ya (rZ G (qf (oB [] [.int .i64 0,.bool false,.slice none 0 0] [(0,1),(1,1),(2,1)] .nil) trivial qz (qs 3 102 r2 r1 qB)) M KZ Ke fun G=>Yh ?_))))))
 refine ZL hfr G O (.cl 102 true 3 O O (.tmp O .nil)) (.two Wl (.bool XT))
theorem ZpJ (g:Zs) (v:Zad) (hs:Zae g.txs):FnP prog 211 [.agg (Zm g),.agg (Zy v)] (.bool (ZdD g v)):=by
 refine FnP.mk func211 O ntmps211 O fun B a w F M hfr G=>Ya ?_
 refine rS G (qx 101 r1 (qx 102 r1 qB)) M Qu Ke fun τ G=>?_
 have G:=X1
 generalize τ 2=v2,τ 3=v3 at G
 refine Za (Ya (Ya (rZ G (qg 0 102 r1 r1 (qa 102 r1 r1 (qf (o_eql .t qi) r1 qz (qR rr (qv 2 102 O r2 r1 (qw 102 O r2 r1 (qk O (fun h=>o_eql (.w h) qi) r2 qz (qf (o_and2 .t .t) r2 qz qZ)))))))) M [14,4,3,2] Ke fun G=>?_)))
 refine Zb G O (fun hc0=>?_) (fun hc0=>?_)
 ·have h0:(v.tx=0∧v.nth=0):=Wk
  have hu:ZdD g v=decide (1≤v.key∧v.key≤1048575):=by unfold ZdD;rw [Ye h0]
  refine Ya (rZ G (qg 1 102 r1 r1 (qa 102 r1 r1 (qf (ZbB .t qi) r1 qz (qR rr (qv 1 102 O r2 r1 (qw 102 O r2 r1 (qk O (fun h=>Zio (.w h) qi) r2 qz (qf (o_and2 .t .t) r2 qz (qO rr qZ))))))))) M Qu Ke fun G=>(Yh (Ze ?_)))
  refine Zr hfr G O O O (.bool Wo)
 have h0:¬ (v.tx=0∧v.nth=0):=Wk
 have hfl:((ZS g.txs v.tx).getD zeroT).ops.length≤1000:=WN
 refine Yc (Za (Ya (rS G (qe 2 101 r1 r1 (qg 0 102 r1 r1 (qa 102 r1 r1 (qf (oP (Zo9 g v.tx hs) func258 (Args.two (.pagg .t) .t)) r2 qz (qR rr (qf (Zn .t O) r1 qz (qf (Zn .t O) r1 qz (qf (oH [.int .i64 0,.bool false,.slice none 0 0] 103) trivial qz (qf (oA 3 103 .same (.conv .t .agg)) r2 r1 (qO rr qZ)))))))))) M [6,5,4,3] Kg fun τ G=>?_)))
 have G:=X0
 generalize τ 5=v5 at G
 refine Za (Ya (ZA G (qR rr (qR rr (qv 2 102 O r2 r1 (qw 102 O r2 r1 (qk O (fun h=>ZbB (.w h) qi) r2 qz (qf (o_and2 .t .t) r2 qz (qR rr (qk O (fun h=>oL true 3 103 .is) r2 r1 (qv 1 102 O r2 r1 (qw 102 O r2 r1 (qk O (fun h=>oP (Zdp ((ZS g.txs v.tx).getD zeroT) v.key ow) func87 (Args.two (.pagg (.w h)) (.w h))) r3 qz (qv 2 102 O r2 r1 (qw 102 O r2 r1 (qk O (fun h=>ZbB (.w h) (.w h)) r3 qz (qf (o_and2 .t .t) r2 qz (qO rr qZ)))))))))))))))) M [4] Kg O O fun a w F G=>?_))
 have G:=X8
 refine Za (Yh (Zr hfr G O O O (.bool Wo)))
theorem Zme (g:Zs) (v:Zad) (hs:Zae g.txs):FnP prog 199 [.agg (Zm g),.agg (Zy v)] (.bool (ZdD g v)):=by
 refine FnP.mk func199 O ntmps199 O fun B a w F M hfr G=>Ya ?_
 refine rS G (qx 101 r1 (qx 102 r1 qB)) M Qu Ke fun τ G=>?_
 have G:=X1
 generalize τ 2=v2,τ 3=v3 at G
 refine Za (Ya (Ya (rZ G (qg 0 102 r1 r1 (qa 102 r1 r1 (qf (o_eql .t qi) r1 qz (qR rr (qv 2 102 O r2 r1 (qw 102 O r2 r1 (qk O (fun h=>o_eql (.w h) qi) r2 qz (qf (o_and2 .t .t) r2 qz qZ)))))))) M [14,4,3,2] Ke fun G=>?_)))
 refine Zb G O (fun hc0=>?_) (fun hc0=>?_)
 ·have h0:(v.tx=0∧v.nth=0):=Wk
  have hu:ZdD g v=decide (1≤v.key∧v.key≤1048575):=by unfold ZdD;rw [Ye h0]
  refine Ya (rZ G (qg 1 102 r1 r1 (qa 102 r1 r1 (qf (oP (ZdI v.key) func195 (Args.one .t)) r1 qz (qO rr qZ)))) M Qu Ke fun G=>(Yh (Ze ?_)))
  refine Zr hfr G O O O (.bool Wo)
 have h0:¬ (v.tx=0∧v.nth=0):=Wk
 have hfl:((ZS g.txs v.tx).getD zeroT).ops.length≤1000:=WN
 refine Yc (Za (Ya (rS G (qe 2 101 r1 r1 (qg 0 102 r1 r1 (qa 102 r1 r1 (qf (oP (Zdc g v.tx hs) func12 (Args.two (.pagg .t) .t)) r2 qz (qR rr (qf (Zn .t O) r1 qz (qf (Zn .t O) r1 qz (qf (oH [.int .i64 0,.bool false,.slice none 0 0] 103) trivial qz (qf (oA 3 103 .same (.conv .t .agg)) r2 r1 (qO rr qZ)))))))))) M [6,5,4,3] Kg fun τ G=>?_)))
 have G:=X0
 generalize τ 5=v5 at G
 refine Za (Ya (ZA G (qR rr (qR rr (qv 2 102 O r2 r1 (qw 102 O r2 r1 (qk O (fun h=>ZbB (.w h) qi) r2 qz (qf (o_and2 .t .t) r2 qz (qR rr (qv 2 103 O r2 r1 (qw 103 O r2 r1 (qv 1 102 O r2 r1 (qw 102 O r2 r1 (qk O (fun h=>oP (Zb7 ((ZS g.txs v.tx).getD zeroT).ops v.key ow) func197 (Args.two (.w h) (.w h))) r3 qz (qv 2 102 O r2 r1 (qw 102 O r2 r1 (qk O (fun h=>ZbB (.w h) (.w h)) r3 qz (qf (o_and2 .t .t) r2 qz (qO rr qZ))))))))))))))))) M [4] Kg O O fun a w F G=>?_))
 have G:=X8
 refine Za (Yh (Zr hfr G O O O (.bool Wo)))
theorem ZkM {α:Type} [Inhabited α] {p:α→Bool} {l:List α} : decide (0≤Z0 p l)=l.any p:=by
 rcases Zaz p l with ⟨h1,h2⟩ | ⟨i,h1,h2,h3,h4⟩
 ·rw [h1,Yak,show decide ((0:Int) ≤ -1)=false by decide,YaZ]
  intro x hx
  obtain ⟨k,hk,e⟩:=YK hx
  have:=h2 k hk
  rw [Zw hk,e] at this
  simp [this]
 ·rw [h1,show decide ((0:Int)≤(i:Int))=true by simp,Yak,Yal]
  exact ⟨_,ZT h2,h3⟩
theorem Zn1 {α:Type} {p:α→Bool} {l:List α} : (!l.any fun v=>!p v)=l.all p:=by
 induction l with
 | nil=>rfl
 | cons x l ih=>rw [List.any_cons,List.all_cons,← ih];cases p x <;> simp
theorem Zom (l : List Zad) (p : Zad → Bool) (f : FuncId) (fn : Func) (cps : List PV) (hf : prog.funcs[f]? = some fn) (hb : fn.body.isSome = true) (hnn : (fn.name == "runtime.NumGoroutine") = false) (hw : ∀ x, FnP prog f (.agg (Zy x) :: cps) (.bool (p x))) : FnP prog 257 [.sl Zy l, .clos f cps] (.int .i64 (Z0 p l)) := by
 refine FnP.mk func257 O ntmps257 O fun B a w F M hfr G=>?_
 have hll:=Sat.lenSl G (i:=0) rfl
 refine Ya (rZ G (qI qZ) M Kr [0] fun G=>(Ya (Ya ?_)))
 refine rZ G (qR rr (qu Ybw r1 (qJ qZ))) M KD [0] fun G=>Yf ?_
 refine Zj (σ:=(Nat)) [0,1,4,7] [0] (fun s=>[(8,.pv (.int .i64 (s:Int)))]) (fun s=>[]) (fun s=>s≤l.length∧(∀ k,k<s→p (Nn l k)=false)) (fun s=>l.length - s) (0) G ⟨rfl,rfl,rfl,rfl,rfl,tv⟩ ⟨rfl,tv⟩ ⟨Yp _,fun k hk=>absurd hk (YO k)⟩ ?_
 clear G;intro i a w F hC G
 have hC:=X4
 obtain ⟨F,G⟩:=G.nM KD [0]
 have G:=X2
 obtain ⟨hi,hq⟩:=hC
 refine Ya (rZ G (qL r2) M Jc [0] fun G=>Ya ?_)
 refine Zb G O (fun hc0=>?_) (fun hc0=>?_)
 ·skip
  have hil:i<l.length:=XV
  refine Yc (Za (Ya (Yf (Ya (rZ G (qR rr (qO rr qZ)) M Jd [0] fun G=>Ya ?_)))))
  refine Zi G (qR rr (qR rr (qR rr (qy 3 Ybw r2 (qf (oR true 3 .t) r1 qz (qf (ZJ (avs:=[.agg (Zy (Nn l i))]) .t (hw (Nn l i)) hf hb hnn (Args.one (.pagg .t))) r2 qz qZ)))))) M QP [0] O O fun a w F G=>?_
  try simp only [Yg] at G
  refine Za (Zb G O (fun hc1=>?_) (fun hc1=>?_))
  ·skip
   have hg:(i:Int)=Z0 p l:=(ZdW hil hc1 hq).symm
   refine Ya (rZ G (qR rr (qO rr qZ)) M KD [0] fun G=>(Yh (Zq (Ze (Ze (Zq (Ze ?_)))))))
   refine Zr hfr G O O O (.int hg)
  have hne:p (Nn l i)=false:=hc1
  refine Yc (Zh (Za (rZ G (qp r1 (qR rr qZ)) M KD [0] fun G=>?_)))
  replace G:=G.eI 8 i
  obtain ⟨F,G⟩:=G.nM Jt [0]
  exact ⟨(i+1),F,⟨ow,(fun k hk=>by rcases YF (YL hk) with h | h;exact hq k h;rw [h];exact hne)⟩,G,ow⟩
 have hil:i=l.length:=XV
 have hg : -1=Z0 p l:=(Zb4 fun k hk=>hq k XV).symm
 refine Yt (Zg (Zg (Zp (Za (Ya (rZ G (qI qZ) M [4] [0] fun G=>Yh ?_))))))
 refine Zr hfr G O O O (.int hg)
theorem Zof (l : List Zad) (p : Zad → Bool) (f : FuncId) (fn : Func) (cps : List PV) (hf : prog.funcs[f]? = some fn) (hb : fn.body.isSome = true) (hnn : (fn.name == "runtime.NumGoroutine") = false) (hw : ∀ x, FnP prog f (.agg (Zy x) :: cps) (.bool (p x))) : FnP prog 209 [.sl Zy l, .clos f cps] (.bool (l.any p)) := by
 refine FnP.mk func209 O ntmps209 O fun B a w F M hfr G=>Ya ?_
 refine rZ G qB M Kr [0] fun G=>Ya ?_
 refine rZ G (qR rr (qR rr (qf (oP (Zom l p f fn cps hf hb hnn hw) func257 (Args.two .t .t)) r2 qz (qf (ZbB .t qi) r1 qz (qO rr qZ))))) M [4] [0] fun G=>Yh ?_
 refine Zr hfr G O O O (.bool (by rw [ZkM]))
theorem Zlh (v:Zad) (g:Zs) (hs:Zae g.txs):FnP prog 210 [.agg (Zy v),.ref (Zm g)] (.bool (!ZdD g v)):=by
 refine FnP.mk func210 O ntmps210 O fun B a w F M hfr G=>Ya ?_
 refine rS G (qx 101 r1 qB) M Qm Kf fun τ G=>?_
 have G:=X1
 generalize τ 2=v2 at G
 refine Za (Ya (rZ G (qf (oR true 2 .t) r1 qz (qe 3 101 r1 r1 (qf (oP (ZpJ g v hs) func211 (Args.two (.pagg .t) (.pagg .t))) r2 qz (qf (o_not .t) r1 qz (qO rr qZ))))) M [3] Kf fun G=>Yh ?_))
 refine Zr hfr G O O O .refl
theorem Zmy (g:Zs) (t:TxD) (hs:Zae g.txs) (ht:t.ops.length≤1000):FnP prog 139 [.agg (Zm g),.agg (rTx t)] (.bool (Zak g t)):=by
 refine FnP.mk func139 O ntmps139 O fun B a w F M hfr G=>Ya ?_
 refine rS G (qx 101 r1 (qx 102 r1 qB)) M Qu Ke fun τ G=>?_
 have G:=X1
 generalize τ 2=v2,τ 3=v3 at G
 refine Za (Ya (ZaS 2 G kr (cG O (oL true 3 102 .is) r1 r1 (cG O (oP (Zdk t ow) func84 (Args.one (.pagg .t))) r1 trivial ZO.nil)) kr Wd fun a w F G=>?_))
 obtain ⟨F,G⟩:=G.nM [6,4,2] Ke
 have G:=X8
 obtain ⟨F,G⟩:=G.giveRef 101 2 O O rfl
 obtain ⟨F,G⟩:=G.nM [6,4,2] Ji
 try dsimp only [Go.Gm.unCF] at G
 refine Zbl G kr (cG O (Zcp (Args.one .t)) r1 trivial (cG O (oP (Zof (Zd t) (fun v=>!ZdD g v) 210 f210 [.ref (Zm g)] func210 O kr (fun v=>Zlh v g hs)) func209 (Args.two .t .t)) r2 trivial (cG O (o_not .t) r1 trivial (cG O (oN .t) r1 trivial ZO.nil)))) kr Wd fun a w F G=>?_
 obtain ⟨F,G⟩:=G.nM [4] Ji
 have G:=Xu
 refine Za (Yh (Zr hfr G O O O (.bool (by rw [Zn1];rfl))))
theorem ZcP (g:Zs) (t:TxD) (hs:Zae g.txs) (ht:t.ops.length≤1000):FnP prog 132 [.agg (Zm g),.agg (rTx t)] (.bool (Zak g t)):=by
 refine FnP.mk func132 O ntmps132 O fun B a w F M hfr G=>?_
 have hnl:(Zd t).length≤1000:=by have:=Za9 t.id t.ops t.ops.length;rw [Yz] at this;unfold Zd;omega
 refine Ya (rS G (qx 101 r1 (qx 102 r1 qB)) M Qu Ke fun τ G=>?_)
 have G:=X1
 generalize τ 2=v2,τ 3=v3 at G
 refine Za (Ya (Ya (rZ G (qe 3 102 r1 r1 (qf (oP (ZfC t ow) func198 (Args.one (.pagg .t))) r1 qz (qu Ybw r1 (qJ qZ)))) M QV Ke fun G=>Yf ?_)))
 refine Zj (σ:=(Nat)) [2,4,8,9] [0,101,102] (fun s=>[(10,.pv (.int .i64 (s:Int)))]) (fun s=>[]) (fun s=>s≤(Zd t).length∧(∀ k,k<s→ZdD g (Nn (Zd t) k)=true)) (fun s=>(Zd t).length - s) (0) G ⟨rfl,rfl,rfl,rfl,rfl,tv⟩ ⟨rfl,rfl,rfl,tv⟩ ⟨Yp _,fun k hk=>absurd hk (YO k)⟩ ?_
 clear G;intro i a w F hC G
 have hC:=X4
 obtain ⟨F,G⟩:=G.nM QV Ke
 have G:=X2
 obtain ⟨hi,hq⟩:=hC
 refine Ya (rZ G (qL r2) M [11,10,9,8,4,2] Ke fun G=>Ya ?_)
 refine Zb G O (fun hc0=>?_) (fun hc0=>?_)
 ·have hil:i<(Zd t).length:=XV
  refine Yc (Za (Ya (Yf (Ya (rS G (qy 3 Ybw r2 (qf (oR true 3 .t) r1 qz (qf (oH [.int .i64 0,.int .i64 0,.int .i64 0] 103) trivial qz (qS 3 103 r2 r1 qZ)))) M [10,9,8,6,4,2] Kg fun τ G=>?_)))))
  have G:=X0
  generalize τ 6=v6 at G
  try simp only [Yg] at G
  refine Za (Ya (rZ G (qe 2 101 r1 r1 (qe 3 103 r1 r1 (qf (oP (Zme g (Nn (Zd t) i) hs) func199 (Args.two (.pagg .t) (.pagg .t))) r2 qz (qf (o_not .t) r1 qz qZ)))) M [17,10,9,8,4,2] Kg fun G=>?_))
  refine Zb G O (fun hc1=>?_) (fun hc1=>?_)
  ·have hg:false=Zak g t:=(Zhl hil Wj).symm
   refine Ya (rZ G qB M QV Kg fun G=>(Yh (Zq (Ze (Ze (Zq (Ze ?_)))))))
   refine Zr hfr G O O O (.bool hg)
  have hne:ZdD g (Nn (Zd t) i)=true:=Wj
  refine Yc (Zh (Za (rZ G (qp r1 (qR rr qZ)) M QV Kg fun G=>?_)))
  replace G:=G.eI 10 i
  obtain ⟨F,G⟩:=G.nM [9,8,4,2,10] Ke
  exact ⟨(i+1),F,⟨ow,(fun k hk=>by rcases YF (YL hk) with h9 | h9;exact hq k h9;rw [h9];exact hne)⟩,G,ow⟩
 have hil:i=(Zd t).length:=XV
 have hg:true=Zak g t:=(ZhW Wm).symm
 refine Yt (Zg (Zg (Zp (Za (Ya (rZ G qB M [4] Ke fun G=>Yh ?_))))))
 refine Zr hfr G O O O (.bool hg)
theorem Zhe (g:Zs) (k:Int) (hs:Zae g.txs):FnP prog 192 [.agg (Zm g),.int .i64 k] (.sl Zk (ZI g.txs k)):=by
 refine FnP.mk func192 O ntmps192 O fun B a w F M hfr G=>?_
 have hsl:=hs.1
 refine Ya (rS G (qx 101 r1 (qC qZ)) M QS Kf fun τ G=>?_)
 have G:=X1
 generalize τ 2=v2 at G
 refine Za (Ya (rZ G (qC qZ) M KU Kf fun G=>(Ya (Ya ?_))))
 refine rZ G (qg 0 101 r1 r1 (qa 101 r1 r1 (qu Ybt r1 (qJ qZ)))) M Km Kf fun G=>Yf ?_
 replace G:=G.fresh 50 rfl
 replace G:=G.turn 50 O (ZaC (T:=3) (sz:=1) (R:=Zk))
 refine Zj (σ:=(Nat)×(Value)×(List Int)) [1,4,9,10] [0,101] (fun s=>[(11,.pv (.int .i64 (s.1:Int))),(5,.pv (.is s.2.1))]) (fun s=>[(50,.ob (.val s.2.1) (ZC 3 1 Zk s.2.2))]) (fun s=>s.1≤g.txs.length∧(s.2.2=ZI (g.txs.take s.1) k)) (fun s=>g.txs.length - s.1) ((0),(.slice none 0 0),([])) G ⟨rfl,rfl,rfl,rfl,rfl,rfl,tv⟩ ⟨rfl,rfl,rfl,tv⟩ ⟨Yp _,rfl⟩ ?_
 clear G;intro s a w F hC G
 obtain ⟨i,v,out⟩:=s
 have hC:=X4
 obtain ⟨F,G⟩:=G.nM Km Kp
 have G:=X2
 obtain ⟨hi,hq⟩:=hC
 have hol:out.length≤i:=by rw [hq];exact Y5 (Zbx _ _) W4
 have hxl:=fun hil:i<g.txs.length=>hs.at hil
 refine Ya (rZ G (qL r2) M Q0 Kp fun G=>Ya ?_)
 refine Zb G O (fun hc0=>?_) (fun hc0=>?_)
 ·have hil:i<g.txs.length:=XV
  refine Yc (Za (Ya (Yf (Ya (rS G (qy 3 Ybt r2 (qf (oR true 3 .t) r1 qz (qf (oH [.int .i64 0,.bool false,.slice none 0 0] 102) trivial qz (qS 3 102 r2 r1 qZ)))) M Q2 Ki fun τ G=>?_)))))
  have G:=X0
  generalize τ 7=v7 at G
  try simp only [Yg] at G
  refine Za (Ya (rZ G (qg 1 102 r1 r1 (qa 102 r1 r1 (qR rr (qv 2 102 O r2 r1 (qw 102 O r2 r1 (qm O O O O (qk O (fun h=>oP (Zb7 (Nn g.txs i).ops k Wp) func197 (Args.two (.w h) (.w h))) r3 qz (qk O (fun h=>Za7 (.w h) qi) r2 qz (qf (o_and2 .t .t) r2 qz qZ))))))))) M [23,11,10,9,7,5,4,1] Ki fun G=>?_))
  refine Zb G O (fun hc1=>?_) (fun hc1=>?_)
  ·have hBq:((Nn g.txs i).done=true∧0<wcnt (Nn g.txs i).ops k):=by
     have h8:=hc1
     rw [Yr,Yi] at h8
     exact ⟨h8.1,by unfold wcnt;exact_mod_cast h8.2⟩
   refine rS G (qR rr (qg 0 102 r1 r1 (qa 102 r1 r1 (qf (Zo (sz:=1) (zs:=[.int .i64 0]) (r:=[(0,.tmp 26)]) (l:=[_]) Ybs kr kr kr kr O O (.one O .t one_int kr .nil) O) r1 qz (qf (o_append (sz:=1) (bs:=8) 50 (.mk' Ybs kr kr) XW .is (.arr (l':=[_]) .t) XX XJ) ⟨rfl,rfl,tv⟩ ⟨rfl,tv⟩ (qO rr qZ)))))) M Km Ki fun τ G=>?_
   have G:=X0
   generalize τ 28=v28 at G
   refine Zh (Za (rZ G (qp r1 (qR rr qZ)) M Km Ki fun G=>?_))
   replace G:=G.eI 11 i
   obtain ⟨F,G⟩:=G.nM KR KL
   exact ⟨((i+1),_,_),F,⟨ow,Wq⟩,G,ow⟩
  have hBq:¬ ((Nn g.txs i).done=true∧0<wcnt (Nn g.txs i).ops k):=by
    rintro ⟨g1,g2⟩
    have h8:=hc1
    rw [g1,Ybn,YM] at h8
    exact h8 (by unfold wcnt at g2;exact_mod_cast g2)
  refine Yc (Zh (Za (rZ G (qp r1 (qR rr qZ)) M Km Ki fun G=>?_)))
  replace G:=G.eI 11 i
  obtain ⟨F,G⟩:=G.nM KR KL
  exact ⟨((i+1),_,_),F,⟨ow,Wq⟩,G,ow⟩
 have hil:i=g.txs.length:=XV
 refine Yt (Zg (Zg (Zp (Za (Ya (rZ G (qR rr (qO rr qZ)) M [4] Kp fun G=>Yh ?_))))))
 obtain ⟨F,G⟩:=G.give 50 4 O rfl
 refine Zr hfr G O O O (.sl (by rw [hq,hil,Yz]))
theorem Zgx (l:List Int) (n:Int) (hl:l.length≤1000000):FnP prog 200 [.sl Zk l,.int .i64 n] (.sl Zk (ZbZ l n)):=by
 refine FnP.mk func200 O ntmps200 O fun B a w F M hfr G=>Ya ?_
 refine rZ G (qC qZ) M Kr [0] fun G=>Ya ?_
 refine rZ G (qR rr (qR rr (qf (oP (ZlE l n hl) func255 (Args.two .t .t)) r2 qz (qO rr qZ)))) M [4] [0] fun G=>Yh ?_
 refine Zr hfr G O O O .refl
theorem Zjx (g:Zs) (hs:Zae g.txs):FnP prog 191 [.agg (Zm g)] (.sl Zk (Zai g.txs)):=by
 refine FnP.mk func191 O ntmps191 O fun B a w F M hfr G=>?_
 have hsl:=hs.1
 refine Ya (rS G (qx 101 r1 (qC qZ)) M Ky Kf fun τ G=>?_)
 have G:=X1
 generalize τ 1=v1 at G
 refine Za (Ya (rZ G (qC qZ) M Qm Kf fun G=>(Ya (Ya ?_))))
 refine rZ G (qg 0 101 r1 r1 (qa 101 r1 r1 (qu Ybt r1 (qJ qZ)))) M Jg Kf fun G=>Yf ?_
 replace G:=G.ent (i:=3) (s':=.pv (.sl Zk (Zai (g.txs.take 0)))) O (.nilSl)
 refine Zj (σ:=(Nat)) [2,9,10] [0,101] (fun s=>[(11,.pv (.int .i64 (s:Int))),(3,.pv (.sl Zk (Zai (g.txs.take s))))]) (fun s=>[]) (fun s=>s≤g.txs.length∧(True)) (fun s=>g.txs.length - s) (0) G ⟨rfl,rfl,rfl,rfl,rfl,tv⟩ ⟨rfl,rfl,tv⟩ ⟨Yp _,tv⟩ ?_
 clear G;intro i a w F hC G
 have hC:=X4
 obtain ⟨F,G⟩:=G.nM Jg Kf
 have G:=X2
 obtain ⟨hi,hq⟩:=hC
 have hxl:=fun hil:i<g.txs.length=>hs.at hil
 have hkl:(Zai (g.txs.take i)).length≤1000*i:=Zi5 hs i
 refine Ya (rZ G (qL r2) M [12,11,10,9,3,2] Kf fun G=>Ya ?_)
 refine Zb G O (fun hc0=>?_) (fun hc0=>?_)
 ·have hil:i<g.txs.length:=XV
  have hio:=hil
  have htl:=hxl hil
  have hkt:=Zbj (Nn g.txs i)
  have hsl:=hs.1
  refine Yc (Za (Ya (Yf (Ya (rS G (qy 3 Ybt r2 (qf (oR true 3 .t) r1 qz (qf (oH [.int .i64 0,.bool false,.slice none 0 0] 102) trivial qz (qS 3 102 r2 r1 qZ)))) M [11,10,9,5,3,2] Ke fun τ G=>?_)))))
  have G:=X0
  generalize τ 5=v5 at G
  try simp only [Yg] at G
  refine Za (Ya (rZ G (qg 1 102 r1 r1 (qa 102 r1 r1 qZ)) M [16,11,10,9,5,3,2] Ke fun G=>?_))
  refine Zb G O (fun hc1=>?_) (fun hc1=>?_)
  ·have hdn:(Nn g.txs i).done=true:=hc1
   refine Ya (Zi G (qe 3 102 r1 r1 (qf (oP (ZkR (Nn g.txs i) false Wp) func201 (Args.two (.pagg .t) .cb)) r1 qz (qu Ybs r1 (qJ qZ)))) M Qk Ke O O fun a w F G=>?_)
   rw [show Zan (((Nn g.txs i).ops.filter fun o=>false || !o.read).map OpD.key)=Zl (Nn g.txs i) from rfl] at G
   refine Za (Yf ?_)
   replace G:=G.ent (i:=3) (s':=.pv (.sl Zk (((Zl (Nn g.txs i)).take 0).foldl ZbZ (Zai (g.txs.take i))))) O (.refl)
   refine Zj (σ:=(Nat)) [2,9,10,11,18,19] [0,101,102] (fun s=>[(20,.pv (.int .i64 (s:Int))),(3,.pv (.sl Zk (((Zl (Nn g.txs i)).take s).foldl ZbZ (Zai (g.txs.take i)))))]) (fun s=>[]) (fun s=>s≤(Zl (Nn g.txs i)).length∧(True)) (fun s=>(Zl (Nn g.txs i)).length - s) (0) G ⟨rfl,rfl,rfl,rfl,rfl,rfl,rfl,rfl,tv⟩ ⟨rfl,rfl,rfl,tv⟩ ⟨Yp _,tv⟩ ?_
   clear G;intro j a w F hC G
   have hC:=X4
   obtain ⟨F,G⟩:=G.nM Qk Ke
   have G:=X2
   obtain ⟨hi,hq⟩:=hC
   have hjb:=Zdh (Zai (g.txs.take i)) ((Zl (Nn g.txs i)).take j)
   rw [Yj] at hjb
   refine Ya (rZ G (qL r2) M [21,20,19,18,11,10,9,3,2] Ke fun G=>Ya ?_)
   refine Zb G O (fun hc2=>?_) (fun hc2=>?_)
   ·have hil:j<(Zl (Nn g.txs i)).length:=WI
    refine Yc (Za (Ya (Yf (Ya (Zi G (qy 1 Ybs r2 (qf (oR false 1 .t) r1 qz (qO rr qZ))) M [20,19,18,11,10,9,7,3,2] Ke O O fun a w F G=>?_)))))
    try simp only [Yg] at G
    refine Za (Zi G (qR rr (qR rr (qf (oP (Zgx (((Zl (Nn g.txs i)).take j).foldl ZbZ (Zai (g.txs.take i))) _ ow) func200 (Args.two .t .t)) r2 qz (qO rr qZ)))) M Qk Ke O O fun a w F G=>Zh (Za ?_))
    refine rZ G (qp r1 (qR rr qZ)) M Qk Ke fun G=>?_
    replace G:=G.eI 20 j
    replace G:=G.ent (i:=3) (s':=.pv (.sl Zk (((Zl (Nn g.txs i)).take (j+1)).foldl ZbZ (Zai (g.txs.take i))))) O ((.sl (by rw [Zu hil,YaB];rfl)))
    obtain ⟨F,G⟩:=G.nM [19,18,11,10,9,2,3,20] Ke
    exact ⟨(j+1),F,⟨ow,tv⟩,G,ow⟩
   have hil:j=(Zl (Nn g.txs i)).length:=WI
   replace G:=G.ent (i:=3) (s':=.pv (.sl Zk (Zai (g.txs.take (i+1))))) O (.sl (by rw [Zf6 hio,Ye hdn,hil,Yz]))
   refine Yt (Zg (Zg (Zp (Zh (Za (rZ G (qp r1 (qR rr qZ)) M Jg Ke fun G=>?_))))))
   replace G:=G.eI 11 i
   obtain ⟨F,G⟩:=G.nM [10,9,2,3,11] Kf
   exact ⟨(i+1),F,⟨ow,tv⟩,G,ow⟩
  have hdn:¬ (Nn g.txs i).done=true:=by rw [hc1];simp
  replace G:=G.ent (i:=3) (s':=.pv (.sl Zk (Zai (g.txs.take (i+1))))) O (.sl (by rw [Zf6 hio,Yb hdn]))
  refine Yc (Zh (Za (rZ G (qp r1 (qR rr qZ)) M Jg Ke fun G=>?_)))
  replace G:=G.eI 11 i
  obtain ⟨F,G⟩:=G.nM [10,9,2,3,11] Kf
  exact ⟨(i+1),F,⟨ow,tv⟩,G,ow⟩
 have hil:i=g.txs.length:=XV
 refine Yt (Zg (Zg (Zp (Za (Ya (rZ G (qR rr (qO rr qZ)) M [2] Kf fun G=>Yh ?_))))))
 refine Zr hfr G O O O (.sl Wb)
theorem ZlT (g:Zs) (hs:Zae g.txs):FnG prog 140 1 [.agg (Zm g)] [.star []] (PV.one) (fun v=>[HP.ex fun s:List (GE Int (List Int))×Nat=>HP.and (WrL s.1 g.txs) (mapG (fun l:List Int=>PV.sl Zk l) (fun _=>True) (fun n:Int=>Value.int .i64 n) s.1 s.2 v)]):=by
 refine FnG.mk func140 O ntmps140 O kr fun B F0 a w F M hG G=>?_
 have hsl:=hs.1
 obtain ⟨F,G⟩:=G.nM [0] [0]
 refine Ya (rS G (qx 101 r1 (qC qZ)) M Ky Kf fun τ G=>?_)
 have G:=X1
 generalize τ 1=v1 at G
 refine Za (Ya (rS G (qf (ZaA (ek:=(fun p:Value×List Int=>PV.is p.1)) (ok:=(fun _=>True)) (kv:=(fun n:Int=>Value.int .i64 n)) 102) trivial qz (qO rr qZ)) M Qm Ke fun τ G=>?_))
 have G:=Xk
 generalize τ 8=v8 at G
 replace G:=G.fresh 60 rfl
 replace G:=G.turn 60 O (r':=Zjz 3 1 Zk ([]:List (GE Int (Value×List Int)))) (fun _ _ _ _ h=>h)
 obtain ⟨F,G⟩:=G.nM Qm QF
 refine Za (Ya (Ya (rZ G (qg 0 101 r1 r1 (qa 101 r1 r1 (qu Ybt r1 (qJ qZ)))) M J7 QF fun G=>Yf ?_)))
 refine Zj (σ:=(Nat)×(List (GE Int (Value×List Int)))×(Nat)) [2,3,10,11] [0,101] (fun s=>[(12,.pv (.int .i64 (s.1:Int)))]) (fun s=>[(102,.ob (.val v8) (mapG (fun p:Value×List Int=>PV.is p.1) (fun _=>True) (fun n:Int=>Value.int .i64 n) s.2.1 s.2.2)),(60,Zjz 3 1 Zk s.2.1)]) (fun s=>s.1≤g.txs.length∧(WrV s.2.1 (g.txs.take s.1) 0 [])) (fun s=>g.txs.length - s.1) ((0),([]),(0)) G ⟨rfl,rfl,rfl,rfl,rfl,tv⟩ ⟨rfl,rfl,rfl,rfl,tv⟩ ⟨Yp _,ZoC⟩ ?_
 clear G;intro s a w F hC G
 obtain ⟨i,es,ck⟩:=s
 have hC:=X4
 obtain ⟨F,G⟩:=G.nM J7 QF
 have G:=X2
 obtain ⟨hi,hq⟩:=hC
 have hxl:=fun hil:i<g.txs.length=>hs.at hil
 refine Ya (rZ G (qL r2) M [13,12,11,10,3,2] QF fun G=>Ya ?_)
 refine Zb G O (fun hc0=>?_) (fun hc0=>?_)
 ·have hil:i<g.txs.length:=XV
  have hio:=hil
  have hw0:=hq
  have htl:=hxl hil
  have hkt:=Zbj (Nn g.txs i)
  have hsl:=hs.1
  refine Yc (Za (Ya (Yf (Ya (rS G (qy 3 Ybt r2 (qf (oR true 3 .t) r1 qz (qf (oH [.int .i64 0,.bool false,.slice none 0 0] 103) trivial qz (qS 3 103 r2 r1 qZ)))) M [12,11,10,5,3,2] KE fun τ G=>?_)))))
  have G:=X0
  generalize τ 5=v5 at G
  try simp only [Yg] at G
  refine Za (Ya (Ya (rZ G (qg 1 103 r1 r1 (qa 103 r1 r1 (qf (o_not .t) r1 qz qZ))) M [18,12,11,10,5,3,2] KE fun G=>?_)))
  refine Zb G O (fun hc1=>?_) (fun hc1=>?_)
  ·have hdn:(Nn g.txs i).done=false:=Wj
   obtain ⟨es2,he2⟩:∃ z,z=es:=⟨_,rfl⟩
   obtain ⟨ck2,hc2⟩:∃ z,z=ck:=⟨_,rfl⟩
   have hR2:WrV es2 (g.txs.take (i+1)) 0 []:=by rw [he2];exact Zn4 hw0 hio hdn
   rw [← he2,← hc2] at G
   refine Yt (Zg (Zp (Za (rZ G (qp r1 (qR rr qZ)) M J7 KE fun G=>?_))))
   replace G:=G.eI 12 i
   obtain ⟨F,G⟩:=G.nM [11,10,3,2,12] [101,0,60,102]
   exact ⟨((i+1),(es2),(ck2)),F,⟨ow,hR2⟩,G,ow⟩
  have hdn:(Nn g.txs i).done=true:=Wj
  refine Yc (Za (Ya (Zi G (qe 3 103 r1 r1 (qf (oP (Zgo (Nn g.txs i) (by have:=hxl hio;omega)) func82 (Args.one (.pagg .t))) r1 qz (qu Ybs r1 (qJ qZ)))) M Q4 KE O O fun a w F G=>?_)))
  rw [show Zan (((Nn g.txs i).ops.filter fun o=>!o.read).map OpD.key)=Zl (Nn g.txs i) from rfl] at G
  refine Za (Yf (Zj (σ:=(Nat)×(List (GE Int (Value×List Int)))×(Nat)) [2,3,5,10,11,12,20,21] [0,101,103] (fun s=>[(22,.pv (.int .i64 (s.1:Int)))]) (fun s=>[(102,.ob (.val v8) (mapG (fun p:Value×List Int=>PV.is p.1) (fun _=>True) (fun n:Int=>Value.int .i64 n) s.2.1 s.2.2)),(60,Zjz 3 1 Zk s.2.1)]) (fun s=>s.1≤(Zl (Nn g.txs i)).length∧(WrV s.2.1 (g.txs.take i) (Nn g.txs i).id ((Zl (Nn g.txs i)).take s.1))) (fun s=>(Zl (Nn g.txs i)).length - s.1) ((0),(es),(ck)) G ⟨rfl,rfl,rfl,rfl,rfl,rfl,rfl,rfl,rfl,tv⟩ ⟨rfl,rfl,rfl,rfl,rfl,tv⟩ ⟨Yp _,(by simpa using Zl4 hw0)⟩ ?_))
  clear G;intro s a w F hC G
  obtain ⟨j,es,ck⟩:=s
  have hC:=X4
  obtain ⟨F,G⟩:=G.nM Q4 KE
  have G:=X2
  obtain ⟨hi,hq⟩:=hC
  refine Ya (rZ G (qL r2) M [23,22,21,20,12,11,10,5,3,2] KE fun G=>Ya ?_)
  refine Zb G O (fun hc2=>?_) (fun hc2=>?_)
  ·have hil:j<(Zl (Nn g.txs i)).length:=WI
   have hwo:=Znd hq (ZeE _) hil
   have hwn:=Zbx (g.txs.take i) (Nn (Zl (Nn g.txs i)) j)
   rw [Yj] at hwn
   rw [← hwo] at hwn
   refine Yc (Za (Ya (Yf (Ya (Zi G (qy 1 Ybs r2 (qf (oR false 1 .t) r1 qz (qO rr qZ))) M [22,21,20,12,11,10,7,5,3,2] KE O O fun a w F G=>?_)))))
   try simp only [Yg] at G
   refine Za (ZaS 5 G kr (cG O (oM .t) r1 trivial (cG O (oM .t) r1 trivial (cG O (oM .t) r1 trivial (cG O (oM .t) r1 trivial (cG O (ZX (ek:=(fun p:Value×List Int=>PV.is p.1)) (z0:=ZaP) 102 Ybz (Zcl Ybx) kr (fun _ _=>⟨rfl,rfl⟩) .is (ZD.int .t O)) r2 r1 ZO.nil))))) kr Wd fun a w F G=>?_)
   obtain ⟨F,G⟩:=G.nM QI KE
   have G:=Xu
   obtain ⟨F,G⟩:=G.takeKey (T:=3) (sz:=1) (R:=Zk) 60 61 (Nn (Zl (Nn g.txs i)) j) O rfl
   obtain ⟨F,G⟩:=G.nM QI Qp
   refine Zc4 4 G kr (cG O (oF 0 103 .is) r1 r1 (cG O (oL false 1 103 .adr) r1 r1 (cG O (Zo (sz:=1) (zs:=[.int .i64 0]) (r:=[(0,.tmp 32)]) (l:=[_]) Ybs kr kr kr kr O O (.one O .t one_int kr .nil) O) r1 trivial (cG O (o_append (sz:=1) (bs:=8) 61 (.mk' Ybs kr kr) XW .is (.arr (l':=[_]) .t) W7 XJ) ⟨rfl,rfl,tv⟩ ⟨rfl,tv⟩ ZO.nil)))) kr Wd fun a w F G=>?_
   replace G:=G.sub
   obtain ⟨F,G⟩:=G.nM [34,27,26,22,21,20,12,11,10,5,3,2] Qp
   have G:=X0
   generalize Act.tau a 34=v34 at G
   refine Zbl G kr (cG O (Za0 (ek:=(fun p:Value×List Int=>PV.is p.1)) (v:=((v34,((gGet (Nn (Zl (Nn g.txs i)) j) es).getD ZaP).2 ++ [(Nn g.txs i).id]):Value×List Int)) 102 Ybz (Zcl Ybx) .is (ZD.int .t O) .t) r3 r1 ZO.nil) kr Wd fun a w F G=>?_
   obtain ⟨F,G⟩:=G.nM Q4 Qp
   have G:=Xu
   refine Zh (Za (rZ G (qp r1 (qR rr qZ)) M Q4 Qp fun G=>?_))
   obtain ⟨F,G⟩:=G.putKey (T:=3) (sz:=1) (R:=Zk) 60 61 (Nn (Zl (Nn g.txs i)) j) ck O O rfl
   replace G:=G.eI 22 j
   obtain ⟨F,G⟩:=G.nM [21,20,12,11,10,5,3,2,22] [103,101,0,60,102]
   exact ⟨((j+1),((gPut (Nn (Zl (Nn g.txs i)) j) (v34,((gGet (Nn (Zl (Nn g.txs i)) j) es).getD ZaP).2 ++ [(Nn g.txs i).id]) (es,ck)).1),((gPut (Nn (Zl (Nn g.txs i)) j) (v34,((gGet (Nn (Zl (Nn g.txs i)) j) es).getD ZaP).2 ++ [(Nn g.txs i).id]) (es,ck)).2)),F,⟨ow,Zoe hq (ZeE _) hil⟩,G,ow⟩
  have hil:j=(Zl (Nn g.txs i)).length:=WI
  obtain ⟨es2,he2⟩:∃ z,z=es:=⟨_,rfl⟩
  obtain ⟨ck2,hc2⟩:∃ z,z=ck:=⟨_,rfl⟩
  rw [hil,Yz] at hq
  have hR2:WrV es2 (g.txs.take (i+1)) 0 []:=by rw [he2];exact Zoa hq hio hdn
  rw [← he2,← hc2] at G
  refine Yt (Zg (Zg (Zp (Zh (Za (rZ G (qp r1 (qR rr qZ)) M J7 KE fun G=>?_))))))
  replace G:=G.eI 12 i
  obtain ⟨F,G⟩:=G.nM [11,10,3,2,12] [101,0,60,102]
  exact ⟨((i+1),(es2),(ck2)),F,⟨ow,hR2⟩,G,ow⟩
 have hil:i=g.txs.length:=XV
 have hwl:=ZmR hq
 rw [hil,Yz] at hwl
 refine Yt (Zg (Zg (Zp (Za (Ya (rZ G (qR rr (qO rr qZ)) M [2] QF fun G=>Yh ?_))))))
 obtain ⟨F,G⟩:=G.giveMap 102 60 O O rfl
 obtain ⟨F,G⟩:=G.rename 102 1 O rfl
 have G:=G.turn 1 O (r':=RS.hp (HP.ex fun s:List (GE Int (List Int))×Nat=>HP.and (WrL s.1 g.txs) (mapG (fun l:List Int=>PV.sl Zk l) (fun _=>True) (fun n:Int=>Value.int .i64 n) s.1 s.2 v8))) (fun _ _ _ _ h=>⟨(Zd7 es,ck),hwl,h⟩)
 refine Zac (h':=fun v=>HP.ex fun s:List (GE Int (List Int))×Nat=>HP.and (WrL s.1 g.txs) (mapG (fun l:List Int=>PV.sl Zk l) (fun _=>True) (fun n:Int=>Value.int .i64 n) s.1 s.2 v)) hG G O (.tmp O .nil) (.one .one) rfl
theorem Zp9 (l:List Int) (v:Int):FnP prog 256 [.sl Zk l,.int .i64 v] (.bool (decide (v ∈ l))):=by
 refine FnP.mk func256 O ntmps256 O fun B a w F M hfr G=>?_
 have hll:=Sat.lenSl G (i:=0) rfl
 refine Ya (rZ G qB M Kr [0] fun G=>(Ya (Ya ?_)))
 refine rZ G (qR rr (qu Ybs r1 (qJ qZ))) M Qj [0] fun G=>Yf ?_
 refine Zj (σ:=(Nat)) [1,4,7,8] [0] (fun s=>[(9,.pv (.int .i64 (s:Int)))]) (fun s=>[]) (fun s=>s≤l.length∧(∀ k,k<s→Nn l k≠v)) (fun s=>l.length - s) (0) G ⟨rfl,rfl,rfl,rfl,rfl,tv⟩ ⟨rfl,tv⟩ ⟨Yp _,fun k hk=>absurd hk (YO k)⟩ ?_
 clear G;intro i a w F hC G
 have hC:=X4
 obtain ⟨F,G⟩:=G.nM Qj [0]
 have G:=X2
 obtain ⟨hi,hq⟩:=hC
 refine Ya (rZ G (qL r2) M [10,9,8,7,4,1] [0] fun G=>Ya ?_)
 refine Zb G O (fun hc0=>?_) (fun hc0=>?_)
 ·have hil:i<l.length:=XV
  refine Yc (Za (Ya (Yf (Ya (Zi G (qy 1 Ybs r2 (qf (oR false 1 .t) r1 qz (qO rr qZ))) M [9,8,7,6,4,1] [0] O O fun a w F G=>?_)))))
  try simp only [Yg] at G
  refine Za (Ya (rZ G (qR rr (qR rr (qf (o_eql .t .t) r2 qz qZ))) M [15,9,8,7,4,1] [0] fun G=>?_))
  refine Zb G O (fun hc1=>?_) (fun hc1=>?_)
  ·have hg:true=decide (v ∈ l):=(YS (by simp at hc1;rw [← hc1];exact ZT hil)).symm
   refine Ya (rZ G qB M Qj [0] fun G=>(Yh (Zq (Ze (Ze (Zq (Ze ?_)))))))
   refine Zr hfr G O O O (.bool hg)
  have hne:Nn l i≠v:=XU
  refine Yc (Zh (Za (rZ G (qp r1 (qR rr qZ)) M Qj [0] fun G=>?_)))
  replace G:=G.eI 9 i
  obtain ⟨F,G⟩:=G.nM [8,7,4,1,9] [0]
  exact ⟨(i+1),F,⟨ow,(fun k hk=>by rcases YF (YL hk) with h | h;exact hq k h;rw [h];exact hne)⟩,G,ow⟩
 have hil:i=l.length:=XV
 have hg:false=decide (v ∈ l):=by
   rw [Yak,YM]
   intro hv
   obtain ⟨k,hk,e⟩:=YK hv
   exact hq k XV (by rw [Zw hk];exact e)
 refine Yt (Zg (Zg (Zp (Za (Ya (rZ G qB M [4] [0] fun G=>Yh ?_))))))
 refine Zr hfr G O O O (.bool hg)
theorem ZoF (l:List Int) (tx:Int) (hl:l.length≤1000000):FnP prog 161 [.sl Zk l,.int .i64 tx] (.sl Zk (withO l tx)):=by
 refine FnP.mk func161 O ntmps161 O fun B a w F M hfr G=>?_
 have hll:=Sat.lenSl G (i:=0) rfl
 refine Ya (rZ G (qC qZ) M Kr [0] fun G=>Ya ?_)
 replace G:=G.fresh 101 rfl
 refine rS G (qR rr (qf (Zbd 101 (Zc3 l hl) func91 O kr (Args.one .t) Zar) r1 r1 (qO rr qZ))) M KA Kf fun τ G=>?_
 have G:=Xd
 generalize τ 7=v7 at G
 refine Za (Ya (Ya (rZ G (qR rr (qR rr (qf (oP (ZjF l tx) func238 (Args.two .t .t)) r2 qz qZ))) M [10,5,4,1] Kf fun G=>?_)))
 refine Zb G O (fun hc0=>?_) (fun hc0=>?_)
 ·have hm:tx ∈ l:=Wk
  have hg:l=withO l tx:=(Ye hm).symm
  refine Ya (rZ G (qR rr (qO rr qZ)) M [5,4,1] Kf fun G=>(Yh (Ze ?_)))
  obtain ⟨F,G⟩:=G.give 101 4 O rfl
  refine Zr hfr G O O O (.sl hg)
 have hm:¬ tx ∈ l:=Wk
 have hg:l ++ [tx] = withO l tx:=(Yb hm).symm
 refine Yc (Za (Ya (rS G (qR rr (qR rr (qf (Zo (sz:=1) (zs:=[.int .i64 0]) (r:=[(0,.tmp 13)]) (l:=[_]) Ybs kr kr kr kr O O (.one O .t one_int kr .nil) O) r1 qz (qf (o_append (sz:=1) (bs:=8) 101 (.mk' Ybs kr kr) XW .is (.arr (l':=[_]) .t) XX XJ) ⟨rfl,rfl,tv⟩ ⟨rfl,tv⟩ (qO rr qZ))))) M [4] Kf fun τ G=>?_)))
 have G:=X3
 generalize τ 15=v15 at G
 refine Za (Yh ?_)
 obtain ⟨F,G⟩:=G.give 101 4 O rfl
 refine Zr hfr G O O O (.sl hg)
theorem Zmp (l:List Int) (tx:Int) (hl:l.length≤1000000):FnP prog 202 [.sl Zk l,.int .i64 tx] (.sl Zk (withO l tx)):=by
 refine FnP.mk func202 O ntmps202 O fun B a w F M hfr G=>?_
 have hll:=Sat.lenSl G (i:=0) rfl
 refine Ya (rZ G (qC qZ) M Kr [0] fun G=>Ya ?_)
 refine rS G (qf (Z2 (R:=Zk) (sz:=1) 101 Ybs kr) trivial qz (qR rr (qf (o_append (sz:=1) (bs:=8) 101 (.mk' Ybs kr kr) XW .same (.sl .t) XX XJ) ⟨rfl,rfl,tv⟩ ⟨rfl,tv⟩ (qO rr qZ)))) M KA Kf fun τ G=>?_
 have G:=X3
 generalize τ 8=v8 at G
 refine Za (Ya (Ya (rZ G (qR rr (qR rr (qf (oP (Zp9 l tx) func256 (Args.two .t .t)) r2 qz (qf (o_not .t) r1 qz qZ)))) M [12,5,4,1] Kf fun G=>?_)))
 refine Zb G O (fun hc0=>?_) (fun hc0=>?_)
 ·have hm:¬ tx ∈ l:=Wk
  have hg:[] ++ l ++ [tx] = withO l tx:=(Yb hm).symm
  refine rS G (qR rr (qR rr (qf (Zo (sz:=1) (zs:=[.int .i64 0]) (r:=[(0,.tmp 14)]) (l:=[_]) Ybs kr kr kr kr O O (.one O .t one_int kr .nil) O) r1 qz (qf (o_append (sz:=1) (bs:=8) 101 (.mk' Ybs kr kr) XW .is (.arr (l':=[_]) .t) XX XJ) ⟨rfl,rfl,tv⟩ ⟨rfl,tv⟩ (qO rr qZ))))) M KZ Kf fun τ G=>?_
  have G:=X3
  generalize τ 16=v16 at G
  refine Za (Ya (rZ G (qR rr (qO rr qZ)) M [4] Kf fun G=>Yh ?_))
  obtain ⟨F,G⟩:=G.give 101 4 O rfl
  refine Zr hfr G O O O (.sl hg)
 have hm:tx ∈ l:=Wk
 have hg:[] ++ l=withO l tx:=(Ye hm).symm
 refine Yc (Za (Ya (rZ G (qR rr (qO rr qZ)) M [4] Kf fun G=>Yh ?_)))
 obtain ⟨F,G⟩:=G.give 101 4 O rfl
 refine Zr hfr G O O O (.sl hg)
theorem ZjP (x tx:Int):FnP prog 240 [.int .i64 x,.ref [.int .i64 tx]] (.bool (decide (x=tx))):=by
 refine FnP.mk func240 O ntmps240 O fun B a w F M hfr G=>Ya ?_
 refine rZ G qB M [3,1,0] [0] fun G=>Ya ?_
 refine rZ G (qR rr (qf (oR false 1 .t) r1 qz (qf (o_eql .t .t) r2 qz (qO rr qZ)))) M [3] [0] fun G=>Yh ?_
 refine Zr hfr G O O O .refl
theorem Zjt (l:List Int) (tx:Int) (hl:l.length≤1000000):FnP prog 162 [.sl Zk l,.int .i64 tx] (.sl Zk (withoutO l tx)):=by
 refine FnP.mk func162 O ntmps162 O fun B a w F M hfr G=>?_
 have hll:=Sat.lenSl G (i:=0) rfl
 refine Ya (rS G (qf (Zly 101 .t one_int) r1 qz (qC qZ)) M Q7 Kf fun τ G=>?_)
 try dsimp only [RS.sub,SF.sub,CF.sub,csub,Anc.sub,List.map,zCF,Zk] at G
 generalize τ 3=v3 at G
 obtain ⟨F,G⟩:=G.giveRef 101 3 O O rfl
 obtain ⟨F,G⟩:=G.nM Q7 [0]
 try dsimp only [Go.Gm.unCF] at G
 refine Za (Ya ?_)
 replace G:=G.fresh 102 rfl
 refine Zh1 G kr (nM O O (nf (Zbd 102 (Zc3 l hl) func91 O kr (Args.one .t) Zar) r1 r1 (nn [6,4,3] [102,0] O O (nf (Zcp (Args.one .t)) r1 trivial (nf (Zmz 6 102 (fun v=>Zog _ l hl (fun x=>decide (x=tx)) 240 f240 [.ref [.int .i64 tx]] func240 O kr (fun x=>ZjP x tx)) func239 O kr (Zm5.two .same (.of .t)) Zar) r2 r1 (nn [8,4] [102,0] O O (nN O O ZO.nil))))))) kr Wd fun a w F G=>?_
 replace G:=G.sub
 obtain ⟨F,G⟩:=G.nM [4] Ji
 have G:=Xd
 generalize Act.tau a 8=v8 at G
 refine Za (Yh ?_)
 obtain ⟨F,G⟩:=G.give 102 4 O rfl
 refine Zr hfr G O O O (.sl (by simp [withoutO]))
theorem Zim (l:List Int) (tx:Int) (hl:l.length≤1000000):FnP prog 203 [.sl Zk l,.int .i64 tx] (.sl Zk (withoutO l tx)):=by
 refine FnP.mk func203 O ntmps203 O fun B a w F M hfr G=>?_
 have hll:=Sat.lenSl G (i:=0) rfl
 refine Ya (rZ G (qC qZ) M Kr [0] fun G=>Ya ?_)
 refine rZ G (qC qZ) M KA [0] fun G=>(Ya (Ya ?_))
 refine rZ G (qR rr (qu Ybs r1 (qJ qZ))) M Kw [0] fun G=>Yf ?_
 replace G:=G.fresh 50 rfl
 replace G:=G.turn 50 O (ZaC (T:=3) (sz:=1) (R:=Zk))
 refine Zj (σ:=(Nat)×(Value)×(List Int)) [1,4,8,9] [0] (fun s=>[(10,.pv (.int .i64 (s.1:Int))),(5,.pv (.is s.2.1))]) (fun s=>[(50,.ob (.val s.2.1) (ZC 3 1 Zk s.2.2))]) (fun s=>s.1≤l.length∧(s.2.2=withoutO (l.take s.1) tx)) (fun s=>l.length - s.1) ((0),(.slice none 0 0),([])) G ⟨rfl,rfl,rfl,rfl,rfl,rfl,tv⟩ ⟨rfl,rfl,tv⟩ ⟨Yp _,rfl⟩ ?_
 clear G;intro s a w F hC G
 obtain ⟨i,v,out⟩:=s
 have hC:=X4
 obtain ⟨F,G⟩:=G.nM Kw Ks
 have G:=X2
 obtain ⟨hi,hq⟩:=hC
 have hol:out.length≤i:=K6
 refine Ya (rZ G (qL r2) M Jh Ks fun G=>Ya ?_)
 refine Zb G O (fun hc0=>?_) (fun hc0=>?_)
 ·have hil:i<l.length:=XV
  refine Yc (Za (Ya (Yf (Ya (Zi G (qy 1 Ybs r2 (qf (oR false 1 .t) r1 qz (qO rr qZ))) M Jj Ks O O fun a w F G=>?_)))))
  try simp only [Yg] at G
  refine Za (Ya (rZ G (qR rr (qR rr (qf (o_neq .t .t) r2 qz qZ))) M [16,10,9,8,7,5,4,1] Ks fun G=>?_))
  refine Zb G O (fun hc1=>?_) (fun hc1=>?_)
  ·have hBq:Nn l i≠tx:=Wj
   refine rS G (qR rr (qR rr (qf (Zo (sz:=1) (zs:=[.int .i64 0]) (r:=[(0,.tmp 18)]) (l:=[_]) Ybs kr kr kr kr O O (.one O .t one_int kr .nil) O) r1 qz (qf (o_append (sz:=1) (bs:=8) 50 (.mk' Ybs kr kr) XW .is (.arr (l':=[_]) .t) XX XJ) ⟨rfl,rfl,tv⟩ ⟨rfl,tv⟩ (qO rr qZ))))) M Kw Ks fun τ G=>?_
   have G:=X3
   generalize τ 20=v20 at G
   refine Zh (Za (rZ G (qp r1 (qR rr qZ)) M Kw Ks fun G=>?_))
   replace G:=G.eI 10 i
   obtain ⟨F,G⟩:=G.nM Qn QU
   exact ⟨((i+1),_,_),F,⟨ow,Wr⟩,G,ow⟩
  have hBq:Nn l i=tx:=Wj
  refine Yc (Zh (Za (rZ G (qp r1 (qR rr qZ)) M Kw Ks fun G=>?_)))
  replace G:=G.eI 10 i
  obtain ⟨F,G⟩:=G.nM Qn QU
  exact ⟨((i+1),_,_),F,⟨ow,Wr⟩,G,ow⟩
 have hil:i=l.length:=XV
 refine Yt (Zg (Zg (Zp (Za (Ya (rZ G (qR rr (qO rr qZ)) M [4] Ks fun G=>Yh ?_))))))
 obtain ⟨F,G⟩:=G.give 50 4 O rfl
 refine Zr hfr G O O O (.sl (by rw [hq,hil,Yz]))
theorem Zho (l:List Int) (v:Int):FnP prog 204 [.sl Zk l,.int .i64 v] (.int .i64 ((l.count v:Nat):Int)):=by
 refine FnP.mk func204 O ntmps204 O fun B a w F M hfr G=>?_
 have hll:=Sat.lenSl G (i:=0) rfl
 refine Ya (rZ G (qI qZ) M Kr [0] fun G=>Ya ?_)
 refine rZ G (qI qZ) M KA [0] fun G=>(Ya (Ya ?_))
 refine rZ G (qR rr (qu Ybs r1 (qJ qZ))) M Kw [0] fun G=>Yf ?_
 refine Zj (σ:=(Nat)) [1,4,8,9] [0] (fun s=>[(10,.pv (.int .i64 (s:Int))),(5,.pv (.int .i64 (((l.take s).count v:Nat):Int)))]) (fun s=>[]) (fun s=>s≤l.length∧(True)) (fun s=>l.length - s) (0) G ⟨rfl,rfl,rfl,rfl,rfl,rfl,tv⟩ ⟨rfl,tv⟩ ⟨Yp _,tv⟩ ?_
 clear G;intro i a w F hC G
 have hC:=X4
 obtain ⟨F,G⟩:=G.nM Kw [0]
 have G:=X2
 obtain ⟨hi,hq⟩:=hC
 refine Ya (rZ G (qL r2) M Jh [0] fun G=>Ya ?_)
 refine Zb G O (fun hc0=>?_) (fun hc0=>?_)
 ·have hil:i<l.length:=XV
  refine Yc (Za (Ya (Yf (Ya (Zi G (qy 1 Ybs r2 (qf (oR false 1 .t) r1 qz (qO rr qZ))) M Jj [0] O O fun a w F G=>?_)))))
  try simp only [Yg] at G
  refine Za (Ya (rZ G (qR rr (qR rr (qf (o_eql .t .t) r2 qz qZ))) M [16,10,9,8,5,4,1] [0] fun G=>?_))
  refine Zb G O (fun hc1=>?_) (fun hc1=>?_)
  ·have hcl:(l.take i).count v≤(l.take i).length:=List.count_le_length
   have hcl2:(l.take i).length≤i:=W4
   have hcc:IntKind.wrap .i64 ((((l.take i).count v:Nat):Int)+1)=(((l.take (i+1)).count v:Nat):Int):=by
     have e:v=Nn l i:=Wj
     rw [ZK ow,Zu hil,List.count_append,← e];simp
   refine Zi G (qR rr (qp r1 (qO rr qZ))) M Kw [0] O O fun a w F G=>Zh (Za ?_)
   refine rZ G (qp r1 (qR rr qZ)) M Kw [0] fun G=>?_
   replace G:=G.eI 10 i
   replace G:=G.ent (i:=5) (s':=.pv (.int .i64 (((l.take (i+1)).count v:Nat):Int))) O (.int hcc)
   obtain ⟨F,G⟩:=G.nM Qn [0]
   exact ⟨(i+1),F,⟨ow,tv⟩,G,ow⟩
  have hcc:(((l.take i).count v:Nat):Int)=(((l.take (i+1)).count v:Nat):Int):=by
    have e:¬ v=Nn l i:=Wj
    have e2:¬ Nn l i=v:=fun h=>e h.symm
    rw [Zu hil,List.count_append,List.count_singleton];simp [e2]
  refine Yc (Zh (Za (rZ G (qp r1 (qR rr qZ)) M Kw [0] fun G=>?_)))
  replace G:=G.eI 10 i
  replace G:=G.ent (i:=5) (s':=.pv (.int .i64 (((l.take (i+1)).count v:Nat):Int))) O (.int hcc)
  obtain ⟨F,G⟩:=G.nM Qn [0]
  exact ⟨(i+1),F,⟨ow,tv⟩,G,ow⟩
 have hil:i=l.length:=XV
 refine Yt (Zg (Zg (Zp (Za (Ya (rZ G (qR rr (qO rr qZ)) M [4] [0] fun G=>Yh ?_))))))
 refine Zr hfr G O O O (.int Wb)
theorem ZiB (x y:List Int):FnP prog 136 [.sl Zk x,.sl Zk y] (.bool (decide (x.Perm y))):=by
 refine FnP.mk func136 O ntmps136 O fun B a w F M hfr G=>?_
 have hxl:=Sat.lenSl G (i:=0) rfl
 have hyl:=Sat.lenSl G (i:=1) rfl
 refine Ya (rZ G qB M Kr [0] fun G=>(Ya (Ya ?_)))
 refine rZ G (qR rr (qu Ybs r1 (qR rr (qu Ybs r1 (qf (o_neq .t .t) r2 qz qZ))))) M [11,4,1,0] [0] fun G=>?_
 refine Zb G O (fun hc0=>?_) (fun hc0=>?_)
 ·have hg:false=decide (x.Perm y):=(Yw fun hp=>by have:=hp.length_eq;simp at hc0;omega).symm
  refine Ya (rZ G qB M Kr [0] fun G=>(Yh (Ze ?_)))
  refine Zr hfr G O O O (.bool hg)
 have hxy:x.length=y.length:=XV
 refine Yc (Za (Ya (Ya (rZ G (qR rr (qu Ybs r1 (qJ qZ))) M QQ [0] fun G=>Yf ?_))))
 refine Zj (σ:=(Nat)) [0,1,4,12,13] [0] (fun s=>[(14,.pv (.int .i64 (s:Int)))]) (fun s=>[]) (fun s=>s≤x.length∧(∀ k,k<s→x.count (Nn x k)=y.count (Nn x k))) (fun s=>x.length - s) (0) G ⟨rfl,rfl,rfl,rfl,rfl,rfl,tv⟩ ⟨rfl,tv⟩ ⟨Yp _,fun k hk=>absurd hk (YO k)⟩ ?_
 clear G;intro i a w F hC G
 have hC:=X4
 obtain ⟨F,G⟩:=G.nM QQ [0]
 have G:=X2
 obtain ⟨hi,hq⟩:=hC
 refine Ya (rZ G (qL r2) M [15,14,13,12,4,1,0] [0] fun G=>Ya ?_)
 refine Zb G O (fun hc1=>?_) (fun hc1=>?_)
 ·have hil:i<x.length:=XU
  refine Yc (Za (Ya (Yf (Ya (Zi G (qy 1 Ybs r2 (qf (oR false 1 .t) r1 qz (qO rr qZ))) M [14,13,12,6,4,1,0] [0] O O fun a w F G=>?_)))))
  try simp only [Yg] at G
  refine Za (Ya (rZ G (qR rr (qR rr (qf (oP (Zho x (Nn x i)) func204 (Args.two .t .t)) r2 qz (qR rr (qR rr (qf (oP (Zho y (Nn x i)) func204 (Args.two .t .t)) r2 qz (qf (o_neq .t .t) r2 qz qZ))))))) M [24,14,13,12,4,1,0] [0] fun G=>?_))
  refine Zb G O (fun hc2=>?_) (fun hc2=>?_)
  ·have hg:false=decide (x.Perm y):=(Yw fun hp=>by have:=hp.count_eq (Nn x i);simp at hc2;omega).symm
   refine Ya (rZ G qB M QQ [0] fun G=>(Yh (Zq (Ze (Ze (Zq (Ze ?_)))))))
   refine Zr hfr G O O O (.bool hg)
  have hne:x.count (Nn x i)=y.count (Nn x i):=WI
  refine Yc (Zh (Za (rZ G (qp r1 (qR rr qZ)) M QQ [0] fun G=>?_)))
  replace G:=G.eI 14 i
  obtain ⟨F,G⟩:=G.nM [13,12,4,1,0,14] [0]
  exact ⟨(i+1),F,⟨ow,(fun k hk=>by rcases YF (YL hk) with h | h;exact hq k h;rw [h];exact hne)⟩,G,ow⟩
 have hil:i=x.length:=XU
 have hg:true=decide (x.Perm y):=(YS (ZhU.1 ⟨hxy,fun v hv=>by obtain ⟨k,hk,rfl⟩:=YK hv;rw [← Zw hk];exact hq k XU⟩)).symm
 refine Yt (Zg (Zg (Zp (Za (Ya (rZ G qB M [4] [0] fun G=>Yh ?_))))))
 refine Zr hfr G O O O (.bool hg)
theorem Zbc (g:Zs) (hs:Zbe g):FnP prog 128 [.agg (Zm g)] (.bool (decide (Zx g))):=by
 refine FnP.mk func128 O ntmps128 O fun B a w F M hfr G=>?_
 have hsl:=hs.1.1
 have hso:=hs.2.1
 refine Ya (rS G (qx 101 r1 qB) M Ky Kf fun τ G=>?_)
 have G:=X1
 generalize τ 1=v1 at G
 refine Za (Ya (Ya (rZ G (qg 0 101 r1 r1 (qa 101 r1 r1 (qu Ybt r1 (qf (Za7 .t qi) r1 qz qZ)))) M [11,2,1] Kf fun G=>?_)))
 refine Zb G O (fun hc0=>?_) (fun hc0=>?_)
 ·have hg:=ZcF (h:=g) XV
  refine Ya (rZ G qB M Ky Kf fun G=>(Yh (Ze ?_)))
  refine Zr hfr G O O O (.bool hg)
 have hlong:g.txs.length≤4096:=XV
 refine Yc (Za (Ya (Ya (rZ G (qg 0 101 r1 r1 (qa 101 r1 r1 (qu Ybt r1 (qJ qZ)))) M KX Kf fun G=>Yf ?_))))
 refine Zj (σ:=(Nat)) [1,2,13,14] [0,101] (fun s=>[(15,.pv (.int .i64 (s:Int)))]) (fun s=>[]) (fun s=>s≤g.txs.length∧(∀ k,k<s→Ziu g k)) (fun s=>g.txs.length - s) (0) G ⟨rfl,rfl,rfl,rfl,rfl,tv⟩ ⟨rfl,rfl,tv⟩ ⟨Yp _,fun k hk=>absurd hk (YO k)⟩ ?_
 clear G;intro i a w F hC G
 have hC:=X4
 obtain ⟨F,G⟩:=G.nM KX Kf
 have G:=X2
 obtain ⟨hi,hq⟩:=hC
 have hxl:=fun hil:i<g.txs.length=>hs.1.at hil
 have hiw:0<i→IntKind.wrap .i64 ((i:Int) - 1)=((i - 1:Nat):Int):=fun h0=>by rw [ZK ow];omega
 refine Ya (rZ G (qL r2) M [16,15,14,13,2,1] Kf fun G=>Ya ?_)
 refine Zb G O (fun hc1=>?_) (fun hc1=>?_)
 ·have hil:i<g.txs.length:=XU
  refine Yc (Za (Ya (Yf (Ya (rS G (qR rr (qy 3 Ybt r2 (qf (oR true 3 .t) r1 qz (qf (oH [.int .i64 0,.bool false,.slice none 0 0] 102) trivial qz (qO rr (qS 3 102 r2 r1 qZ)))))) M [15,14,13,4,3,2,1] Ke fun τ G=>?_)))))
  have G:=X0
  generalize τ 4=v4 at G
  try simp only [Yg] at G
  refine Za (Ya (ZA G (qR rr (qf (Za7 .t qi) r1 qz (qR rr (qv 0 101 O r2 r1 (qw 101 O r2 r1 (qm O O O O (qk O (fun h=>o_sub (.w h) qi) r2 qz (qk O (fun h=>ZP (sz:=3) (.mk Ybt kr) XW (.w h) (.w h) Ws Ws) r3 qz (qk O (fun h=>oG 0 (.w h)) r2 qz (qk O (fun h=>oR false 1 (.w h)) r2 qz (qv 0 102 O r2 r1 (qw 102 O r2 r1 (qk O (fun h=>ZbB (.w h) (.w h)) r3 qz (qf (o_and2 .t .t) r2 qz (qR rr (qk O (fun h=>oL true 3 102 .is) r2 r1 (qk O (fun h=>oP (Zch (Nn g.txs i)) func131 (Args.one (.pagg (.w h)))) r2 qz (qk O (fun h=>o_neq (.w h) qi) r2 qz (qf (ZaU .t .t) r2 qz (qR rr (qk O (fun h=>oL true 2 101 .is) r2 r1 (qk O (fun h=>oL true 3 102 .is) r2 r1 (qk O (fun h=>oP (ZcP g (Nn g.txs i) hs.1 Wp) func132 (Args.two (.pagg (.w h)) (.pagg (.w h)))) r3 qz (qk O (fun h=>o_not (.w h)) r2 qz (qf (ZaU .t .t) r2 qz qZ))))))))))))))))))))))))) M [44,15,14,13,2,1] Ke O O fun a w F G=>?_))
  have G:=X8
  try simp only [Yg] at G
  refine Za (Zb G O (fun hc2=>?_) (fun hc2=>?_))
  ·have hbad:¬ Ziu g i:=by
     rintro ⟨g1,g2,g3⟩
     have h9:=hc2
     by_cases hi0:0<i
     · rw [hiw hi0,Yg] at h9
       have:=g1 hi0
       simp [g2,g3] at h9
       omega
     · have hi1:i=0:=ow
       subst hi1
       simp [g2,g3] at h9
   have hg:=Zd8 hil hbad
   refine Ya (rZ G qB M KX Ke fun G=>(Yh (Zq (Ze (Ze (Zq (Ze ?_)))))))
   refine Zr hfr G O O O (.bool hg)
  have hgood:Ziu g i:=by
    have h9:=hc2
    by_cases hi0:0<i
    · rw [hiw hi0,Yg] at h9
      simp at h9
      exact ⟨fun _=>by omega,ow,h9.2⟩
    · have hi1:i=0:=ow
      subst hi1
      simp at h9
      exact ⟨fun h0=>absurd h0 (Nat.lt_irrefl 0),h9.1,h9.2⟩
  refine Yc (Zh (Za (rZ G (qp r1 (qR rr qZ)) M KX Ke fun G=>?_)))
  replace G:=G.eI 15 i
  obtain ⟨F,G⟩:=G.nM [14,13,2,1,15] Kf
  exact ⟨(i+1),F,⟨ow,(fun k hk=>by rcases YF (YL hk) with h9 | h9;exact hq k h9;rw [h9];exact hgood)⟩,G,ow⟩
 have hil:i=g.txs.length:=XU
 have hall:∀ k,k<g.txs.length→Ziu g k:=Wm
 have hkn:=Zhg hs.1
 refine Yt (Zg (Zg (Zp (Za (Ya (rZ G (qe 2 101 r1 r1 (qf (oP (Zjx g hs.1) func191 (Args.one (.pagg .t))) r1 qz (qO rr qZ))) M J5 Kf fun G=>(Ya (Ya ?_))))))))
 refine rZ G (qg 1 101 r1 r1 (qa 101 r1 r1 (qu Ybu r1 (qR rr (qu Ybs r1 (qf (o_neq .t .t) r2 qz qZ)))))) M [53,5,2,1] Kf fun G=>?_
 refine Zb G O (fun hc3=>?_) (fun hc3=>?_)
 ·have hg:=Zdf (h:=g) (by simp at hc3;omega)
  refine Ya (rZ G qB M J5 Kf fun G=>(Yh (Ze ?_)))
  refine Zr hfr G O O O (.bool hg)
 have hle:g.orders.length=(Zai g.txs).length:=WX
 refine Yc (Za (Ya (Ya (rZ G (qg 1 101 r1 r1 (qa 101 r1 r1 (qu Ybu r1 (qJ qZ)))) M KP Kf fun G=>Yf ?_))))
 refine Zj (σ:=(Nat)) [1,2,5,55,56] [0,101] (fun s=>[(57,.pv (.int .i64 (s:Int)))]) (fun s=>[]) (fun s=>s≤g.orders.length∧(∀ k,k<s→ZgL g k)) (fun s=>g.orders.length - s) (0) G ⟨rfl,rfl,rfl,rfl,rfl,rfl,tv⟩ ⟨rfl,rfl,tv⟩ ⟨Yp _,fun k hk=>absurd hk (YO k)⟩ ?_
 clear G;intro i a w F hC G
 have hC:=X4
 obtain ⟨F,G⟩:=G.nM KP Kf
 have G:=X2
 obtain ⟨hi,hq⟩:=hC
 have hol:=fun hil:i<g.orders.length=>hs.2.at hil
 have hwl:=fun k=>Zbx g.txs k
 refine Ya (rZ G (qL r2) M [58,57,56,55,5,2,1] Kf fun G=>Ya ?_)
 refine Zb G O (fun hc4=>?_) (fun hc4=>?_)
 ·have hil:i<g.orders.length:=WY
  refine Yc (Za (Ya (Yf (Ya (rS G (qR rr (qy 2 Ybu r2 (qf (oR true 2 .t) r1 qz (qf (oH [.int .i64 0,.slice none 0 0] 103) trivial qz (qO rr (qS 2 103 r2 r1 qZ)))))) M [57,56,55,7,6,5,2,1] KC fun τ G=>?_)))))
  have G:=X0
  generalize τ 7=v7 at G
  try simp only [Yg] at G
  refine Za (Ya (ZA G (qg 0 103 r1 r1 (qa 103 r1 r1 (qR rr (qR rr (qy 1 Ybs r2 (qf (oR false 1 .t) r1 qz (qf (o_neq .t .t) r2 qz (qR rr (qv 1 103 O r2 r1 (qw 103 O r2 r1 (qk O (fun h=>oL true 2 101 .is) r2 r1 (qv 0 103 O r2 r1 (qw 103 O r2 r1 (qk O (fun h=>oP (Zhe g (Nn g.orders i).key hs.1) func192 (Args.two (.pagg (.w h)) (.w h))) r3 qz (qk O (fun h=>oP (ZiB (Nn g.orders i).txs _) func136 (Args.two (.w h) (.w h))) r3 qz (qk O (fun h=>o_not (.w h)) r2 qz (qf (ZaU .t .t) r2 qz qZ))))))))))))))))) M [78,57,56,55,5,2,1] KC O O fun a w F G=>?_))
  have G:=X8
  try simp only [Yg] at G
  refine Za (Zb G O (fun hc5=>?_) (fun hc5=>?_))
  ·have hbad:¬ ZgL g i:=by rintro ⟨g1,g2⟩;have h9:=hc5;simp [g1] at h9;rw [← g1] at h9;exact h9 g2
   have hg:=Zgy hil hbad
   refine Ya (rZ G qB M KP KC fun G=>(Yh (Zq (Ze (Ze (Zq (Ze ?_)))))))
   refine Zr hfr G O O O (.bool hg)
  have hgood:ZgL g i:=by have h9:=hc5;simp at h9;exact ⟨h9.1,h9.2⟩
  refine Yc (Zh (Za (rZ G (qp r1 (qR rr qZ)) M KP KC fun G=>?_)))
  replace G:=G.eI 57 i
  obtain ⟨F,G⟩:=G.nM [56,55,5,2,1,57] Kf
  exact ⟨(i+1),F,⟨ow,(fun k hk=>by rcases YF (YL hk) with h9 | h9;exact hq k h9;rw [h9];exact hgood)⟩,G,ow⟩
 have hil:i=g.orders.length:=WY
 have hg:=ZjQ hlong hall ow Wm
 refine Yt (Zg (Zg (Zp (Za (Ya (rZ G qB M [2] Kf fun G=>Yh ?_))))))
 refine Zr hfr G O O O (.bool hg)
theorem Zf8 (g:Zs) (hs:Zbe g):FnP prog 74 [.agg (Zm g)] (.bool (decide (Zx g))):=by
 refine FnP.mk func74 O ntmps74 O fun B a w F M hfr G=>?_
 have hsl:=hs.1.1
 have hso:=hs.2.1
 refine Ya (rS G (qx 101 r1 qB) M Ky Kf fun τ G=>?_)
 have G:=X1
 generalize τ 1=v1 at G
 refine Za (Ya (Ya (rZ G (qg 0 101 r1 r1 (qa 101 r1 r1 (qu Ybt r1 (qf (Za7 .t qi) r1 qz qZ)))) M [11,2,1] Kf fun G=>?_)))
 refine Zb G O (fun hc0=>?_) (fun hc0=>?_)
 ·have hg:=ZcF (h:=g) XV
  refine Ya (rZ G qB M Ky Kf fun G=>(Yh (Ze ?_)))
  refine Zr hfr G O O O (.bool hg)
 have hlong:g.txs.length≤4096:=XV
 refine Yc (Za (Ya (Ya (rZ G (qg 0 101 r1 r1 (qa 101 r1 r1 (qu Ybt r1 (qJ qZ)))) M KX Kf fun G=>Yf ?_))))
 refine Zj (σ:=(Nat)) [1,2,13,14] [0,101] (fun s=>[(15,.pv (.int .i64 (s:Int)))]) (fun s=>[]) (fun s=>s≤g.txs.length∧(∀ k,k<s→Ziu g k)) (fun s=>g.txs.length - s) (0) G ⟨rfl,rfl,rfl,rfl,rfl,tv⟩ ⟨rfl,rfl,tv⟩ ⟨Yp _,fun k hk=>absurd hk (YO k)⟩ ?_
 clear G;intro i a w F hC G
 have hC:=X4
 obtain ⟨F,G⟩:=G.nM KX Kf
 have G:=X2
 obtain ⟨hi,hq⟩:=hC
 have hxl:=fun hil:i<g.txs.length=>hs.1.at hil
 have hiw:0<i→IntKind.wrap .i64 ((i:Int) - 1)=((i - 1:Nat):Int):=fun h0=>by rw [ZK ow];omega
 refine Ya (rZ G (qL r2) M [16,15,14,13,2,1] Kf fun G=>Ya ?_)
 refine Zb G O (fun hc1=>?_) (fun hc1=>?_)
 ·have hil:i<g.txs.length:=XU
  refine Yc (Za (Ya (Yf (Ya (rS G (qR rr (qy 3 Ybt r2 (qf (oR true 3 .t) r1 qz (qf (oH [.int .i64 0,.bool false,.slice none 0 0] 102) trivial qz (qO rr (qS 3 102 r2 r1 qZ)))))) M [15,14,13,4,3,2,1] Ke fun τ G=>?_)))))
  have G:=X0
  generalize τ 4=v4 at G
  try simp only [Yg] at G
  refine Za (Ya (ZA G (qR rr (qf (Za7 .t qi) r1 qz (qR rr (qv 0 101 O r2 r1 (qw 101 O r2 r1 (qm O O O O (qk O (fun h=>o_sub (.w h) qi) r2 qz (qk O (fun h=>ZP (sz:=3) (.mk Ybt kr) XW (.w h) (.w h) Ws Ws) r3 qz (qk O (fun h=>oG 0 (.w h)) r2 qz (qk O (fun h=>oR false 1 (.w h)) r2 qz (qv 0 102 O r2 r1 (qw 102 O r2 r1 (qk O (fun h=>ZbB (.w h) (.w h)) r3 qz (qf (o_and2 .t .t) r2 qz (qR rr (qk O (fun h=>oL true 3 102 .is) r2 r1 (qk O (fun h=>oP (Zg5 (Nn g.txs i)) func85 (Args.one (.pagg (.w h)))) r2 qz (qk O (fun h=>o_neq (.w h) qi) r2 qz (qf (ZaU .t .t) r2 qz (qR rr (qk O (fun h=>oL true 2 101 .is) r2 r1 (qk O (fun h=>oL true 3 102 .is) r2 r1 (qk O (fun h=>oP (Zmy g (Nn g.txs i) hs.1 Wp) func139 (Args.two (.pagg (.w h)) (.pagg (.w h)))) r3 qz (qk O (fun h=>o_not (.w h)) r2 qz (qf (ZaU .t .t) r2 qz qZ))))))))))))))))))))))))) M [44,15,14,13,2,1] Ke O O fun a w F G=>?_))
  have G:=X8
  try simp only [Yg] at G
  refine Za (Zb G O (fun hc2=>?_) (fun hc2=>?_))
  ·have hbad:¬ Ziu g i:=by
     rintro ⟨g1,g2,g3⟩
     have h9:=hc2
     by_cases hi0:0<i
     · rw [hiw hi0,Yg] at h9
       have:=g1 hi0
       simp [g2,g3] at h9
       omega
     · have hi1:i=0:=ow
       subst hi1
       simp [g2,g3] at h9
   have hg:=Zd8 hil hbad
   refine Ya (rZ G qB M KX Ke fun G=>(Yh (Zq (Ze (Ze (Zq (Ze ?_)))))))
   refine Zr hfr G O O O (.bool hg)
  have hgood:Ziu g i:=by
    have h9:=hc2
    by_cases hi0:0<i
    · rw [hiw hi0,Yg] at h9
      simp at h9
      exact ⟨fun _=>by omega,ow,h9.2⟩
    · have hi1:i=0:=ow
      subst hi1
      simp at h9
      exact ⟨fun h0=>absurd h0 (Nat.lt_irrefl 0),h9.1,h9.2⟩
  refine Yc (Zh (Za (rZ G (qp r1 (qR rr qZ)) M KX Ke fun G=>?_)))
  replace G:=G.eI 15 i
  obtain ⟨F,G⟩:=G.nM [14,13,2,1,15] Kf
  exact ⟨(i+1),F,⟨ow,(fun k hk=>by rcases YF (YL hk) with h9 | h9;exact hq k h9;rw [h9];exact hgood)⟩,G,ow⟩
 have hil:i=g.txs.length:=XU
 have hall:∀ k,k<g.txs.length→Ziu g k:=Wm
 have hkn:=Zhg hs.1
 refine Yt (Zg (Zg (Zp (Za (Ya ?_)))))
 replace G:=G.fresh 103 rfl
 refine rS G (qe 2 101 r1 r1 (qf (Zbd 103 (ZlT g hs.1) func140 O kr (Args.one (.pagg .t)) Zar) r1 r1 (qO rr qZ))) M J5 KC fun τ G=>?_
 try dsimp only [RS.sub,SF.sub,CF.sub,csub,Anc.sub,List.map,xD,xE,xT,xU,ldSF,Zm,rTx,Zv,Zy,Zk,rOp] at G
 generalize τ 47=v47 at G
 replace G:=G.turn 103 O (r':=RS.hp (HP.ex fun s:List (GE Int (List Int))×Nat=>HP.and (WrL s.1 g.txs) (mapG (fun l:List Int=>PV.sl Zk l) (fun _=>True) (fun n:Int=>Value.int .i64 n) s.1 s.2 v47))) (fun _ _ _ _ h=>h)
 obtain ⟨sm,G⟩:=G.open_ex 103 rfl
 obtain ⟨hwm,G⟩:=G.open_and 103 rfl
 obtain ⟨es,ck⟩:=sm
 try dsimp only at hwm G
 replace G:=G.turn 103 O (r':=.ob (.val v47) (mapG (fun l:List Int=>PV.sl Zk l) (fun _=>True) (fun n:Int=>Value.int .i64 n) es ck)) (fun _ _ _ _ h=>h)
 have hgw:=Zph hwm
 have hml:=Zpj hwm
 obtain ⟨F,G⟩:=G.nM J5 KC
 refine Za (Ya (Ya (rZ G (qR rr (qf (Zjv 103 Ybz .is ow) r1 r1 (qg 1 101 r1 r1 (qa 101 r1 r1 (qu Ybu r1 (qf (o_neq .t .t) r2 qz qZ)))))) M [53,5,2,1] KC fun G=>?_)))
 refine Zb G O (fun hc3=>?_) (fun hc3=>?_)
 ·have hg:=Zdf (h:=g) (by simp at hc3;omega)
  refine Ya (rZ G qB M J5 KC fun G=>(Yh (Ze ?_)))
  refine Zr hfr G O O O (.bool hg)
 have hle:g.orders.length=(Zai g.txs).length:=WX
 refine Yc (Za (Ya (Ya (rZ G (qg 1 101 r1 r1 (qa 101 r1 r1 (qu Ybu r1 (qJ qZ)))) M KP KC fun G=>Yf ?_))))
 refine Zj (σ:=(Nat)) [1,2,5,55,56] [0,101,103] (fun s=>[(57,.pv (.int .i64 (s:Int)))]) (fun s=>[]) (fun s=>s≤g.orders.length∧(∀ k,k<s→Zfr g k)) (fun s=>g.orders.length - s) (0) G ⟨rfl,rfl,rfl,rfl,rfl,rfl,tv⟩ ⟨rfl,rfl,rfl,tv⟩ ⟨Yp _,fun k hk=>absurd hk (YO k)⟩ ?_
 clear G;intro i a w F hC G
 have hC:=X4
 obtain ⟨F,G⟩:=G.nM KP KC
 have G:=X2
 obtain ⟨hi,hq⟩:=hC
 have hol:=fun hil:i<g.orders.length=>hs.2.at hil
 have hwl:=fun k=>Zbx g.txs k
 have hiw:0<i→IntKind.wrap .i64 ((i:Int) - 1)=((i - 1:Nat):Int):=fun h0=>by rw [ZK ow];omega
 refine Ya (rZ G (qL r2) M [58,57,56,55,5,2,1] KC fun G=>Ya ?_)
 refine Zb G O (fun hc4=>?_) (fun hc4=>?_)
 ·have hil:i<g.orders.length:=WY
  refine Yc (Za (Ya (Yf (Ya (rS G (qR rr (qy 2 Ybu r2 (qf (oR true 2 .t) r1 qz (qf (oH [.int .i64 0,.slice none 0 0] 104) trivial qz (qO rr (qS 2 104 r2 r1 qZ)))))) M [57,56,55,7,6,5,2,1] QW fun τ G=>?_)))))
  have G:=X0
  generalize τ 7=v7 at G
  try simp only [Yg] at G
  refine Za (Ya (ZA G (qR rr (qf (Za7 .t qi) r1 qz (qR rr (qv 1 101 O r2 r1 (qw 101 O r2 r1 (qm O O O O (qk O (fun h=>o_sub (.w h) qi) r2 qz (qk O (fun h=>ZP (sz:=2) (.mk Ybu kr) XW (.w h) (.w h) Ws Ws) r3 qz (qk O (fun h=>oG 0 (.w h)) r2 qz (qk O (fun h=>oR false 1 (.w h)) r2 qz (qv 0 104 O r2 r1 (qw 104 O r2 r1 (qk O (fun h=>ZbB (.w h) (.w h)) r3 qz (qf (o_and2 .t .t) r2 qz (qR rr (qv 1 104 O r2 r1 (qw 104 O r2 r1 (qk O (fun h=>ZbV Ybs (.w h)) r2 qz (qk O (fun h=>o_eql (.w h) qi) r2 qz (qf (ZaU .t .t) r2 qz (qR rr (qv 1 104 O r2 r1 (qw 104 O r2 r1 (qm O O O O (qv 0 104 O r2 r1 (qw 104 O r2 r1 (qk O (fun h=>ZX (ek:=(fun l:List Int=>PV.sl Zk l)) (z0:=([]:List Int)) 103 Ybz (Zcl Ybx) kr (fun _ _=>Zhj) (.w h .is) (ZD.int (.w h) O)) r3 r1 (qk O (fun h=>oP (Zna (Nn g.orders i).txs _ (by have:=hol hil;omega) (by rw [hgw];have:=hwl (Nn g.orders i).key;omega)) func37 (Args.two (.w h) (.w h))) r3 qz (qk O (fun h=>o_not (.w h)) r2 qz (qf (ZaU .t .t) r2 qz qZ)))))))))))))))))))))))))))))) M [91,57,56,55,5,2,1] QW O O fun a w F G=>?_))
  have G:=X8
  try simp only [Yg] at G
  refine Za (Zb G O (fun hc5=>?_) (fun hc5=>?_))
  ·have hbad:¬ Zfr g i:=by
     rintro ⟨g1,g2,g3⟩
     have h9:=hc5
     rw [hgw] at h9
     have g4:(Nn g.orders i).txs.length≠0:=fun e=>g2 (Y6 e)
     by_cases hi0:0<i
     · rw [hiw hi0,Yg] at h9
       have:=g1 hi0
       simp [g2,g3] at h9
       omega
     · have hi1:i=0:=ow
       subst hi1
       simp [g2,g3] at h9
   have hg:=Zft hil hbad
   refine Ya (rZ G qB M KP QW fun G=>(Yh (Zq (Ze (Ze (Zq (Ze ?_)))))))
   refine Zr hfr G O O O (.bool hg)
  have hgood:Zfr g i:=by
    have h9:=hc5
    rw [hgw] at h9
    by_cases hi0:0<i
    · rw [hiw hi0,Yg] at h9
      simp at h9
      exact ⟨fun _=>by omega,h9.1.2,h9.2⟩
    · have hi1:i=0:=ow
      subst hi1
      simp at h9
      exact ⟨fun h0=>absurd h0 (Nat.lt_irrefl 0),h9.1,h9.2⟩
  refine Yc (Zh (Za (rZ G (qp r1 (qR rr qZ)) M KP QW fun G=>?_)))
  replace G:=G.eI 57 i
  obtain ⟨F,G⟩:=G.nM [56,55,5,2,1,57] KC
  exact ⟨(i+1),F,⟨ow,(fun k hk=>by rcases YF (YL hk) with h9 | h9;exact hq k h9;rw [h9];exact hgood)⟩,G,ow⟩
 have hil:i=g.orders.length:=WY
 have hg:=Zie hlong hall ow Wm
 refine Yt (Zg (Zg (Zp (Za (Ya (rZ G qB M [2] KC fun G=>Yh ?_))))))
 refine Zr hfr G O O O (.bool hg)
def ZlV (d:Za4):Prop:=Zbe ⟨d.was,d.old⟩∧Zbe ⟨d.now,d.new⟩
theorem ZlV.ok {d:Za4} (h:ZlV d):DOk d:=by
 obtain ⟨⟨⟨h1,h2⟩,h3,h4⟩,⟨h5,h6⟩,h7,h8⟩:=h
 dsimp only at h1 h2 h3 h4 h5 h6 h7 h8
 exact ⟨⟨ow,fun t ht=>by have:=h2 t ht;omega⟩,⟨ow,fun t ht=>by have:=h6 t ht;omega⟩,⟨ow,fun t ht=>by have:=h4 t ht;omega⟩,⟨ow,fun t ht=>by have:=h8 t ht;omega⟩⟩
theorem Zae.less {u v:List TxD} (h:Zae u):Zae (ZN TxD.id u v):=⟨Y5 (Zbi _ _) h.1,fun t ht=>h.2 t (Zbh ht)⟩
theorem ZaF.less {u v:List OrdD} (h:ZaF u):ZaF (ZN OrdD.key u v):=⟨Y5 (Zbi _ _) h.1,fun t ht=>h.2 t (Zbh ht)⟩
def ZpN (g1 g2:Zs):Za4:=⟨ZN TxD.id g1.txs g2.txs,ZN TxD.id g2.txs g1.txs,ZN OrdD.key g1.orders g2.orders,ZN OrdD.key g2.orders g1.orders⟩
theorem ZjC {g1 g2:Zs} (h1:Zbe g1) (h2:Zbe g2):ZlV (ZpN g1 g2):=⟨⟨h1.1.less,h1.2.less⟩,h2.1.less,h2.2.less⟩
theorem Zno:Zee [.is (.slice none 0 0),.is (.slice none 0 0),.is (.slice none 0 0),.is (.slice none 0 0)] (Zaf noD):=⟨.nilSl,.nilSl,.nilSl,.nilSl,tv⟩
theorem Zo7 (g1 g2:Zs) (h1:Zbe g1) (h2:Zbe g2):FnP prog 31 [.agg (Zm g1),.agg (Zm g2)] (.tup [.agg (Zaf (ofD g1 g2).1),.int .i64 (ofD g1 g2).2]):=by
 refine FnP.mk func31 O ntmps31 O fun B a w F M hfr G=>Ya ?_
 refine rS G (qx 101 r1 (qx 102 r1 (qf (oH [.slice none 0 0,.slice none 0 0,.slice none 0 0,.slice none 0 0] 103) trivial qz (qI qZ)))) M KF Kg fun τ G=>?_
 have G:=Xq
 generalize τ 2=v2,τ 3=v3,τ 4=v4 at G
 refine Za (Ya (Ya (rZ G (qe 2 101 r1 r1 (qf (oP (Zf8 g1 h1) func74 (Args.one (.pagg .t))) r1 qz (qf (o_not .t) r1 qz (qR rr (qk O (fun h=>oL true 2 102 .is) r2 r1 (qk O (fun h=>oP (Zf8 g2 h2) func74 (Args.one (.pagg (.w h)))) r2 qz (qk O (fun h=>o_not (.w h)) r2 qz (qf (ZaU .t .t) r2 qz qZ)))))))) M [13,5,4,3,2] Kg fun G=>?_)))
 refine Zb G O (fun hc0=>?_) (fun hc0=>?_)
 ·have h9:(!decide (Zx g1) || !decide (Zx g2))=true:=hc0
  have hg:ofD g1 g2=(noD,5):=by unfold ofD;rw [Yb (by rintro ⟨e1,e2⟩;rw [YS e1,YS e2] at h9;cases h9)]
  refine Ya (rZ G (qf (oB [] [.slice none 0 0,.slice none 0 0,.slice none 0 0,.slice none 0 0] [(0,1),(1,1),(2,1),(3,1)] .nil) trivial qz (qs 4 103 r2 r1 (qI qZ))) M KF Kg fun G=>(Yh (Ze ?_)))
  refine ZL hfr G O (.cl 103 true 4 O O (.tmp O .nil)) (.two Wt (.int W9))
 have h9:(!decide (Zx g1) || !decide (Zx g2))=false:=hc0
 have hr:Zx g1∧Zx g2:=by simpa using h9
 have hg:ofD g1 g2=(ZpN g1 g2,0):=by unfold ofD;rw [Ye hr];rfl
 refine Yc (Za (Ya (ZA G (qg 0 101 r1 r1 (qa 101 r1 r1 (qg 0 102 r1 r1 (qa 102 r1 r1 (qf (oP (Zkn g1.txs g2.txs (by have:=h1.1.1;omega)) func76 (Args.four .t .t (.conv .f (Ent.fnClos)) (.conv .f (Ent.fnClos)))) r2 qz (qg 0 102 r1 r1 (qa 102 r1 r1 (qg 0 101 r1 r1 (qa 101 r1 r1 (qf (oP (Zkn g2.txs g1.txs (by have:=h2.1.1;omega)) func76 (Args.four .t .t (.conv .f (Ent.fnClos)) (.conv .f (Ent.fnClos)))) r2 qz (qg 1 101 r1 r1 (qa 101 r1 r1 (qg 1 102 r1 r1 (qa 102 r1 r1 (qf (oP (ZlD g1.orders g2.orders (by have:=h1.2.1;omega)) func78 (Args.four .t .t (.conv .f (Ent.fnClos)) (.conv .f (Ent.fnClos)))) r2 qz (qg 1 102 r1 r1 (qa 102 r1 r1 (qg 1 101 r1 r1 (qa 101 r1 r1 (qf (oP (ZlD g2.orders g1.orders (by have:=h2.2.1;omega)) func78 (Args.four .t .t (.conv .f (Ent.fnClos)) (.conv .f (Ent.fnClos)))) r2 qz (qf (oB [(0,.tmp 19),(1,.tmp 24),(2,.tmp 29),(3,.tmp 34)] [.slice none 0 0,.slice none 0 0,.slice none 0 0,.slice none 0 0] [(0,1),(1,1),(2,1),(3,1)] (.one O .t Z7 kr (.one O .t Z7 kr (.one O .t Z7 kr (.one O .t Z7 kr .nil))))) r4 qz (qf (oP (ZlB (ZpN g1 g2) (ZjC h1 h2).ok) func75 (Args.one (.pagg .t))) r1 qz (qf (oA 4 103 .is (.conv .t .agg)) r2 r1 (qI qZ)))))))))))))))))))))))) M KZ Kg O O fun a w F G=>?_)))
 try dsimp only [List.map,Zc,xL,xM,Nat.reduceAdd,xD,xE,xT,xU,xC,xN,zCF,ldSF,Zm,rTx,Zv,Zy,Zk,rOp,Zaf] at G
 refine Za (Yh (ZL hfr G O (.cl 103 true 4 O O (.tmp O .nil)) (.two Wt (.int W9))))
section
variable {α:Type} {κ:α→Int}
variable [DecidableEq α]
end
def Zj6 (d:Za4):Bool:=decide (d.was = []∧d.now = []∧d.old = []∧d.new = [])
section
variable {P:Program} {d:Option Nat} {ty:TypeId} {pos:String} {af:Array Edge} {g:Option (Nat×Bool)} {x y:Operand} {ps qs:List (Nat×SF)} {t:TypeId} {α:Type}
theorem Zbu {kt:TypeId} (hk:P.underlying kt=some (.int .i64)):ZhN P kt (fun n:Int=>inR .i64 n) (fun n:Int=>Value.int .i64 n):=
 ⟨fun b k w _=>(Zcl hk).check b k w tv,fun es k w _ _=>(Zcl hk).find es k w trivial fun _ _=>trivial,(Zcl hk).same⟩
theorem ZD.intR {n k:Int} (h:Opd x ps (.pv (.int .i64 n))) (e:n=k):ZD (fun n:Int=>inR .i64 n) (fun n:Int=>Value.int .i64 n) x ps k:=fun a w yy hp=>by
 subst e
 exact h a w yy hp
end
abbrev MPI (es:List (GE Int Int)) (ck:Nat):Value→HP:=mapG (fun c:Int=>PV.int .i64 c) (fun n:Int=>inR .i64 n) (fun n:Int=>Value.int .i64 n) es ck
def ZoM (es:List (GE Int Int)) (ks:List Int):Prop:=GNd es ∧ ∀ k,k ∈ es.map (·.key) ↔ k ∈ ks
theorem ZoM.nil:ZoM [] []:=⟨by simp [GNd],fun k=>by simp⟩
theorem ZoM.perm {es:List (GE Int Int)} {ks:List Int} (h:ZoM es ks):(es.map (·.key)).Perm (Zan ks):=
 (Ya3 h.1 ((Z9 ks).1.imp fun h=>Ybr h)).2 fun k=>by rw [h.2,(Z9 ks).2]
theorem ZoM.len {es:List (GE Int Int)} {ks:List Int} (h:ZoM es ks):es.length≤ks.length:=by
 have h1:=h.perm.length_eq
 have h2:=ZbL ks
 rw [Y9] at h1;omega
end Go.Proofs.YtfecljadegkmdaaGreat
namespace Go.Proofs.YtfecljadegkmdaaGreat
open Go Go.Gm Tryz
set_option linter.unusedVariables false
set_option linter.unusedSimpArgs false
set_option maxHeartbeats 4000000
set_option maxRecDepth 8000
open Go.RowKit Go.Maps Go.Sort Go.Shelf Go.ChangeMaps Go.MapKept
def Zl3 (x:Int):List Value:=[.int .i64 x]
def ZlK (x:Int):Value:=.int .i64 x
def Zqa (v:Value):Int:=match v with
 | .int _ x=>x
 | _=>0
theorem ZmS (x:Int):Zqa (ZlK x)=x:=rfl
theorem Zm4 (x:Int):∀ u ∈ [Value.int .i64 x],u.oneCell' = true:=by simp [Value.oneCell']
theorem ZlG {w:World} {y:Ys} : ∀ {l:List Int},(∀ x ∈ l,inR .i64 x)→PVs (l.flatMap Zk) (l.flatMap Zl3) w y
 | [],_=>trivial
 | x :: l,h=>⟨⟨rfl,rfl,h x XA⟩,ZlG fun z hz=>h z XZ⟩
end Go.Proofs.YtfecljadegkmdaaGreat
namespace Go.Proofs.YtfecljadegkmdaaGreat
open Go Go.Gm Tryz
set_option linter.unusedVariables false
set_option linter.unusedSimpArgs false
set_option maxHeartbeats 4000000
set_option maxRecDepth 8000
open Go.RowKit Go.Maps Go.Sort Go.Shelf Go.ChangeMaps Go.MapKept
theorem Zlo (w:World) (l:List Value) (t:TypeId):∀ j u,l[j]? = some u→(w.alloc (.cells l.toArray t)).cell? ((⟨w.heap.size,0,none⟩:Addr).add j)=some u:=by
 intro j u hj
 rw [show (⟨w.heap.size,0,none⟩:Addr).add j = ⟨w.heap.size,j,none⟩ from by cases j <;> simp [Addr.add]]
 rw [ZaJ (vs:=l.toArray) (T:=t) (fr:=(0,0)) (World.alloc_heap_new w _)]
 simpa using hj
def ZdX : Code := (Code.region 2 #[{ dst := some 5, op := Op.assign (Operand.tmp 7), type := 3, pos := "iter.go:51", after := #[], guard := none }] false)
def Zgl : Code := (Code.block 1 (Code.region 3 #[{ dst := some 8, op := Op.load 37 (Operand.tmp 2), type := 37, pos := "iter.go:52", after := #[], guard := none }, { dst := some 9, op := Op.move (Operand.tmp 5), type := 3, pos := "iter.go:52", after := #[], guard := none }, { dst := some 10, op := Op.buildSlice 37 1 #[(0, Operand.tmp 9)], type := 37, pos := "iter.go:52", after := #[{ on := 1, ground := Ground.data }], guard := none }, { dst := some 11, op := Op.call { callee := Callee.builtin Builtin.append, args := #[Operand.tmp 8, Operand.tmp 10], argTypes := #[37, 37] }, type := 37, pos := "iter.go:52", after := #[{ on := 0, ground := Ground.data }, { on := 2, ground := Ground.data }], guard := none }, { dst := none, op := Op.store 37 (Operand.tmp 2) (Operand.tmp 11), type := 0, pos := "iter.go:52", after := #[{ on := 3, ground := Ground.data }, { on := 3, ground := Ground.chain }, { on := 0, ground := Ground.phase }, { on := 1, ground := Ground.phase }, { on := 2, ground := Ground.phase }, { on := 3, ground := Ground.phase }], guard := none }] false))
def kcApRec (fn:FuncId) (sv:Value) (Bs D:Nat) (st:LoopState) (pend:Option Code):Loop:=
 { state:=st,pending:=pend,fn,tmps:=#[.slice none 0 0,sv,.pointer (some ⟨Bs,0,none⟩),undef,.slice none 0 0,undef,sv,undef,undef,undef,undef,undef,undef],params:=#[7],assign:=ZdX,body:=Zgl,defers:=D }
structure Zht (w0:World) (fn:FuncId) (sv:Value) (Bs l D:Nat) (ss:List Int) (W:World):Prop where
 box:∃ v,W.heap[Bs]? = some (.cells #[v] 37 (0,0))∧W.ownsRow w0.heap.size 3 1 v ss.length (ss.flatMap Zl3)∧(v = .slice none 0 0 ↔ ss = [])
 L:W.heap[l]? = some (.loop (kcApRec fn sv Bs D .ready none))
 K:W.heap[D]? = some (.deferred (some []))
 below:Below w0.heap.size w0 W
theorem Zia (w0:World) (fn:FuncId) (sv:Value) (Bs l D B:Nat) (M:w0.heap.size≤B):AbidesFrom B (Zht w0 fn sv Bs l D):=fun s W W' row h hg hrow=>by
 have hrow':∀ r,row=some r → ∃ o:Obj,W.heap[r]? = some o∧o.isWalk=true:=fun r e=>(hrow r e).2
 obtain ⟨v,hv,hr,hn⟩:=h.box
 exact ⟨⟨v,(grownBy_keeps hg hrow' hv rfl).trans hv,ownsRow_abides_a hr hg hrow',hn⟩,(grownBy_keeps hg hrow' h.L rfl).trans h.L,(grownBy_keeps hg hrow' h.K rfl).trans h.K,
  h.below.grown hg h.below.size (fun k e=>Y5 M (hrow k e).1)⟩
set_option maxRecDepth 100000 in
set_option maxHeartbeats 2000000 in
theorem Zj3 (F:Fence) (m:Nat) (w0:World) (fn:FuncId) (hfn:F.fn fn) (sv:Value) (Bs l D:Nat) (hBl:Bs≠l) (hDl:D≠l) (hDB:D≠Bs) (h0B:w0.heap.size≤Bs) (h0l:w0.heap.size≤l)
   (N:Nat) (hN:N≤maxLen) (hNb:N*8≤140737488355328) (ss:List Int) (x:Int) (W:World) (h:Zht w0 fn sv Bs l D ss W) (hlen:ss.length<N) :
   YieldAt F m prog l #[(.int .i64 x)] W fun e W'=>e = .returned (.bool true)∧Zht w0 fn sv Bs l D (ss ++ [x]) W' ∧ KeepsWalks W W':=by
 have hne:37≠3:=XJ
 obtain ⟨i0,hi,hz0,hz1,hz2⟩:=info_parts (show (prog.info? 3).map (fun i=>(i.zero,i.size,i.bytes))=some (some (.int .i64 0),1,8) from by kernel_rfl)
 obtain ⟨v,hv,hrow,_⟩:=h.box
 refine ⟨fn,#[.slice none 0 0,sv,.pointer (some ⟨Bs,0,none⟩),undef,.slice none 0 0,undef,sv,(.int .i64 x),undef,undef,undef,undef,undef],ZdX,Zgl,by simpa [kcApRec] using run_yield (P:=prog) (args:=#[(.int .i64 x)]) h.L rfl,roundIn_of_wpIn hfn ?_⟩
 have hl:l<W.heap.size:=(YZ.1 h.L).1
 have hbr:=run_beginRound (P:=prog) h.L rfl
 obtain ⟨W2,hW2⟩:∃ W2,W.putObj l (.loop { kcApRec fn sv Bs D .ready none with state:=.busy })=W2:=⟨_,rfl⟩
 rw [hW2] at hbr
 have hg2:W.grownBy W2 (some l):=by rw [← hW2];exact grownBy_putObj_a _ _ _
 have hk2:KeepsWalks W W2:=by rw [← hW2];exact KeepsWalks.putObj _ h.L rfl
 have hv2:W2.heap[Bs]? = some (.cells #[v] 37 (0,0)):=by rw [← hW2];exact (World.putObj_heap_other hBl).trans hv
 have hK2:W2.heap[D]? = some (.deferred (some [])):=by rw [← hW2];exact (World.putObj_heap_other hDl).trans h.K
 have hL2:W2.heap[l]? = some (.loop { kcApRec fn sv Bs D .ready none with state:=.busy }):=by rw [← hW2];exact World.putObj_heap_same hl
 have hrow2:W2.ownsRow w0.heap.size 3 1 v ss.length (ss.flatMap Zl3):=hrow.kept hg2 (ownsRow_ne_a hrow h.L (fun cur e=>by first | cases e | exact hne (Ybf e).2.1))
 have hb2:Below w0.heap.size w0 W2:=h.below.grown hg2 h.below.size (fun k e=>by cases e;exact h0l)
 obtain ⟨hc2,hf2⟩:=cell_of_box_a hv2
 have hBlt:Bs<W2.heap.size:=(YZ.1 hv2).1
 have hl2:l<W2.heap.size:=(YZ.1 hL2).1
 have hDlt:D<W2.heap.size:=(YZ.1 hK2).1
 have ne_of:∀ {j:Nat} {o:Obj},W2.heap[j]? = some o→(∀ cur,o ≠ .cells cur 3 (0,0))→some j≠v.ownBlock:=fun hj hno=>by
   rcases ownsRow_ne_a hrow2 hj hno with e | e
   · rw [e];simp
   · exact fun e'=>e e'.symm
 clear hW2
 unfold ZdX
 gi_wp2_with gi_round_op_a
 unfold Zgl
 gi_wp2_with (first
   | (gi_at_builtin;refine wpListIn_append_own _ rfl _ _ 37 rfl w0.heap.size 3 i0 (.int .i64 0) 1 8 Ybs hi hz0 hz1 hz2 rfl XJ _ _ _ rfl (hrow2.alloc _) ⟨W2.heap.size,0,none⟩ 1 1 ([.int .i64 x]) rfl rfl (Zlo _ _ _) (Zm4 x) ow ow (by have:=hb2.size;simp;omega) ?_;intro v' w3 hown' hg3 hnil3
      have hv3:w3.heap[Bs]? = some (.cells #[v] 37 (0,0)):=(hg3.block Bs XG (ne_of hv2 (fun cur e=>by first | cases e | exact hne (Ybf e).2.1))).trans ((Below.heap_alloc _ _ Bs hBlt).trans hv2)
      obtain ⟨hc3,hf3⟩:=cell_of_box_a hv3
      obtain ⟨g',cap',cur',rfl,hbase',hgb',hr1,hr2,hr3,hr4⟩:∃ g' cap' cur',v' = .slice (some ⟨g',0,none⟩) (ss.length+1) cap' ∧ w0.heap.size≤g' ∧ w3.heap[g']? = some (.cells cur' 3 (0,0))∧ss.length+1≤cap' ∧ cap' ≤ maxLen∧cur'.size=cap' * 1∧cur'.toList.take ((ss.length+1)*1)=ss.flatMap Zl3 ++ [.int .i64 x]:=by
        rcases hown'.2 with ⟨_,h0⟩ | h'
        · exact absurd h0 ow
        · exact h'
      go_frame)
   | gi_round_op_a)
 have hg3':(W2.alloc (.cells ([.int .i64 x]).toArray 3)).grownBy w3 v.ownBlock:=hg3
 have hL3:w3.heap[l]? = some (.loop { kcApRec fn sv Bs D .ready none with state:=.busy }):=(hg3'.block l XG (ne_of hL2 (fun cur e=>by first | cases e | exact hne (Ybf e).2.1))).trans ((Below.heap_alloc _ _ l hl2).trans hL2)
 have hK3:w3.heap[D]? = some (.deferred (some [])):=(hg3'.block D XG (ne_of hK2 (fun cur e=>by first | cases e | exact hne (Ybf e).2.1))).trans ((Below.heap_alloc _ _ D hDlt).trans hK2)
 obtain ⟨w4,hw4⟩:∃ w4,w3.setCell ⟨Bs,0,none⟩ (.slice (some ⟨g',0,none⟩) (ss.length+1) cap')=w4:=⟨_,rfl⟩
 rw [hw4]
 have hg4:w3.grownBy w4 (some Bs):=by rw [← hw4];exact grownBy_setCell0_a _ _ _
 have hv4:w4.heap[Bs]? = some (.cells #[.slice (some ⟨g',0,none⟩) (ss.length+1) cap'] 37 (0,0)):=by rw [← hw4];exact heap_setCell_box_a _ hv3
 have hL4:w4.heap[l]? = some (.loop { kcApRec fn sv Bs D .ready none with state:=.busy }):=(hg4.block l (YZ.1 hL3).1 (fun e=>hBl (by cases e;rfl))).trans hL3
 have hK4:w4.heap[D]? = some (.deferred (some [])):=(hg4.block D (YZ.1 hK3).1 (fun e=>hDB (by cases e;rfl))).trans hK3
 have hrow4:=hown'.kept hg4 (ownsRow_ne_a hown' hv3 (fun cur e=>by first | cases e | exact hne (Ybf e).2.1))
 have hl4:l<w4.heap.size:=(YZ.1 hL4).1
 have hb3:Below w0.heap.size w0 w3:=(hb2.alloc hb2.size _).grown hg3' (by have:=hb2.size;simp;omega) (fun k e=>(hrow2.lt k e).1)
 have hb4:Below w0.heap.size w0 w4:=hb3.grown hg4 hb3.size (fun k e=>by cases e;exact h0B)
 have hk4:KeepsWalks W w4:=((hk2.trans (KeepsWalks.alloc _ _)).trans (KeepsWalks.of_grownBy hg3' (ownsRow_not_walk_a (hrow2.alloc _)))).trans (by rw [← hw4];exact KeepsWalks.setCell _ _ _)
 clear hw4
 refine ⟨_,_,run_endRound none hL4,rfl,⟨⟨_,(World.putObj_heap_other hBl).trans hv4,?_,by simp⟩,World.putObj_heap_same hl4,(World.putObj_heap_other hDl).trans hK4,hb4.grown (grownBy_putObj_a _ _ _) hb4.size (fun k e=>by cases e;exact h0l)⟩,hk4.trans (KeepsWalks.putObj _ hL4 O)⟩
 have:=hrow4.kept (grownBy_putObj_a w4 l (.loop { { kcApRec fn sv Bs D .ready none with state:=.busy } with state:=if (none:Option Code).isNone then .ready else .done,pending:=none })) (ownsRow_ne_a hrow4 hL4 (fun cur e=>by first | cases e | exact hne (Ybf e).2.1))
 rw [Yae,show [x].flatMap Zl3 = [.int .i64 x] from rfl,Yd]
 simpa using this
set_option maxRecDepth 100000 in
set_option maxHeartbeats 2000000 in
theorem Zfv (F:Fence) (n:Nat) (h11:F.fn 241) (hro:F.round=none) (hn:2≤n) (g:Nat) (lb:Array Value) (hFg:F.fn g) (eg:∀ args w,(callFunc g args).run prog w = .ok (.enter g args) w)
  (S:List Int→Prop) (N:Nat) (hN:N≤maxLen) (hNb:N*8≤140737488355328) (w:World) (hseq:SeqGives F (n - 1) prog g lb ZlK S N w) :
  CallsIn F n prog 241 #[.slice none 0 0,.func (.func g) #[] lb] w fun e w'=>∃ (v:Value) (ss:List Int),e = .returned v∧S ss∧w'.ownsRow w.heap.size 3 1 v ss.length (ss.flatMap Zl3)∧(v = .slice none 0 0 ↔ ss = [])∧Below w.heap.size w w':=by
 have h1:1≤n:=ow
 have hne:37≠3:=XJ
 refine callsIn_of_wp_marks func241 O h11 ?_ hro
 simp only [ntmps241,Yam,Yl,Yy,Nat.reduceAdd,Nat.reduceSub,Array.replicate_succ,Array.replicate_zero,List.push_toArray,List.append_toArray,Yat,Ya6]
 gi_wp2
 refine wpIn_rangeFunc ?_
 intro fn hfn
 rw [hro]
 obtain ⟨W0,hW0⟩:∃ W0,w.alloc (.cells #[.slice none 0 0] 37)=W0:=⟨_,rfl⟩
 have hs0:W0.heap.size=w.heap.size+1:=by rw [← hW0];simp
 have hv0:W0.heap[w.heap.size]? = some (.cells #[.slice none 0 0] 37 (0,0)):=by rw [← hW0];exact World.alloc_heap_new w _
 have hb0:Below w.heap.size w W0:=by rw [← hW0];exact (Below.refl _ w).alloc (YP _) _
 rw [hW0]
 obtain ⟨W1,hW1⟩:∃ W1,(W0.alloc (.deferred (some []))).alloc (.loop (kcApRec fn (.func (.func g) #[] lb) w.heap.size W0.heap.size .ready none))=W1:=⟨_,rfl⟩
 have hold:∀ k,k<W0.heap.size→W1.heap[k]? = W0.heap[k]?:=fun k hk=>by
  rw [← hW1];exact (Below.heap_alloc _ _ k XG).trans (Below.heap_alloc _ _ k hk)
 have hb1:Below w.heap.size w W1:=by rw [← hW1];exact (hb0.alloc hb0.size _).alloc (by have:=hb0.size;simp;omega) _
 have hs1:W1.heap.size=W0.heap.size+2:=by rw [← hW1];simp
 have hM:Zht w fn (.func (.func g) #[] lb) w.heap.size (W0.heap.size+1) W0.heap.size [] W1:=
  ⟨⟨_,(hold w.heap.size ow).trans hv0,⟨rfl,.inl ⟨rfl,rfl⟩⟩,by simp⟩,
   by rw [← hW1];have:=World.alloc_heap_new (W0.alloc (.deferred (some []))) (.loop (kcApRec fn (.func (.func g) #[] lb) w.heap.size W0.heap.size .ready none));rwa [World.size_alloc] at this,
   by rw [← hW1];exact (Below.heap_alloc _ _ _ XA).trans (World.alloc_heap_new W0 _),hb1⟩
 refine ⟨W0.heap.size+1,[{ target:=.collected W0.heap.size,args:=#[] }],W1,{ target:=.fn (.func g) lb,args:=#[.func (.yield (W0.heap.size+1)) #[] #[]] },W1,g,
  #[.func (.yield (W0.heap.size+1)) #[] #[]] ++ lb,W1,?_,?_,?_,?_,fun _=>h1,?_⟩
 ·rw [← hW1];exact run_enterLoop_outer _ _ _ _ _
 ·simp [resolve,go_sem]
 ·intro f' hf';simp [Target.leads] at hf';subst hf';exact hFg
 ·simp [invoke,go_sem,eg]
 ·refine (hseq (W0.heap.size+1) (Zht w fn (.func (.func g) #[] lb) w.heap.size (W0.heap.size+1) W0.heap.size) W1 hb1 (Zia _ _ _ _ _ _ _ hb1.size)
    (fun pre x W hJ hl=>Zj3 F (n - 1 - 1) w fn hfn _ w.heap.size (W0.heap.size+1) W0.heap.size ow ow ow (YP _) ow N hN hNb pre x W hJ hl) hM).mono ?_
  rintro e W2 ⟨⟨v0,rfl⟩,ss,G,h2⟩
  obtain ⟨v,hv,hrow,hnil⟩:=h2.box
  have hend:=run_endLoop (P:=prog) h2.L (by simp [kcApRec])
  obtain ⟨W3,hW3⟩:∃ W3,W2.putObj (W0.heap.size+1) (.loop { kcApRec fn (.func (.func g) #[] lb) w.heap.size W0.heap.size .ready none with state:=.exhausted })=W3:=⟨_,rfl⟩
  rw [hW3] at hend
  have hg3:W2.grownBy W3 (some (W0.heap.size+1)):=by rw [← hW3];exact grownBy_putObj_a _ _ _
  have hv3:W3.heap[w.heap.size]? = some (.cells #[v] 37 (0,0)):=by rw [← hW3];exact (World.putObj_heap_other ow).trans hv
  have hK3:W3.heap[W0.heap.size]? = some (.deferred (some [])):=by rw [← hW3];exact (World.putObj_heap_other ow).trans h2.K
  have hrow3:=hrow.kept hg3 (ownsRow_ne_a hrow h2.L (fun cur e=>by first | cases e | exact hne (Ybf e).2.1))
  have hb3:Below w.heap.size w W3:=h2.below.grown hg3 h2.below.size (fun k e=>by cases e;omega)
  obtain ⟨hc3,hf3⟩:=cell_of_box_a hv3
  clear hW3
  refine ⟨none,W3,hend,?_⟩
  gi_wp2
  rw [← hs0]
  refine ⟨by simp,.inl ⟨_,_,rfl,run_takeDeferred hK3,?_⟩⟩
  exact ⟨_,results_tmp rfl _ _ _,v,ss,rfl,G,hrow3.kept (grownBy_putObj_a _ _ _) (ownsRow_ne_a hrow3 hK3 (fun cur e=>by first | cases e | exact hne (Ybf e).2.1)),hnil,hb3.grown (grownBy_putObj_a _ _ _) hb3.size (fun k e=>by cases e;omega)⟩
set_option maxHeartbeats 1000000 in
theorem Zhp (F:Fence) (n:Nat) (h8:F.fn 166) (h11:F.fn 241) (hro:F.round=none) (hn:3≤n) (g:Nat) (lb:Array Value) (hFg:F.fn g) (eg:∀ args w,(callFunc g args).run prog w = .ok (.enter g args) w)
  (S:List Int→Prop) (N:Nat) (hN:N≤maxLen) (hNb:N*8≤140737488355328) (w:World) (hseq:SeqGives F (n - 1 - 1) prog g lb ZlK S N w) :
  CallsIn F n prog 166 #[.func (.func g) #[] lb] w fun e w'=>∃ (v:Value) (ss:List Int),e = .returned v∧S ss∧w'.ownsRow w.heap.size 3 1 v ss.length (ss.flatMap Zl3)∧(v = .slice none 0 0 ↔ ss = [])∧Below w.heap.size w w':=by
 have h1:1≤n:=ow
 have e11:∀ args w,(callFunc 241 args).run prog w = .ok (.enter 241 args) w:=enters_of func241 kr rfl
 refine callsIn_of_wp func166 O h8 ?_ hro
 simp only [ntmps166,Yam,Yl,Yy,Nat.reduceAdd,Nat.reduceSub,Array.replicate_succ,Array.replicate_zero,List.push_toArray,List.append_toArray,Yat,Ya6]
 gi_wp2_with (gi_at_fn 241;refine (Zfv F (n - 1) h11 hro ow g lb hFg eg S N hN hNb _ hseq).mono ?_;rintro e w' ⟨v,ss,rfl,G,hrow,hnil,hb⟩)
 go_ret
 exact ⟨v,ss,rfl,G,hrow,hnil,hb⟩
end Go.Proofs.YtfecljadegkmdaaGreat
namespace Go.Proofs.YtfecljadegkmdaaGreat
open Go Go.Gm Tryz
set_option linter.unusedVariables false
set_option linter.unusedSimpArgs false
set_option maxHeartbeats 4000000
set_option maxRecDepth 8000
theorem Zf5 {α:Type} {R:α→List PV} {zs:List Value} {sz:Nat} {v:α} (hz:zs.length=sz) (h0:0<sz) (hp:∀ w yy,PVs (R v) zs w yy) (n:Nat):∀ u ∈ (madeCells zs.toArray (n*sz)).toList,u.oneCell' = true:=
 (Zes (R:=R) (v:=v) hz h0 (hp (default:World) (fun _=>False)) n).one
theorem Zkd {α:Type} {l:List α} {i:Nat} {x:α} (h:i=l.length):l.take i ++ [x] ++ l.drop i=l ++ [x]:=by rw [h];simp
theorem Zji {α:Type} {l l2 l3:List α} {i:Nat} {x z:α} (hi:i<l.length) (h2:l2=l.take i++List.replicate (l.length+1 - i) z) (h3:l3=l2.take i ++ [x] ++ l2.drop (i + [x].length)) :
  l.take i ++ [x] ++ l.drop i=l3.take (i+1)++l.drop i++l3.drop (i+1+(l.drop i).length):=by
 have e1:l2.take i=l.take i:=by
  rw [h2,YR W4,Yay,Nat.min_self]
 have e0:l2.length=l.length+1:=by rw [h2,Yd,Yj,List.length_replicate];omega
 have e2:l3.take (i+1)=l.take i ++ [x]:=by
  rw [h3,e1,YR (by rw [Yd,Yj];simp;omega),Y1 (by rw [Yd,Yj];simp;omega)]
 have e3:l3.length=l.length+1:=by
  rw [h3,e1,Yd,Yd,Yj,Yu,e0];simp;omega
 have e4:l3.drop (i+1+(l.drop i).length) = []:=List.drop_eq_nil_of_le (by rw [e3,Yu];omega)
 rw [e2,e4,Y3]
theorem ZgR {α:Type} {l l4:List α} {i:Nat} {x:α} (hi:i<l.length) (h4:l4=l.take (i+1)++l.drop i):l.take i ++ [x] ++ l.drop i=l4.take i ++ [x] ++ l4.drop (i + [x].length):=by
 have e1:l4.take i=l.take i:=by
  rw [h4,YR W4,Yay,YaQ ow]
 have e2:l4.drop (i + [x].length)=l.drop i:=by
  rw [h4,show i + [x].length=i+1 from rfl,List.drop_append_of_le_length W4,List.drop_eq_nil_of_le W4,Yat]
 rw [e1,e2]
theorem Zpe (v:Value) (l:List OrdD) (i:Nat) (x:OrdD) (hll:l.length≤1000000) (hi:i≤l.length):FnG prog 160 1 [.is v,.int .i64 i,.sl Zv [x]] [ZC 39 2 Zv l v] (PV.one) (fun v=>[ZC 39 2 Zv (l.take i ++ [x] ++ l.drop i) v]):=by
 refine FnG.mk func160 O ntmps160 O kr fun B F0 a w F M hG G=>?_
 replace G:=G.turn 1 O (r':=.ob (.val v) (ZC 39 2 Zv l)) (fun _ _ _ _ h=>h)
 refine Ya (rZ G (qC qZ) M Qg Kk fun G=>Ya ?_)
 refine rZ G (qR rr (qR rr (qf (ZgY (sz:=2) 1 (.mk Ybu kr) .is .t ow ow) r2 r1 qZ))) M Qg Kk fun G=>Ya ?_
 refine Zi G (qR rr (qu Ybu r1 (qO rr qZ))) M KK Kk O O fun a w F G=>?_
 replace G:=G.ent (i:=7) (s':=.pv (.int .i64 1)) O (.int O)
 obtain ⟨F,G⟩:=G.nM KK Kk
 refine Za (Ya (Ya (rZ G (qR rr (qf (o_eql .t qi) r1 qz qZ)) M Jy Kk fun G=>?_)))
 refine Zb G O (fun hc0=>?_) (fun hc0=>?_)
 ·simp at hc0
 refine Yc (Za (Ya (rZ G (qR rr (qf (Z3 1 Ybu .is) r1 r1 (qO rr qZ))) M Ku Kk fun G=>(Ya (Ya ?_)))))
 refine rZ G (qR rr (qR rr (qf (o_eql .t .t) r2 qz qZ))) M [22,8,7,6,2,1,0] Kk fun G=>?_
 refine Zb G O (fun hc1=>?_) (fun hc1=>?_)
 ·have hg:=Zkd (x:=x) (by have h9:=hc1;simp at h9;omega:i=l.length)
  refine Ya (rS G (qR rr (qR rr (qf (o_append (sz:=2) (bs:=32) 1 (.mk' Ybu kr kr) XW .is (.sl .t) Wu XJ) ⟨rfl,rfl,tv⟩ ⟨rfl,tv⟩ (qO rr qZ)))) M Ku Kk fun τ G=>?_)
  try dsimp only [RS.sub,SF.sub,CF.sub,csub,Anc.sub,List.map,xC,xN,Zv] at G
  generalize τ 25=v25 at G
  refine Za (Yh (Ze ?_))
  have G:=G.turn 1 O (r':=RS.hp (ZC 39 2 Zv (l.take i ++ [x] ++ l.drop i) v25)) (fun _ _ _ _ h=>by rw [hg];exact h)
  refine Zac (h':=fun v=>ZC 39 2 Zv (l.take i ++ [x] ++ l.drop i) v) hG G O (.tmp O .nil) (.one .one) rfl
 have hil:i<l.length:=XU
 have hw1:IntKind.wrap .i64 ((i:Int)+1)=((i+1:Nat):Int):=Z4 ow
 have hwn:IntKind.wrap .i64 ((l.length:Int)+1)=((l.length+1:Nat):Int):=Z4 ow
 refine Yc (Za (Ya (Ya (rZ G (qR rr (qR rr (qf (Zbb .t .t) r2 qz (qR rr (qf (ZhM 1 Ybu .is) r1 r1 (qf (Za7 .t .t) r2 qz qZ)))))) M [31,8,7,6,2,1,0] Kk fun G=>?_))))
 refine Zb G O (fun hc2=>?_) (fun hc2=>?_)
 ·have hcap:capV v<l.length+1:=WQ
  have hw:IntKind.wrap .i64 (IntKind.wrap .i64 ((l.length:Int)+1) - (i:Int))=((l.length+1 - i:Nat):Int):=by rw [hwn,ZK ow];omega
  refine Ya (rS G (qR rr (qR rr (qf (Zcv (sz:=2) 1 (.mk Ybu kr) .is .t ow ow) r2 r1 (qR rr (qR rr (qf (Zbb .t .t) r2 qz (qR rr (qf (o_sub .t .t) r2 qz (qf (ZcG (R:=Zv) (z:=(⟨0,[]⟩:OrdD)) (bs:=32) (sz:=2) (zs:=[.int .i64 0,.slice none 0 0]) 1 101 Ybu Ybx kr kr kr XW (fun _ _=>⟨⟨rfl,rfl,ZfP⟩,⟨rfl,Zhj⟩,tv⟩) .t .t ow XY XY XY XY) ⟨rfl,rfl,tv⟩ ⟨rfl,tv⟩ (qO rr qZ)))))))))) M KS KQ fun τ G=>?_)
  try dsimp only [RS.sub,SF.sub,CF.sub,csub,Anc.sub,List.map,xC,xN,Zv] at G
  generalize τ 40=v40 at G
  rw [hw] at G
  simp only [Yg] at G
  obtain ⟨l2,hl2⟩:∃ y,y=l.take i++List.replicate (l.length+1 - i) (⟨0,[]⟩:OrdD):=⟨_,rfl⟩
  rw [← hl2] at G
  have hl2n:l2.length=l.length+1:=by rw [hl2,Yd,Yj,List.length_replicate];omega
  obtain ⟨F,G⟩:=G.give 1 0 O rfl
  obtain ⟨F,G⟩:=G.nM KS Kf
  refine Za (Ya (Zi G (qR rr (qR rr (qf (Zat (sz:=2) 101 (.mk Ybu kr) .is .t ow ow) r2 r1 (qR rr (qf (o_copy_sub 101 Ybu kr XW .t .t XA XG) r2 r1 qZ))))) M KS Kf O O fun a w F G=>?_))
  simp only [Yg] at G
  obtain ⟨l3,hl3⟩:∃ y,y=l2.take i ++ [x] ++ l2.drop (i + [x].length):=⟨_,rfl⟩
  rw [← hl3] at G
  have hl3n:l3.length=l.length+1:=by rw [hl3,Yd,Yd,Yj,Yu,hl2n];simp;omega
  refine Za (Ya (ZA G (qR rr (qR rr (qR rr (qf (Zbb .t .t) r2 qz (qf (Zat (sz:=2) 101 (.mk Ybu kr) .is .t Wv Wv) r2 r1 (qR rr (qR rr (qf (Zcm (sz:=2) (.mk Ybu kr) XW .t .t ow ow) r2 qz (qf (o_copy_sub 101 Ybu kr XW .t .t Ww (by rw [hw1,Yu];omega)) r2 r1 qZ))))))))) M KS Kf O O fun a w F G=>?_))
  try dsimp only [Zv] at G
  rw [hw1] at G
  simp only [Yg] at G
  have hg:=Zji (x:=x) hil hl2 hl3
  refine Za (Ya (rZ G (qR rr (qO rr qZ)) M Ku Kf fun G=>(Yh (Ze ?_))))
  obtain ⟨F,G⟩:=G.rename 101 1 O rfl
  have G:=G.turn 1 O (r':=RS.hp (ZC 39 2 Zv (l.take i ++ [x] ++ l.drop i) v40)) (fun _ _ _ _ h=>by rw [hg];exact h)
  refine Zac (h':=fun v=>ZC 39 2 Zv (l.take i ++ [x] ++ l.drop i) v) hG G O (.tmp O .nil) (.one .one) rfl
 have hcap:l.length+1≤capV v:=WQ
 refine Yc (Za (Ya (rS G (qR rr (qR rr (qR rr (qf (Zbb .t .t) r2 qz (qf (ZfZ (sz:=2) 1 (.mk Ybu kr) .is .t (by rw [hwn];omega) ow) r2 r1 (qO rr qZ)))))) M Ku Kk fun τ G=>?_)))
 try dsimp only [RS.sub,SF.sub,CF.sub,csub,Anc.sub,List.map,Zv] at G
 generalize τ 60=v60 at G
 refine Za (Ya (Ya (rZ G (qR rr (qR rr (qR rr (qR rr (qf (Zbb .t .t) r2 qz (qf (Za8 (sz:=2) 1 (.mk Ybu kr) .is .t Wv Wv) r2 r1 (qf (ZfW 1 func236 kr kr kr O Ybu kr XW .t .t Wv) r2 r1 (qf (o_not .t) r1 qz qZ)))))))) M [68,8,7,6,2,1,0] Kk fun G=>?_)))
 refine Zb G O (fun hc3=>?_) (fun hc3=>?_)
 ·refine Ya (ZA G (qR rr (qR rr (qR rr (qf (Zbb .t .t) r2 qz (qf (Za8 (sz:=2) 1 (.mk Ybu kr) .is .t Wv Wv) r2 r1 (qR rr (qR rr (qf (Za8 (sz:=2) 1 (.mk Ybu kr) .is .t ow ow) r2 r1 (qf (Zeb (k:=i) 1 Ybu kr XW .t .t (by rw [hw1];rfl) O ow) r2 r1 qZ))))))))) M Ku Kk O O fun a w F G=>?_)
  try dsimp only [Zv] at G
  obtain ⟨l4,hl4⟩:∃ y,y=l.take (i+1)++l.drop i:=⟨_,rfl⟩
  rw [← hl4] at G
  have hl4n:l4.length=l.length+1:=K1
  refine Za (Ya (Zi G (qR rr (qR rr (qf (Zat (sz:=2) 1 (.mk Ybu kr) .is .t ow ow) r2 r1 (qR rr (qf (o_copy_sub 1 Ybu kr XW .t .t XA XG) r2 r1 qZ))))) M Ku Kk O O fun a w F G=>?_))
  simp only [Yg] at G
  have hg:=ZgR (x:=x) hil hl4
  refine Za (Ya (rZ G (qR rr (qO rr qZ)) M Ku Kk fun G=>(Yh (Ze ?_))))
  have G:=G.turn 1 O (r':=RS.hp (ZC 39 2 Zv (l.take i ++ [x] ++ l.drop i) v60)) (fun _ _ _ _ h=>by rw [hg];exact h)
  refine Zac (h':=fun v=>ZC 39 2 Zv (l.take i ++ [x] ++ l.drop i) v) hG G O (.tmp O .nil) (.one .one) rfl
 simp at hc3
theorem Zpp (v:Value) (l:List TxD) (i:Nat) (hll:l.length≤1000000) (hi:i<l.length):FnG prog 99 1 [.is v,.int .i64 i,.int .i64 ((i+1:Nat):Int)] [ZC 36 3 rTx l v] (PV.one) (fun v=>[ZC 36 3 rTx (l.take i++l.drop (i+1)) v]):=by
 refine FnG.mk func99 O ntmps99 O kr fun B F0 a w F M hG G=>?_
 replace G:=G.turn 1 O (r':=.ob (.val v) (ZC 36 3 rTx l)) (fun _ _ _ _ h=>h)
 have hrc:=(G.rowCap (n:=1) rfl).1
 refine Ya (rZ G (qC qZ) M Qg Kk fun G=>Ya ?_)
 refine rZ G (qR rr (qR rr (qR rr (qR rr (qf (Z3 1 Ybt .is) r1 r1 (qf (ZiL (sz:=3) 1 (.mk Ybt kr) .is .t .t .t ow ow ow ow) r4 r1 qZ)))))) M Qg Kk fun G=>(Ya (Ya ?_))
 refine rZ G (qR rr (qR rr (qf (o_eql .t .t) r2 qz qZ))) M [16,6,2,1,0] Kk fun G=>?_
 refine Zb G O (fun hc0=>?_) (fun hc0=>?_)
 ·simp at hc0;omega
 refine Yc (Za (Ya (rZ G (qR rr (qf (Z3 1 Ybt .is) r1 r1 (qO rr qZ))) M KK Kk fun G=>Ya ?_)))
 refine ZA G (qR rr (qR rr (qf (Zcv (sz:=3) 1 (.mk Ybt kr) .is .t ow ow) r2 r1 (qR rr (qR rr (qf (Zd4 (sz:=3) 1 (.mk Ybt kr) .is .t ow ow ow) r2 r1 (qf (Zdw 1 Ybt kr XW .t .t ow ow ow) ⟨rfl,rfl,tv⟩ ⟨rfl,tv⟩ (qO rr qZ)))))))) M [7,6,0] Kk O O fun a w F G=>?_
 try dsimp only [xC,xN,rTx] at G
 simp only [Yg] at G
 obtain ⟨v2,hv2⟩:∃ y,y=Zfu (i+(l.length - (i+1))) v:=⟨_,rfl⟩
 rw [← hv2] at G
 have hcv:capV v2=capV v:=by rw [hv2];exact Zhf _ _
 obtain ⟨l4,hl4⟩:∃ y,y=l.take i++l.drop (i+1):=⟨_,rfl⟩
 rw [← hl4] at G
 have hl4n:l4.length+1=l.length:=K1
 have hg:=hl4.symm
 refine Za (Ya (rZ G (qR rr (qR rr (qf (Z3 1 Ybt .is) r1 r1 (qR rr (qf (ZkD (sz:=3) 1 (.mk Ybt kr) .is .t .t ow ow Wx) r3 r1 (qf (Zdx (zs:=[.int .i64 0,.bool false,.slice none 0 0]) 1 Ybt O O (Zf5 (zs:=[.int .i64 0,.bool false,.slice none 0 0]) (R:=rTx) (v:=(⟨0,false,[]⟩:TxD)) O XJ (fun _ _=>⟨⟨rfl,rfl,ZfP⟩,⟨rfl,rfl⟩,⟨rfl,Zhj⟩,tv⟩) _) .t ow Wx) r1 r1 qZ)))))) M [6,0] Kk fun G=>Ya ?_))
 refine rZ G (qR rr (qO rr qZ)) M [6] Kk fun G=>Yh ?_
 have G:=G.turn 1 O (r':=RS.hp (ZC 36 3 rTx (l.take i++l.drop (i+1)) v2)) (fun _ _ _ _ h=>by rw [hg];exact h)
 refine Zac (h':=fun v=>ZC 36 3 rTx (l.take i++l.drop (i+1)) v) hG G O (.tmp O .nil) (.one .one) rfl
end Go.Proofs.YtfecljadegkmdaaGreat
