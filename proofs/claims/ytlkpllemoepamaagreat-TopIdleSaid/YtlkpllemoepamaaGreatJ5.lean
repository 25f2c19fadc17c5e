/- Texts put together. No condition beyond those that each theorem says. -/
import Derived.Test.YtlkpllemoepamaaGreatJ2
import Derived.Test.YtlkpllemoepamaaGreatJ1
import Derived.Test.YtlkpllemoepamaaGreatLibE
import Derived.Test.YtlkpllemoepamaaGreatJ0
namespace Go.Proofs.YtlkpllemoepamaaGreat
open Go Go.Gm Tryz
set_option linter.unusedVariables false
set_option linter.unusedSimpArgs false
set_option maxHeartbeats 4000000
set_option maxRecDepth 8000
def Zdh (x y:Int):Int:=if x<y then -1 else if y<x then 1 else 0
theorem ZeD {x y:Int} : Zdh x y<0 ↔ x<y:=by unfold Zdh;split <;> (try split) <;> omega
theorem Zki {x y:Int} : Zdh x y=0 ↔ x=y:=by unfold Zdh;split <;> (try split) <;> omega
theorem ZvR {x:Int} (h:0≤x∧x≤18446744073709551615):IntKind.wrap .u64 x=x:=Zf3 ⟨by simp [IntKind.min,IntKind.signed,IntKind.bits];omega,by simp [IntKind.max,IntKind.signed,IntKind.bits];omega⟩
theorem Zia {i j:Nat} (h:i+j≤2000000):IntKind.wrap .i64 ((IntKind.wrap .u64 (IntKind.wrap .i64 ((i:Int)+(j:Int)))).fdiv (2 ^ min (1:Int).toNat (IntKind.bits .u64)))=(((i+j) / 2:Nat):Int):=by
 rw [Zz (x:=(i:Int)+(j:Int)) ow,ZvR ow,show (2:Int) ^ min (1:Int).toNat (IntKind.bits .u64)=2 by decide,YaQ _ (by decide),Zz ow]
 omega
def Zcq {α:Type} [Inhabited α] (κ:α→Int) (l:List α):Prop:=∀ a b,a<b→b<l.length→κ (Nn l a)<κ (Nn l b)
def lowK {α:Type} (κ:α→Int) (k:Int) (l:List α):Nat:=(l.takeWhile fun x=>decide (κ x<k)).length
def isK {α:Type} (κ:α→Int) (k:Int) (l:List α):Bool:=l.any fun x=>decide (κ x=k)
theorem ZdN {α:Type} [Inhabited α] {κ:α→Int} {k:Int} : ∀ {l:List α} {i:Nat},i≤l.length→(∀ q,q<i→κ (Nn l q)<k)→(∀ q,i≤q→q<l.length→k≤κ (Nn l q))→lowK κ k l=i
 | [],i,hi,_,_=>by simp at hi;subst hi;rfl
 | x :: l,0,_,_,h2=>by
  have:=h2 0 (YL _) (by simp)
  rw [nth_eq (by simp)] at this
  unfold lowK
  rw [List.takeWhile_cons_of_neg (by simpa using this)];rfl
 | x :: l,i+1,hi,h1,h2=>by
  have hx:=h1 0 ow
  rw [nth_eq (by simp)] at hx
  have ih:=ZdN (κ:=κ) (k:=k) (l:=l) (i:=i) (by simpa using hi) (fun q hq=>by
   have:=h1 (q+1) ow
   rw [nth_eq (by simp at hi ⊢;omega)] at this
   rw [nth_eq (by simp at hi;omega)];simpa using this) (fun q hq hq2=>by
   have:=h2 (q+1) ow (by simp;omega)
   rw [nth_eq (by simp;omega)] at this
   rw [nth_eq hq2];simpa using this)
  unfold lowK at ih ⊢
  rw [Ybo (by simpa using hx),Yl,ih]
theorem Zn7 {α:Type} [Inhabited α] {κ:α→Int} {k:Int} {l:List α} {i:Nat} (hi:i≤l.length) (hs:Zcq κ l) (h1:∀ q,q<i→κ (Nn l q)<k) (h2:∀ q,i≤q→q<l.length→k≤κ (Nn l q)):isK κ k l=true ↔ i<l.length∧κ (Nn l i)=k:=by
 unfold isK
 rw [Yaz]
 constructor
 ·rintro ⟨x,hx,hk⟩
  obtain ⟨q,hq,e⟩:=Yab hx
  have hk':κ (Nn l q)=k:=by rw [nth_eq hq,e];simpa using hk
  have hiq:i≤q:=Nat.le_of_not_lt fun h=>by have:=h1 q h;omega
  rcases Y0 hiq with h | h
  ·have a1:=hs i q h hq
   have a2:=h2 i (YL _) ow
   omega
  ·subst h;exact ⟨hq,hk'⟩
 ·rintro ⟨h3,h4⟩
  exact ⟨_,nth_mem h3,by simpa using h4⟩
theorem ZbL {α:Type} [Inhabited α] {κ:α→Int} {l:List α} (hs:Zcq κ l) {a b:Nat} (h:a≤b) (hb:b<l.length):κ (Nn l a)≤κ (Nn l b):=by
 rcases Y0 h with h | h
 ·exact Yb6 (hs a b h hb)
 ·subst h;exact Yao _
theorem Zma (x:Int):FnP prog 151 [.int .i64 x] (.bool false):=by
 refine FnP.mk func151 rfl ntmps151 rfl fun B a w F V hfr G=>Ya ?_
 refine rZ G qB V [2,0] [0] fun G=>Ya ?_
 refine rZ G (qR rr (qR rr (qf (o_neq .t .t) r2 qz (qO rr qZ)))) V [2] [0] fun G=>Yh ?_
 refine Zs hfr G rfl rfl rfl (.bool (by simp))
theorem Zjb (x y:Int):FnP prog 110 [.int .i64 x,.int .i64 y] (.int .i64 (Zdh x y)):=by
 refine FnP.mk func110 rfl ntmps110 rfl fun B a w F V hfr G=>Ya ?_
 refine rZ G (qI qZ) V [4,1,0] [0] fun G=>Ya ?_
 refine rZ G (qR rr (qf (oP (Zma x) func151 (Args.one .t)) r1 qz (qO rr qZ))) V [5,4,1,0] [0] fun G=>Ya ?_
 refine rZ G (qR rr (qf (oP (Zma y) func151 (Args.one .t)) r1 qz (qO rr qZ))) V [6,5,4,1,0] [0] fun G=>(Ya (Ya ?_))
 refine rZ G (qR rr qZ) V [11,6,4,1,0] [0] fun G=>?_
 refine Zc G rfl (fun hc0=>?_) (fun hc0=>?_)
 ·simp at hc0
 refine Ye (Za (Ya (Ya (rZ G (qR rr qZ) V [13,4,1,0] [0] fun G=>?_))))
 refine Zc G rfl (fun hc1=>?_) (fun hc1=>?_)
 ·simp at hc1
 refine Ye (Za (Ya (Ya (rZ G (qR rr (qR rr (qL r2))) V [16,4,1,0] [0] fun G=>?_))))
 refine Zc G rfl (fun hc2=>?_) (fun hc2=>?_)
 ·have hg:(-1:Int)=Zdh x y:=by unfold Zdh;rw [Yf (by simpa using hc2)]
  refine Ya (rZ G (qI qZ) V [4,1,0] [0] fun G=>(Yh (Zk ?_)))
  refine Zs hfr G rfl rfl rfl (.int hg)
 have h1:¬ x<y:=by simpa using hc2
 refine Ye (Za (Ya (Ya (rZ G (qR rr (qR rr (qf (ZaP .t .t) r2 qz qZ))) V [19,4] [0] fun G=>?_))))
 refine Zc G rfl (fun hc3=>?_) (fun hc3=>?_)
 ·have hg:(1:Int)=Zdh x y:=by unfold Zdh;rw [Yc h1,Yf (by simpa using hc3)]
  refine Ya (rZ G (qI qZ) V [4] [0] fun G=>(Yh (Zk ?_)))
  refine Zs hfr G rfl rfl rfl (.int hg)
 have hg:(0:Int)=Zdh x y:=by unfold Zdh;rw [Yc h1,Yc (by simpa using hc3)]
 refine Ye (Za (Ya (rZ G (qI qZ) V [4] [0] fun G=>Yh ?_)))
 refine Zs hfr G rfl rfl rfl (.int hg)
theorem Zrb (x:TxD) (k:Int):FnP prog 109 [.agg (rTx x),.int .i64 k] (.int .i64 (Zdh x.id k)):=by
 refine FnP.mk func109 rfl ntmps109 rfl fun B a w F V hfr G=>Ya ?_
 refine Zb G (qx 101 r1 (qI qZ)) V [4,2,1] [101,0] (fun _=>rfl) (fun _=>rfl) fun τ a w F G=>?_
 try dsimp only [RS.sub,SF.sub,CF.sub,csub,Anc.sub,List.map,zCF,rTx] at G
 generalize τ 2=v2 at G
 refine Za (Ya (rZ G (qg 0 101 r1 r1 (qa 101 r1 r1 (qR rr (qf (oP (Zjb x.id k) func110 (Args.two .t .t)) r2 qz (qO rr qZ))))) V [4] [0] fun G=>Yh ?_))
 refine Zs hfr G rfl rfl rfl (.int rfl)
theorem Ztm (x:OrdD) (k:Int):FnP prog 98 [.agg (ZJ x),.int .i64 k] (.int .i64 (Zdh x.key k)):=by
 refine FnP.mk func98 rfl ntmps98 rfl fun B a w F V hfr G=>Ya ?_
 refine Zb G (qx 101 r1 (qI qZ)) V [4,2,1] [101,0] (fun _=>rfl) (fun _=>rfl) fun τ a w F G=>?_
 try dsimp only [RS.sub,SF.sub,CF.sub,csub,Anc.sub,List.map,zCF,ZJ] at G
 generalize τ 2=v2 at G
 refine Za (Ya (rZ G (qg 0 101 r1 r1 (qa 101 r1 r1 (qR rr (qf (oP (Zjb x.key k) func110 (Args.two .t .t)) r2 qz (qO rr qZ))))) V [4] [0] fun G=>Yh ?_))
 refine Zs hfr G rfl rfl rfl (.int rfl)
theorem ZvV (l : List TxD) (k : Int) (hll : l.length ≤ 1000000) (hs : Zcq TxD.id l) (f : FuncId) (fn : Func) (cps : List PV) (hf : prog.funcs[f]? = some fn) (hb : fn.body.isSome = true) (hnn : (fn.name == "runtime.NumGoroutine") = false) (hw : ∀ x : TxD, FnP prog f (.agg (rTx x) :: .int .i64 k :: cps) (.int .i64 (Zdh (TxD.id x) k))) : FnP prog 108 [.sl rTx l, .int .i64 k, .clos f cps] (.tup [.int .i64 (lowK TxD.id k l), .bool (isK TxD.id k l)]) := by
 refine FnP.mk func108 rfl ntmps108 rfl fun B a w F V hfr G=>Ya ?_
 refine rZ G (qI qB) V [7,6,2,1,0] [0] fun G=>Ya ?_
 refine rZ G (qR rr (qu Ycg r1 (qO rr qZ))) V [8,7,6,2,1,0] [0] fun G=>Ya ?_
 refine rZ G (qR rr (qI (qO rr qZ))) V [10,9,8,7,6,2,1,0] [0] fun G=>(Ya (Yg ?_))
 refine Zl (σ:=Nat×Nat) [0,1,2,6,7,8] [0] (fun s=>[(9,.pv (.int .i64 (s.1:Int))),(10,.pv (.int .i64 (s.2:Int)))]) (fun s=>[]) (fun s=>s.1≤s.2∧s.2≤l.length∧(∀ q,q<s.1→TxD.id (Nn l q)<k) ∧ ∀ q,s.2≤q→q<l.length→k≤TxD.id (Nn l q)) (fun s=>s.2 - s.1) ((0),(l.length)) G ⟨rfl,rfl,rfl,rfl,rfl,rfl,rfl,rfl,tv⟩ ⟨rfl,tv⟩ ⟨Yx _,YL _,fun q hq=>absurd hq (Y2 q),fun q h1 h2=>by omega⟩ ?_
 clear G;intro s a w F hC G
 obtain ⟨i,j⟩:=s
 try dsimp only at hC
 obtain ⟨F,G⟩:=G.nM [10,9,8,7,6,2,1,0] [0]
 try dsimp only at G
 obtain ⟨hij,hjl,hlo,hhi⟩:=hC
 have hgs:=Zn7 (i:=i) ow hs hlo
 have hgl:=ZdN (i:=i) ow hlo
 refine Ya (Ya (rZ G (qR rr (qR rr (qL r2))) V [17,10,9,8,7,6,2,1,0] [0] fun G=>?_))
 refine Zc G rfl (fun hc0=>?_) (fun hc0=>?_)
 ·skip
  have hlt:i<j:=by simp at hc0;omega
  refine Ye (Za (Yg (Ya (Ze G (qR rr (qR rr (qf (o_add .t .t) r2 qz (qf (o_conv Yck kr .t) r1 qz (qf (Zci .t qi (by decide)) r1 qz (qf (o_conv Ycl kr .t) r1 qz (qO rr qZ))))))) V [11,10,9,8,7,6,2,1,0] [0] rfl rfl fun a w F G=>?_))))
  obtain ⟨m,hm⟩:∃ m:Nat,m=(i+j) / 2:=⟨_,rfl⟩
  replace G:=G.ent (i:=11) (s':=.pv (.int .i64 (m:Int))) rfl (.int (by rw [hm];exact Zia ow))
  obtain ⟨F,G⟩:=G.nM [11,10,9,8,7,6,2,1,0] [0]
  refine Za (Ya (Ze G (qR rr (qR rr (qR rr (qy 3 Ycg r2 (qf (oR true 3 .t) r1 qz (qR rr (qf (ZM (avs:=[.agg (rTx (Nn l m)),.int .i64 k]) .t (hw (Nn l m)) hf hb hnn (Args.two (.pagg .t) .t)) r3 qz (qf (ZaA .t qi) r1 qz qZ)))))))) V [31,11,10,9,8,7,6,2,1,0] [0] rfl rfl fun a w F G=>?_))
  try simp only [Yb] at G
  refine Za (Zc G rfl (fun hc1=>?_) (fun hc1=>?_))
  ·skip
   have hmk:TxD.id (Nn l m)<k:=ZeD.1 (by simpa using hc1)
   obtain ⟨i2,hi2e⟩:∃ z,z=m+1:=⟨_,rfl⟩
   obtain ⟨j2,hj2e⟩:∃ z,z=j:=⟨_,rfl⟩
   have hi2:IntKind.wrap .i64 ((m:Int)+1)=(i2:Int):=by rw [hi2e];exact Zd ow
   have hj2:(j:Int)=(j2:Int):=by rw [hj2e]
   have hmu:j2 - i2<j - i:=by omega
   have hC2:i2≤j2∧j2≤l.length∧(∀ q,q<i2→TxD.id (Nn l q)<k) ∧ ∀ q,j2≤q→q<l.length→k≤TxD.id (Nn l q):=⟨by omega,by omega,fun q hq=>Int.lt_of_le_of_lt (ZbL hs ow ow) hmk,by rw [hj2e];exact hhi⟩
   refine Ze G (qR rr (qp r1 (qO rr qZ))) V [10,9,8,7,6,2,1,0] [0] rfl rfl fun a w F G=>Zi (Za ?_)
   replace G:=G.ent (i:=9) (s':=.pv (.int .i64 (i2:Int))) rfl (.int hi2)
   replace G:=G.ent (i:=10) (s':=.pv (.int .i64 (j2:Int))) rfl (.int hj2)
   obtain ⟨F,G⟩:=G.nM [8,7,6,2,1,0,10,9] [0]
   exact ⟨((i2),(j2)),F,hC2,G,hmu⟩
  have hmk:k≤TxD.id (Nn l m):=Int.not_lt.1 fun e=>(show ¬ Zdh (TxD.id (Nn l m)) k<0 by simpa using hc1) (ZeD.2 e)
  obtain ⟨i2,hi2e⟩:∃ z,z=i:=⟨_,rfl⟩
  obtain ⟨j2,hj2e⟩:∃ z,z=m:=⟨_,rfl⟩
  have hi2:(i:Int)=(i2:Int):=by rw [hi2e]
  have hj2:(m:Int)=(j2:Int):=by rw [hj2e]
  have hmu:j2 - i2<j - i:=by omega
  have hC2:i2≤j2∧j2≤l.length∧(∀ q,q<i2→TxD.id (Nn l q)<k) ∧ ∀ q,j2≤q→q<l.length→k≤TxD.id (Nn l q):=⟨by omega,by omega,by rw [hi2e];exact hlo,fun q h1 h2=>YbO hmk (ZbL hs ow h2)⟩
  refine Ze G (qR rr (qO rr qZ)) V [10,9,8,7,6,2,1,0] [0] rfl rfl fun a w F G=>Zi (Za ?_)
  replace G:=G.ent (i:=9) (s':=.pv (.int .i64 (i2:Int))) rfl (.int hi2)
  replace G:=G.ent (i:=10) (s':=.pv (.int .i64 (j2:Int))) rfl (.int hj2)
  obtain ⟨F,G⟩:=G.nM [8,7,6,2,1,0,10,9] [0]
  exact ⟨((i2),(j2)),F,hC2,G,hmu⟩
 have hjj:i=j:=by simp at hc0;omega
 subst hjj
 have hgl2:=hgl hhi
 have hgs2:=hgs hhi
 have hb2:(decide ((i:Int)<(l.length:Int)) && decide (Zdh (TxD.id (Nn l i)) k=0))=isK TxD.id k l:=by
   rw [Yai,hgs2]
   simp [Zki]
 refine Yw (Zj (Zj (Zo (Za (Ya (Ze G (qR rr (qR rr (qR rr (qf (ZaA .t .t) r2 qz (qR rr (qm rfl rfl rfl rfl (qm rfl rfl rfl rfl (qm rfl rfl rfl rfl (qk rfl (fun h=>o_indexAddr_sl (sz:=3) (.mk Ycg kr) (by intro x;rfl) (.w h) (.w h) ow (by have:=Yt h;omega)) r3 qz (qk rfl (fun h=>oR true 3 (.w h)) r2 qz (qm rfl rfl rfl rfl (qk rfl (fun h=>ZM (avs:=[.agg (rTx (Nn l i)),.int .i64 k]) (.w h) (hw (Nn l i)) hf hb hnn (Args.two (.pagg (.w h)) (.w h))) r4 qz (qk rfl (fun h=>o_eql (.w h) qi) r2 qz (qf (ZE .t .t) r2 qz (qO rr (qO rr qZ)))))))))))))))) V [7,6] [0] rfl rfl fun a w F G=>?_))))))
 try simp only [Yb] at G
 refine Za (Yh (Z6 hfr G rfl (.tmp rfl (.tmp rfl .nil)) (.two (.int (by rw [hgl2])) (.bool hb2))))
theorem Zv9 (l : List OrdD) (k : Int) (hll : l.length ≤ 1000000) (hs : Zcq OrdD.key l) (f : FuncId) (fn : Func) (cps : List PV) (hf : prog.funcs[f]? = some fn) (hb : fn.body.isSome = true) (hnn : (fn.name == "runtime.NumGoroutine") = false) (hw : ∀ x : OrdD, FnP prog f (.agg (ZJ x) :: .int .i64 k :: cps) (.int .i64 (Zdh (OrdD.key x) k))) : FnP prog 97 [.sl ZJ l, .int .i64 k, .clos f cps] (.tup [.int .i64 (lowK OrdD.key k l), .bool (isK OrdD.key k l)]) := by
 refine FnP.mk func97 rfl ntmps97 rfl fun B a w F V hfr G=>Ya ?_
 refine rZ G (qI qB) V [7,6,2,1,0] [0] fun G=>Ya ?_
 refine rZ G (qR rr (qu Ycf r1 (qO rr qZ))) V [8,7,6,2,1,0] [0] fun G=>Ya ?_
 refine rZ G (qR rr (qI (qO rr qZ))) V [10,9,8,7,6,2,1,0] [0] fun G=>(Ya (Yg ?_))
 refine Zl (σ:=Nat×Nat) [0,1,2,6,7,8] [0] (fun s=>[(9,.pv (.int .i64 (s.1:Int))),(10,.pv (.int .i64 (s.2:Int)))]) (fun s=>[]) (fun s=>s.1≤s.2∧s.2≤l.length∧(∀ q,q<s.1→OrdD.key (Nn l q)<k) ∧ ∀ q,s.2≤q→q<l.length→k≤OrdD.key (Nn l q)) (fun s=>s.2 - s.1) ((0),(l.length)) G ⟨rfl,rfl,rfl,rfl,rfl,rfl,rfl,rfl,tv⟩ ⟨rfl,tv⟩ ⟨Yx _,YL _,fun q hq=>absurd hq (Y2 q),fun q h1 h2=>by omega⟩ ?_
 clear G;intro s a w F hC G
 obtain ⟨i,j⟩:=s
 try dsimp only at hC
 obtain ⟨F,G⟩:=G.nM [10,9,8,7,6,2,1,0] [0]
 try dsimp only at G
 obtain ⟨hij,hjl,hlo,hhi⟩:=hC
 have hgs:=Zn7 (i:=i) ow hs hlo
 have hgl:=ZdN (i:=i) ow hlo
 refine Ya (Ya (rZ G (qR rr (qR rr (qL r2))) V [17,10,9,8,7,6,2,1,0] [0] fun G=>?_))
 refine Zc G rfl (fun hc0=>?_) (fun hc0=>?_)
 ·skip
  have hlt:i<j:=by simp at hc0;omega
  refine Ye (Za (Yg (Ya (Ze G (qR rr (qR rr (qf (o_add .t .t) r2 qz (qf (o_conv Yck kr .t) r1 qz (qf (Zci .t qi (by decide)) r1 qz (qf (o_conv Ycl kr .t) r1 qz (qO rr qZ))))))) V [11,10,9,8,7,6,2,1,0] [0] rfl rfl fun a w F G=>?_))))
  obtain ⟨m,hm⟩:∃ m:Nat,m=(i+j) / 2:=⟨_,rfl⟩
  replace G:=G.ent (i:=11) (s':=.pv (.int .i64 (m:Int))) rfl (.int (by rw [hm];exact Zia ow))
  obtain ⟨F,G⟩:=G.nM [11,10,9,8,7,6,2,1,0] [0]
  refine Za (Ya (Ze G (qR rr (qR rr (qR rr (qy 2 Ycf r2 (qf (oR true 2 .t) r1 qz (qR rr (qf (ZM (avs:=[.agg (ZJ (Nn l m)),.int .i64 k]) .t (hw (Nn l m)) hf hb hnn (Args.two (.pagg .t) .t)) r3 qz (qf (ZaA .t qi) r1 qz qZ)))))))) V [31,11,10,9,8,7,6,2,1,0] [0] rfl rfl fun a w F G=>?_))
  try simp only [Yb] at G
  refine Za (Zc G rfl (fun hc1=>?_) (fun hc1=>?_))
  ·skip
   have hmk:OrdD.key (Nn l m)<k:=ZeD.1 (by simpa using hc1)
   obtain ⟨i2,hi2e⟩:∃ z,z=m+1:=⟨_,rfl⟩
   obtain ⟨j2,hj2e⟩:∃ z,z=j:=⟨_,rfl⟩
   have hi2:IntKind.wrap .i64 ((m:Int)+1)=(i2:Int):=by rw [hi2e];exact Zd ow
   have hj2:(j:Int)=(j2:Int):=by rw [hj2e]
   have hmu:j2 - i2<j - i:=by omega
   have hC2:i2≤j2∧j2≤l.length∧(∀ q,q<i2→OrdD.key (Nn l q)<k) ∧ ∀ q,j2≤q→q<l.length→k≤OrdD.key (Nn l q):=⟨by omega,by omega,fun q hq=>Int.lt_of_le_of_lt (ZbL hs ow ow) hmk,by rw [hj2e];exact hhi⟩
   refine Ze G (qR rr (qp r1 (qO rr qZ))) V [10,9,8,7,6,2,1,0] [0] rfl rfl fun a w F G=>Zi (Za ?_)
   replace G:=G.ent (i:=9) (s':=.pv (.int .i64 (i2:Int))) rfl (.int hi2)
   replace G:=G.ent (i:=10) (s':=.pv (.int .i64 (j2:Int))) rfl (.int hj2)
   obtain ⟨F,G⟩:=G.nM [8,7,6,2,1,0,10,9] [0]
   exact ⟨((i2),(j2)),F,hC2,G,hmu⟩
  have hmk:k≤OrdD.key (Nn l m):=Int.not_lt.1 fun e=>(show ¬ Zdh (OrdD.key (Nn l m)) k<0 by simpa using hc1) (ZeD.2 e)
  obtain ⟨i2,hi2e⟩:∃ z,z=i:=⟨_,rfl⟩
  obtain ⟨j2,hj2e⟩:∃ z,z=m:=⟨_,rfl⟩
  have hi2:(i:Int)=(i2:Int):=by rw [hi2e]
  have hj2:(m:Int)=(j2:Int):=by rw [hj2e]
  have hmu:j2 - i2<j - i:=by omega
  have hC2:i2≤j2∧j2≤l.length∧(∀ q,q<i2→OrdD.key (Nn l q)<k) ∧ ∀ q,j2≤q→q<l.length→k≤OrdD.key (Nn l q):=⟨by omega,by omega,by rw [hi2e];exact hlo,fun q h1 h2=>YbO hmk (ZbL hs ow h2)⟩
  refine Ze G (qR rr (qO rr qZ)) V [10,9,8,7,6,2,1,0] [0] rfl rfl fun a w F G=>Zi (Za ?_)
  replace G:=G.ent (i:=9) (s':=.pv (.int .i64 (i2:Int))) rfl (.int hi2)
  replace G:=G.ent (i:=10) (s':=.pv (.int .i64 (j2:Int))) rfl (.int hj2)
  obtain ⟨F,G⟩:=G.nM [8,7,6,2,1,0,10,9] [0]
  exact ⟨((i2),(j2)),F,hC2,G,hmu⟩
 have hjj:i=j:=by simp at hc0;omega
 subst hjj
 have hgl2:=hgl hhi
 have hgs2:=hgs hhi
 have hb2:(decide ((i:Int)<(l.length:Int)) && decide (Zdh (OrdD.key (Nn l i)) k=0))=isK OrdD.key k l:=by
   rw [Yai,hgs2]
   simp [Zki]
 refine Yw (Zj (Zj (Zo (Za (Ya (Ze G (qR rr (qR rr (qR rr (qf (ZaA .t .t) r2 qz (qR rr (qm rfl rfl rfl rfl (qm rfl rfl rfl rfl (qm rfl rfl rfl rfl (qk rfl (fun h=>o_indexAddr_sl (sz:=2) (.mk Ycf kr) (by intro x;rfl) (.w h) (.w h) ow (by have:=Yt h;omega)) r3 qz (qk rfl (fun h=>oR true 2 (.w h)) r2 qz (qm rfl rfl rfl rfl (qk rfl (fun h=>ZM (avs:=[.agg (ZJ (Nn l i)),.int .i64 k]) (.w h) (hw (Nn l i)) hf hb hnn (Args.two (.pagg (.w h)) (.w h))) r4 qz (qk rfl (fun h=>o_eql (.w h) qi) r2 qz (qf (ZE .t .t) r2 qz (qO rr (qO rr qZ)))))))))))))))) V [7,6] [0] rfl rfl fun a w F G=>?_))))))
 try simp only [Yb] at G
 refine Za (Yh (Z6 hfr G rfl (.tmp rfl (.tmp rfl .nil)) (.two (.int (by rw [hgl2])) (.bool hb2))))
theorem Zs5 (g:Zr) (id:Int) (hs:Za1 g.txs) (hr:Zcq TxD.id g.txs):FnP prog 64 [.agg (Zw g),.int .i64 id] (.tup [.int .i64 (lowK TxD.id id g.txs),.bool (isK TxD.id id g.txs)]):=by
 refine FnP.mk func64 rfl ntmps64 rfl fun B a w F V hfr G=>?_
 have hsl:=hs.1
 refine Ya (Zb G (qx 101 r1 (qI qB)) V [5,4,2,1] [101,0] (fun _=>rfl) (fun _=>rfl) fun τ a w F G=>?_)
 try dsimp only [RS.sub,SF.sub,CF.sub,csub,Anc.sub,List.map,zCF,Zw,rTx,ZJ,ZT,Zn,rOp] at G
 generalize τ 2=v2 at G
 refine Za (Ya (rZ G (qg 0 101 r1 r1 (qa 101 r1 r1 (qR rr (qf (oP (ZvV g.txs id ow hr 109 f109 [] func109 rfl kr (fun x=>Zrb x id)) func108 (Args.three .t .t (.conv .f (Ent.fnClos)))) r2 qz (qf (Zh .t rfl) r1 qz (qf (Zh .t rfl) r1 qz (qO rr (qO rr qZ)))))))) V [5,4] [101,0] fun G=>Yh ?_))
 refine Z6 hfr G rfl (.tmp rfl (.tmp rfl .nil)) (.two .refl .refl)
def orZ:List Int→Int
 | []=>0
 | x :: l=>if x=0 then orZ l else x
theorem Zs0:∀ {l:List Int} {i:Nat},i<l.length→(∀ q,q<i→Nn l q=0)→Nn l i≠0→orZ l=Nn l i
 | x :: l,0,h,_,hn=>by rw [nth_eq h] at hn ⊢;exact Yc hn
 | x :: l,i+1,h,hq,hn=>by
  have h':i<l.length:=by simpa using h
  have h0:=hq 0 ow
  rw [nth_eq (by simp)] at h0
  have e:Nn (x :: l) (i+1)=Nn l i:=by rw [nth_eq h,nth_eq h'];rfl
  rw [e] at hn ⊢
  rw [orZ,Yf (show x=0 from h0)]
  exact Zs0 h' (fun q hq2=>by
   have:=hq (q+1) ow
   rwa [nth_eq (by simp;omega),List.getElem_cons_succ,← nth_eq ow] at this) hn
theorem ZkQ:∀ {l:List Int},(∀ q,q<l.length→Nn l q=0)→orZ l=0
 | [],_=>rfl
 | x :: l,hq=>by
  have h0:=hq 0 (by simp)
  rw [nth_eq (by simp)] at h0
  rw [orZ,Yf (show x=0 from h0)]
  exact ZkQ fun q hq2=>by
   have:=hq (q+1) (by simp;omega)
   rwa [nth_eq (by simp;omega),List.getElem_cons_succ,← nth_eq hq2] at this
def okE (e:Z8):Prop:=(0≤e.label∧e.label≤1048575)∧0≤e.node∧e.node≤4095
def Za2 (e:Z8):Int:=(e.kind*1048576+e.label)*4096+e.node
theorem Zq3 {a b:Z8} (ha:okE a) (hb:okE b):orZ [Zdh a.kind b.kind,Zdh a.label b.label,Zdh a.node b.node] = Zdh (Za2 a) (Za2 b):=by
 obtain ⟨⟨a1,a2⟩,a3,a4⟩:=ha
 obtain ⟨⟨b1,b2⟩,b3,b4⟩:=hb
 unfold orZ orZ orZ orZ Za2 Zdh
 repeat' split
 all_goals omega
theorem keyE_inj {a b:Z8} (ha:okE a) (hb:okE b) (h:Za2 a=Za2 b):a=b:=by
 obtain ⟨⟨a1,a2⟩,a3,a4⟩:=ha
 obtain ⟨⟨b1,b2⟩,b3,b4⟩:=hb
 unfold Za2 at h
 cases a;cases b
 simp only at *
 congr 1 <;> omega
theorem Zv1 (l:List Int):FnP prog 218 [.sl Zn l] (.int .i64 (orZ l)):=by
 refine FnP.mk func218 rfl ntmps218 rfl fun B a w F V hfr G=>?_
 have hxl:=Sat.lenSl G (i:=0) rfl
 refine Ya (rZ G (qI qZ) V [2,0] [0] fun G=>Ya ?_)
 refine rZ G (qI qZ) V [3,2,0] [0] fun G=>(Ya (Ya ?_))
 refine rZ G (qR rr (qu Ycd r1 (qJ qZ))) V [8,7,6,3,2] [0] fun G=>Yg ?_
 refine Zl (σ:=(Nat)) [2,3,6,7] [0] (fun s=>[(8,.pv (.int .i64 (s:Int)))]) (fun s=>[]) (fun s=>s≤l.length∧(∀ q,q<s→Nn l q=0)) (fun s=>l.length - s) (0) G ⟨rfl,rfl,rfl,rfl,rfl,tv⟩ ⟨rfl,tv⟩ ⟨Yx _,fun q hq=>absurd hq (Y2 q)⟩ ?_
 clear G;intro i a w F hC G
 try dsimp only at hC
 obtain ⟨F,G⟩:=G.nM [8,7,6,3,2] [0]
 try dsimp only at G
 obtain ⟨hi,hq⟩:=hC
 refine Ya (rZ G (qL r2) V [9,8,7,6,3,2] [0] fun G=>Ya ?_)
 refine Zc G rfl (fun hc0=>?_) (fun hc0=>?_)
 ·have hil:i<l.length:=by simp at hc0;omega
  refine Ye (Za (Ya (Yg (Ya (Ze G (qy 1 Ycd r2 (qf (oR false 1 .t) r1 qz (qO rr qZ))) V [8,7,6,5,3,2] [0] rfl rfl fun a w F G=>?_)))))
  try simp only [Yb] at G
  refine Za (Ya (rZ G (qR rr (qR rr (qf (o_neq .t .t) r2 qz qZ))) V [14,8,7,6,5,3,2] [0] fun G=>?_))
  refine Zc G rfl (fun hc1=>?_) (fun hc1=>?_)
  ·have hg:Nn l i=orZ l:=(Zs0 ow hq (by simpa using hc1)).symm
   refine Ya (rZ G (qR rr (qO rr qZ)) V [8,7,6,3,2] [0] fun G=>(Yh (ZA (Zk (Zk (ZA (Zk ?_)))))))
   refine Zs hfr G rfl rfl rfl (.int hg)
  have hne:Nn l i=0:=by simpa using hc1
  refine Ye (Zi (Za (rZ G (qp r1 (qR rr qZ)) V [8,7,6,3,2] [0] fun G=>?_)))
  replace G:=G.ent (i:=8) (s':=.pv (.int .i64 ((i+1:Nat):Int))) rfl (.int (Zd ow))
  obtain ⟨F,G⟩:=G.nM [7,6,3,2,8] [0]
  exact ⟨(i+1),F,⟨by omega,(fun q h9=>by rcases Y0 (Y7 h9) with h8 | h8;exact hq q h8;rw [h8];exact hne)⟩,G,by omega⟩
 have hil:i=l.length:=by simp at hc0;omega
 have hg:(0:Int)=orZ l:=(ZkQ fun q h9=>hq q ow).symm
 refine Yw (Zj (Zj (Zo (Za (Ya (rZ G (qR rr (qO rr qZ)) V [2] [0] fun G=>Yh ?_))))))
 refine Zs hfr G rfl rfl rfl (.int hg)
theorem ZsM (x y:Z8) (hx:okE x) (hy:okE y):FnP prog 196 [.agg (Zav x),.agg (Zav y)] (.int .i64 (Zdh (Za2 x) (Za2 y))):=by
 refine FnP.mk func196 rfl ntmps196 rfl fun B a w F V hfr G=>Ya ?_
 refine Zb G (qx 101 r1 (qx 102 r1 (qI qZ))) V [4,3,2] [102,101,0] (fun _=>rfl) (fun _=>rfl) fun τ a w F G=>?_
 try dsimp only [RS.sub,SF.sub,CF.sub,csub,Anc.sub,List.map,zCF,Zav,Zau,Zn,Zao] at G
 generalize τ 2=v2,τ 3=v3 at G
 refine Za (Ya (Zv G (qg 0 101 r1 r1 (qa 101 r1 r1 (qg 0 102 r1 r1 (qa 102 r1 r1 (qf (oP (Zjb x.kind y.kind) func110 (Args.two .t .t)) r2 qz (qg 1 101 r1 r1 (qa 101 r1 r1 (qg 1 102 r1 r1 (qa 102 r1 r1 (qf (oP (Zjb x.label y.label) func110 (Args.two .t .t)) r2 qz (qg 2 101 r1 r1 (qa 101 r1 r1 (qg 2 102 r1 r1 (qa 102 r1 r1 (qf (oP (Zjb x.node y.node) func110 (Args.two .t .t)) r2 qz (qf (o_buildSliceE (sz:=1) (zs:=[.int .i64 0]) (r:=[(0,.tmp 9),(1,.tmp 14),(2,.tmp 19)]) (l:=[_,_,_]) Ycd kr kr kr kr rfl rfl (.one rfl .t one_int kr (.one rfl .t one_int kr (.one rfl .t one_int kr .nil))) rfl) r3 qz (qf (oP (Zv1 [Zdh x.kind y.kind,Zdh x.label y.label,Zdh x.node y.node]) func218 (Args.one (.conv .t (Ent.arrSl (R:=Zn) (l:=[Zdh x.kind y.kind,Zdh x.label y.label,Zdh x.node y.node]) rfl)))) r1 qz (qO rr qZ)))))))))))))))))) V [4] [0] rfl rfl fun a w F G=>?_))
 try dsimp only [List.map,Zf,xL,xM,Nat.reduceAdd,xD,xE,xT,xU,xC,xN,zCF,ldSF,Zav,Zau,Zn,Zao] at G
 refine Za (Yh (Zs hfr G rfl rfl rfl (.int (Zq3 hx hy))))
theorem Zj9 {α:Type} {l:List α} {i:Nat} {x:α} (h:i=l.length):l.take i ++ [x] ++ l.drop i=l ++ [x]:=by rw [h];simp
theorem Zih {α:Type} {l l2 l3:List α} {i:Nat} {x z:α} (hi:i<l.length) (h2:l2=l.take i++List.replicate (l.length+1 - i) z) (h3:l3=l2.take i ++ [x] ++ l2.drop (i + [x].length)) :
  l.take i ++ [x] ++ l.drop i=l3.take (i+1)++l.drop i++l3.drop (i+1+(l.drop i).length):=by
 have e1:l2.take i=l.take i:=by
  rw [h2,YY (by rw [Yi];omega),YaS,Yb7]
 have e0:l2.length=l.length+1:=by rw [h2,Yd,Yi,YT];omega
 have e2:l3.take (i+1)=l.take i ++ [x]:=by
  rw [h3,e1,YY (by rw [Yd,Yi];simp;omega),Yad (by rw [Yd,Yi];simp;omega)]
 have e3:l3.length=l.length+1:=by
  rw [h3,e1,Yd,Yd,Yi,YE,e0];simp;omega
 have e4:l3.drop (i+1+(l.drop i).length) = []:=List.drop_eq_nil_of_le (by rw [e3,YE];omega)
 rw [e2,e4,YP]
theorem Zgg {α:Type} {l l4:List α} {i:Nat} {x:α} (hi:i<l.length) (h4:l4=l.take (i+1)++l.drop i):l.take i ++ [x] ++ l.drop i=l4.take i ++ [x] ++ l4.drop (i + [x].length):=by
 have e1:l4.take i=l.take i:=by
  rw [h4,YY (by rw [Yi];omega),YaS,YaZ ow]
 have e2:l4.drop (i + [x].length)=l.drop i:=by
  rw [h4,show i + [x].length=i+1 from rfl,List.drop_append_of_le_length (by rw [Yi];omega),List.drop_eq_nil_of_le (by rw [Yi];omega),Yav]
 rw [e1,e2]
theorem Zvx (v:Value) (l:List TxD) (i:Nat) (x:TxD) (hll:l.length≤1000000) (hi:i≤l.length):FnG prog 61 1 [.is v,.int .i64 i,.sl rTx [x]] [Zy 30 3 rTx l v] (PV.one) (fun v=>[Zy 30 3 rTx (l.take i ++ [x] ++ l.drop i) v]):=by
 refine FnG.mk func61 rfl ntmps61 rfl kr fun B F0 a w F V hG G=>?_
 replace G:=G.turn 1 rfl (r':=.ob (.val v) (Zy 30 3 rTx l)) (fun _ _ _ _ h=>h)
 refine Ya (rZ G (qC qZ) V [6,2,1,0] [1,0] fun G=>Ya ?_)
 refine rZ G (qR rr (qR rr (qf (Zf7 (sz:=3) 1 (.mk Ycg kr) .is .t ow ow) r2 r1 qZ))) V [6,2,1,0] [1,0] fun G=>Ya ?_
 refine Ze G (qR rr (qu Ycg r1 (qO rr qZ))) V [7,6,2,1,0] [1,0] rfl rfl fun a w F G=>?_
 replace G:=G.ent (i:=7) (s':=.pv (.int .i64 1)) rfl (.int rfl)
 obtain ⟨F,G⟩:=G.nM [7,6,2,1,0] [1,0]
 refine Za (Ya (Ya (rZ G (qR rr (qf (o_eql .t qi) r1 qz qZ)) V [16,7,6,2,1,0] [1,0] fun G=>?_)))
 refine Zc G rfl (fun hc0=>?_) (fun hc0=>?_)
 ·simp at hc0
 refine Ye (Za (Ya (rZ G (qR rr (qf (ZU 1 Ycg .is) r1 r1 (qO rr qZ))) V [8,7,6,2,1,0] [1,0] fun G=>(Ya (Ya ?_)))))
 refine rZ G (qR rr (qR rr (qf (o_eql .t .t) r2 qz qZ))) V [22,8,7,6,2,1,0] [1,0] fun G=>?_
 refine Zc G rfl (fun hc1=>?_) (fun hc1=>?_)
 ·have hg:=Zj9 (x:=x) (by have h9:=hc1;simp at h9;omega:i=l.length)
  refine Ya (Zb G (qR rr (qR rr (qf (ZR (sz:=3) (bs:=40) 1 (.mk' Ycg kr kr) (by intro x;rfl) .is (.sl .t) (by simp only [Yl,Yy];omega) (by decide)) ⟨rfl,rfl,tv⟩ ⟨rfl,tv⟩ (qO rr qZ)))) V [8,7,6,2,1,0] [1,0] (fun _=>rfl) (fun _=>rfl) fun τ a w F G=>?_)
  try dsimp only [RS.sub,SF.sub,CF.sub,csub,Anc.sub,List.map,xC,xN,rTx] at G
  generalize τ 25=v25 at G
  refine Za (Yh (Zk ?_))
  have G:=G.turn 1 rfl (r':=RS.hp (Zy 30 3 rTx (l.take i ++ [x] ++ l.drop i) v25)) (fun _ _ _ _ h=>by rw [hg];exact h)
  refine Z1 (h':=fun v=>Zy 30 3 rTx (l.take i ++ [x] ++ l.drop i) v) hG G rfl (.tmp rfl .nil) (.one .one) rfl
 have hil:i<l.length:=by simp at hc1;omega
 have hw1:IntKind.wrap .i64 ((i:Int)+1)=((i+1:Nat):Int):=Zd ow
 have hwn:IntKind.wrap .i64 ((l.length:Int)+1)=((l.length+1:Nat):Int):=Zd ow
 refine Ye (Za (Ya (Ya (rZ G (qR rr (qR rr (qf (o_add .t .t) r2 qz (qR rr (qf (Zf2 1 Ycg .is) r1 r1 (qf (ZaP .t .t) r2 qz qZ)))))) V [31,8,7,6,2,1,0] [1,0] fun G=>?_))))
 refine Zc G rfl (fun hc2=>?_) (fun hc2=>?_)
 ·have hcap:capV v<l.length+1:=by rw [hwn] at hc2;simp at hc2;omega
  have hw:IntKind.wrap .i64 (IntKind.wrap .i64 ((l.length:Int)+1) - (i:Int))=((l.length+1 - i:Nat):Int):=by rw [hwn,Zz ow];omega
  refine Ya (Zb G (qR rr (qR rr (qf (Zdm (sz:=3) 1 (.mk Ycg kr) .is .t ow ow) r2 r1 (qR rr (qR rr (qf (o_add .t .t) r2 qz (qR rr (qf (o_sub .t .t) r2 qz (qf (Zb6 (R:=rTx) (z:=(⟨0,false,[]⟩:TxD)) (bs:=40) (sz:=3) (zs:=[.int .i64 0,.bool false,.slice none 0 0]) 1 101 Ycg Ycl kr kr kr (by intro x;rfl) (fun _ _=>⟨⟨rfl,rfl,ZcS⟩,⟨rfl,rfl⟩,⟨rfl,ZjS⟩,tv⟩) .t .t ow (by rw [hw];omega) (by rw [hw];omega) (by rw [hw];omega) (by rw [hw];omega)) ⟨rfl,rfl,tv⟩ ⟨rfl,tv⟩ (qO rr qZ)))))))))) V [9,8,7,6,2,1,0] [101,1,0] (fun _=>rfl) (fun _=>rfl) fun τ a w F G=>?_)
  try dsimp only [RS.sub,SF.sub,CF.sub,csub,Anc.sub,List.map,xC,xN,rTx] at G
  generalize τ 40=v40 at G
  rw [hw] at G
  simp only [Yb] at G
  obtain ⟨l2,hl2⟩:∃ y,y=l.take i++List.replicate (l.length+1 - i) (⟨0,false,[]⟩:TxD):=⟨_,rfl⟩
  rw [← hl2] at G
  have hl2n:l2.length=l.length+1:=by rw [hl2,Yd,Yi,YT];omega
  obtain ⟨F,G⟩:=G.give 1 0 rfl rfl
  obtain ⟨F,G⟩:=G.nM [9,8,7,6,2,1,0] [101,0]
  refine Za (Ya (Ze G (qR rr (qR rr (qf (Z7 (sz:=3) 101 (.mk Ycg kr) .is .t ow ow) r2 r1 (qR rr (qf (o_copy_sub 101 Ycg kr (by intro x;rfl) .t .t (by simp) (by simp;omega)) r2 r1 qZ))))) V [9,8,7,6,2,1,0] [101,0] rfl rfl fun a w F G=>?_))
  simp only [Yb] at G
  obtain ⟨l3,hl3⟩:∃ y,y=l2.take i ++ [x] ++ l2.drop (i + [x].length):=⟨_,rfl⟩
  rw [← hl3] at G
  have hl3n:l3.length=l.length+1:=by rw [hl3,Yd,Yd,Yi,YE,hl2n];simp;omega
  refine Za (Ya (Zv G (qR rr (qR rr (qR rr (qf (o_add .t .t) r2 qz (qf (Z7 (sz:=3) 101 (.mk Ycg kr) .is .t (by rw [hw1];omega) (by rw [hw1];omega)) r2 r1 (qR rr (qR rr (qf (o_slice_lo (sz:=3) (.mk Ycg kr) (by intro x;rfl) .t .t ow ow) r2 qz (qf (o_copy_sub 101 Ycg kr (by intro x;rfl) .t .t (by intro h9;have:=Y4 List.length h9;simp at this;omega) (by rw [hw1,YE];omega)) r2 r1 qZ))))))))) V [9,8,7,6,2,1,0] [101,0] rfl rfl fun a w F G=>?_))
  try dsimp only [rTx] at G
  rw [hw1] at G
  simp only [Yb] at G
  have hg:=Zih (x:=x) hil hl2 hl3
  refine Za (Ya (rZ G (qR rr (qO rr qZ)) V [8,7,6,2,1,0] [101,0] fun G=>(Yh (Zk ?_))))
  obtain ⟨F,G⟩:=G.rename 101 1 rfl rfl
  have G:=G.turn 1 rfl (r':=RS.hp (Zy 30 3 rTx (l.take i ++ [x] ++ l.drop i) v40)) (fun _ _ _ _ h=>by rw [hg];exact h)
  refine Z1 (h':=fun v=>Zy 30 3 rTx (l.take i ++ [x] ++ l.drop i) v) hG G rfl (.tmp rfl .nil) (.one .one) rfl
 have hcap:l.length+1≤capV v:=by rw [hwn] at hc2;simp at hc2;omega
 refine Ye (Za (Ya (Zb G (qR rr (qR rr (qR rr (qf (o_add .t .t) r2 qz (qf (ZeA (sz:=3) 1 (.mk Ycg kr) .is .t (by rw [hwn];omega) ow) r2 r1 (qO rr qZ)))))) V [8,7,6,2,1,0] [1,0] (fun _=>rfl) (fun _=>rfl) fun τ a w F G=>?_)))
 try dsimp only [RS.sub,SF.sub,CF.sub,csub,Anc.sub,List.map,rTx] at G
 generalize τ 60=v60 at G
 refine Za (Ya (Ya (rZ G (qR rr (qR rr (qR rr (qR rr (qf (o_add .t .t) r2 qz (qf (ZaO (sz:=3) 1 (.mk Ycg kr) .is .t (by rw [hw1];omega) (by rw [hw1];omega)) r2 r1 (qf (ZeG 1 func100 kr kr kr rfl Ycg kr (by intro x;rfl) .t .t (by rw [hw1];omega)) r2 r1 (qf (o_not .t) r1 qz qZ)))))))) V [68,8,7,6,2,1,0] [1,0] fun G=>?_)))
 refine Zc G rfl (fun hc3=>?_) (fun hc3=>?_)
 ·refine Ya (Zv G (qR rr (qR rr (qR rr (qf (o_add .t .t) r2 qz (qf (ZaO (sz:=3) 1 (.mk Ycg kr) .is .t (by rw [hw1];omega) (by rw [hw1];omega)) r2 r1 (qR rr (qR rr (qf (ZaO (sz:=3) 1 (.mk Ycg kr) .is .t ow ow) r2 r1 (qf (Zc3 (k:=i) 1 Ycg kr (by intro x;rfl) .t .t (by rw [hw1];rfl) rfl ow) r2 r1 qZ))))))))) V [8,7,6,2,1,0] [1,0] rfl rfl fun a w F G=>?_)
  try dsimp only [rTx] at G
  obtain ⟨l4,hl4⟩:∃ y,y=l.take (i+1)++l.drop i:=⟨_,rfl⟩
  rw [← hl4] at G
  have hl4n:l4.length=l.length+1:=by rw [hl4,Yd,Yi,YE];omega
  refine Za (Ya (Ze G (qR rr (qR rr (qf (Z7 (sz:=3) 1 (.mk Ycg kr) .is .t ow ow) r2 r1 (qR rr (qf (o_copy_sub 1 Ycg kr (by intro x;rfl) .t .t (by simp) (by simp;omega)) r2 r1 qZ))))) V [8,7,6,2,1,0] [1,0] rfl rfl fun a w F G=>?_))
  simp only [Yb] at G
  have hg:=Zgg (x:=x) hil hl4
  refine Za (Ya (rZ G (qR rr (qO rr qZ)) V [8,7,6,2,1,0] [1,0] fun G=>(Yh (Zk ?_))))
  have G:=G.turn 1 rfl (r':=RS.hp (Zy 30 3 rTx (l.take i ++ [x] ++ l.drop i) v60)) (fun _ _ _ _ h=>by rw [hg];exact h)
  refine Z1 (h':=fun v=>Zy 30 3 rTx (l.take i ++ [x] ++ l.drop i) v) hG G rfl (.tmp rfl .nil) (.one .one) rfl
 simp at hc3
theorem Zvt (v:Value) (l:List OrdD) (i:Nat) (x:OrdD) (hll:l.length≤1000000) (hi:i≤l.length):FnG prog 103 1 [.is v,.int .i64 i,.sl ZJ [x]] [Zy 70 2 ZJ l v] (PV.one) (fun v=>[Zy 70 2 ZJ (l.take i ++ [x] ++ l.drop i) v]):=by
 refine FnG.mk func103 rfl ntmps103 rfl kr fun B F0 a w F V hG G=>?_
 replace G:=G.turn 1 rfl (r':=.ob (.val v) (Zy 70 2 ZJ l)) (fun _ _ _ _ h=>h)
 refine Ya (rZ G (qC qZ) V [6,2,1,0] [1,0] fun G=>Ya ?_)
 refine rZ G (qR rr (qR rr (qf (Zf7 (sz:=2) 1 (.mk Ycf kr) .is .t ow ow) r2 r1 qZ))) V [6,2,1,0] [1,0] fun G=>Ya ?_
 refine Ze G (qR rr (qu Ycf r1 (qO rr qZ))) V [7,6,2,1,0] [1,0] rfl rfl fun a w F G=>?_
 replace G:=G.ent (i:=7) (s':=.pv (.int .i64 1)) rfl (.int rfl)
 obtain ⟨F,G⟩:=G.nM [7,6,2,1,0] [1,0]
 refine Za (Ya (Ya (rZ G (qR rr (qf (o_eql .t qi) r1 qz qZ)) V [16,7,6,2,1,0] [1,0] fun G=>?_)))
 refine Zc G rfl (fun hc0=>?_) (fun hc0=>?_)
 ·simp at hc0
 refine Ye (Za (Ya (rZ G (qR rr (qf (ZU 1 Ycf .is) r1 r1 (qO rr qZ))) V [8,7,6,2,1,0] [1,0] fun G=>(Ya (Ya ?_)))))
 refine rZ G (qR rr (qR rr (qf (o_eql .t .t) r2 qz qZ))) V [22,8,7,6,2,1,0] [1,0] fun G=>?_
 refine Zc G rfl (fun hc1=>?_) (fun hc1=>?_)
 ·have hg:=Zj9 (x:=x) (by have h9:=hc1;simp at h9;omega:i=l.length)
  refine Ya (Zb G (qR rr (qR rr (qf (ZR (sz:=2) (bs:=32) 1 (.mk' Ycf kr kr) (by intro x;rfl) .is (.sl .t) (by simp only [Yl,Yy];omega) (by decide)) ⟨rfl,rfl,tv⟩ ⟨rfl,tv⟩ (qO rr qZ)))) V [8,7,6,2,1,0] [1,0] (fun _=>rfl) (fun _=>rfl) fun τ a w F G=>?_)
  try dsimp only [RS.sub,SF.sub,CF.sub,csub,Anc.sub,List.map,xC,xN,ZJ] at G
  generalize τ 25=v25 at G
  refine Za (Yh (Zk ?_))
  have G:=G.turn 1 rfl (r':=RS.hp (Zy 70 2 ZJ (l.take i ++ [x] ++ l.drop i) v25)) (fun _ _ _ _ h=>by rw [hg];exact h)
  refine Z1 (h':=fun v=>Zy 70 2 ZJ (l.take i ++ [x] ++ l.drop i) v) hG G rfl (.tmp rfl .nil) (.one .one) rfl
 have hil:i<l.length:=by simp at hc1;omega
 have hw1:IntKind.wrap .i64 ((i:Int)+1)=((i+1:Nat):Int):=Zd ow
 have hwn:IntKind.wrap .i64 ((l.length:Int)+1)=((l.length+1:Nat):Int):=Zd ow
 refine Ye (Za (Ya (Ya (rZ G (qR rr (qR rr (qf (o_add .t .t) r2 qz (qR rr (qf (Zf2 1 Ycf .is) r1 r1 (qf (ZaP .t .t) r2 qz qZ)))))) V [31,8,7,6,2,1,0] [1,0] fun G=>?_))))
 refine Zc G rfl (fun hc2=>?_) (fun hc2=>?_)
 ·have hcap:capV v<l.length+1:=by rw [hwn] at hc2;simp at hc2;omega
  have hw:IntKind.wrap .i64 (IntKind.wrap .i64 ((l.length:Int)+1) - (i:Int))=((l.length+1 - i:Nat):Int):=by rw [hwn,Zz ow];omega
  refine Ya (Zb G (qR rr (qR rr (qf (Zdm (sz:=2) 1 (.mk Ycf kr) .is .t ow ow) r2 r1 (qR rr (qR rr (qf (o_add .t .t) r2 qz (qR rr (qf (o_sub .t .t) r2 qz (qf (Zb6 (R:=ZJ) (z:=(⟨0,[]⟩:OrdD)) (bs:=32) (sz:=2) (zs:=[.int .i64 0,.slice none 0 0]) 1 101 Ycf Ycl kr kr kr (by intro x;rfl) (fun _ _=>⟨⟨rfl,rfl,ZcS⟩,⟨rfl,ZjS⟩,tv⟩) .t .t ow (by rw [hw];omega) (by rw [hw];omega) (by rw [hw];omega) (by rw [hw];omega)) ⟨rfl,rfl,tv⟩ ⟨rfl,tv⟩ (qO rr qZ)))))))))) V [9,8,7,6,2,1,0] [101,1,0] (fun _=>rfl) (fun _=>rfl) fun τ a w F G=>?_)
  try dsimp only [RS.sub,SF.sub,CF.sub,csub,Anc.sub,List.map,xC,xN,ZJ] at G
  generalize τ 40=v40 at G
  rw [hw] at G
  simp only [Yb] at G
  obtain ⟨l2,hl2⟩:∃ y,y=l.take i++List.replicate (l.length+1 - i) (⟨0,[]⟩:OrdD):=⟨_,rfl⟩
  rw [← hl2] at G
  have hl2n:l2.length=l.length+1:=by rw [hl2,Yd,Yi,YT];omega
  obtain ⟨F,G⟩:=G.give 1 0 rfl rfl
  obtain ⟨F,G⟩:=G.nM [9,8,7,6,2,1,0] [101,0]
  refine Za (Ya (Ze G (qR rr (qR rr (qf (Z7 (sz:=2) 101 (.mk Ycf kr) .is .t ow ow) r2 r1 (qR rr (qf (o_copy_sub 101 Ycf kr (by intro x;rfl) .t .t (by simp) (by simp;omega)) r2 r1 qZ))))) V [9,8,7,6,2,1,0] [101,0] rfl rfl fun a w F G=>?_))
  simp only [Yb] at G
  obtain ⟨l3,hl3⟩:∃ y,y=l2.take i ++ [x] ++ l2.drop (i + [x].length):=⟨_,rfl⟩
  rw [← hl3] at G
  have hl3n:l3.length=l.length+1:=by rw [hl3,Yd,Yd,Yi,YE,hl2n];simp;omega
  refine Za (Ya (Zv G (qR rr (qR rr (qR rr (qf (o_add .t .t) r2 qz (qf (Z7 (sz:=2) 101 (.mk Ycf kr) .is .t (by rw [hw1];omega) (by rw [hw1];omega)) r2 r1 (qR rr (qR rr (qf (o_slice_lo (sz:=2) (.mk Ycf kr) (by intro x;rfl) .t .t ow ow) r2 qz (qf (o_copy_sub 101 Ycf kr (by intro x;rfl) .t .t (by intro h9;have:=Y4 List.length h9;simp at this;omega) (by rw [hw1,YE];omega)) r2 r1 qZ))))))))) V [9,8,7,6,2,1,0] [101,0] rfl rfl fun a w F G=>?_))
  try dsimp only [ZJ] at G
  rw [hw1] at G
  simp only [Yb] at G
  have hg:=Zih (x:=x) hil hl2 hl3
  refine Za (Ya (rZ G (qR rr (qO rr qZ)) V [8,7,6,2,1,0] [101,0] fun G=>(Yh (Zk ?_))))
  obtain ⟨F,G⟩:=G.rename 101 1 rfl rfl
  have G:=G.turn 1 rfl (r':=RS.hp (Zy 70 2 ZJ (l.take i ++ [x] ++ l.drop i) v40)) (fun _ _ _ _ h=>by rw [hg];exact h)
  refine Z1 (h':=fun v=>Zy 70 2 ZJ (l.take i ++ [x] ++ l.drop i) v) hG G rfl (.tmp rfl .nil) (.one .one) rfl
 have hcap:l.length+1≤capV v:=by rw [hwn] at hc2;simp at hc2;omega
 refine Ye (Za (Ya (Zb G (qR rr (qR rr (qR rr (qf (o_add .t .t) r2 qz (qf (ZeA (sz:=2) 1 (.mk Ycf kr) .is .t (by rw [hwn];omega) ow) r2 r1 (qO rr qZ)))))) V [8,7,6,2,1,0] [1,0] (fun _=>rfl) (fun _=>rfl) fun τ a w F G=>?_)))
 try dsimp only [RS.sub,SF.sub,CF.sub,csub,Anc.sub,List.map,ZJ] at G
 generalize τ 60=v60 at G
 refine Za (Ya (Ya (rZ G (qR rr (qR rr (qR rr (qR rr (qf (o_add .t .t) r2 qz (qf (ZaO (sz:=2) 1 (.mk Ycf kr) .is .t (by rw [hw1];omega) (by rw [hw1];omega)) r2 r1 (qf (ZeG 1 func146 kr kr kr rfl Ycf kr (by intro x;rfl) .t .t (by rw [hw1];omega)) r2 r1 (qf (o_not .t) r1 qz qZ)))))))) V [68,8,7,6,2,1,0] [1,0] fun G=>?_)))
 refine Zc G rfl (fun hc3=>?_) (fun hc3=>?_)
 ·refine Ya (Zv G (qR rr (qR rr (qR rr (qf (o_add .t .t) r2 qz (qf (ZaO (sz:=2) 1 (.mk Ycf kr) .is .t (by rw [hw1];omega) (by rw [hw1];omega)) r2 r1 (qR rr (qR rr (qf (ZaO (sz:=2) 1 (.mk Ycf kr) .is .t ow ow) r2 r1 (qf (Zc3 (k:=i) 1 Ycf kr (by intro x;rfl) .t .t (by rw [hw1];rfl) rfl ow) r2 r1 qZ))))))))) V [8,7,6,2,1,0] [1,0] rfl rfl fun a w F G=>?_)
  try dsimp only [ZJ] at G
  obtain ⟨l4,hl4⟩:∃ y,y=l.take (i+1)++l.drop i:=⟨_,rfl⟩
  rw [← hl4] at G
  have hl4n:l4.length=l.length+1:=by rw [hl4,Yd,Yi,YE];omega
  refine Za (Ya (Ze G (qR rr (qR rr (qf (Z7 (sz:=2) 1 (.mk Ycf kr) .is .t ow ow) r2 r1 (qR rr (qf (o_copy_sub 1 Ycf kr (by intro x;rfl) .t .t (by simp) (by simp;omega)) r2 r1 qZ))))) V [8,7,6,2,1,0] [1,0] rfl rfl fun a w F G=>?_))
  simp only [Yb] at G
  have hg:=Zgg (x:=x) hil hl4
  refine Za (Ya (rZ G (qR rr (qO rr qZ)) V [8,7,6,2,1,0] [1,0] fun G=>(Yh (Zk ?_))))
  have G:=G.turn 1 rfl (r':=RS.hp (Zy 70 2 ZJ (l.take i ++ [x] ++ l.drop i) v60)) (fun _ _ _ _ h=>by rw [hg];exact h)
  refine Z1 (h':=fun v=>Zy 70 2 ZJ (l.take i ++ [x] ++ l.drop i) v) hG G rfl (.tmp rfl .nil) (.one .one) rfl
 simp at hc3
theorem Zu7 (l : List Z8) (e : Z8) (k : Int) (hll : l.length ≤ 1000000) (hs : Zcq Za2 l) (f : FuncId) (fn : Func) (cps : List PV) (hf : prog.funcs[f]? = some fn) (hb : fn.body.isSome = true) (hnn : (fn.name == "runtime.NumGoroutine") = false) (hw : ∀ x ∈ l, FnP prog f (.agg (Zav x) :: .agg (Zav e) :: cps) (.int .i64 (Zdh (Za2 x) k))) : FnP prog 195 [.sl Zav l, .agg (Zav e), .clos f cps] (.tup [.int .i64 (lowK Za2 k l), .bool (isK Za2 k l)]) := by
 refine FnP.mk func195 rfl ntmps195 rfl fun B a w F V hfr G=>Ya ?_
 refine Zb G (qx 101 r1 (qI qB)) V [7,6,4,2,0] [101,0] (fun _=>rfl) (fun _=>rfl) fun τ a w F G=>?_
 try dsimp only [RS.sub,SF.sub,CF.sub,csub,Anc.sub,List.map,zCF,Zav] at G
 generalize τ 4=v4 at G
 refine Za (Ya (rZ G (qR rr (qu Ych r1 (qO rr qZ))) V [8,7,6,4,2,0] [101,0] fun G=>Ya ?_))
 refine rZ G (qR rr (qI (qO rr qZ))) V [10,9,8,7,6,4,2,0] [101,0] fun G=>(Ya (Yg ?_))
 refine Zl (σ:=Nat×Nat) [0,2,4,6,7,8] [0,101] (fun s=>[(9,.pv (.int .i64 (s.1:Int))),(10,.pv (.int .i64 (s.2:Int)))]) (fun s=>[]) (fun s=>s.1≤s.2∧s.2≤l.length∧(∀ q,q<s.1→Za2 (Nn l q)<k) ∧ ∀ q,s.2≤q→q<l.length→k≤Za2 (Nn l q)) (fun s=>s.2 - s.1) ((0),(l.length)) G ⟨rfl,rfl,rfl,rfl,rfl,rfl,rfl,rfl,tv⟩ ⟨rfl,rfl,tv⟩ ⟨Yx _,YL _,fun q hq=>absurd hq (Y2 q),fun q h1 h2=>by omega⟩ ?_
 clear G;intro s a w F hC G
 obtain ⟨i,j⟩:=s
 try dsimp only at hC
 obtain ⟨F,G⟩:=G.nM [10,9,8,7,6,4,2,0] [101,0]
 try dsimp only at G
 obtain ⟨hij,hjl,hlo,hhi⟩:=hC
 have hgs:=Zn7 (i:=i) ow hs hlo
 have hgl:=ZdN (i:=i) ow hlo
 refine Ya (Ya (rZ G (qR rr (qR rr (qL r2))) V [17,10,9,8,7,6,4,2,0] [101,0] fun G=>?_))
 refine Zc G rfl (fun hc0=>?_) (fun hc0=>?_)
 ·skip
  have hlt:i<j:=by simp at hc0;omega
  refine Ye (Za (Yg (Ya (Ze G (qR rr (qR rr (qf (o_add .t .t) r2 qz (qf (o_conv Yck kr .t) r1 qz (qf (Zci .t qi (by decide)) r1 qz (qf (o_conv Ycl kr .t) r1 qz (qO rr qZ))))))) V [11,10,9,8,7,6,4,2,0] [101,0] rfl rfl fun a w F G=>?_))))
  obtain ⟨m,hm⟩:∃ m:Nat,m=(i+j) / 2:=⟨_,rfl⟩
  replace G:=G.ent (i:=11) (s':=.pv (.int .i64 (m:Int))) rfl (.int (by rw [hm];exact Zia ow))
  obtain ⟨F,G⟩:=G.nM [11,10,9,8,7,6,4,2,0] [101,0]
  refine Za (Ya (Zv G (qR rr (qR rr (qR rr (qy 3 Ych r2 (qf (oR true 3 .t) r1 qz (qe 3 101 r1 r1 (qf (ZM (avs:=[.agg (Zav (Nn l m)),.agg (Zav e)]) .t (hw (Nn l m) (nth_mem ow)) hf hb hnn (Args.two (.pagg .t) (.pagg .t))) r3 qz (qf (ZaA .t qi) r1 qz qZ)))))))) V [31,11,10,9,8,7,6,4,2,0] [101,0] rfl rfl fun a w F G=>?_))
  try dsimp only [List.map,xD,xE,xT,xU,ldSF,Zav] at G
  try simp only [Yb] at G
  refine Za (Zc G rfl (fun hc1=>?_) (fun hc1=>?_))
  ·skip
   have hmk:Za2 (Nn l m)<k:=ZeD.1 (by simpa using hc1)
   obtain ⟨i2,hi2e⟩:∃ z,z=m+1:=⟨_,rfl⟩
   obtain ⟨j2,hj2e⟩:∃ z,z=j:=⟨_,rfl⟩
   have hi2:IntKind.wrap .i64 ((m:Int)+1)=(i2:Int):=by rw [hi2e];exact Zd ow
   have hj2:(j:Int)=(j2:Int):=by rw [hj2e]
   have hmu:j2 - i2<j - i:=by omega
   have hC2:i2≤j2∧j2≤l.length∧(∀ q,q<i2→Za2 (Nn l q)<k) ∧ ∀ q,j2≤q→q<l.length→k≤Za2 (Nn l q):=⟨by omega,by omega,fun q hq=>Int.lt_of_le_of_lt (ZbL hs ow ow) hmk,by rw [hj2e];exact hhi⟩
   refine Ze G (qR rr (qp r1 (qO rr qZ))) V [10,9,8,7,6,4,2,0] [101,0] rfl rfl fun a w F G=>Zi (Za ?_)
   replace G:=G.ent (i:=9) (s':=.pv (.int .i64 (i2:Int))) rfl (.int hi2)
   replace G:=G.ent (i:=10) (s':=.pv (.int .i64 (j2:Int))) rfl (.int hj2)
   obtain ⟨F,G⟩:=G.nM [8,7,6,4,2,0,10,9] [101,0]
   exact ⟨((i2),(j2)),F,hC2,G,hmu⟩
  have hmk:k≤Za2 (Nn l m):=Int.not_lt.1 fun e=>(show ¬ Zdh (Za2 (Nn l m)) k<0 by simpa using hc1) (ZeD.2 e)
  obtain ⟨i2,hi2e⟩:∃ z,z=i:=⟨_,rfl⟩
  obtain ⟨j2,hj2e⟩:∃ z,z=m:=⟨_,rfl⟩
  have hi2:(i:Int)=(i2:Int):=by rw [hi2e]
  have hj2:(m:Int)=(j2:Int):=by rw [hj2e]
  have hmu:j2 - i2<j - i:=by omega
  have hC2:i2≤j2∧j2≤l.length∧(∀ q,q<i2→Za2 (Nn l q)<k) ∧ ∀ q,j2≤q→q<l.length→k≤Za2 (Nn l q):=⟨by omega,by omega,by rw [hi2e];exact hlo,fun q h1 h2=>YbO hmk (ZbL hs ow h2)⟩
  refine Ze G (qR rr (qO rr qZ)) V [10,9,8,7,6,4,2,0] [101,0] rfl rfl fun a w F G=>Zi (Za ?_)
  replace G:=G.ent (i:=9) (s':=.pv (.int .i64 (i2:Int))) rfl (.int hi2)
  replace G:=G.ent (i:=10) (s':=.pv (.int .i64 (j2:Int))) rfl (.int hj2)
  obtain ⟨F,G⟩:=G.nM [8,7,6,4,2,0,10,9] [101,0]
  exact ⟨((i2),(j2)),F,hC2,G,hmu⟩
 have hjj:i=j:=by simp at hc0;omega
 subst hjj
 have hgl2:=hgl hhi
 have hgs2:=hgs hhi
 have hb2:(decide ((i:Int)<(l.length:Int)) && decide (Zdh (Za2 (Nn l i)) k=0))=isK Za2 k l:=by
   rw [Yai,hgs2]
   simp [Zki]
 refine Yw (Zj (Zj (Zo (Za (Ya (Zv G (qR rr (qR rr (qR rr (qf (ZaA .t .t) r2 qz (qR rr (qm rfl rfl rfl rfl (qm rfl rfl rfl rfl (qm rfl rfl rfl rfl (qk rfl (fun h=>o_indexAddr_sl (sz:=3) (.mk Ych kr) (by intro x;rfl) (.w h) (.w h) ow (by have:=Yt h;omega)) r3 qz (qk rfl (fun h=>oR true 3 (.w h)) r2 qz (qk rfl (fun h=>oL true 3 101 .is) r2 r1 (qk rfl (fun h=>ZM (avs:=[.agg (Zav (Nn l i)),.agg (Zav e)]) (.w h) (hw (Nn l i) (nth_mem (by have:=Yt h;omega))) hf hb hnn (Args.two (.pagg (.w h)) (.pagg (.w h)))) r4 qz (qk rfl (fun h=>o_eql (.w h) qi) r2 qz (qf (ZE .t .t) r2 qz (qO rr (qO rr qZ)))))))))))))))) V [7,6] [0] rfl rfl fun a w F G=>?_))))))
 try dsimp only [List.map,xD,xE,xT,xU,ldSF,Zav] at G
 try simp only [Yb] at G
 refine Za (Yh (Z6 hfr G rfl (.tmp rfl (.tmp rfl .nil)) (.two (.int (by rw [hgl2])) (.bool hb2))))
theorem ZuY (v:Value) (l:List Z8) (i:Nat) (x:Z8) (hll:l.length≤1000000) (hi:i≤l.length):FnG prog 197 1 [.is v,.int .i64 i,.sl Zav [x]] [Zy 217 3 Zav l v] (PV.one) (fun v=>[Zy 217 3 Zav (l.take i ++ [x] ++ l.drop i) v]):=by
 refine FnG.mk func197 rfl ntmps197 rfl kr fun B F0 a w F V hG G=>?_
 replace G:=G.turn 1 rfl (r':=.ob (.val v) (Zy 217 3 Zav l)) (fun _ _ _ _ h=>h)
 refine Ya (rZ G (qC qZ) V [6,2,1,0] [1,0] fun G=>Ya ?_)
 refine rZ G (qR rr (qR rr (qf (Zf7 (sz:=3) 1 (.mk Ych kr) .is .t ow ow) r2 r1 qZ))) V [6,2,1,0] [1,0] fun G=>Ya ?_
 refine Ze G (qR rr (qu Ych r1 (qO rr qZ))) V [7,6,2,1,0] [1,0] rfl rfl fun a w F G=>?_
 replace G:=G.ent (i:=7) (s':=.pv (.int .i64 1)) rfl (.int rfl)
 obtain ⟨F,G⟩:=G.nM [7,6,2,1,0] [1,0]
 refine Za (Ya (Ya (rZ G (qR rr (qf (o_eql .t qi) r1 qz qZ)) V [16,7,6,2,1,0] [1,0] fun G=>?_)))
 refine Zc G rfl (fun hc0=>?_) (fun hc0=>?_)
 ·simp at hc0
 refine Ye (Za (Ya (rZ G (qR rr (qf (ZU 1 Ych .is) r1 r1 (qO rr qZ))) V [8,7,6,2,1,0] [1,0] fun G=>(Ya (Ya ?_)))))
 refine rZ G (qR rr (qR rr (qf (o_eql .t .t) r2 qz qZ))) V [22,8,7,6,2,1,0] [1,0] fun G=>?_
 refine Zc G rfl (fun hc1=>?_) (fun hc1=>?_)
 ·have hg:=Zj9 (x:=x) (by have h9:=hc1;simp at h9;omega:i=l.length)
  refine Ya (Zb G (qR rr (qR rr (qf (ZR (sz:=3) (bs:=24) 1 (.mk' Ych kr kr) (by intro x;rfl) .is (.sl .t) (by simp only [Yl,Yy];omega) (by decide)) ⟨rfl,rfl,tv⟩ ⟨rfl,tv⟩ (qO rr qZ)))) V [8,7,6,2,1,0] [1,0] (fun _=>rfl) (fun _=>rfl) fun τ a w F G=>?_)
  try dsimp only [RS.sub,SF.sub,CF.sub,csub,Anc.sub,List.map,xC,xN,Zav] at G
  generalize τ 25=v25 at G
  refine Za (Yh (Zk ?_))
  have G:=G.turn 1 rfl (r':=RS.hp (Zy 217 3 Zav (l.take i ++ [x] ++ l.drop i) v25)) (fun _ _ _ _ h=>by rw [hg];exact h)
  refine Z1 (h':=fun v=>Zy 217 3 Zav (l.take i ++ [x] ++ l.drop i) v) hG G rfl (.tmp rfl .nil) (.one .one) rfl
 have hil:i<l.length:=by simp at hc1;omega
 have hw1:IntKind.wrap .i64 ((i:Int)+1)=((i+1:Nat):Int):=Zd ow
 have hwn:IntKind.wrap .i64 ((l.length:Int)+1)=((l.length+1:Nat):Int):=Zd ow
 refine Ye (Za (Ya (Ya (rZ G (qR rr (qR rr (qf (o_add .t .t) r2 qz (qR rr (qf (Zf2 1 Ych .is) r1 r1 (qf (ZaP .t .t) r2 qz qZ)))))) V [31,8,7,6,2,1,0] [1,0] fun G=>?_))))
 refine Zc G rfl (fun hc2=>?_) (fun hc2=>?_)
 ·have hcap:capV v<l.length+1:=by rw [hwn] at hc2;simp at hc2;omega
  have hw:IntKind.wrap .i64 (IntKind.wrap .i64 ((l.length:Int)+1) - (i:Int))=((l.length+1 - i:Nat):Int):=by rw [hwn,Zz ow];omega
  refine Ya (Zb G (qR rr (qR rr (qf (Zdm (sz:=3) 1 (.mk Ych kr) .is .t ow ow) r2 r1 (qR rr (qR rr (qf (o_add .t .t) r2 qz (qR rr (qf (o_sub .t .t) r2 qz (qf (Zb6 (R:=Zav) (z:=(⟨0,0,0⟩:Z8)) (bs:=24) (sz:=3) (zs:=[.int .i64 0,.int .i64 0,.int .i64 0]) 1 101 Ych Ycl kr kr kr (by intro x;rfl) (fun _ _=>⟨⟨rfl,rfl,ZcS⟩,⟨rfl,rfl,ZcS⟩,⟨rfl,rfl,ZcS⟩,tv⟩) .t .t ow (by rw [hw];omega) (by rw [hw];omega) (by rw [hw];omega) (by rw [hw];omega)) ⟨rfl,rfl,tv⟩ ⟨rfl,tv⟩ (qO rr qZ)))))))))) V [9,8,7,6,2,1,0] [101,1,0] (fun _=>rfl) (fun _=>rfl) fun τ a w F G=>?_)
  try dsimp only [RS.sub,SF.sub,CF.sub,csub,Anc.sub,List.map,xC,xN,Zav] at G
  generalize τ 40=v40 at G
  rw [hw] at G
  simp only [Yb] at G
  obtain ⟨l2,hl2⟩:∃ y,y=l.take i++List.replicate (l.length+1 - i) (⟨0,0,0⟩:Z8):=⟨_,rfl⟩
  rw [← hl2] at G
  have hl2n:l2.length=l.length+1:=by rw [hl2,Yd,Yi,YT];omega
  obtain ⟨F,G⟩:=G.give 1 0 rfl rfl
  obtain ⟨F,G⟩:=G.nM [9,8,7,6,2,1,0] [101,0]
  refine Za (Ya (Ze G (qR rr (qR rr (qf (Z7 (sz:=3) 101 (.mk Ych kr) .is .t ow ow) r2 r1 (qR rr (qf (o_copy_sub 101 Ych kr (by intro x;rfl) .t .t (by simp) (by simp;omega)) r2 r1 qZ))))) V [9,8,7,6,2,1,0] [101,0] rfl rfl fun a w F G=>?_))
  simp only [Yb] at G
  obtain ⟨l3,hl3⟩:∃ y,y=l2.take i ++ [x] ++ l2.drop (i + [x].length):=⟨_,rfl⟩
  rw [← hl3] at G
  have hl3n:l3.length=l.length+1:=by rw [hl3,Yd,Yd,Yi,YE,hl2n];simp;omega
  refine Za (Ya (Zv G (qR rr (qR rr (qR rr (qf (o_add .t .t) r2 qz (qf (Z7 (sz:=3) 101 (.mk Ych kr) .is .t (by rw [hw1];omega) (by rw [hw1];omega)) r2 r1 (qR rr (qR rr (qf (o_slice_lo (sz:=3) (.mk Ych kr) (by intro x;rfl) .t .t ow ow) r2 qz (qf (o_copy_sub 101 Ych kr (by intro x;rfl) .t .t (by intro h9;have:=Y4 List.length h9;simp at this;omega) (by rw [hw1,YE];omega)) r2 r1 qZ))))))))) V [9,8,7,6,2,1,0] [101,0] rfl rfl fun a w F G=>?_))
  try dsimp only [Zav] at G
  rw [hw1] at G
  simp only [Yb] at G
  have hg:=Zih (x:=x) hil hl2 hl3
  refine Za (Ya (rZ G (qR rr (qO rr qZ)) V [8,7,6,2,1,0] [101,0] fun G=>(Yh (Zk ?_))))
  obtain ⟨F,G⟩:=G.rename 101 1 rfl rfl
  have G:=G.turn 1 rfl (r':=RS.hp (Zy 217 3 Zav (l.take i ++ [x] ++ l.drop i) v40)) (fun _ _ _ _ h=>by rw [hg];exact h)
  refine Z1 (h':=fun v=>Zy 217 3 Zav (l.take i ++ [x] ++ l.drop i) v) hG G rfl (.tmp rfl .nil) (.one .one) rfl
 have hcap:l.length+1≤capV v:=by rw [hwn] at hc2;simp at hc2;omega
 refine Ye (Za (Ya (Zb G (qR rr (qR rr (qR rr (qf (o_add .t .t) r2 qz (qf (ZeA (sz:=3) 1 (.mk Ych kr) .is .t (by rw [hwn];omega) ow) r2 r1 (qO rr qZ)))))) V [8,7,6,2,1,0] [1,0] (fun _=>rfl) (fun _=>rfl) fun τ a w F G=>?_)))
 try dsimp only [RS.sub,SF.sub,CF.sub,csub,Anc.sub,List.map,Zav] at G
 generalize τ 60=v60 at G
 refine Za (Ya (Ya (rZ G (qR rr (qR rr (qR rr (qR rr (qf (o_add .t .t) r2 qz (qf (ZaO (sz:=3) 1 (.mk Ych kr) .is .t (by rw [hw1];omega) (by rw [hw1];omega)) r2 r1 (qf (ZeG 1 func219 kr kr kr rfl Ych kr (by intro x;rfl) .t .t (by rw [hw1];omega)) r2 r1 (qf (o_not .t) r1 qz qZ)))))))) V [68,8,7,6,2,1,0] [1,0] fun G=>?_)))
 refine Zc G rfl (fun hc3=>?_) (fun hc3=>?_)
 ·refine Ya (Zv G (qR rr (qR rr (qR rr (qf (o_add .t .t) r2 qz (qf (ZaO (sz:=3) 1 (.mk Ych kr) .is .t (by rw [hw1];omega) (by rw [hw1];omega)) r2 r1 (qR rr (qR rr (qf (ZaO (sz:=3) 1 (.mk Ych kr) .is .t ow ow) r2 r1 (qf (Zc3 (k:=i) 1 Ych kr (by intro x;rfl) .t .t (by rw [hw1];rfl) rfl ow) r2 r1 qZ))))))))) V [8,7,6,2,1,0] [1,0] rfl rfl fun a w F G=>?_)
  try dsimp only [Zav] at G
  obtain ⟨l4,hl4⟩:∃ y,y=l.take (i+1)++l.drop i:=⟨_,rfl⟩
  rw [← hl4] at G
  have hl4n:l4.length=l.length+1:=by rw [hl4,Yd,Yi,YE];omega
  refine Za (Ya (Ze G (qR rr (qR rr (qf (Z7 (sz:=3) 1 (.mk Ych kr) .is .t ow ow) r2 r1 (qR rr (qf (o_copy_sub 1 Ych kr (by intro x;rfl) .t .t (by simp) (by simp;omega)) r2 r1 qZ))))) V [8,7,6,2,1,0] [1,0] rfl rfl fun a w F G=>?_))
  simp only [Yb] at G
  have hg:=Zgg (x:=x) hil hl4
  refine Za (Ya (rZ G (qR rr (qO rr qZ)) V [8,7,6,2,1,0] [1,0] fun G=>(Yh (Zk ?_))))
  have G:=G.turn 1 rfl (r':=RS.hp (Zy 217 3 Zav (l.take i ++ [x] ++ l.drop i) v60)) (fun _ _ _ _ h=>by rw [hg];exact h)
  refine Z1 (h':=fun v=>Zy 217 3 Zav (l.take i ++ [x] ++ l.drop i) v) hG G rfl (.tmp rfl .nil) (.one .one) rfl
 simp at hc3
theorem ZpK (l : List OrdD) (p : OrdD → Bool) (f : FuncId) (fn : Func) (cps : List PV) (hf : prog.funcs[f]? = some fn) (hb : fn.body.isSome = true) (hnn : (fn.name == "runtime.NumGoroutine") = false) (hw : ∀ x, FnP prog f (.agg (ZJ x) :: cps) (.bool (p x))) : FnP prog 40 [.sl ZJ l, .clos f cps] (.int .i64 (Z2 p l)) := by
 refine FnP.mk func40 rfl ntmps40 rfl fun B a w F V hfr G=>?_
 have hll:=Sat.lenSl G (i:=0) rfl
 refine Ya (rZ G (qI qZ) V [4,1,0] [0] fun G=>(Ya (Ya ?_)))
 refine rZ G (qR rr (qu Ycf r1 (qJ qZ))) V [8,7,4,1,0] [0] fun G=>Yg ?_
 refine Zl (σ:=(Nat)) [0,1,4,7] [0] (fun s=>[(8,.pv (.int .i64 (s:Int)))]) (fun s=>[]) (fun s=>s≤l.length∧(∀ k,k<s→p (Nn l k)=false)) (fun s=>l.length - s) (0) G ⟨rfl,rfl,rfl,rfl,rfl,tv⟩ ⟨rfl,tv⟩ ⟨Yx _,fun k hk=>absurd hk (Y2 k)⟩ ?_
 clear G;intro i a w F hC G
 try dsimp only at hC
 obtain ⟨F,G⟩:=G.nM [8,7,4,1,0] [0]
 try dsimp only at G
 obtain ⟨hi,hq⟩:=hC
 refine Ya (rZ G (qL r2) V [9,8,7,4,1,0] [0] fun G=>Ya ?_)
 refine Zc G rfl (fun hc0=>?_) (fun hc0=>?_)
 ·skip
  have hil:i<l.length:=by simp at hc0;omega
  refine Ye (Za (Ya (Yg (Ya (rZ G (qR rr (qO rr qZ)) V [8,7,5,4,1,0] [0] fun G=>Ya ?_)))))
  refine Ze G (qR rr (qR rr (qR rr (qy 2 Ycf r2 (qf (oR true 2 .t) r1 qz (qf (ZM (avs:=[.agg (ZJ (Nn l i))]) .t (hw (Nn l i)) hf hb hnn (Args.one (.pagg .t))) r2 qz qZ)))))) V [16,8,7,5,4,1,0] [0] rfl rfl fun a w F G=>?_
  try simp only [Yb] at G
  refine Za (Zc G rfl (fun hc1=>?_) (fun hc1=>?_))
  ·skip
   have hg:(i:Int)=Z2 p l:=(Zcg hil hc1 hq).symm
   refine Ya (rZ G (qR rr (qO rr qZ)) V [8,7,4,1,0] [0] fun G=>(Yh (ZA (Zk (Zk (ZA (Zk ?_)))))))
   refine Zs hfr G rfl rfl rfl (.int hg)
  have hne:p (Nn l i)=false:=hc1
  refine Ye (Zi (Za (rZ G (qp r1 (qR rr qZ)) V [8,7,4,1,0] [0] fun G=>?_)))
  replace G:=G.ent (i:=8) (s':=.pv (.int .i64 ((i+1:Nat):Int))) rfl (.int (Zd ow))
  obtain ⟨F,G⟩:=G.nM [7,4,1,0,8] [0]
  exact ⟨(i+1),F,⟨by omega,(fun k hk=>by rcases Y0 (Y7 hk) with h | h;exact hq k h;rw [h];exact hne)⟩,G,by omega⟩
 have hil:i=l.length:=by simp at hc0;omega
 have hg : -1=Z2 p l:=(Zbl fun k hk=>hq k (by simp at hc0;omega)).symm
 refine Yw (Zj (Zj (Zo (Za (Ya (rZ G (qI qZ) V [4] [0] fun G=>Yh ?_))))))
 refine Zs hfr G rfl rfl rfl (.int hg)
theorem ZuI (v : Value) (l : List OrdD) (hll : l.length ≤ 1000000) (p : OrdD → Bool) (f : FuncId) (fn : Func) (cps : List PV) (hf : prog.funcs[f]? = some fn) (hb : fn.body.isSome = true) (hnn : (fn.name == "runtime.NumGoroutine") = false) (hw : ∀ x, FnP prog f (.agg (ZJ x) :: cps) (.bool (p x))) : FnG prog 106 1 [.is v, .clos f cps] [Zy 70 2 ZJ l v] (PV.one) (fun v => [Zy 70 2 ZJ (l.filter fun x => !p x) v]) := by
 refine FnG.mk func106 rfl ntmps106 rfl kr fun B F0 a w F V hG G=>?_
 replace G:=G.turn 1 rfl (r':=.ob (.val v) (Zy 70 2 ZJ l)) (fun _ _ _ _ h=>h)
 refine Ya (rZ G (qC qZ) V [4,1,0] [1,0] fun G=>Ya ?_)
 refine rZ G (qR rr (qR rr (qf (OpC.lendRow 1 [8] (oP (ZpK l p f fn cps hf hb hnn hw) func40 (Args.two .t .t)) ⟨rfl,tv,tv⟩ (.pv (fun _ _ _ _ h=>h)) trivial (by rfl)) r2 r1 (qO rr qZ)))) V [5,4,1,0] [1,0] fun G=>(Ya (Ya ?_))
 refine rZ G (qR rr (qf (o_eql .t qi) r1 qz qZ)) V [12,5,4,1,0] [1,0] fun G=>?_
 refine Zc G rfl (fun hc0=>?_) (fun hc0=>?_)
 ·skip
  have hno:=(Zaw p l).resolve_right (by rintro ⟨i,h1,_⟩;simp at hc0;omega)
  have hg:(l.filter fun x=>!p x)=l:=Zdj hno.2
  refine Ya (rZ G (qR rr (qO rr qZ)) V [5,4,1,0] [1,0] fun G=>(Yh (Zk ?_)))
  have G:=G.turn 1 rfl (r':=RS.hp (Zy 70 2 ZJ (l.filter fun x=>!p x) v)) (fun _ _ _ _ h=>by rw [hg];exact h)
  refine Z1 (h':=fun v=>Zy 70 2 ZJ (l.filter fun x=>!p x) v) hG G rfl (.tmp rfl .nil) (.one .one) rfl
 obtain ⟨i0,hi0,hi1,hip,hib⟩:=(Zaw p l).resolve_left (by rintro ⟨h1,_⟩;simp [h1] at hc0)
 have hst0:=ZeK hi1 hip hib
 refine Ye (Za (Ya (Ya (rZ G (qR rr (qp r1 (qO rr qZ))) V [6,5,4,1,0] [1,0] fun G=>Yg ?_))))
 have hC0:i0<i0+1∧i0+1≤l.length∧l.length=l.length∧l.take i0=(l.take (i0+1)).filter (fun x=>!p x) ∧ ∀ k,i0+1≤k→k<l.length→Nn l k=Nn l k:=⟨by omega,by omega,rfl,hst0,fun k _ _=>rfl⟩
 replace G:=G.ent (i:=5) (s':=.pv (.int .i64 (i0:Int))) rfl (.int hi0)
 replace G:=G.ent (i:=6) (s':=.pv (.int .i64 ((i0+1:Nat):Int))) rfl (.int (by rw [hi0,Zz ow];omega))
 refine Zl (σ:=Nat×Nat×List OrdD) [0,1,4] [0] (fun s=>[(5,.pv (.int .i64 (s.1:Int))),(6,.pv (.int .i64 (s.2.1:Int)))]) (fun s=>[(1,.ob (.val v) (Zy 70 2 ZJ s.2.2))]) (fun s=>s.1<s.2.1∧s.2.1≤l.length∧s.2.2.length=l.length∧s.2.2.take s.1=(l.take s.2.1).filter (fun x=>!p x) ∧ ∀ k,s.2.1≤k→k<l.length→Nn s.2.2 k=Nn l k) (fun s=>l.length - s.2.1) ((i0),(i0+1),(l)) G ⟨rfl,rfl,rfl,rfl,rfl,tv⟩ ⟨rfl,rfl,tv⟩ hC0 ?_
 clear G;intro s a w F hC G
 obtain ⟨i,j,l1⟩:=s
 try dsimp only at hC
 obtain ⟨F,G⟩:=G.nM [6,5,4,1,0] [1,0]
 try dsimp only at G
 obtain ⟨hij,hj,hll1,htk,hrest⟩:=hC
 refine Ya (Ya (rZ G (qR rr (qR rr (qf (ZU 1 Ycf .is) r1 r1 (qL r2)))) V [19,6,5,4,1,0] [1,0] fun G=>?_))
 refine Zc G rfl (fun hc1=>?_) (fun hc1=>?_)
 ·skip
  have hjl:j<l.length:=by simp at hc1;omega
  have hnj:Nn l1 j=(Nn l j):=hrest j (YL _) hjl
  have hfs:=ZcB (p:=fun x=>!p x) hjl
  refine Ye (Za (Ya (Yg (Ya (Zb G (qR rr (qR rr (qf (o_indexAddr_row (sz:=2) 1 (.mk Ycf kr) .is .t ow ow (by rfl)) r2 r1 (qf (Zu (ag:=true) (sz':=2) (sz:=2) 1 .t (by intro x;rfl) ow kr kr kr) r1 r1 (qf (oH [.int .i64 0,.slice none 0 0] 101) trivial qz (qS 2 101 r2 r1 qZ)))))) V [7,6,5,4,1,0] [101,1,0] (fun _=>rfl) (fun _=>rfl) fun τ a w F G=>?_)))))
  try dsimp only [RS.sub,SF.sub,CF.sub,csub,Anc.sub,List.map,Zf,xL,xM,Nat.reduceAdd,xD,xE,xT,xU,xC,xN,zCF,ldSF,ZJ] at G
  generalize τ 7=v7 at G
  try simp only [Yb] at G
  rw [hnj] at G
  refine Za (Ya (rZ G (qR rr (qe 2 101 r1 r1 (qf (ZM (avs:=[.agg (ZJ (Nn l j))]) .t (hw (Nn l j)) hf hb hnn (Args.one (.pagg .t))) r2 qz (qf (o_not .t) r1 qz qZ)))) V [29,7,6,5,4,1,0] [101,1,0] fun G=>?_))
  refine Zc G rfl (fun hc2=>?_) (fun hc2=>?_)
  ·skip
   have hp:p (Nn l j)=false:=by simpa using hc2
   obtain ⟨i2,hi2e⟩:∃ i2,i2=i+1:=⟨_,rfl⟩
   have hi2:IntKind.wrap .i64 ((i:Int)+1)=(i2:Int):=by rw [hi2e];exact Zd ow
   obtain ⟨l2,hl2⟩:∃ l2,l2=l1.set i (Nn l j):=⟨_,rfl⟩
   have hC2:i2<j+1∧j+1≤l.length∧l2.length=l.length∧l2.take i2=(l.take (j+1)).filter (fun x=>!p x) ∧ ∀ k,j+1≤k→k<l.length→Nn l2 k=Nn l k:=⟨by omega,by omega,by rw [hl2,YI];exact hll1,by rw [hl2,hi2e,hfs,hp,← htk,Zp (by rw [YI];omega),YbG (YL _),nth_eq (by rw [YI];omega),Yba];rfl,fun k hk hk2=>by rw [hl2,nth_eq (by rw [YI];omega),YbH ow,← nth_eq ow];exact hrest k ow hk2⟩
   refine Ya (Ze G (qR rr (qR rr (qe 2 101 r1 r1 (qf (o_indexAddr_row (sz:=2) 1 (.mk Ycf kr) .is .t ow ow (by rfl)) r2 r1 (qf (ZdR (sz:=2) 1 .t (by intro x;rfl) ow (.conv .t (Ent.aggU (l:=ZJ (Nn l j)) rfl rfl)) kr) r2 r1 qZ))))) V [6,5,4,1,0] [1,0] rfl rfl fun a w F G=>?_)
   try simp only [Yb] at G
   rw [← hl2] at G
   refine Za (Ze G (qR rr (qp r1 (qO rr qZ))) V [6,5,4,1,0] [1,0] rfl rfl fun a w F G=>Zi (Za ?_))
   refine rZ G (qR rr (qp r1 (qO rr qZ))) V [6,5,4,1,0] [1,0] fun G=>?_
   have hmu:l.length - (j+1)<l.length - j:=by omega
   replace G:=G.ent (i:=5) (s':=.pv (.int .i64 (i2:Int))) rfl (.int hi2)
   replace G:=G.ent (i:=6) (s':=.pv (.int .i64 ((j+1:Nat):Int))) rfl (.int (Zd ow))
   obtain ⟨F,G⟩:=G.nM [4,1,0,6,5] [0,1]
   exact ⟨((i2),(j+1),(l2)),F,hC2,G,hmu⟩
  have hp:p (Nn l j)=true:=by simpa using hc2
  obtain ⟨i2,hi2e⟩:∃ i2,i2=i:=⟨_,rfl⟩
  have hi2:(i:Int)=(i2:Int):=by rw [hi2e]
  obtain ⟨l2,hl2⟩:∃ l2,l2=l1:=⟨_,rfl⟩
  rw [← hl2] at G
  have hC2:i2<j+1∧j+1≤l.length∧l2.length=l.length∧l2.take i2=(l.take (j+1)).filter (fun x=>!p x) ∧ ∀ k,j+1≤k→k<l.length→Nn l2 k=Nn l k:=⟨by omega,by omega,by rw [hl2];exact hll1,by rw [hl2,hi2e,hfs,hp,htk];simp,fun k hk hk2=>by rw [hl2];exact hrest k ow hk2⟩
  refine Ye (Zi (Za (rZ G (qR rr (qp r1 (qO rr qZ))) V [6,5,4,1,0] [1,0] fun G=>?_)))
  have hmu:l.length - (j+1)<l.length - j:=by omega
  replace G:=G.ent (i:=5) (s':=.pv (.int .i64 (i2:Int))) rfl (.int hi2)
  replace G:=G.ent (i:=6) (s':=.pv (.int .i64 ((j+1:Nat):Int))) rfl (.int (Zd ow))
  obtain ⟨F,G⟩:=G.nM [4,1,0,6,5] [0,1]
  exact ⟨((i2),(j+1),(l2)),F,hC2,G,hmu⟩
 have hjl:j=l.length:=by simp at hc1;omega
 have hil2:i<l.length:=by omega
 have hg:(l.filter fun x=>!p x)=(l1.take i++List.replicate (l1.length - i) (⟨0,[]⟩:OrdD)).take i:=by rw [YY (by rw [Yi];omega),YaS,Yb7,htk,hjl,YA]
 refine Yw (Zj (Zj (Zo (Za (Ya (rZ G (qR rr (qR rr (qf (Z7 (sz:=2) 1 (.mk Ycf kr) .is .t ow ow) r2 r1 (qf (ZbB (R:=ZJ) (z:=(⟨0,[]⟩:OrdD)) (zs:=[.int .i64 0,.slice none 0 0]) 1 Ycf kr rfl rfl (fun _ _=>⟨⟨rfl,rfl,ZcS⟩,⟨rfl,ZjS⟩,tv⟩) (by intro x;rfl) .t (by simp;omega)) r1 r1 qZ)))) V [5,4,0] [1,0] fun G=>Ya ?_))))))
 refine Zb G (qR rr (qR rr (qf (ZbH (sz:=2) 1 (.mk Ycf kr) (by intro x;rfl) .is .t ow (by simp;omega)) r2 r1 (qO rr qZ)))) V [4] [1,0] (fun _=>rfl) (fun _=>rfl) fun τ a w F G=>?_
 try dsimp only [RS.sub,SF.sub,CF.sub,csub,Anc.sub,List.map,ZJ] at G
 generalize τ 41=v41 at G
 refine Za (Yh ?_)
 have G:=G.turn 1 rfl (r':=RS.hp (Zy 70 2 ZJ (l.filter fun x=>!p x) v41)) (fun _ _ _ _ h=>by rw [hg];exact h)
 refine Z1 (h':=fun v=>Zy 70 2 ZJ (l.filter fun x=>!p x) v) hG G rfl (.tmp rfl .nil) (.one .one) rfl
end Go.Proofs.YtlkpllemoepamaaGreat
