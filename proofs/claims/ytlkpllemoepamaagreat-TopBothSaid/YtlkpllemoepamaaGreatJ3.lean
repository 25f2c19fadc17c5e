/- Laws and walks. No condition beyond what each says. -/
import Derived.Test.YtlkpllemoepamaaGreatJ2
namespace Go.Proofs.YtlkpllemoepamaaGreat
open Go Go.Gm Tryz
set_option linter.unusedVariables false
set_option linter.unusedSimpArgs false
set_option maxHeartbeats 4000000
set_option maxRecDepth 8000
def Zee (x y:Int):Int:=if x<y then -1 else if y<x then 1 else 0
theorem ZmA {x y:Int} : Zee x y<0 ↔ x<y:=by unfold Zee;split <;> (try split) <;> omega
theorem ZsB {x y:Int} : Zee x y=0 ↔ x=y:=by unfold Zee;split <;> (try split) <;> omega
theorem ZtG {x:Int} (h:0≤x∧x≤18446744073709551615):IntKind.wrap .u64 x=x:=ZgV ⟨by simp [IntKind.min,IntKind.signed,IntKind.bits];omega,by simp [IntKind.max,IntKind.signed,IntKind.bits];omega⟩
theorem Zmp {i j:Nat} (h:i+j≤2000000):IntKind.wrap .i64 ((IntKind.wrap .u64 (IntKind.wrap .i64 ((i:Int)+(j:Int)))).fdiv (2 ^ min (1:Int).toNat (IntKind.bits .u64)))=(((i+j) / 2:Nat):Int):=by
 rw [Zz (x:=(i:Int)+(j:Int)) ow,ZtG ow,show (2:Int) ^ min (1:Int).toNat (IntKind.bits .u64)=2 by decide,Ybi _ (by decide),Zz ow]
 omega
def Zgn {α:Type} [Inhabited α] (κ:α→Int) (l:List α):Prop:=∀ a b,a<b→b<l.length→κ (Nn l a)<κ (Nn l b)
def lowK {α:Type} (κ:α→Int) (k:Int) (l:List α):Nat:=(l.takeWhile fun x=>decide (κ x<k)).length
def isK {α:Type} (κ:α→Int) (k:Int) (l:List α):Bool:=l.any fun x=>decide (κ x=k)
theorem ZeN {α:Type} [Inhabited α] {κ:α→Int} {k:Int} : ∀ {l:List α} {i:Nat},i≤l.length→(∀ q,q<i→κ (Nn l q)<k)→(∀ q,i≤q→q<l.length→k≤κ (Nn l q))→lowK κ k l=i
 | [],i,hi,_,_=>by simp at hi;subst hi;rfl
 | x :: l,0,_,_,h2=>by
  have:=h2 0 (YO _) (by simp)
  rw [nth_eq (by simp)] at this
  unfold lowK
  rw [List.takeWhile_cons_of_neg (by simpa using this)];rfl
 | x :: l,i+1,hi,h1,h2=>by
  have hx:=h1 0 ow
  rw [nth_eq (by simp)] at hx
  have ih:=ZeN (κ:=κ) (k:=k) (l:=l) (i:=i) (by simpa using hi) (fun q hq=>by
   have:=h1 (q+1) ow
   rw [nth_eq (by simp at hi ⊢;omega)] at this
   rw [nth_eq (by simp at hi;omega)];simpa using this) (fun q hq hq2=>by
   have:=h2 (q+1) ow (by simp;omega)
   rw [nth_eq (by simp;omega)] at this
   rw [nth_eq hq2];simpa using this)
  unfold lowK at ih ⊢
  rw [List.takeWhile_cons_of_pos (by simpa using hx),Yk,ih]
theorem ZsQ {α:Type} [Inhabited α] {κ:α→Int} {k:Int} {l:List α} {i:Nat} (hi:i≤l.length) (hs:Zgn κ l) (h1:∀ q,q<i→κ (Nn l q)<k) (h2:∀ q,i≤q→q<l.length→k≤κ (Nn l q)):isK κ k l=true ↔ i<l.length∧κ (Nn l i)=k:=by
 unfold isK
 rw [YaU]
 constructor
 ·rintro ⟨x,hx,hk⟩
  obtain ⟨q,hq,e⟩:=YH hx
  have hk':κ (Nn l q)=k:=by rw [nth_eq hq,e];simpa using hk
  have hiq:i≤q:=Nat.le_of_not_lt fun h=>by have:=h1 q h;omega
  rcases YZ hiq with h | h
  ·have a1:=hs i q h hq
   have a2:=h2 i (YO _) ow
   omega
  ·subst h;exact ⟨hq,hk'⟩
 ·rintro ⟨h3,h4⟩
  exact ⟨_,nth_mem h3,by simpa using h4⟩
theorem Zdq {α:Type} [Inhabited α] {κ:α→Int} {l:List α} (hs:Zgn κ l) {a b:Nat} (h:a≤b) (hb:b<l.length):κ (Nn l a)≤κ (Nn l b):=by
 rcases YZ h with h | h
 ·exact YbT (hs a b h hb)
 ·subst h;exact Yam _
theorem ZjX (x:Int):FnP prog 151 [.int .i64 x] (.bool false):=by
 refine FnP.mk func151 rfl ntmps151 rfl fun B a w F Z hfr G=>Ya ?_
 refine rZ G qB Z [2,0] [0] fun G=>Ya ?_
 refine rZ G (qR rr (qR rr (qf (o_neq .t .t) r2 qz (qO rr qZ)))) Z [2] [0] fun G=>Yh ?_
 refine Zv hfr G rfl rfl rfl (.bool (by simp))
theorem Zm9 (x y:Int):FnP prog 110 [.int .i64 x,.int .i64 y] (.int .i64 (Zee x y)):=by
 refine FnP.mk func110 rfl ntmps110 rfl fun B a w F Z hfr G=>Ya ?_
 refine rZ G (qI qZ) Z [4,1,0] [0] fun G=>Ya ?_
 refine rZ G (qR rr (qf (oP (ZjX x) func151 (Args.one .t)) r1 qz (qO rr qZ))) Z [5,4,1,0] [0] fun G=>Ya ?_
 refine rZ G (qR rr (qf (oP (ZjX y) func151 (Args.one .t)) r1 qz (qO rr qZ))) Z [6,5,4,1,0] [0] fun G=>(Ya (Ya ?_))
 refine rZ G (qR rr qZ) Z [11,6,4,1,0] [0] fun G=>?_
 refine Zc G rfl (fun hc0=>?_) (fun hc0=>?_)
 ·simp at hc0
 refine Yf (Za (Ya (Ya (rZ G (qR rr qZ) Z [13,4,1,0] [0] fun G=>?_))))
 refine Zc G rfl (fun hc1=>?_) (fun hc1=>?_)
 ·simp at hc1
 refine Yf (Za (Ya (Ya (rZ G (qR rr (qR rr (qL r2))) Z [16,4,1,0] [0] fun G=>?_))))
 refine Zc G rfl (fun hc2=>?_) (fun hc2=>?_)
 ·have hg:(-1:Int)=Zee x y:=by unfold Zee;rw [Ye (by simpa using hc2)]
  refine Ya (rZ G (qI qZ) Z [4,1,0] [0] fun G=>(Yh (Zl ?_)))
  refine Zv hfr G rfl rfl rfl (.int hg)
 have h1:¬ x<y:=by simpa using hc2
 refine Yf (Za (Ya (Ya (rZ G (qR rr (qR rr (qf (Za3 .t .t) r2 qz qZ))) Z [19,4] [0] fun G=>?_))))
 refine Zc G rfl (fun hc3=>?_) (fun hc3=>?_)
 ·have hg:(1:Int)=Zee x y:=by unfold Zee;rw [Yb h1,Ye (by simpa using hc3)]
  refine Ya (rZ G (qI qZ) Z [4] [0] fun G=>(Yh (Zl ?_)))
  refine Zv hfr G rfl rfl rfl (.int hg)
 have hg:(0:Int)=Zee x y:=by unfold Zee;rw [Yb h1,Yb (by simpa using hc3)]
 refine Yf (Za (Ya (rZ G (qI qZ) Z [4] [0] fun G=>Yh ?_)))
 refine Zv hfr G rfl rfl rfl (.int hg)
def orZ:List Int→Int
 | []=>0
 | x :: l=>if x=0 then orZ l else x
theorem ZqU:∀ {l:List Int} {i:Nat},i<l.length→(∀ q,q<i→Nn l q=0)→Nn l i≠0→orZ l=Nn l i
 | x :: l,0,h,_,hn=>by rw [nth_eq h] at hn ⊢;exact Yb hn
 | x :: l,i+1,h,hq,hn=>by
  have h':i<l.length:=by simpa using h
  have h0:=hq 0 ow
  rw [nth_eq (by simp)] at h0
  have e:Nn (x :: l) (i+1)=Nn l i:=by rw [nth_eq h,nth_eq h'];rfl
  rw [e] at hn ⊢
  rw [orZ,Ye (show x=0 from h0)]
  exact ZqU h' (fun q hq2=>by
   have:=hq (q+1) ow
   rwa [nth_eq (by simp;omega),List.getElem_cons_succ,← nth_eq ow] at this) hn
theorem Zkr:∀ {l:List Int},(∀ q,q<l.length→Nn l q=0)→orZ l=0
 | [],_=>rfl
 | x :: l,hq=>by
  have h0:=hq 0 (by simp)
  rw [nth_eq (by simp)] at h0
  rw [orZ,Ye (show x=0 from h0)]
  exact Zkr fun q hq2=>by
   have:=hq (q+1) (by simp;omega)
   rwa [nth_eq (by simp;omega),List.getElem_cons_succ,← nth_eq hq2] at this
def okE (e:Z8):Prop:=(0≤e.label∧e.label≤1048575)∧0≤e.node∧e.node≤4095
def ZaP (e:Z8):Int:=(e.kind*1048576+e.label)*4096+e.node
theorem Zo7 {a b:Z8} (ha:okE a) (hb:okE b):orZ [Zee a.kind b.kind,Zee a.label b.label,Zee a.node b.node] = Zee (ZaP a) (ZaP b):=by
 obtain ⟨⟨a1,a2⟩,a3,a4⟩:=ha
 obtain ⟨⟨b1,b2⟩,b3,b4⟩:=hb
 unfold orZ orZ orZ orZ ZaP Zee
 repeat' split
 all_goals omega
theorem keyE_inj {a b:Z8} (ha:okE a) (hb:okE b) (h:ZaP a=ZaP b):a=b:=by
 obtain ⟨⟨a1,a2⟩,a3,a4⟩:=ha
 obtain ⟨⟨b1,b2⟩,b3,b4⟩:=hb
 unfold ZaP at h
 cases a;cases b
 simp only at *
 congr 1 <;> omega
theorem ZtZ (l:List Int):FnP prog 218 [.sl Zn l] (.int .i64 (orZ l)):=by
 refine FnP.mk func218 rfl ntmps218 rfl fun B a w F Z hfr G=>?_
 have hxl:=Sat.lenSl G (i:=0) rfl
 refine Ya (rZ G (qI qZ) Z [2,0] [0] fun G=>Ya ?_)
 refine rZ G (qI qZ) Z [3,2,0] [0] fun G=>(Ya (Ya ?_))
 refine rZ G (qR rr (qu Yb0 r1 (qJ qZ))) Z [8,7,6,3,2] [0] fun G=>Yg ?_
 refine Zm (σ:=(Nat)) [2,3,6,7] [0] (fun s=>[(8,.pv (.int .i64 (s:Int)))]) (fun s=>[]) (fun s=>s≤l.length∧(∀ q,q<s→Nn l q=0)) (fun s=>l.length - s) (0) G ⟨rfl,rfl,rfl,rfl,rfl,tv⟩ ⟨rfl,tv⟩ ⟨Yx _,fun q hq=>absurd hq (Y3 q)⟩ ?_
 clear G;intro i a w F hC G
 try dsimp only at hC
 obtain ⟨F,G⟩:=G.nM [8,7,6,3,2] [0]
 try dsimp only at G
 obtain ⟨hi,hq⟩:=hC
 refine Ya (rZ G (qL r2) Z [9,8,7,6,3,2] [0] fun G=>Ya ?_)
 refine Zc G rfl (fun hc0=>?_) (fun hc0=>?_)
 ·have hil:i<l.length:=by simp at hc0;omega
  refine Yf (Za (Ya (Yg (Ya (Zg G (qy 1 Yb0 r2 (qf (oR false 1 .t) r1 qz (qO rr qZ))) Z [8,7,6,5,3,2] [0] rfl rfl fun a w F G=>?_)))))
  try simp only [Yd] at G
  refine Za (Ya (rZ G (qR rr (qR rr (qf (o_neq .t .t) r2 qz qZ))) Z [14,8,7,6,5,3,2] [0] fun G=>?_))
  refine Zc G rfl (fun hc1=>?_) (fun hc1=>?_)
  ·have hg:Nn l i=orZ l:=(ZqU ow hq (by simpa using hc1)).symm
   refine Ya (rZ G (qR rr (qO rr qZ)) Z [8,7,6,3,2] [0] fun G=>(Yh (Zx (Zl (Zl (Zx (Zl ?_)))))))
   refine Zv hfr G rfl rfl rfl (.int hg)
  have hne:Nn l i=0:=by simpa using hc1
  refine Yf (Zj (Za (rZ G (qp r1 (qR rr qZ)) Z [8,7,6,3,2] [0] fun G=>?_)))
  replace G:=G.ent (i:=8) (s':=.pv (.int .i64 ((i+1:Nat):Int))) rfl (.int (Zd ow))
  obtain ⟨F,G⟩:=G.nM [7,6,3,2,8] [0]
  exact ⟨(i+1),F,⟨by omega,(fun q h9=>by rcases YZ (Y5 h9) with h8 | h8;exact hq q h8;rw [h8];exact hne)⟩,G,by omega⟩
 have hil:i=l.length:=by simp at hc0;omega
 have hg:(0:Int)=orZ l:=(Zkr fun q h9=>hq q ow).symm
 refine Yz (Zh (Zh (Zr (Za (Ya (rZ G (qR rr (qO rr qZ)) Z [2] [0] fun G=>Yh ?_))))))
 refine Zv hfr G rfl rfl rfl (.int hg)
theorem ZqO (x y:Z8) (hx:okE x) (hy:okE y):FnP prog 196 [.agg (Zal x),.agg (Zal y)] (.int .i64 (Zee (ZaP x) (ZaP y))):=by
 refine FnP.mk func196 rfl ntmps196 rfl fun B a w F Z hfr G=>Ya ?_
 refine Zb G (qx 101 r1 (qx 102 r1 (qI qZ))) Z [4,3,2] [102,101,0] (fun _=>rfl) (fun _=>rfl) fun τ a w F G=>?_
 try dsimp only [RS.sub,SF.sub,CF.sub,csub,Anc.sub,List.map,zCF,Zal,Zan,Zn,ZaI] at G
 generalize τ 2=v2,τ 3=v3 at G
 refine Za (Ya (ZB G (qg 0 101 r1 r1 (qa 101 r1 r1 (qg 0 102 r1 r1 (qa 102 r1 r1 (qf (oP (Zm9 x.kind y.kind) func110 (Args.two .t .t)) r2 qz (qg 1 101 r1 r1 (qa 101 r1 r1 (qg 1 102 r1 r1 (qa 102 r1 r1 (qf (oP (Zm9 x.label y.label) func110 (Args.two .t .t)) r2 qz (qg 2 101 r1 r1 (qa 101 r1 r1 (qg 2 102 r1 r1 (qa 102 r1 r1 (qf (oP (Zm9 x.node y.node) func110 (Args.two .t .t)) r2 qz (qf (o_buildSliceE (sz:=1) (zs:=[.int .i64 0]) (r:=[(0,.tmp 9),(1,.tmp 14),(2,.tmp 19)]) (l:=[_,_,_]) Yb0 kr kr kr kr rfl rfl (.one rfl .t one_int kr (.one rfl .t one_int kr (.one rfl .t one_int kr .nil))) rfl) r3 qz (qf (oP (ZtZ [Zee x.kind y.kind,Zee x.label y.label,Zee x.node y.node]) func218 (Args.one (.conv .t (Ent.arrSl (R:=Zn) (l:=[Zee x.kind y.kind,Zee x.label y.label,Zee x.node y.node]) rfl)))) r1 qz (qO rr qZ)))))))))))))))))) Z [4] [0] rfl rfl fun a w F G=>?_))
 try dsimp only [List.map,Ze,xL,xM,Nat.reduceAdd,xD,xE,xT,xU,xC,xN,zCF,ldSF,Zal,Zan,Zn,ZaI] at G
 refine Za (Yh (Zv hfr G rfl rfl rfl (.int (Zo7 hx hy))))
theorem Zrt {α:Type} {l:List α} {i:Nat} {x:α} (h:i=l.length):l.take i ++ [x] ++ l.drop i=l ++ [x]:=by rw [h];simp
theorem Zqk {α:Type} {l l2 l3:List α} {i:Nat} {x z:α} (hi:i<l.length) (h2:l2=l.take i++List.replicate (l.length+1 - i) z) (h3:l3=l2.take i ++ [x] ++ l2.drop (i + [x].length)) :
  l.take i ++ [x] ++ l.drop i=l3.take (i+1)++l.drop i++l3.drop (i+1+(l.drop i).length):=by
 have e1:l2.take i=l.take i:=by
  rw [h2,Y4 (by rw [Yj];omega),Ya1,Nat.min_self]
 have e0:l2.length=l.length+1:=by rw [h2,Yc,Yj,YY];omega
 have e2:l3.take (i+1)=l.take i ++ [x]:=by
  rw [h3,e1,Y4 (by rw [Yc,Yj];simp;omega),Yad (by rw [Yc,Yj];simp;omega)]
 have e3:l3.length=l.length+1:=by
  rw [h3,e1,Yc,Yc,Yj,YL,e0];simp;omega
 have e4:l3.drop (i+1+(l.drop i).length) = []:=List.drop_eq_nil_of_le (by rw [e3,YL];omega)
 rw [e2,e4,YM]
theorem Znf {α:Type} {l l4:List α} {i:Nat} {x:α} (hi:i<l.length) (h4:l4=l.take (i+1)++l.drop i):l.take i ++ [x] ++ l.drop i=l4.take i ++ [x] ++ l4.drop (i + [x].length):=by
 have e1:l4.take i=l.take i:=by
  rw [h4,Y4 (by rw [Yj];omega),Ya1,YaO ow]
 have e2:l4.drop (i + [x].length)=l.drop i:=by
  rw [h4,show i + [x].length=i+1 from rfl,List.drop_append_of_le_length (by rw [Yj];omega),List.drop_eq_nil_of_le (by rw [Yj];omega),Yai]
 rw [e1,e2]
theorem Ztw (l : List Z8) (e : Z8) (k : Int) (hll : l.length ≤ 1000000) (hs : Zgn ZaP l) (f : FuncId) (fn : Func) (cps : List PV) (hf : prog.funcs[f]? = some fn) (hb : fn.body.isSome = true) (hnn : (fn.name == "runtime.NumGoroutine") = false) (hw : ∀ x ∈ l, FnP prog f (.agg (Zal x) :: .agg (Zal e) :: cps) (.int .i64 (Zee (ZaP x) k))) : FnP prog 195 [.sl Zal l, .agg (Zal e), .clos f cps] (.tup [.int .i64 (lowK ZaP k l), .bool (isK ZaP k l)]) := by
 refine FnP.mk func195 rfl ntmps195 rfl fun B a w F Z hfr G=>Ya ?_
 refine Zb G (qx 101 r1 (qI qB)) Z [7,6,4,2,0] [101,0] (fun _=>rfl) (fun _=>rfl) fun τ a w F G=>?_
 try dsimp only [RS.sub,SF.sub,CF.sub,csub,Anc.sub,List.map,zCF,Zal] at G
 generalize τ 4=v4 at G
 refine Za (Ya (rZ G (qR rr (qu Yb4 r1 (qO rr qZ))) Z [8,7,6,4,2,0] [101,0] fun G=>Ya ?_))
 refine rZ G (qR rr (qI (qO rr qZ))) Z [10,9,8,7,6,4,2,0] [101,0] fun G=>(Ya (Yg ?_))
 refine Zm (σ:=Nat×Nat) [0,2,4,6,7,8] [0,101] (fun s=>[(9,.pv (.int .i64 (s.1:Int))),(10,.pv (.int .i64 (s.2:Int)))]) (fun s=>[]) (fun s=>s.1≤s.2∧s.2≤l.length∧(∀ q,q<s.1→ZaP (Nn l q)<k) ∧ ∀ q,s.2≤q→q<l.length→k≤ZaP (Nn l q)) (fun s=>s.2 - s.1) ((0),(l.length)) G ⟨rfl,rfl,rfl,rfl,rfl,rfl,rfl,rfl,tv⟩ ⟨rfl,rfl,tv⟩ ⟨Yx _,YO _,fun q hq=>absurd hq (Y3 q),fun q h1 h2=>by omega⟩ ?_
 clear G;intro s a w F hC G
 obtain ⟨i,j⟩:=s
 try dsimp only at hC
 obtain ⟨F,G⟩:=G.nM [10,9,8,7,6,4,2,0] [101,0]
 try dsimp only at G
 obtain ⟨hij,hjl,hlo,hhi⟩:=hC
 have hgs:=ZsQ (i:=i) ow hs hlo
 have hgl:=ZeN (i:=i) ow hlo
 refine Ya (Ya (rZ G (qR rr (qR rr (qL r2))) Z [17,10,9,8,7,6,4,2,0] [101,0] fun G=>?_))
 refine Zc G rfl (fun hc0=>?_) (fun hc0=>?_)
 ·skip
  have hlt:i<j:=by simp at hc0;omega
  refine Yf (Za (Yg (Ya (Zg G (qR rr (qR rr (qf (o_add .t .t) r2 qz (qf (Zat Yb8 kr .t) r1 qz (qf (Zev .t qi (by decide)) r1 qz (qf (Zat Yb9 kr .t) r1 qz (qO rr qZ))))))) Z [11,10,9,8,7,6,4,2,0] [101,0] rfl rfl fun a w F G=>?_))))
  obtain ⟨m,hm⟩:∃ m:Nat,m=(i+j) / 2:=⟨_,rfl⟩
  replace G:=G.ent (i:=11) (s':=.pv (.int .i64 (m:Int))) rfl (.int (by rw [hm];exact Zmp ow))
  obtain ⟨F,G⟩:=G.nM [11,10,9,8,7,6,4,2,0] [101,0]
  refine Za (Ya (ZB G (qR rr (qR rr (qR rr (qy 3 Yb4 r2 (qf (oR true 3 .t) r1 qz (qe 3 101 r1 r1 (qf (Z6 (avs:=[.agg (Zal (Nn l m)),.agg (Zal e)]) .t (hw (Nn l m) (nth_mem ow)) hf hb hnn (Args.two (.pagg .t) (.pagg .t))) r3 qz (qf (Zar .t qi) r1 qz qZ)))))))) Z [31,11,10,9,8,7,6,4,2,0] [101,0] rfl rfl fun a w F G=>?_))
  try dsimp only [List.map,xD,xE,xT,xU,ldSF,Zal] at G
  try simp only [Yd] at G
  refine Za (Zc G rfl (fun hc1=>?_) (fun hc1=>?_))
  ·skip
   have hmk:ZaP (Nn l m)<k:=ZmA.1 (by simpa using hc1)
   obtain ⟨i2,hi2e⟩:∃ z,z=m+1:=⟨_,rfl⟩
   obtain ⟨j2,hj2e⟩:∃ z,z=j:=⟨_,rfl⟩
   have hi2:IntKind.wrap .i64 ((m:Int)+1)=(i2:Int):=by rw [hi2e];exact Zd ow
   have hj2:(j:Int)=(j2:Int):=by rw [hj2e]
   have hmu:j2 - i2<j - i:=by omega
   have hC2:i2≤j2∧j2≤l.length∧(∀ q,q<i2→ZaP (Nn l q)<k) ∧ ∀ q,j2≤q→q<l.length→k≤ZaP (Nn l q):=⟨by omega,by omega,fun q hq=>Int.lt_of_le_of_lt (Zdq hs ow ow) hmk,by rw [hj2e];exact hhi⟩
   refine Zg G (qR rr (qp r1 (qO rr qZ))) Z [10,9,8,7,6,4,2,0] [101,0] rfl rfl fun a w F G=>Zj (Za ?_)
   replace G:=G.ent (i:=9) (s':=.pv (.int .i64 (i2:Int))) rfl (.int hi2)
   replace G:=G.ent (i:=10) (s':=.pv (.int .i64 (j2:Int))) rfl (.int hj2)
   obtain ⟨F,G⟩:=G.nM [8,7,6,4,2,0,10,9] [101,0]
   exact ⟨((i2),(j2)),F,hC2,G,hmu⟩
  have hmk:k≤ZaP (Nn l m):=Int.not_lt.1 fun e=>(show ¬ Zee (ZaP (Nn l m)) k<0 by simpa using hc1) (ZmA.2 e)
  obtain ⟨i2,hi2e⟩:∃ z,z=i:=⟨_,rfl⟩
  obtain ⟨j2,hj2e⟩:∃ z,z=m:=⟨_,rfl⟩
  have hi2:(i:Int)=(i2:Int):=by rw [hi2e]
  have hj2:(m:Int)=(j2:Int):=by rw [hj2e]
  have hmu:j2 - i2<j - i:=by omega
  have hC2:i2≤j2∧j2≤l.length∧(∀ q,q<i2→ZaP (Nn l q)<k) ∧ ∀ q,j2≤q→q<l.length→k≤ZaP (Nn l q):=⟨by omega,by omega,by rw [hi2e];exact hlo,fun q h1 h2=>Int.le_trans hmk (Zdq hs ow h2)⟩
  refine Zg G (qR rr (qO rr qZ)) Z [10,9,8,7,6,4,2,0] [101,0] rfl rfl fun a w F G=>Zj (Za ?_)
  replace G:=G.ent (i:=9) (s':=.pv (.int .i64 (i2:Int))) rfl (.int hi2)
  replace G:=G.ent (i:=10) (s':=.pv (.int .i64 (j2:Int))) rfl (.int hj2)
  obtain ⟨F,G⟩:=G.nM [8,7,6,4,2,0,10,9] [101,0]
  exact ⟨((i2),(j2)),F,hC2,G,hmu⟩
 have hjj:i=j:=by simp at hc0;omega
 subst hjj
 have hgl2:=hgl hhi
 have hgs2:=hgs hhi
 have hb2:(decide ((i:Int)<(l.length:Int)) && decide (Zee (ZaP (Nn l i)) k=0))=isK ZaP k l:=by
   rw [Ya4,hgs2]
   simp [ZsB]
 refine Yz (Zh (Zh (Zr (Za (Ya (ZB G (qR rr (qR rr (qR rr (qf (Zar .t .t) r2 qz (qR rr (qm rfl rfl rfl rfl (qm rfl rfl rfl rfl (qm rfl rfl rfl rfl (qk rfl (fun h=>o_indexAddr_sl (sz:=3) (.mk Yb4 kr) (by intro x;rfl) (.w h) (.w h) ow (by have:=Yw h;omega)) r3 qz (qk rfl (fun h=>oR true 3 (.w h)) r2 qz (qk rfl (fun h=>oL true 3 101 .is) r2 r1 (qk rfl (fun h=>Z6 (avs:=[.agg (Zal (Nn l i)),.agg (Zal e)]) (.w h) (hw (Nn l i) (nth_mem (by have:=Yw h;omega))) hf hb hnn (Args.two (.pagg (.w h)) (.pagg (.w h)))) r4 qz (qk rfl (fun h=>o_eql (.w h) qi) r2 qz (qf (ZH .t .t) r2 qz (qO rr (qO rr qZ)))))))))))))))) Z [7,6] [0] rfl rfl fun a w F G=>?_))))))
 try dsimp only [List.map,xD,xE,xT,xU,ldSF,Zal] at G
 try simp only [Yd] at G
 refine Za (Yh (Zae hfr G rfl (.tmp rfl (.tmp rfl .nil)) (.two (.int (by rw [hgl2])) (.bool hb2))))
theorem Ztx (v:Value) (l:List Z8) (i:Nat) (x:Z8) (hll:l.length≤1000000) (hi:i≤l.length):FnG prog 197 1 [.is v,.int .i64 i,.sl Zal [x]] [ZC 217 3 Zal l v] (PV.one) (fun v=>[ZC 217 3 Zal (l.take i ++ [x] ++ l.drop i) v]):=by
 refine FnG.mk func197 rfl ntmps197 rfl kr fun B F0 a w F Z hG G=>?_
 replace G:=G.turn 1 rfl (r':=.ob (.val v) (ZC 217 3 Zal l)) (fun _ _ _ _ h=>h)
 refine Ya (rZ G (qC qZ) Z [6,2,1,0] [1,0] fun G=>Ya ?_)
 refine rZ G (qR rr (qR rr (qf (Znk (sz:=3) 1 (.mk Yb4 kr) .is .t ow ow) r2 r1 qZ))) Z [6,2,1,0] [1,0] fun G=>Ya ?_
 refine Zg G (qR rr (qu Yb4 r1 (qO rr qZ))) Z [7,6,2,1,0] [1,0] rfl rfl fun a w F G=>?_
 replace G:=G.ent (i:=7) (s':=.pv (.int .i64 1)) rfl (.int rfl)
 obtain ⟨F,G⟩:=G.nM [7,6,2,1,0] [1,0]
 refine Za (Ya (Ya (rZ G (qR rr (qf (o_eql .t qi) r1 qz qZ)) Z [16,7,6,2,1,0] [1,0] fun G=>?_)))
 refine Zc G rfl (fun hc0=>?_) (fun hc0=>?_)
 ·simp at hc0
 refine Yf (Za (Ya (rZ G (qR rr (qf (Zav 1 Yb4 .is) r1 r1 (qO rr qZ))) Z [8,7,6,2,1,0] [1,0] fun G=>(Ya (Ya ?_)))))
 refine rZ G (qR rr (qR rr (qf (o_eql .t .t) r2 qz qZ))) Z [22,8,7,6,2,1,0] [1,0] fun G=>?_
 refine Zc G rfl (fun hc1=>?_) (fun hc1=>?_)
 ·have hg:=Zrt (x:=x) (by have h9:=hc1;simp at h9;omega:i=l.length)
  refine Ya (Zb G (qR rr (qR rr (qf (o_append (sz:=3) (bs:=24) 1 (.mk' Yb4 kr kr) (by intro x;rfl) .is (.sl .t) (by simp only [Yk,Yv];omega) (by decide)) ⟨rfl,rfl,tv⟩ ⟨rfl,tv⟩ (qO rr qZ)))) Z [8,7,6,2,1,0] [1,0] (fun _=>rfl) (fun _=>rfl) fun τ a w F G=>?_)
  try dsimp only [RS.sub,SF.sub,CF.sub,csub,Anc.sub,List.map,xC,xN,Zal] at G
  generalize τ 25=v25 at G
  refine Za (Yh (Zl ?_))
  have G:=G.turn 1 rfl (r':=RS.hp (ZC 217 3 Zal (l.take i ++ [x] ++ l.drop i) v25)) (fun _ _ _ _ h=>by rw [hg];exact h)
  refine Zab (h':=fun v=>ZC 217 3 Zal (l.take i ++ [x] ++ l.drop i) v) hG G rfl (.tmp rfl .nil) (.one .one) rfl
 have hil:i<l.length:=by simp at hc1;omega
 have hw1:IntKind.wrap .i64 ((i:Int)+1)=((i+1:Nat):Int):=Zd ow
 have hwn:IntKind.wrap .i64 ((l.length:Int)+1)=((l.length+1:Nat):Int):=Zd ow
 refine Yf (Za (Ya (Ya (rZ G (qR rr (qR rr (qf (o_add .t .t) r2 qz (qR rr (qf (Zna 1 Yb4 .is) r1 r1 (qf (Za3 .t .t) r2 qz qZ)))))) Z [31,8,7,6,2,1,0] [1,0] fun G=>?_))))
 refine Zc G rfl (fun hc2=>?_) (fun hc2=>?_)
 ·have hcap:capV v<l.length+1:=by rw [hwn] at hc2;simp at hc2;omega
  have hw:IntKind.wrap .i64 (IntKind.wrap .i64 ((l.length:Int)+1) - (i:Int))=((l.length+1 - i:Nat):Int):=by rw [hwn,Zz ow];omega
  refine Ya (Zb G (qR rr (qR rr (qf (Zgv (sz:=3) 1 (.mk Yb4 kr) .is .t ow ow) r2 r1 (qR rr (qR rr (qf (o_add .t .t) r2 qz (qR rr (qf (o_sub .t .t) r2 qz (qf (Zf0 (R:=Zal) (z:=(⟨0,0,0⟩:Z8)) (bs:=24) (sz:=3) (zs:=[.int .i64 0,.int .i64 0,.int .i64 0]) 1 101 Yb4 Yb9 kr kr kr (by intro x;rfl) (fun _ _=>⟨⟨rfl,rfl,Zdj⟩,⟨rfl,rfl,Zdj⟩,⟨rfl,rfl,Zdj⟩,tv⟩) .t .t ow (by rw [hw];omega) (by rw [hw];omega) (by rw [hw];omega) (by rw [hw];omega)) ⟨rfl,rfl,tv⟩ ⟨rfl,tv⟩ (qO rr qZ)))))))))) Z [9,8,7,6,2,1,0] [101,1,0] (fun _=>rfl) (fun _=>rfl) fun τ a w F G=>?_)
  try dsimp only [RS.sub,SF.sub,CF.sub,csub,Anc.sub,List.map,xC,xN,Zal] at G
  generalize τ 40=v40 at G
  rw [hw] at G
  simp only [Yd] at G
  obtain ⟨l2,hl2⟩:∃ y,y=l.take i++List.replicate (l.length+1 - i) (⟨0,0,0⟩:Z8):=⟨_,rfl⟩
  rw [← hl2] at G
  have hl2n:l2.length=l.length+1:=by rw [hl2,Yc,Yj,YY];omega
  obtain ⟨F,G⟩:=G.give 1 0 rfl rfl
  obtain ⟨F,G⟩:=G.nM [9,8,7,6,2,1,0] [101,0]
  refine Za (Ya (Zg G (qR rr (qR rr (qf (ZaX (sz:=3) 101 (.mk Yb4 kr) .is .t ow ow) r2 r1 (qR rr (qf (o_copy_sub 101 Yb4 kr (by intro x;rfl) .t .t (by simp) (by simp;omega)) r2 r1 qZ))))) Z [9,8,7,6,2,1,0] [101,0] rfl rfl fun a w F G=>?_))
  simp only [Yd] at G
  obtain ⟨l3,hl3⟩:∃ y,y=l2.take i ++ [x] ++ l2.drop (i + [x].length):=⟨_,rfl⟩
  rw [← hl3] at G
  have hl3n:l3.length=l.length+1:=by rw [hl3,Yc,Yc,Yj,YL,hl2n];simp;omega
  refine Za (Ya (ZB G (qR rr (qR rr (qR rr (qf (o_add .t .t) r2 qz (qf (ZaX (sz:=3) 101 (.mk Yb4 kr) .is .t (by rw [hw1];omega) (by rw [hw1];omega)) r2 r1 (qR rr (qR rr (qf (Zlo (sz:=3) (.mk Yb4 kr) (by intro x;rfl) .t .t ow ow) r2 qz (qf (o_copy_sub 101 Yb4 kr (by intro x;rfl) .t .t (by intro h9;have:=Y0 List.length h9;simp at this;omega) (by rw [hw1,YL];omega)) r2 r1 qZ))))))))) Z [9,8,7,6,2,1,0] [101,0] rfl rfl fun a w F G=>?_))
  try dsimp only [Zal] at G
  rw [hw1] at G
  simp only [Yd] at G
  have hg:=Zqk (x:=x) hil hl2 hl3
  refine Za (Ya (rZ G (qR rr (qO rr qZ)) Z [8,7,6,2,1,0] [101,0] fun G=>(Yh (Zl ?_))))
  obtain ⟨F,G⟩:=G.rename 101 1 rfl rfl
  have G:=G.turn 1 rfl (r':=RS.hp (ZC 217 3 Zal (l.take i ++ [x] ++ l.drop i) v40)) (fun _ _ _ _ h=>by rw [hg];exact h)
  refine Zab (h':=fun v=>ZC 217 3 Zal (l.take i ++ [x] ++ l.drop i) v) hG G rfl (.tmp rfl .nil) (.one .one) rfl
 have hcap:l.length+1≤capV v:=by rw [hwn] at hc2;simp at hc2;omega
 refine Yf (Za (Ya (Zb G (qR rr (qR rr (qR rr (qf (o_add .t .t) r2 qz (qf (Zl7 (sz:=3) 1 (.mk Yb4 kr) .is .t (by rw [hwn];omega) ow) r2 r1 (qO rr qZ)))))) Z [8,7,6,2,1,0] [1,0] (fun _=>rfl) (fun _=>rfl) fun τ a w F G=>?_)))
 try dsimp only [RS.sub,SF.sub,CF.sub,csub,Anc.sub,List.map,Zal] at G
 generalize τ 60=v60 at G
 refine Za (Ya (Ya (rZ G (qR rr (qR rr (qR rr (qR rr (qf (o_add .t .t) r2 qz (qf (ZdT (sz:=3) 1 (.mk Yb4 kr) .is .t (by rw [hw1];omega) (by rw [hw1];omega)) r2 r1 (qf (ZlM 1 func219 kr kr kr rfl Yb4 kr (by intro x;rfl) .t .t (by rw [hw1];omega)) r2 r1 (qf (o_not .t) r1 qz qZ)))))))) Z [68,8,7,6,2,1,0] [1,0] fun G=>?_)))
 refine Zc G rfl (fun hc3=>?_) (fun hc3=>?_)
 ·refine Ya (ZB G (qR rr (qR rr (qR rr (qf (o_add .t .t) r2 qz (qf (ZdT (sz:=3) 1 (.mk Yb4 kr) .is .t (by rw [hw1];omega) (by rw [hw1];omega)) r2 r1 (qR rr (qR rr (qf (ZdT (sz:=3) 1 (.mk Yb4 kr) .is .t ow ow) r2 r1 (qf (ZiF (k:=i) 1 Yb4 kr (by intro x;rfl) .t .t (by rw [hw1];rfl) rfl ow) r2 r1 qZ))))))))) Z [8,7,6,2,1,0] [1,0] rfl rfl fun a w F G=>?_)
  try dsimp only [Zal] at G
  obtain ⟨l4,hl4⟩:∃ y,y=l.take (i+1)++l.drop i:=⟨_,rfl⟩
  rw [← hl4] at G
  have hl4n:l4.length=l.length+1:=by rw [hl4,Yc,Yj,YL];omega
  refine Za (Ya (Zg G (qR rr (qR rr (qf (ZaX (sz:=3) 1 (.mk Yb4 kr) .is .t ow ow) r2 r1 (qR rr (qf (o_copy_sub 1 Yb4 kr (by intro x;rfl) .t .t (by simp) (by simp;omega)) r2 r1 qZ))))) Z [8,7,6,2,1,0] [1,0] rfl rfl fun a w F G=>?_))
  simp only [Yd] at G
  have hg:=Znf (x:=x) hil hl4
  refine Za (Ya (rZ G (qR rr (qO rr qZ)) Z [8,7,6,2,1,0] [1,0] fun G=>(Yh (Zl ?_))))
  have G:=G.turn 1 rfl (r':=RS.hp (ZC 217 3 Zal (l.take i ++ [x] ++ l.drop i) v60)) (fun _ _ _ _ h=>by rw [hg];exact h)
  refine Zab (h':=fun v=>ZC 217 3 Zal (l.take i ++ [x] ++ l.drop i) v) hG G rfl (.tmp rfl .nil) (.one .one) rfl
 simp at hc3
theorem ZrR (l : List OrdD) (p : OrdD → Bool) (f : FuncId) (fn : Func) (cps : List PV) (hf : prog.funcs[f]? = some fn) (hb : fn.body.isSome = true) (hnn : (fn.name == "runtime.NumGoroutine") = false) (hw : ∀ x, FnP prog f (.agg (ZP x) :: cps) (.bool (p x))) : FnP prog 40 [.sl ZP l, .clos f cps] (.int .i64 (Z4 p l)) := by
 refine FnP.mk func40 rfl ntmps40 rfl fun B a w F Z hfr G=>?_
 have hll:=Sat.lenSl G (i:=0) rfl
 refine Ya (rZ G (qI qZ) Z [4,1,0] [0] fun G=>(Ya (Ya ?_)))
 refine rZ G (qR rr (qu Yb5 r1 (qJ qZ))) Z [8,7,4,1,0] [0] fun G=>Yg ?_
 refine Zm (σ:=(Nat)) [0,1,4,7] [0] (fun s=>[(8,.pv (.int .i64 (s:Int)))]) (fun s=>[]) (fun s=>s≤l.length∧(∀ k,k<s→p (Nn l k)=false)) (fun s=>l.length - s) (0) G ⟨rfl,rfl,rfl,rfl,rfl,tv⟩ ⟨rfl,tv⟩ ⟨Yx _,fun k hk=>absurd hk (Y3 k)⟩ ?_
 clear G;intro i a w F hC G
 try dsimp only at hC
 obtain ⟨F,G⟩:=G.nM [8,7,4,1,0] [0]
 try dsimp only at G
 obtain ⟨hi,hq⟩:=hC
 refine Ya (rZ G (qL r2) Z [9,8,7,4,1,0] [0] fun G=>Ya ?_)
 refine Zc G rfl (fun hc0=>?_) (fun hc0=>?_)
 ·skip
  have hil:i<l.length:=by simp at hc0;omega
  refine Yf (Za (Ya (Yg (Ya (rZ G (qR rr (qO rr qZ)) Z [8,7,5,4,1,0] [0] fun G=>Ya ?_)))))
  refine Zg G (qR rr (qR rr (qR rr (qy 2 Yb5 r2 (qf (oR true 2 .t) r1 qz (qf (Z6 (avs:=[.agg (ZP (Nn l i))]) .t (hw (Nn l i)) hf hb hnn (Args.one (.pagg .t))) r2 qz qZ)))))) Z [16,8,7,5,4,1,0] [0] rfl rfl fun a w F G=>?_
  try simp only [Yd] at G
  refine Za (Zc G rfl (fun hc1=>?_) (fun hc1=>?_))
  ·skip
   have hg:(i:Int)=Z4 p l:=(ZdV hil hc1 hq).symm
   refine Ya (rZ G (qR rr (qO rr qZ)) Z [8,7,4,1,0] [0] fun G=>(Yh (Zx (Zl (Zl (Zx (Zl ?_)))))))
   refine Zv hfr G rfl rfl rfl (.int hg)
  have hne:p (Nn l i)=false:=hc1
  refine Yf (Zj (Za (rZ G (qp r1 (qR rr qZ)) Z [8,7,4,1,0] [0] fun G=>?_)))
  replace G:=G.ent (i:=8) (s':=.pv (.int .i64 ((i+1:Nat):Int))) rfl (.int (Zd ow))
  obtain ⟨F,G⟩:=G.nM [7,4,1,0,8] [0]
  exact ⟨(i+1),F,⟨by omega,(fun k hk=>by rcases YZ (Y5 hk) with h | h;exact hq k h;rw [h];exact hne)⟩,G,by omega⟩
 have hil:i=l.length:=by simp at hc0;omega
 have hg : -1=Z4 p l:=(Zcv fun k hk=>hq k (by simp at hc0;omega)).symm
 refine Yz (Zh (Zh (Zr (Za (Ya (rZ G (qI qZ) Z [4] [0] fun G=>Yh ?_))))))
 refine Zv hfr G rfl rfl rfl (.int hg)
theorem cloneIP_c (l:List Int) (hl:l.length≤1000000):FnP prog 42 [.sl Zn l] (.sl Zn l):=by
 refine FnP.mk func42 rfl ntmps42 rfl fun B a w F Z hfr G=>Ya ?_
 refine rZ G (qC qZ) Z [2,0] [0] fun G=>(Ya (Ya ?_))
 refine Zg G (qR rr (qf (Zby Yb0 .t) r1 qz qZ)) Z [4,2,0] [0] rfl rfl fun a w F G=>?_
 obtain ⟨β4,hβ4,G⟩:=G.pickBool 4 rfl
 obtain ⟨F,G⟩:=G.nM [4,2,0] [0]
 refine Za (Zc G rfl (fun hc0=>?_) (fun hc0=>?_))
 ·have hg:l = []:=hβ4 hc0
  refine Ya (rZ G (qC qZ) Z [2,0] [0] fun G=>(Yh (Zl ?_)))
  refine Zv hfr G rfl rfl rfl (.trans .nilSl (.sl (by rw [hg])))
 have hg:l = [] ++ l:=rfl
 refine Yf (Za (Ya (Zb G (qf (o_buildSlice0 (R:=Zn) (sz:=1) 101 Yb0 kr) trivial qz (qR rr (qf (o_append (sz:=1) (bs:=8) 101 (.mk' Yb0 kr kr) (by intro x;rfl) .same (.sl .t) (by simp only [Yc,Yv];omega) (by decide)) ⟨rfl,rfl,tv⟩ ⟨rfl,tv⟩ (qO rr qZ)))) Z [2] [101,0] (fun _=>rfl) (fun _=>rfl) fun τ a w F G=>?_)))
 try dsimp only [RS.sub,SF.sub,CF.sub,csub,Anc.sub,List.map,Ze,xL,xM,Nat.reduceAdd,xD,xE,xT,xU,xC,xN,zCF,Zn] at G
 generalize τ 7=v7 at G
 refine Za (Yh ?_)
 obtain ⟨F,G⟩:=G.give 101 2 rfl rfl
 refine Zv hfr G rfl rfl rfl (.sl (by rw [hg]))
def ZqP (os:List OrdD) (k:Int):List OrdD:=if isK OrdD.key k os=true then os else os.take (lowK OrdD.key k os) ++ [⟨k,[]⟩] ++ os.drop (lowK OrdD.key k os)
theorem Znx {α:Type} {κ:α→Int} {k:Int} (l:List α):lowK κ k l≤l.length:=by
 unfold lowK
 exact (List.takeWhile_sublist _).length_le
theorem ZU {α:Type} [Inhabited α] {κ:α→Int} {l:List α} : Zgn κ l ↔ l.Pairwise fun a b=>κ a<κ b:=by
 rw [Yaz]
 constructor
 ·intro h i j hi hj hij
  have:=h i j hij hj
  rwa [nth_eq hi,nth_eq hj] at this
 ·intro h a b hab hb
  rw [nth_eq ow,nth_eq hb]
  exact h a b ow hb hab
theorem Zqb (os:List OrdD) (k:Int):(ZqP os k).length≤os.length+1:=by
 unfold ZqP
 split
 ·omega
 ·rw [Yc,Yc,Yj,YL];simp;omega
theorem Zqd {os:List OrdD} {k:Int} {o:OrdD} (h:o ∈ ZqP os k):o ∈ os∨o = ⟨k,[]⟩:=by
 unfold ZqP at h
 split at h
 ·exact .inl h
 ·rw [Yy,Yy] at h
  rcases h with (h | h) | h
  ·exact .inl (Yap h)
  ·exact .inr (by simpa using h)
  ·exact .inl (Ybn h)
def Ztk (t:TxD) (os:List OrdD) (ks:List Int):List OrdD:=if t.done=true then ks.foldl ZqP os else os
def Zt1 (t:TxD) (o:OrdD):OrdD:=⟨o.key,if t.done=true∧0<wcnt t.ops o.key then ZsZ o.txs t.id else Zcn o.txs t.id⟩
def settleO (t:TxD) (os:List OrdD):List OrdD:=((Ztk t os (ZaW t)).map (Zt1 t)).filter fun o=>!decide (o.txs = [])
abbrev Zt9 (T TR:TypeId) (p va:Value) (os:List OrdD):HP:=HP.ex fun vb:Value=>HP.star [.pt (.val p) T [.pv (.is va),.pv (.is vb)],.ob (.val vb) (ZC TR 2 ZP os)]
theorem ZsD {k:IntKind} {a:Int} {b:Bool} (v:Value) (w:World) (y y':Ys) (h:(PV.tup [.int k a,.bool b]).p v w y):(PV.tup [.int k a,.bool b]).p v w y':=by
 obtain ⟨vs,e,h⟩:=h
 match vs,h with
 | [_,_],h=>exact ⟨_,e,h⟩
def insE (l:List Z8) (e:Z8):List Z8:=l.take (lowK ZaP (ZaP e) l) ++ [e] ++ l.drop (lowK ZaP (ZaP e) l)
theorem putE_c (v:Value) (l:List Z8) (e:Z8) (hll:l.length≤1000000) (hs:Zgn ZaP l) (hl:∀ x ∈ l,okE x) (he:okE e):FnG prog 157 1 [.is v,.agg (Zal e)] [ZC 217 3 Zal l v] (PV.one) (fun v=>[ZC 217 3 Zal (insE l e) v]):=by
 refine FnG.mk func157 rfl ntmps157 rfl kr fun B F0 a w F Z hG G=>?_
 replace G:=G.turn 1 rfl (r':=.ob (.val v) (ZC 217 3 Zal l)) (fun _ _ _ _ h=>h)
 refine Ya (Zb G (qx 101 r1 (qC qZ)) Z [4,3,0] [101,1,0] (fun _=>rfl) (fun _=>rfl) fun τ a w F G=>?_)
 try dsimp only [RS.sub,SF.sub,CF.sub,csub,Anc.sub,List.map,zCF,Zal,Zan,Zn,ZaI] at G
 generalize τ 3=v3 at G
 refine Za (Ya (rZ G (qR rr (qe 3 101 r1 r1 (qf (OpC.lendRow 1 [8] (oP (Ztw l e (ZaP e) hll hs 196 f196 [] func196 rfl kr (fun x hx=>ZqO x e (hl x hx) he)) func195 (Args.three .t (.pagg .t) (.conv .f (Ent.fnClos)))) ⟨rfl,tv,tv⟩ (.pv ZsD) trivial (by rfl)) r2 r1 (qR rr (qf (Zi .t rfl) r1 qz (qf (Zi .t rfl) r1 qz (qO rr (qO rr qZ)))))))) Z [5,4,3,0] [101,1,0] fun G=>Ya ?_))
 refine Zb G (qR rr (qR rr (qe 3 101 r1 r1 (qf (o_buildSliceE (sz:=3) (zs:=[.int .i64 0,.int .i64 0,.int .i64 0]) (r:=[(0,.tmp 15)]) (l:=[_,_,_]) Yb4 kr kr kr kr rfl rfl (.agg rfl .t kr kr .nil) rfl) r1 qz (qf (o_callRowN 1 (Ztx v l (lowK ZaP (ZaP e) l) e hll (Znx l)) func197 rfl kr (Args.three .t .t (.conv .t (Ent.arrSl (R:=Zal) (l:=[e]) rfl))) pvOne1) r3 r1 (qO rr qZ)))))) Z [4] [1,0] (fun _=>rfl) (fun _=>rfl) fun τ a w F G=>?_
 try dsimp only [RS.sub,SF.sub,CF.sub,csub,Anc.sub,List.map,Ze,xL,xM,Nat.reduceAdd,xD,xE,xT,xU,xC,xN,zCF,ldSF,Zal,Zan,Zn,ZaI] at G
 generalize τ 17=v17 at G
 have hg:insE l e=l.take (lowK ZaP (ZaP e) l) ++ [e] ++ l.drop (lowK ZaP (ZaP e) l):=rfl
 refine Za (Yh ?_)
 have G:=G.turn 1 rfl (r':=RS.hp (ZC 217 3 Zal (insE l e) v17)) (fun _ _ _ _ h=>by rw [hg];exact h)
 refine Zab (h':=fun v=>ZC 217 3 Zal (insE l e) v) hG G rfl (.tmp rfl .nil) (.one .one) rfl
def Ztz (L:List (List Z8)):Prop:=∀ l ∈ L,l.length≤1000000∧Zgn ZaP l ∧ ∀ e ∈ l,okE e
def ZoQ (O:List (List Z8)) (x:Zw):Bool:=ZaF O.length x && isK ZaP (ZaP (endO x)) (Nn O x.src.toNat)
theorem ZZ {n:Nat} {x:Zw} : ZaF n x=true ↔ (0≤x.src∧x.src<n)∧(0≤x.dst∧x.dst<n)∧(1≤x.kind∧x.kind≤3)∧0≤x.label∧x.label≤1048575:=by
 unfold ZaF
 simp only [Yt,Yp]
 constructor
 ·rintro ⟨⟨⟨⟨⟨a,b⟩,c⟩,d⟩,e⟩,f⟩;exact ⟨a,b,⟨c,d⟩,e,f⟩
 ·rintro ⟨a,b,⟨c,d⟩,e,f⟩;exact ⟨⟨⟨⟨⟨a,b⟩,c⟩,d⟩,e⟩,f⟩
theorem endO_ok {n:Nat} {x:Zw} (h:ZaF n x=true) (hn:n≤4096):okE (endO x):=by
 obtain ⟨h1,h2,h3,h4,h5⟩:=ZZ.1 h
 exact ⟨⟨h4,h5⟩,h2.1,show x.dst≤4095 by omega⟩
theorem endI_ok {n:Nat} {x:Zw} (h:ZaF n x=true) (hn:n≤4096):okE (endI x):=by
 obtain ⟨h1,h2,h3,h4,h5⟩:=ZZ.1 h
 exact ⟨⟨h4,h5⟩,h1.1,show x.src≤4095 by omega⟩
theorem Zsd (O I:List (List Z8)) (m:Nat) (x:Zw) (hO:Ztz O) (hn:O.length≤4096):FnP prog 155 [ZhD O I m,.agg (ZaI x)] (.bool (ZoQ O x)):=by
 refine FnP.mk func155 rfl ntmps155 rfl fun B a w F Z hfr G=>Ya ?_
 refine Zb G (qx 101 r1 qB) Z [4,3,0] [101,0] (fun _=>rfl) (fun _=>rfl) fun τ a w F G=>?_
 try dsimp only [RS.sub,SF.sub,CF.sub,csub,Anc.sub,List.map,zCF,Zal,Zan,Zn,ZaI] at G
 generalize τ 3=v3 at G
 refine Za (Ya (Ya (rZ G (qR rr (qe 4 101 r1 r1 (qf (oP (ZhM O I m x) func154 (Args.two .t (.pagg .t))) r2 qz (qf (o_not .t) r1 qz qZ)))) Z [12,4,3,0] [101,0] fun G=>?_)))
 refine Zc G rfl (fun hc0=>?_) (fun hc0=>?_)
 ·have hrf:ZaF O.length x=false:=by simpa using hc0
  have hg:false=ZoQ O x:=by unfold ZoQ;rw [hrf];rfl
  refine Ya (rZ G qB Z [4,3,0] [101,0] fun G=>(Yh (Zl ?_)))
  refine Zv hfr G rfl rfl rfl (.bool hg)
 have hrt:ZaF O.length x=true:=by simpa using hc0
 obtain ⟨hs1,hs2⟩:=(ZZ.1 hrt).1
 have hg:isK ZaP (ZaP (endO x)) (Nn O x.src.toNat)=ZoQ O x:=by unfold ZoQ;rw [hrt,Ybb]
 refine Yf (Za (Ya (Zb G (qe 4 101 r1 r1 (qf (oP (Zj4 x) func156 (Args.one (.pagg .t))) r1 qz (qR rr (qf (Zi .t rfl) r1 qz (qf (Zi .t rfl) r1 qz (qf (oH [.int .i64 0,.int .i64 0,.int .i64 0] 102) trivial qz (qf (oH [.int .i64 0,.int .i64 0,.int .i64 0] 103) trivial qz (qf (oA 3 102 .same (.conv .t .agg)) r2 r1 (qf (oA 3 103 .same (.conv .t .agg)) r2 r1 qZ))))))))) Z [5,4,3,0] [102,101,0] (fun _=>rfl) (fun _=>rfl) fun τ a w F G=>?_)))
 try dsimp only [RS.sub,SF.sub,CF.sub,csub,Anc.sub,List.map,Ze,xL,xM,Nat.reduceAdd,xD,xE,xT,xU,xC,xN,zCF,ldSF,Zal,Zan,Zn,ZaI] at G
 generalize τ 5=v5,τ 6=v6 at G
 refine Za (Ya (ZB G (qR rr (qf (ZT .t) r1 qz (qf (oG 0 .t) r1 qz (qf (oR false 1 .t) r1 qz (qg 0 101 r1 r1 (qa 101 r1 r1 (qy 1 Yca r2 (qf (oR false 1 .t) r1 qz (qe 3 102 r1 r1 (qf (oP (Ztw (Nn O x.src.toNat) (endO x) (ZaP (endO x)) (hO _ (nth_mem ow)).1 (hO _ (nth_mem ow)).2.1 196 f196 [] func196 rfl kr (fun z hz=>ZqO z (endO x) ((hO _ (nth_mem ow)).2.2 z hz) (endO_ok hrt hn))) func195 (Args.three .t (.pagg .t) (.conv .f (Ent.fnClos)))) r2 qz (qR rr (qf (Zi .t rfl) r1 qz (qf (Zi .t rfl) r1 qz (qO rr (qO rr qZ))))))))))))))) Z [8,4] [0] rfl rfl fun a w F G=>?_))
 try dsimp only [List.map,xD,xE,xT,xU,ldSF,Zal,Zan,Zn,ZaI] at G
 try simp only [Yd] at G
 refine Za (Ya (rZ G (qR rr (qO rr qZ)) Z [4] [0] fun G=>Yh ?_))
 refine Zv hfr G rfl rfl rfl (.bool hg)
theorem ZtJ {α:Type} [Inhabited α] {l:List α} {k j:Nat} {v:α} (h:j<l.length):Nn (l.set k v) j=if k=j then v else Nn l j:=by
 rw [nth_eq (by simpa using h),YbK]
 split
 ·rfl
 ·exact (nth_eq h).symm
theorem Zki {hs:List Value} {L:List (List Z8)} {k:Nat} {v:Value} {l:List Z8} (h2:hs.length=L.length):Zex (hs.set k v) (L.set k l)=(Zex hs L).set k (v,l):=by
 apply YaV (by simp [Zex])
 intro j h3 h4
 have hj:j<hs.length:=by simpa [Zex] using h3
 simp only [Zex,List.getElem_map,List.getElem_range,YbK]
 rw [ZtJ hj,ZtJ ow]
 split <;> rfl
def Zel (O I:List (List Z8)) (m:Nat) (x:Zw):List (List Z8)×List (List Z8)×Nat×Int:=
 if ZaF O.length x then if ZoQ O x then (O,I,m,4) else (O.set x.src.toNat (insE (Nn O x.src.toNat) (endO x)),I.set x.dst.toNat (insE (Nn I x.dst.toNat) (endI x)),m+1,0) else (O,I,m,1)
theorem ZsL (b:Nat) (O I:List (List Z8)) (m:Nat) (x:Zw) (hO:Ztz O) (hI:Ztz I) (hOI:I.length=O.length) (hn:O.length≤4096) (hm:m<1000000):FnG prog 116 1 [.is (Value.pointer (some { block:=b,off:=0 })),.agg (ZaI x)] [ZoN O I m (Value.pointer (some { block:=b,off:=0 }))] (.int .i64 (Zel O I m x).2.2.2) (fun _=>[ZoN (Zel O I m x).1 (Zel O I m x).2.1 (Zel O I m x).2.2.1 (Value.pointer (some { block:=b,off:=0 }))]):=by
 refine FnG.mk func116 rfl ntmps116 rfl kr fun B F0 a w F Z hG G=>Ya ?_
 refine Zb G (qx 101 r1 (qI qZ)) Z [4,3,0] [101,1,0] (fun _=>rfl) (fun _=>rfl) fun τ a w F G=>?_
 try dsimp only [RS.sub,SF.sub,CF.sub,csub,Anc.sub,List.map,zCF,Zal,Zan,Zn,ZaI] at G
 generalize τ 3=v3 at G
 refine Za (Ya (Yg (Ya (rZ G (qR rr (qe 4 101 r1 r1 (qf (OpC.lend 1 [8] Zhl (oP (ZhM O I m x) func154 (Args.two .t (.pagg .t))) ⟨rfl,tv,tv⟩ (.pv (fun _ _ _ _ h=>h)) trivial (by rfl)) r2 r1 (qf (o_not .t) r1 qz (qO rr qZ))))) Z [7,4,3,0] [101,1,0] fun G=>?_))))
 refine Zc G rfl (fun hc0=>?_) (fun hc0=>?_)
 ·have hrf:ZaF O.length x=false:=by simpa using hc0
  have hg:Zel O I m x=(O,I,m,1):=by unfold Zel;rw [hrf];rfl
  refine Ya (rZ G (qI qZ) Z [4,3,0] [101,1,0] fun G=>(Yh (Zx (Zl ?_))))
  rw [hg]
  refine Zbb hG G rfl (.tmp rfl .nil) (.one .refl) rfl
 have hrt:ZaF O.length x=true:=by simpa using hc0
 obtain ⟨⟨hs1,hs2⟩,⟨hd1,hd2⟩,_⟩:=ZZ.1 hrt
 refine Ya (rZ G (qR rr (qe 4 101 r1 r1 (qf (OpC.lend 1 [13] Zhl (oP (Zsd O I m x hO hn) func155 (Args.two .t (.pagg .t))) ⟨rfl,tv,tv⟩ (.pv (fun _ _ _ _ h=>h)) trivial (by rfl)) r2 r1 (qO rr qZ)))) Z [12,4,3,0] [101,1,0] fun G=>?_)
 refine Zc G rfl (fun hc1=>?_) (fun hc1=>?_)
 ·have hht:ZoQ O x=true:=hc1
  have hg:Zel O I m x=(O,I,m,4):=by unfold Zel;rw [hrt,hht];rfl
  refine Ya (rZ G (qI qZ) Z [4,3,0] [101,1,0] fun G=>(Yh (Zx (Zl ?_))))
  rw [hg]
  refine Zbb hG G rfl (.tmp rfl .nil) (.one .refl) rfl
 have hhf:ZoQ O x=false:=hc1
 have hg:Zel O I m x=(O.set x.src.toNat (insE (Nn O x.src.toNat) (endO x)),I.set x.dst.toNat (insE (Nn I x.dst.toNat) (endI x)),m+1,0):=by unfold Zel;rw [hrt,hhf];rfl
 refine Yf (Zj (Za (Ya (Zb G (qe 4 101 r1 r1 (qf (oP (Zj4 x) func156 (Args.one (.pagg .t))) r1 qz (qR rr (qf (Zi .t rfl) r1 qz (qf (Zi .t rfl) r1 qz (qf (oH [.int .i64 0,.int .i64 0,.int .i64 0] 102) trivial qz (qf (oH [.int .i64 0,.int .i64 0,.int .i64 0] 103) trivial qz (qf (oA 3 102 .same (.conv .t .agg)) r2 r1 (qf (oA 3 103 .same (.conv .t .agg)) r2 r1 qZ))))))))) Z [6,5,4,3,0] [103,102,101,1,0] (fun _=>rfl) (fun _=>rfl) fun τ a w F G=>?_))))
 try dsimp only [RS.sub,SF.sub,CF.sub,csub,Anc.sub,List.map,Ze,xL,xM,Nat.reduceAdd,xD,xE,xT,xU,xC,xN,zCF,ldSF,Zal,Zan,Zn,ZaI] at G
 generalize τ 5=v5,τ 6=v6 at G
 obtain ⟨ov,G⟩:=G.open_ex 1 rfl
 obtain ⟨iv,G⟩:=G.open_ex 1 rfl
 obtain ⟨F,G⟩:=G.peel 1 2 rfl rfl
 obtain ⟨F,G⟩:=G.peel 1 3 rfl rfl
 obtain ⟨F,G⟩:=G.peel 1 4 rfl rfl
 obtain ⟨hs,G⟩:=G.open_ex 3 rfl
 obtain ⟨hl1,G⟩:=G.open_and 3 rfl
 obtain ⟨F,G⟩:=G.peel 3 5 rfl rfl
 obtain ⟨F,G⟩:=G.peel 3 6 rfl rfl
 obtain ⟨js,G⟩:=G.open_ex 4 rfl
 obtain ⟨hl2,G⟩:=G.open_and 4 rfl
 obtain ⟨F,G⟩:=G.peel 4 7 rfl rfl
 obtain ⟨F,G⟩:=G.peel 4 8 rfl rfl
 obtain ⟨F,G⟩:=G.nM [6,5,4,3,0] [103,102,101,8,7,6,5,2,0]
 obtain ⟨F,G⟩:=G.takeAt Zmk 6 61 (x.src.toNat) rfl rfl (ZmD ow)
 replace G:=G.turn 61 rfl (r':=.ob (.val (Nn hs x.src.toNat)) (ZC 217 3 Zal (Nn O x.src.toNat))) (fun _ _ _ _ h=>h)
 obtain ⟨F,G⟩:=G.nM [6,5,4,3,0] [103,102,101,61,8,7,6,5,2,0]
 obtain ⟨F,G⟩:=G.takeAt Zmk 8 62 (x.dst.toNat) rfl rfl (ZmD ow)
 replace G:=G.turn 62 rfl (r':=.ob (.val (Nn js x.dst.toNat)) (ZC 217 3 Zal (Nn I x.dst.toNat))) (fun _ _ _ _ h=>h)
 obtain ⟨F,G⟩:=G.nM [6,5,4,3,0] [103,102,101,62,61,8,7,6,5,2,0]
 refine Za (Ya (Zba G (qR rr (qf (Zt 2 .is (by rfl)) r1 r1 (qf (oF 0 2 .adr) r1 r1 (qa 2 r1 r1 (qg 0 101 r1 r1 (qa 101 r1 r1 (qR rr (qf (Zt 2 .is (by rfl)) r1 r1 (qf (oF 0 2 .adr) r1 r1 (qa 2 r1 r1 (qg 0 101 r1 r1 (qa 101 r1 r1 (qf (o_indexAddr_row (sz:=1) 5 (.mk Yca kr) .is .t ow ow (by rfl)) r2 r1 (qf (ZD (ag:=false) (sz':=1) (sz:=1) 5 .t (by intro x;rfl) ow kr kr kr) r1 r1 (qe 3 102 r1 r1 (qf (o_callRowN 61 (putE_c _ (Nn O x.src.toNat) (endO x) (hO _ (nth_mem ow)).1 (hO _ (nth_mem ow)).2.1 (hO _ (nth_mem ow)).2.2 (endO_ok hrt hn)) func157 rfl kr (Args.two .t (.pagg .t)) pvOne1) r2 r1 (qf (o_indexAddr_row (sz:=1) 5 (.mk Yca kr) .is .t ow ow (by rfl)) r2 r1 (qf (ZkB (i:=36) (j:=36) (by rfl) (fun z=>ZW (R:=rV) (sz:=1) (v:=z) 5 .t (by intro x;rfl) ow .t rfl one_is kr)) r2 r1 qZ)))))))))))))))))) Z [6,4,3,0] [103,101,62,61,8,7,6,5,2,0] (fun _=>rfl) (fun _=>rfl) fun τ a w F G=>?_))
 try dsimp only [RS.sub,SF.sub,CF.sub,csub,Anc.sub,List.map,Ze,xL,xM,Nat.reduceAdd,xD,xE,xT,xU,xC,xN,zCF,ldSF,Zal,Zan,Zn,ZaI] at G
 generalize τ 36=v36 at G
 try simp only [Yd] at G
 replace G:=G.turn 61 rfl (r':=RS.hp (Zmk (v36,insE (Nn O x.src.toNat) (endO x)))) (fun _ _ _ _ h=>h)
 obtain ⟨F,G⟩:=G.putAt Zmk (L:=Zex hs O) (x:=(v36,insE (Nn O x.src.toNat) (endO x))) 6 61 (x.src.toNat) (by rw [Zj3];omega) rfl rfl rfl
 rw [← Zki ow] at G
 obtain ⟨F,G⟩:=G.nM [6,4,3,0] [103,101,62,8,7,6,5,2,0]
 refine Za (Ya (Zba G (qR rr (qf (Zt 2 .is (by rfl)) r1 r1 (qf (oF 1 2 .adr) r1 r1 (qa 2 r1 r1 (qg 1 101 r1 r1 (qa 101 r1 r1 (qR rr (qf (Zt 2 .is (by rfl)) r1 r1 (qf (oF 1 2 .adr) r1 r1 (qa 2 r1 r1 (qg 1 101 r1 r1 (qa 101 r1 r1 (qf (o_indexAddr_row (sz:=1) 7 (.mk Yca kr) .is .t ow ow (by rfl)) r2 r1 (qf (ZD (ag:=false) (sz':=1) (sz:=1) 7 .t (by intro x;rfl) ow kr kr kr) r1 r1 (qe 3 103 r1 r1 (qf (o_callRowN 62 (putE_c _ (Nn I x.dst.toNat) (endI x) (hI _ (nth_mem ow)).1 (hI _ (nth_mem ow)).2.1 (hI _ (nth_mem ow)).2.2 (endI_ok hrt hn)) func157 rfl kr (Args.two .t (.pagg .t)) pvOne1) r2 r1 (qf (o_indexAddr_row (sz:=1) 7 (.mk Yca kr) .is .t ow ow (by rfl)) r2 r1 (qf (ZkB (i:=53) (j:=53) (by rfl) (fun z=>ZW (R:=rV) (sz:=1) (v:=z) 7 .t (by intro x;rfl) ow .t rfl one_is kr)) r2 r1 qZ)))))))))))))))))) Z [4,0] [62,8,7,6,5,2,0] (fun _=>rfl) (fun _=>rfl) fun τ a w F G=>?_))
 try dsimp only [RS.sub,SF.sub,CF.sub,csub,Anc.sub,List.map,Ze,xL,xM,Nat.reduceAdd,xD,xE,xT,xU,xC,xN,zCF,ldSF,Zal,Zan,Zn,ZaI] at G
 generalize τ 53=v53 at G
 try simp only [Yd] at G
 replace G:=G.turn 62 rfl (r':=RS.hp (Zmk (v53,insE (Nn I x.dst.toNat) (endI x)))) (fun _ _ _ _ h=>h)
 obtain ⟨F,G⟩:=G.putAt Zmk (L:=Zex js I) (x:=(v53,insE (Nn I x.dst.toNat) (endI x))) 8 62 (x.dst.toNat) (by rw [Zj3];omega) rfl rfl rfl
 rw [← Zki ow] at G
 obtain ⟨F,G⟩:=G.nM [4,0] [8,7,6,5,2,0]
 refine Za (Ya (rZ G (qR rr (qf (Zt 2 .is (by rfl)) r1 r1 (qf (oF 2 2 .adr) r1 r1 (qa 2 r1 r1 (qp r1 (qf (Zt 2 .is (by rfl)) r1 r1 (qf (oF 2 2 .adr) r1 r1 (qf (ZaQ 2 .adr .t one_int kr kr) r2 r1 qZ)))))))) Z [4] [8,7,6,5,2,0] fun G=>Ya ?_))
 refine rZ G (qI qZ) Z [4] [8,7,6,5,2,0] fun G=>Yh ?_
 rw [Zd ow] at G
 have hl3:(hs.set x.src.toNat v36).length=(O.set x.src.toNat (insE (Nn O x.src.toNat) (endO x))).length:=by simp [hl1]
 have hl4:(js.set x.dst.toNat v53).length=(I.set x.dst.toNat (insE (Nn I x.dst.toNat) (endI x))).length:=by simp [hl2]
 have G:=G.fresh 3 rfl
 have G:=G.fresh 4 rfl
 have G:=G.fresh 1 rfl
 obtain ⟨F,G⟩:=G.push 3 6 rfl rfl rfl kr
 obtain ⟨F,G⟩:=G.push 3 5 rfl rfl rfl kr
 obtain ⟨F,G⟩:=G.push 4 8 rfl rfl rfl kr
 obtain ⟨F,G⟩:=G.push 4 7 rfl rfl rfl kr
 have G:=G.turn 3 rfl (r':=RS.hp (Ziu _ ov)) (fun _ _ _ _ h=>⟨_,hl3,h⟩)
 have G:=G.turn 4 rfl (r':=RS.hp (Ziu _ iv)) (fun _ _ _ _ h=>⟨_,hl4,h⟩)
 obtain ⟨F,G⟩:=G.push 1 4 rfl rfl rfl kr
 obtain ⟨F,G⟩:=G.push 1 3 rfl rfl rfl kr
 obtain ⟨F,G⟩:=G.push 1 2 rfl rfl rfl kr
 have G:=G.turn 1 rfl (r':=RS.hp (ZoN (Zel O I m x).1 (Zel O I m x).2.1 (Zel O I m x).2.2.1 (Value.pointer (some { block:=b,off:=0 })))) (fun _ _ _ _ h=>by rw [hg];exact ⟨_,_,h⟩)
 refine Zbb hG G rfl (.tmp rfl .nil) (.one (.int (by rw [hg]))) rfl
def adjO (O:List (List Z8)) (mask u:Int):List Int:=if 0≤u∧u<O.length then Zbu (((Nn O u.toNat).filter fun e=>ofB mask e.kind).map Z8.node) else []
theorem dgNodesOf_c (l:List Z8) (mask:Int) (hl:l.length≤1000000):FnP prog 198 [.sl Zal l,.int .i64 mask] (.sl Zn (Zbu ((l.filter fun e=>ofB mask e.kind).map Z8.node))):=by
 refine FnP.mk func198 rfl ntmps198 rfl fun B a w F Z hfr G=>Ya ?_
 refine rZ G (qC qZ) Z [4,1,0] [0] fun G=>Ya ?_
 refine rZ G (qC qZ) Z [5,4,1,0] [0] fun G=>(Ya (Ya ?_))
 refine rZ G (qR rr (qu Yb4 r1 (qJ qZ))) Z [10,9,8,5,4,1] [0] fun G=>Yg ?_
 replace G:=G.fresh 50 rfl
 replace G:=G.turn 50 rfl (Zas (T:=3) (sz:=1) (R:=Zn))
 refine Zm (σ:=(Nat)×(Value)×(List Int)) [1,4,8,9] [0] (fun s=>[(10,.pv (.int .i64 (s.1:Int))),(5,.pv (.is s.2.1))]) (fun s=>[(50,.ob (.val s.2.1) (ZC 3 1 Zn s.2.2))]) (fun s=>s.1≤l.length∧(s.2.2=(((l.take s.1).filter fun e=>ofB mask e.kind).map Z8.node))) (fun s=>l.length - s.1) ((0),(.slice none 0 0),([])) G ⟨rfl,rfl,rfl,rfl,rfl,rfl,tv⟩ ⟨rfl,rfl,tv⟩ ⟨Yx _,rfl⟩ ?_
 clear G;intro s a w F hC G
 obtain ⟨i,v,out⟩:=s
 try dsimp only at hC
 obtain ⟨F,G⟩:=G.nM [10,9,8,5,4,1] [50,0]
 try dsimp only at G
 obtain ⟨hi,hq⟩:=hC
 have hol:out.length≤i:=by rw [hq,YC];exact Y6 (Y8 _ _) (by rw [Yj];omega)
 refine Ya (rZ G (qL r2) Z [11,10,9,8,5,4,1] [50,0] fun G=>Ya ?_)
 refine Zc G rfl (fun hc0=>?_) (fun hc0=>?_)
 ·have hil:i<l.length:=by simp at hc0;omega
  refine Yf (Za (Ya (Yg (Ya (Zb G (qy 3 Yb4 r2 (qf (oR true 3 .t) r1 qz (qf (oH [.int .i64 0,.int .i64 0,.int .i64 0] 101) trivial qz (qS 3 101 r2 r1 qZ)))) Z [10,9,8,7,5,4,1] [101,50,0] (fun _=>rfl) (fun _=>rfl) fun τ a w F G=>?_)))))
  try dsimp only [RS.sub,SF.sub,CF.sub,csub,Anc.sub,List.map,Ze,xL,xM,Nat.reduceAdd,xD,xE,xT,xU,xC,xN,zCF,ldSF,Zal,Zan,Zn,ZaI] at G
  generalize τ 7=v7 at G
  try simp only [Yd] at G
  refine Za (Ya (rZ G (qR rr (qg 0 101 r1 r1 (qa 101 r1 r1 (qf (oP (Zq4 mask (Nn l i).kind) func210 (Args.two .t .t)) r2 qz qZ)))) Z [17,10,9,8,7,5,4,1] [101,50,0] fun G=>?_))
  refine Zc G rfl (fun hc1=>?_) (fun hc1=>?_)
  ·have hBq:ofB mask (Nn l i).kind=true:=by simpa using hc1
   refine Zb G (qR rr (qg 2 101 r1 r1 (qa 101 r1 r1 (qf (o_buildSliceE (sz:=1) (zs:=[.int .i64 0]) (r:=[(0,.tmp 20)]) (l:=[_]) Yb0 kr kr kr kr rfl rfl (.one rfl .t one_int kr .nil) rfl) r1 qz (qf (o_append (sz:=1) (bs:=8) 50 (.mk' Yb0 kr kr) (by intro x;rfl) .is (.arr (l':=[_]) .t) (by simp only [Yc,Yk,Yv,Yj,YL];omega) (by decide)) ⟨rfl,rfl,tv⟩ ⟨rfl,tv⟩ (qO rr qZ)))))) Z [10,9,8,5,4,1] [101,50,0] (fun _=>rfl) (fun _=>rfl) fun τ a w F G=>?_
   try dsimp only [RS.sub,SF.sub,CF.sub,csub,Anc.sub,List.map,Ze,xL,xM,Nat.reduceAdd,xD,xE,xT,xU,xC,xN,zCF,ldSF,Zal,Zan,Zn,ZaI] at G
   generalize τ 22=v22 at G
   refine Zj (Za (rZ G (qp r1 (qR rr qZ)) Z [10,9,8,5,4,1] [101,50,0] fun G=>?_))
   replace G:=G.ent (i:=10) (s':=.pv (.int .i64 ((i+1:Nat):Int))) rfl (.int (Zd ow))
   obtain ⟨F,G⟩:=G.nM [9,8,4,1,5,10] [0,50]
   exact ⟨((i+1),_,_),F,⟨by omega,(by rw [Zs hil,Yae,YJ,← hq];simp [hBq])⟩,G,by omega⟩
  have hBq:ofB mask (Nn l i).kind=false:=by simpa using hc1
  refine Yf (Zj (Za (rZ G (qp r1 (qR rr qZ)) Z [10,9,8,5,4,1] [101,50,0] fun G=>?_)))
  replace G:=G.ent (i:=10) (s':=.pv (.int .i64 ((i+1:Nat):Int))) rfl (.int (Zd ow))
  obtain ⟨F,G⟩:=G.nM [9,8,4,1,5,10] [0,50]
  exact ⟨((i+1),_,_),F,⟨by omega,(by rw [Zs hil,Yae,YJ,← hq];simp [hBq])⟩,G,by omega⟩
 have hil:i=l.length:=by simp at hc0;omega
 refine Yz (Zh (Zh (Zr (Za (Ya (rZ G (qR rr (qf (Zbe 50 (ZiC _ out ow) func92 rfl kr (Args.one .t)) r1 r1 qZ)) Z [5,4] [50,0] fun G=>Ya ?_))))))
 refine Zb G (qR rr (qf (o_callRowN 50 (Zjo _ _ (by rw [Ybl];omega)) func179 rfl kr (Args.one .t) pvOne1) r1 r1 (qO rr qZ))) Z [4] [50,0] (fun _=>rfl) (fun _=>rfl) fun τ a w F G=>?_
 try dsimp only [RS.sub,SF.sub,CF.sub,csub,Anc.sub,List.map,Zal,Zan,Zn,ZaI] at G
 generalize τ 27=v27 at G
 refine Za (Yh ?_)
 obtain ⟨F,G⟩:=G.give 50 4 rfl rfl
 refine Zv hfr G rfl rfl rfl (.sl (by rw [ZcY,Zdl,hq,hil,YD]))
def Zdp:Zo:=⟨[],[]⟩
theorem Za1 {g:Zo} (h:ZO g):Zgn TxD.id g.txs∧Zgn OrdD.key g.orders:=by
 constructor
 ·have hi:Zdm (g.txs.map TxD.id):=Zfi fun i hi h0=>by
   have hi':i<g.txs.length:=by simpa using hi
   rw [ZaH ow,ZaH hi']
   exact (h.2.1 i hi').1 h0
  rw [ZU]
  exact Ybc.1 hi
 ·have h2:=(ZcT g).2 h.2.2
  have hi:Zdm (g.orders.map OrdD.key):=Zfi fun i hi h0=>by
   have hi':i<g.orders.length:=by simpa using hi
   rw [ZaH ow,ZaH hi']
   exact (h2.2 i hi').1 h0
  rw [ZU]
  exact Ybc.1 hi
def Zt0 (t:TxD) (v:Zbh):Bool:=decide (v.tx=t.id) && decide ((wcnt t.ops v.key:Int)<v.nth)
def ZtK (t x:TxD):Bool:=decide (x.id≠t.id) && (Zek x).any (Zt0 t)
def Zs7 (g:Zo) (t:TxD):Bool:=g.txs.any (ZtK t)
def Zty (g:Zo) (t:TxD) (there:Int) (wanted:Bool):Int×Int:=if ¬ ZO g then (0,5) else if ZaE t≠0 then (0,ZaE t) else if isK TxD.id t.id g.txs≠wanted then (0,there) else if Zc8 g t=false then (0,6) else (lowK TxD.id t.id g.txs,0)
def Znj (g:Zo) (t:TxD):Zo×Int:=if (Zty g t 4 false).2≠0 then (Zdp,(Zty g t 4 false).2) else if g.txs.length=4096 then (Zdp,2) else (⟨g.txs.take (lowK TxD.id t.id g.txs) ++ [t] ++ g.txs.drop (lowK TxD.id t.id g.txs),settleO t g.orders⟩,0)
def Zsa (id:Int):TxD:=⟨id,false,[]⟩
def ZnX (g:Zo) (id:Int):Zo×Int:=if ¬ ZO g then (Zdp,5) else if isK TxD.id id g.txs=false then (Zdp,3) else if Zs7 g (Zsa id)=true then (Zdp,7) else (⟨g.txs.take (lowK TxD.id id g.txs)++g.txs.drop (lowK TxD.id id g.txs+1),settleO (Zsa id) g.orders⟩,0)
def ZqX (g:Zo) (t:TxD):Zo×Int:=if (Zty g t 3 true).2≠0 then (Zdp,(Zty g t 3 true).2) else if Zs7 g t=true then (Zdp,7) else (⟨g.txs.set (lowK TxD.id t.id g.txs) t,settleO t g.orders⟩,0)
theorem ZrP {α:Type} [Inhabited α] {κ:α→Int} {k:Int} {l:List α} (hs:Zgn κ l) (h:isK κ k l=true):lowK κ k l<l.length∧κ (Nn l (lowK κ k l))=k:=by
 obtain ⟨x,hx,hk⟩:=YaU.1 h
 obtain ⟨q,hq,e⟩:=YH hx
 have hk':κ (Nn l q)=k:=by rw [nth_eq hq,e];simpa using hk
 have hl:=ZeN (κ:=κ) (k:=k) (l:=l) (i:=q) (Nat.le_of_lt hq) (fun p hp=>by have:=hs p q hp hq;omega) (fun p hp hp2=>by have:=Zdq hs hp hp2;omega)
 rw [hl]
 exact ⟨hq,hk'⟩
theorem Zon (l:List Int) (tx place:Int):(ZpE l tx place).1.length≤l.length:=by
 unfold ZpE
 split
 ·simp
 ·split
  ·simp
  ·rename_i h1 h2
   have hr:=Zgr tx l
   have h3:(l.eraseIdx (Zc7 tx l).toNat).length=l.length - 1:=by rw [List.length_eraseIdx,Ye ow]
   show (ZtX _ _ _).length≤_
   unfold ZtX
   split
   ·rw [Yc,Yk,Yj,YL];omega
   ·omega
def ZgR (g:Zo) (key:Int) (rule:List Int→List Int×Int):Zo×Int:=if ¬ ZO g then (Zdp,5) else if isK OrdD.key key g.orders=false then (Zdp,3) else if (rule (Nn g.orders (lowK OrdD.key key g.orders)).txs).2≠0 then (Zdp,(rule (Nn g.orders (lowK OrdD.key key g.orders)).txs).2) else (⟨g.txs,g.orders.set (lowK OrdD.key key g.orders) ⟨(Nn g.orders (lowK OrdD.key key g.orders)).key,(rule (Nn g.orders (lowK OrdD.key key g.orders)).txs).1⟩⟩,0)
def ZsS (o:OrdD) (l:List Int):List Int×Int:=if l.Perm o.txs then (o.txs,0) else ([],8)
def Zqy (g:Zo) (o:OrdD):Zo×Int:=ZgR g o.key (ZsS o)
def ZtM (g:Zo) (key id place:Int):Zo×Int:=ZgR g key fun l=>ZpE l id place
section
set_option linter.unusedSectionVars false
variable {α:Type} {κ:α→Int} {t x:α} {l out r:List α} {d:Bool}
def Zfm (κ:α→Int) (t:α):List α→Bool→List α
 | [],d=>if d=true then [] else [t]
 | x :: l,d=>(if d=false∧κ t≤κ x then [t] else [])++(if κ x=κ t then [] else [x])++Zfm κ t l (d || decide (κ t≤κ x))
theorem Zd1:∀ l:List α,Zfm κ t l true=l.filter fun x=>!decide (κ x=κ t)
 | []=>rfl
 | x :: l=>by
  rw [Zfm,Yb (by simp),Yai,YbU,Zd1 l]
  split
  ·rename_i h;rw [Yag (by simpa using h)];rfl
  ·rename_i h;rw [Yab (by simpa using h)];rfl
theorem Zjk {k:Int} (h:∀ x ∈ l,k<κ x):(l.filter fun x=>!decide (κ x=k))=l:=by
 rw [Ybg]
 intro x hx
 have:=h x hx
 simp;omega
theorem Zmo {k:Int} : lowK κ k (x :: l)=if κ x<k then lowK κ k l+1 else 0:=by
 unfold lowK
 split
 ·rename_i h1;rw [List.takeWhile_cons_of_pos (by simpa using h1),Yk]
 ·rename_i h1;rw [List.takeWhile_cons_of_neg (by simpa using h1)];rfl
theorem ZpN {k:Int} : isK κ k (x :: l)=(decide (κ x=k) || isK κ k l):=by unfold isK;rw [YbP]
theorem Zms (hs:l.Pairwise fun a b=>κ a<κ b) (hk:isK κ (κ t) l=false):Zfm κ t l false=l.take (lowK κ (κ t) l) ++ [t] ++ l.drop (lowK κ (κ t) l):=by
 induction l with
 | nil=>rfl
 | cons x l ih=>
  rw [Yr] at hs
  rw [ZpN,YbG,YA] at hk
  rw [Zfm,Yb hk.1,Zmo]
  by_cases h:κ x<κ t
  ·rw [Yb ow,Ye h,show (false || decide (κ t≤κ x))=false by simp;omega,ih hs.2 hk.2];simp
  ·rw [Ye ⟨rfl,by omega⟩,Yb h,show (false || decide (κ t≤κ x))=true by simp;omega,Zd1,Zjk fun y hy=>by have:=hs.1 y hy;omega];simp
theorem ZnB {y:α} (h:y ∈ Zfm κ t l d):(y=t∧d=false)∨(y ∈ l∧κ y≠κ t):=by
 induction l generalizing d with
 | nil=>cases d <;> simp [Zfm] at h;exact .inl ⟨h,rfl⟩
 | cons x l ih=>
  rw [Zfm,Yy,Yy] at h
  rcases h with (h | h) | h
  ·split at h
   ·rename_i h1;exact .inl ⟨by simpa using h,h1.1⟩
   ·cases h
  ·split at h
   ·cases h
   ·rename_i h1
    have e:y=x:=by simpa using h
    subst e
    exact .inr ⟨by simp,h1⟩
  ·rcases ih h with ⟨h1,h2⟩ | ⟨h1,h2⟩
   ·rw [YbG] at h2;exact .inl ⟨h1,h2.1⟩
   ·exact .inr ⟨by simp [h1],h2⟩
theorem Zli (hs:l.Pairwise fun a b=>κ a<κ b):(Zfm κ t l d).Pairwise fun a b=>κ a<κ b:=by
 induction l generalizing d with
 | nil=>cases d <;> simp [Zfm]
 | cons x l ih=>
  rw [Yr] at hs
  have hf:=hs.2.filter fun x=>!decide (κ x=κ t)
  rw [Zfm]
  by_cases hA:d=false∧κ t≤κ x
  ·rw [Ye hA,show (d || decide (κ t≤κ x))=true by simp [hA.2],Zd1]
   have h1:∀ y ∈ l.filter (fun x=>!decide (κ x=κ t)),κ x<κ y:=fun y hy=>hs.1 y (YN.1 hy).1
   split
   ·rw [YM,YaC,Yr]
    exact ⟨fun y hy=>by have:=h1 y hy;omega,hf⟩
   ·rename_i h2
    rw [YS,YaC,YaC,Yr,Yr]
    refine ⟨fun y hy=>?_,h1,hf⟩
    rcases Yl.1 hy with rfl | hy
    ·omega
    ·have:=h1 y hy;omega
  ·rw [Yb hA,Yai]
   have ih2:=ih (d:=d || decide (κ t≤κ x)) hs.2
   split
   ·simpa using ih2
   ·rename_i h2
    rw [YaC,Yr]
    refine ⟨fun y hy=>?_,ih2⟩
    rcases ZnB hy with ⟨rfl,h3⟩ | ⟨h3,_⟩
    ·rw [YbG] at h3
     have:=YG h3.2
     omega
    ·exact hs.1 y h3
end
def getO (os:List OrdD) (k:Int):List Int:=((os.find? fun o=>decide (o.key=k)).map OrdD.txs).getD []
theorem ZhQ {o:OrdD} {os:List OrdD} {k:Int} : getO (o :: os) k=if o.key=k then o.txs else getO os k:=by
 unfold getO
 rw [YbQ]
 by_cases h:o.key=k <;> simp [h]
theorem ZnZ {os:List OrdD} {k:Int} (h:∀ o ∈ os,o.key≠k):getO os k = []:=by
 unfold getO
 rw [YaQ.2 fun o ho=>by simpa using h o ho];rfl
theorem ZcZ {os:List OrdD} {o:OrdD} (hs:os.Pairwise fun a b=>a.key<b.key) (h:o ∈ os):getO os o.key=o.txs:=by
 induction os with
 | nil=>cases h
 | cons x os ih=>
  rw [Yr] at hs
  rw [ZhQ]
  rcases Yl.1 h with rfl | h
  ·rw [Ye rfl]
  ·have:=hs.1 o h
   rw [Yb ow,ih hs.2 h]
theorem ZdZ {os:List OrdD} {k:Int} (h:getO os k≠[]):(⟨k,getO os k⟩:OrdD) ∈ os:=by
 induction os with
 | nil=>exact absurd rfl h
 | cons x os ih=>
  rw [ZhQ] at h ⊢
  by_cases e:x.key=k
  ·rw [Ye e];subst e;simp
  ·rw [Yb e] at h ⊢;simp [ih h]
def NE (os:List OrdD):Prop:=∀ o ∈ os,o.txs≠[]
theorem Zrp {os:List OrdD} {k:Int} {i:Nat} (hi:i<os.length) (h:(Nn os i).key=k) (hq:∀ q,q<i→(Nn os q).key≠k):getO os k=(Nn os i).txs:=by
 unfold getO
 rw [List.find?_eq_some_iff_getElem.2 ⟨by simpa using h,i,hi,(nth_eq hi).symm,fun j hj=>by have:=hq j hj;rw [nth_eq ow] at this;simpa using this⟩];rfl
theorem Zrc {os:List OrdD} {k:Int} (hq:∀ q,q<os.length→(Nn os q).key≠k):getO os k = []:=ZnZ fun o ho=>by
 obtain ⟨j,hj,e⟩:=YH ho
 have:=hq j hj
 rwa [nth_eq hj,e] at this
theorem ZkK {l:List Z8} {e:Z8} (h:Zgn ZaP l) (hk:isK ZaP (ZaP e) l=false):Zgn ZaP (insE l e)∧(∀ s,s ∈ insE l e ↔ s ∈ l∨s=e)∧(insE l e).length=l.length+1:=by
 have hm:∀ s,s ∈ insE l e ↔ s ∈ l∨s=e:=fun s=>by
  unfold insE
  rw [Yy,Yy,Yi]
  constructor
  ·rintro ((h1 | h1) | h1)
   ·exact .inl (Yap h1)
   ·exact .inr h1
   ·exact .inl (Ybn h1)
  ·rintro (h1 | h1)
   ·rw [← Ybz (lowK ZaP (ZaP e) l) l,Yy] at h1
    rcases h1 with h1 | h1
    ·exact .inl (.inl h1)
    ·exact .inr h1
   ·exact .inl (.inr h1)
 refine ⟨?_,hm,?_⟩
 ·unfold insE
  rw [← Zms (ZU.1 h) hk]
  exact ZU.2 (Zli (ZU.1 h))
 ·have:=Znx (κ:=ZaP) (k:=ZaP e) l
  unfold insE
  simp only [Yc,Yj,YL,Yav]
  omega
def ZqJ (L:List (List Z8)) (m:Nat):Prop:=∀ l ∈ L,l.length≤m∧Zgn ZaP l ∧ ∀ e ∈ l,okE e
theorem ZqJ.r {L:List (List Z8)} {m:Nat} (h:ZqJ L m) (hm:m≤1000000):Ztz L:=fun l hl=>⟨Y6 (h l hl).1 hm,(h l hl).2⟩
theorem ZqJ.set {L:List (List Z8)} {m k:Nat} {e:Z8} (h:ZqJ L m) (hk:k<L.length) (he:okE e) (hn:isK ZaP (ZaP e) (Nn L k)=false):ZqJ (L.set k (insE (Nn L k) e)) (m+1):=fun l hl=>by
 rcases List.mem_or_eq_of_mem_set hl with h1 | rfl
 ·exact ⟨Nat.le_succ_of_le (h l h1).1,(h l h1).2⟩
 ·obtain ⟨a1,a2,a3⟩:=h _ (nth_mem hk)
  obtain ⟨b1,b2,b3⟩:=ZkK a2 hn
  exact ⟨by omega,b1,fun s hs=>((b2 s).1 hs).elim (a3 s) fun h9=>h9 ▸ he⟩
theorem Zm2 {l:List Z8} {e:Z8} (hl:∀ s ∈ l,okE s) (he:okE e):isK ZaP (ZaP e) l=true ↔ e ∈ l:=by
 unfold isK
 rw [YaU]
 constructor
 ·rintro ⟨s,h1,h2⟩;exact keyE_inj (hl s h1) he (Yw h2) ▸ h1
 ·exact fun h=>⟨e,h,Yaa rfl⟩
structure Zcs (n:Nat) (E:List Zw) (O I:List (List Z8)):Prop where
 ol:O.length=n
 il:I.length=n
 on:ZqJ O E.length
 inn:ZqJ I E.length
 ok:∀ x ∈ E,ZaF n x=true
 om:∀ u:Nat,u<n → ∀ e,e ∈ Nn O u ↔ ∃ x ∈ E,x.src=(u:Int)∧endO x=e
 im:∀ u:Nat,u<n → ∀ e,e ∈ Nn I u ↔ ∃ x ∈ E,x.dst=(u:Int)∧endI x=e
theorem Zcs.outK {n:Nat} {E:List Zw} {O I:List (List Z8)} {x:Zw} (h:Zcs n E O I) (hn:n≤4096) (hx:ZaF n x=true):isK ZaP (ZaP (endO x)) (Nn O x.src.toNat)=true ↔ x ∈ E:=by
 obtain ⟨⟨s1,s2⟩,⟨d1,d2⟩,_⟩:=ZZ.1 hx
 have hu:x.src.toNat<n:=by omega
 rw [Zm2 (h.on _ (nth_mem (by rw [h.ol];exact hu))).2.2 (endO_ok hx hn),h.om _ hu]
 constructor
 ·rintro ⟨y,y1,y2,y3⟩
  have e:y=x:=by
   cases y;cases x
   simp only [endO,Z8.mk.injEq] at y3
   simp only at y2 s1
   obtain ⟨a,b,c⟩:=y3
   rw [Ybf s1] at y2
   subst a;subst b;subst c;subst y2;rfl
  exact e ▸ y1
 ·exact fun k=>⟨x,k,by rw [Ybf s1],rfl⟩
theorem Zcs.has {n:Nat} {E:List Zw} {O I:List (List Z8)} {x:Zw} (h:Zcs n E O I) (hn:n≤4096):ZoQ O x=true ↔ ZaF n x=true∧x ∈ E:=by
 unfold ZoQ
 rw [h.ol,Yt]
 exact ⟨fun k=>⟨k.1,(h.outK hn k.1).1 k.2⟩,fun k=>⟨k.1,(h.outK hn k.1).2 k.2⟩⟩
theorem Zcs.inK {n:Nat} {E:List Zw} {O I:List (List Z8)} {x:Zw} (h:Zcs n E O I) (hn:n≤4096) (hx:ZaF n x=true):isK ZaP (ZaP (endI x)) (Nn I x.dst.toNat)=true ↔ x ∈ E:=by
 obtain ⟨⟨s1,s2⟩,⟨d1,d2⟩,_⟩:=ZZ.1 hx
 have hu:x.dst.toNat<n:=by omega
 rw [Zm2 (h.inn _ (nth_mem (by rw [h.il];exact hu))).2.2 (endI_ok hx hn),h.im _ hu]
 constructor
 ·rintro ⟨y,y1,y2,y3⟩
  have e:y=x:=by
   cases y;cases x
   simp only [endI,Z8.mk.injEq] at y3
   simp only at y2 d1
   obtain ⟨a,b,c⟩:=y3
   rw [Ybf d1] at y2
   subst a;subst b;subst c;subst y2;rfl
  exact e ▸ y1
 ·exact fun k=>⟨x,k,by rw [Ybf d1],rfl⟩
theorem Zk1 {n:Nat} {E:List Zw} {L:List (List Z8)} {x:Zw} {f:Zw→Int} {g:Zw→Z8} (hl:L.length=n) (hm:∀ u:Nat,u<n → ∀ e,e ∈ Nn L u ↔ ∃ x ∈ E,f x=(u:Int)∧g x=e) (h0:0≤f x) (hr:Zgn ZaP (Nn L (f x).toNat)) (hk:isK ZaP (ZaP (g x)) (Nn L (f x).toNat)=false) :
  ∀ u:Nat,u<n → ∀ e,e ∈ Nn (L.set (f x).toNat (insE (Nn L (f x).toNat) (g x))) u ↔ ∃ y ∈ E ++ [x],f y=(u:Int)∧g y=e:=fun u hu e=>by
 rw [ZtJ ow]
 have hex:(∃ y ∈ E ++ [x],f y=(u:Int)∧g y=e) ↔ (∃ y ∈ E,f y=(u:Int)∧g y=e)∨(f x=(u:Int)∧g x=e):=by
  constructor
  ·rintro ⟨y,y1,y2⟩
   rcases Yy.1 y1 with y1 | y1
   ·exact .inl ⟨y,y1,y2⟩
   ·rw [Yi.1 y1] at y2;exact .inr y2
  ·rintro (⟨y,y1,y2⟩ | k)
   ·exact ⟨y,Yac _ y1,y2⟩
   ·exact ⟨x,by simp,k⟩
 rw [hex]
 by_cases hc:(f x).toNat=u
 ·rw [Ye hc,(ZkK hr hk).2.1,hc,hm u hu]
  constructor
  ·rintro (k | k)
   ·exact .inl k
   ·exact .inr ⟨by omega,k.symm⟩
  ·rintro (k | k)
   ·exact .inl k
   ·exact .inr k.2.symm
 ·rw [Yb hc,hm u hu]
  exact ⟨.inl,fun k=>k.elim id fun k=>absurd ow hc⟩
theorem Zcs.add {n:Nat} {E:List Zw} {O I:List (List Z8)} {x:Zw} (h:Zcs n E O I) (hn:n≤4096) (hx:ZaF n x=true) (hne:x ∉ E):Zcs n (E ++ [x]) (O.set x.src.toNat (insE (Nn O x.src.toNat) (endO x))) (I.set x.dst.toNat (insE (Nn I x.dst.toNat) (endI x))):=by
 have ko:=Bool.eq_false_iff.2 (fun k=>hne ((h.outK hn hx).1 k))
 have ki:=Bool.eq_false_iff.2 (fun k=>hne ((h.inK hn hx).1 k))
 obtain ⟨⟨s1,s2⟩,⟨d1,d2⟩,_⟩:=ZZ.1 hx
 have hl:=h.ol
 have hl2:=h.il
 have so:x.src.toNat<O.length:=by omega
 have si:x.dst.toNat<I.length:=by omega
 refine ⟨by simp [hl],by simp [hl2],?_,?_,fun y hy=>?_,?_,?_⟩
 ·rw [Yc];exact h.on.set so (endO_ok hx hn) ko
 ·rw [Yc];exact h.inn.set si (endI_ok hx hn) ki
 ·rcases Yy.1 hy with hy | hy
  ·exact h.ok y hy
  ·rw [Yi.1 hy];exact hx
 ·exact Zk1 (f:=Zw.src) (g:=endO) hl h.om s1 (h.on _ (nth_mem so)).2.1 ko
 ·exact Zk1 (f:=Zw.dst) (g:=endI) hl2 h.im d1 (h.inn _ (nth_mem si)).2.1 ki
def Zld (n:Nat) (E:List Zw) (x:Zw):List Zw:=if ZaF n x=true∧x ∉ E then E ++ [x] else E
theorem ZoU {n:Nat} {E:List Zw} {x y:Zw} : y ∈ Zld n E x ↔ y ∈ E∨(y=x∧ZaF n y=true):=by
 unfold Zld
 split
 ·rename_i h
  rw [Yy,Yi]
  exact ⟨fun k=>k.elim .inl fun e=>.inr ⟨e,e ▸ h.1⟩,fun k=>k.elim .inl fun e=>.inr e.1⟩
 ·rename_i h
  refine ⟨.inl,fun k=>k.elim id fun ⟨e,hr⟩=>?_⟩
  subst e
  exact Ya3 fun hx=>h ⟨hr,hx⟩
theorem Zkz {n:Nat} : ∀ {L E:List Zw} {y:Zw},y ∈ L.foldl (Zld n) E ↔ y ∈ E∨(y ∈ L∧ZaF n y=true)
 | [],E,y=>by simp
 | x :: L,E,y=>by
  rw [Yal,Zkz,ZoU,Yl]
  constructor
  ·rintro ((h | ⟨h,k⟩) | ⟨h,k⟩)
   ·exact .inl h
   ·exact .inr ⟨.inl h,k⟩
   ·exact .inr ⟨.inr h,k⟩
  ·rintro (h | ⟨h | h,k⟩)
   ·exact .inl (.inl h)
   ·exact .inl (.inr ⟨h,k⟩)
   ·exact .inr ⟨h,k⟩
theorem ZmW {n:Nat} (E:List Zw) (x:Zw):(Zld n E x).length≤E.length+1:=by
 unfold Zld;split <;> simp
theorem Zg5 {n:Nat} : ∀ (L E:List Zw),(L.foldl (Zld n) E).length≤E.length+L.length
 | [],E=>YO _
 | x :: L,E=>by
  have h1:=Zg5 (n:=n) L (Zld n E x)
  have h2:=ZmW (n:=n) E x
  rw [Yal,Yk];omega
theorem Zcs.new (n:Nat):Zcs n [] (List.replicate n []) (List.replicate n []):=by
 have hn:∀ u:Nat,u<n→Nn (List.replicate n ([]:List Z8)) u = []:=fun u hu=>by
  rw [nth_eq (by simpa using hu)];simp
 have hd:ZqJ (List.replicate n []) ([]:List Zw).length:=fun l hl=>by
  rw [(List.mem_replicate.1 hl).2];exact ⟨YO _,ZU.2 .nil,fun e h=>by cases h⟩
 exact ⟨by simp,by simp,hd,hd,(fun x h=>by cases h),(fun u hu e=>by rw [hn u hu];simp),(fun u hu e=>by rw [hn u hu];simp)⟩
theorem Zcs.step {n:Nat} {E:List Zw} {O I:List (List Z8)} (h:Zcs n E O I) (hn:n≤4096) (x:Zw) (m:Nat):Zcs n (Zld n E x) (Zel O I m x).1 (Zel O I m x).2.1∧(Zel O I m x).2.2.1≤m+1:=by
 unfold Zel Zld
 rw [h.ol]
 by_cases hr:ZaF n x=true
 ·rw [Ye hr]
  by_cases hx:x ∈ E
  ·rw [Ye ((h.has hn).2 ⟨hr,hx⟩),Yb (fun k=>k.2 hx)];exact ⟨h,Nat.le_succ _⟩
  ·rw [Yb (fun k=>hx ((h.has hn).1 k).2),Ye ⟨hr,hx⟩];exact ⟨h.add hn hr hx,YO _⟩
 ·rw [Yb hr,Yb (fun k=>hr k.1)];exact ⟨h,Nat.le_succ _⟩
theorem ZcM {id:Int} {s r:List OpD} {o:OpD} : Zai id s (o :: r)=if ZaA o=false then 1 else if o.read=true∧o.tx=id∧(wcnt s o.key:Int)<o.nth then 6 else Zai id (s ++ [o]) r:=by rw [Zai]
theorem ZmK (l:List Zf) (hl:l.length≤1000000):FnG prog 124 1 [.sl Zp l] [.star []] (PV.one) (fun v=>[ZC 42 4 Zp l v]):=by
 refine FnG.mk func124 rfl ntmps124 rfl kr fun B F0 a w F Z hG G=>?_
 obtain ⟨F,G⟩:=G.nM [0] [0]
 refine Ya (rZ G (qC qZ) Z [2,0] [0] fun G=>(Ya (Ya ?_)))
 refine Zg G (qR rr (qf (Zby Yb1 .t) r1 qz qZ)) Z [4,2,0] [0] rfl rfl fun a w F G=>?_
 obtain ⟨β4,hβ4,G⟩:=G.pickBool 4 rfl
 obtain ⟨F,G⟩:=G.nM [4,2,0] [0]
 refine Za (Zc G rfl (fun hc0=>?_) (fun hc0=>?_))
 ·have hg:l = []:=hβ4 hc0
  refine Ya (rZ G (qC qZ) Z [2,0] [0] fun G=>(Yh (Zl ?_)))
  have G:=G.fresh 1 rfl
  have G:=G.turn 1 rfl (Zas (T:=42) (sz:=4) (R:=Zp))
  have G:=G.turn 1 rfl (r':=RS.hp (ZC 42 4 Zp l (.slice none 0 0))) (fun _ _ _ _ h=>by rw [hg];exact h)
  refine Zab (h':=fun v=>ZC 42 4 Zp l v) hG G rfl (.tmp rfl .nil) (.one .one) rfl
 have hg:l = [] ++ l:=rfl
 refine Yf (Za (Ya (Zb G (qf (o_buildSlice0 (R:=Zp) (sz:=4) 101 Yb1 kr) trivial qz (qR rr (qf (o_append (sz:=4) (bs:=32) 101 (.mk' Yb1 kr kr) (by intro x;rfl) .same (.sl .t) (by simp only [Yc,Yv];omega) (by decide)) ⟨rfl,rfl,tv⟩ ⟨rfl,tv⟩ (qO rr qZ)))) Z [2] [101,0] (fun _=>rfl) (fun _=>rfl) fun τ a w F G=>?_)))
 try dsimp only [RS.sub,SF.sub,CF.sub,csub,Anc.sub,List.map,Ze,xL,xM,Nat.reduceAdd,xD,xE,xT,xU,xC,xN,zCF,Zp] at G
 generalize τ 7=v7 at G
 refine Za (Yh ?_)
 obtain ⟨F,G⟩:=G.rename 101 1 rfl rfl
 have G:=G.turn 1 rfl (r':=RS.hp (ZC 42 4 Zp l v7)) (fun _ _ _ _ h=>by rw [hg];exact h)
 refine Zab (h':=fun v=>ZC 42 4 Zp l v) hG G rfl (.tmp rfl .nil) (.one .one) rfl
theorem Zjj (v:Value) (l:List Zf) (hll:l.length≤1000000):FnG prog 175 1 [.is v] [ZC 42 4 Zp l v] (PV.one) (fun v=>[ZC 42 4 Zp (Zq l) v]):=by
 refine FnG.mk func175 rfl ntmps175 rfl kr fun B F0 a w F Z hG G=>?_
 replace G:=G.turn 1 rfl (r':=.ob (.val v) (ZC 42 4 Zp l)) (fun _ _ _ _ h=>h)
 refine Ya (rZ G (qC qZ) Z [2,0] [1,0] fun G=>(Ya (Ya ?_)))
 refine rZ G (qR rr (qf (Zav 1 Yb1 .is) r1 r1 (qf (Zar .t qi) r1 qz qZ))) Z [8,2,0] [1,0] fun G=>?_
 refine Zc G rfl (fun hc0=>?_) (fun hc0=>?_)
 ·have hg:(Zq l)=l:=ZbI (by simp at hc0;omega)
  refine Ya (rZ G (qR rr (qO rr qZ)) Z [2,0] [1,0] fun G=>(Yh (Zl ?_)))
  have G:=G.turn 1 rfl (r':=RS.hp (ZC 42 4 Zp (Zq l) v)) (fun _ _ _ _ h=>by rw [hg];exact h)
  refine Zab (h':=fun v=>ZC 42 4 Zp (Zq l) v) hG G rfl (.tmp rfl .nil) (.one .one) rfl
 have hl2:2≤l.length:=by simp at hc0;omega
 refine Yf (Za (Ya (Ya (rZ G (qI qZ) Z [3,2,0] [1,0] fun G=>Yg ?_))))
 refine Zm (σ:=Nat) [0,2] [0,1] (fun s=>[(3,.pv (.int .i64 (s:Int)))]) (fun s=>[]) (fun s=>1≤s∧s≤l.length∧Zq (l.take s)=l.take s) (fun s=>l.length - s) (1) G ⟨rfl,rfl,rfl,tv⟩ ⟨rfl,rfl,tv⟩ ⟨by omega,by omega,ZbI (by rw [Yj];omega)⟩ ?_
 clear G;intro k a w F hC G
 try dsimp only at hC
 obtain ⟨F,G⟩:=G.nM [3,2,0] [1,0]
 try dsimp only at G
 obtain ⟨hk1,hkl,hkc⟩:=hC
 have hkw:IntKind.wrap .i64 ((k:Int) - 1)=(k:Int) - 1:=Zz ow
 refine Ya (Ya (rZ G (qR rr (qR rr (qf (Zav 1 Yb1 .is) r1 r1 (qL r2)))) Z [13,3,2,0] [1,0] fun G=>?_))
 refine Zc G rfl (fun hc1=>?_) (fun hc1=>?_)
 ·have hil:k<l.length:=by simp at hc1;omega
  have hst:=Zbk (l:=l) hk1 hil
  have hy0:(IntKind.wrap .i64 ((k:Int) - 1)).toNat=k - 1:=by rw [hkw];omega
  refine Yf (Za (Ya (Yg (Ya (ZB G (qR rr (qR rr (qf (o_indexAddr_row (sz:=4) 1 (.mk Yb1 kr) .is .t ow ow (by rfl)) r2 r1 (qf (ZD (ag:=true) (sz':=4) (sz:=4) 1 .t (by intro x;rfl) ow kr kr kr) r1 r1 (qR rr (qR rr (qf (o_sub .t qi) r1 qz (qf (o_indexAddr_row (sz:=4) 1 (.mk Yb1 kr) .is .t (by rw [hkw];omega) (by rw [hkw];omega) (by rfl)) r2 r1 (qf (ZD (ag:=true) (sz':=4) (sz:=4) 1 .t (by intro x;rfl) (by rw [hkw];omega) kr kr kr) r1 r1 (qf (o_eqlS (ks:=[true,true,true,true]) kr .t .t (.int (.int (.int (.int .nil))))) r2 qz qZ)))))))))) Z [25,3,2,0] [1,0] rfl rfl fun a w F G=>?_)))))
  try dsimp only [List.map,xD,xE,xT,xU,ldSF,Zp] at G
  try simp only [Yd] at G
  refine Za (Zc G rfl (fun hc2=>?_) (fun hc2=>?_))
  ·have heq:Nn l (k - 1)=Nn l k:=by rw [hy0] at hc2;simp only [ZsN] at hc2;simp at hc2;exact hc2.symm
   rw [Ye heq,hkc] at hst
   have hst0:=hst.symm
   refine Ya (rZ G (qR rr (qR rr (qf (ZaX (sz:=4) 1 (.mk Yb1 kr) .is .t ow ow) r2 r1 (qO rr qZ)))) Z [4,3,2,0] [1,0] fun G=>(Ya (Ya ?_)))
   refine rZ G (qI qZ) Z [5,4,3,2,0] [1,0] fun G=>Yg ?_
   have hC0:1≤1∧1≤l.length - k∧k≤k∧k≤k+1 - 1∧l.length=l.length∧l.take k=Zq (l.take (k+1)) ∧ ∀ q,k+1 - 1≤q→q<l.length→Nn l q=Nn l q:=⟨by omega,by omega,by omega,by omega,rfl,hst0,fun q _ _=>rfl⟩
   refine Zm (σ:=Nat×Nat×List Zf) [0,2,4] [0] (fun s=>[(3,.pv (.int .i64 (s.1:Int))),(5,.pv (.int .i64 (s.2.1:Int)))]) (fun s=>[(1,.ob (.val v) (ZC 42 4 Zp s.2.2))]) (fun s=>1≤s.2.1∧s.2.1≤l.length - k∧k≤s.1∧s.1≤k+s.2.1 - 1∧s.2.2.length=l.length∧s.2.2.take s.1=Zq (l.take (k+s.2.1)) ∧ ∀ q,k+s.2.1 - 1≤q→q<l.length→Nn s.2.2 q=Nn l q) (fun s=>l.length - s.2.1) ((k),(1),(l)) G ⟨rfl,rfl,rfl,rfl,rfl,tv⟩ ⟨rfl,rfl,tv⟩ hC0 ?_
   clear G;intro s a w F hC G
   obtain ⟨k1,j,l1⟩:=s
   try dsimp only at hC
   obtain ⟨F,G⟩:=G.nM [5,4,3,2,0] [1,0]
   try dsimp only at G
   obtain ⟨hj1,hjk,hkk,hkj,hl1,htk,hrest⟩:=hC
   have hjw:IntKind.wrap .i64 ((j:Int) - 1)=(j:Int) - 1:=Zz ow
   refine Ya (Ya (rZ G (qR rr (qR rr (qf (Zh8 1 Yb1 .t ow) r1 r1 (qL r2)))) Z [32,5,4,3,2,0] [1,0] fun G=>?_))
   refine Zc G rfl (fun hc3=>?_) (fun hc3=>?_)
   ·have hjl:k+j<l.length:=by simp at hc3;omega
    have hx1:(Nn l1 (((k:Int)).toNat+((j:Int)).toNat))=Nn l (k+j):=by rw [Yd,Yd];exact hrest _ ow hjl
    have hx0:Nn l1 (((k:Int)).toNat+(IntKind.wrap .i64 ((j:Int) - 1)).toNat)=Nn l (k+j - 1):=by rw [hjw,show ((k:Int)).toNat+((j:Int) - 1).toNat=k+j - 1 by omega];exact hrest _ ow ow
    have hstp:=Zbk (l:=l) (p:=k+j) ow hjl
    refine Yf (Za (Ya (Yg (Ya (ZB G (qR rr (qR rr (qf (o_indexAddr_sub (sz:=4) 1 (.mk Yb1 kr) .t .t ow ow (by rfl)) r2 r1 (qf (ZD (ag:=true) (sz':=4) (sz:=4) 1 .t (by intro x;rfl) ow kr kr kr) r1 r1 (qR rr (qR rr (qf (o_sub .t qi) r1 qz (qf (o_indexAddr_sub (sz:=4) 1 (.mk Yb1 kr) .t .t (by rw [hjw];omega) (by rw [hjw];omega) (by rfl)) r2 r1 (qf (ZD (ag:=true) (sz':=4) (sz:=4) 1 .t (by intro x;rfl) (by rw [hjw];omega) kr kr kr) r1 r1 (qf (o_neqS (ks:=[true,true,true,true]) kr .t .t (.int (.int (.int (.int .nil))))) r2 qz qZ)))))))))) Z [44,5,4,3,2,0] [1,0] rfl rfl fun a w F G=>?_)))))
    try dsimp only [List.map,xD,xE,xT,xU,ldSF,Zp] at G
    try simp only [Yd] at G
    refine Za (Zc G rfl (fun hc4=>?_) (fun hc4=>?_))
    ·have hne:¬ Nn l (k+j - 1)=Nn l (k+j):=by rw [← hx1,← hx0];simp only [ZsN] at hc4;simp at hc4 ⊢;exact fun e=>hc4 e.symm
     rw [Yb hne] at hstp
     obtain ⟨i2,hi2e⟩:∃ i2,i2=k1+1:=⟨_,rfl⟩
     have hi2:IntKind.wrap .i64 ((k1:Int)+1)=(i2:Int):=by rw [hi2e];exact Zd ow
     obtain ⟨l2,hl2e⟩:∃ l2,l2=l1.set k1 (Nn l1 (k+j)):=⟨_,rfl⟩
     have hx1b:Nn l1 (k+j)=Nn l (k+j):=hrest _ ow hjl
     have hC2:1≤j+1∧j+1≤l.length - k∧k≤i2∧i2≤k+(j+1) - 1∧l2.length=l.length∧l2.take i2=Zq (l.take (k+(j+1))) ∧ ∀ q,k+(j+1) - 1≤q→q<l.length→Nn l2 q=Nn l q:=⟨by omega,by omega,by omega,by omega,by rw [hl2e,YU];exact hl1,by rw [hl2e,hi2e,Zs (by rw [YU];omega),List.take_set_of_le (YO _),htk,nth_eq (by rw [YU];omega),YbA,hx1b];exact hstp.symm,fun q hq hq2=>by rw [hl2e,nth_eq (by rw [YU];omega),List.getElem_set_ne ow,← nth_eq ow];exact hrest q ow hq2⟩
     refine Ya (Zg G (qR rr (qR rr (qR rr (qR rr (qf (o_indexAddr_sub (sz:=4) 1 (.mk Yb1 kr) .t .t ow ow (by rfl)) r2 r1 (qf (ZD (ag:=true) (sz':=4) (sz:=4) 1 .t (by intro x;rfl) ow kr kr kr) r1 r1 (qf (o_indexAddr_row (sz:=4) 1 (.mk Yb1 kr) .is .t ow ow (by rfl)) r2 r1 (qf (ZfG (sz:=4) 1 .t (by intro x;rfl) ow (.conv .t (Ent.aggU (l:=Zp (Nn l1 (((k:Int)).toNat+((j:Int)).toNat))) rfl rfl)) kr) r2 r1 qZ)))))))) Z [5,4,3,2,0] [1,0] rfl rfl fun a w F G=>?_)
     try simp only [Yd] at G
     rw [← hl2e] at G
     refine Za (Zg G (qR rr (qp r1 (qO rr qZ))) Z [5,4,3,2,0] [1,0] rfl rfl fun a w F G=>Zj (Za ?_))
     refine rZ G (qR rr (qp r1 (qO rr qZ))) Z [5,4,3,2,0] [1,0] fun G=>?_
     have hmu:l.length - (j+1)<l.length - j:=by omega
     replace G:=G.ent (i:=3) (s':=.pv (.int .i64 (i2:Int))) rfl (.int hi2)
     replace G:=G.ent (i:=5) (s':=.pv (.int .i64 ((j+1:Nat):Int))) rfl (.int (Zd ow))
     obtain ⟨F,G⟩:=G.nM [4,2,0,5,3] [0,1]
     exact ⟨((i2),(j+1),(l2)),F,hC2,G,hmu⟩
    have heq2:Nn l (k+j - 1)=Nn l (k+j):=by rw [← hx1,← hx0];simp only [ZsN] at hc4;simp at hc4 ⊢;exact hc4.symm
    rw [Ye heq2] at hstp
    obtain ⟨i2,hi2e⟩:∃ i2,i2=k1:=⟨_,rfl⟩
    have hi2:(k1:Int)=(i2:Int):=by rw [hi2e]
    obtain ⟨l2,hl2e⟩:∃ l2,l2=l1:=⟨_,rfl⟩
    rw [← hl2e] at G
    have hC2:1≤j+1∧j+1≤l.length - k∧k≤i2∧i2≤k+(j+1) - 1∧l2.length=l.length∧l2.take i2=Zq (l.take (k+(j+1))) ∧ ∀ q,k+(j+1) - 1≤q→q<l.length→Nn l2 q=Nn l q:=⟨by omega,by omega,by omega,by omega,by rw [hl2e];exact hl1,by rw [hl2e,hi2e,htk];exact hstp.symm,fun q hq hq2=>by rw [hl2e];exact hrest q ow hq2⟩
    refine Yf (Zj (Za (rZ G (qR rr (qp r1 (qO rr qZ))) Z [5,4,3,2,0] [1,0] fun G=>?_)))
    have hmu:l.length - (j+1)<l.length - j:=by omega
    replace G:=G.ent (i:=3) (s':=.pv (.int .i64 (i2:Int))) rfl (.int hi2)
    replace G:=G.ent (i:=5) (s':=.pv (.int .i64 ((j+1:Nat):Int))) rfl (.int (Zd ow))
    obtain ⟨F,G⟩:=G.nM [4,2,0,5,3] [0,1]
    exact ⟨((i2),(j+1),(l2)),F,hC2,G,hmu⟩
   have hjl:k+j=l.length:=by simp at hc3;omega
   have hg:(Zq l)=(l1.take k1++List.replicate (l1.length - k1) noE).take k1:=by rw [Y4 (by rw [Yj];omega),Ya1,Nat.min_self,htk,hjl,YD]
   refine Yz (Zh (Zh (Zr (Za (Ya (rZ G (qR rr (qR rr (qf (ZaX (sz:=4) 1 (.mk Yb1 kr) .is .t ow ow) r2 r1 (qf (Zdn (R:=Zp) (z:=noE) (zs:=[.int .i64 0,.int .i64 0,.int .i64 0,.int .i64 0]) 1 Yb1 kr rfl rfl Zp0 (by intro x;rfl) .t (by simp;omega)) r1 r1 qZ)))) Z [3,2,0] [1,0] fun G=>Ya ?_))))))
   refine Zb G (qR rr (qR rr (qf (ZfM (sz:=4) 1 (.mk Yb1 kr) (by intro x;rfl) .is .t ow (by simp;omega)) r2 r1 (qO rr qZ)))) Z [3,2,0] [1,0] (fun _=>rfl) (fun _=>rfl) fun τ a w F G=>?_
   try dsimp only [RS.sub,SF.sub,CF.sub,csub,Anc.sub,List.map,Zp] at G
   generalize τ 59=v59 at G
   refine Za (Yh (Zx (Zl (Zl (Zx (Zl ?_))))))
   have G:=G.turn 1 rfl (r':=RS.hp (ZC 42 4 Zp (Zq l) v59)) (fun _ _ _ _ h=>by rw [hg];exact h)
   refine Zab (h':=fun v=>ZC 42 4 Zp (Zq l) v) hG G rfl (.tmp rfl .nil) (.one .one) rfl
  have hne:¬ Nn l (k - 1)=Nn l k:=by rw [hy0] at hc2;simp only [ZsN] at hc2;simp at hc2;exact fun e=>hc2 e.symm
  rw [Yb hne] at hst
  refine Yf (Zj (Za (rZ G (qR rr (qp r1 (qO rr qZ))) Z [3,2,0] [1,0] fun G=>?_)))
  replace G:=G.ent (i:=3) (s':=.pv (.int .i64 ((k+1:Nat):Int))) rfl (.int (Zd ow))
  obtain ⟨F,G⟩:=G.nM [2,0,3] [1,0]
  exact ⟨(k+1),F,⟨by omega,by omega,by rw [hst,hkc,← Zs hil]⟩,G,by omega⟩
 have hg:(Zq l)=l:=by rw [show k=l.length by simp at hc1;omega,YD] at hkc;exact hkc
 refine Yz (Zh (Zh (Zr (Za (Ya (rZ G (qR rr (qO rr qZ)) Z [2] [1,0] fun G=>Yh ?_))))))
 have G:=G.turn 1 rfl (r':=RS.hp (ZC 42 4 Zp (Zq l) v)) (fun _ _ _ _ h=>by rw [hg];exact h)
 refine Zab (h':=fun v=>ZC 42 4 Zp (Zq l) v) hG G rfl (.tmp rfl .nil) (.one .one) rfl
end Go.Proofs.YtlkpllemoepamaaGreat
