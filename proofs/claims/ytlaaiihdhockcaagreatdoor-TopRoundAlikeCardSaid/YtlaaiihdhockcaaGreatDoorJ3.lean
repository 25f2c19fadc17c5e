/- Laws and walks. No condition beyond what each says. -/
import Derived.Test.YtlaaiihdhockcaaGreatDoorJ2
import Derived.Test.YtlaaiihdhockcaaGreatDoorLibE
namespace Go.Proofs.YtlaaiihdhockcaaGreatDoor
open Go Go.Gm Tryz
set_option linter.unusedVariables false
set_option linter.unusedSimpArgs false
set_option maxHeartbeats 4000000
set_option maxRecDepth 8000
theorem Zlx {α:Type} {l:List α} {i:Nat} {x:α} (h:i=l.length):l.take i ++ [x] ++ l.drop i=l ++ [x]:=by rw [h];simp
theorem Zin {α:Type} {l l2 l3:List α} {i:Nat} {x z:α} (hi:i<l.length) (h2:l2=l.take i++List.replicate (l.length+1 - i) z) (h3:l3=l2.take i ++ [x] ++ l2.drop (i + [x].length)) :
  l.take i ++ [x] ++ l.drop i=l3.take (i+1)++l.drop i++l3.drop (i+1+(l.drop i).length):=by
 have e1:l2.take i=l.take i:=by
  rw [h2,Y2 (by rw [Ym];omega),Ya6,Nat.min_self]
 have e0:l2.length=l.length+1:=by rw [h2,Yc,Ym,YV];omega
 have e2:l3.take (i+1)=l.take i ++ [x]:=by
  rw [h3,e1,Y2 (by rw [Yc,Ym];simp;omega),YL (by rw [Yc,Ym];simp;omega)]
 have e3:l3.length=l.length+1:=by
  rw [h3,e1,Yc,Yc,Ym,YJ,e0];simp;omega
 have e4:l3.drop (i+1+(l.drop i).length) = []:=List.drop_eq_nil_of_le (by rw [e3,YJ];omega)
 rw [e2,e4,Yax]
theorem ZfW {α:Type} {l l4:List α} {i:Nat} {x:α} (hi:i<l.length) (h4:l4=l.take (i+1)++l.drop i):l.take i ++ [x] ++ l.drop i=l4.take i ++ [x] ++ l4.drop (i + [x].length):=by
 have e1:l4.take i=l.take i:=by
  rw [h4,Y2 (by rw [Ym];omega),Ya6,YaO ow]
 have e2:l4.drop (i + [x].length)=l.drop i:=by
  rw [h4,show i + [x].length=i+1 from rfl,List.drop_append_of_le_length (by rw [Ym];omega),List.drop_eq_nil_of_le (by rw [Ym];omega),Yal]
 rw [e1,e2]
theorem Zph (v:Value) (l:List Int) (i:Nat) (x:Int) (hll:l.length≤1000000) (hi:i≤l.length):FnG prog 78 1 [.is v,.int .i64 i,.sl Zk [x]] [Zo 3 1 Zk l v] (PV.one) (fun v=>[Zo 3 1 Zk (l.take i ++ [x] ++ l.drop i) v]):=by
 refine FnG.mk func78 V ntmps78 V kr fun B F0 a w F J hG G=>?_
 replace G:=G.turn 1 V (r':=.ob (.val v) (Zo 3 1 Zk l)) (fun _ _ _ _ h=>h)
 refine Ya (rZ G (qC qZ) J [6,2,1,0] [1,0] fun G=>Ya ?_)
 refine rZ G (qR rr (qR rr (qf (ZgV (sz:=1) 1 (.mk YbA kr) .is .t ow ow) r2 r1 qZ))) J [6,2,1,0] [1,0] fun G=>Ya ?_
 refine Zb G (qR rr (qu YbA r1 (qO rr qZ))) J [7,6,2,1,0] [1,0] V V fun a w F G=>?_
 replace G:=G.ent (i:=7) (s':=.pv (.int .i64 1)) V (.int V)
 obtain ⟨F,G⟩:=G.nM [7,6,2,1,0] [1,0]
 refine Za (Ya (Ya (rZ G (qR rr (qf (o_eql .t qi) r1 qz qZ)) J [16,7,6,2,1,0] [1,0] fun G=>?_)))
 refine Zc G V (fun hc0=>?_) (fun hc0=>?_)
 ·simp at hc0
 refine Yg (Za (Ya (rZ G (qR rr (qf (Zx 1 YbA .is) r1 r1 (qO rr qZ))) J [8,7,6,2,1,0] [1,0] fun G=>(Ya (Ya ?_)))))
 refine rZ G (qR rr (qR rr (qf (o_eql .t .t) r2 qz qZ))) J [22,8,7,6,2,1,0] [1,0] fun G=>?_
 refine Zc G V (fun hc1=>?_) (fun hc1=>?_)
 ·have hg:=Zlx (x:=x) (by have h9:=hc1;simp at h9;omega:i=l.length)
  refine Ya (Ze G (qR rr (qR rr (qf (ZB (sz:=1) (bs:=8) 1 (.mk' YbA kr kr) (by intro x;rfl) .is (.sl .t) (by simp only [Yx,YS];omega) (by decide)) ⟨rfl,rfl,tv⟩ ⟨rfl,tv⟩ (qO rr qZ)))) J [8,7,6,2,1,0] [1,0] (fun _=>rfl) (fun _=>rfl) fun τ a w F G=>?_)
  try dsimp only [RS.sub,SF.sub,CF.sub,csub,Anc.sub,List.map,xC,xN,Zk] at G
  generalize τ 25=v25 at G
  refine Za (Yl (Zw ?_))
  have G:=G.turn 1 V (r':=RS.hp (Zo 3 1 Zk (l.take i ++ [x] ++ l.drop i) v25)) (fun _ _ _ _ h=>by rw [hg];exact h)
  refine ZU (h':=fun v=>Zo 3 1 Zk (l.take i ++ [x] ++ l.drop i) v) hG G V (.tmp V .nil) (.one .one) rfl
 have hil:i<l.length:=by simp at hc1;omega
 have hw1:IntKind.wrap .i64 ((i:Int)+1)=((i+1:Nat):Int):=Zf ow
 have hwn:IntKind.wrap .i64 ((l.length:Int)+1)=((l.length+1:Nat):Int):=Zf ow
 refine Yg (Za (Ya (Ya (rZ G (qR rr (qR rr (qf (o_add .t .t) r2 qz (qR rr (qf (ZfY 1 YbA .is) r1 r1 (qf (Zbq .t .t) r2 qz qZ)))))) J [31,8,7,6,2,1,0] [1,0] fun G=>?_))))
 refine Zc G V (fun hc2=>?_) (fun hc2=>?_)
 ·have hcap:capV v<l.length+1:=by rw [hwn] at hc2;simp at hc2;omega
  have hw:IntKind.wrap .i64 (IntKind.wrap .i64 ((l.length:Int)+1) - (i:Int))=((l.length+1 - i:Nat):Int):=by rw [hwn,Zr ow];omega
  refine Ya (Ze G (qR rr (qR rr (qf (Zc0 (sz:=1) 1 (.mk YbA kr) .is .t ow ow) r2 r1 (qR rr (qR rr (qf (o_add .t .t) r2 qz (qR rr (qf (o_sub .t .t) r2 qz (qf (ZbT (R:=Zk) (z:=(0:Int)) (bs:=8) (sz:=1) (zs:=[.int .i64 0]) 1 101 YbA YbG kr kr kr (by intro x;rfl) (fun _ _=>⟨⟨rfl,rfl,Znp⟩,tv⟩) .t .t ow (by rw [hw];omega) (by rw [hw];omega) (by rw [hw];omega) (by rw [hw];omega)) ⟨rfl,rfl,tv⟩ ⟨rfl,tv⟩ (qO rr qZ)))))))))) J [9,8,7,6,2,1,0] [101,1,0] (fun _=>rfl) (fun _=>rfl) fun τ a w F G=>?_)
  try dsimp only [RS.sub,SF.sub,CF.sub,csub,Anc.sub,List.map,xC,xN,Zk] at G
  generalize τ 40=v40 at G
  rw [hw] at G
  simp only [Yb] at G
  obtain ⟨l2,hl2⟩:∃ y,y=l.take i++List.replicate (l.length+1 - i) (0:Int):=⟨_,rfl⟩
  rw [← hl2] at G
  have hl2n:l2.length=l.length+1:=by rw [hl2,Yc,Ym,YV];omega
  obtain ⟨F,G⟩:=G.give 1 0 V rfl
  obtain ⟨F,G⟩:=G.nM [9,8,7,6,2,1,0] [101,0]
  refine Za (Ya (Zb G (qR rr (qR rr (qf (Zal (sz:=1) 101 (.mk YbA kr) .is .t ow ow) r2 r1 (qR rr (qf (o_copy_sub 101 YbA kr (by intro x;rfl) .t .t (by simp) (by simp;omega)) r2 r1 qZ))))) J [9,8,7,6,2,1,0] [101,0] V V fun a w F G=>?_))
  simp only [Yb] at G
  obtain ⟨l3,hl3⟩:∃ y,y=l2.take i ++ [x] ++ l2.drop (i + [x].length):=⟨_,rfl⟩
  rw [← hl3] at G
  have hl3n:l3.length=l.length+1:=by rw [hl3,Yc,Yc,Ym,YJ,hl2n];simp;omega
  refine Za (Ya (Zp G (qR rr (qR rr (qR rr (qf (o_add .t .t) r2 qz (qf (Zal (sz:=1) 101 (.mk YbA kr) .is .t (by rw [hw1];omega) (by rw [hw1];omega)) r2 r1 (qR rr (qR rr (qf (o_slice_lo (sz:=1) (.mk YbA kr) (by intro x;rfl) .t .t ow ow) r2 qz (qf (o_copy_sub 101 YbA kr (by intro x;rfl) .t .t (by intro h9;have:=YaG List.length h9;simp at this;omega) (by rw [hw1,YJ];omega)) r2 r1 qZ))))))))) J [9,8,7,6,2,1,0] [101,0] V V fun a w F G=>?_))
  try dsimp only [Zk] at G
  rw [hw1] at G
  simp only [Yb] at G
  have hg:=Zin (x:=x) hil hl2 hl3
  refine Za (Ya (rZ G (qR rr (qO rr qZ)) J [8,7,6,2,1,0] [101,0] fun G=>(Yl (Zw ?_))))
  obtain ⟨F,G⟩:=G.rename 101 1 V rfl
  have G:=G.turn 1 V (r':=RS.hp (Zo 3 1 Zk (l.take i ++ [x] ++ l.drop i) v40)) (fun _ _ _ _ h=>by rw [hg];exact h)
  refine ZU (h':=fun v=>Zo 3 1 Zk (l.take i ++ [x] ++ l.drop i) v) hG G V (.tmp V .nil) (.one .one) rfl
 have hcap:l.length+1≤capV v:=by rw [hwn] at hc2;simp at hc2;omega
 refine Yg (Za (Ya (Ze G (qR rr (qR rr (qR rr (qf (o_add .t .t) r2 qz (qf (ZeK (sz:=1) 1 (.mk YbA kr) .is .t (by rw [hwn];omega) ow) r2 r1 (qO rr qZ)))))) J [8,7,6,2,1,0] [1,0] (fun _=>rfl) (fun _=>rfl) fun τ a w F G=>?_)))
 try dsimp only [RS.sub,SF.sub,CF.sub,csub,Anc.sub,List.map,Zk] at G
 generalize τ 60=v60 at G
 refine Za (Ya (Ya (rZ G (qR rr (qR rr (qR rr (qR rr (qf (o_add .t .t) r2 qz (qf (ZaI (sz:=1) 1 (.mk YbA kr) .is .t (by rw [hw1];omega) (by rw [hw1];omega)) r2 r1 (qf (ZeY 1 func105 kr kr kr V YbA kr (by intro x;rfl) .t .t (by rw [hw1];omega)) r2 r1 (qf (o_not .t) r1 qz qZ)))))))) J [68,8,7,6,2,1,0] [1,0] fun G=>?_)))
 refine Zc G V (fun hc3=>?_) (fun hc3=>?_)
 ·refine Ya (Zp G (qR rr (qR rr (qR rr (qf (o_add .t .t) r2 qz (qf (ZaI (sz:=1) 1 (.mk YbA kr) .is .t (by rw [hw1];omega) (by rw [hw1];omega)) r2 r1 (qR rr (qR rr (qf (ZaI (sz:=1) 1 (.mk YbA kr) .is .t ow ow) r2 r1 (qf (Zc9 (k:=i) 1 YbA kr (by intro x;rfl) .t .t (by rw [hw1];rfl) V ow) r2 r1 qZ))))))))) J [8,7,6,2,1,0] [1,0] V V fun a w F G=>?_)
  try dsimp only [Zk] at G
  obtain ⟨l4,hl4⟩:∃ y,y=l.take (i+1)++l.drop i:=⟨_,rfl⟩
  rw [← hl4] at G
  have hl4n:l4.length=l.length+1:=by rw [hl4,Yc,Ym,YJ];omega
  refine Za (Ya (Zb G (qR rr (qR rr (qf (Zal (sz:=1) 1 (.mk YbA kr) .is .t ow ow) r2 r1 (qR rr (qf (o_copy_sub 1 YbA kr (by intro x;rfl) .t .t (by simp) (by simp;omega)) r2 r1 qZ))))) J [8,7,6,2,1,0] [1,0] V V fun a w F G=>?_))
  simp only [Yb] at G
  have hg:=ZfW (x:=x) hil hl4
  refine Za (Ya (rZ G (qR rr (qO rr qZ)) J [8,7,6,2,1,0] [1,0] fun G=>(Yl (Zw ?_))))
  have G:=G.turn 1 V (r':=RS.hp (Zo 3 1 Zk (l.take i ++ [x] ++ l.drop i) v60)) (fun _ _ _ _ h=>by rw [hg];exact h)
  refine ZU (h':=fun v=>Zo 3 1 Zk (l.take i ++ [x] ++ l.drop i) v) hG G V (.tmp V .nil) (.one .one) rfl
 simp at hc3
def Zdd (x y:Int):Int:=if x<y then -1 else if y<x then 1 else 0
theorem ZlM {x y:Int} : Zdd x y<0 ↔ x<y:=by unfold Zdd;split <;> (try split) <;> omega
theorem Zn5 {x y:Int} : Zdd x y=0 ↔ x=y:=by unfold Zdd;split <;> (try split) <;> omega
theorem ZpF {x:Int} (h:0≤x∧x≤18446744073709551615):IntKind.wrap .u64 x=x:=ZdG ⟨by simp [IntKind.min,IntKind.signed,IntKind.bits];omega,by simp [IntKind.max,IntKind.signed,IntKind.bits];omega⟩
theorem Zk5 {i j:Nat} (h:i+j≤2000000):IntKind.wrap .i64 ((IntKind.wrap .u64 (IntKind.wrap .i64 ((i:Int)+(j:Int)))).fdiv (2 ^ min (1:Int).toNat (IntKind.bits .u64)))=(((i+j) / 2:Nat):Int):=by
 rw [Zr (x:=(i:Int)+(j:Int)) ow,ZpF ow,show (2:Int) ^ min (1:Int).toNat (IntKind.bits .u64)=2 by decide,Yaj _ (by decide),Zr ow]
 omega
def Zj5 {α:Type} [Inhabited α] (κ:α→Int) (l:List α):Prop:=∀ a b,a<b→b<l.length→κ (Nn l a)<κ (Nn l b)
def lowK {α:Type} (κ:α→Int) (k:Int) (l:List α):Nat:=(l.takeWhile fun x=>decide (κ x<k)).length
def isK {α:Type} (κ:α→Int) (k:Int) (l:List α):Bool:=l.any fun x=>decide (κ x=k)
theorem ZhO {α:Type} [Inhabited α] {κ:α→Int} {k:Int} : ∀ {l:List α} {i:Nat},i≤l.length→(∀ q,q<i→κ (Nn l q)<k)→(∀ q,i≤q→q<l.length→k≤κ (Nn l q))→lowK κ k l=i
 | [],i,hi,_,_=>by simp at hi;subst hi;rfl
 | x :: l,0,_,_,h2=>by
  have:=h2 0 (YT _) (by simp)
  rw [nth_eq (by simp)] at this
  unfold lowK
  rw [List.takeWhile_cons_of_neg (by simpa using this)];rfl
 | x :: l,i+1,hi,h1,h2=>by
  have hx:=h1 0 ow
  rw [nth_eq (by simp)] at hx
  have ih:=ZhO (κ:=κ) (k:=k) (l:=l) (i:=i) (by simpa using hi) (fun q hq=>by
   have:=h1 (q+1) ow
   rw [nth_eq (by simp at hi ⊢;omega)] at this
   rw [nth_eq (by simp at hi;omega)];simpa using this) (fun q hq hq2=>by
   have:=h2 (q+1) ow (by simp;omega)
   rw [nth_eq (by simp;omega)] at this
   rw [nth_eq hq2];simpa using this)
  unfold lowK at ih ⊢
  rw [Ya2 (by simpa using hx),Yx,ih]
theorem ZoS {α:Type} [Inhabited α] {κ:α→Int} {k:Int} {l:List α} {i:Nat} (hi:i≤l.length) (hs:Zj5 κ l) (h1:∀ q,q<i→κ (Nn l q)<k) (h2:∀ q,i≤q→q<l.length→k≤κ (Nn l q)):isK κ k l=true ↔ i<l.length∧κ (Nn l i)=k:=by
 unfold isK
 rw [List.any_eq_true]
 constructor
 ·rintro ⟨x,hx,hk⟩
  obtain ⟨q,hq,e⟩:=Ybg hx
  have hk':κ (Nn l q)=k:=by rw [nth_eq hq,e];simpa using hk
  have hiq:i≤q:=Nat.le_of_not_lt fun h=>by have:=h1 q h;omega
  rcases YaU hiq with h | h
  ·have a1:=hs i q h hq
   have a2:=h2 i (YT _) ow
   omega
  ·subst h;exact ⟨hq,hk'⟩
 ·rintro ⟨h3,h4⟩
  exact ⟨_,nth_mem h3,by simpa using h4⟩
theorem ZfN {α:Type} [Inhabited α] {κ:α→Int} {l:List α} (hs:Zj5 κ l) {a b:Nat} (h:a≤b) (hb:b<l.length):κ (Nn l a)≤κ (Nn l b):=by
 rcases YaU h with h | h
 ·exact Ybx (hs a b h hb)
 ·subst h;exact Yak _
theorem ZiT (x:Int):FnP prog 108 [.int .i64 x] (.bool false):=by
 refine FnP.mk func108 V ntmps108 V fun B a w F J hfr G=>Ya ?_
 refine rZ G qB J [2,0] [0] fun G=>Ya ?_
 refine rZ G (qR rr (qR rr (qf (o_neq .t .t) r2 qz (qO rr qZ)))) J [2] [0] fun G=>Yl ?_
 refine Zz hfr G V V V (.bool (by simp))
theorem Zit (x:Int):FnP prog 104 [.int .i64 x] (.bool false):=by
 refine FnP.mk func104 V ntmps104 V fun B a w F J hfr G=>Ya ?_
 refine rZ G qB J [2,0] [0] fun G=>Ya ?_
 refine rZ G (qR rr (qR rr (qf (o_neq .t .t) r2 qz (qO rr qZ)))) J [2] [0] fun G=>Yl ?_
 refine Zz hfr G V V V (.bool (by simp))
theorem ZnL (x y:Int):FnP prog 97 [.int .i64 x,.int .i64 y] (.bool (decide (x<y))):=by
 refine FnP.mk func97 V ntmps97 V fun B a w F J hfr G=>Ya ?_
 refine rZ G qB J [4,1,0] [0] fun G=>Ya ?_
 refine rZ G (qR rr (qf (oP (ZiT x) func108 (Args.one .t)) r1 qz (qR rr (qm V V V V (qk V (fun h=>oP (ZiT y) func108 (Args.one (.w h))) r2 qz (qk V (fun h=>o_not (.w h)) r2 qz (qf (ZF .t .t) r2 qz (qR rr (qm V V V V (qm V V V V (qk V (fun h=>Zbg (.w h) (.w h)) r3 qz (qf (Zaa .t .t) r2 qz (qO rr qZ))))))))))))) J [4] [0] fun G=>Yl ?_
 refine Zz hfr G V V V (.bool (by simp))
theorem ZpC (l:List Int) (k:Int) (hll:l.length≤1000000) (hs:Zj5 (fun x:Int=>x) l):FnP prog 77 [.sl Zk l,.int .i64 k] (.tup [.int .i64 (lowK (fun x:Int=>x) k l),.any]):=by
 refine FnP.mk func77 V ntmps77 V fun B a w F J hfr G=>Ya ?_
 refine rZ G (qI qB) J [5,4,1,0] [0] fun G=>Ya ?_
 refine rZ G (qR rr (qu YbA r1 (qO rr qZ))) J [6,5,4,1,0] [0] fun G=>Ya ?_
 refine rZ G (qR rr (qI (qO rr qZ))) J [8,7,6,5,4,1,0] [0] fun G=>(Ya (Yk ?_))
 refine Zl (σ:=Nat×Nat) [0,1,4,5,6] [0] (fun s=>[(7,.pv (.int .i64 (s.1:Int))),(8,.pv (.int .i64 (s.2:Int)))]) (fun s=>[]) (fun s=>s.1≤s.2∧s.2≤l.length∧(∀ q,q<s.1→Nn l q<k) ∧ ∀ q,s.2≤q→q<l.length→k≤Nn l q) (fun s=>s.2 - s.1) ((0),(l.length)) G ⟨rfl,rfl,rfl,rfl,rfl,rfl,rfl,tv⟩ ⟨rfl,tv⟩ ⟨YA _,YT _,fun q hq=>absurd hq (YaH q),fun q h1 h2=>by omega⟩ ?_
 clear G;intro s a w F hC G
 obtain ⟨i,j⟩:=s
 try dsimp only at hC
 obtain ⟨F,G⟩:=G.nM [8,7,6,5,4,1,0] [0]
 try dsimp only at G
 obtain ⟨hij,hjl,hlo,hhi⟩:=hC
 have hgl:=ZhO (κ:=fun x:Int=>x) (i:=i) ow hlo
 refine Ya (Ya (rZ G (qR rr (qR rr (qL r2))) J [15,8,7,6,5,4,1,0] [0] fun G=>?_))
 refine Zc G V (fun hc0=>?_) (fun hc0=>?_)
 ·have hlt:i<j:=by simp at hc0;omega
  refine Yg (Za (Yk (Ya (Zb G (qR rr (qR rr (qf (o_add .t .t) r2 qz (qf (o_conv YbF kr .t) r1 qz (qf (Zb4 .t qi (by decide)) r1 qz (qf (o_conv YbG kr .t) r1 qz (qO rr qZ))))))) J [9,8,7,6,5,4,1,0] [0] V V fun a w F G=>?_))))
  obtain ⟨m,hm⟩:∃ m:Nat,m=(i+j) / 2:=⟨_,rfl⟩
  replace G:=G.ent (i:=9) (s':=.pv (.int .i64 (m:Int))) V (.int (by rw [hm];exact Zk5 ow))
  obtain ⟨F,G⟩:=G.nM [9,8,7,6,5,4,1,0] [0]
  refine Za (Ya (Zb G (qR rr (qR rr (qy 1 YbA r2 (qf (oR false 1 .t) r1 qz (qR rr (qf (oP (ZnL (Nn l m) k) func97 (Args.two .t .t)) r2 qz qZ)))))) J [27,9,8,7,6,5,4,1,0] [0] V V fun a w F G=>?_))
  try simp only [Yb] at G
  refine Za (Zc G V (fun hc1=>?_) (fun hc1=>?_))
  ·have hmk:(Nn l m)<k:=by simpa using hc1
   obtain ⟨i2,hi2e⟩:∃ z,z=m+1:=⟨_,rfl⟩
   obtain ⟨j2,hj2e⟩:∃ z,z=j:=⟨_,rfl⟩
   have hi2:IntKind.wrap .i64 ((m:Int)+1)=(i2:Int):=by rw [hi2e];exact Zf ow
   have hj2:(j:Int)=(j2:Int):=by rw [hj2e]
   have hmu:j2 - i2<j - i:=by omega
   have hC2:i2≤j2∧j2≤l.length∧(∀ q,q<i2→Nn l q<k) ∧ ∀ q,j2≤q→q<l.length→k≤Nn l q:=⟨by omega,by omega,fun q hq=>Int.lt_of_le_of_lt (ZfN (κ:=fun x:Int=>x) hs ow ow) hmk,by rw [hj2e];exact hhi⟩
   refine Zb G (qR rr (qp r1 (qO rr qZ))) J [8,7,6,5,4,1,0] [0] V V fun a w F G=>Zi (Za ?_)
   replace G:=G.ent (i:=7) (s':=.pv (.int .i64 (i2:Int))) V (.int hi2)
   replace G:=G.ent (i:=8) (s':=.pv (.int .i64 (j2:Int))) V (.int hj2)
   obtain ⟨F,G⟩:=G.nM [6,5,4,1,0,8,7] [0]
   exact ⟨((i2),(j2)),F,hC2,G,hmu⟩
  have hmk:k≤(Nn l m):=Int.not_lt.1 (show ¬ (Nn l m)<k by simpa using hc1)
  obtain ⟨i2,hi2e⟩:∃ z,z=i:=⟨_,rfl⟩
  obtain ⟨j2,hj2e⟩:∃ z,z=m:=⟨_,rfl⟩
  have hi2:(i:Int)=(i2:Int):=by rw [hi2e]
  have hj2:(m:Int)=(j2:Int):=by rw [hj2e]
  have hmu:j2 - i2<j - i:=by omega
  have hC2:i2≤j2∧j2≤l.length∧(∀ q,q<i2→Nn l q<k) ∧ ∀ q,j2≤q→q<l.length→k≤Nn l q:=⟨by omega,by omega,by rw [hi2e];exact hlo,fun q h1 h2=>Int.le_trans hmk (ZfN (κ:=fun x:Int=>x) hs ow h2)⟩
  refine Zb G (qR rr (qO rr qZ)) J [8,7,6,5,4,1,0] [0] V V fun a w F G=>Zi (Za ?_)
  replace G:=G.ent (i:=7) (s':=.pv (.int .i64 (i2:Int))) V (.int hi2)
  replace G:=G.ent (i:=8) (s':=.pv (.int .i64 (j2:Int))) V (.int hj2)
  obtain ⟨F,G⟩:=G.nM [6,5,4,1,0,8,7] [0]
  exact ⟨((i2),(j2)),F,hC2,G,hmu⟩
 have hjj:i=j:=by simp at hc0;omega
 subst hjj
 have hgl2:=hgl hhi
 refine YI (Zm (Zm (Zu (Za (Ya (Zb G (qR rr (qR rr (qR rr (qf (Zbg .t .t) r2 qz (qR rr (qm V V V V (qm V V V V (qk V (fun h=>o_indexAddr_sl (sz:=1) (.mk YbA kr) (by intro x;rfl) (.w h) (.w h) ow (by have:=Yr h;omega)) r3 qz (qk V (fun h=>oR false 1 (.w h)) r2 qz (qm V V V V (qk V (fun h=>o_eql (.w h) (.w h)) r3 qz (qk V (fun h=>oM (.w h)) r2 qz (Chain.cons (Cert.cond2 V V (fun h=>ZW .t (by rfl))) r2 qz (Chain.cons (Cert.cond2 V V (fun h=>ZW .t (by rfl))) r2 qz (Chain.cons (Cert.cond2 V V (fun h=>o_indexAddr_sl (sz:=1) (.mk YbA kr) (by intro x;rfl) (.w h) (.w h) ow (by have:=Yr h.1;omega))) r3 qz (Chain.cons (Cert.cond2 V V (fun h=>Zc5 (ag:=false) (sz:=1) (.w h) kr kr kr)) r2 qz (Chain.cons (Cert.cond2 V V (fun h=>Zed (Zit _) func104 V kr (Args.one (.w h)))) r2 qz (Chain.cons (Cert.cond2 V V (fun h=>ZW (.w h) (by rfl))) r2 qz (Chain.cons (Cert.cond2 V V (fun h=>ZW .t (by rfl))) r2 qz (Chain.cons (Cert.cond2 V V (fun h=>Zed (Zit _) func104 V kr (Args.one (.w h)))) r2 qz (Chain.cons (Cert.cond2 V V (fun h=>ZF (.w h) (.wc h))) r3 qz (qk V (fun h=>Zaa (.w h) (.wc h)) r3 qz (qf (ZF .t .t) r2 qz (qO rr (qO rr qZ))))))))))))))))))))))))) J [5,4] [0] V V fun a w F G=>?_))))))
 try dsimp only [List.map,xD,xE,xT,xU,ldSF,Zk] at G
 try simp only [Yb] at G
 refine Za (Yl (Zdj hfr G V (.tmp V (.tmp V .nil)) (.two (.int (by rw [hgl2])) .any)))
abbrev clF (n:Nat) (q:List PairD):PV:=.ref [.any,.any,.sl (ZjY n) (rowsQ q n),.any]
abbrev coF (n:Nat) (q:List PairD):PV:=.ref [clF n q,.sl (ZjY n) (nextsQ q n),.any,.any,.any]
theorem ZaZ {v:Value} {n:Nat} {q:List PairD} {last:List Int} : Zlr (clH v n q last) v (clF n q):=by
 intro w f y y' h hle hf hb
 obtain ⟨s,hk,f1,g1,e1,d1,_,⟨b,vs,k1,k2,k3,k4⟩,f2,g2,e2,d2,_,_,f3,g3,e3,d3,_,_,f4,g4,e4,d4,_,⟨xs,m1,m2,m3⟩,f5,g5,e5,d5,_,_,f6,g6,e6,d6,_,hfam,_⟩:=h
 have up4:∀ x,f4 x→f x:=fun x hx=>(e1 x).2 (.inr ((e2 x).2 (.inr ((e3 x).2 (.inr ((e4 x).2 (.inl hx)))))))
 have up6:∀ x,f6 x→f x:=fun x hx=>(e1 x).2 (.inr ((e2 x).2 (.inr ((e3 x).2 (.inr ((e4 x).2 (.inr ((e5 x).2 (.inr ((e6 x).2 (.inl hx)))))))))))
 have hb1:f b:=(e1 b).2 (.inl ((k3 b).2 rfl))
 refine ⟨b,0,vs.toList,k1,hf b hb1,hb b hb1,Zn.mk fun j u hj=>?_,?_⟩
 ·simp only [YG]
  simp [World.cell?,k2]
  simpa using hj
 ·generalize vs.toList=us at k4
  match us,k4 with
  | [u1,u2,u3,u4],k4=>
   refine ⟨⟨k4.1.1,tv⟩,⟨k4.2.1.1,tv⟩,⟨k4.2.2.1.1,?_⟩,⟨k4.2.2.2.1.1,tv⟩,tv⟩
   have e:u3=s.rv:=k4.2.2.1.2.1
   rw [e]
   obtain ⟨ad,cap,e8,h8,h9,h10⟩:=Zs m1
   rw [hk.rl] at e8 h8
   refine ⟨ad,cap,by rw [rowsQ_len];exact e8,by rw [rowsQ_len];exact h8,h9,?_⟩
   rcases h10 with h10 | ⟨b',rfl,h11,h12⟩
   ·exact .inl (YC (by rw [rowsQ_len,← hk.rl];exact h10))
   ·have hb':f b':=up4 b' ((m3 b').2 h11)
    refine .inr ⟨b',0,xs,rfl,hf b' hb',hb b' hb',h12,?_⟩
    have e2:rowsQ q n=(famL s.rs fun k=>reachQ q (k:Int)).map (·.2):=by rw [Zds,hk.rl];rfl
    rw [e2]
    refine Zb9 (y:=y) (by rw [Zdo];exact m2) fun p hp=>?_
    obtain ⟨g,g1',g2'⟩:=ZK (show stars w y ((famL s.rs fun k=>reachQ q (k:Int)).map fun x=>RS.hp (Z5 n x)) f6 from hfam) (RS.hp (Z5 n p)) (YD.2 ⟨p,hp,rfl⟩)
    exact setH_lend w g y y' g2' hle (fun x hx=>hf x (up6 x (g1' x hx))) (fun x hx=>hb x (up6 x (g1' x hx)))
abbrev Znz (a1 a2 a3 a4:Nat) (v:Value) (n:Nat) (q:List PairD) (av nv mv sv dv:Value) (ns:List Value) (last:List Int):List (Nat×RS):=[(a1,.pt (.val v) 56 [.pv (.is av),.pv (.is nv),.pv (.is mv),.pv (.is sv),.pv (.is dv)]),(a2,RS.hp (clH av n q last)),(a3,.ob (.val nv) (Zo 51 1 rV ns)),(a4,Zaw (Z5 n) (famL ns fun k=>nextQ q n (k:Int)))]
theorem ZnG {a1 a2 a3 a4 n:Nat} {v:Value} {q:List PairD} {av nv mv sv dv:Value} {ns:List Value} {last:List Int} (hnl:ns.length=n):∀ (τ:Tau) (w:World) (F:Fp) (y':Ys),(∀ x ∈ Znz a1 a2 a3 a4 v n q av nv mv sv dv ns last,x.2.holds τ w (F x.1) (U F))→(∀ b,y' b→U F b)→(∀ x ∈ Znz a1 a2 a3 a4 v n q av nv mv sv dv ns last,∀ b,F x.1 b→¬ y' b)→(∀ x ∈ Znz a1 a2 a3 a4 v n q av nv mv sv dv ns last,∀ b,F x.1 b→b<w.heap.size)→(coF n q).p v w y':=by
 intro τ w F y' hh hle hf hb
 obtain ⟨b,vs,k1,k2,k3,k4⟩:=hh _ (Y0 ..)
 have hcl:(clH av n q last).p w (F a2) (U F):=hh (a2,RS.hp (clH av n q last)) (by simp)
 have hrow:(Zo 51 1 rV ns nv).p w (F a3) (U F):=hh (a3,.ob (.val nv) (Zo 51 1 rV ns)) (by simp)
 have hfam:stars w (U F) ((famL ns fun k=>nextQ q n (k:Int)).map fun x=>RS.hp (Z5 n x)) (F a4):=hh (a4,Zaw (Z5 n) (famL ns fun k=>nextQ q n (k:Int))) (by simp)
 have i2:((a2,RS.hp (clH av n q last)):Nat×RS) ∈ Znz a1 a2 a3 a4 v n q av nv mv sv dv ns last:=by simp
 have i3:((a3,RS.ob (.val nv) (Zo 51 1 rV ns)):Nat×RS) ∈ Znz a1 a2 a3 a4 v n q av nv mv sv dv ns last:=by simp
 have i4:((a4,Zaw (Z5 n) (famL ns fun k=>nextQ q n (k:Int))):Nat×RS) ∈ Znz a1 a2 a3 a4 v n q av nv mv sv dv ns last:=by simp
 have hb1:F a1 b:=(k3 b).2 rfl
 refine ⟨b,0,vs.toList,k1,hf _ (Y0 ..) b hb1,hb _ (Y0 ..) b hb1,Zn.mk fun j u hj=>?_,?_⟩
 ·simp only [YG]
  simp [World.cell?,k2]
  simpa using hj
 ·generalize vs.toList=us at k4
  match us,k4 with
  | [u1,u2,u3,u4,u5],k4=>
   refine ⟨⟨k4.1.1,?_⟩,⟨k4.2.1.1,?_⟩,⟨k4.2.2.1.1,tv⟩,⟨k4.2.2.2.1.1,tv⟩,⟨k4.2.2.2.2.1.1,tv⟩,tv⟩
   ·have e:u1=av:=k4.1.2.1
    rw [e]
    exact ZaZ w (F a2) (U F) y' hcl hle (fun x hx=>hf _ i2 x hx) (fun x hx=>hb _ i2 x hx)
   ·have e:u2=nv:=k4.2.1.2.1
    rw [e]
    obtain ⟨xs,m1,m2,m3⟩:=hrow
    obtain ⟨ad,cap,e8,h8,h9,h10⟩:=Zs m1
    rw [hnl] at e8 h8
    refine ⟨ad,cap,by rw [nextsQ_len];exact e8,by rw [nextsQ_len];exact h8,h9,?_⟩
    rcases h10 with h10 | ⟨b',rfl,h11,h12⟩
    ·exact .inl (YC (by rw [nextsQ_len,← hnl];exact h10))
    ·have hb':F a3 b':=(m3 b').2 h11
     refine .inr ⟨b',0,xs,rfl,hf _ i3 b' hb',hb _ i3 b' hb',h12,?_⟩
     have e2:nextsQ q n=(famL ns fun k=>nextQ q n (k:Int)).map (·.2):=by rw [Zds,hnl];rfl
     rw [e2]
     refine Zb9 (y:=U F) (by rw [Zdo];exact m2) fun p hp=>?_
     obtain ⟨f1,g1,g2⟩:=ZK hfam (RS.hp (Z5 n p)) (YD.2 ⟨p,hp,rfl⟩)
     exact setH_lend w f1 (U F) y' g2 hle (fun b h=>hf _ i4 b (g1 b h)) (fun b h=>hb _ i4 b (g1 b h))
theorem ZkG {ls:List (Nat×RS)} {T m d:Nat} {l:List Int} : ∀ x ∈ [((m:Nat),RS.ob (.slot d) (fun v=>Zo T 1 Zk l v))],∀ (τ τ0:Tau) (w:World) (F:Fp) (w':World) (f y1 y':Ys),(∀ z ∈ ls,z.2.holds τ0 w (F z.1) (U F))→Ev w (U F) w' y' → x.2.holds τ w' f y1→x.2.holds τ w' f y':=by
 intro x hx τ τ0 w F w' f y1 y' _ _ hk
 simp only [Yd] at hx
 subst hx
 exact Zkp (show (Zo T 1 Zk l (τ d)).p w' f y1 from hk)
def memL (q:List PairD) (u:Int) (k:Nat):List Int:=((reachQ q u).take k).filter fun x=>!decide (x=u) && decide (u ∈ reachQ q x)
theorem ZgL {q:List PairD} {u:Int} {k:Nat} (h:k<(reachQ q u).length):memL q u (k+1)=memL q u k++(if ¬ Nn (reachQ q u) k=u∧u ∈ reachQ q (Nn (reachQ q u) k) then [Nn (reachQ q u) k] else []):=by
 unfold memL
 rw [ZE h,YaI]
 congr 1
 by_cases e:Nn (reachQ q u) k=u <;> by_cases e2:u ∈ reachQ q (Nn (reachQ q u) k) <;> simp [e,e2]
theorem Zfp (q:List PairD) (u:Int) (k:Nat):(memL q u k).length≤k:=by
 unfold memL
 exact YaN (YaQ _ _) (by rw [Ym];omega)
theorem ZmQ {l:List Int} (h:Zdf l):Zj5 (fun x:Int=>x) l:=fun a b hab hb=>by
 rw [nth_eq ow,nth_eq hb]
 exact Ya8.1 h a b ow hb hab
theorem Zie {n:Nat} {q:List PairD} (hq:InN n q) (u:Int) (k:Nat):Zdf (memL q u k):=((Zbx hq u).1.sublist (List.take_sublist _ _)).filter _
theorem Zf6 {k:Int} : ∀ {l:List Int},Zdf l→k ∉ l→(∀ x ∈ l.take (lowK (fun x:Int=>x) k l),x<k)∧(∀ x ∈ l.drop (lowK (fun x:Int=>x) k l),k<x)
 | [],_,_=>by simp
 | x :: l,h,hk=>by
  have h':=Yq.1 h
  have hx:x≠k:=fun e=>hk (by simp [e])
  have ih:=Zf6 (k:=k) h'.2 fun hm=>hk (by simp [hm])
  unfold lowK at ih ⊢
  by_cases e:x<k
  ·rw [Ya2 (by simpa using e),Yx,List.take_succ_cons,List.drop_succ_cons]
   exact ⟨fun y hy=>by rcases Yh.1 hy with rfl | hy;exact e;exact ih.1 y hy,ih.2⟩
  ·rw [List.takeWhile_cons_of_neg (by simpa using e)]
   refine ⟨fun y hy=>by simp at hy,fun y hy=>?_⟩
   rcases Yh.1 hy with rfl | hy
   ·omega
   ·have:=h'.1 y hy;omega
theorem Zo6 {k:Int} {l:List Int} : lowK (fun x:Int=>x) k l≤l.length:=by unfold lowK;exact (List.takeWhile_sublist _).length_le
theorem Zm5 {n:Nat} {q:List PairD} {u:Int} (hq:InN n q) (hu:There n u):(memL q u (reachQ q u).length).take (lowK (fun x:Int=>x) u (memL q u (reachQ q u).length)) ++ [u] ++ (memL q u (reachQ q u).length).drop (lowK (fun x:Int=>x) u (memL q u (reachQ q u).length))=compQ n q u:=by
 have hmem:∀ x,x ∈ memL q u (reachQ q u).length ↔ x≠u∧x ∈ reachQ q u∧u ∈ reachQ q x:=fun x=>by
  unfold memL
  rw [Yac,YH]
  by_cases e:x=u <;> simp [e]
 have hinc:=Zie hq u (reachQ q u).length
 generalize memL q u (reachQ q u).length=l at hmem hinc
 have hno:u ∉ l:=fun h=>((hmem u).1 h).1 rfl
 obtain ⟨h1,h2⟩:=Zf6 hinc hno
 generalize lowK (fun x:Int=>x) u l=i at h1 h2
 refine Zbm ?_ (Zdn n q u).1 fun x=>?_
 ·rw [Yav,Ybs]
  refine ⟨hinc.sublist (List.take_sublist _ _),?_,fun a ha b hb=>?_⟩
  ·exact Yq.2 ⟨fun b hb=>h2 b hb,hinc.sublist (List.drop_sublist _ _)⟩
  ·rcases Yu.1 hb with hb | hb
   ·rw [Yd] at hb;subst hb;exact h1 a ha
   ·have:=h1 a ha;have:=h2 b hb;omega
 ·rw [ZaQ]
  have hx:x ∈ l.take i ++ [u] ++ l.drop i ↔ x=u∨x ∈ l:=by
   conv=>rhs;rw [← YaC i l]
   simp only [Yu,Yd]
   constructor
   ·rintro ((h | h) | h)
    ·exact .inr (.inl h)
    ·exact .inl h
    ·exact .inr (.inr h)
   ·rintro (h | h | h)
    ·exact .inl (.inr h)
    ·exact .inl (.inl h)
    ·exact .inr h
  rw [hx,hmem]
  constructor
  ·rintro (rfl | ⟨h3,h4,h5⟩)
   ·exact ⟨hu,.inl rfl⟩
   ·exact ⟨(Zbx hq u).2 x h4,.inr ⟨h4,h5⟩⟩
  ·rintro ⟨_,h3 | ⟨h3,h4⟩⟩
   ·exact .inl h3
   ·by_cases e:x=u
    ·exact .inl e
    ·exact .inr ⟨e,h3,h4⟩
theorem ZoD {i:Int} : ZoO (.pv (.tup [.int .i64 i,.any])):=fun τ w y y' v ⟨vs,e,h⟩=>⟨vs,e,by
 match vs,h with
 | [a,b],h=>exact h⟩
def Zon (n:Nat) (q:List PairD) (u:Int):Int:=if There n u then Zj0 n q u else 0
theorem Zn8 (n:Nat) (q:List PairD) (u:Int):Up n (memB n q u):=by
 unfold memB
 split
 ·exact Zdn n q u
 ·exact Zlu
theorem ZbJ (n:Nat) (q:List PairD):FnP prog 22 [clF n q] (.int .i64 (n:Int)):=by
 refine FnP.mk func22 V ntmps22 V fun B a w F J hfr G=>Ya ?_
 refine rZ G (qI qZ) J [2,0] [0] fun G=>(Ya (Ya ?_))
 refine rZ G (qR rr (qf (Zab underlying24 .t) r1 qz qZ)) J [4,2,0] [0] fun G=>?_
 refine Zc G V (fun hc0=>?_) (fun hc0=>?_)
 ·simp at hc0
 refine Yg (Za (Ya (rZ G (qR rr (qf (o_nilCheck_ref .t) r1 qz (qf (oG 2 .t) r1 qz (qf (oR false 1 .t) r1 qz (qu YbB r1 (qO rr qZ)))))) J [2] [0] fun G=>Yl ?_)))
 refine Zz hfr G V V V (.int (by rw [rowsQ_len]))
theorem ZlJ (n:Nat) (q:List PairD) (u:Int):FnP prog 23 [clF n q,.int .i64 u] (.bool (decide (There n u))):=by
 refine FnP.mk func23 V ntmps23 V fun B a w F J hfr G=>Ya ?_
 refine rZ G qB J [4,1,0] [0] fun G=>Ya ?_
 refine rZ G (qR rr (qf (Zb6 .t qi) r1 qz (qR rr (qm V V V V (qm V V V V (qk V (fun h=>oP (ZbJ n q) func22 (Args.one (.w h))) r2 qz (qk V (fun h=>Zbg (.w h) (.w h)) r3 qz (qf (ZF .t .t) r2 qz (qO rr qZ))))))))) J [4] [0] fun G=>Yl ?_
 refine Zz hfr G V V V (.bool (by unfold There;by_cases h:0≤u <;> simp [h]))
theorem Zao (n:Nat) (q:List PairD) (u v:Int):FnP prog 20 [clF n q,.int .i64 u,.int .i64 v] (.bool (reachB n q u v)):=by
 refine FnP.mk func20 V ntmps20 V fun B a w F J hfr G=>Ya ?_
 refine rZ G qB J [6,2,1,0] [0] fun G=>Ya ?_
 refine Zb G (qR rr (qR rr (qf (oP (ZlJ n q u) func23 (Args.two .t .t)) r2 qz (qR rr (qm V V V V (qk V (fun h=>o_nilCheck_ref (.w h)) r2 qz (qk V (fun h=>oG 2 (.w h)) r2 qz (qk V (fun h=>oR false 1 (.w h)) r2 qz (qm V V V V (qk V (fun h=>o_indexAddr_sl (sz:=1) (.mk YbB kr) (by intro x;rfl) (.w h) (.w h) (by have h9:There n u:=Yr h;exact h9.1) (by have h9:There n u:=Yr h;rw [rowsQ_len];exact h9.2)) r3 qz (qk V (fun h=>oR false 1 (.w h)) r2 qz (qm V V V V (qk V (fun h=>oP (hasS_c n (Nn (rowsQ q n) u.toNat) v) func26 (Args.two (.w h) (.w h))) r3 qz (qf (ZF .t .t) r2 qz (qO rr qZ))))))))))))))) J [6] [0] V V fun a w F G=>?_
 try simp only [Yb] at G
 refine Za (Yl (Zz hfr G V V V (.bool (by unfold reachB;by_cases h9:There n u; (rw [show Nn (rowsQ q n) u.toNat=reachQ q u by rw [ZcB (by have:=h9.1;have:=h9.2;omega),Yad h9.1]];simp [h9]); (simp [h9])))))
theorem Zor (n:Nat) (q:List PairD) (u:Int):FnP prog 76 [clF n q,.int .i64 u] (.sl Zk (Zpg n q u)):=by
 refine FnP.mk func76 V ntmps76 V fun B a w F J hfr G=>Ya ?_
 refine rZ G (qC qZ) J [4,1,0] [0] fun G=>(Ya (Ya ?_))
 refine rZ G (qR rr (qR rr (qf (oP (ZlJ n q u) func23 (Args.two .t .t)) r2 qz (qf (o_not .t) r1 qz qZ)))) J [8,4,1,0] [0] fun G=>?_
 refine Zc G V (fun hc0=>?_) (fun hc0=>?_)
 ·have hg:[] = Zpg n q u:=by unfold Zpg;rw [Ye (by unfold There;simp at hc0;omega)]
  refine Ya (rZ G (qC qZ) J [4,1,0] [0] fun G=>(Yl (Zw ?_)))
  refine Zz hfr G V V V (.trans .nilSl (.sl hg))
 have hth:There n u:=by unfold There;simp at hc0;omega
 have hg:Nn (rowsQ q n) u.toNat=Zpg n q u:=by rw [Zki hth,ZcB (by have:=hth.1;have:=hth.2;omega),Yad hth.1]
 refine Yg (Za (Ya (Zb G (qR rr (qf (o_nilCheck_ref .t) r1 qz (qf (oG 2 .t) r1 qz (qf (oR false 1 .t) r1 qz (qR rr (qf (o_indexAddr_sl (sz:=1) (.mk YbB kr) (by intro x;rfl) .t .t (by exact hth.1) (by rw [rowsQ_len];exact hth.2)) r2 qz (qf (oR false 1 .t) r1 qz (qf (oP (list_c n (Nn (rowsQ q n) u.toNat)) func58 (Args.one .t)) r1 qz (qO rr qZ))))))))) J [4] [0] V V fun a w F G=>?_)))
 try simp only [Yb] at G
 refine Za (Yl (Zz hfr G V V V (.sl hg)))
theorem ZdD (n:Nat) (q:List PairD):FnP prog 56 [coF n q] (.int .i64 (n:Int)):=by
 refine FnP.mk func56 V ntmps56 V fun B a w F J hfr G=>Ya ?_
 refine rZ G (qI qZ) J [2,0] [0] fun G=>(Ya (Ya ?_))
 refine rZ G (qR rr (qf (Zab YbO .t) r1 qz qZ)) J [4,2,0] [0] fun G=>?_
 refine Zc G V (fun hc0=>?_) (fun hc0=>?_)
 ·simp at hc0
 refine Yg (Za (Ya (rZ G (qR rr (qf (o_nilCheck_ref .t) r1 qz (qf (oG 0 .t) r1 qz (qf (oR false 1 .t) r1 qz (qf (oP (ZbJ n q) func22 (Args.one .t)) r1 qz (qO rr qZ)))))) J [2] [0] fun G=>Yl ?_)))
 refine Zz hfr G V V V .refl
theorem Zgl (n:Nat) (q:List PairD) (u:Int) (hn:n≤4096) (hinn:InN n q) (hql:q.length≤1000000):FnG prog 51 1 [coF n q,.int .i64 u] [HP.star []] (PV.one) (fun v=>[Zo 3 1 Zk (memB n q u) v]):=by
 refine FnG.mk func51 V ntmps51 V kr fun B F0 a w F J hG G=>?_
 obtain ⟨F,G⟩:=G.nM [1,0] [0]
 refine Ya (rZ G (qC qZ) J [4,1,0] [0] fun G=>(Ya (Ya ?_)))
 refine rZ G (qR rr (qf (Zbg .t qi) r1 qz (qR rr (qm V V V V (qm V V V V (qk V (fun h=>oP (ZdD n q) func56 (Args.one (.w h))) r2 qz (qk V (fun h=>Zb6 (.w h) (.w h)) r3 qz (qf (Zaa .t .t) r2 qz qZ)))))))) J [17,4,1,0] [0] fun G=>?_
 refine Zc G V (fun hc0=>?_) (fun hc0=>?_)
 ·have hg:memB n q u = []:=by unfold memB;rw [Ye (by unfold There;simp at hc0;omega)]
  refine Ya (rZ G (qC qZ) J [4,1,0] [0] fun G=>(Yl (Zw ?_)))
  have G:=G.fresh 1 rfl
  have G:=G.turn 1 V (Z1 (T:=3) (sz:=1) (R:=Zk))
  have G:=G.turn 1 V (r':=RS.hp (Zo 3 1 Zk (memB n q u) (.slice none 0 0))) (fun _ _ _ _ h=>by rw [hg];exact h)
  refine ZU (h':=fun v=>Zo 3 1 Zk (memB n q u) v) hG G V (.tmp V .nil) (.one .one) rfl
 have hth:There n u:=by unfold There;simp at hc0;omega
 have hrl:=ZjV q u
 refine Yg (Za (Ya (rZ G (qC qZ) J [5,4,1,0] [0] fun G=>(Ya (Ya ?_)))))
 refine Zb G (qR rr (qf (o_nilCheck_ref .t) r1 qz (qf (oG 0 .t) r1 qz (qf (oR false 1 .t) r1 qz (qR rr (qf (oP (Zor n q u) func76 (Args.two .t .t)) r2 qz (qu YbA r1 (qJ qZ)))))))) J [25,24,23,5,4,1,0] [0] V V fun a w F G=>?_
 rw [Zki hth] at G
 refine Za (Yk ?_)
 replace G:=G.fresh 50 rfl
 replace G:=G.turn 50 V (Z1 (T:=3) (sz:=1) (R:=Zk))
 refine Zl (σ:=(Nat)×(Value)×(List Int)) [0,1,4,23,24] [0] (fun s=>[(25,.pv (.int .i64 (s.1:Int))),(5,.pv (.is s.2.1))]) (fun s=>[(50,.ob (.val s.2.1) (Zo 3 1 Zk s.2.2))]) (fun s=>s.1≤(reachQ q u).length∧(s.2.2=memL q u s.1)) (fun s=>(reachQ q u).length - s.1) ((0),(.slice none 0 0),([])) G ⟨rfl,rfl,rfl,rfl,rfl,rfl,rfl,tv⟩ ⟨rfl,rfl,tv⟩ ⟨YA _,rfl⟩ ?_
 clear G;intro s a w F hC G
 obtain ⟨i,v,out⟩:=s
 try dsimp only at hC
 obtain ⟨F,G⟩:=G.nM [25,24,23,5,4,1,0] [50,0]
 try dsimp only at G
 obtain ⟨hi,hq⟩:=hC
 have hol:out.length≤i:=by rw [hq];exact Zfp _ _ _
 refine Ya (rZ G (qL r2) J [26,25,24,23,5,4,1,0] [50,0] fun G=>Ya ?_)
 refine Zc G V (fun hc1=>?_) (fun hc1=>?_)
 ·have hil:i<(reachQ q u).length:=by simp at hc1;omega
  refine Yg (Za (Ya (Yk (Ya (Zb G (qy 1 YbA r2 (qf (oR false 1 .t) r1 qz (qO rr qZ))) J [25,24,23,7,5,4,1,0] [50,0] V V fun a w F G=>?_)))))
  try simp only [Yb] at G
  refine Za (Ya (rZ G (qR rr (qR rr (qf (o_neq .t .t) r2 qz (qR rr (qm V V V V (qk V (fun h=>o_nilCheck_ref (.w h)) r2 qz (qk V (fun h=>oG 0 (.w h)) r2 qz (qk V (fun h=>oR false 1 (.w h)) r2 qz (qm V V V V (qm V V V V (qk V (fun h=>oP (Zao n q (Nn (reachQ q u) i) u) func20 (Args.three (.w h) (.w h) (.w h))) r4 qz (qf (ZF .t .t) r2 qz qZ)))))))))))) J [40,25,24,23,7,5,4,1,0] [50,0] fun G=>?_))
  refine Zc G V (fun hc2=>?_) (fun hc2=>?_)
  ·have hBq:(¬ (Nn (reachQ q u) i)=u∧u ∈ reachQ q (Nn (reachQ q u) i))=True:=eq_true (by unfold reachB at hc2;simp at hc2;exact ⟨hc2.1,hc2.2.2⟩)
   refine Ze G (qR rr (qR rr (qf (o_buildSliceE (sz:=1) (zs:=[.int .i64 0]) (r:=[(0,.tmp 42)]) (l:=[_]) YbA kr kr kr kr V V (.one V .t one_int kr .nil) V) r1 qz (qf (ZB (sz:=1) (bs:=8) 50 (.mk' YbA kr kr) (by intro x;rfl) .is (.arr (l':=[(Nn (reachQ q u) i)]) .t) (by simp only [Yc,Yx,YS];omega) (by decide)) ⟨rfl,rfl,tv⟩ ⟨rfl,tv⟩ (qO rr qZ))))) J [25,24,23,5,4,1,0] [50,0] (fun _=>rfl) (fun _=>rfl) fun τ a w F G=>?_
   try dsimp only [RS.sub,SF.sub,CF.sub,csub,Anc.sub,List.map,Zh,xL,xM,Nat.reduceAdd,xD,xE,xT,xU,xC,xN,zCF,ZjY,Zk] at G
   generalize τ 44=v44 at G
   refine Zi (Za (rZ G (qp r1 (qR rr qZ)) J [25,24,23,5,4,1,0] [50,0] fun G=>?_))
   replace G:=G.ent (i:=25) (s':=.pv (.int .i64 ((i+1:Nat):Int))) V (.int (Zf ow))
   obtain ⟨F,G⟩:=G.nM [24,23,4,1,0,5,25] [0,50]
   exact ⟨((i+1),_,_),F,⟨by omega,(by rw [ZgL hil,← hq];simp [hBq])⟩,G,by omega⟩
  have hBq:(¬ (Nn (reachQ q u) i)=u∧u ∈ reachQ q (Nn (reachQ q u) i))=False:=eq_false (by rintro ⟨h8,h9⟩;have hx:=(Zbx hinn u).2 _ (nth_mem hil);unfold reachB at hc2;simp [h8,h9,hx,There] at hc2;try omega)
  refine Yg (Zi (Za (rZ G (qp r1 (qR rr qZ)) J [25,24,23,5,4,1,0] [50,0] fun G=>?_)))
  replace G:=G.ent (i:=25) (s':=.pv (.int .i64 ((i+1:Nat):Int))) V (.int (Zf ow))
  obtain ⟨F,G⟩:=G.nM [24,23,4,1,0,5,25] [0,50]
  exact ⟨((i+1),_,_),F,⟨by omega,(by rw [ZgL hil,← hq];simp [hBq])⟩,G,by omega⟩
 have hil:i=(reachQ q u).length:=by simp at hc1;omega
 have hol9:out=(memL q u (reachQ q u).length):=by rw [hq,hil]
 rw [hol9] at G
 refine YI (Zm (Zm (Zu (Za (Ya (rZ G (qR rr (qR rr (qf (OpC.lendRow 50 [47] (oP (ZpC (memL q u (reachQ q u).length) u (by have:=Zfp q u (reachQ q u).length;omega) (ZmQ (Zie hinn u _))) func77 (Args.two .t .t)) ⟨rfl,tv,tv⟩ ZoD trivial (by rfl)) r2 r1 (qR rr (qf (o_extract .t V) r1 qz (qf (o_extract .t V) r1 qz (qO rr (qO rr qZ)))))))) J [8,5,4,1] [50,0] fun G=>Ya ?_))))))
 refine Ze G (qR rr (qR rr (qR rr (qf (o_buildSliceE (sz:=1) (zs:=[.int .i64 0]) (r:=[(0,.tmp 54)]) (l:=[_]) YbA kr kr kr kr V V (.one V .t one_int kr .nil) V) r1 qz (qf (o_callRowN 50 (Zph v (memL q u (reachQ q u).length) (lowK (fun x:Int=>x) u (memL q u (reachQ q u).length)) u (by have:=Zfp q u (reachQ q u).length;omega) Zo6) func78 V kr (Args.three .t .t (.conv .t (Ent.arrSl (R:=Zk) (l:=[u]) V))) pvOne1) r3 r1 (qO rr qZ)))))) J [4] [50,0] (fun _=>rfl) (fun _=>rfl) fun τ a w F G=>?_
 try dsimp only [RS.sub,SF.sub,CF.sub,csub,Anc.sub,List.map,Zh,xL,xM,Nat.reduceAdd,xD,xE,xT,xU,xC,xN,zCF,ZjY,Zk] at G
 generalize τ 56=v56 at G
 refine Za (Yl ?_)
 rw [Zm5 hinn hth] at G
 have hg:memB n q u=compQ n q u:=by unfold memB;rw [Yf hth]
 obtain ⟨F,G⟩:=G.rename 50 1 V rfl
 have G:=G.turn 1 V (r':=RS.hp (Zo 3 1 Zk (memB n q u) v56)) (fun _ _ _ _ h=>by rw [hg];exact h)
 refine ZU (h':=fun v=>Zo 3 1 Zk (memB n q u) v) hG G V (.tmp V .nil) (.one .one) rfl
theorem Zli (n:Nat) (q:List PairD) (u:Int) (hn:n≤4096) (hinn:InN n q) (hql:q.length≤1000000):FnP prog 17 [coF n q,.int .i64 u] (.tup [.int .i64 (Zon n q u),.bool (decide (There n u))]):=by
 refine FnP.mk func17 V ntmps17 V fun B a w F J hfr G=>Ya ?_
 refine rZ G (qI qB) J [5,4,1,0] [0] fun G=>Ya ?_
 replace G:=G.fresh 101 rfl
 refine Ze G (qR rr (qR rr (qf (o_callN 101 (Zgl n q u hn hinn hql) func51 V kr (Args.two .t .t) pvOne1) r2 r1 (qO rr qZ)))) J [6,5,4] [101,0] (fun _=>rfl) (fun _=>rfl) fun τ a w F G=>?_
 try dsimp only [RS.sub,SF.sub,CF.sub,csub,Anc.sub,List.map,ZjY,Zk] at G
 generalize τ 9=v9 at G
 obtain ⟨F,G⟩:=G.give 101 6 V rfl
 obtain ⟨F,G⟩:=G.nM [6,5,4] [0]
 refine Za (Ya (Ya (rZ G (qR rr (qu YbA r1 (qf (o_eql .t qi) r1 qz qZ))) J [12,6,5,4] [0] fun G=>?_)))
 refine Zc G V (fun hc0=>?_) (fun hc0=>?_)
 ·have hnt:¬ There n u:=by intro h9;have:=Zf9 (q:=q) h9;unfold memB at hc0;rw [Yf h9] at hc0;simp at hc0;rw [hc0] at this;simp at this
  have hg1:(0:Int)=Zon n q u:=by unfold Zon;rw [Ye hnt]
  have hg2:false=decide (There n u):=(YW hnt).symm
  refine Ya (rZ G (qI qB) J [6,5,4] [0] fun G=>(Yl (Zw ?_)))
  refine Zdj hfr G V (.tmp V (.tmp V .nil)) (.two (.int hg1) (.bool hg2))
 have hpos:0<(memB n q u).length:=by simp at hc0;exact YaL.2 hc0
 have hth:There n u:=by apply Decidable.byContradiction;intro h9;unfold memB at hpos;rw [Ye h9] at hpos;simp at hpos
 have hg1:Nn (memB n q u) 0=Zon n q u:=by unfold Zon memB;rw [Yf hth,Yf hth];rfl
 have hg2:true=decide (There n u):=(Yy hth).symm
 refine Yg (Za (Ya (Zb G (qR rr (qf (o_indexAddr_sl (sz:=1) (.mk YbA kr) (by intro x;rfl) .t qi (by decide) ow) r1 qz (qf (oR false 1 .t) r1 qz (qO rr qB)))) J [5,4] [0] V V fun a w F G=>?_)))
 try simp only [Yb] at G
 refine Za (Yl (Zdj hfr G V (.tmp V (.tmp V .nil)) (.two (.int hg1) (.bool hg2))))
theorem Zim (n:Nat) (q:List PairD) (u:Int):FnP prog 18 [coF n q,.int .i64 u] (.bool (reachB n q u u)):=by
 refine FnP.mk func18 V ntmps18 V fun B a w F J hfr G=>Ya ?_
 refine rZ G qB J [4,1,0] [0] fun G=>Ya ?_
 refine rZ G (qR rr (qf (Zf8 YbO .t) r1 qz (qR rr (qm V V V V (qk V (fun h=>o_nilCheck_ref (.w h)) r2 qz (qk V (fun h=>oG 0 (.w h)) r2 qz (qk V (fun h=>oR false 1 (.w h)) r2 qz (qm V V V V (qm V V V V (qk V (fun h=>oP (Zao n q u u) func20 (Args.three (.w h) (.w h) (.w h))) r4 qz (qf (ZF .t .t) r2 qz (qO rr qZ)))))))))))) J [4] [0] fun G=>Yl ?_
 refine Zz hfr G V V V (.bool (by simp))
def inQ (n:Nat) (q:List PairD) (u:Int):List Int:=(compQ n q u).filter fun y=>decide ((⟨u,y⟩:PairD) ∈ q)
def Zeu (n:Nat) (q q0:List PairD) (x:Int):Prop:=compQ n q x=compQ n q0 x ∧ ∀ y ∈ compQ n q x,inQ n q y=inQ n q0 y
instance (n:Nat) (q q0:List PairD) (x:Int):Decidable (Zeu n q q0 x):=by unfold Zeu;infer_instance
theorem Zeu.refl (n:Nat) (q:List PairD) (x:Int):Zeu n q q x:=⟨rfl,fun _ _=>rfl⟩
theorem Zeu.trans {n:Nat} {q q1 q0:List PairD} {x:Int} (h:Zeu n q q1 x) (k:Zeu n q1 q0 x):Zeu n q q0 x:=⟨h.1.trans k.1,fun y hy=>(h.2 y hy).trans (k.2 y (by rw [← h.1];exact hy))⟩
def ZnC (u:Int) (q q':List PairD):Prop:=∀ a b,a≠u→((⟨a,b⟩:PairD) ∈ q ↔ (⟨a,b⟩:PairD) ∈ q')
theorem ZnC.symm {u:Int} {q q':List PairD} (h:ZnC u q q'):ZnC u q' q:=fun a b hab=>(h a b hab).symm
theorem Ziw {q q':List PairD} {u x:Int} (h:ZnC u q q') (hx:¬ Zb8 q x u) {b:Int} (k:Rch (EQ_ q) x b):Rch (EQ_ q) b x→Rch (EQ_ q') x b:=by
 have key:∀ c,Rch (EQ_ q) x c→Rch (EQ_ q) c x→c≠u:=fun c h1 h2 e=>by
  subst e
  exact hx (.inr ⟨((Zj q c).2 x).2 h2,((Zj q x).2 c).2 h1⟩)
 induction k with
 | one k=>
  intro hb
  have hxu:x≠u:=fun e=>hx (.inl e)
  exact .one ((h _ _ hxu).1 k)
 | step h1 k ih=>
  intro hb
  have hc:Rch (EQ_ q) _ x:=Rch.trans (.one k) hb
  exact .step (ih hc) ((h _ _ (key _ h1 hc)).1 k)
theorem Zfa {q q':List PairD} {u x y:Int} (h:ZnC u q q') (hx:¬ Zb8 q x u) (k:Zb8 q y x):Zb8 q' y x:=by
 by_cases e:y=x
 ·exact .inl e
 ·obtain ⟨h1,h2⟩:=k.resolve_left e
  have a1:=((Zj q x).2 y).1 h1
  have a2:=((Zj q y).2 x).1 h2
  have hy:¬ Zb8 q y u:=fun h3=>hx ((Zb8.symm (.inr ⟨h1,h2⟩)).trans h3)
  exact .inr ⟨((Zj q' x).2 y).2 (Ziw h hx a1 a2),((Zj q' y).2 x).2 (Ziw h hy a2 a1)⟩
theorem Zlq {n:Nat} {q q':List PairD} {u x:Int} (h:ZnC u q q') (hx:¬ Zb8 q x u) (hx':¬ Zb8 q' x u):Zeu n q' q x:=by
 have hc:∀ z,¬ Zb8 q z u→¬ Zb8 q' z u→compQ n q' z=compQ n q z:=fun z h1 h2=>by
  unfold compQ
  refine Ybq fun y _=>?_
  rw [YQ]
  exact ⟨Zfa h.symm h2,Zfa h h1⟩
 refine ⟨hc x hx hx',fun y hy=>?_⟩
 have hyx:=(ZaQ.1 hy).2
 have hyx2:=Zfa h.symm hx' hyx
 have hy1:¬ Zb8 q y u:=fun k=>hx (hyx2.symm.trans k)
 have hy2:¬ Zb8 q' y u:=fun k=>hx' (hyx.symm.trans k)
 unfold inQ
 rw [hc y hy1 hy2]
 refine Ybq fun z _=>?_
 rw [YQ]
 exact (h y z fun e=>hy1 (.inl e)).symm
def touchD (n:Nat) (q:List PairD) (u:Int) (D:List Int):List Int:=orL (putL D n u true) n (memB n q u)
theorem touchD_up {n:Nat} {q:List PairD} {u:Int} {D:List Int} (h:Up n D):Up n (touchD n q u D):=ZeO (ZbC h u true) _
theorem Zep {n:Nat} {q:List PairD} {u x:Int} {D:List Int} (h:Up n D) (hx:x ∉ touchD n q u D) (ht:There n x):x ∉ D∧(There n u→¬ Zb8 q x u):=by
 unfold touchD at hx
 rw [ZbW (ZbC h u true),ZaY] at hx
 refine ⟨fun hd=>hx (.inl ?_),fun hu hm=>hx (.inr ⟨?_,ht⟩)⟩
 ·by_cases e:x=u
  ·subst e;exact .inr ⟨rfl,rfl,ht⟩
  ·exact .inl ⟨e,hd⟩
 ·unfold memB;rw [Yf hu];exact ZaQ.2 ⟨ht,hm⟩
theorem Zjb (n:Nat) (D:List Int) (l:List Int) (k:Nat) (h:k<l.length):putL (orL D n (l.take k)) n (Nn l k) true=orL D n (l.take (k+1)):=by
 unfold orL
 rw [ZE h,List.foldl_append];rfl
theorem Zg5 {n:Nat} {q:List PairD} {d:Deed4} : ZnC d.u q (stepQ n q d).1:=fun a b hab=>by
 unfold stepQ
 split
 ·split
  ·rw [Yu,Yd,PairD.mk.injEq]
   exact ⟨.inl,fun h=>h.resolve_right fun e=>hab e.1⟩
  ·split
   ·exact Ybz
   ·exact (YaJ fun e=>hab (PairD.mk.inj e).1).symm
 ·exact Ybz
def ZpM (n:Nat) (q0:List PairD) (ms:List (Int×List Int)):Prop:=∀ k,k<n→Nn ms k=(Zj0 n q0 (k:Int),inQ n q0 (k:Int))
def ZoL (es:List (GE Int Int)) (ms:List (Int×List Int)):Prop:=∀ a:Int,(gGet a es).getD 0=((ms.countP fun m=>decide (m.1=a):Nat):Int)
def ZnS (n:Nat) (q q0:List PairD) (D:List Int):Prop:=Up n D ∧ ∀ x,There n x→x ∉ D→Zeu n q q0 x
theorem ZnS.touch {n:Nat} {q q0:List PairD} {D:List Int} (h:ZnS n q q0 D) (u:Int):ZnS n q q0 (touchD n q u D):=⟨touchD_up h.1,fun x hx hd=>h.2 x hx (Zep h.1 hd hx).1⟩
theorem ZnS.change {n:Nat} {q q0 q':List PairD} {D:List Int} {u:Int} (h:ZnS n q q0 D) (hu:There n u) (hb:ZnC u q q'):ZnS n q' q0 (touchD n q' u (touchD n q u D)):=⟨touchD_up (touchD_up h.1),fun x hx hd=>by
 have h1:=Zep (touchD_up h.1) hd hx
 have h2:=Zep h.1 h1.1 hx
 exact (Zlq hb (h2.2 hu) (h1.2 hu)).trans (h.2 x hx h2.1)⟩
def PV.clos1 (f:FuncId) (fps:List PV):PV:=⟨fun u w y=>∃ fs:List Value,u = .func (.func f) fs.toArray #[]∧PVt fps fs w y,fun h ⟨fs,e,k⟩=>⟨fs,e,PVt.mono h k⟩⟩
theorem Zd4 {P:Program} {d:Option Nat} {ty:TypeId} {pos:String} {af:Array Edge} {g:Option (Nat×Bool)} {f:FuncId} {first:Array Operand} {ps:List (Nat×SF)} {fps:List PV}
  (ha:∀ (a:Act) w y,Hps ps (Act.tau a) w y → ∃ vs:List Value,first.map a.eval=vs.toArray∧PVt fps vs w y) :
  Go.Gm.OpC P ⟨d,.makeFunc (.func f) first #[],ty,pos,af,g⟩ ⟨ps,[],.pv (PV.clos1 f fps),[]⟩:=
 OpC.pure fun a w yy hp=>by
  obtain ⟨vs,e,h⟩:=ha a w yy hp
  exact ⟨.func (.func f) vs.toArray #[],by simp [execOp,Instr.makeFunc,e],fun _ _=>⟨vs,rfl,h⟩⟩
theorem ZhK {P:Program} {ty:TypeId} {pos:String} {af:Array Edge} {g:Option (Nat×Bool)} {f:FuncId} {x:Operand} {args:Array Operand} {tys:Array TypeId} {d':Nat} {qs ps:List (Nat×SF)} {avs fps:List PV} {h h':HP} {q:PV} {fn:Func} (n:Nat) (hx:Opd x qs (.pv (PV.clos1 f fps)))
    (hc : FnG P f 1 (fps ++ avs) [h] q (fun _ => [h'])) (hf : P.funcs[f]? = some fn) (hb : fn.body.isSome = true) (hn : (fn.name == "runtime.NumGoroutine") = false)
    (ha:∀ (a:Act) w y,Hps ps (Act.tau a) w y → ∃ vs:List Value,args.map a.eval=vs.toArray∧PVt avs vs w y) :
    Go.Gm.OpC P ⟨some d',.call { callee:=.value x,args:=args,argTypes:=tys },ty,pos,af,g⟩ ⟨qs++ps,[(n,RS.hp h)],.pv q,[(n,RS.hp h')]⟩:=
  Zf1 (is:=[n]) (avs:=fps++avs) hc (fun a w y hp=>by
      obtain ⟨vs,e,hvs⟩:=ha a w y hp.right
      obtain ⟨fs,e2,hcs⟩:=hx a w y hp.left
      have hbn:fn.body≠none:=by intro h;rw [h] at hb;cases hb
      have hn' : fn.name ≠ "runtime.NumGoroutine" := by intro h; rw [h] at hn; simp at hn
      exact ⟨fs++vs,by simp [execOp,resolve,e,e2,Deferred.ofValue,invoke,callFunc,hf,hn',hbn],hcs.append hvs⟩) rfl (by simp) (fun τ w F hr i x hi=>by
      match i,hi with
      | 0,hi=>simp at hi;subst hi;exact ⟨n,rfl,hr (n,RS.hp h) (by simp)⟩)
    (fun _ _ _ _ h=>h) (fun x hx=>by
      simp only [Yd] at hx
      subst hx
      exact ⟨0,rfl,fun v τ w f y ⟨k,hk,hp⟩=>by simp at hk;subst hk;exact hp⟩) rfl (fun _=>rfl)
def rMk (p:Int×Value):List PV:=[.int .i64 p.1,.is p.2]
structure CoS where
 av:Value
 nv:Value
 mv:Value
 sv:Value
 dv:Value
 ns:List Value
 ks:List Value
 ms:List (Int×List Int)
 es:List (GE Int Int)
 ck:Nat
 D:List Int
 last:List Int
def mkL (ks:List Value) (ms:List (Int×List Int)):List (Int×Value):=(List.range ks.length).map fun k=>((Nn ms k).1,Nn ks k)
theorem Zkq (ks:List Value) (ms:List (Int×List Int)):(mkL ks ms).length=ks.length:=by unfold mkL;simp
theorem Zmw {ks:List Value} {ms:List (Int×List Int)} {v:Value} {m:Int×List Int} (hl:ms.length=ks.length):mkL (ks ++ [v]) (ms ++ [m])=mkL ks ms ++ [(m.1,v)]:=by
 unfold mkL
 rw [Yc,Yp,YaR,Y7,List.map_singleton,ZaF,← hl,ZaF]
 congr 1
 refine Ybh fun k hk=>?_
 have:=Yae.1 hk
 rw [ZaP this,ZaP ow]
abbrev Zj6 (es:List (GE Int Int)) (ck:Nat):Value→HP:=ZeB (fun c:Int=>PV.int .i64 c) (fun _:Int=>True) (fun n:Int=>Value.int .i64 n) es ck
def ZbZ (n:Nat) (q:List PairD) (s:CoS) (v:Value):List RS:=[.pt (.val v) 56 [.pv (.is s.av),.pv (.is s.nv),.pv (.is s.mv),.pv (.is s.sv),.pv (.is s.dv)],RS.hp (clH s.av n q s.last),.ob (.val s.nv) (Zo 51 1 rV s.ns),.ob (.val s.mv) (Zo 59 2 rMk (mkL s.ks s.ms)),.ob (.val s.sv) (Zj6 s.es s.ck),
 Zaw (Z5 n) (famL s.ns fun k=>nextQ q n (k:Int)),Zaw (Z5 n) (famL s.ks fun k=>(Nn s.ms k).2),RS.hp (Z0 s.dv n s.D)]
structure CoL (n:Nat) (q:List PairD) (s:CoS):Prop where
 hi:n≤4096
 inn:InN n q
 len:q.length≤1000000
 nl:s.ns.length=n
 kl:s.ks.length=n
 ml:s.ms.length=n
 up:Up n s.D
structure Zob (n:Nat) (q q0:List PairD) (s:CoS):Prop extends CoL n q s where
 mrk:ZpM n q0 s.ms
 sz:ZoL s.es s.ms
 dt:ZnS n q q0 s.D
def coT (v:Value) (n:Nat) (q:List PairD) (s:CoS):HP:=.and (CoL n q s) (.star (ZbZ n q s v))
def coH (v:Value) (n:Nat) (q q0:List PairD):HP:=.ex fun s:CoS=>.and (Zob n q q0 s) (.star (ZbZ n q s v))
theorem ZlH {v:Value} {n:Nat} {q q0:List PairD} {w:World} {f y:Ys} (h:(coH v n q q0).p w f y):∃ b,v = .pointer (some ⟨b,0,none⟩):=by
 obtain ⟨s,_,h⟩:=h
 exact HP.star_pt h
theorem Zce {v:Value} {n:Nat} {q:List PairD} {s:CoS} (hk:CoL n q s) {w:World} {f y y':Ys} (h:stars w y (ZbZ n q s v) f) (hle:∀ b,y' b→y b) (hf:∀ b,f b→¬ y' b) (hb:∀ b,f b→b<w.heap.size):(coF n q).p v w y':=by
 obtain ⟨f1,g1,e1,d1,_,hp1,f2,g2,e2,d2,_,hp2,f3,g3,e3,d3,_,hp3,f4,g4,e4,d4,_,hp4,f5,g5,e5,d5,_,hp5,f6,g6,e6,d6,_,hp6,_⟩:=h
 have up1:∀ x,f1 x→f x:=fun x hx=>(e1 x).2 (.inl hx)
 have up2:∀ x,f2 x→f x:=fun x hx=>(e1 x).2 (.inr ((e2 x).2 (.inl hx)))
 have up3:∀ x,f3 x→f x:=fun x hx=>(e1 x).2 (.inr ((e2 x).2 (.inr ((e3 x).2 (.inl hx)))))
 have up6:∀ x,f6 x→f x:=fun x hx=>(e1 x).2 (.inr ((e2 x).2 (.inr ((e3 x).2 (.inr ((e4 x).2 (.inr ((e5 x).2 (.inr ((e6 x).2 (.inl hx)))))))))))
 obtain ⟨b,vs,k1,k2,k3,k4⟩:=hp1
 have hb1:f b:=up1 b ((k3 b).2 rfl)
 refine ⟨b,0,vs.toList,k1,hf b hb1,hb b hb1,Zn.mk fun j u hj=>?_,?_⟩
 ·simp only [YG]
  simp [World.cell?,k2]
  simpa using hj
 ·generalize vs.toList=us at k4
  match us,k4 with
  | [u1,u2,u3,u4,u5],k4=>
   refine ⟨⟨k4.1.1,?_⟩,⟨k4.2.1.1,?_⟩,⟨k4.2.2.1.1,tv⟩,⟨k4.2.2.2.1.1,tv⟩,⟨k4.2.2.2.2.1.1,tv⟩,tv⟩
   ·have e:u1=s.av:=k4.1.2.1
    rw [e]
    exact ZaZ w f2 y y' hp2 hle (fun x hx=>hf x (up2 x hx)) (fun x hx=>hb x (up2 x hx))
   ·have e:u2=s.nv:=k4.2.1.2.1
    rw [e]
    obtain ⟨xs,m1,m2,m3⟩:=(hp3:(Zo 51 1 rV s.ns s.nv).p w f3 y)
    obtain ⟨ad,cap,e8,h8,h9,h10⟩:=Zs m1
    rw [hk.nl] at e8 h8
    refine ⟨ad,cap,by rw [nextsQ_len];exact e8,by rw [nextsQ_len];exact h8,h9,?_⟩
    rcases h10 with h10 | ⟨b',rfl,h11,h12⟩
    ·exact .inl (YC (by rw [nextsQ_len,← hk.nl];exact h10))
    ·have hb':f b':=up3 b' ((m3 b').2 h11)
     refine .inr ⟨b',0,xs,rfl,hf b' hb',hb b' hb',h12,?_⟩
     have e2:nextsQ q n=(famL s.ns fun k=>nextQ q n (k:Int)).map (·.2):=by rw [Zds,hk.nl];rfl
     rw [e2]
     refine Zb9 (y:=y) (by rw [Zdo];exact m2) fun p hp=>?_
     obtain ⟨g,g1',g2'⟩:=ZK (show stars w y ((famL s.ns fun k=>nextQ q n (k:Int)).map fun x=>RS.hp (Z5 n x)) f6 from hp6) (RS.hp (Z5 n p)) (YD.2 ⟨p,hp,rfl⟩)
     exact setH_lend w g y y' g2' hle (fun x hx=>hf x (up6 x (g1' x hx))) (fun x hx=>hb x (up6 x (g1' x hx)))
theorem Zja {v:Value} {n:Nat} {q q0:List PairD} : Zlr (coH v n q q0) v (coF n q):=fun w f y y' ⟨s,hk,h⟩ hle hf hb=>Zce hk.toCoL h hle hf hb
theorem ZiY {v:Value} {n:Nat} {q:List PairD} {s:CoS} : Zlr (coT v n q s) v (coF n q):=fun w f y y' ⟨hk,h⟩ hle hf hb=>Zce hk h hle hf hb
theorem Zoi {P:Program} {o:Oper} {i j:Nat} {ps:List (Nat×SF)} {pr qr:List (Nat×RS)} {p:Value→PV} {cs0:List CF} {cs:Value→List CF} (hd:(o.dst == some j)=false) (hcs:∀ τ w y vs,CFs τ w y cs0 vs→CFs τ w y (cs (τ j)) vs) (h:∀ z,Go.Gm.OpC P o ⟨(i,.agg (cs z)) :: ps,pr,.pv (p z),qr⟩) :
  Go.Gm.OpC P o ⟨(i,.agg cs0) :: ps,pr,.fn j p,qr⟩:=fun a w F K Q hw hp hr ht=>by
 obtain ⟨vs,e1,h1⟩:=hp (i,.agg cs0) (by simp)
 refine h (Act.tau a j) a w F K Q hw (fun x hx=>?_) hr (fun v w' F' g1 g2 g3 g4=>ht v w' F' g1 g2 ?_ g4)
 ·rcases Yh.1 hx with rfl | hx
  ·exact ⟨vs,e1,hcs _ _ _ _ h1⟩
  ·exact hp x (by simp [hx])
 ·show (p (upd (Act.tau a) o.dst v j)).p v w' (U F')
  rw [Zh2 hd];exact g3
theorem ZmZ {p:PV} {j:Nat} : ∀ (τ:Tau) (w:World) (y:Ys) (vs:List Value),CFs τ w y [.pv p,.same j] vs→CFs τ w y [.pv p,.pv (.is (τ j))] vs:=fun τ w y vs h=>by
 match vs,h with
 | [a,b],h=>exact h
theorem arcsV_c (v:Value) (n:Nat) (q:List PairD) (last:List Int) (u z:Int):FnG prog 12 1 [.is v,.int .i64 u,.int .i64 z] [clH v n q last] (.int .i64 (Zc8 n q u z)) (fun _=>[clH v n q last]):=
 FnG.ptrAny (h0:=fun v=>clH v n q last) (args:=fun v=>[.is v,.int .i64 u,.int .i64 z]) (pr:=fun v=>[clH v n q last]) (q:=fun _=>.int .i64 (Zc8 n q u z)) (qr:=fun v _=>[clH v n q last]) Zeb (fun _=>rfl) (fun b=>Zkt b n q last u z) v
theorem Zpa (v:Value) (n:Nat) (q:List PairD) (last:List Int) (u z:Int) (hl:q.length<1000000):FnG prog 8 1 [.is v,.int .i64 u,.int .i64 z] [clH v n q last] (.int .i64 (stepQ n q ⟨0,u,z⟩).2) (fun _=>[clH v n (stepQ n q ⟨0,u,z⟩).1 (lastD n q last ⟨0,u,z⟩)]):=
 FnG.ptrAny (h0:=fun v=>clH v n q last) (args:=fun v=>[.is v,.int .i64 u,.int .i64 z]) (pr:=fun v=>[clH v n q last]) (q:=fun _=>.int .i64 (stepQ n q ⟨0,u,z⟩).2) (qr:=fun v _=>[clH v n (stepQ n q ⟨0,u,z⟩).1 (lastD n q last ⟨0,u,z⟩)]) Zeb (fun _=>rfl) (fun b=>Zoa b n q last u z hl) v
theorem Zou (v:Value) (n:Nat) (q:List PairD) (last:List Int) (u z:Int):FnG prog 10 1 [.is v,.int .i64 u,.int .i64 z] [clH v n q last] (.int .i64 (stepQ n q ⟨1,u,z⟩).2) (fun _=>[clH v n (stepQ n q ⟨1,u,z⟩).1 (lastD n q last ⟨1,u,z⟩)]):=
 FnG.ptrAny (h0:=fun v=>clH v n q last) (args:=fun v=>[.is v,.int .i64 u,.int .i64 z]) (pr:=fun v=>[clH v n q last]) (q:=fun _=>.int .i64 (stepQ n q ⟨1,u,z⟩).2) (qr:=fun v _=>[clH v n (stepQ n q ⟨1,u,z⟩).1 (lastD n q last ⟨1,u,z⟩)]) Zeb (fun _=>rfl) (fun b=>Znv b n q last u z) v
def chS (n:Nat) (q:List PairD) (d:Deed4) (s:CoS):CoS:=if There n d.u∧There n d.v then (if (stepQ n q d).2=0 then { s with D:=touchD n (stepQ n q d).1 d.u (touchD n q d.u s.D),last:=lastD n q s.last d } else { s with D:=touchD n q d.u s.D }) else s
theorem Zob.ch {n:Nat} {q q0:List PairD} {s:CoS} {d:Deed4} (h:Zob n q q0 s) (hl:CoL n (stepQ n q d).1 (chS n q d s)):Zob n (stepQ n q d).1 q0 (chS n q d s):=by
 have hm:(chS n q d s).ms=s.ms:=by unfold chS;split <;> (try split) <;> rfl
 have he:(chS n q d s).es=s.es:=by unfold chS;split <;> (try split) <;> rfl
 refine ⟨hl,by rw [hm];exact h.mrk,by rw [hm,he];exact h.sz,?_⟩
 by_cases ht:There n d.u∧There n d.v
 ·by_cases h0:(stepQ n q d).2=0
  ·have e:(chS n q d s).D=touchD n (stepQ n q d).1 d.u (touchD n q d.u s.D):=by unfold chS;rw [Yf ht,Yf h0]
   rw [e];exact h.dt.change ht.1 Zg5
  ·have e:(chS n q d s).D=touchD n q d.u s.D:=by unfold chS;rw [Yf ht,Ye h0]
   rw [e,ZeZ h0];exact h.dt.touch d.u
 ·have e:(chS n q d s).D=s.D:=by unfold chS;rw [Ye ht]
  have e2:(stepQ n q d).1=q:=by rw [Zcc ht]
  rw [e,e2];exact h.dt
theorem ZmH {n:Nat} {q:List PairD} {d:Deed4} (hv:There n d.v) {on:Bool} (ho:on=decide ((⟨d.u,d.v⟩:PairD) ∈ (stepQ n q d).1)):putL (nextQ q n d.u) n d.v on=nextQ (stepQ n q d).1 n d.u:=by
 refine Zbm (ZbC (ZaB q n d.u) d.v on).1 (ZaB _ n d.u).1 fun w=>?_
 rw [ZaY]
 unfold nextQ
 rw [YH,YH,Zae,Yn,Yn]
 by_cases e:w=d.v
 ·subst e
  rw [ho]
  have hv':0≤d.v∧d.v<n:=hv
  simp [hv']
 ·have hq:(⟨d.u,w⟩:PairD) ∈ q ↔ (⟨d.u,w⟩:PairD) ∈ (stepQ n q d).1:=by
   unfold stepQ
   split
   ·split
    ·rw [Yu,Yd,PairD.mk.injEq]
     exact ⟨.inl,fun h=>h.resolve_right fun k=>e k.2⟩
    ·split
     ·exact Ybz
     ·exact (YaJ fun k=>e (PairD.mk.inj k).2).symm
   ·exact Ybz
  simp [e,hq]
theorem Zmr {n:Nat} {q:List PairD} {d:Deed4} {x:Int} (h:x≠d.u):nextQ q n x=nextQ (stepQ n q d).1 n x:=Zbh fun w=>Zg5 x w h
theorem Zmv {n:Nat} {q:List PairD} {u v:Int} (h:There n u∧There n v):decide (0<Zc8 n q u v)=decide ((⟨u,v⟩:PairD) ∈ q):=by
 unfold Zc8
 rw [Yf h,YQ,← Ya4]
 omega
theorem ZlQ (b n:Nat) (q:List PairD) (sx:CoS) (u:Int):FnG prog 57 1 [.is (.pointer (some ⟨b,0,none⟩)),.int .i64 u] [coT (.pointer (some ⟨b,0,none⟩)) n q sx] (.tup []) (fun _=>[coT (.pointer (some ⟨b,0,none⟩)) n q { sx with D:=touchD n q u sx.D }]):=by
 refine FnG.mk func57 V ntmps57 V kr fun B F0 a w F J hG G=>?_
 obtain ⟨hk,G⟩:=G.open_and 1 rfl
 dsimp only [ZbZ] at G
 obtain ⟨F,G⟩:=G.peel 1 2 V rfl
 obtain ⟨F,G⟩:=G.peel 1 3 V rfl
 obtain ⟨F,G⟩:=G.peel 1 4 V rfl
 obtain ⟨F,G⟩:=G.peel 1 5 V rfl
 obtain ⟨F,G⟩:=G.peel 1 8 V rfl
 obtain ⟨F,G⟩:=G.peel 1 6 V rfl
 obtain ⟨F,G⟩:=G.peel 1 7 V rfl
 obtain ⟨F,G⟩:=G.peel 1 10 V rfl
 have hhi:=hk.hi
 have hnl:sx.ns.length=n:=hk.nl
 have hkl:sx.ks.length=n:=hk.kl
 have hml:sx.ms.length=n:=hk.ml
 have hinn:=hk.inn
 have hup:=hk.up
 have hql:=hk.len
 obtain ⟨F,G⟩:=G.nM [1,0] [10,8,7,6,5,4,3,2,0]
 refine Ya (rZ G (qR rr (qf (o_nilCheck 2 .is (by rfl)) r1 r1 (qf (oF 4 2 .adr) r1 r1 (qa 2 r1 r1 (qR rr (qf (o_callG1 10 (setV_c sx.dv n sx.D u true) func25 V kr (Args.three .t .t .cb)) r2 r1 qZ)))))) J [1,0] [10,8,7,6,5,4,3,2,0] fun G=>Ya ?_)
 replace G:=G.fresh 50 rfl
 refine Ze G (qR rr (qR rr (qf (OpC.lendL (ls:=Znz 2 3 4 6 _ _ _ _ _ _ _ _ _ _) [12] (ZnG ow) (o_callN 50 (Zgl n q u hhi hinn hql) func51 V kr (Args.two .t .t) pvOne1) ⟨rfl,tv,tv⟩ (fun _ _ _ _ _ h=>h) ZkG (by simp [Znz,RS.deps,Anc.deps,cdeps,CF.deps,RS.hp]) (by rfl)) r2 r5 (qf (Zx 50 YbA .same) r1 r1 (qJ qZ))))) J [16,15,14,0] [50,10,8,7,6,5,4,3,2,0] (fun _=>rfl) (fun _=>rfl) fun τ a w F G=>?_
 try dsimp only [RS.sub,SF.sub,CF.sub,csub,Anc.sub,List.map,rV,rMk,Zj6,Zk] at G
 generalize τ 14=v14 at G
 obtain ⟨F,G⟩:=G.give 50 14 V rfl
 obtain ⟨F,G⟩:=G.nM [16,15,14,0] [10,8,7,6,5,4,3,2,0]
 have hmbl:=Zh7 (Zn8 n q u)
 refine Za (Yk (Zl (σ:=(Nat)) [0,14,15] [0,2,3,4,5,6,7,8] (fun s=>[(16,.pv (.int .i64 (s:Int)))]) (fun s=>[(10,RS.hp (Z0 sx.dv n (orL (putL sx.D n u true) n ((memB n q u).take s))))]) (fun s=>s≤(memB n q u).length∧(True)) (fun s=>(memB n q u).length - s) (0) G ⟨rfl,rfl,rfl,rfl,tv⟩ ⟨rfl,rfl,rfl,rfl,rfl,rfl,rfl,rfl,rfl,tv⟩ ⟨YA _,tv⟩ ?_))
 clear G;intro i a w F hC G
 try dsimp only at hC
 obtain ⟨F,G⟩:=G.nM [16,15,14,0] [10,8,7,6,5,4,3,2,0]
 try dsimp only at G
 obtain ⟨hi,hq⟩:=hC
 refine Ya (rZ G (qL r2) J [17,16,15,14,0] [10,8,7,6,5,4,3,2,0] fun G=>Ya ?_)
 refine Zc G V (fun hc0=>?_) (fun hc0=>?_)
 ·have hil:i<(memB n q u).length:=by simp at hc0;omega
  refine Yg (Za (Ya (Yk (Ya (Zb G (qy 1 YbA r2 (qf (oR false 1 .t) r1 qz (qO rr qZ))) J [16,15,14,5,0] [10,8,7,6,5,4,3,2,0] V V fun a w F G=>?_)))))
  try simp only [Yb] at G
  refine Za (Zb G (qR rr (qf (o_nilCheck 2 .is (by rfl)) r1 r1 (qf (oF 4 2 .adr) r1 r1 (qa 2 r1 r1 (qR rr (qf (o_callG1 10 (setV_c sx.dv n (orL (putL sx.D n u true) n ((memB n q u).take i)) (Nn (memB n q u) i) true) func25 V kr (Args.three .t .t .cb)) r2 r1 qZ)))))) J [16,15,14,0] [10,8,7,6,5,4,3,2,0] V V fun a w F G=>?_)
  rw [Zjb _ _ _ _ hil] at G
  refine Zi (Za (rZ G (qp r1 (qR rr qZ)) J [16,15,14,0] [10,8,7,6,5,4,3,2,0] fun G=>?_))
  replace G:=G.ent (i:=16) (s':=.pv (.int .i64 ((i+1:Nat):Int))) V (.int (Zf ow))
  obtain ⟨F,G⟩:=G.nM [15,14,0,16] [8,7,6,5,4,3,2,0,10]
  exact ⟨(i+1),F,⟨by omega,tv⟩,G,by omega⟩
 have hil:i=(memB n q u).length:=by simp at hc0;omega
 rw [hil,Yac] at G
 refine YI (Zm (Zm (Zu ?_)))
 have G:=G.fresh 1 rfl
 obtain ⟨F,G⟩:=G.push 1 10 V V V kr
 obtain ⟨F,G⟩:=G.push 1 7 V V V kr
 obtain ⟨F,G⟩:=G.push 1 6 V V V kr
 obtain ⟨F,G⟩:=G.push 1 8 V V V kr
 obtain ⟨F,G⟩:=G.push 1 5 V V V kr
 obtain ⟨F,G⟩:=G.push 1 4 V V V kr
 obtain ⟨F,G⟩:=G.push 1 3 V V V kr
 obtain ⟨F,G⟩:=G.push 1 2 V V V kr
 have G:=G.turn 1 V (r':=RS.hp (coT (.pointer (some ⟨b,0,none⟩)) n q { sx with D:=touchD n q u sx.D })) (fun _ _ _ _ h=>⟨⟨hk.hi,hk.inn,hk.len,hk.nl,hk.kl,hk.ml,touchD_up hk.up⟩,h⟩)
 obtain ⟨F,G⟩:=G.nM [17,16,15,14,0] [1,0]
 refine Zy hG G V .nil .none rfl
theorem Zic (b n : Nat) (q : List PairD) (sx : CoS) (u v kd : Int) (f : FuncId) (fn : Func) (hf : prog.funcs[f]? = some fn) (hb : fn.body.isSome = true) (hnn : (fn.name == "runtime.NumGoroutine") = false) (hw : ∀ q last, q.length < 1000000 → FnG prog f 1 [.is sx.av, .int .i64 u, .int .i64 v] [clH sx.av n q last] (.int .i64 (stepQ n q (⟨kd, u, v⟩ : Deed4)).2) (fun _ => [clH sx.av n (stepQ n q (⟨kd, u, v⟩ : Deed4)).1 (lastD n q last (⟨kd, u, v⟩ : Deed4))])) (hq1 : q.length < 1000000) : FnG prog 29 1 [.is (.pointer (some ⟨b, 0, none⟩)), .int .i64 u, .int .i64 v, PV.clos1 f [.is sx.av]] [coT (.pointer (some ⟨b, 0, none⟩)) n q sx] (.int .i64 (stepQ n q (⟨kd, u, v⟩ : Deed4)).2) (fun _ => [coT (.pointer (some ⟨b, 0, none⟩)) n (stepQ n q (⟨kd, u, v⟩ : Deed4)).1 (chS n q (⟨kd, u, v⟩ : Deed4) sx)]) := by
 refine FnG.mk func29 V ntmps29 V kr fun B F0 a w F J hG G=>Ya ?_
 refine rZ G (qI qZ) J [8,3,2,1,0] [1,0] fun G=>(Ya (Ya ?_))
 refine rZ G (qR rr (qf (Zbg .t qi) r1 qz (qR rr (qm V V V V (qm V V V V (qk V (fun h=>OpC.lend 1 [14] ZiY (oP (ZdD n q) func56 (Args.one (.w h))) ⟨rfl,tv⟩ (.pv (fun _ _ _ _ h=>h)) trivial (by rfl)) r2 r1 (qk V (fun h=>Zb6 (.w h) (.w h)) r3 qz (qf (Zaa .t .t) r2 qz (qR rr (qm V V V V (qk V (fun h=>Zbg (.w h) qi) r2 qz (qf (Zaa .t .t) r2 qz (qR rr (qm V V V V (qm V V V V (qk V (fun h=>OpC.lend 1 [24] ZiY (oP (ZdD n q) func56 (Args.one (.w h))) ⟨rfl,tv⟩ (.pv (fun _ _ _ _ h=>h)) trivial (by rfl)) r2 r1 (qk V (fun h=>Zb6 (.w h) (.w h)) r3 qz (qf (Zaa .t .t) r2 qz qZ)))))))))))))))))) J [27,8,3,2,1,0] [1,0] fun G=>?_
 refine Zc G V (fun hc0=>?_) (fun hc0=>?_)
 ·skip
  have hnt:¬ (There n u∧There n v):=by rintro ⟨h1,h2⟩;unfold There at h1 h2;simp at h1 h2 hc0;omega
  have hg:stepQ n q (⟨kd,u,v⟩:Deed4)=(q,1):=Zcc hnt
  refine Ya (rZ G (qI qZ) J [8,3,2,1,0] [1,0] fun G=>(Yl (Zw ?_)))
  have G:=G.turn 1 V (r':=RS.hp (coT (.pointer (some ⟨b,0,none⟩)) n (stepQ n q (⟨kd,u,v⟩:Deed4)).1 (chS n q (⟨kd,u,v⟩:Deed4) sx))) (by rw [hg];unfold chS;rw [Ye hnt];exact fun _ _ _ _ h=>h)
  refine Zy hG G V (.tmp V .nil) (.one (.int (by rw [hg]))) rfl
 have hth:There n u∧There n v:=by simp at hc0;unfold There;omega
 obtain ⟨hthu,hthv⟩:=hth
 obtain ⟨U,rfl⟩:=Yz hthu.1
 obtain ⟨Z,rfl⟩:=Yz hthv.1
 have hUn:U<n:=by have:=hthu.2;omega
 have hZn:Z<n:=by have:=hthv.2;omega
 refine Yg (Za (Ya (Zb G (qR rr (qR rr (qf (o_callG1 1 (ZlQ b n q sx (U:Int)) func57 V kr (Args.two .t .t)) r2 r1 qZ))) J [8,3,2,1,0] [1,0] V V fun a w F G=>?_)))
 obtain ⟨hk,G⟩:=G.open_and 1 rfl
 dsimp only [ZbZ] at G
 obtain ⟨F,G⟩:=G.peel 1 2 V rfl
 obtain ⟨F,G⟩:=G.peel 1 3 V rfl
 obtain ⟨F,G⟩:=G.peel 1 4 V rfl
 obtain ⟨F,G⟩:=G.peel 1 5 V rfl
 obtain ⟨F,G⟩:=G.peel 1 8 V rfl
 obtain ⟨F,G⟩:=G.peel 1 6 V rfl
 obtain ⟨F,G⟩:=G.peel 1 7 V rfl
 obtain ⟨F,G⟩:=G.peel 1 10 V rfl
 have hhi:=hk.hi
 have hnl:sx.ns.length=n:=hk.nl
 have hkl:sx.ks.length=n:=hk.kl
 have hml:sx.ms.length=n:=hk.ml
 have hinn:=hk.inn
 have hup:=hk.up
 have hql:=hk.len
 obtain ⟨F,G⟩:=G.nM [8,3,2,1,0] [10,8,7,6,5,4,3,2,0]
 refine Za (Ya (rZ G (qR rr (qR rr (qR rr (qf (ZhK 3 .t (hw q sx.last hq1) hf hb hnn (Args.two .t .t)) r3 r1 (qO rr qZ))))) J [9,8,2,1,0] [10,8,7,6,5,4,3,2,0] fun G=>(Ya (Ya ?_))))
 refine rZ G (qR rr (qf (o_neq .t qi) r1 qz qZ)) J [36,9,8,2,1,0] [10,8,7,6,5,4,3,2,0] fun G=>?_
 refine Zc G V (fun hc1=>?_) (fun hc1=>?_)
 ·skip
  have he0:¬ (stepQ n q (⟨kd,(U:Int),(Z:Int)⟩:Deed4)).2=0:=by simpa using hc1
  have hqs:(stepQ n q (⟨kd,(U:Int),(Z:Int)⟩:Deed4)).1=q:=ZeZ he0
  have hls:lastD n q sx.last (⟨kd,(U:Int),(Z:Int)⟩:Deed4)=sx.last:=by unfold lastD;rw [Ye he0]
  rw [hqs,hls] at G
  have G:=G.fresh 1 rfl
  obtain ⟨F,G⟩:=G.push 1 10 V V V kr
  obtain ⟨F,G⟩:=G.push 1 7 V V V kr
  obtain ⟨F,G⟩:=G.push 1 6 V V V kr
  obtain ⟨F,G⟩:=G.push 1 8 V V V kr
  obtain ⟨F,G⟩:=G.push 1 5 V V V kr
  obtain ⟨F,G⟩:=G.push 1 4 V V V kr
  obtain ⟨F,G⟩:=G.push 1 3 V V V kr
  obtain ⟨F,G⟩:=G.push 1 2 V V V kr
  have G:=G.turn 1 V (r':=RS.hp (coT (.pointer (some ⟨b,0,none⟩)) n q { sx with D:=touchD n q (U:Int) sx.D })) (fun _ _ _ _ h=>⟨hk,h⟩)
  obtain ⟨F,G⟩:=G.nM [36,9,8,2,1,0] [1,0]
  refine Ya (rZ G (qR rr (qO rr qZ)) J [8,2,1,0] [1,0] fun G=>(Yl (Zw ?_)))
  have G:=G.turn 1 V (r':=RS.hp (coT (.pointer (some ⟨b,0,none⟩)) n (stepQ n q (⟨kd,(U:Int),(Z:Int)⟩:Deed4)).1 (chS n q (⟨kd,(U:Int),(Z:Int)⟩:Deed4) sx))) (by rw [hqs];unfold chS;rw [Yf ⟨hthu,hthv⟩,Ye he0];exact fun _ _ _ _ h=>h)
  refine Zy hG G V (.tmp V .nil) (.one (.int V)) rfl
 have he0:(stepQ n q (⟨kd,(U:Int),(Z:Int)⟩:Deed4)).2=0:=by simpa using hc1
 refine Yg (Za (Ya ?_))
 obtain ⟨F,G⟩:=G.takeAt (Z5 n) 6 60 (U) V V (Zbe ow)
 replace G:=G.turn 60 V (r':=RS.hp (Z0 (Nn sx.ns U) n (nextQ q n (U:Int)))) (fun _ _ _ _ h=>h)
 obtain ⟨F,G⟩:=G.nM [36,9,8,2,1,0] [60,10,8,7,6,5,4,3,2,0]
 refine Zp G (qR rr (qf (o_nilCheck 2 .is (by rfl)) r1 r1 (qf (oF 1 2 .adr) r1 r1 (qa 2 r1 r1 (qR rr (qf (o_indexAddr_row (sz:=1) 4 (.mk YbB kr) .is .t ow ow (by rfl)) r2 r1 (qf (Zg (ag:=false) (sz':=1) (sz:=1) 4 .t (by intro x;rfl) (by rw [Yb];omega) kr kr kr) r1 r1 (qR rr (qR rr (qf (o_nilCheck 2 .is (by rfl)) r1 r1 (qf (oF 0 2 .adr) r1 r1 (qa 2 r1 r1 (qR rr (qR rr (qf (o_callG1 3 (arcsV_c sx.av n (stepQ n q (⟨kd,(U:Int),(Z:Int)⟩:Deed4)).1 (lastD n q sx.last (⟨kd,(U:Int),(Z:Int)⟩:Deed4)) (U:Int) (Z:Int)) func12 V kr (Args.three .t .t .t)) r3 r1 (qf (Zbq .t qi) r1 qz (qf (o_callG1 60 (setV_c (Nn sx.ns U) n (nextQ q n (U:Int)) (Z:Int) (decide (0<Zc8 n (stepQ n q (⟨kd,(U:Int),(Z:Int)⟩:Deed4)).1 (U:Int) (Z:Int)))) func25 V kr (Args.three .t .t .t)) r3 r1 qZ))))))))))))))))) J [8,1,0] [60,10,8,7,6,5,4,3,2,0] V V fun a w F G=>?_
 try dsimp only [List.map,xD,xE,xT,xU,ldSF,rV,rMk,Zj6,Zk] at G
 try simp only [Yb] at G
 rw [Zmv (q:=(stepQ n q (⟨kd,(U:Int),(Z:Int)⟩:Deed4)).1) ⟨hthu,hthv⟩] at G
 obtain ⟨F,G⟩:=G.putAt (Z5 n) (L:=famL sx.ns (fun k=>nextQ q n (k:Int))) (x:=(Nn sx.ns U,(putL (nextQ q n (U:Int)) n (Z:Int) (decide ((⟨(U:Int),(Z:Int)⟩:PairD) ∈ (stepQ n q (⟨kd,(U:Int),(Z:Int)⟩:Deed4)).1))))) 6 60 (U) (by rw [Zaj];omega) V V rfl
 rw [ZdC (ps:=sx.ns) (f:=(fun k=>nextQ q n (k:Int))) (g:=(fun k=>nextQ (stepQ n q (⟨kd,(U:Int),(Z:Int)⟩:Deed4)).1 n (k:Int))) (k:=U) (ZmH (d:=(⟨kd,(U:Int),(Z:Int)⟩:Deed4)) hthv rfl) (fun j _ hj=>Zmr (d:=(⟨kd,(U:Int),(Z:Int)⟩:Deed4)) (by show (j:Int)≠(U:Int);omega))] at G
 obtain ⟨F,G⟩:=G.nM [8,1,0] [10,8,7,6,5,4,3,2,0]
 have G:=G.fresh 1 rfl
 obtain ⟨F,G⟩:=G.push 1 10 V V V kr
 obtain ⟨F,G⟩:=G.push 1 7 V V V kr
 obtain ⟨F,G⟩:=G.push 1 6 V V V kr
 obtain ⟨F,G⟩:=G.push 1 8 V V V kr
 obtain ⟨F,G⟩:=G.push 1 5 V V V kr
 obtain ⟨F,G⟩:=G.push 1 4 V V V kr
 obtain ⟨F,G⟩:=G.push 1 3 V V V kr
 obtain ⟨F,G⟩:=G.push 1 2 V V V kr
 have G:=G.turn 1 V (r':=RS.hp (coT (.pointer (some ⟨b,0,none⟩)) n (stepQ n q (⟨kd,(U:Int),(Z:Int)⟩:Deed4)).1 { sx with D:=touchD n q (U:Int) sx.D,last:=lastD n q sx.last (⟨kd,(U:Int),(Z:Int)⟩:Deed4) })) (fun _ _ _ _ h=>⟨⟨hk.hi,stepQ_in hinn,(by have:=stepQ_len n q (⟨kd,(U:Int),(Z:Int)⟩:Deed4);omega),hk.nl,hk.kl,hk.ml,hk.up⟩,h⟩)
 obtain ⟨F,G⟩:=G.nM [8,1,0] [1,0]
 refine Za (Ya (rZ G (qR rr (qR rr (qf (o_callG1 1 (ZlQ b n (stepQ n q (⟨kd,(U:Int),(Z:Int)⟩:Deed4)).1 { sx with D:=touchD n q (U:Int) sx.D,last:=lastD n q sx.last (⟨kd,(U:Int),(Z:Int)⟩:Deed4) } (U:Int)) func57 V kr (Args.two .t .t)) r2 r1 qZ))) J [8] [1,0] fun G=>Ya ?_))
 refine rZ G (qI qZ) J [8] [1,0] fun G=>Yl ?_
 have G:=G.turn 1 V (r':=RS.hp (coT (.pointer (some ⟨b,0,none⟩)) n (stepQ n q (⟨kd,(U:Int),(Z:Int)⟩:Deed4)).1 (chS n q (⟨kd,(U:Int),(Z:Int)⟩:Deed4) sx))) (by unfold chS;rw [Yf ⟨hthu,hthv⟩,Yf he0];exact fun _ _ _ _ h=>h)
 refine Zy hG G V (.tmp V .nil) (.one (.int (by rw [he0]))) rfl
theorem Znj (b n:Nat) (q q0:List PairD) (u v:Int) (hq1:q.length<1000000):FnG prog 9 1 [.is (.pointer (some ⟨b,0,none⟩)),.int .i64 u,.int .i64 v] [coH (.pointer (some ⟨b,0,none⟩)) n q q0] (.int .i64 (stepQ n q (⟨0,u,v⟩:Deed4)).2) (fun _=>[coH (.pointer (some ⟨b,0,none⟩)) n (stepQ n q (⟨0,u,v⟩:Deed4)).1 q0]):=by
 refine FnG.mk func9 V ntmps9 V kr fun B F0 a w F J hG G=>?_
 obtain ⟨sx,G⟩:=G.open_ex 1 rfl
 obtain ⟨hk,G⟩:=G.open_and 1 rfl
 dsimp only [ZbZ] at G
 obtain ⟨F,G⟩:=G.peel 1 2 V rfl
 obtain ⟨F,G⟩:=G.peel 1 3 V rfl
 obtain ⟨F,G⟩:=G.peel 1 4 V rfl
 obtain ⟨F,G⟩:=G.peel 1 5 V rfl
 obtain ⟨F,G⟩:=G.peel 1 8 V rfl
 obtain ⟨F,G⟩:=G.peel 1 6 V rfl
 obtain ⟨F,G⟩:=G.peel 1 7 V rfl
 obtain ⟨F,G⟩:=G.peel 1 10 V rfl
 have hhi:=hk.hi
 have hnl:sx.ns.length=n:=hk.nl
 have hkl:sx.ks.length=n:=hk.kl
 have hml:sx.ms.length=n:=hk.ml
 have hinn:=hk.inn
 have hup:=hk.up
 have hql:=hk.len
 obtain ⟨F,G⟩:=G.nM [2,1,0] [10,8,7,6,5,4,3,2,0]
 refine Ya (rZ G (qI qZ) J [6,2,1,0] [10,8,7,6,5,4,3,2,0] fun G=>(Ya (Ya ?_)))
 refine rZ G (qR rr (qf (Zai _ YbO V .t) r1 qz qZ)) J [8,6,2,1,0] [10,8,7,6,5,4,3,2,0] fun G=>?_
 refine Zc G V (fun hc0=>?_) (fun hc0=>?_)
 ·simp at hc0
 refine Yg (Za (Ya (Zar 7 G kr (cG V (oM .t) r1 trivial (cG V (oM .t) r1 trivial (cG V (oM .t) r1 trivial (cG V (oM .t) r1 trivial (cG V (o_nilCheck 2 .is (by rfl)) r1 r1 (cG V (oF 0 2 .adr) r1 r1 (cG V (oL false 1 2 .adr) r1 r1 ChainN.nil))))))) kr (by rw [J];kernel_rfl) fun a w F G=>?_)))
 obtain ⟨F,G⟩:=G.nM [15,11,10,9,6] [10,8,7,6,5,4,3,2,0]
 try dsimp only [List.map,xD,xE,xT,xU,ldSF,rV,rMk,Zj6,Zk] at G
 have G:=G.fresh 1 rfl
 obtain ⟨F,G⟩:=G.push 1 10 V V V kr
 obtain ⟨F,G⟩:=G.push 1 7 V V V kr
 obtain ⟨F,G⟩:=G.push 1 6 V V V kr
 obtain ⟨F,G⟩:=G.push 1 8 V V V kr
 obtain ⟨F,G⟩:=G.push 1 5 V V V kr
 obtain ⟨F,G⟩:=G.push 1 4 V V V kr
 obtain ⟨F,G⟩:=G.push 1 3 V V V kr
 obtain ⟨F,G⟩:=G.push 1 2 V V V kr
 have G:=G.turn 1 V (r':=RS.hp (coT (.pointer (some ⟨b,0,none⟩)) n q sx)) (fun _ _ _ _ h=>⟨hk.toCoL,h⟩)
 obtain ⟨F,G⟩:=G.nM [15,11,10,9,6] [1,0]
 refine ZaJ G kr (cG V (Zd4 (Args.one .t)) r1 trivial (cG V (o_callG1 1 (Zic b n q sx u v 0 8 f8 func8 V kr (fun q last h9=>Zpa sx.av n q last u v h9) hq1) func29 V kr (Args.four .t .t .t .t)) r4 r1 (cG V (oN .t) r1 trivial ChainN.nil))) kr (by rw [J];kernel_rfl) fun a w F G=>?_
 obtain ⟨F,G⟩:=G.nM [6] [1,0]
 try dsimp only [rV,rMk,Zj6,Zk] at G
 refine Za (Yl ?_)
 have G:=G.turn 1 V (r':=RS.hp (coH (.pointer (some ⟨b,0,none⟩)) n (stepQ n q (⟨0,u,v⟩:Deed4)).1 q0)) (fun _ _ _ _ h=>⟨chS n q (⟨0,u,v⟩:Deed4) sx,hk.ch h.1,h.2⟩)
 refine Zy hG G V (.tmp V .nil) (.one .refl) rfl
theorem ZnY (b n:Nat) (q q0:List PairD) (u v:Int) (hq1:q.length<1000000):FnG prog 11 1 [.is (.pointer (some ⟨b,0,none⟩)),.int .i64 u,.int .i64 v] [coH (.pointer (some ⟨b,0,none⟩)) n q q0] (.int .i64 (stepQ n q (⟨1,u,v⟩:Deed4)).2) (fun _=>[coH (.pointer (some ⟨b,0,none⟩)) n (stepQ n q (⟨1,u,v⟩:Deed4)).1 q0]):=by
 refine FnG.mk func11 V ntmps11 V kr fun B F0 a w F J hG G=>?_
 obtain ⟨sx,G⟩:=G.open_ex 1 rfl
 obtain ⟨hk,G⟩:=G.open_and 1 rfl
 dsimp only [ZbZ] at G
 obtain ⟨F,G⟩:=G.peel 1 2 V rfl
 obtain ⟨F,G⟩:=G.peel 1 3 V rfl
 obtain ⟨F,G⟩:=G.peel 1 4 V rfl
 obtain ⟨F,G⟩:=G.peel 1 5 V rfl
 obtain ⟨F,G⟩:=G.peel 1 8 V rfl
 obtain ⟨F,G⟩:=G.peel 1 6 V rfl
 obtain ⟨F,G⟩:=G.peel 1 7 V rfl
 obtain ⟨F,G⟩:=G.peel 1 10 V rfl
 have hhi:=hk.hi
 have hnl:sx.ns.length=n:=hk.nl
 have hkl:sx.ks.length=n:=hk.kl
 have hml:sx.ms.length=n:=hk.ml
 have hinn:=hk.inn
 have hup:=hk.up
 have hql:=hk.len
 obtain ⟨F,G⟩:=G.nM [2,1,0] [10,8,7,6,5,4,3,2,0]
 refine Ya (rZ G (qI qZ) J [6,2,1,0] [10,8,7,6,5,4,3,2,0] fun G=>(Ya (Ya ?_)))
 refine rZ G (qR rr (qf (Zai _ YbO V .t) r1 qz qZ)) J [8,6,2,1,0] [10,8,7,6,5,4,3,2,0] fun G=>?_
 refine Zc G V (fun hc0=>?_) (fun hc0=>?_)
 ·simp at hc0
 refine Yg (Za (Ya (Zar 7 G kr (cG V (oM .t) r1 trivial (cG V (oM .t) r1 trivial (cG V (oM .t) r1 trivial (cG V (oM .t) r1 trivial (cG V (o_nilCheck 2 .is (by rfl)) r1 r1 (cG V (oF 0 2 .adr) r1 r1 (cG V (oL false 1 2 .adr) r1 r1 ChainN.nil))))))) kr (by rw [J];kernel_rfl) fun a w F G=>?_)))
 obtain ⟨F,G⟩:=G.nM [15,11,10,9,6] [10,8,7,6,5,4,3,2,0]
 try dsimp only [List.map,xD,xE,xT,xU,ldSF,rV,rMk,Zj6,Zk] at G
 have G:=G.fresh 1 rfl
 obtain ⟨F,G⟩:=G.push 1 10 V V V kr
 obtain ⟨F,G⟩:=G.push 1 7 V V V kr
 obtain ⟨F,G⟩:=G.push 1 6 V V V kr
 obtain ⟨F,G⟩:=G.push 1 8 V V V kr
 obtain ⟨F,G⟩:=G.push 1 5 V V V kr
 obtain ⟨F,G⟩:=G.push 1 4 V V V kr
 obtain ⟨F,G⟩:=G.push 1 3 V V V kr
 obtain ⟨F,G⟩:=G.push 1 2 V V V kr
 have G:=G.turn 1 V (r':=RS.hp (coT (.pointer (some ⟨b,0,none⟩)) n q sx)) (fun _ _ _ _ h=>⟨hk.toCoL,h⟩)
 obtain ⟨F,G⟩:=G.nM [15,11,10,9,6] [1,0]
 refine ZaJ G kr (cG V (Zd4 (Args.one .t)) r1 trivial (cG V (o_callG1 1 (Zic b n q sx u v 1 10 f10 func10 V kr (fun q last h9=>Zou sx.av n q last u v) hq1) func29 V kr (Args.four .t .t .t .t)) r4 r1 (cG V (oN .t) r1 trivial ChainN.nil))) kr (by rw [J];kernel_rfl) fun a w F G=>?_
 obtain ⟨F,G⟩:=G.nM [6] [1,0]
 try dsimp only [rV,rMk,Zj6,Zk] at G
 refine Za (Yl ?_)
 have G:=G.turn 1 V (r':=RS.hp (coH (.pointer (some ⟨b,0,none⟩)) n (stepQ n q (⟨1,u,v⟩:Deed4)).1 q0)) (fun _ _ _ _ h=>⟨chS n q (⟨1,u,v⟩:Deed4) sx,hk.ch h.1,h.2⟩)
 refine Zy hG G V (.tmp V .nil) (.one .refl) rfl
def msN (i:Nat):List (Int×List Int):=(List.range i).map fun k:Nat=>((k:Int),[])
theorem ZhG (i:Nat):(msN i).length=i:=by unfold msN;simp
theorem ZhU (i:Nat):msN (i+1)=msN i ++ [((i:Int),[])]:=by unfold msN;rw [YaR,Y7];rfl
theorem Zko {i k:Nat} (h:k<i):Nn (msN i) k=((k:Int),[]):=by rw [nth_eq (by rw [ZhG];exact h)];simp [msN]
theorem ZoU (i j:Nat) (h:i≤j):(msN i).countP (fun m=>decide (m.1=(j:Int)))=0:=by
 rw [List.countP_eq_zero]
 intro m hm
 unfold msN at hm
 obtain ⟨k,hk,rfl⟩:=YD.1 hm
 have:=Yae.1 hk
 simp;omega
theorem ZoL.new {es:List (GE Int Int)} {ck i:Nat} (h:ZoL es (msN i)):ZoL (gPut (i:Int) 1 (es,ck)).1 (msN (i+1)):=fun a=>by
 rw [Zmh,ZhU,List.countP_append]
 by_cases e:a=(i:Int)
 ·subst e;rw [Yf rfl,ZoU i i (YT _)];simp
 ·have e':¬ (i:Int)=a:=fun k=>e k.symm
  rw [Ye e,h a];simp [e']
theorem Zmy {x u:Int} : Zb8 [] x u ↔ x=u:=by
 unfold Zb8
 rw [ZeT];simp
theorem ZkZ {n k:Nat} (h:k<n):compQ n [] (k:Int) = [(k:Int)]:=by
 refine Zbm (Zdn n [] _).1 (List.pairwise_singleton _ _) fun x=>?_
 rw [ZaQ,Zmy,Yd]
 exact ⟨fun h=>h.2,fun e=>⟨by subst e;exact ⟨by omega,by omega⟩,e⟩⟩
theorem Zpp {n:Nat} : ZpM n [] (msN n):=fun k hk=>by
 rw [Zko hk]
 unfold Zj0 inQ
 rw [ZkZ hk]
 simp [nth_eq]
theorem Zob.new {n:Nat} (hn:n≤4096) {s:CoS} (h1:s.ns.length=n) (h2:s.ks.length=n) (h3:s.ms=msN n) (h4:ZoL s.es s.ms) (h5:s.D = []):Zob n [] [] s:=
 ⟨⟨hn,fun p hp=>(by cases hp),YA _,h1,h2,by rw [h3,ZhG],by rw [h5];exact Zlu⟩,by rw [h3];exact Zpp,h4,by rw [h5];exact ⟨Zlu,fun x _ _=>Zeu.refl _ _ _⟩⟩
theorem Zll (room:Int):FnG prog 6 1 [.int .i64 room] [gH Zez ZfU] (PV.ptr) (fun v=>[coH v (roomN room) [] []]):=by
 refine FnG.mk func6 V ntmps6 V kr fun B F0 a w F J hG G=>Ya ?_
 refine rZ G (qC qZ) J [2,0] [1,0] fun G=>Ya ?_
 replace G:=G.dupG 1 3 V rfl
 refine Ze G (qR rr (qf (Zak 3 (ZlN room) func5 V kr (Args.one .t) PV.ptr_one) r1 r1 (qf (ZeQ (ek:=(fun c:Int=>PV.int .i64 c)) (ok:=(fun _:Int=>True)) (kv:=(fun n:Int=>Value.int .i64 n)) 101) trivial qz (qf (oB [(0,.tmp 6),(3,.tmp 7)] [.pointer none,.slice none 0 0,.slice none 0 0,.map none,.pointer none] [(0,1),(1,1),(2,1),(3,1),(4,1)] (.same V kr (.same V kr .nil))) r2 qz (qf (oX 102 .t) r1 qz (qO rr qZ)))))) J [3,2] [102,101,3,1,0] (fun _=>rfl) (fun _=>rfl) fun τ a w F G=>?_
 try dsimp only [RS.sub,SF.sub,CF.sub,csub,Anc.sub,List.map,Zh,xL,xM,Nat.reduceAdd,xD,xE,xT,xU,xC,xN,zCF,rV,rMk,Zj6,Zk] at G
 generalize τ 9=v9,τ 6=v6,τ 7=v7 at G
 replace G:=G.turn 3 V (r':=RS.hp (clH v6 (roomN room) [] [])) (fun _ _ _ _ h=>h)
 refine Za (Ya (Ya (Zb G (qR rr (qf (o_nilCheck 102 .is (by rfl)) r1 r1 (qf (oF 0 102 .adr) r1 r1 (qa 102 r1 r1 (qf (OpC.lend 3 [13] ZaZ (oP (ZbJ (roomN room) []) func22 (Args.one .t)) ⟨rfl,tv⟩ (.pv (fun _ _ _ _ h=>h)) trivial (by rfl)) r1 r1 (qJ qZ)))))) J [15,14,3,2] [102,101,3,1,0] V V fun a w F G=>?_)))
 replace G:=G.fresh 50 rfl
 replace G:=G.turn 50 V (Z1 (T:=51) (sz:=1) (R:=rV))
 replace G:=G.fresh 51 rfl
 replace G:=G.turn 51 V (Z1 (T:=59) (sz:=2) (R:=rMk))
 replace G:=G.turn 51 V (r':=.ob (.val (.slice none 0 0)) (Zo 59 2 rMk (mkL [] (msN 0)))) (fun _ _ _ _ h=>h)
 obtain ⟨F,G⟩:=G.nM [15,14,3,2] [102,101,51,50,3,1,0]
 replace G:=G.fresh 60 rfl
 replace G:=G.turn 60 V (r':=Zaw (Z5 (roomN room)) (famL [] (fun k=>nextQ [] (roomN room) (k:Int)))) (fun _ _ _ _ h=>h)
 obtain ⟨F,G⟩:=G.nM [15,14,3,2] [102,101,60,51,50,3,1,0]
 replace G:=G.fresh 61 rfl
 replace G:=G.turn 61 V (r':=Zaw (Z5 (roomN room)) (famL [] (fun _:Nat=>([]:List Int)))) (fun _ _ _ _ h=>h)
 obtain ⟨F,G⟩:=G.nM [15,14,3,2] [102,101,61,60,51,50,3,1,0]
 refine Za (Yk (Zl (σ:=Nat×Value×List Value×Value×List Value×List (GE Int Int)×Nat) [2,3,14] [0,1,3] (fun s=>[(15,.pv (.int .i64 (s.1:Int)))]) (fun s=>[(102,.pt (.val v9) 56 [.pv (.is v6),.pv (.is s.2.1),.pv (.is s.2.2.2.1),.pv (.is v7),.pv (.is (.pointer none))]),(101,.ob (.val v7) (Zj6 s.2.2.2.2.2.1 s.2.2.2.2.2.2)),(50,.ob (.val s.2.1) (Zo 51 1 rV s.2.2.1)),(51,.ob (.val s.2.2.2.1) (Zo 59 2 rMk (mkL s.2.2.2.2.1 (msN s.1)))),(60,Zaw (Z5 (roomN room)) (famL s.2.2.1 (fun k=>nextQ [] (roomN room) (k:Int)))),(61,Zaw (Z5 (roomN room)) (famL s.2.2.2.2.1 (fun _:Nat=>([]:List Int))))]) (fun s=>s.1≤(roomN room)∧s.2.2.1.length=s.1∧s.2.2.2.2.1.length=s.1∧ZoL s.2.2.2.2.2.1 (msN s.1)) (fun s=>(roomN room) - s.1) ((0),(.slice none 0 0),([]),(.slice none 0 0),([]),([]),(0)) G ⟨rfl,rfl,rfl,rfl,tv⟩ ⟨rfl,rfl,rfl,rfl,rfl,rfl,rfl,rfl,rfl,tv⟩ ⟨YA _,rfl,rfl,fun _=>rfl⟩ ?_))
 clear G;intro s a w F hC G
 obtain ⟨i,u1,p1,u2,p2,es,ck⟩:=s
 try dsimp only at hC
 obtain ⟨F,G⟩:=G.nM [15,14,3,2] [102,101,61,60,51,50,3,1,0]
 try dsimp only at G
 obtain ⟨hi,hp1,hp2,hsz⟩:=hC
 refine Ya (rZ G (qL r2) J [16,15,14,3,2] [102,101,61,60,51,50,3,1,0] fun G=>Ya ?_)
 refine Zc G V (fun hc0=>?_) (fun hc0=>?_)
 ·have hil:i<(roomN room):=by simp at hc0;omega
  have hrl:=ZaA room
  refine Yg (Za (Ya (Yk (Ya (rZ G (qR rr (qO rr qZ)) J [15,14,4,3,2] [102,101,61,60,51,50,3,1,0] fun G=>Ya ?_)))))
  replace G:=G.dupG 1 70 V rfl
  refine Zac G (qR rr (qR rr (qf (o_nilCheck 102 .is (by rfl)) r1 r1 (qf (oF 1 102 .adr) r1 r1 (qa 102 r1 r1 (qR rr (qf (o_nilCheck 102 .is (by rfl)) r1 r1 (qf (oF 0 102 .adr) r1 r1 (qa 102 r1 r1 (qf (OpC.lend 3 [26] ZaZ (oP (ZbJ (roomN room) []) func22 (Args.one .t)) ⟨rfl,tv⟩ (.pv (fun _ _ _ _ h=>h)) trivial (by rfl)) r1 r1 (qf (Zak 70 (Ze1 ((roomN room):Int)) func21 V kr (Args.one .t) PV.ptr_one) r1 r1 (qf (Zfs (i:=28) (j:=28) (p:=fun z=>.arr 1 [.is z]) (by rfl) (fun z=>o_buildSliceE (sz:=1) (zs:=[.pointer none]) (r:=[(0,.tmp 28)]) (l:=[_]) YbB kr kr kr kr V V (.one V .t one_is kr .nil) V)) r1 qz (qf (Zi9 (i:=29) (j:=28) (by rfl) (fun z=>ZB (sz:=1) (bs:=8) 50 (.mk' YbB kr kr) (by intro x;rfl) .is (.arr (l':=[z]) .t) (by simp only [Yc,Yx,YS,Zkq];omega) (by decide))) ⟨rfl,rfl,tv⟩ ⟨rfl,tv⟩ (qf (o_nilCheck 102 .is (by rfl)) r1 r1 (qf (oF 1 102 .adr) r1 r1 (qf (o_storeS 102 .adr kr kr) r2 r1 qZ)))))))))))))))) J [15,14,4,3,2] [102,101,70,61,60,51,50,3,1,0] (fun _=>rfl) (fun _=>rfl) fun τ a w F G=>?_
  try dsimp only [RS.sub,SF.sub,CF.sub,csub,Anc.sub,List.map,Zh,xL,xM,Nat.reduceAdd,xD,xE,xT,xU,xC,xN,zCF,ldSF,rV,rMk,Zj6,Zk] at G
  generalize τ 28=v28,τ 30=v30 at G
  rw [ZbL ow] at G
  replace G:=G.turn 70 V (r':=RS.hp (Z5 (roomN room) (v28,[]))) (fun _ _ _ _ h=>h)
  obtain ⟨F,G⟩:=Sat.pushFam (Z5 (roomN room)) (L:=famL p1 (fun k=>nextQ [] (roomN room) (k:Int))) (x:=(v28,[])) G 60 70 V V rfl
  rw [ZbG (by exact (ZgK _ _).symm)] at G
  obtain ⟨F,G⟩:=G.nM [15,14,4,3,2] [102,101,61,60,51,50,3,1,0]
  refine Za (Ya ?_)
  replace G:=G.dupG 1 71 V rfl
  refine Zac G (qR rr (qR rr (qf (o_nilCheck 102 .is (by rfl)) r1 r1 (qf (oF 2 102 .adr) r1 r1 (qa 102 r1 r1 (qR rr (qR rr (qf (o_nilCheck 102 .is (by rfl)) r1 r1 (qf (oF 0 102 .adr) r1 r1 (qa 102 r1 r1 (qf (OpC.lend 3 [42] ZaZ (oP (ZbJ (roomN room) []) func22 (Args.one .t)) ⟨rfl,tv⟩ (.pv (fun _ _ _ _ h=>h)) trivial (by rfl)) r1 r1 (qf (Zak 71 (Ze1 ((roomN room):Int)) func21 V kr (Args.one .t) PV.ptr_one) r1 r1 (qf (oB [(0,.tmp 38),(1,.tmp 44)] [.int .i64 0,.pointer none] [(0,1),(1,1)] (.one V .t one_int kr (.same V kr .nil))) r2 qz (qf (Zoi (i:=45) (j:=44) (p:=fun z=>.arr 1 [.int .i64 (i:Int),.is z]) (cs:=fun z=>[.pv (.int .i64 (i:Int)),.pv (.is z)]) (by rfl) ZmZ (fun z=>o_buildSliceE (sz:=2) (zs:=[.int .i64 0,.pointer none]) (r:=[(0,.tmp 45)]) (l:=[_,_]) underlying54 kr kr kr kr V V (.agg V .t kr kr .nil) V)) r1 qz (qf (Zi9 (i:=46) (j:=44) (by rfl) (fun z=>ZB (sz:=2) (bs:=16) 51 (.mk' underlying54 kr kr) (by intro x;rfl) .is (.arr (l':=[((i:Int),z)]) .t) (by simp only [Yc,Yx,YS,Zkq];omega) (by decide))) ⟨rfl,rfl,tv⟩ ⟨rfl,tv⟩ (qf (o_nilCheck 102 .is (by rfl)) r1 r1 (qf (oF 2 102 .adr) r1 r1 (qf (o_storeS 102 .adr kr kr) r2 r1 qZ)))))))))))))))))) J [15,14,4,3,2] [102,101,71,61,60,51,50,3,1,0] (fun _=>rfl) (fun _=>rfl) fun τ a w F G=>?_
  try dsimp only [RS.sub,SF.sub,CF.sub,csub,Anc.sub,List.map,Zh,xL,xM,Nat.reduceAdd,xD,xE,xT,xU,xC,xN,zCF,ldSF,rV,rMk,Zj6,Zk] at G
  generalize τ 44=v44,τ 47=v47 at G
  rw [ZbL ow] at G
  replace G:=G.turn 71 V (r':=RS.hp (Z5 (roomN room) (v44,[]))) (fun _ _ _ _ h=>h)
  obtain ⟨F,G⟩:=Sat.pushFam (Z5 (roomN room)) (L:=famL p2 (fun _:Nat=>([]:List Int))) (x:=(v44,[])) G 61 71 V V rfl
  rw [ZbG (by exact (rfl).symm)] at G
  obtain ⟨F,G⟩:=G.nM [15,14,4,3,2] [102,101,61,60,51,50,3,1,0]
  rw [show mkL p2 (msN i) ++ [((i:Int),v44)] = mkL (p2 ++ [v44]) (msN (i+1)) from by rw [ZhU];exact Eq.symm (Zmw (ks:=p2) (ms:=msN i) (m:=((i:Int),[])) (by have:=ZhG i;omega))] at G
  refine Za (Zb G (qR rr (qf (o_nilCheck 102 .is (by rfl)) r1 r1 (qf (oF 3 102 .adr) r1 r1 (qa 102 r1 r1 (qR rr (qf (Zg4 (ek:=(fun c:Int=>PV.int .i64 c)) 101 underlying53 (Zm1 YbG) .is (ZC.int .t V) qi) r2 r1 qZ)))))) J [15,14,3,2] [102,101,61,60,51,50,3,1,0] V V fun a w F G=>Zi (Za ?_))
  refine rZ G (qp r1 (qR rr qZ)) J [15,14,3,2] [102,101,61,60,51,50,3,1,0] fun G=>?_
  replace G:=G.ent (i:=15) (s':=.pv (.int .i64 ((i+1:Nat):Int))) V (.int (Zf ow))
  obtain ⟨F,G⟩:=G.nM [14,3,2,15] [3,1,0,61,60,51,50,101,102]
  exact ⟨((i+1),(v30),((p1 ++ [v28])),(v47),((p2 ++ [v44])),((gPut (i:Int) 1 (es,ck)).1),((gPut (i:Int) 1 (es,ck)).2)),F,⟨by omega,by rw [Yc,Yp,hp1],by rw [Yc,Yp,hp2],hsz.new⟩,G,(by show _ - (i+1)<_ - i;omega)⟩
 have hil:i=(roomN room):=by simp at hc0;omega
 have hrl:=ZaA room
 subst hil
 replace G:=G.turn 61 V (r':=Zaw (Z5 (roomN room)) (famL p2 fun k=>(Nn (msN (roomN room)) k).2)) (by rw [← Za9 (ps:=p2) (f:=(fun _:Nat=>([]:List Int))) (g:=fun k=>(Nn (msN (roomN room)) k).2) (fun k hk=>by rw [Zko ow])];exact fun _ _ _ _ h=>h)
 refine YI (Zm (Zm (Zu (Za (Ya ?_)))))
 replace G:=G.dupG 1 72 V rfl
 refine Ze G (qR rr (qR rr (qf (o_nilCheck 102 .is (by rfl)) r1 r1 (qf (oF 0 102 .adr) r1 r1 (qa 102 r1 r1 (qf (OpC.lend 3 [60] ZaZ (oP (ZbJ (roomN room) []) func22 (Args.one .t)) ⟨rfl,tv⟩ (.pv (fun _ _ _ _ h=>h)) trivial (by rfl)) r1 r1 (qf (Zak 72 (Ze1 ((roomN room):Int)) func21 V kr (Args.one .t) PV.ptr_one) r1 r1 (qf (o_nilCheck 102 .is (by rfl)) r1 r1 (qf (oF 4 102 .adr) r1 r1 (qf (o_storeS 102 .adr kr kr) r2 r1 qZ)))))))))) J [3,2] [102,101,72,61,60,51,50,3,1,0] (fun _=>rfl) (fun _=>rfl) fun τ a w F G=>?_
 try dsimp only [RS.sub,SF.sub,CF.sub,csub,Anc.sub,List.map,Zh,xL,xM,Nat.reduceAdd,xD,xE,xT,xU,xC,xN,zCF,ldSF,rV,rMk,Zj6,Zk] at G
 generalize τ 62=v62 at G
 rw [ZbL ow] at G
 refine Za (Ya (rZ G (qR rr (qO rr qZ)) J [2] [102,101,72,61,60,51,50,3,1,0] fun G=>Yl ?_))
 replace G:=G.turn 72 V (r':=RS.hp (Z0 v62 (roomN room) [])) (fun _ _ _ _ h=>h)
 obtain ⟨b,rfl⟩:=G.shape 102 rfl
 obtain ⟨F,G⟩:=G.nM [2] [102,101,72,61,60,51,50,3,0]
 have G:=G.fresh 1 rfl
 obtain ⟨F,G⟩:=G.push 1 72 V V V kr
 obtain ⟨F,G⟩:=G.push 1 61 V V V kr
 obtain ⟨F,G⟩:=G.push 1 60 V V V kr
 obtain ⟨F,G⟩:=G.push 1 101 V V V kr
 obtain ⟨F,G⟩:=G.push 1 51 V V V kr
 obtain ⟨F,G⟩:=G.push 1 50 V V V kr
 obtain ⟨F,G⟩:=G.push 1 3 V V V kr
 obtain ⟨F,G⟩:=G.push 1 102 V V V kr
 have G:=G.turn 1 V (r':=RS.hp (coH (.pointer (some ⟨b,0,none⟩)) (roomN room) [] [])) (fun _ _ _ _ h=>⟨(⟨v6,u1,u2,v7,v62,p1,p2,msN (roomN room),es,ck,[],[]⟩:CoS),Zob.new (ZaA room) (by show p1.length=_;omega) (by show p2.length=_;omega) V hsz rfl,h⟩)
 refine ZU (h':=fun v=>coH v (roomN room) [] []) hG G V (.tmp V .nil) (.one .ptr) rfl
end Go.Proofs.YtlaaiihdhockcaaGreatDoor
