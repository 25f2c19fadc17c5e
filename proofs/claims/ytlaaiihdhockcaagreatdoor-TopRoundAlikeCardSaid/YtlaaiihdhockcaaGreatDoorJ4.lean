/- Laws and walks. No condition beyond what each says. -/
import Derived.Shelf.Sort.Plain
import Derived.Shelf.Slices.In.SortNone
import Derived.Test.YtlaaiihdhockcaaGreatDoorJ3
namespace Go.Proofs.YtlaaiihdhockcaaGreatDoor
open Go Go.Gm Tryz
set_option linter.unusedVariables false
set_option linter.unusedSimpArgs false
set_option maxHeartbeats 4000000
set_option maxRecDepth 8000
structure ZL where
 kind:Int
 label:Int
 node:Int
 deriving DecidableEq,Inhabited
def Z9 (e:ZL):List PV:=[.int .i64 e.kind,.int .i64 e.label,.int .i64 e.node]
def Zan (l:List ZL):List PV:=[.sl Z9 l]
def Zj4 (p:Value×List ZL):HP:=Zo 73 3 Z9 p.2 p.1
def Zdi (hs:List Value) (L:List (List ZL)):List (Value×List ZL):=(List.range hs.length).map fun k=>(Nn hs k,Nn L k)
theorem Zij (hs:List Value) (L:List (List ZL)):(Zdi hs L).length=hs.length:=by unfold Zdi;simp
theorem Zkj {hs:List Value} {L:List (List ZL)} {k:Nat} (h:k<hs.length):(Zdi hs L)[k]? = some (Nn hs k,Nn L k):=by unfold Zdi;simp [h]
theorem Zmz (hs:List Value) (L:List (List ZL)):(Zdi hs L).map (·.1)=hs:=by
 apply Y4 (by simp [Zdi])
 intro j h1 h2
 simp [Zdi,nth_eq h2]
theorem Zme {hs:List Value} {L:List (List ZL)} (h:hs.length=L.length):(Zdi hs L).map (·.2)=L:=by
 apply Y4 (by simp [Zdi,h])
 intro j h1 h2
 simp [Zdi,nth_eq h2]
def ZfX (L:List (List ZL)) (v:Value):HP:=.ex fun hs:List Value=>.and (hs.length=L.length) (.star [.ob (.val v) (Zo 76 1 rV hs),Zaw Zj4 (Zdi hs L)])
theorem Zh0 {w:World} {y y':Ys} : ∀ {ps:List (Value×List ZL)} {xs:List Value},PVs ((ps.map (·.1)).flatMap rV) xs w y→(∀ p ∈ ps,(PV.sl Z9 p.2).p p.1 w y')→PVs ((ps.map (·.2)).flatMap Zan) xs w y'
 | [],[],_,_=>trivial
 | p :: ps,x :: xs,h,k=>by
  have e:x=p.1:=h.1.2.1
  refine ⟨⟨h.1.1,?_⟩,Zh0 (ps:=ps) h.2 fun q hq=>k q (Yw _ hq)⟩
  rw [e];exact k p Y0
 | [],_ :: _,h,_=>h.elim
 | _ :: _,[],h,_=>h.elim
theorem Zgr {L:List (List ZL)} {v:Value} : Zlr (ZfX L v) v (.sl Zan L):=fun w f y y' ⟨hs,hl,h⟩ hle hf hb=>by
 obtain ⟨f1,g1,g2⟩:=ZK h (.ob (.val v) (Zo 76 1 rV hs)) (by simp)
 obtain ⟨f2,m1,m2⟩:=ZK h (Zaw Zj4 (Zdi hs L)) (by simp)
 have hrow:(Zo 76 1 rV hs v).p w f1 y:=g2
 have hfam:stars w y ((Zdi hs L).map fun x=>RS.hp (Zj4 x)) f2:=m2
 obtain ⟨xs,k1,k2,k3⟩:=hrow
 obtain ⟨ad,cap,e8,h8,h9,h10⟩:=Zs k1
 rw [hl] at e8 h8
 refine ⟨ad,cap,e8,h8,h9,?_⟩
 rcases h10 with h10 | ⟨b',rfl,h11,h12⟩
 ·exact .inl (YC (by rw [← hl];exact h10))
 ·have hb':f1 b':=(k3 b').2 h11
  refine .inr ⟨b',0,xs,rfl,hf b' (g1 b' hb'),hb b' (g1 b' hb'),h12,?_⟩
  have key:=Zh0 (y:=y) (y':=y') (ps:=Zdi hs L) (xs:=xs) (w:=w) (by rw [Zmz];exact k2) fun p hp=>by
   obtain ⟨f3,n1,n2⟩:=ZK hfam (RS.hp (Zj4 p)) (YD.2 ⟨p,hp,rfl⟩)
   exact ZfL w f3 y y' n2 hle (fun b h=>hf b (m1 b (n1 b h))) (fun b h=>hb b (m1 b (n1 b h)))
  rwa [Zme hl] at key
def Zj7 (O I:List (List ZL)) (n:Nat) (v:Value):HP:=.ex fun ov:Value=>.ex fun iv:Value=>.star [.pt (.val v) 62 [.pv (.is ov),.pv (.is iv),.pv (.int .i64 n)],RS.hp (ZfX O ov),RS.hp (ZfX I iv)]
abbrev ZeF (O I:List (List ZL)) (n:Nat):PV:=.ref [.sl Zan O,.sl Zan I,.int .i64 n]
theorem ZdB {O I:List (List ZL)} {n:Nat} {v:Value} : Zlr (Zj7 O I n v) v (ZeF O I n):=fun w f y y' ⟨ov,iv,h⟩ hle hf hb=>by
 obtain ⟨f1,g1,g2⟩:=ZK h (.pt (.val v) 62 [.pv (.is ov),.pv (.is iv),.pv (.int .i64 n)]) (by simp)
 obtain ⟨f2,m1,m2⟩:=ZK h (RS.hp (ZfX O ov)) (by simp)
 obtain ⟨f3,n1,n2⟩:=ZK h (RS.hp (ZfX I iv)) (by simp)
 have hO:=Zgr w f2 y y' m2 hle (fun b k=>hf b (m1 b k)) (fun b k=>hb b (m1 b k))
 have hI:=Zgr w f3 y y' n2 hle (fun b k=>hf b (n1 b k)) (fun b k=>hb b (n1 b k))
 obtain ⟨b,vs,k1,k2,k3,k4⟩:=g2
 have hb1:f1 b:=(k3 b).2 rfl
 refine ⟨b,0,vs.toList,k1,hf b (g1 b hb1),hb b (g1 b hb1),Zn.mk fun j u hj=>?_,?_⟩
 ·simp only [YG]
  simp [World.cell?,k2]
  simpa using hj
 ·generalize vs.toList=us at k4
  match us,k4 with
  | [u1,u2,u3],k4=>
   have e1:u1=ov:=k4.1.2.1
   have e2:u2=iv:=k4.2.1.2.1
   refine ⟨⟨k4.1.1,?_⟩,⟨k4.2.1.1,?_⟩,⟨k4.2.2.1.1,k4.2.2.1.2⟩,tv⟩
   ·rw [e1];exact hO
   ·rw [e2];exact hI
def endO (x:ZT):ZL:=⟨x.kind,x.label,x.dst⟩
def endI (x:ZT):ZL:=⟨x.kind,x.label,x.src⟩
def ofB (mask kind:Int):Bool:=decide (bits .and .i64 (mask.fdiv (2 ^ min (IntKind.wrap .u64 kind).toNat (IntKind.bits .i64))) 1=1)
def Zam (n:Nat) (x:ZT):Bool:=(((((decide (0≤x.src∧x.src<n)) && decide (0≤x.dst∧x.dst<n)) && decide (1≤x.kind)) && decide (x.kind≤3)) && decide (0≤x.label)) && decide (x.label≤1048575)
theorem ZbB (O I:List (List ZL)) (m:Nat):FnP prog 37 [ZeF O I m] (.int .i64 (O.length:Int)):=by
 refine FnP.mk func37 V ntmps37 V fun B a w F J hfr G=>Ya ?_
 refine rZ G (qI qZ) J [2,0] [0] fun G=>(Ya (Ya ?_))
 refine rZ G (qR rr (qf (Zab underlying28 .t) r1 qz qZ)) J [4,2,0] [0] fun G=>?_
 refine Zc G V (fun hc0=>?_) (fun hc0=>?_)
 ·simp at hc0
 refine Yg (Za (Ya (rZ G (qR rr (qf (o_nilCheck_ref .t) r1 qz (qf (oG 0 .t) r1 qz (qf (oR false 1 .t) r1 qz (qu YbK r1 (qO rr qZ)))))) J [2] [0] fun G=>Yl ?_)))
 refine Zz hfr G V V V .refl
theorem Zdp (O I:List (List ZL)) (m:Nat) (u:Int):FnP prog 60 [ZeF O I m,.int .i64 u] (.bool (decide (0≤u∧u<O.length))):=by
 refine FnP.mk func60 V ntmps60 V fun B a w F J hfr G=>Ya ?_
 refine rZ G qB J [4,1,0] [0] fun G=>Ya ?_
 refine rZ G (qR rr (qf (Zb6 .t qi) r1 qz (qR rr (qm V V V V (qm V V V V (qk V (fun h=>oP (ZbB O I m) func37 (Args.one (.w h))) r2 qz (qk V (fun h=>Zbg (.w h) (.w h)) r3 qz (qf (ZF .t .t) r2 qz (qO rr qZ))))))))) J [4] [0] fun G=>Yl ?_
 refine Zz hfr G V V V (.bool (by by_cases h:0≤u <;> simp [h]))
theorem Zgf (O I:List (List ZL)) (m:Nat) (x:ZT):FnP prog 33 [ZeF O I m,.agg (ZbD x)] (.bool (Zam O.length x)):=by
 refine FnP.mk func33 V ntmps33 V fun B a w F J hfr G=>Ya ?_
 refine Ze G (qx 101 r1 qB) J [4,3,0] [101,0] (fun _=>rfl) (fun _=>rfl) fun τ a w F G=>?_
 try dsimp only [RS.sub,SF.sub,CF.sub,csub,Anc.sub,List.map,zCF,Z9,Zan,Zk,ZbD] at G
 generalize τ 3=v3 at G
 refine Za (Ya (rZ G (qR rr (qg 0 101 r1 r1 (qa 101 r1 r1 (qf (oP (Zdp O I m x.src) func60 (Args.two .t .t)) r2 qz (qR rr (qm V V V V (qv 1 101 V r2 r1 (qw 101 V r2 r1 (qk V (fun h=>oP (Zdp O I m x.dst) func60 (Args.two (.w h) (.w h))) r3 qz (qf (ZF .t .t) r2 qz (qR rr (qv 2 101 V r2 r1 (qw 101 V r2 r1 (qk V (fun h=>Zb6 (.w h) qi) r2 qz (qf (ZF .t .t) r2 qz (qR rr (qv 2 101 V r2 r1 (qw 101 V r2 r1 (qk V (fun h=>Zpm (.w h) qi) r2 qz (qf (ZF .t .t) r2 qz (qR rr (qv 3 101 V r2 r1 (qw 101 V r2 r1 (qk V (fun h=>Zb6 (.w h) qi) r2 qz (qf (ZF .t .t) r2 qz (qR rr (qv 3 101 V r2 r1 (qw 101 V r2 r1 (qk V (fun h=>Zpm (.w h) qi) r2 qz (qf (ZF .t .t) r2 qz (qO rr qZ))))))))))))))))))))))))))))))) J [4] [0] fun G=>Yl ?_))
 refine Zz hfr G V V V (.bool (by unfold Zam;simp))
theorem ZiG (x:ZT):FnP prog 35 [.agg (ZbD x)] (.tup [.agg (Z9 (endO x)),.agg (Z9 (endI x))]):=by
 refine FnP.mk func35 V ntmps35 V fun B a w F J hfr G=>Ya ?_
 refine Ze G (qx 101 r1 (qf (oH [.int .i64 0,.int .i64 0,.int .i64 0] 102) trivial qz (qf (oH [.int .i64 0,.int .i64 0,.int .i64 0] 103) trivial qz qZ))) J [3,2,1] [103,102,101,0] (fun _=>rfl) (fun _=>rfl) fun τ a w F G=>?_
 try dsimp only [RS.sub,SF.sub,CF.sub,csub,Anc.sub,List.map,zCF,Z9,Zan,Zk,ZbD] at G
 generalize τ 1=v1,τ 2=v2,τ 3=v3 at G
 refine Za (Ya (Zp G (qg 2 101 r1 r1 (qa 101 r1 r1 (qg 3 101 r1 r1 (qa 101 r1 r1 (qg 1 101 r1 r1 (qa 101 r1 r1 (qf (oB [(0,.tmp 5),(1,.tmp 7),(2,.tmp 9)] [.int .i64 0,.int .i64 0,.int .i64 0] [(0,1),(1,1),(2,1)] (.one V .t one_int kr (.one V .t one_int kr (.one V .t one_int kr .nil)))) r3 qz (qg 2 101 r1 r1 (qa 101 r1 r1 (qg 3 101 r1 r1 (qa 101 r1 r1 (qg 0 101 r1 r1 (qa 101 r1 r1 (qf (oB [(0,.tmp 12),(1,.tmp 14),(2,.tmp 16)] [.int .i64 0,.int .i64 0,.int .i64 0] [(0,1),(1,1),(2,1)] (.one V .t one_int kr (.one V .t one_int kr (.one V .t one_int kr .nil)))) r3 qz (qs 3 102 r2 r1 (qs 3 103 r2 r1 qZ)))))))))))))))) J [3,2] [103,102,0] V V fun a w F G=>?_))
 try dsimp only [List.map,Zh,xL,xM,Nat.reduceAdd,xD,xE,xT,xU,xC,xN,zCF,ldSF,Z9,Zan,Zk,ZbD] at G
 refine Za (Yl (Zdj hfr G V (.cl 102 true 3 V V (.cl 103 true 3 V V .nil)) (.two (.aggU V V) (.aggU V V))))
theorem Zpj (mask kind:Int):FnP prog 86 [.int .i64 mask,.int .i64 kind] (.bool (ofB mask kind)):=by
 refine FnP.mk func86 V ntmps86 V fun B a w F J hfr G=>Ya ?_
 refine rZ G qB J [4,1,0] [0] fun G=>Ya ?_
 refine rZ G (qR rr (qR rr (qf (o_conv YbF kr .t) r1 qz (qf (Zb4 .t .t  (by rw [Zbd];omega)) r2 qz (qf (o_and .t qi) r1 qz (qf (o_eql .t qi) r1 qz (qO rr qZ))))))) J [4] [0] fun G=>Yl ?_
 refine Zz hfr G V V V (.bool V)
def Zhb (v:Int):List Int→Int
 | []=>-1
 | x :: l=>if x=v then 0 else if Zhb v l<0 then -1 else Zhb v l+1
theorem ZdM {v:Int} : ∀ {l:List Int},(∀ k,k<l.length→Nn l k≠v)→Zhb v l = -1
 | [],_=>rfl
 | x :: l,h=>by
  have h0:x≠v:=h 0 (by simp)
  rw [Zhb,Ye h0,ZdM (l:=l) fun k hk=>by have:=h (k+1) (by simpa using hk);exact this,Yf (by decide)]
theorem ZkV {v:Int} : ∀ {l:List Int} {i:Nat},i<l.length→Nn l i=v→(∀ k,k<i→Nn l k≠v)→Zhb v l=i
 | [],i,h,_,_=>by simp at h
 | x :: l,0,_,h,_=>by rw [Zhb,Yf (show x=v from h)];rfl
 | x :: l,i+1,h,h1,h2=>by
  have h0:x≠v:=h2 0 ow
  have:=ZkV (l:=l) (i:=i) (by simpa using h) h1 fun k hk=>h2 (k+1) ow
  rw [Zhb,Ye h0,this,Ye ow];omega
theorem Zml {v:Int} {l:List Int} (h:v ∈ l):∃ i:Nat,Zhb v l=i∧i<l.length∧Nn l i=v ∧ ∀ k,k<i→Nn l k≠v:=by
 induction l with
 | nil=>cases h
 | cons x l ih=>
  by_cases hx:x=v
  ·exact ⟨0,by rw [Zhb,Yf hx];rfl,by simp,hx,fun k hk=>absurd hk (YaH k)⟩
  ·obtain ⟨i,h1,h2,h3,h4⟩:=ih (by rcases Yh.1 h with h | h;exact absurd h.symm hx;exact h)
   refine ⟨i+1,by rw [Zhb,Ye hx,h1,Ye ow];omega,by simpa using h2,h3,fun k hk=>?_⟩
   cases k with
   | zero=>exact hx
   | succ k=>exact h4 k ow
theorem ZmR {v:Int} {l:List Int} (h:v ∉ l):Zhb v l = -1:=ZdM fun k hk e=>h (e ▸ nth_mem hk)
theorem ZmP {v:Int} {l:List Int} : 0≤Zhb v l ↔ v ∈ l:=by
 constructor
 ·intro h
  by_cases hm:v ∈ l
  ·exact hm
  ·rw [ZmR hm] at h;omega
 ·intro h
  obtain ⟨i,h1,_⟩:=Zml h
  omega
def ZdF (l:List Int):Prop:=(∀ x ∈ l,1≤x∧x≤1048575)∧l.Nodup
instance (l:List Int):Decidable (ZdF l):=by unfold ZdF;exact inferInstance
theorem ZdF.take {l:List Int} (h:ZdF l) (i:Nat):ZdF (l.take i):=⟨fun x hx=>h.1 x (List.mem_of_mem_take hx),h.2.sublist (List.take_sublist i l)⟩
def leI (x y:Int):Bool:=decide (x≤y)
def ZkX (a b:List Int):Prop:=ZdF a∧ZdF b∧a.Perm b
instance (a b:List Int):Decidable (ZkX a b):=by unfold ZkX;exact inferInstance
def Zgy:Go.Shelf.Ren:=⟨fun | 189=>44 | 125=>70 | 257=>69 | 128=>100 | 129=>101 | 294=>91 | 295=>92 | 296=>93 | 297=>94 | 298=>95 | 299=>96 | 216=>97 | 300=>98 | 301=>99 | 328=>114 | 329=>115 | 330=>116 | 331=>117 | 332=>118 | 215=>108 | 343=>124 | n=>n,fun | 28=>38 | 3=>3 | 46=>98 | 0=>0 | 51=>140 | 53=>101 | 4=>4 | 183=>134 | 182=>133 | 131=>41 | 5=>5 | 9=>9 | 218=>146 | 222=>149 | 228=>158 | 229=>159 | n=>n,fun  | n=>n⟩
theorem Zix:Lays.n189 prog Zgy where
 mixed:=by kernel_rfl
 f125:=func70.trans (YaG some kr)
 f128:=func100.trans (YaG some kr)
 f129:=func101.trans (YaG some kr)
 f189:=func44.trans (YaG some kr)
 f215:=func108.trans (YaG some kr)
 f216:=func97.trans (YaG some kr)
 f257:=func69.trans (YaG some kr)
 f294:=func91.trans (YaG some kr)
 f295:=func92.trans (YaG some kr)
 f296:=func93.trans (YaG some kr)
 f297:=func94.trans (YaG some kr)
 f298:=func95.trans (YaG some kr)
 f299:=func96.trans (YaG some kr)
 f300:=func98.trans (YaG some kr)
 f301:=func99.trans (YaG some kr)
 f328:=func114.trans (YaG some kr)
 f329:=func115.trans (YaG some kr)
 f330:=func116.trans (YaG some kr)
 f331:=func117.trans (YaG some kr)
 f332:=func118.trans (YaG some kr)
 f343:=func124.trans (YaG some kr)
 t0:=underlying0
 a0:=Tryz.isAgg0
 z0:=Tryz.sizeOf0
 v0:=Tryz.zeroValue0
 t3:=YbG
 a3:=Tryz.isAgg3
 z3:=Tryz.sizeOf3
 v3:=Tryz.zeroValue3
 t4:=underlying4
 a4:=Tryz.isAgg4
 z4:=Tryz.sizeOf4
 v4:=Tryz.zeroValue4
 t5:=underlying5
 a5:=Tryz.isAgg5
 z5:=Tryz.sizeOf5
 v5:=Tryz.zeroValue5
 t9:=underlying9
 a9:=Tryz.isAgg9
 z9:=Tryz.sizeOf9
 v9:=Tryz.zeroValue9
 t28:=YbA
 a28:=Tryz.isAgg38
 z28:=Tryz.sizeOf38
 v28:=Tryz.zeroValue38
 t46:=YbF
 a46:=Tryz.isAgg98
 z46:=Tryz.sizeOf98
 v46:=Tryz.zeroValue98
 t51:=underlying140
 a51:=Tryz.isAgg140
 z51:=Tryz.sizeOf140
 v51:=Tryz.zeroValue140
 t53:=underlying101
 a53:=Tryz.isAgg101
 z53:=Tryz.sizeOf101
 v53:=Tryz.zeroValue101
 t131:=underlying41
 a131:=Tryz.isAgg41
 z131:=Tryz.sizeOf41
 v131:=Tryz.zeroValue41
 t182:=underlying133
 a182:=Tryz.isAgg133
 z182:=Tryz.sizeOf133
 v182:=Tryz.zeroValue133
 t183:=underlying134
 a183:=Tryz.isAgg134
 z183:=Tryz.sizeOf134
 v183:=Tryz.zeroValue134
 t218:=underlying146
 a218:=Tryz.isAgg146
 z218:=Tryz.sizeOf146
 v218:=Tryz.zeroValue146
 t222:=underlying149
 a222:=Tryz.isAgg149
 z222:=Tryz.sizeOf149
 v222:=Tryz.zeroValue149
 t228:=underlying158
 a228:=Tryz.isAgg158
 z228:=Tryz.sizeOf158
 v228:=Tryz.zeroValue158
 t229:=underlying159
 a229:=Tryz.isAgg159
 z229:=Tryz.sizeOf159
 v229:=Tryz.zeroValue159
theorem ZkM (w:World):Calls prog 44 #[.slice none 0 0] w (fun e w'=>e = .returned (.tuple #[])∧w' = w):=
 Go.calls_of_every_depth fun D=>Go.Proofs.AnyS.slices_Sort_int_none_in Zix D none 0 w
theorem Zh3 {w:World} {y:Ys} : ∀ {l:List Int} {xs:List Value},PVs (l.flatMap Zk) xs w y→xs=l.map (Value.int .i64) ∧ ∀ x ∈ l,inR .i64 x
 | [],[],_=>⟨rfl,fun x hx=>by cases hx⟩
 | [],_ :: _,h=>h.elim
 | x :: l,[],h=>h.elim
 | x :: l,v :: xs,h=>by
  have h1:v = .int .i64 x∧inR .i64 x:=h.1.2
  obtain ⟨h2,h3⟩:=Zh3 (l:=l) (xs:=xs) h.2
  exact ⟨by rw [h1.1,h2];rfl,fun z hz=>by rcases Yh.1 hz with rfl | hz;exact h1.2;exact h3 z hz⟩
theorem ZdP {w:World} {y:Ys} : ∀ {l:List Int},(∀ x ∈ l,inR .i64 x)→PVs (l.flatMap Zk) (l.map (Value.int .i64)) w y
 | [],_=>trivial
 | x :: l,h=>⟨⟨rfl,rfl,h x (by simp)⟩,ZdP fun z hz=>h z (by simp [hz])⟩
theorem ZmF {l:List Int} {j:Nat} (hj:j<l.length):(l.toArray)[j]! = l[j]:=by simp [hj]
theorem ZhJ {w:World} {g n:Nat} {d:List Int} {os:Array Obj} {cur:Array Value} {e:TypeId} (hg:w.heap[g]? = some (.cells cur e (0,0))) (b:Nat) (hb:b<w.heap.size) :
  (Go.Sort.grow (Go.Sort.putRow (Value.int .i64) (Go.Sort.ahead w n) g 0 d.toArray) os).heap[b]? = if b=g then some (.cells (Go.Sort.putCells (Value.int .i64) 0 d.toArray cur) e (0,0)) else w.heap[b]?:=by
 unfold Go.Sort.grow Go.Sort.putRow Go.Sort.mapBlock Go.Sort.ahead
 simp only
 rw [Array.getElem?_append_left (by simpa using hb),Array.getElem?_modify]
 by_cases h:g=b
 ·subst h
  rw [Yf rfl,Yf rfl,hg];rfl
 ·rw [Ye h,Ye (fun e=>h e.symm)]
theorem Zm4 {cur:Array Value} {d:List Int} (h:d.length≤cur.size):(Go.Sort.putCells (Value.int .i64) 0 d.toArray cur).toList.take d.length=d.map (Value.int .i64):=by
 apply Y4
 ·simp [Go.Sort.putCells];omega
 ·intro i h1 h2
  have hi:i<d.length:=by simpa using h2
  simp [Go.Sort.putCells,hi]
theorem Zns (v:Value) (l:List Int) (hlm:l.length≤1000000):FnG prog 44 1 [.is v] [Zo 3 1 Zk l v] (.tup []) (fun _=>[Zo 3 1 Zk (l.mergeSort leI) v]):=fun w F vs hw hle hvs hpr=>by
 match vs,hvs with
 | [u],hvs=>
  have hu:u=v:=hvs.1.1
  subst hu
  obtain ⟨xs,⟨hxl,hx⟩,hp,hf⟩:=hpr 0 _ rfl
  rcases hx with ⟨rfl,h0⟩ | ⟨g,cap,cur,rfl,_,hg,hn,hcap,hcs,hct⟩
  ·have hl:l = []:=YC h0
   subst hl
   refine (ZkM w).mono ?_
   rintro e w' ⟨rfl,rfl⟩
   refine ⟨.tuple #[],F,rfl,hw,⟨rfl,rfl,rfl,YT _,fun _ _ _=>rfl,fun _ _=>rfl,fun n hn b hb=>.inl ⟨n,hn,hb⟩⟩,hle,⟨[],rfl,tv⟩,fun i h hi=>?_⟩
   match i,hi with
   | 0,hi=>simp at hi;subst hi;exact ⟨xs,⟨hxl,.inl ⟨rfl,rfl⟩⟩,by simpa using hp,hf⟩
  ·have hgs:g<w.heap.size:=(Array.getElem?_eq_some_iff.1 hg).1
   obtain ⟨hxe,hin⟩:=Zh3 hp
   have hcl:l.length≤cur.size:=by rw [hcs];omega
   have hbig:l.length<4611686018427387904:=by omega
   have hcur:∀ j (hj:j<l.length),cur[j]? = some (.int .i64 l[j]):=fun j hj=>by
    have h1:(cur.toList.take (l.length*1))[j]? = (l.map (Value.int .i64))[j]?:=by rw [hct,hxe]
    rw [Yba ow] at h1
    simpa [hj] using h1
   have hH:Go.Sort.Holds (Value.int .i64) w g 0 l.toArray:=fun j hj=>by
    have hj':j<l.length:=by simpa using hj
    refine ⟨?_,?_⟩
    ·rw [ZmF hj',YG,ZaD hg];exact hcur j hj'
    ·simp [World.frozen?,hg]
   have hcalls:Calls prog 44 #[.slice (some ⟨g,0,none⟩) l.length cap] w fun e w'=>e = .returned (.tuple #[]) ∧ ∃ n os,w' = Go.Sort.grow (Go.Sort.putRow (Value.int .i64) (Go.Sort.ahead w n) g 0 (l.mergeSort leI).toArray) os:=Go.Proofs.Any.slices_Sort_int Zix g 0 cap l w hH hgs hbig
   refine hcalls.mono ?_
   rintro e w' ⟨rfl,n,os,rfl⟩
   have hsl:(l.mergeSort leI).length=l.length:=List.length_mergeSort l
   have hheap:=fun b hb=>ZhJ (n:=n) (d:=l.mergeSort leI) (os:=os) hg b hb
   have hsz:(Go.Sort.grow (Go.Sort.putRow (Value.int .i64) (Go.Sort.ahead w n) g 0 (l.mergeSort leI).toArray) os).heap.size=w.heap.size+os.size:=by simp [Go.Sort.ahead]
   have hfg:F 1 g:=(hf g).2 rfl
   have hst:Stp (List.range' 1 1) w F (Go.Sort.grow (Go.Sort.putRow (Value.int .i64) (Go.Sort.ahead w n) g 0 (l.mergeSort leI).toArray) os) F:=
    ⟨rfl,rfl,rfl,by rw [hsz];omega,fun b hb hn=>by
     rw [hheap b hb,Ye (fun e=>by subst e;exact hn 1 (by simp) hfg)],fun _ _=>rfl,fun n hn b hb=>.inl ⟨n,hn,hb⟩⟩
   refine ⟨.tuple #[],F,rfl,⟨hw.dis,fun n b hb=>by rw [hsz];have:=hw.bd n b hb;omega⟩,hst,hle,⟨[],rfl,tv⟩,fun i h hi=>?_⟩
   match i,hi with
   | 0,hi=>
    simp only [List.getElem?_cons_zero,YX] at hi
    subst hi
    refine ⟨(l.mergeSort leI).map (Value.int .i64),⟨by simp,.inr ⟨g,cap,_,by rw [hsl],YA _,(hheap g hgs).trans (Yf V),by omega,hcap,by simp [Go.Sort.putCells,hcs],?_⟩⟩,ZdP fun x hx=>hin x ((List.mergeSort_perm l leI).mem_iff.1 hx),hf⟩
    rw [Nat.mul_one];exact Zm4 ow
theorem Ent.fnClos {f:FuncId} : Ent (.pv (.is (.func (.func f) #[] #[]))) (.pv (.clos f [])):=fun τ w y v h=>⟨[],h.1,tv⟩
theorem ZiQ (x:Int):FnP prog 108 [.int .i64 x] (.bool false):=by
 refine FnP.mk func108 V ntmps108 V fun B a w F J hfr G=>Ya ?_
 refine rZ G qB J [2,0] [0] fun G=>Ya ?_
 refine rZ G (qR rr (qR rr (qf (o_neq .t .t) r2 qz (qO rr qZ)))) J [2] [0] fun G=>Yl ?_
 refine Zz hfr G V V V (.bool (by simp))
theorem Zlh (x y:Int):FnP prog 83 [.int .i64 x,.int .i64 y] (.int .i64 (Zdd x y)):=by
 refine FnP.mk func83 V ntmps83 V fun B a w F J hfr G=>Ya ?_
 refine rZ G (qI qZ) J [4,1,0] [0] fun G=>Ya ?_
 refine rZ G (qR rr (qf (oP (ZiQ x) func108 (Args.one .t)) r1 qz (qO rr qZ))) J [5,4,1,0] [0] fun G=>Ya ?_
 refine rZ G (qR rr (qf (oP (ZiQ y) func108 (Args.one .t)) r1 qz (qO rr qZ))) J [6,5,4,1,0] [0] fun G=>(Ya (Ya ?_))
 refine rZ G (qR rr qZ) J [11,6,4,1,0] [0] fun G=>?_
 refine Zc G V (fun hc0=>?_) (fun hc0=>?_)
 ·simp at hc0
 refine Yg (Za (Ya (Ya (rZ G (qR rr qZ) J [13,4,1,0] [0] fun G=>?_))))
 refine Zc G V (fun hc1=>?_) (fun hc1=>?_)
 ·simp at hc1
 refine Yg (Za (Ya (Ya (rZ G (qR rr (qR rr (qL r2))) J [16,4,1,0] [0] fun G=>?_))))
 refine Zc G V (fun hc2=>?_) (fun hc2=>?_)
 ·have hg:(-1:Int)=Zdd x y:=by unfold Zdd;rw [Yf (by simpa using hc2)]
  refine Ya (rZ G (qI qZ) J [4,1,0] [0] fun G=>(Yl (Zw ?_)))
  refine Zz hfr G V V V (.int hg)
 have h1:¬ x<y:=by simpa using hc2
 refine Yg (Za (Ya (Ya (rZ G (qR rr (qR rr (qf (Zbq .t .t) r2 qz qZ))) J [19,4] [0] fun G=>?_))))
 refine Zc G V (fun hc3=>?_) (fun hc3=>?_)
 ·have hg:(1:Int)=Zdd x y:=by unfold Zdd;rw [Ye h1,Yf (by simpa using hc3)]
  refine Ya (rZ G (qI qZ) J [4] [0] fun G=>(Yl (Zw ?_)))
  refine Zz hfr G V V V (.int hg)
 have hg:(0:Int)=Zdd x y:=by unfold Zdd;rw [Ye h1,Ye (by simpa using hc3)]
 refine Yg (Za (Ya (rZ G (qI qZ) J [4] [0] fun G=>Yl ?_)))
 refine Zz hfr G V V V (.int hg)
def orZ:List Int→Int
 | []=>0
 | x :: l=>if x=0 then orZ l else x
theorem ZnA:∀ {l:List Int} {i:Nat},i<l.length→(∀ q,q<i→Nn l q=0)→Nn l i≠0→orZ l=Nn l i
 | x :: l,0,h,_,hn=>by rw [nth_eq h] at hn ⊢;exact Ye hn
 | x :: l,i+1,h,hq,hn=>by
  have h':i<l.length:=by simpa using h
  have h0:=hq 0 ow
  rw [nth_eq (by simp)] at h0
  have e:Nn (x :: l) (i+1)=Nn l i:=by rw [nth_eq h,nth_eq h'];rfl
  rw [e] at hn ⊢
  rw [orZ,Yf (show x=0 from h0)]
  exact ZnA h' (fun q hq2=>by
   have:=hq (q+1) ow
   rwa [nth_eq (by simp;omega),List.getElem_cons_succ,← nth_eq ow] at this) hn
theorem Zh8:∀ {l:List Int},(∀ q,q<l.length→Nn l q=0)→orZ l=0
 | [],_=>rfl
 | x :: l,hq=>by
  have h0:=hq 0 (by simp)
  rw [nth_eq (by simp)] at h0
  rw [orZ,Yf (show x=0 from h0)]
  exact Zh8 fun q hq2=>by
   have:=hq (q+1) (by simp;omega)
   rwa [nth_eq (by simp;omega),List.getElem_cons_succ,← nth_eq hq2] at this
def okE (e:ZL):Prop:=(0≤e.label∧e.label≤1048575)∧0≤e.node∧e.node≤4095
def Zaf (e:ZL):Int:=(e.kind*1048576+e.label)*4096+e.node
theorem Zm2 {a b:ZL} (ha:okE a) (hb:okE b):orZ [Zdd a.kind b.kind,Zdd a.label b.label,Zdd a.node b.node] = Zdd (Zaf a) (Zaf b):=by
 obtain ⟨⟨a1,a2⟩,a3,a4⟩:=ha
 obtain ⟨⟨b1,b2⟩,b3,b4⟩:=hb
 unfold orZ orZ orZ orZ Zaf Zdd
 repeat' split
 all_goals omega
theorem keyE_inj {a b:ZL} (ha:okE a) (hb:okE b) (h:Zaf a=Zaf b):a=b:=by
 obtain ⟨⟨a1,a2⟩,a3,a4⟩:=ha
 obtain ⟨⟨b1,b2⟩,b3,b4⟩:=hb
 unfold Zaf at h
 cases a;cases b
 simp only at *
 congr 1 <;> omega
theorem ZpA (l:List Int):FnP prog 82 [.sl Zk l] (.int .i64 (orZ l)):=by
 refine FnP.mk func82 V ntmps82 V fun B a w F J hfr G=>?_
 have hxl:=Sat.lenSl G (i:=0) rfl
 refine Ya (rZ G (qI qZ) J [2,0] [0] fun G=>Ya ?_)
 refine rZ G (qI qZ) J [3,2,0] [0] fun G=>(Ya (Ya ?_))
 refine rZ G (qR rr (qu YbA r1 (qJ qZ))) J [8,7,6,3,2] [0] fun G=>Yk ?_
 refine Zl (σ:=(Nat)) [2,3,6,7] [0] (fun s=>[(8,.pv (.int .i64 (s:Int)))]) (fun s=>[]) (fun s=>s≤l.length∧(∀ q,q<s→Nn l q=0)) (fun s=>l.length - s) (0) G ⟨rfl,rfl,rfl,rfl,rfl,tv⟩ ⟨rfl,tv⟩ ⟨YA _,fun q hq=>absurd hq (YaH q)⟩ ?_
 clear G;intro i a w F hC G
 try dsimp only at hC
 obtain ⟨F,G⟩:=G.nM [8,7,6,3,2] [0]
 try dsimp only at G
 obtain ⟨hi,hq⟩:=hC
 refine Ya (rZ G (qL r2) J [9,8,7,6,3,2] [0] fun G=>Ya ?_)
 refine Zc G V (fun hc0=>?_) (fun hc0=>?_)
 ·have hil:i<l.length:=by simp at hc0;omega
  refine Yg (Za (Ya (Yk (Ya (Zb G (qy 1 YbA r2 (qf (oR false 1 .t) r1 qz (qO rr qZ))) J [8,7,6,5,3,2] [0] V V fun a w F G=>?_)))))
  try simp only [Yb] at G
  refine Za (Ya (rZ G (qR rr (qR rr (qf (o_neq .t .t) r2 qz qZ))) J [14,8,7,6,5,3,2] [0] fun G=>?_))
  refine Zc G V (fun hc1=>?_) (fun hc1=>?_)
  ·have hg:Nn l i=orZ l:=(ZnA ow hq (by simpa using hc1)).symm
   refine Ya (rZ G (qR rr (qO rr qZ)) J [8,7,6,3,2] [0] fun G=>(Yl (Z6 (Zw (Zw (Z6 (Zw ?_)))))))
   refine Zz hfr G V V V (.int hg)
  have hne:Nn l i=0:=by simpa using hc1
  refine Yg (Zi (Za (rZ G (qp r1 (qR rr qZ)) J [8,7,6,3,2] [0] fun G=>?_)))
  replace G:=G.ent (i:=8) (s':=.pv (.int .i64 ((i+1:Nat):Int))) V (.int (Zf ow))
  obtain ⟨F,G⟩:=G.nM [7,6,3,2,8] [0]
  exact ⟨(i+1),F,⟨by omega,(fun q h9=>by rcases YaU (Ybf h9) with h8 | h8;exact hq q h8;rw [h8];exact hne)⟩,G,by omega⟩
 have hil:i=l.length:=by simp at hc0;omega
 have hg:(0:Int)=orZ l:=(Zh8 fun q h9=>hq q ow).symm
 refine YI (Zm (Zm (Zu (Za (Ya (rZ G (qR rr (qO rr qZ)) J [2] [0] fun G=>Yl ?_))))))
 refine Zz hfr G V V V (.int hg)
theorem ZnB (x y:ZL) (hx:okE x) (hy:okE y):FnP prog 62 [.agg (Z9 x),.agg (Z9 y)] (.int .i64 (Zdd (Zaf x) (Zaf y))):=by
 refine FnP.mk func62 V ntmps62 V fun B a w F J hfr G=>Ya ?_
 refine Ze G (qx 101 r1 (qx 102 r1 (qI qZ))) J [4,3,2] [102,101,0] (fun _=>rfl) (fun _=>rfl) fun τ a w F G=>?_
 try dsimp only [RS.sub,SF.sub,CF.sub,csub,Anc.sub,List.map,zCF,Z9,Zan,Zk,ZbD] at G
 generalize τ 2=v2,τ 3=v3 at G
 refine Za (Ya (Zp G (qg 0 101 r1 r1 (qa 101 r1 r1 (qg 0 102 r1 r1 (qa 102 r1 r1 (qf (oP (Zlh x.kind y.kind) func83 (Args.two .t .t)) r2 qz (qg 1 101 r1 r1 (qa 101 r1 r1 (qg 1 102 r1 r1 (qa 102 r1 r1 (qf (oP (Zlh x.label y.label) func83 (Args.two .t .t)) r2 qz (qg 2 101 r1 r1 (qa 101 r1 r1 (qg 2 102 r1 r1 (qa 102 r1 r1 (qf (oP (Zlh x.node y.node) func83 (Args.two .t .t)) r2 qz (qf (o_buildSliceE (sz:=1) (zs:=[.int .i64 0]) (r:=[(0,.tmp 9),(1,.tmp 14),(2,.tmp 19)]) (l:=[_,_,_]) YbA kr kr kr kr V V (.one V .t one_int kr (.one V .t one_int kr (.one V .t one_int kr .nil))) V) r3 qz (qf (oP (ZpA [Zdd x.kind y.kind,Zdd x.label y.label,Zdd x.node y.node]) func82 (Args.one (.conv .t (Ent.arrSl (R:=Zk) (l:=[Zdd x.kind y.kind,Zdd x.label y.label,Zdd x.node y.node]) V)))) r1 qz (qO rr qZ)))))))))))))))))) J [4] [0] V V fun a w F G=>?_))
 try dsimp only [List.map,Zh,xL,xM,Nat.reduceAdd,xD,xE,xT,xU,xC,xN,zCF,ldSF,Z9,Zan,Zk,ZbD] at G
 refine Za (Yl (Zz hfr G V V V (.int (Zm2 hx hy))))
theorem Zpc (l : List ZL) (e : ZL) (k : Int) (hll : l.length ≤ 1000000) (hs : Zj5 Zaf l) (f : FuncId) (fn : Func) (cps : List PV) (hf : prog.funcs[f]? = some fn) (hb : fn.body.isSome = true) (hnn : (fn.name == "runtime.NumGoroutine") = false) (hw : ∀ x ∈ l, FnP prog f (.agg (Z9 x) :: .agg (Z9 e) :: cps) (.int .i64 (Zdd (Zaf x) k))) : FnP prog 61 [.sl Z9 l, .agg (Z9 e), .clos f cps] (.tup [.int .i64 (lowK Zaf k l), .bool (isK Zaf k l)]) := by
 refine FnP.mk func61 V ntmps61 V fun B a w F J hfr G=>Ya ?_
 refine Ze G (qx 101 r1 (qI qB)) J [7,6,4,2,0] [101,0] (fun _=>rfl) (fun _=>rfl) fun τ a w F G=>?_
 try dsimp only [RS.sub,SF.sub,CF.sub,csub,Anc.sub,List.map,zCF,Z9] at G
 generalize τ 4=v4 at G
 refine Za (Ya (rZ G (qR rr (qu YbC r1 (qO rr qZ))) J [8,7,6,4,2,0] [101,0] fun G=>Ya ?_))
 refine rZ G (qR rr (qI (qO rr qZ))) J [10,9,8,7,6,4,2,0] [101,0] fun G=>(Ya (Yk ?_))
 refine Zl (σ:=Nat×Nat) [0,2,4,6,7,8] [0,101] (fun s=>[(9,.pv (.int .i64 (s.1:Int))),(10,.pv (.int .i64 (s.2:Int)))]) (fun s=>[]) (fun s=>s.1≤s.2∧s.2≤l.length∧(∀ q,q<s.1→Zaf (Nn l q)<k) ∧ ∀ q,s.2≤q→q<l.length→k≤Zaf (Nn l q)) (fun s=>s.2 - s.1) ((0),(l.length)) G ⟨rfl,rfl,rfl,rfl,rfl,rfl,rfl,rfl,tv⟩ ⟨rfl,rfl,tv⟩ ⟨YA _,YT _,fun q hq=>absurd hq (YaH q),fun q h1 h2=>by omega⟩ ?_
 clear G;intro s a w F hC G
 obtain ⟨i,j⟩:=s
 try dsimp only at hC
 obtain ⟨F,G⟩:=G.nM [10,9,8,7,6,4,2,0] [101,0]
 try dsimp only at G
 obtain ⟨hij,hjl,hlo,hhi⟩:=hC
 have hgs:=ZoS (i:=i) ow hs hlo
 have hgl:=ZhO (i:=i) ow hlo
 refine Ya (Ya (rZ G (qR rr (qR rr (qL r2))) J [17,10,9,8,7,6,4,2,0] [101,0] fun G=>?_))
 refine Zc G V (fun hc0=>?_) (fun hc0=>?_)
 ·skip
  have hlt:i<j:=by simp at hc0;omega
  refine Yg (Za (Yk (Ya (Zb G (qR rr (qR rr (qf (o_add .t .t) r2 qz (qf (o_conv YbF kr .t) r1 qz (qf (Zb4 .t qi (by decide)) r1 qz (qf (o_conv YbG kr .t) r1 qz (qO rr qZ))))))) J [11,10,9,8,7,6,4,2,0] [101,0] V V fun a w F G=>?_))))
  obtain ⟨m,hm⟩:∃ m:Nat,m=(i+j) / 2:=⟨_,rfl⟩
  replace G:=G.ent (i:=11) (s':=.pv (.int .i64 (m:Int))) V (.int (by rw [hm];exact Zk5 ow))
  obtain ⟨F,G⟩:=G.nM [11,10,9,8,7,6,4,2,0] [101,0]
  refine Za (Ya (Zp G (qR rr (qR rr (qR rr (qy 3 YbC r2 (qf (oR true 3 .t) r1 qz (qe 3 101 r1 r1 (qf (Zb5 (avs:=[.agg (Z9 (Nn l m)),.agg (Z9 e)]) .t (hw (Nn l m) (nth_mem ow)) hf hb hnn (Args.two (.pagg .t) (.pagg .t))) r3 qz (qf (Zbg .t qi) r1 qz qZ)))))))) J [31,11,10,9,8,7,6,4,2,0] [101,0] V V fun a w F G=>?_))
  try dsimp only [List.map,xD,xE,xT,xU,ldSF,Z9] at G
  try simp only [Yb] at G
  refine Za (Zc G V (fun hc1=>?_) (fun hc1=>?_))
  ·skip
   have hmk:Zaf (Nn l m)<k:=ZlM.1 (by simpa using hc1)
   obtain ⟨i2,hi2e⟩:∃ z,z=m+1:=⟨_,rfl⟩
   obtain ⟨j2,hj2e⟩:∃ z,z=j:=⟨_,rfl⟩
   have hi2:IntKind.wrap .i64 ((m:Int)+1)=(i2:Int):=by rw [hi2e];exact Zf ow
   have hj2:(j:Int)=(j2:Int):=by rw [hj2e]
   have hmu:j2 - i2<j - i:=by omega
   have hC2:i2≤j2∧j2≤l.length∧(∀ q,q<i2→Zaf (Nn l q)<k) ∧ ∀ q,j2≤q→q<l.length→k≤Zaf (Nn l q):=⟨by omega,by omega,fun q hq=>Int.lt_of_le_of_lt (ZfN hs ow ow) hmk,by rw [hj2e];exact hhi⟩
   refine Zb G (qR rr (qp r1 (qO rr qZ))) J [10,9,8,7,6,4,2,0] [101,0] V V fun a w F G=>Zi (Za ?_)
   replace G:=G.ent (i:=9) (s':=.pv (.int .i64 (i2:Int))) V (.int hi2)
   replace G:=G.ent (i:=10) (s':=.pv (.int .i64 (j2:Int))) V (.int hj2)
   obtain ⟨F,G⟩:=G.nM [8,7,6,4,2,0,10,9] [101,0]
   exact ⟨((i2),(j2)),F,hC2,G,hmu⟩
  have hmk:k≤Zaf (Nn l m):=Int.not_lt.1 fun e=>(show ¬ Zdd (Zaf (Nn l m)) k<0 by simpa using hc1) (ZlM.2 e)
  obtain ⟨i2,hi2e⟩:∃ z,z=i:=⟨_,rfl⟩
  obtain ⟨j2,hj2e⟩:∃ z,z=m:=⟨_,rfl⟩
  have hi2:(i:Int)=(i2:Int):=by rw [hi2e]
  have hj2:(m:Int)=(j2:Int):=by rw [hj2e]
  have hmu:j2 - i2<j - i:=by omega
  have hC2:i2≤j2∧j2≤l.length∧(∀ q,q<i2→Zaf (Nn l q)<k) ∧ ∀ q,j2≤q→q<l.length→k≤Zaf (Nn l q):=⟨by omega,by omega,by rw [hi2e];exact hlo,fun q h1 h2=>Int.le_trans hmk (ZfN hs ow h2)⟩
  refine Zb G (qR rr (qO rr qZ)) J [10,9,8,7,6,4,2,0] [101,0] V V fun a w F G=>Zi (Za ?_)
  replace G:=G.ent (i:=9) (s':=.pv (.int .i64 (i2:Int))) V (.int hi2)
  replace G:=G.ent (i:=10) (s':=.pv (.int .i64 (j2:Int))) V (.int hj2)
  obtain ⟨F,G⟩:=G.nM [8,7,6,4,2,0,10,9] [101,0]
  exact ⟨((i2),(j2)),F,hC2,G,hmu⟩
 have hjj:i=j:=by simp at hc0;omega
 subst hjj
 have hgl2:=hgl hhi
 have hgs2:=hgs hhi
 have hb2:(decide ((i:Int)<(l.length:Int)) && decide (Zdd (Zaf (Nn l i)) k=0))=isK Zaf k l:=by
   rw [Ybn,hgs2]
   simp [Zn5]
 refine YI (Zm (Zm (Zu (Za (Ya (Zp G (qR rr (qR rr (qR rr (qf (Zbg .t .t) r2 qz (qR rr (qm V V V V (qm V V V V (qm V V V V (qk V (fun h=>o_indexAddr_sl (sz:=3) (.mk YbC kr) (by intro x;rfl) (.w h) (.w h) ow (by have:=Yr h;omega)) r3 qz (qk V (fun h=>oR true 3 (.w h)) r2 qz (qk V (fun h=>oL true 3 101 .is) r2 r1 (qk V (fun h=>Zb5 (avs:=[.agg (Z9 (Nn l i)),.agg (Z9 e)]) (.w h) (hw (Nn l i) (nth_mem (by have:=Yr h;omega))) hf hb hnn (Args.two (.pagg (.w h)) (.pagg (.w h)))) r4 qz (qk V (fun h=>o_eql (.w h) qi) r2 qz (qf (ZF .t .t) r2 qz (qO rr (qO rr qZ)))))))))))))))) J [7,6] [0] V V fun a w F G=>?_))))))
 try dsimp only [List.map,xD,xE,xT,xU,ldSF,Z9] at G
 try simp only [Yb] at G
 refine Za (Yl (Zdj hfr G V (.tmp V (.tmp V .nil)) (.two (.int (by rw [hgl2])) (.bool hb2))))
theorem Zo1 (v:Value) (l:List ZL) (i:Nat) (x:ZL) (hll:l.length≤1000000) (hi:i≤l.length):FnG prog 63 1 [.is v,.int .i64 i,.sl Z9 [x]] [Zo 73 3 Z9 l v] (PV.one) (fun v=>[Zo 73 3 Z9 (l.take i ++ [x] ++ l.drop i) v]):=by
 refine FnG.mk func63 V ntmps63 V kr fun B F0 a w F J hG G=>?_
 replace G:=G.turn 1 V (r':=.ob (.val v) (Zo 73 3 Z9 l)) (fun _ _ _ _ h=>h)
 refine Ya (rZ G (qC qZ) J [6,2,1,0] [1,0] fun G=>Ya ?_)
 refine rZ G (qR rr (qR rr (qf (ZgV (sz:=3) 1 (.mk YbC kr) .is .t ow ow) r2 r1 qZ))) J [6,2,1,0] [1,0] fun G=>Ya ?_
 refine Zb G (qR rr (qu YbC r1 (qO rr qZ))) J [7,6,2,1,0] [1,0] V V fun a w F G=>?_
 replace G:=G.ent (i:=7) (s':=.pv (.int .i64 1)) V (.int V)
 obtain ⟨F,G⟩:=G.nM [7,6,2,1,0] [1,0]
 refine Za (Ya (Ya (rZ G (qR rr (qf (o_eql .t qi) r1 qz qZ)) J [16,7,6,2,1,0] [1,0] fun G=>?_)))
 refine Zc G V (fun hc0=>?_) (fun hc0=>?_)
 ·simp at hc0
 refine Yg (Za (Ya (rZ G (qR rr (qf (Zx 1 YbC .is) r1 r1 (qO rr qZ))) J [8,7,6,2,1,0] [1,0] fun G=>(Ya (Ya ?_)))))
 refine rZ G (qR rr (qR rr (qf (o_eql .t .t) r2 qz qZ))) J [22,8,7,6,2,1,0] [1,0] fun G=>?_
 refine Zc G V (fun hc1=>?_) (fun hc1=>?_)
 ·have hg:=Zlx (x:=x) (by have h9:=hc1;simp at h9;omega:i=l.length)
  refine Ya (Ze G (qR rr (qR rr (qf (ZB (sz:=3) (bs:=24) 1 (.mk' YbC kr kr) (by intro x;rfl) .is (.sl .t) (by simp only [Yx,YS];omega) (by decide)) ⟨rfl,rfl,tv⟩ ⟨rfl,tv⟩ (qO rr qZ)))) J [8,7,6,2,1,0] [1,0] (fun _=>rfl) (fun _=>rfl) fun τ a w F G=>?_)
  try dsimp only [RS.sub,SF.sub,CF.sub,csub,Anc.sub,List.map,xC,xN,Z9] at G
  generalize τ 25=v25 at G
  refine Za (Yl (Zw ?_))
  have G:=G.turn 1 V (r':=RS.hp (Zo 73 3 Z9 (l.take i ++ [x] ++ l.drop i) v25)) (fun _ _ _ _ h=>by rw [hg];exact h)
  refine ZU (h':=fun v=>Zo 73 3 Z9 (l.take i ++ [x] ++ l.drop i) v) hG G V (.tmp V .nil) (.one .one) rfl
 have hil:i<l.length:=by simp at hc1;omega
 have hw1:IntKind.wrap .i64 ((i:Int)+1)=((i+1:Nat):Int):=Zf ow
 have hwn:IntKind.wrap .i64 ((l.length:Int)+1)=((l.length+1:Nat):Int):=Zf ow
 refine Yg (Za (Ya (Ya (rZ G (qR rr (qR rr (qf (o_add .t .t) r2 qz (qR rr (qf (ZfY 1 YbC .is) r1 r1 (qf (Zbq .t .t) r2 qz qZ)))))) J [31,8,7,6,2,1,0] [1,0] fun G=>?_))))
 refine Zc G V (fun hc2=>?_) (fun hc2=>?_)
 ·have hcap:capV v<l.length+1:=by rw [hwn] at hc2;simp at hc2;omega
  have hw:IntKind.wrap .i64 (IntKind.wrap .i64 ((l.length:Int)+1) - (i:Int))=((l.length+1 - i:Nat):Int):=by rw [hwn,Zr ow];omega
  refine Ya (Ze G (qR rr (qR rr (qf (Zc0 (sz:=3) 1 (.mk YbC kr) .is .t ow ow) r2 r1 (qR rr (qR rr (qf (o_add .t .t) r2 qz (qR rr (qf (o_sub .t .t) r2 qz (qf (ZbT (R:=Z9) (z:=(⟨0,0,0⟩:ZL)) (bs:=24) (sz:=3) (zs:=[.int .i64 0,.int .i64 0,.int .i64 0]) 1 101 YbC YbG kr kr kr (by intro x;rfl) (fun _ _=>⟨⟨rfl,rfl,Znp⟩,⟨rfl,rfl,Znp⟩,⟨rfl,rfl,Znp⟩,tv⟩) .t .t ow (by rw [hw];omega) (by rw [hw];omega) (by rw [hw];omega) (by rw [hw];omega)) ⟨rfl,rfl,tv⟩ ⟨rfl,tv⟩ (qO rr qZ)))))))))) J [9,8,7,6,2,1,0] [101,1,0] (fun _=>rfl) (fun _=>rfl) fun τ a w F G=>?_)
  try dsimp only [RS.sub,SF.sub,CF.sub,csub,Anc.sub,List.map,xC,xN,Z9] at G
  generalize τ 40=v40 at G
  rw [hw] at G
  simp only [Yb] at G
  obtain ⟨l2,hl2⟩:∃ y,y=l.take i++List.replicate (l.length+1 - i) (⟨0,0,0⟩:ZL):=⟨_,rfl⟩
  rw [← hl2] at G
  have hl2n:l2.length=l.length+1:=by rw [hl2,Yc,Ym,YV];omega
  obtain ⟨F,G⟩:=G.give 1 0 V rfl
  obtain ⟨F,G⟩:=G.nM [9,8,7,6,2,1,0] [101,0]
  refine Za (Ya (Zb G (qR rr (qR rr (qf (Zal (sz:=3) 101 (.mk YbC kr) .is .t ow ow) r2 r1 (qR rr (qf (o_copy_sub 101 YbC kr (by intro x;rfl) .t .t (by simp) (by simp;omega)) r2 r1 qZ))))) J [9,8,7,6,2,1,0] [101,0] V V fun a w F G=>?_))
  simp only [Yb] at G
  obtain ⟨l3,hl3⟩:∃ y,y=l2.take i ++ [x] ++ l2.drop (i + [x].length):=⟨_,rfl⟩
  rw [← hl3] at G
  have hl3n:l3.length=l.length+1:=by rw [hl3,Yc,Yc,Ym,YJ,hl2n];simp;omega
  refine Za (Ya (Zp G (qR rr (qR rr (qR rr (qf (o_add .t .t) r2 qz (qf (Zal (sz:=3) 101 (.mk YbC kr) .is .t (by rw [hw1];omega) (by rw [hw1];omega)) r2 r1 (qR rr (qR rr (qf (o_slice_lo (sz:=3) (.mk YbC kr) (by intro x;rfl) .t .t ow ow) r2 qz (qf (o_copy_sub 101 YbC kr (by intro x;rfl) .t .t (by intro h9;have:=YaG List.length h9;simp at this;omega) (by rw [hw1,YJ];omega)) r2 r1 qZ))))))))) J [9,8,7,6,2,1,0] [101,0] V V fun a w F G=>?_))
  try dsimp only [Z9] at G
  rw [hw1] at G
  simp only [Yb] at G
  have hg:=Zin (x:=x) hil hl2 hl3
  refine Za (Ya (rZ G (qR rr (qO rr qZ)) J [8,7,6,2,1,0] [101,0] fun G=>(Yl (Zw ?_))))
  obtain ⟨F,G⟩:=G.rename 101 1 V rfl
  have G:=G.turn 1 V (r':=RS.hp (Zo 73 3 Z9 (l.take i ++ [x] ++ l.drop i) v40)) (fun _ _ _ _ h=>by rw [hg];exact h)
  refine ZU (h':=fun v=>Zo 73 3 Z9 (l.take i ++ [x] ++ l.drop i) v) hG G V (.tmp V .nil) (.one .one) rfl
 have hcap:l.length+1≤capV v:=by rw [hwn] at hc2;simp at hc2;omega
 refine Yg (Za (Ya (Ze G (qR rr (qR rr (qR rr (qf (o_add .t .t) r2 qz (qf (ZeK (sz:=3) 1 (.mk YbC kr) .is .t (by rw [hwn];omega) ow) r2 r1 (qO rr qZ)))))) J [8,7,6,2,1,0] [1,0] (fun _=>rfl) (fun _=>rfl) fun τ a w F G=>?_)))
 try dsimp only [RS.sub,SF.sub,CF.sub,csub,Anc.sub,List.map,Z9] at G
 generalize τ 60=v60 at G
 refine Za (Ya (Ya (rZ G (qR rr (qR rr (qR rr (qR rr (qf (o_add .t .t) r2 qz (qf (ZaI (sz:=3) 1 (.mk YbC kr) .is .t (by rw [hw1];omega) (by rw [hw1];omega)) r2 r1 (qf (ZeY 1 func84 kr kr kr V YbC kr (by intro x;rfl) .t .t (by rw [hw1];omega)) r2 r1 (qf (o_not .t) r1 qz qZ)))))))) J [68,8,7,6,2,1,0] [1,0] fun G=>?_)))
 refine Zc G V (fun hc3=>?_) (fun hc3=>?_)
 ·refine Ya (Zp G (qR rr (qR rr (qR rr (qf (o_add .t .t) r2 qz (qf (ZaI (sz:=3) 1 (.mk YbC kr) .is .t (by rw [hw1];omega) (by rw [hw1];omega)) r2 r1 (qR rr (qR rr (qf (ZaI (sz:=3) 1 (.mk YbC kr) .is .t ow ow) r2 r1 (qf (Zc9 (k:=i) 1 YbC kr (by intro x;rfl) .t .t (by rw [hw1];rfl) V ow) r2 r1 qZ))))))))) J [8,7,6,2,1,0] [1,0] V V fun a w F G=>?_)
  try dsimp only [Z9] at G
  obtain ⟨l4,hl4⟩:∃ y,y=l.take (i+1)++l.drop i:=⟨_,rfl⟩
  rw [← hl4] at G
  have hl4n:l4.length=l.length+1:=by rw [hl4,Yc,Ym,YJ];omega
  refine Za (Ya (Zb G (qR rr (qR rr (qf (Zal (sz:=3) 1 (.mk YbC kr) .is .t ow ow) r2 r1 (qR rr (qf (o_copy_sub 1 YbC kr (by intro x;rfl) .t .t (by simp) (by simp;omega)) r2 r1 qZ))))) J [8,7,6,2,1,0] [1,0] V V fun a w F G=>?_))
  simp only [Yb] at G
  have hg:=ZfW (x:=x) hil hl4
  refine Za (Ya (rZ G (qR rr (qO rr qZ)) J [8,7,6,2,1,0] [1,0] fun G=>(Yl (Zw ?_))))
  have G:=G.turn 1 V (r':=RS.hp (Zo 73 3 Z9 (l.take i ++ [x] ++ l.drop i) v60)) (fun _ _ _ _ h=>by rw [hg];exact h)
  refine ZU (h':=fun v=>Zo 73 3 Z9 (l.take i ++ [x] ++ l.drop i) v) hG G V (.tmp V .nil) (.one .one) rfl
 simp at hc3
theorem ZlP {α:Type} {κ:α→Int} {k:Int} (l:List α):lowK κ k l≤l.length:=by
 unfold lowK
 exact (List.takeWhile_sublist _).length_le
theorem ZdA {α:Type} [Inhabited α] {κ:α→Int} {l:List α} : Zj5 κ l ↔ l.Pairwise fun a b=>κ a<κ b:=by
 rw [Ya8]
 constructor
 ·intro h i j hi hj hij
  have:=h i j hij hj
  rwa [nth_eq hi,nth_eq hj] at this
 ·intro h a b hab hb
  rw [nth_eq ow,nth_eq hb]
  exact h a b ow hb hab
theorem free_ibQ {k:IntKind} {a:Int} {b:Bool} (v:Value) (w:World) (y y':Ys) (h:(PV.tup [.int k a,.bool b]).p v w y):(PV.tup [.int k a,.bool b]).p v w y':=by
 obtain ⟨vs,e,h⟩:=h
 match vs,h with
 | [_,_],h=>exact ⟨_,e,h⟩
def insE (l:List ZL) (e:ZL):List ZL:=l.take (lowK Zaf (Zaf e) l) ++ [e] ++ l.drop (lowK Zaf (Zaf e) l)
theorem putE_c (v:Value) (l:List ZL) (e:ZL) (hll:l.length≤1000000) (hs:Zj5 Zaf l) (hl:∀ x ∈ l,okE x) (he:okE e):FnG prog 36 1 [.is v,.agg (Z9 e)] [Zo 73 3 Z9 l v] (PV.one) (fun v=>[Zo 73 3 Z9 (insE l e) v]):=by
 refine FnG.mk func36 V ntmps36 V kr fun B F0 a w F J hG G=>?_
 replace G:=G.turn 1 V (r':=.ob (.val v) (Zo 73 3 Z9 l)) (fun _ _ _ _ h=>h)
 refine Ya (Ze G (qx 101 r1 (qC qZ)) J [4,3,0] [101,1,0] (fun _=>rfl) (fun _=>rfl) fun τ a w F G=>?_)
 try dsimp only [RS.sub,SF.sub,CF.sub,csub,Anc.sub,List.map,zCF,Z9,Zan,Zk,ZbD] at G
 generalize τ 3=v3 at G
 refine Za (Ya (rZ G (qR rr (qe 3 101 r1 r1 (qf (OpC.lendRow 1 [8] (oP (Zpc l e (Zaf e) hll hs 62 f62 [] func62 V kr (fun x hx=>ZnB x e (hl x hx) he)) func61 (Args.three .t (.pagg .t) (.conv .f (Ent.fnClos)))) ⟨rfl,tv,tv⟩ (.pv free_ibQ) trivial (by rfl)) r2 r1 (qR rr (qf (o_extract .t V) r1 qz (qf (o_extract .t V) r1 qz (qO rr (qO rr qZ)))))))) J [5,4,3,0] [101,1,0] fun G=>Ya ?_))
 refine Ze G (qR rr (qR rr (qe 3 101 r1 r1 (qf (o_buildSliceE (sz:=3) (zs:=[.int .i64 0,.int .i64 0,.int .i64 0]) (r:=[(0,.tmp 15)]) (l:=[_,_,_]) YbC kr kr kr kr V V (.agg V .t kr kr .nil) V) r1 qz (qf (o_callRowN 1 (Zo1 v l (lowK Zaf (Zaf e) l) e hll (ZlP l)) func63 V kr (Args.three .t .t (.conv .t (Ent.arrSl (R:=Z9) (l:=[e]) V))) pvOne1) r3 r1 (qO rr qZ)))))) J [4] [1,0] (fun _=>rfl) (fun _=>rfl) fun τ a w F G=>?_
 try dsimp only [RS.sub,SF.sub,CF.sub,csub,Anc.sub,List.map,Zh,xL,xM,Nat.reduceAdd,xD,xE,xT,xU,xC,xN,zCF,ldSF,Z9,Zan,Zk,ZbD] at G
 generalize τ 17=v17 at G
 have hg:insE l e=l.take (lowK Zaf (Zaf e) l) ++ [e] ++ l.drop (lowK Zaf (Zaf e) l):=rfl
 refine Za (Yl ?_)
 have G:=G.turn 1 V (r':=RS.hp (Zo 73 3 Z9 (insE l e) v17)) (fun _ _ _ _ h=>by rw [hg];exact h)
 refine ZU (h':=fun v=>Zo 73 3 Z9 (insE l e) v) hG G V (.tmp V .nil) (.one .one) rfl
def ZoP (L:List (List ZL)):Prop:=∀ l ∈ L,l.length≤1000000∧Zj5 Zaf l ∧ ∀ e ∈ l,okE e
def ZlC (O:List (List ZL)) (x:ZT):Bool:=Zam O.length x && isK Zaf (Zaf (endO x)) (Nn O x.src.toNat)
theorem ZM {n:Nat} {x:ZT} : Zam n x=true ↔ (0≤x.src∧x.src<n)∧(0≤x.dst∧x.dst<n)∧(1≤x.kind∧x.kind≤3)∧0≤x.label∧x.label≤1048575:=by
 unfold Zam
 simp only [YB,Yn]
 constructor
 ·rintro ⟨⟨⟨⟨⟨a,b⟩,c⟩,d⟩,e⟩,f⟩;exact ⟨a,b,⟨c,d⟩,e,f⟩
 ·rintro ⟨a,b,⟨c,d⟩,e,f⟩;exact ⟨⟨⟨⟨⟨a,b⟩,c⟩,d⟩,e⟩,f⟩
theorem endO_ok {n:Nat} {x:ZT} (h:Zam n x=true) (hn:n≤4096):okE (endO x):=by
 obtain ⟨h1,h2,h3,h4,h5⟩:=ZM.1 h
 exact ⟨⟨h4,h5⟩,h2.1,show x.dst≤4095 by omega⟩
theorem endI_ok {n:Nat} {x:ZT} (h:Zam n x=true) (hn:n≤4096):okE (endI x):=by
 obtain ⟨h1,h2,h3,h4,h5⟩:=ZM.1 h
 exact ⟨⟨h4,h5⟩,h1.1,show x.src≤4095 by omega⟩
theorem ZnV (O I:List (List ZL)) (m:Nat) (x:ZT) (hO:ZoP O) (hn:O.length≤4096):FnP prog 34 [ZeF O I m,.agg (ZbD x)] (.bool (ZlC O x)):=by
 refine FnP.mk func34 V ntmps34 V fun B a w F J hfr G=>Ya ?_
 refine Ze G (qx 101 r1 qB) J [4,3,0] [101,0] (fun _=>rfl) (fun _=>rfl) fun τ a w F G=>?_
 try dsimp only [RS.sub,SF.sub,CF.sub,csub,Anc.sub,List.map,zCF,Z9,Zan,Zk,ZbD] at G
 generalize τ 3=v3 at G
 refine Za (Ya (Ya (rZ G (qR rr (qe 4 101 r1 r1 (qf (oP (Zgf O I m x) func33 (Args.two .t (.pagg .t))) r2 qz (qf (o_not .t) r1 qz qZ)))) J [12,4,3,0] [101,0] fun G=>?_)))
 refine Zc G V (fun hc0=>?_) (fun hc0=>?_)
 ·have hrf:Zam O.length x=false:=by simpa using hc0
  have hg:false=ZlC O x:=by unfold ZlC;rw [hrf];rfl
  refine Ya (rZ G qB J [4,3,0] [101,0] fun G=>(Yl (Zw ?_)))
  refine Zz hfr G V V V (.bool hg)
 have hrt:Zam O.length x=true:=by simpa using hc0
 obtain ⟨hs1,hs2⟩:=(ZM.1 hrt).1
 have hg:isK Zaf (Zaf (endO x)) (Nn O x.src.toNat)=ZlC O x:=by unfold ZlC;rw [hrt,Yaz]
 refine Yg (Za (Ya (Ze G (qe 4 101 r1 r1 (qf (oP (ZiG x) func35 (Args.one (.pagg .t))) r1 qz (qR rr (qf (o_extract .t V) r1 qz (qf (o_extract .t V) r1 qz (qf (oH [.int .i64 0,.int .i64 0,.int .i64 0] 102) trivial qz (qf (oH [.int .i64 0,.int .i64 0,.int .i64 0] 103) trivial qz (qf (oA 3 102 .same (.conv .t .agg)) r2 r1 (qf (oA 3 103 .same (.conv .t .agg)) r2 r1 qZ))))))))) J [5,4,3,0] [102,101,0] (fun _=>rfl) (fun _=>rfl) fun τ a w F G=>?_)))
 try dsimp only [RS.sub,SF.sub,CF.sub,csub,Anc.sub,List.map,Zh,xL,xM,Nat.reduceAdd,xD,xE,xT,xU,xC,xN,zCF,ldSF,Z9,Zan,Zk,ZbD] at G
 generalize τ 5=v5,τ 6=v6 at G
 refine Za (Ya (Zp G (qR rr (qf (o_nilCheck_ref .t) r1 qz (qf (oG 0 .t) r1 qz (qf (oR false 1 .t) r1 qz (qg 0 101 r1 r1 (qa 101 r1 r1 (qy 1 YbK r2 (qf (oR false 1 .t) r1 qz (qe 3 102 r1 r1 (qf (oP (Zpc (Nn O x.src.toNat) (endO x) (Zaf (endO x)) (hO _ (nth_mem ow)).1 (hO _ (nth_mem ow)).2.1 62 f62 [] func62 V kr (fun z hz=>ZnB z (endO x) ((hO _ (nth_mem ow)).2.2 z hz) (endO_ok hrt hn))) func61 (Args.three .t (.pagg .t) (.conv .f (Ent.fnClos)))) r2 qz (qR rr (qf (o_extract .t V) r1 qz (qf (o_extract .t V) r1 qz (qO rr (qO rr qZ))))))))))))))) J [8,4] [0] V V fun a w F G=>?_))
 try dsimp only [List.map,xD,xE,xT,xU,ldSF,Z9,Zan,Zk,ZbD] at G
 try simp only [Yb] at G
 refine Za (Ya (rZ G (qR rr (qO rr qZ)) J [4] [0] fun G=>Yl ?_))
 refine Zz hfr G V V V (.bool hg)
theorem ZoQ {α:Type} [Inhabited α] {l:List α} {k j:Nat} {v:α} (h:j<l.length):Nn (l.set k v) j=if k=j then v else Nn l j:=by
 rw [nth_eq (by simpa using h),YaK]
 split
 ·rfl
 ·exact (nth_eq h).symm
theorem Zii {hs:List Value} {L:List (List ZL)} {k:Nat} {v:Value} {l:List ZL} (h2:hs.length=L.length):Zdi (hs.set k v) (L.set k l)=(Zdi hs L).set k (v,l):=by
 apply Y4 (by simp [Zdi])
 intro j h3 h4
 have hj:j<hs.length:=by simpa [Zdi] using h3
 simp only [Zdi,Ya3,Ya5,YaK]
 rw [ZoQ hj,ZoQ ow]
 split <;> rfl
def ZhB (O I:List (List ZL)) (m:Nat) (x:ZT):List (List ZL)×List (List ZL)×Nat×Int:=
 if Zam O.length x then if ZlC O x then (O,I,m,4) else (O.set x.src.toNat (insE (Nn O x.src.toNat) (endO x)),I.set x.dst.toNat (insE (Nn I x.dst.toNat) (endI x)),m+1,0) else (O,I,m,1)
theorem Zn7 (b:Nat) (O I:List (List ZL)) (m:Nat) (x:ZT) (hO:ZoP O) (hI:ZoP I) (hOI:I.length=O.length) (hn:O.length≤4096) (hm:m<1000000):FnG prog 13 1 [.is (Value.pointer (some { block:=b,off:=0 })),.agg (ZbD x)] [Zj7 O I m (Value.pointer (some { block:=b,off:=0 }))] (.int .i64 (ZhB O I m x).2.2.2) (fun _=>[Zj7 (ZhB O I m x).1 (ZhB O I m x).2.1 (ZhB O I m x).2.2.1 (Value.pointer (some { block:=b,off:=0 }))]):=by
 refine FnG.mk func13 V ntmps13 V kr fun B F0 a w F J hG G=>Ya ?_
 refine Ze G (qx 101 r1 (qI qZ)) J [4,3,0] [101,1,0] (fun _=>rfl) (fun _=>rfl) fun τ a w F G=>?_
 try dsimp only [RS.sub,SF.sub,CF.sub,csub,Anc.sub,List.map,zCF,Z9,Zan,Zk,ZbD] at G
 generalize τ 3=v3 at G
 refine Za (Ya (Yk (Ya (rZ G (qR rr (qe 4 101 r1 r1 (qf (OpC.lend 1 [8] ZdB (oP (Zgf O I m x) func33 (Args.two .t (.pagg .t))) ⟨rfl,tv,tv⟩ (.pv (fun _ _ _ _ h=>h)) trivial (by rfl)) r2 r1 (qf (o_not .t) r1 qz (qO rr qZ))))) J [7,4,3,0] [101,1,0] fun G=>?_))))
 refine Zc G V (fun hc0=>?_) (fun hc0=>?_)
 ·have hrf:Zam O.length x=false:=by simpa using hc0
  have hg:ZhB O I m x=(O,I,m,1):=by unfold ZhB;rw [hrf];rfl
  refine Ya (rZ G (qI qZ) J [4,3,0] [101,1,0] fun G=>(Yl (Z6 (Zw ?_))))
  rw [hg]
  refine Zy hG G V (.tmp V .nil) (.one .refl) rfl
 have hrt:Zam O.length x=true:=by simpa using hc0
 obtain ⟨⟨hs1,hs2⟩,⟨hd1,hd2⟩,_⟩:=ZM.1 hrt
 refine Ya (rZ G (qR rr (qe 4 101 r1 r1 (qf (OpC.lend 1 [13] ZdB (oP (ZnV O I m x hO hn) func34 (Args.two .t (.pagg .t))) ⟨rfl,tv,tv⟩ (.pv (fun _ _ _ _ h=>h)) trivial (by rfl)) r2 r1 (qO rr qZ)))) J [12,4,3,0] [101,1,0] fun G=>?_)
 refine Zc G V (fun hc1=>?_) (fun hc1=>?_)
 ·have hht:ZlC O x=true:=hc1
  have hg:ZhB O I m x=(O,I,m,4):=by unfold ZhB;rw [hrt,hht];rfl
  refine Ya (rZ G (qI qZ) J [4,3,0] [101,1,0] fun G=>(Yl (Z6 (Zw ?_))))
  rw [hg]
  refine Zy hG G V (.tmp V .nil) (.one .refl) rfl
 have hhf:ZlC O x=false:=hc1
 have hg:ZhB O I m x=(O.set x.src.toNat (insE (Nn O x.src.toNat) (endO x)),I.set x.dst.toNat (insE (Nn I x.dst.toNat) (endI x)),m+1,0):=by unfold ZhB;rw [hrt,hhf];rfl
 refine Yg (Zi (Za (Ya (Ze G (qe 4 101 r1 r1 (qf (oP (ZiG x) func35 (Args.one (.pagg .t))) r1 qz (qR rr (qf (o_extract .t V) r1 qz (qf (o_extract .t V) r1 qz (qf (oH [.int .i64 0,.int .i64 0,.int .i64 0] 102) trivial qz (qf (oH [.int .i64 0,.int .i64 0,.int .i64 0] 103) trivial qz (qf (oA 3 102 .same (.conv .t .agg)) r2 r1 (qf (oA 3 103 .same (.conv .t .agg)) r2 r1 qZ))))))))) J [6,5,4,3,0] [103,102,101,1,0] (fun _=>rfl) (fun _=>rfl) fun τ a w F G=>?_))))
 try dsimp only [RS.sub,SF.sub,CF.sub,csub,Anc.sub,List.map,Zh,xL,xM,Nat.reduceAdd,xD,xE,xT,xU,xC,xN,zCF,ldSF,Z9,Zan,Zk,ZbD] at G
 generalize τ 5=v5,τ 6=v6 at G
 obtain ⟨ov,G⟩:=G.open_ex 1 rfl
 obtain ⟨iv,G⟩:=G.open_ex 1 rfl
 obtain ⟨F,G⟩:=G.peel 1 2 V rfl
 obtain ⟨F,G⟩:=G.peel 1 3 V rfl
 obtain ⟨F,G⟩:=G.peel 1 4 V rfl
 obtain ⟨hs,G⟩:=G.open_ex 3 rfl
 obtain ⟨hl1,G⟩:=G.open_and 3 rfl
 obtain ⟨F,G⟩:=G.peel 3 5 V rfl
 obtain ⟨F,G⟩:=G.peel 3 6 V rfl
 obtain ⟨js,G⟩:=G.open_ex 4 rfl
 obtain ⟨hl2,G⟩:=G.open_and 4 rfl
 obtain ⟨F,G⟩:=G.peel 4 7 V rfl
 obtain ⟨F,G⟩:=G.peel 4 8 V rfl
 obtain ⟨F,G⟩:=G.nM [6,5,4,3,0] [103,102,101,8,7,6,5,2,0]
 obtain ⟨F,G⟩:=G.takeAt Zj4 6 61 (x.src.toNat) V V (Zkj ow)
 replace G:=G.turn 61 V (r':=.ob (.val (Nn hs x.src.toNat)) (Zo 73 3 Z9 (Nn O x.src.toNat))) (fun _ _ _ _ h=>h)
 obtain ⟨F,G⟩:=G.nM [6,5,4,3,0] [103,102,101,61,8,7,6,5,2,0]
 obtain ⟨F,G⟩:=G.takeAt Zj4 8 62 (x.dst.toNat) V V (Zkj ow)
 replace G:=G.turn 62 V (r':=.ob (.val (Nn js x.dst.toNat)) (Zo 73 3 Z9 (Nn I x.dst.toNat))) (fun _ _ _ _ h=>h)
 obtain ⟨F,G⟩:=G.nM [6,5,4,3,0] [103,102,101,62,61,8,7,6,5,2,0]
 refine Za (Ya (Zac G (qR rr (qf (o_nilCheck 2 .is (by rfl)) r1 r1 (qf (oF 0 2 .adr) r1 r1 (qa 2 r1 r1 (qg 0 101 r1 r1 (qa 101 r1 r1 (qR rr (qf (o_nilCheck 2 .is (by rfl)) r1 r1 (qf (oF 0 2 .adr) r1 r1 (qa 2 r1 r1 (qg 0 101 r1 r1 (qa 101 r1 r1 (qf (o_indexAddr_row (sz:=1) 5 (.mk YbK kr) .is .t ow ow (by rfl)) r2 r1 (qf (Zg (ag:=false) (sz':=1) (sz:=1) 5 .t (by intro x;rfl) ow kr kr kr) r1 r1 (qe 3 102 r1 r1 (qf (o_callRowN 61 (putE_c _ (Nn O x.src.toNat) (endO x) (hO _ (nth_mem ow)).1 (hO _ (nth_mem ow)).2.1 (hO _ (nth_mem ow)).2.2 (endO_ok hrt hn)) func36 V kr (Args.two .t (.pagg .t)) pvOne1) r2 r1 (qf (o_indexAddr_row (sz:=1) 5 (.mk YbK kr) .is .t ow ow (by rfl)) r2 r1 (qf (Zdy (i:=36) (j:=36) (by rfl) (fun z=>Zt (R:=rV) (sz:=1) (v:=z) 5 .t (by intro x;rfl) ow .t V one_is kr)) r2 r1 qZ)))))))))))))))))) J [6,4,3,0] [103,101,62,61,8,7,6,5,2,0] (fun _=>rfl) (fun _=>rfl) fun τ a w F G=>?_))
 try dsimp only [RS.sub,SF.sub,CF.sub,csub,Anc.sub,List.map,Zh,xL,xM,Nat.reduceAdd,xD,xE,xT,xU,xC,xN,zCF,ldSF,Z9,Zan,Zk,ZbD] at G
 generalize τ 36=v36 at G
 try simp only [Yb] at G
 replace G:=G.turn 61 V (r':=RS.hp (Zj4 (v36,insE (Nn O x.src.toNat) (endO x)))) (fun _ _ _ _ h=>h)
 obtain ⟨F,G⟩:=G.putAt Zj4 (L:=Zdi hs O) (x:=(v36,insE (Nn O x.src.toNat) (endO x))) 6 61 (x.src.toNat) (by rw [Zij];omega) V V rfl
 rw [← Zii ow] at G
 obtain ⟨F,G⟩:=G.nM [6,4,3,0] [103,101,62,8,7,6,5,2,0]
 refine Za (Ya (Zac G (qR rr (qf (o_nilCheck 2 .is (by rfl)) r1 r1 (qf (oF 1 2 .adr) r1 r1 (qa 2 r1 r1 (qg 1 101 r1 r1 (qa 101 r1 r1 (qR rr (qf (o_nilCheck 2 .is (by rfl)) r1 r1 (qf (oF 1 2 .adr) r1 r1 (qa 2 r1 r1 (qg 1 101 r1 r1 (qa 101 r1 r1 (qf (o_indexAddr_row (sz:=1) 7 (.mk YbK kr) .is .t ow ow (by rfl)) r2 r1 (qf (Zg (ag:=false) (sz':=1) (sz:=1) 7 .t (by intro x;rfl) ow kr kr kr) r1 r1 (qe 3 103 r1 r1 (qf (o_callRowN 62 (putE_c _ (Nn I x.dst.toNat) (endI x) (hI _ (nth_mem ow)).1 (hI _ (nth_mem ow)).2.1 (hI _ (nth_mem ow)).2.2 (endI_ok hrt hn)) func36 V kr (Args.two .t (.pagg .t)) pvOne1) r2 r1 (qf (o_indexAddr_row (sz:=1) 7 (.mk YbK kr) .is .t ow ow (by rfl)) r2 r1 (qf (Zdy (i:=53) (j:=53) (by rfl) (fun z=>Zt (R:=rV) (sz:=1) (v:=z) 7 .t (by intro x;rfl) ow .t V one_is kr)) r2 r1 qZ)))))))))))))))))) J [4,0] [62,8,7,6,5,2,0] (fun _=>rfl) (fun _=>rfl) fun τ a w F G=>?_))
 try dsimp only [RS.sub,SF.sub,CF.sub,csub,Anc.sub,List.map,Zh,xL,xM,Nat.reduceAdd,xD,xE,xT,xU,xC,xN,zCF,ldSF,Z9,Zan,Zk,ZbD] at G
 generalize τ 53=v53 at G
 try simp only [Yb] at G
 replace G:=G.turn 62 V (r':=RS.hp (Zj4 (v53,insE (Nn I x.dst.toNat) (endI x)))) (fun _ _ _ _ h=>h)
 obtain ⟨F,G⟩:=G.putAt Zj4 (L:=Zdi js I) (x:=(v53,insE (Nn I x.dst.toNat) (endI x))) 8 62 (x.dst.toNat) (by rw [Zij];omega) V V rfl
 rw [← Zii ow] at G
 obtain ⟨F,G⟩:=G.nM [4,0] [8,7,6,5,2,0]
 refine Za (Ya (rZ G (qR rr (qf (o_nilCheck 2 .is (by rfl)) r1 r1 (qf (oF 2 2 .adr) r1 r1 (qa 2 r1 r1 (qp r1 (qf (o_nilCheck 2 .is (by rfl)) r1 r1 (qf (oF 2 2 .adr) r1 r1 (qf (ZaG 2 .adr .t one_int kr kr) r2 r1 qZ)))))))) J [4] [8,7,6,5,2,0] fun G=>Ya ?_))
 refine rZ G (qI qZ) J [4] [8,7,6,5,2,0] fun G=>Yl ?_
 rw [Zf ow] at G
 have hl3:(hs.set x.src.toNat v36).length=(O.set x.src.toNat (insE (Nn O x.src.toNat) (endO x))).length:=by simp [hl1]
 have hl4:(js.set x.dst.toNat v53).length=(I.set x.dst.toNat (insE (Nn I x.dst.toNat) (endI x))).length:=by simp [hl2]
 have G:=G.fresh 3 rfl
 have G:=G.fresh 4 rfl
 have G:=G.fresh 1 rfl
 obtain ⟨F,G⟩:=G.push 3 6 V V V kr
 obtain ⟨F,G⟩:=G.push 3 5 V V V kr
 obtain ⟨F,G⟩:=G.push 4 8 V V V kr
 obtain ⟨F,G⟩:=G.push 4 7 V V V kr
 have G:=G.turn 3 V (r':=RS.hp (ZfX _ ov)) (fun _ _ _ _ h=>⟨_,hl3,h⟩)
 have G:=G.turn 4 V (r':=RS.hp (ZfX _ iv)) (fun _ _ _ _ h=>⟨_,hl4,h⟩)
 obtain ⟨F,G⟩:=G.push 1 4 V V V kr
 obtain ⟨F,G⟩:=G.push 1 3 V V V kr
 obtain ⟨F,G⟩:=G.push 1 2 V V V kr
 have G:=G.turn 1 V (r':=RS.hp (Zj7 (ZhB O I m x).1 (ZhB O I m x).2.1 (ZhB O I m x).2.2.1 (Value.pointer (some { block:=b,off:=0 })))) (fun _ _ _ _ h=>by rw [hg];exact ⟨_,_,h⟩)
 refine Zy hG G V (.tmp V .nil) (.one (.int (by rw [hg]))) rfl
def Zq {α:Type} [DecidableEq α]:List α→List α
 | []=>[]
 | [x]=>[x]
 | x :: y :: l=>if x=y then Zq (y :: l) else x :: Zq (y :: l)
theorem Zbl {α:Type} [DecidableEq α] (a b:α):∀ l:List α,Zq (l ++ [a,b])=if a=b then Zq (l ++ [a]) else Zq (l ++ [a]) ++ [b]
 | []=>by
  show (if a=b then [b] else a :: [b])=if a=b then [a] else [a] ++ [b]
  split
  ·rename_i h;rw [h]
  ·rfl
 | [x]=>by
  have ih:=Zbl a b []
  show (if x=a then Zq ([] ++ [a,b]) else x :: Zq ([] ++ [a,b]))=if a=b then (if x=a then Zq ([] ++ [a]) else x :: Zq ([] ++ [a])) else (if x=a then Zq ([] ++ [a]) else x :: Zq ([] ++ [a])) ++ [b]
  rw [ih]
  by_cases h1:x=a <;> by_cases h2:a=b <;> simp [h1,h2]
 | x :: y :: l=>by
  have ih:=Zbl a b (y :: l)
  show (if x=y then Zq (y :: l ++ [a,b]) else x :: Zq (y :: l ++ [a,b]))=if a=b then (if x=y then Zq (y :: l ++ [a]) else x :: Zq (y :: l ++ [a])) else (if x=y then Zq (y :: l ++ [a]) else x :: Zq (y :: l ++ [a])) ++ [b]
  rw [ih]
  by_cases h1:x=y <;> by_cases h2:a=b <;> simp [h1,h2]
theorem Zcq {α:Type} [DecidableEq α] [Inhabited α] {l:List α} {p:Nat} (h1:1≤p) (h2:p<l.length):Zq (l.take (p+1))=if Nn l (p - 1)=Nn l p then Zq (l.take p) else Zq (l.take p) ++ [Nn l p]:=by
 obtain ⟨q,rfl⟩:∃ q,p=q+1:=⟨p - 1,by omega⟩
 rw [ZE h2,ZE (show q<l.length by omega),Yav]
 exact Zbl _ _ _
theorem Zda {α:Type} [DecidableEq α]:∀ {l:List α},l.length≤1→Zq l=l
 | [],_=>rfl
 | [x],_=>rfl
 | x :: y :: l,h=>by simp at h
theorem ZnH (v:Value) (l:List Int) (hll:l.length≤1000000):FnG prog 87 1 [.is v] [Zo 3 1 Zk l v] (PV.one) (fun v=>[Zo 3 1 Zk (Zq l) v]):=by
 refine FnG.mk func87 V ntmps87 V kr fun B F0 a w F J hG G=>?_
 replace G:=G.turn 1 V (r':=.ob (.val v) (Zo 3 1 Zk l)) (fun _ _ _ _ h=>h)
 refine Ya (rZ G (qC qZ) J [2,0] [1,0] fun G=>(Ya (Ya ?_)))
 refine rZ G (qR rr (qf (Zx 1 YbA .is) r1 r1 (qf (Zbg .t qi) r1 qz qZ))) J [8,2,0] [1,0] fun G=>?_
 refine Zc G V (fun hc0=>?_) (fun hc0=>?_)
 ·have hg:(Zq l)=l:=Zda (by simp at hc0;omega)
  refine Ya (rZ G (qR rr (qO rr qZ)) J [2,0] [1,0] fun G=>(Yl (Zw ?_)))
  have G:=G.turn 1 V (r':=RS.hp (Zo 3 1 Zk (Zq l) v)) (fun _ _ _ _ h=>by rw [hg];exact h)
  refine ZU (h':=fun v=>Zo 3 1 Zk (Zq l) v) hG G V (.tmp V .nil) (.one .one) rfl
 have hl2:2≤l.length:=by simp at hc0;omega
 refine Yg (Za (Ya (Ya (rZ G (qI qZ) J [3,2,0] [1,0] fun G=>Yk ?_))))
 refine Zl (σ:=Nat) [0,2] [0,1] (fun s=>[(3,.pv (.int .i64 (s:Int)))]) (fun s=>[]) (fun s=>1≤s∧s≤l.length∧Zq (l.take s)=l.take s) (fun s=>l.length - s) (1) G ⟨rfl,rfl,rfl,tv⟩ ⟨rfl,rfl,tv⟩ ⟨by omega,by omega,Zda (by rw [Ym];omega)⟩ ?_
 clear G;intro k a w F hC G
 try dsimp only at hC
 obtain ⟨F,G⟩:=G.nM [3,2,0] [1,0]
 try dsimp only at G
 obtain ⟨hk1,hkl,hkc⟩:=hC
 have hkw:IntKind.wrap .i64 ((k:Int) - 1)=(k:Int) - 1:=Zr ow
 refine Ya (Ya (rZ G (qR rr (qR rr (qf (Zx 1 YbA .is) r1 r1 (qL r2)))) J [13,3,2,0] [1,0] fun G=>?_))
 refine Zc G V (fun hc1=>?_) (fun hc1=>?_)
 ·have hil:k<l.length:=by simp at hc1;omega
  have hst:=Zcq (l:=l) hk1 hil
  have hy0:(IntKind.wrap .i64 ((k:Int) - 1)).toNat=k - 1:=by rw [hkw];omega
  refine Yg (Za (Ya (Yk (Ya (Zp G (qR rr (qR rr (qf (o_indexAddr_row (sz:=1) 1 (.mk YbA kr) .is .t ow ow (by rfl)) r2 r1 (qf (Zg (ag:=false) (sz':=1) (sz:=1) 1 .t (by intro x;rfl) ow kr kr kr) r1 r1 (qR rr (qR rr (qf (o_sub .t qi) r1 qz (qf (o_indexAddr_row (sz:=1) 1 (.mk YbA kr) .is .t (by rw [hkw];omega) (by rw [hkw];omega) (by rfl)) r2 r1 (qf (Zg (ag:=false) (sz':=1) (sz:=1) 1 .t (by intro x;rfl) (by rw [hkw];omega) kr kr kr) r1 r1 (qf (o_eql .t .t) r2 qz qZ)))))))))) J [25,3,2,0] [1,0] V V fun a w F G=>?_)))))
  try dsimp only [List.map,xD,xE,xT,xU,ldSF,Zk] at G
  try simp only [Yb] at G
  refine Za (Zc G V (fun hc2=>?_) (fun hc2=>?_))
  ·have heq:Nn l (k - 1)=Nn l k:=by rw [hy0] at hc2;simp at hc2;exact hc2.symm
   rw [Yf heq,hkc] at hst
   have hst0:=hst.symm
   refine Ya (rZ G (qR rr (qR rr (qf (Zal (sz:=1) 1 (.mk YbA kr) .is .t ow ow) r2 r1 (qO rr qZ)))) J [4,3,2,0] [1,0] fun G=>(Ya (Ya ?_)))
   refine rZ G (qI qZ) J [5,4,3,2,0] [1,0] fun G=>Yk ?_
   have hC0:1≤1∧1≤l.length - k∧k≤k∧k≤k+1 - 1∧l.length=l.length∧l.take k=Zq (l.take (k+1)) ∧ ∀ q,k+1 - 1≤q→q<l.length→Nn l q=Nn l q:=⟨by omega,by omega,by omega,by omega,rfl,hst0,fun q _ _=>rfl⟩
   refine Zl (σ:=Nat×Nat×List Int) [0,2,4] [0] (fun s=>[(3,.pv (.int .i64 (s.1:Int))),(5,.pv (.int .i64 (s.2.1:Int)))]) (fun s=>[(1,.ob (.val v) (Zo 3 1 Zk s.2.2))]) (fun s=>1≤s.2.1∧s.2.1≤l.length - k∧k≤s.1∧s.1≤k+s.2.1 - 1∧s.2.2.length=l.length∧s.2.2.take s.1=Zq (l.take (k+s.2.1)) ∧ ∀ q,k+s.2.1 - 1≤q→q<l.length→Nn s.2.2 q=Nn l q) (fun s=>l.length - s.2.1) ((k),(1),(l)) G ⟨rfl,rfl,rfl,rfl,rfl,tv⟩ ⟨rfl,rfl,tv⟩ hC0 ?_
   clear G;intro s a w F hC G
   obtain ⟨k1,j,l1⟩:=s
   try dsimp only at hC
   obtain ⟨F,G⟩:=G.nM [5,4,3,2,0] [1,0]
   try dsimp only at G
   obtain ⟨hj1,hjk,hkk,hkj,hl1,htk,hrest⟩:=hC
   have hjw:IntKind.wrap .i64 ((j:Int) - 1)=(j:Int) - 1:=Zr ow
   refine Ya (Ya (rZ G (qR rr (qR rr (qf (ZlS 1 YbA .t ow) r1 r1 (qL r2)))) J [32,5,4,3,2,0] [1,0] fun G=>?_))
   refine Zc G V (fun hc3=>?_) (fun hc3=>?_)
   ·have hjl:k+j<l.length:=by simp at hc3;omega
    have hx1:(Nn l1 (((k:Int)).toNat+((j:Int)).toNat))=Nn l (k+j):=by rw [Yb,Yb];exact hrest _ ow hjl
    have hx0:Nn l1 (((k:Int)).toNat+(IntKind.wrap .i64 ((j:Int) - 1)).toNat)=Nn l (k+j - 1):=by rw [hjw,show ((k:Int)).toNat+((j:Int) - 1).toNat=k+j - 1 by omega];exact hrest _ ow ow
    have hstp:=Zcq (l:=l) (p:=k+j) ow hjl
    refine Yg (Za (Ya (Yk (Ya (Zp G (qR rr (qR rr (qf (o_indexAddr_sub (sz:=1) 1 (.mk YbA kr) .t .t ow ow (by rfl)) r2 r1 (qf (Zg (ag:=false) (sz':=1) (sz:=1) 1 .t (by intro x;rfl) ow kr kr kr) r1 r1 (qR rr (qR rr (qf (o_sub .t qi) r1 qz (qf (o_indexAddr_sub (sz:=1) 1 (.mk YbA kr) .t .t (by rw [hjw];omega) (by rw [hjw];omega) (by rfl)) r2 r1 (qf (Zg (ag:=false) (sz':=1) (sz:=1) 1 .t (by intro x;rfl) (by rw [hjw];omega) kr kr kr) r1 r1 (qf (o_neq .t .t) r2 qz qZ)))))))))) J [44,5,4,3,2,0] [1,0] V V fun a w F G=>?_)))))
    try dsimp only [List.map,xD,xE,xT,xU,ldSF,Zk] at G
    try simp only [Yb] at G
    refine Za (Zc G V (fun hc4=>?_) (fun hc4=>?_))
    ·have hne:¬ Nn l (k+j - 1)=Nn l (k+j):=by rw [← hx1,← hx0];simp at hc4 ⊢;exact fun e=>hc4 e.symm
     rw [Ye hne] at hstp
     obtain ⟨i2,hi2e⟩:∃ i2,i2=k1+1:=⟨_,rfl⟩
     have hi2:IntKind.wrap .i64 ((k1:Int)+1)=(i2:Int):=by rw [hi2e];exact Zf ow
     obtain ⟨l2,hl2e⟩:∃ l2,l2=l1.set k1 (Nn l1 (k+j)):=⟨_,rfl⟩
     have hx1b:Nn l1 (k+j)=Nn l (k+j):=hrest _ ow hjl
     have hC2:1≤j+1∧j+1≤l.length - k∧k≤i2∧i2≤k+(j+1) - 1∧l2.length=l.length∧l2.take i2=Zq (l.take (k+(j+1))) ∧ ∀ q,k+(j+1) - 1≤q→q<l.length→Nn l2 q=Nn l q:=⟨by omega,by omega,by omega,by omega,by rw [hl2e,YM];exact hl1,by rw [hl2e,hi2e,ZE (by rw [YM];omega),List.take_set_of_le (YT _),htk,nth_eq (by rw [YM];omega),List.getElem_set_self,hx1b];exact hstp.symm,fun q hq hq2=>by rw [hl2e,nth_eq (by rw [YM];omega),List.getElem_set_ne ow,← nth_eq ow];exact hrest q ow hq2⟩
     refine Ya (Zb G (qR rr (qR rr (qR rr (qR rr (qf (o_indexAddr_sub (sz:=1) 1 (.mk YbA kr) .t .t ow ow (by rfl)) r2 r1 (qf (Zg (ag:=false) (sz':=1) (sz:=1) 1 .t (by intro x;rfl) ow kr kr kr) r1 r1 (qf (o_indexAddr_row (sz:=1) 1 (.mk YbA kr) .is .t ow ow (by rfl)) r2 r1 (qf (Zt (R:=Zk) (sz:=1) (v:=(Nn l1 (((k:Int)).toNat+((j:Int)).toNat))) 1 .t (by intro x;rfl) ow .t V one_int kr) r2 r1 qZ)))))))) J [5,4,3,2,0] [1,0] V V fun a w F G=>?_)
     try simp only [Yb] at G
     rw [← hl2e] at G
     refine Za (Zb G (qR rr (qp r1 (qO rr qZ))) J [5,4,3,2,0] [1,0] V V fun a w F G=>Zi (Za ?_))
     refine rZ G (qR rr (qp r1 (qO rr qZ))) J [5,4,3,2,0] [1,0] fun G=>?_
     have hmu:l.length - (j+1)<l.length - j:=by omega
     replace G:=G.ent (i:=3) (s':=.pv (.int .i64 (i2:Int))) V (.int hi2)
     replace G:=G.ent (i:=5) (s':=.pv (.int .i64 ((j+1:Nat):Int))) V (.int (Zf ow))
     obtain ⟨F,G⟩:=G.nM [4,2,0,5,3] [0,1]
     exact ⟨((i2),(j+1),(l2)),F,hC2,G,hmu⟩
    have heq2:Nn l (k+j - 1)=Nn l (k+j):=by rw [← hx1,← hx0];simp at hc4 ⊢;exact hc4.symm
    rw [Yf heq2] at hstp
    obtain ⟨i2,hi2e⟩:∃ i2,i2=k1:=⟨_,rfl⟩
    have hi2:(k1:Int)=(i2:Int):=by rw [hi2e]
    obtain ⟨l2,hl2e⟩:∃ l2,l2=l1:=⟨_,rfl⟩
    rw [← hl2e] at G
    have hC2:1≤j+1∧j+1≤l.length - k∧k≤i2∧i2≤k+(j+1) - 1∧l2.length=l.length∧l2.take i2=Zq (l.take (k+(j+1))) ∧ ∀ q,k+(j+1) - 1≤q→q<l.length→Nn l2 q=Nn l q:=⟨by omega,by omega,by omega,by omega,by rw [hl2e];exact hl1,by rw [hl2e,hi2e,htk];exact hstp.symm,fun q hq hq2=>by rw [hl2e];exact hrest q ow hq2⟩
    refine Yg (Zi (Za (rZ G (qR rr (qp r1 (qO rr qZ))) J [5,4,3,2,0] [1,0] fun G=>?_)))
    have hmu:l.length - (j+1)<l.length - j:=by omega
    replace G:=G.ent (i:=3) (s':=.pv (.int .i64 (i2:Int))) V (.int hi2)
    replace G:=G.ent (i:=5) (s':=.pv (.int .i64 ((j+1:Nat):Int))) V (.int (Zf ow))
    obtain ⟨F,G⟩:=G.nM [4,2,0,5,3] [0,1]
    exact ⟨((i2),(j+1),(l2)),F,hC2,G,hmu⟩
   have hjl:k+j=l.length:=by simp at hc3;omega
   have hg:(Zq l)=(l1.take k1++List.replicate (l1.length - k1) (0:Int)).take k1:=by rw [Y2 (by rw [Ym];omega),Ya6,Nat.min_self,htk,hjl,Yac]
   refine YI (Zm (Zm (Zu (Za (Ya (rZ G (qR rr (qR rr (qf (Zal (sz:=1) 1 (.mk YbA kr) .is .t ow ow) r2 r1 (qf (Zhk (R:=Zk) (z:=(0:Int)) (zs:=[.int .i64 0]) 1 YbA kr V V (fun _ _=>⟨⟨rfl,rfl,Znp⟩,tv⟩) (by intro x;rfl) .t (by simp;omega)) r1 r1 qZ)))) J [3,2,0] [1,0] fun G=>Ya ?_))))))
   refine Ze G (qR rr (qR rr (qf (Zck (sz:=1) 1 (.mk YbA kr) (by intro x;rfl) .is .t ow (by simp;omega)) r2 r1 (qO rr qZ)))) J [3,2,0] [1,0] (fun _=>rfl) (fun _=>rfl) fun τ a w F G=>?_
   try dsimp only [RS.sub,SF.sub,CF.sub,csub,Anc.sub,List.map,Zk] at G
   generalize τ 59=v59 at G
   refine Za (Yl (Z6 (Zw (Zw (Z6 (Zw ?_))))))
   have G:=G.turn 1 V (r':=RS.hp (Zo 3 1 Zk (Zq l) v59)) (fun _ _ _ _ h=>by rw [hg];exact h)
   refine ZU (h':=fun v=>Zo 3 1 Zk (Zq l) v) hG G V (.tmp V .nil) (.one .one) rfl
  have hne:¬ Nn l (k - 1)=Nn l k:=by rw [hy0] at hc2;simp at hc2;exact fun e=>hc2 e.symm
  rw [Ye hne] at hst
  refine Yg (Zi (Za (rZ G (qR rr (qp r1 (qO rr qZ))) J [3,2,0] [1,0] fun G=>?_)))
  replace G:=G.ent (i:=3) (s':=.pv (.int .i64 ((k+1:Nat):Int))) V (.int (Zf ow))
  obtain ⟨F,G⟩:=G.nM [2,0,3] [1,0]
  exact ⟨(k+1),F,⟨by omega,by omega,by rw [hst,hkc,← ZE hil]⟩,G,by omega⟩
 have hg:(Zq l)=l:=by rw [show k=l.length by simp at hc1;omega,Yac] at hkc;exact hkc
 refine YI (Zm (Zm (Zu (Za (Ya (rZ G (qR rr (qO rr qZ)) J [2] [1,0] fun G=>Yl ?_))))))
 have G:=G.turn 1 V (r':=RS.hp (Zo 3 1 Zk (Zq l) v)) (fun _ _ _ _ h=>by rw [hg];exact h)
 refine ZU (h':=fun v=>Zo 3 1 Zk (Zq l) v) hG G V (.tmp V .nil) (.one .one) rfl
def Z8:List Int→List Int
 | []=>[]
 | x :: l=>match Z8 l with
  | []=>[x]
  | y :: m=>if x=y then y :: m else x :: y :: m
theorem ZcF:∀ (x:Int) (l:List Int),∃ m,Z8 (x :: l)=x :: m
 | x,[]=>⟨[],rfl⟩
 | x,y :: l=>by
  obtain ⟨m,hm⟩:=ZcF y l
  unfold Z8
  rw [hm]
  by_cases h:x=y
  ·subst h;exact ⟨m,Yf rfl⟩
  ·exact ⟨y :: m,Ye h⟩
theorem Zcv (x y:Int) (l:List Int):Z8 (x :: y :: l)=if x=y then Z8 (y :: l) else x :: Z8 (y :: l):=by
 obtain ⟨m,hm⟩:=ZcF y l
 conv=>lhs;unfold Z8
 rw [hm]
theorem Zby:∀ {l:List Int},l.Pairwise (fun a b=>a≤b)→Zdf (Z8 l) ∧ ∀ x,x ∈ Z8 l ↔ x ∈ l
 | [],_=>by simp [Z8]
 | [x],_=>by simp [Z8]
 | x :: y :: l,h=>by
  have h':=Yq.1 h
  have ih:=Zby h'.2
  rw [Zcv]
  split
  ·rename_i e
   subst e
   exact ⟨ih.1,fun z=>by rw [ih.2 z];simp⟩
  ·rename_i e
   refine ⟨Yq.2 ⟨fun z hz=>?_,ih.1⟩,fun z=>by rw [Yh,ih.2 z,← Yh]⟩
   have h1:=h'.1 y (by simp)
   rcases Yh.1 ((ih.2 z).1 hz) with rfl | hz2
   ·omega
   ·have:=(Yq.1 h'.2).1 z hz2
    omega
theorem ZlI (l:List Int):List.Pairwise (fun x y=>x≤y) (l.mergeSort leI):=by
 have:=List.pairwise_mergeSort (le:=leI) (fun a b c h1 h2=>by simp [leI] at *;omega) (fun a b=>by simp [leI];omega) l
 exact this.imp fun h=>by simpa [leI] using h
theorem Zhh (l:List Int):Z8 (l.mergeSort leI)=Zf3 l:=
 ZcT (Zby (ZlI l)).1 (Za6 l).1 fun x=>by rw [(Zby (ZlI l)).2,(Za6 l).2];exact (List.mergeSort_perm l leI).mem_iff
theorem Ze5:∀ l:List Int,Zq l=Z8 l
 | []=>rfl
 | [x]=>rfl
 | x :: y :: l=>by
  rw [Zcv,← Ze5 (y :: l)];rfl
def adjO (O:List (List ZL)) (mask u:Int):List Int:=if 0≤u∧u<O.length then Zf3 (((Nn O u.toNat).filter fun e=>ofB mask e.kind).map ZL.node) else []
theorem dgNodesOf_c (l:List ZL) (mask:Int) (hl:l.length≤1000000):FnP prog 64 [.sl Z9 l,.int .i64 mask] (.sl Zk (Zf3 ((l.filter fun e=>ofB mask e.kind).map ZL.node))):=by
 refine FnP.mk func64 V ntmps64 V fun B a w F J hfr G=>Ya ?_
 refine rZ G (qC qZ) J [4,1,0] [0] fun G=>Ya ?_
 refine rZ G (qC qZ) J [5,4,1,0] [0] fun G=>(Ya (Ya ?_))
 refine rZ G (qR rr (qu YbC r1 (qJ qZ))) J [10,9,8,5,4,1] [0] fun G=>Yk ?_
 replace G:=G.fresh 50 rfl
 replace G:=G.turn 50 V (Z1 (T:=3) (sz:=1) (R:=Zk))
 refine Zl (σ:=(Nat)×(Value)×(List Int)) [1,4,8,9] [0] (fun s=>[(10,.pv (.int .i64 (s.1:Int))),(5,.pv (.is s.2.1))]) (fun s=>[(50,.ob (.val s.2.1) (Zo 3 1 Zk s.2.2))]) (fun s=>s.1≤l.length∧(s.2.2=(((l.take s.1).filter fun e=>ofB mask e.kind).map ZL.node))) (fun s=>l.length - s.1) ((0),(.slice none 0 0),([])) G ⟨rfl,rfl,rfl,rfl,rfl,rfl,tv⟩ ⟨rfl,rfl,tv⟩ ⟨YA _,rfl⟩ ?_
 clear G;intro s a w F hC G
 obtain ⟨i,v,out⟩:=s
 try dsimp only at hC
 obtain ⟨F,G⟩:=G.nM [10,9,8,5,4,1] [50,0]
 try dsimp only at G
 obtain ⟨hi,hq⟩:=hC
 have hol:out.length≤i:=by rw [hq,YZ];exact YaN (YaQ _ _) (by rw [Ym];omega)
 refine Ya (rZ G (qL r2) J [11,10,9,8,5,4,1] [50,0] fun G=>Ya ?_)
 refine Zc G V (fun hc0=>?_) (fun hc0=>?_)
 ·have hil:i<l.length:=by simp at hc0;omega
  refine Yg (Za (Ya (Yk (Ya (Ze G (qy 3 YbC r2 (qf (oR true 3 .t) r1 qz (qf (oH [.int .i64 0,.int .i64 0,.int .i64 0] 101) trivial qz (qS 3 101 r2 r1 qZ)))) J [10,9,8,7,5,4,1] [101,50,0] (fun _=>rfl) (fun _=>rfl) fun τ a w F G=>?_)))))
  try dsimp only [RS.sub,SF.sub,CF.sub,csub,Anc.sub,List.map,Zh,xL,xM,Nat.reduceAdd,xD,xE,xT,xU,xC,xN,zCF,ldSF,Z9,Zan,Zk,ZbD] at G
  generalize τ 7=v7 at G
  try simp only [Yb] at G
  refine Za (Ya (rZ G (qR rr (qg 0 101 r1 r1 (qa 101 r1 r1 (qf (oP (Zpj mask (Nn l i).kind) func86 (Args.two .t .t)) r2 qz qZ)))) J [17,10,9,8,7,5,4,1] [101,50,0] fun G=>?_))
  refine Zc G V (fun hc1=>?_) (fun hc1=>?_)
  ·have hBq:ofB mask (Nn l i).kind=true:=by simpa using hc1
   refine Ze G (qR rr (qg 2 101 r1 r1 (qa 101 r1 r1 (qf (o_buildSliceE (sz:=1) (zs:=[.int .i64 0]) (r:=[(0,.tmp 20)]) (l:=[_]) YbA kr kr kr kr V V (.one V .t one_int kr .nil) V) r1 qz (qf (ZB (sz:=1) (bs:=8) 50 (.mk' YbA kr kr) (by intro x;rfl) .is (.arr (l':=[_]) .t) (by simp only [Yc,Yx,YS,Ym,YJ];omega) (by decide)) ⟨rfl,rfl,tv⟩ ⟨rfl,tv⟩ (qO rr qZ)))))) J [10,9,8,5,4,1] [101,50,0] (fun _=>rfl) (fun _=>rfl) fun τ a w F G=>?_
   try dsimp only [RS.sub,SF.sub,CF.sub,csub,Anc.sub,List.map,Zh,xL,xM,Nat.reduceAdd,xD,xE,xT,xU,xC,xN,zCF,ldSF,Z9,Zan,Zk,ZbD] at G
   generalize τ 22=v22 at G
   refine Zi (Za (rZ G (qp r1 (qR rr qZ)) J [10,9,8,5,4,1] [101,50,0] fun G=>?_))
   replace G:=G.ent (i:=10) (s':=.pv (.int .i64 ((i+1:Nat):Int))) V (.int (Zf ow))
   obtain ⟨F,G⟩:=G.nM [9,8,4,1,5,10] [0,50]
   exact ⟨((i+1),_,_),F,⟨by omega,(by rw [ZE hil,YaI,Y7,← hq];simp [hBq])⟩,G,by omega⟩
  have hBq:ofB mask (Nn l i).kind=false:=by simpa using hc1
  refine Yg (Zi (Za (rZ G (qp r1 (qR rr qZ)) J [10,9,8,5,4,1] [101,50,0] fun G=>?_)))
  replace G:=G.ent (i:=10) (s':=.pv (.int .i64 ((i+1:Nat):Int))) V (.int (Zf ow))
  obtain ⟨F,G⟩:=G.nM [9,8,4,1,5,10] [0,50]
  exact ⟨((i+1),_,_),F,⟨by omega,(by rw [ZE hil,YaI,Y7,← hq];simp [hBq])⟩,G,by omega⟩
 have hil:i=l.length:=by simp at hc0;omega
 refine YI (Zm (Zm (Zu (Za (Ya (rZ G (qR rr (qf (Zf4 50 (Zns _ out ow) func44 V kr (Args.one .t)) r1 r1 qZ)) J [5,4] [50,0] fun G=>Ya ?_))))))
 refine Ze G (qR rr (qf (o_callRowN 50 (ZnH _ _ (by rw [List.length_mergeSort];omega)) func87 V kr (Args.one .t) pvOne1) r1 r1 (qO rr qZ))) J [4] [50,0] (fun _=>rfl) (fun _=>rfl) fun τ a w F G=>?_
 try dsimp only [RS.sub,SF.sub,CF.sub,csub,Anc.sub,List.map,Z9,Zan,Zk,ZbD] at G
 generalize τ 27=v27 at G
 refine Za (Yl ?_)
 obtain ⟨F,G⟩:=G.give 50 4 V rfl
 refine Zz hfr G V V V (.sl (by rw [Ze5,Zhh,hq,hil,Yac]))
theorem ZiE (O I:List (List ZL)) (m:Nat) (u mask:Int) (hO:∀ l ∈ O,l.length≤1000000):FnP prog 39 [ZeF O I m,.int .i64 u,.int .i64 mask] (.sl Zk (adjO O mask u)):=by
 refine FnP.mk func39 V ntmps39 V fun B a w F J hfr G=>Ya ?_
 refine rZ G (qC qZ) J [6,2,1,0] [0] fun G=>(Ya (Ya ?_))
 refine rZ G (qR rr (qR rr (qf (oP (Zdp O I m u) func60 (Args.two .t .t)) r2 qz (qf (o_not .t) r1 qz qZ)))) J [10,6,2,1,0] [0] fun G=>?_
 refine Zc G V (fun hc0=>?_) (fun hc0=>?_)
 ·have hg:[] = adjO O mask u:=by unfold adjO;rw [Ye (by have h9:=hc0;simp at h9;omega)]
  refine Ya (rZ G (qC qZ) J [6,2,1,0] [0] fun G=>(Yl (Zw ?_)))
  refine Zz hfr G V V V (.trans .nilSl (.sl hg))
 have hth:0≤u∧u<O.length:=by simpa using hc0
 have hg:(Zf3 (((Nn O u.toNat).filter fun e=>ofB mask e.kind).map ZL.node))=adjO O mask u:=by unfold adjO;rw [Yf hth]
 refine Yg (Za (Ya (Zb G (qR rr (qf (o_nilCheck_ref .t) r1 qz (qf (oG 0 .t) r1 qz (qf (oR false 1 .t) r1 qz (qR rr (qf (o_indexAddr_sl (sz:=1) (.mk YbK kr) (by intro x;rfl) .t .t (by exact hth.1) (by exact hth.2)) r2 qz (qf (oR false 1 .t) r1 qz (qR rr (qf (oP (dgNodesOf_c (Nn O u.toNat) mask (hO _ (nth_mem ow))) func64 (Args.two .t .t)) r2 qz (qO rr qZ)))))))))) J [6] [0] V V fun a w F G=>?_)))
 try simp only [Yb] at G
 refine Za (Yl (Zz hfr G V V V (.sl hg)))
section
set_option linter.unusedSectionVars false
variable {α:Type} {κ:α→Int} {t x:α} {l out r:List α} {d:Bool}
def Zee (κ:α→Int) (t:α):List α→Bool→List α
 | [],d=>if d=true then [] else [t]
 | x :: l,d=>(if d=false∧κ t≤κ x then [t] else [])++(if κ x=κ t then [] else [x])++Zee κ t l (d || decide (κ t≤κ x))
theorem Zc7:∀ l:List α,Zee κ t l true=l.filter fun x=>!decide (κ x=κ t)
 | []=>rfl
 | x :: l=>by
  rw [Zee,Ye (by simp),Yal,Bool.true_or,Zc7 l]
  split
  ·rename_i h;rw [List.filter_cons_of_neg (by simpa using h)];rfl
  ·rename_i h;rw [List.filter_cons_of_pos (by simpa using h)];rfl
theorem Zhj {k:Int} (h:∀ x ∈ l,k<κ x):(l.filter fun x=>!decide (κ x=k))=l:=by
 rw [List.filter_eq_self]
 intro x hx
 have:=h x hx
 simp;omega
theorem Zkc {k:Int} : lowK κ k (x :: l)=if κ x<k then lowK κ k l+1 else 0:=by
 unfold lowK
 split
 ·rename_i h1;rw [Ya2 (by simpa using h1),Yx]
 ·rename_i h1;rw [List.takeWhile_cons_of_neg (by simpa using h1)];rfl
theorem Zl0 {k:Int} : isK κ k (x :: l)=(decide (κ x=k) || isK κ k l):=by unfold isK;rw [List.any_cons]
theorem Zkv (hs:l.Pairwise fun a b=>κ a<κ b) (hk:isK κ (κ t) l=false):Zee κ t l false=l.take (lowK κ (κ t) l) ++ [t] ++ l.drop (lowK κ (κ t) l):=by
 induction l with
 | nil=>rfl
 | cons x l ih=>
  rw [Yq] at hs
  rw [Zl0,Bool.or_eq_false_iff,YR] at hk
  rw [Zee,Ye hk.1,Zkc]
  by_cases h:κ x<κ t
  ·rw [Ye ow,Yf h,show (false || decide (κ t≤κ x))=false by simp;omega,ih hs.2 hk.2];simp
  ·rw [Yf ⟨rfl,by omega⟩,Ye h,show (false || decide (κ t≤κ x))=true by simp;omega,Zc7,Zhj fun y hy=>by have:=hs.1 y hy;omega];simp
theorem ZlL {y:α} (h:y ∈ Zee κ t l d):(y=t∧d=false)∨(y ∈ l∧κ y≠κ t):=by
 induction l generalizing d with
 | nil=>cases d <;> simp [Zee] at h;exact .inl ⟨h,rfl⟩
 | cons x l ih=>
  rw [Zee,Yu,Yu] at h
  rcases h with (h | h) | h
  ·split at h
   ·rename_i h1;exact .inl ⟨by simpa using h,h1.1⟩
   ·cases h
  ·split at h
   ·cases h
   ·rename_i h1
    have e:y=x:=by simpa using h
    subst e
    exact .inr ⟨by simp,h1⟩
  ·rcases ih h with ⟨h1,h2⟩ | ⟨h1,h2⟩
   ·rw [Bool.or_eq_false_iff] at h2;exact .inl ⟨h1,h2.1⟩
   ·exact .inr ⟨by simp [h1],h2⟩
theorem Zjk (hs:l.Pairwise fun a b=>κ a<κ b):(Zee κ t l d).Pairwise fun a b=>κ a<κ b:=by
 induction l generalizing d with
 | nil=>cases d <;> simp [Zee]
 | cons x l ih=>
  rw [Yq] at hs
  have hf:=hs.2.filter fun x=>!decide (κ x=κ t)
  rw [Zee]
  by_cases hA:d=false∧κ t≤κ x
  ·rw [Yf hA,show (d || decide (κ t≤κ x))=true by simp [hA.2],Zc7]
   have h1:∀ y ∈ l.filter (fun x=>!decide (κ x=κ t)),κ x<κ y:=fun y hy=>hs.1 y (YH.1 hy).1
   split
   ·rw [Yax,Yat,Yq]
    exact ⟨fun y hy=>by have:=h1 y hy;omega,hf⟩
   ·rename_i h2
    rw [Yav,Yat,Yat,Yq,Yq]
    refine ⟨fun y hy=>?_,h1,hf⟩
    rcases Yh.1 hy with rfl | hy
    ·omega
    ·have:=h1 y hy;omega
  ·rw [Ye hA,Yal]
   have ih2:=ih (d:=d || decide (κ t≤κ x)) hs.2
   split
   ·simpa using ih2
   ·rename_i h2
    rw [Yat,Yq]
    refine ⟨fun y hy=>?_,ih2⟩
    rcases ZlL hy with ⟨rfl,h3⟩ | ⟨h3,_⟩
    ·rw [Bool.or_eq_false_iff] at h3
     have:=Yag h3.2
     omega
    ·exact hs.1 y h3
end
theorem ZiS {l:List ZL} {e:ZL} (h:Zj5 Zaf l) (hk:isK Zaf (Zaf e) l=false):Zj5 Zaf (insE l e)∧(∀ s,s ∈ insE l e ↔ s ∈ l∨s=e)∧(insE l e).length=l.length+1:=by
 have hm:∀ s,s ∈ insE l e ↔ s ∈ l∨s=e:=fun s=>by
  unfold insE
  rw [Yu,Yu,Yd]
  constructor
  ·rintro ((h1 | h1) | h1)
   ·exact .inl (List.mem_of_mem_take h1)
   ·exact .inr h1
   ·exact .inl (List.mem_of_mem_drop h1)
  ·rintro (h1 | h1)
   ·rw [← YaC (lowK Zaf (Zaf e) l) l,Yu] at h1
    rcases h1 with h1 | h1
    ·exact .inl (.inl h1)
    ·exact .inr h1
   ·exact .inl (.inr h1)
 refine ⟨?_,hm,?_⟩
 ·unfold insE
  rw [← Zkv (ZdA.1 h) hk]
  exact ZdA.2 (Zjk (ZdA.1 h))
 ·have:=ZlP (κ:=Zaf) (k:=Zaf e) l
  unfold insE
  simp only [Yc,Ym,YJ,Yp]
  omega
def Znk (L:List (List ZL)) (m:Nat):Prop:=∀ l ∈ L,l.length≤m∧Zj5 Zaf l ∧ ∀ e ∈ l,okE e
theorem Znk.r {L:List (List ZL)} {m:Nat} (h:Znk L m) (hm:m≤1000000):ZoP L:=fun l hl=>⟨YaN (h l hl).1 hm,(h l hl).2⟩
theorem Znk.set {L:List (List ZL)} {m k:Nat} {e:ZL} (h:Znk L m) (hk:k<L.length) (he:okE e) (hn:isK Zaf (Zaf e) (Nn L k)=false):Znk (L.set k (insE (Nn L k) e)) (m+1):=fun l hl=>by
 rcases List.mem_or_eq_of_mem_set hl with h1 | rfl
 ·exact ⟨Nat.le_succ_of_le (h l h1).1,(h l h1).2⟩
 ·obtain ⟨a1,a2,a3⟩:=h _ (nth_mem hk)
  obtain ⟨b1,b2,b3⟩:=ZiS a2 hn
  exact ⟨by omega,b1,fun s hs=>((b2 s).1 hs).elim (a3 s) fun h9=>h9 ▸ he⟩
theorem Zlw {l:List ZL} {e:ZL} (hl:∀ s ∈ l,okE s) (he:okE e):isK Zaf (Zaf e) l=true ↔ e ∈ l:=by
 unfold isK
 rw [List.any_eq_true]
 constructor
 ·rintro ⟨s,h1,h2⟩;exact keyE_inj (hl s h1) he (Yr h2) ▸ h1
 ·exact fun h=>⟨e,h,Yy rfl⟩
structure ZbQ (n:Nat) (E:List ZT) (O I:List (List ZL)):Prop where
 ol:O.length=n
 il:I.length=n
 on:Znk O E.length
 inn:Znk I E.length
 ok:∀ x ∈ E,Zam n x=true
 om:∀ u:Nat,u<n → ∀ e,e ∈ Nn O u ↔ ∃ x ∈ E,x.src=(u:Int)∧endO x=e
 im:∀ u:Nat,u<n → ∀ e,e ∈ Nn I u ↔ ∃ x ∈ E,x.dst=(u:Int)∧endI x=e
theorem ZbQ.outK {n:Nat} {E:List ZT} {O I:List (List ZL)} {x:ZT} (h:ZbQ n E O I) (hn:n≤4096) (hx:Zam n x=true):isK Zaf (Zaf (endO x)) (Nn O x.src.toNat)=true ↔ x ∈ E:=by
 obtain ⟨⟨s1,s2⟩,⟨d1,d2⟩,_⟩:=ZM.1 hx
 have hu:x.src.toNat<n:=by omega
 rw [Zlw (h.on _ (nth_mem (by rw [h.ol];exact hu))).2.2 (endO_ok hx hn),h.om _ hu]
 constructor
 ·rintro ⟨y,y1,y2,y3⟩
  have e:y=x:=by
   cases y;cases x
   simp only [endO,ZL.mk.injEq] at y3
   simp only at y2 s1
   obtain ⟨a,b,c⟩:=y3
   rw [Yad s1] at y2
   subst a;subst b;subst c;subst y2;rfl
  exact e ▸ y1
 ·exact fun k=>⟨x,k,by rw [Yad s1],rfl⟩
theorem ZbQ.has {n:Nat} {E:List ZT} {O I:List (List ZL)} {x:ZT} (h:ZbQ n E O I) (hn:n≤4096):ZlC O x=true ↔ Zam n x=true∧x ∈ E:=by
 unfold ZlC
 rw [h.ol,YB]
 exact ⟨fun k=>⟨k.1,(h.outK hn k.1).1 k.2⟩,fun k=>⟨k.1,(h.outK hn k.1).2 k.2⟩⟩
theorem ZbQ.inK {n:Nat} {E:List ZT} {O I:List (List ZL)} {x:ZT} (h:ZbQ n E O I) (hn:n≤4096) (hx:Zam n x=true):isK Zaf (Zaf (endI x)) (Nn I x.dst.toNat)=true ↔ x ∈ E:=by
 obtain ⟨⟨s1,s2⟩,⟨d1,d2⟩,_⟩:=ZM.1 hx
 have hu:x.dst.toNat<n:=by omega
 rw [Zlw (h.inn _ (nth_mem (by rw [h.il];exact hu))).2.2 (endI_ok hx hn),h.im _ hu]
 constructor
 ·rintro ⟨y,y1,y2,y3⟩
  have e:y=x:=by
   cases y;cases x
   simp only [endI,ZL.mk.injEq] at y3
   simp only at y2 d1
   obtain ⟨a,b,c⟩:=y3
   rw [Yad d1] at y2
   subst a;subst b;subst c;subst y2;rfl
  exact e ▸ y1
 ·exact fun k=>⟨x,k,by rw [Yad d1],rfl⟩
theorem Zh6 {n:Nat} {E:List ZT} {L:List (List ZL)} {x:ZT} {f:ZT→Int} {g:ZT→ZL} (hl:L.length=n) (hm:∀ u:Nat,u<n → ∀ e,e ∈ Nn L u ↔ ∃ x ∈ E,f x=(u:Int)∧g x=e) (h0:0≤f x) (hr:Zj5 Zaf (Nn L (f x).toNat)) (hk:isK Zaf (Zaf (g x)) (Nn L (f x).toNat)=false) :
  ∀ u:Nat,u<n → ∀ e,e ∈ Nn (L.set (f x).toNat (insE (Nn L (f x).toNat) (g x))) u ↔ ∃ y ∈ E ++ [x],f y=(u:Int)∧g y=e:=fun u hu e=>by
 rw [ZoQ ow]
 have hex:(∃ y ∈ E ++ [x],f y=(u:Int)∧g y=e) ↔ (∃ y ∈ E,f y=(u:Int)∧g y=e)∨(f x=(u:Int)∧g x=e):=by
  constructor
  ·rintro ⟨y,y1,y2⟩
   rcases Yu.1 y1 with y1 | y1
   ·exact .inl ⟨y,y1,y2⟩
   ·rw [Yd.1 y1] at y2;exact .inr y2
  ·rintro (⟨y,y1,y2⟩ | k)
   ·exact ⟨y,Y6 _ y1,y2⟩
   ·exact ⟨x,by simp,k⟩
 rw [hex]
 by_cases hc:(f x).toNat=u
 ·rw [Yf hc,(ZiS hr hk).2.1,hc,hm u hu]
  constructor
  ·rintro (k | k)
   ·exact .inl k
   ·exact .inr ⟨by omega,k.symm⟩
  ·rintro (k | k)
   ·exact .inl k
   ·exact .inr k.2.symm
 ·rw [Ye hc,hm u hu]
  exact ⟨.inl,fun k=>k.elim id fun k=>absurd ow hc⟩
theorem ZbQ.add {n:Nat} {E:List ZT} {O I:List (List ZL)} {x:ZT} (h:ZbQ n E O I) (hn:n≤4096) (hx:Zam n x=true) (hne:x ∉ E):ZbQ n (E ++ [x]) (O.set x.src.toNat (insE (Nn O x.src.toNat) (endO x))) (I.set x.dst.toNat (insE (Nn I x.dst.toNat) (endI x))):=by
 have ko:=Bool.eq_false_iff.2 (fun k=>hne ((h.outK hn hx).1 k))
 have ki:=Bool.eq_false_iff.2 (fun k=>hne ((h.inK hn hx).1 k))
 obtain ⟨⟨s1,s2⟩,⟨d1,d2⟩,_⟩:=ZM.1 hx
 have hl:=h.ol
 have hl2:=h.il
 have so:x.src.toNat<O.length:=by omega
 have si:x.dst.toNat<I.length:=by omega
 refine ⟨by simp [hl],by simp [hl2],?_,?_,fun y hy=>?_,?_,?_⟩
 ·rw [Yc];exact h.on.set so (endO_ok hx hn) ko
 ·rw [Yc];exact h.inn.set si (endI_ok hx hn) ki
 ·rcases Yu.1 hy with hy | hy
  ·exact h.ok y hy
  ·rw [Yd.1 hy];exact hx
 ·exact Zh6 (f:=ZT.src) (g:=endO) hl h.om s1 (h.on _ (nth_mem so)).2.1 ko
 ·exact Zh6 (f:=ZT.dst) (g:=endI) hl2 h.im d1 (h.inn _ (nth_mem si)).2.1 ki
theorem ZbQ.next {n:Nat} {E:List ZT} {O I:List (List ZL)} (h:ZbQ n E O I) (mask u:Int):Zdf (adjO O mask u) ∧ ∀ v,v ∈ adjO O mask u ↔ ∃ x ∈ E,x.src=u∧ofB mask x.kind=true∧x.dst=v:=by
 by_cases hu:0≤u∧u<O.length
 ·unfold adjO
  rw [Yf hu]
  refine ⟨(Za6 _).1,fun v=>?_⟩
  rw [(Za6 _).2,YD]
  constructor
  ·rintro ⟨e,h1,h2⟩
   obtain ⟨h3,h4⟩:=YH.1 h1
   obtain ⟨x,x1,x2,rfl⟩:=(h.om u.toNat (by have:=h.ol;omega) e).1 h3
   exact ⟨x,x1,by omega,h4,h2⟩
  ·rintro ⟨x,x1,x2,x3,x4⟩
   exact ⟨endO x,YH.2 ⟨(h.om u.toNat (by have:=h.ol;omega) _).2 ⟨x,x1,by omega,rfl⟩,x3⟩,x4⟩
 ·unfold adjO
  rw [Ye hu]
  refine ⟨List.Pairwise.nil,fun v=>⟨fun k=>(by cases k),?_⟩⟩
  rintro ⟨x,x1,x2,_⟩
  have:=(ZM.1 (h.ok x x1)).1
  have:=h.ol
  exact absurd ⟨by omega,by omega⟩ hu
theorem ZbQ.new (n:Nat):ZbQ n [] (List.replicate n []) (List.replicate n []):=by
 have hn:∀ u:Nat,u<n→Nn (List.replicate n ([]:List ZL)) u = []:=fun u hu=>by
  rw [nth_eq (by simpa using hu)];simp
 have hd:Znk (List.replicate n []) ([]:List ZT).length:=fun l hl=>by
  rw [(List.mem_replicate.1 hl).2];exact ⟨YT _,ZdA.2 .nil,fun e h=>by cases h⟩
 exact ⟨by simp,by simp,hd,hd,(fun x h=>by cases h),(fun u hu e=>by rw [hn u hu];simp),(fun u hu e=>by rw [hn u hu];simp)⟩
end Go.Proofs.YtlaaiihdhockcaaGreatDoor
