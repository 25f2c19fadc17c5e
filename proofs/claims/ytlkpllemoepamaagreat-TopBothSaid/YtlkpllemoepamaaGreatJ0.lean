/- Laws and walks. No condition beyond what each says. -/
import Derived.Test.YtlkpllemoepamaaGreatLibE
import Derived.Laws.BitsLemmas
import Derived.Laws.MathBits
import Derived.Shelf.Sort.Plain
import Derived.Shelf.Slices.In.SortNone
namespace Go.Proofs.YtlkpllemoepamaaGreat
open Go Go.Gm Tryz
set_option linter.unusedVariables false
set_option linter.unusedSimpArgs false
set_option maxHeartbeats 4000000
set_option maxRecDepth 8000
theorem Yb0:type_of% @underlying45:=@underlying45
theorem Yb1:type_of% @underlying31:=@underlying31
theorem Yb2:type_of% @underlying28:=@underlying28
theorem Yb3:type_of% @underlying22:=@underlying22
theorem Yb4:type_of% @underlying220:=@underlying220
theorem Yb5:type_of% @underlying23:=@underlying23
theorem Yb6:type_of% @underlying161:=@underlying161
theorem Yb7:type_of% @underlying287:=@underlying287
theorem Yb8:type_of% @underlying162:=@underlying162
theorem Yb9:type_of% @underlying3:=@underlying3
theorem Yca:type_of% @underlying213:=@underlying213
theorem Ycb:type_of% @underlying250:=@underlying250
theorem Ycc:type_of% @underlying127:=@underlying127
theorem Ycd:type_of% @underlying9:=@underlying9
theorem Yce:type_of% @underlying175:=@underlying175
theorem Ycf:type_of% @underlying247:=@underlying247
theorem Zz {x:Int} (h : -9223372036854775808≤x∧x≤9223372036854775807):IntKind.wrap .i64 x=x:=ZgV ⟨by simp [IntKind.min,IntKind.signed,IntKind.bits];omega,by simp [IntKind.max,IntKind.signed,IntKind.bits];omega⟩
theorem Zd {i:Nat} (h:i<9223372036854775807):IntKind.wrap .i64 ((i:Int)+1)=((i+1:Nat):Int):=by rw [Zz ow];omega
theorem ZaR {x:Int} (h:0≤x∧x≤18446744073709551615):IntKind.wrap .u64 x=x:=ZgV ⟨by simp [IntKind.min,IntKind.signed,IntKind.bits];omega,by simp [IntKind.max,IntKind.signed,IntKind.bits];omega⟩
theorem Zap (x:Int):IntKind.wrap .u64 x=x % 18446744073709551616:=by simp [IntKind.wrap,IntKind.bits,IntKind.signed]
theorem Zos {x:Int} (h:inR .i64 x) : -9223372036854775808≤x∧x≤9223372036854775807:=by simpa [inR,IntKind.min,IntKind.max,IntKind.signed,IntKind.bits] using h
theorem ZeZ {x:Int} (h:inR .u64 x):0≤x∧x≤18446744073709551615:=by simpa [inR,IntKind.min,IntKind.max,IntKind.signed,IntKind.bits] using h
theorem Sat.lenSl {α:Type} {R:α→List PV} {B:Zbj} {E:En} {a:Act} {w:World} {F:Fp} (h:Sat B E a w F) {i:Nat} {l:List α} (hl:Go.Gm.look E.s i=some (SF.pv (PV.sl R l))):l.length≤9223372036854775807:=by
 obtain ⟨_,cap,_,h1,h2,_⟩:=h.s i _ hl
 unfold maxLen at h2
 omega
def Zn (n:Int):List PV:=[.int .i64 n]
theorem Zbm.any {ss:List SF} : Zbm ss .any:=fun _ _ _ _ _=>trivial
theorem ZaJ {α:Type} [Inhabited α] {x y:List α} (hl:x.length=y.length) (h:∀ j,j<x.length→Nn x j=Nn y j):x=y:=by
 apply YaV hl
 intro j h1 h2
 have:=h j h1
 rwa [nth_eq h1,nth_eq h2] at this
theorem Znp {α:Type} [Inhabited α] {q:List α} {k:Nat} (h:k<q.length):q.take k ++ [Nn q k] = q.take (k+1):=by
 rw [nth_eq h,List.take_succ_eq_append_getElem h]
theorem nth_mem {α:Type} [Inhabited α] {q:List α} {k:Nat} (h:k<q.length):Nn q k ∈ q:=by rw [nth_eq h];exact YaH h
theorem Zqr {α:Type} [Inhabited α] {l:List α} {i:Nat} (h:i<l.length):l.drop i=Nn l i :: l.drop (i+1):=by rw [nth_eq h];exact List.drop_eq_getElem_cons h
theorem Zs {α:Type} [Inhabited α] {l:List α} {i:Nat} (h:i<l.length):l.take (i+1)=l.take i ++ [Nn l i]:=(Znp h).symm
def ZcN (n:Int):Int:=if 65536<(if n<0 then 0 else n) then 65536 else (if n<0 then 0 else n)
theorem ZhR {n:Int} (h:0≤n∧n≤65536):ZcN n=n:=by unfold ZcN;rw [Yb (show ¬ n<0 by omega),Yb ow]
theorem ZnO (n:Int):0≤ZcN n∧ZcN n≤65536:=by unfold ZcN;split <;> split <;> omega
theorem ZkA {k:IntKind} {a:Int} {b:Bool} (v:Value) (w:World) (y:Ys) (w':World) (y':Ys) (h:(PV.tup [.int k a,.bool b]).p v w y):(PV.tup [.int k a,.bool b]).p v w' y':=by
 obtain ⟨vs,e,h⟩:=h
 exact ⟨vs,e,by
  match vs,h with
  | [u1,u2],h=>exact h⟩
theorem Zo3 (n:Int):FnP prog 199 [.int .i64 n] (.int .i64 (ZcN n)):=by
 refine FnP.mk func199 rfl ntmps199 rfl fun B a w F Z hfr G=>Ya ?_
 refine rZ G (qI qZ) Z [2,0] [0] fun G=>Ya ?_
 refine rZ G (qR rr (qf (Zp9 .t qi) r1 qz (qf (Ztq .t qi) r1 qz (qO rr qZ)))) Z [2] [0] fun G=>Yh ?_
 refine Zv hfr G rfl rfl rfl .refl
def rV (v:Value):List PV:=[.is v]
theorem Zca {w:World} {y:Ys} : ∀ {rs:List RS} {f:Ys},stars w y rs f → ∀ r ∈ rs,∃ f1:Ys,(∀ b,f1 b→f b)∧r.holds tau0 w f1 y
 | [],f,_,r,h=>by cases h
 | x :: rs,f,⟨f1,f2,h1,h2,h3,h4,h5⟩,r,hr=>by
  rcases Yl.1 hr with rfl | hr
  ·exact ⟨f1,fun b hb=>(h1 b).2 (.inl hb),h4⟩
  ·obtain ⟨g,g1,g2⟩:=Zca h5 r hr
   exact ⟨g,fun b hb=>(h1 b).2 (.inr (g1 b hb)),g2⟩
structure Z8 where
 kind:Int
 label:Int
 node:Int
 deriving DecidableEq,Inhabited
def Zal (e:Z8):List PV:=[.int .i64 e.kind,.int .i64 e.label,.int .i64 e.node]
def Zan (l:List Z8):List PV:=[.sl Zal l]
def Zmk (p:Value×List Z8):HP:=ZC 217 3 Zal p.2 p.1
def Zex (hs:List Value) (L:List (List Z8)):List (Value×List Z8):=(List.range hs.length).map fun k=>(Nn hs k,Nn L k)
theorem Zj3 (hs:List Value) (L:List (List Z8)):(Zex hs L).length=hs.length:=by unfold Zex;simp
theorem ZmD {hs:List Value} {L:List (List Z8)} {k:Nat} (h:k<hs.length):(Zex hs L)[k]? = some (Nn hs k,Nn L k):=by unfold Zex;simp [h]
theorem ZpQ (hs:List Value) (L:List (List Z8)):(Zex hs L).map (·.1)=hs:=by
 apply YaV (by simp [Zex])
 intro j h1 h2
 simp [Zex,nth_eq h2]
theorem Zqt {hs:List Value} {L:List (List Z8)} (h:hs.length=L.length):(Zex hs L).map (·.2)=L:=by
 apply YaV (by simp [Zex,h])
 intro j h1 h2
 simp [Zex,nth_eq h2]
def Ziu (L:List (List Z8)) (v:Value):HP:=.ex fun hs:List Value=>.and (hs.length=L.length) (.star [.ob (.val v) (ZC 220 1 rV hs),ZqI Zmk (Zex hs L)])
theorem ZkY {w:World} {y y':Ys} : ∀ {ps:List (Value×List Z8)} {xs:List Value},PVs ((ps.map (·.1)).flatMap rV) xs w y→(∀ p ∈ ps,(PV.sl Zal p.2).p p.1 w y')→PVs ((ps.map (·.2)).flatMap Zan) xs w y'
 | [],[],_,_=>trivial
 | p :: ps,x :: xs,h,k=>by
  have e:x=p.1:=h.1.2.1
  refine ⟨⟨h.1.1,?_⟩,ZkY (ps:=ps) h.2 fun q hq=>k q (YE _ hq)⟩
  rw [e];exact k p Ya8
 | [],_ :: _,h,_=>h.elim
 | _ :: _,[],h,_=>h.elim
theorem ZiY {L:List (List Z8)} {v:Value} : Ztt (Ziu L v) v (.sl Zan L):=fun w f y y' ⟨hs,hl,h⟩ hle hf hb=>by
 obtain ⟨f1,g1,g2⟩:=Zca h (.ob (.val v) (ZC 220 1 rV hs)) (by simp)
 obtain ⟨f2,m1,m2⟩:=Zca h (ZqI Zmk (Zex hs L)) (by simp)
 have hrow:(ZC 220 1 rV hs v).p w f1 y:=g2
 have hfam:stars w y ((Zex hs L).map fun x=>RS.hp (Zmk x)) f2:=m2
 obtain ⟨xs,k1,k2,k3⟩:=hrow
 obtain ⟨ad,cap,e8,h8,h9,h10⟩:=ZM k1
 rw [hl] at e8 h8
 refine ⟨ad,cap,e8,h8,h9,?_⟩
 rcases h10 with h10 | ⟨b',rfl,h11,h12⟩
 ·exact .inl (YR (by rw [← hl];exact h10))
 ·have hb':f1 b':=(k3 b').2 h11
  refine .inr ⟨b',0,xs,rfl,hf b' (g1 b' hb'),hb b' (g1 b' hb'),h12,?_⟩
  have key:=ZkY (y:=y) (y':=y') (ps:=Zex hs L) (xs:=xs) (w:=w) (by rw [ZpQ];exact k2) fun p hp=>by
   obtain ⟨f3,n1,n2⟩:=Zca hfam (RS.hp (Zmk p)) (Yu.2 ⟨p,hp,rfl⟩)
   exact Zg1 w f3 y y' n2 hle (fun b h=>hf b (m1 b (n1 b h))) (fun b h=>hb b (m1 b (n1 b h)))
  rwa [Zqt hl] at key
def ZoN (O I:List (List Z8)) (n:Nat) (v:Value):HP:=.ex fun ov:Value=>.ex fun iv:Value=>.star [.pt (.val v) 215 [.pv (.is ov),.pv (.is iv),.pv (.int .i64 n)],RS.hp (Ziu O ov),RS.hp (Ziu I iv)]
abbrev ZhD (O I:List (List Z8)) (n:Nat):PV:=.ref [.sl Zan O,.sl Zan I,.int .i64 n]
theorem Zhl {O I:List (List Z8)} {n:Nat} {v:Value} : Ztt (ZoN O I n v) v (ZhD O I n):=fun w f y y' ⟨ov,iv,h⟩ hle hf hb=>by
 obtain ⟨f1,g1,g2⟩:=Zca h (.pt (.val v) 215 [.pv (.is ov),.pv (.is iv),.pv (.int .i64 n)]) (by simp)
 obtain ⟨f2,m1,m2⟩:=Zca h (RS.hp (Ziu O ov)) (by simp)
 obtain ⟨f3,n1,n2⟩:=Zca h (RS.hp (Ziu I iv)) (by simp)
 have hO:=ZiY w f2 y y' m2 hle (fun b k=>hf b (m1 b k)) (fun b k=>hb b (m1 b k))
 have hI:=ZiY w f3 y y' n2 hle (fun b k=>hf b (n1 b k)) (fun b k=>hb b (n1 b k))
 obtain ⟨b,vs,k1,k2,k3,k4⟩:=g2
 have hb1:f1 b:=(k3 b).2 rfl
 refine ⟨b,0,vs.toList,k1,hf b (g1 b hb1),hb b (g1 b hb1),ZA.mk fun j u hj=>?_,?_⟩
 ·simp only [Y7]
  simp [World.cell?,k2]
  simpa using hj
 ·generalize vs.toList=us at k4
  match us,k4 with
  | [u1,u2,u3],k4=>
   have e1:u1=ov:=k4.1.2.1
   have e2:u2=iv:=k4.2.1.2.1
   refine ⟨⟨k4.1.1,?_⟩,⟨k4.2.1.1,?_⟩,⟨k4.2.2.1.1,k4.2.2.1.2⟩,tv⟩
   ·rw [e1];exact hO
   ·rw [e2];exact hI
structure Zw where
 src:Int
 dst:Int
 kind:Int
 label:Int
 deriving DecidableEq,Inhabited
def ZaI (a:Zw):List PV:=[.int .i64 a.src,.int .i64 a.dst,.int .i64 a.kind,.int .i64 a.label]
def endO (x:Zw):Z8:=⟨x.kind,x.label,x.dst⟩
def endI (x:Zw):Z8:=⟨x.kind,x.label,x.src⟩
def ofB (mask kind:Int):Bool:=decide (bits .and .i64 (mask.fdiv (2 ^ min (IntKind.wrap .u64 kind).toNat (IntKind.bits .i64))) 1=1)
def ZaF (n:Nat) (x:Zw):Bool:=(((((decide (0≤x.src∧x.src<n)) && decide (0≤x.dst∧x.dst<n)) && decide (1≤x.kind)) && decide (x.kind≤3)) && decide (0≤x.label)) && decide (x.label≤1048575)
theorem Zcz (O I:List (List Z8)) (m:Nat):FnP prog 158 [ZhD O I m] (.int .i64 (O.length:Int)):=by
 refine FnP.mk func158 rfl ntmps158 rfl fun B a w F Z hfr G=>Ya ?_
 refine rZ G (qI qZ) Z [2,0] [0] fun G=>(Ya (Ya ?_))
 refine rZ G (qR rr (qf (ZfK underlying167 .t) r1 qz qZ)) Z [4,2,0] [0] fun G=>?_
 refine Zc G rfl (fun hc0=>?_) (fun hc0=>?_)
 ·simp at hc0
 refine Yf (Za (Ya (rZ G (qR rr (qf (ZT .t) r1 qz (qf (oG 0 .t) r1 qz (qf (oR false 1 .t) r1 qz (qu Yca r1 (qO rr qZ)))))) Z [2] [0] fun G=>Yh ?_)))
 refine Zv hfr G rfl rfl rfl .refl
theorem ZeH (O I:List (List Z8)) (m:Nat) (u:Int):FnP prog 194 [ZhD O I m,.int .i64 u] (.bool (decide (0≤u∧u<O.length))):=by
 refine FnP.mk func194 rfl ntmps194 rfl fun B a w F Z hfr G=>Ya ?_
 refine rZ G qB Z [4,1,0] [0] fun G=>Ya ?_
 refine rZ G (qR rr (qf (ZbE .t qi) r1 qz (qR rr (qm rfl rfl rfl rfl (qm rfl rfl rfl rfl (qk rfl (fun h=>oP (Zcz O I m) func158 (Args.one (.w h))) r2 qz (qk rfl (fun h=>Zar (.w h) (.w h)) r3 qz (qf (ZH .t .t) r2 qz (qO rr qZ))))))))) Z [4] [0] fun G=>Yh ?_
 refine Zv hfr G rfl rfl rfl (.bool (by by_cases h:0≤u <;> simp [h]))
theorem ZhM (O I:List (List Z8)) (m:Nat) (x:Zw):FnP prog 154 [ZhD O I m,.agg (ZaI x)] (.bool (ZaF O.length x)):=by
 refine FnP.mk func154 rfl ntmps154 rfl fun B a w F Z hfr G=>Ya ?_
 refine Zb G (qx 101 r1 qB) Z [4,3,0] [101,0] (fun _=>rfl) (fun _=>rfl) fun τ a w F G=>?_
 try dsimp only [RS.sub,SF.sub,CF.sub,csub,Anc.sub,List.map,zCF,Zal,Zan,Zn,ZaI] at G
 generalize τ 3=v3 at G
 refine Za (Ya (rZ G (qR rr (qg 0 101 r1 r1 (qa 101 r1 r1 (qf (oP (ZeH O I m x.src) func194 (Args.two .t .t)) r2 qz (qR rr (qm rfl rfl rfl rfl (qv 1 101 rfl r2 r1 (qw 101 rfl r2 r1 (qk rfl (fun h=>oP (ZeH O I m x.dst) func194 (Args.two (.w h) (.w h))) r3 qz (qf (ZH .t .t) r2 qz (qR rr (qv 2 101 rfl r2 r1 (qw 101 rfl r2 r1 (qk rfl (fun h=>ZbE (.w h) qi) r2 qz (qf (ZH .t .t) r2 qz (qR rr (qv 2 101 rfl r2 r1 (qw 101 rfl r2 r1 (qk rfl (fun h=>Zlf (.w h) qi) r2 qz (qf (ZH .t .t) r2 qz (qR rr (qv 3 101 rfl r2 r1 (qw 101 rfl r2 r1 (qk rfl (fun h=>ZbE (.w h) qi) r2 qz (qf (ZH .t .t) r2 qz (qR rr (qv 3 101 rfl r2 r1 (qw 101 rfl r2 r1 (qk rfl (fun h=>Zlf (.w h) qi) r2 qz (qf (ZH .t .t) r2 qz (qO rr qZ))))))))))))))))))))))))))))))) Z [4] [0] fun G=>Yh ?_))
 refine Zv hfr G rfl rfl rfl (.bool (by unfold ZaF;simp))
theorem Zj4 (x:Zw):FnP prog 156 [.agg (ZaI x)] (.tup [.agg (Zal (endO x)),.agg (Zal (endI x))]):=by
 refine FnP.mk func156 rfl ntmps156 rfl fun B a w F Z hfr G=>Ya ?_
 refine Zb G (qx 101 r1 (qf (oH [.int .i64 0,.int .i64 0,.int .i64 0] 102) trivial qz (qf (oH [.int .i64 0,.int .i64 0,.int .i64 0] 103) trivial qz qZ))) Z [3,2,1] [103,102,101,0] (fun _=>rfl) (fun _=>rfl) fun τ a w F G=>?_
 try dsimp only [RS.sub,SF.sub,CF.sub,csub,Anc.sub,List.map,zCF,Zal,Zan,Zn,ZaI] at G
 generalize τ 1=v1,τ 2=v2,τ 3=v3 at G
 refine Za (Ya (ZB G (qg 2 101 r1 r1 (qa 101 r1 r1 (qg 3 101 r1 r1 (qa 101 r1 r1 (qg 1 101 r1 r1 (qa 101 r1 r1 (qf (oB [(0,.tmp 5),(1,.tmp 7),(2,.tmp 9)] [.int .i64 0,.int .i64 0,.int .i64 0] [(0,1),(1,1),(2,1)] (.one rfl .t one_int kr (.one rfl .t one_int kr (.one rfl .t one_int kr .nil)))) r3 qz (qg 2 101 r1 r1 (qa 101 r1 r1 (qg 3 101 r1 r1 (qa 101 r1 r1 (qg 0 101 r1 r1 (qa 101 r1 r1 (qf (oB [(0,.tmp 12),(1,.tmp 14),(2,.tmp 16)] [.int .i64 0,.int .i64 0,.int .i64 0] [(0,1),(1,1),(2,1)] (.one rfl .t one_int kr (.one rfl .t one_int kr (.one rfl .t one_int kr .nil)))) r3 qz (qs 3 102 r2 r1 (qs 3 103 r2 r1 qZ)))))))))))))))) Z [3,2] [103,102,0] rfl rfl fun a w F G=>?_))
 try dsimp only [List.map,Ze,xL,xM,Nat.reduceAdd,xD,xE,xT,xU,xC,xN,zCF,ldSF,Zal,Zan,Zn,ZaI] at G
 refine Za (Yh (Zae hfr G rfl (.cl 102 true 3 rfl rfl (.cl 103 true 3 rfl rfl .nil)) (.two (.aggU rfl rfl) (.aggU rfl rfl))))
theorem Zq4 (mask kind:Int):FnP prog 210 [.int .i64 mask,.int .i64 kind] (.bool (ofB mask kind)):=by
 refine FnP.mk func210 rfl ntmps210 rfl fun B a w F Z hfr G=>Ya ?_
 refine rZ G qB Z [4,1,0] [0] fun G=>Ya ?_
 refine rZ G (qR rr (qR rr (qf (Zat Yb8 kr .t) r1 qz (qf (Zev .t .t  (by rw [Zap];omega)) r2 qz (qf (Zdk .t qi) r1 qz (qf (o_eql .t qi) r1 qz (qO rr qZ))))))) Z [4] [0] fun G=>Yh ?_
 refine Zv hfr G rfl rfl rfl (.bool rfl)
theorem Zry (x:Int):IntKind.wrap .u8 x=x % 256:=by simp [IntKind.wrap,IntKind.bits,IntKind.signed]
def Zih (s:List UInt8):Nat:=s.foldl (fun a c=>a*10+(c.toNat - 48)) 0
theorem ZjI {x:Int} (h:0≤x∧x≤18446744073709551615):bits .and .u64 x 4294967295=x % 4294967296:=by
 obtain ⟨X,rfl⟩:=YaF h.1
 have h1:(BitVec.ofInt 64 (X:Int)).toNat=X:=by rw [Ya9];omega
 have h2:(BitVec.ofInt 64 (4294967295:Int)).toNat=2 ^ 32 - 1:=by decide
 show IntKind.wrap .u64 (((BitVec.ofInt 64 (X:Int) &&& BitVec.ofInt 64 4294967295).toNat:Nat):Int)=_
 rw [YbI,h1,h2,Nat.and_two_pow_sub_one_eq_mod,Zap]
 omega
theorem Zs6 {x:Int} : x.fdiv (2 ^ min (32:Int).toNat (IntKind.bits .u64))=x / 4294967296:=by
 rw [Ybi _ (by decide)]
 rfl
theorem Zrd (x y:Int):FnP prog 255 [.int .u64 x,.int .u64 y] (.tup [.int .u64 (x*y / 18446744073709551616),.int .u64 (x*y % 18446744073709551616)]):=by
 refine FnP.mk func255 rfl ntmps255 rfl fun B a w F Z hfr G=>?_
 have hx:=ZeZ (G.range (i:=0) rfl)
 have hy:=ZeZ (G.range (i:=1) rfl)
 have h3:∀ {z:Int},0≤IntKind.wrap .u64 z∧IntKind.wrap .u64 z≤18446744073709551615:=fun {z}=>ZeZ (ZbN _ _)
 refine Ya (rZ G (qI (qI qZ)) Z [5,4,1,0] [0] fun G=>Ya ?_)
 refine rZ G (qR rr (qf (Zdk .t qi) r1 qz (qO rr qZ))) Z [6,5,4,1,0] [0] fun G=>Ya ?_
 refine rZ G (qR rr (qf (Zev .t qi (by decide)) r1 qz (qO rr qZ))) Z [7,6,5,4,1,0] [0] fun G=>Ya ?_
 refine rZ G (qR rr (qf (Zdk .t qi) r1 qz (qO rr qZ))) Z [8,7,6,5,4,1,0] [0] fun G=>Ya ?_
 refine rZ G (qR rr (qf (Zev .t qi (by decide)) r1 qz (qO rr qZ))) Z [9,8,7,6,5,4,1,0] [0] fun G=>Ya ?_
 refine rZ G (qR rr (qR rr (qf (Zlr .t .t) r2 qz (qO rr qZ)))) Z [10,9,8,7,6,5,4,1,0] [0] fun G=>Ya ?_
 refine rZ G (qR rr (qR rr (qf (Zlr .t .t) r2 qz (qR rr (qf (Zev .t qi (by decide)) r1 qz (qf (o_add .t .t) r2 qz (qO rr qZ))))))) Z [11,9,7,6,5,4,1,0] [0] fun G=>Ya ?_
 refine rZ G (qR rr (qf (Zdk .t qi) r1 qz (qO rr qZ))) Z [12,11,9,7,6,5,4,1,0] [0] fun G=>Ya ?_
 refine rZ G (qR rr (qf (Zev .t qi (by decide)) r1 qz (qO rr qZ))) Z [13,12,9,7,6,5,4,1,0] [0] fun G=>Ya ?_
 refine rZ G (qR rr (qR rr (qR rr (qf (Zlr .t .t) r2 qz (qf (o_add .t .t) r2 qz (qO rr qZ)))))) Z [13,12,9,7,5,4,1,0] [0] fun G=>Ya ?_
 refine rZ G (qR rr (qR rr (qf (Zlr .t .t) r2 qz (qR rr (qf (o_add .t .t) r2 qz (qR rr (qf (Zev .t qi (by decide)) r1 qz (qf (o_add .t .t) r2 qz (qO rr qZ))))))))) Z [5,4,1,0] [0] fun G=>Ya ?_
 refine rZ G (qR rr (qR rr (qf (Zlr .t .t) r2 qz (qO rr qZ)))) Z [5,4] [0] fun G=>Yh ?_
 refine Zae hfr G rfl (.tmp rfl (.tmp rfl .nil)) (.two (.int (by simp only [Zs6,ZjI hx,ZjI hy,ZjI h3];simp only [Zap];exact mul64_arith x y hx.1 ow hy.1 ow)) (.int (by rw [Zap])))
structure Ztg where
 key:Int
 val:Int
 deriving DecidableEq,Inhabited
section
variable {out t T:List Ztg} {k x:Int} {e:Ztg} {d:Bool}
end
def Zc7 (v:Int):List Int→Int
 | []=>-1
 | x :: l=>if x=v then 0 else if Zc7 v l<0 then -1 else Zc7 v l+1
theorem Zfw {v:Int} : ∀ {l:List Int},(∀ k,k<l.length→Nn l k≠v)→Zc7 v l = -1
 | [],_=>rfl
 | x :: l,h=>by
  have h0:x≠v:=h 0 (by simp)
  rw [Zc7,Yb h0,Zfw (l:=l) fun k hk=>by have:=h (k+1) (by simpa using hk);exact this,Ye (by decide)]
theorem Zn6 {v:Int} : ∀ {l:List Int} {i:Nat},i<l.length→Nn l i=v→(∀ k,k<i→Nn l k≠v)→Zc7 v l=i
 | [],i,h,_,_=>by simp at h
 | x :: l,0,_,h,_=>by rw [Zc7,Ye (show x=v from h)];rfl
 | x :: l,i+1,h,h1,h2=>by
  have h0:x≠v:=h2 0 ow
  have:=Zn6 (l:=l) (i:=i) (by simpa using h) h1 fun k hk=>h2 (k+1) ow
  rw [Zc7,Yb h0,this,Yb ow];omega
theorem Zpx {v:Int} {l:List Int} (h:v ∈ l):∃ i:Nat,Zc7 v l=i∧i<l.length∧Nn l i=v ∧ ∀ k,k<i→Nn l k≠v:=by
 induction l with
 | nil=>cases h
 | cons x l ih=>
  by_cases hx:x=v
  ·exact ⟨0,by rw [Zc7,Ye hx];rfl,by simp,hx,fun k hk=>absurd hk (Y3 k)⟩
  ·obtain ⟨i,h1,h2,h3,h4⟩:=ih (by rcases Yl.1 h with h | h;exact absurd h.symm hx;exact h)
   refine ⟨i+1,by rw [Zc7,Yb hx,h1,Yb ow];omega,by simpa using h2,h3,fun k hk=>?_⟩
   cases k with
   | zero=>exact hx
   | succ k=>exact h4 k ow
theorem ZoZ {v:Int} {l:List Int} (h:v ∉ l):Zc7 v l = -1:=Zfw fun k hk e=>h (e ▸ nth_mem hk)
theorem Zgr (v:Int) (l:List Int) : -1≤Zc7 v l∧Zc7 v l<l.length:=by
 by_cases h:v ∈ l
 ·obtain ⟨i,h1,h2,_⟩:=Zpx h
  omega
 ·rw [ZoZ h];omega
def ZtX (l:List Int) (j x:Int):List Int:=if 0≤j∧j≤l.length then l.take j.toNat++x :: l.drop j.toNat else l
def Zfx (l:List Int):Prop:=(∀ x ∈ l,1≤x∧x≤1048575)∧l.Nodup
instance (l:List Int):Decidable (Zfx l):=by unfold Zfx;exact inferInstance
theorem Zfx.take {l:List Int} (h:Zfx l) (i:Nat):Zfx (l.take i):=⟨fun x hx=>h.1 x (Yap hx),h.2.sublist (List.take_sublist i l)⟩
def leI (x y:Int):Bool:=decide (x≤y)
theorem Zoa {a b:List Int} : a.mergeSort leI=b.mergeSort leI ↔ a.Perm b:=by
 constructor
 ·intro h
  exact (YaI a leI).symm.trans (h ▸ YaI b leI)
 ·intro h
  have hs:∀ l:List Int,List.Pairwise (fun x y=>x≤y) (l.mergeSort leI):=fun l=>by
   have:=List.pairwise_mergeSort (le:=leI) (fun a b c h1 h2=>by simp [leI] at *;omega) (fun a b=>by simp [leI];omega) l
   exact this.imp fun h=>by simpa [leI] using h
  exact List.Perm.eq_of_pairwise (fun x y _ _ h1 h2=>Int.le_antisymm h1 h2) (hs a) (hs b) (((YaI a leI).trans h).trans (YaI b leI).symm)
def ZdK (l:List Int) (tx:Int):Int×Bool:=
 if tx≠0∧Zc7 tx l<0 then (0,false) else
 if (l.length:Int)≤(if tx=0 then -1 else Zc7 tx l)+1 then (0,false) else (Nn l ((if tx=0 then -1 else Zc7 tx l)+1).toNat,true)
def ZsZ (l:List Int) (tx:Int):List Int:=if tx ∈ l then l else l ++ [tx]
def Zcn (l:List Int) (tx:Int):List Int:=l.filter fun x=>decide (x≠tx)
def ZpE (l:List Int) (tx place:Int):List Int×Int:=if Zc7 tx l<0 then ([],3) else if ¬ (0≤place∧place<l.length) then ([],1) else (ZtX (l.eraseIdx (Zc7 tx l).toNat) place tx,0)
def Zmu (a b:List Int):Prop:=Zfx a∧Zfx b∧a.Perm b
instance (a b:List Int):Decidable (Zmu a b):=by unfold Zmu;exact inferInstance
def ZhV:Go.Shelf.Ren:=⟨fun | 189=>92 | 125=>142 | 257=>141 | 128=>189 | 129=>190 | 294=>180 | 295=>181 | 296=>182 | 297=>183 | 298=>184 | 299=>185 | 216=>186 | 300=>187 | 301=>188 | 328=>212 | 329=>213 | 330=>214 | 331=>215 | 332=>216 | 215=>151 | 343=>240 | n=>n,fun | 28=>45 | 3=>3 | 46=>162 | 0=>0 | 51=>260 | 53=>175 | 4=>4 | 183=>253 | 182=>252 | 131=>43 | 5=>5 | 9=>9 | 218=>290 | 222=>294 | 228=>309 | 229=>107 | n=>n,fun  | n=>n⟩
theorem Zkw:Lays.n189 prog ZhV where
 mixed:=by kernel_rfl
 f125:=func142.trans (Y0 some kr)
 f128:=func189.trans (Y0 some kr)
 f129:=func190.trans (Y0 some kr)
 f189:=func92.trans (Y0 some kr)
 f215:=func151.trans (Y0 some kr)
 f216:=func186.trans (Y0 some kr)
 f257:=func141.trans (Y0 some kr)
 f294:=func180.trans (Y0 some kr)
 f295:=func181.trans (Y0 some kr)
 f296:=func182.trans (Y0 some kr)
 f297:=func183.trans (Y0 some kr)
 f298:=func184.trans (Y0 some kr)
 f299:=func185.trans (Y0 some kr)
 f300:=func187.trans (Y0 some kr)
 f301:=func188.trans (Y0 some kr)
 f328:=func212.trans (Y0 some kr)
 f329:=func213.trans (Y0 some kr)
 f330:=func214.trans (Y0 some kr)
 f331:=func215.trans (Y0 some kr)
 f332:=func216.trans (Y0 some kr)
 f343:=func240.trans (Y0 some kr)
 t0:=underlying0
 a0:=Tryz.isAgg0
 z0:=Tryz.sizeOf0
 v0:=Tryz.zeroValue0
 t3:=Yb9
 a3:=Tryz.isAgg3
 z3:=Tryz.sizeOf3
 v3:=Tryz.zeroValue3
 t4:=underlying4
 a4:=Tryz.isAgg4
 z4:=Tryz.sizeOf4
 v4:=Tryz.zeroValue4
 t5:=underlying5
 a5:=Tryz.isAgg5
 z5:=Tryz.sizeOf5
 v5:=Tryz.zeroValue5
 t9:=Ycd
 a9:=Tryz.isAgg9
 z9:=Tryz.sizeOf9
 v9:=Tryz.zeroValue9
 t28:=Yb0
 a28:=Tryz.isAgg45
 z28:=Tryz.sizeOf45
 v28:=Tryz.zeroValue45
 t46:=Yb8
 a46:=Tryz.isAgg162
 z46:=Tryz.sizeOf162
 v46:=Tryz.zeroValue162
 t51:=underlying260
 a51:=Tryz.isAgg260
 z51:=Tryz.sizeOf260
 v51:=Tryz.zeroValue260
 t53:=Yce
 a53:=Tryz.isAgg175
 z53:=Tryz.sizeOf175
 v53:=Tryz.zeroValue175
 t131:=underlying43
 a131:=Tryz.isAgg43
 z131:=Tryz.sizeOf43
 v131:=Tryz.zeroValue43
 t182:=underlying252
 a182:=Tryz.isAgg252
 z182:=Tryz.sizeOf252
 v182:=Tryz.zeroValue252
 t183:=underlying253
 a183:=Tryz.isAgg253
 z183:=Tryz.sizeOf253
 v183:=Tryz.zeroValue253
 t218:=underlying290
 a218:=Tryz.isAgg290
 z218:=Tryz.sizeOf290
 v218:=Tryz.zeroValue290
 t222:=underlying294
 a222:=Tryz.isAgg294
 z222:=Tryz.sizeOf294
 v222:=Tryz.zeroValue294
 t228:=underlying309
 a228:=Tryz.isAgg309
 z228:=Tryz.sizeOf309
 v228:=Tryz.zeroValue309
 t229:=underlying107
 a229:=Tryz.isAgg107
 z229:=Tryz.sizeOf107
 v229:=Tryz.zeroValue107
theorem Zn5 (w:World):Calls prog 92 #[.slice none 0 0] w (fun e w'=>e = .returned (.tuple #[])∧w' = w):=
 Go.calls_of_every_depth fun D=>Go.Proofs.AnyS.slices_Sort_int_none_in Zkw D none 0 w
theorem Zkt {w:World} {y:Ys} : ∀ {l:List Int} {xs:List Value},PVs (l.flatMap Zn) xs w y→xs=l.map (Value.int .i64) ∧ ∀ x ∈ l,inR .i64 x
 | [],[],_=>⟨rfl,fun x hx=>by cases hx⟩
 | [],_ :: _,h=>h.elim
 | x :: l,[],h=>h.elim
 | x :: l,v :: xs,h=>by
  have h1:v = .int .i64 x∧inR .i64 x:=h.1.2
  obtain ⟨h2,h3⟩:=Zkt (l:=l) (xs:=xs) h.2
  exact ⟨by rw [h1.1,h2];rfl,fun z hz=>by rcases Yl.1 hz with rfl | hz;exact h1.2;exact h3 z hz⟩
theorem ZfS {w:World} {y:Ys} : ∀ {l:List Int},(∀ x ∈ l,inR .i64 x)→PVs (l.flatMap Zn) (l.map (Value.int .i64)) w y
 | [],_=>trivial
 | x :: l,h=>⟨⟨rfl,rfl,h x (by simp)⟩,ZfS fun z hz=>h z (by simp [hz])⟩
theorem ZqG {l:List Int} {j:Nat} (hj:j<l.length):(l.toArray)[j]! = l[j]:=by simp [hj]
theorem Zjg {w:World} {g n:Nat} {d:List Int} {os:Array Obj} {cur:Array Value} {e:TypeId} (hg:w.heap[g]? = some (.cells cur e (0,0))) (b:Nat) (hb:b<w.heap.size) :
  (Go.Sort.grow (Go.Sort.putRow (Value.int .i64) (Go.Sort.ahead w n) g 0 d.toArray) os).heap[b]? = if b=g then some (.cells (Go.Sort.putCells (Value.int .i64) 0 d.toArray cur) e (0,0)) else w.heap[b]?:=by
 unfold Go.Sort.grow Go.Sort.putRow Go.Sort.mapBlock Go.Sort.ahead
 simp only
 rw [Array.getElem?_append_left (by simpa using hb),Array.getElem?_modify]
 by_cases h:g=b
 ·subst h
  rw [Ye rfl,Ye rfl,hg];rfl
 ·rw [Yb h,Yb (fun e=>h e.symm)]
theorem Zqx {cur:Array Value} {d:List Int} (h:d.length≤cur.size):(Go.Sort.putCells (Value.int .i64) 0 d.toArray cur).toList.take d.length=d.map (Value.int .i64):=by
 apply YaV
 ·simp [Go.Sort.putCells];omega
 ·intro i h1 h2
  have hi:i<d.length:=by simpa using h2
  simp [Go.Sort.putCells,hi]
theorem ZiC (v:Value) (l:List Int) (hlm:l.length≤1000000):FnG prog 92 1 [.is v] [ZC 3 1 Zn l v] (.tup []) (fun _=>[ZC 3 1 Zn (l.mergeSort leI) v]):=fun w F vs hw hle hvs hpr=>by
 match vs,hvs with
 | [u],hvs=>
  have hu:u=v:=hvs.1.1
  subst hu
  obtain ⟨xs,⟨hxl,hx⟩,hp,hf⟩:=hpr 0 _ rfl
  rcases hx with ⟨rfl,h0⟩ | ⟨g,cap,cur,rfl,_,hg,hn,hcap,hcs,hct⟩
  ·have hl:l = []:=YR h0
   subst hl
   refine (Zn5 w).mono ?_
   rintro e w' ⟨rfl,rfl⟩
   refine ⟨.tuple #[],F,rfl,hw,⟨rfl,rfl,rfl,YO _,fun _ _ _=>rfl,fun _ _=>rfl,fun n hn b hb=>.inl ⟨n,hn,hb⟩⟩,hle,⟨[],rfl,tv⟩,fun i h hi=>?_⟩
   match i,hi with
   | 0,hi=>simp at hi;subst hi;exact ⟨xs,⟨hxl,.inl ⟨rfl,rfl⟩⟩,by simpa using hp,hf⟩
  ·have hgs:g<w.heap.size:=(YW.1 hg).1
   obtain ⟨hxe,hin⟩:=Zkt hp
   have hcl:l.length≤cur.size:=by rw [hcs];omega
   have hbig:l.length<4611686018427387904:=by omega
   have hcur:∀ j (hj:j<l.length),cur[j]? = some (.int .i64 l[j]):=fun j hj=>by
    have h1:(cur.toList.take (l.length*1))[j]? = (l.map (Value.int .i64))[j]?:=by rw [hct,hxe]
    rw [Ybo ow] at h1
    simpa [hj] using h1
   have hH:Go.Sort.Holds (Value.int .i64) w g 0 l.toArray:=fun j hj=>by
    have hj':j<l.length:=by simpa using hj
    refine ⟨?_,?_⟩
    ·rw [ZqG hj',Y7,ZR hg];exact hcur j hj'
    ·simp [World.frozen?,hg]
   have hcalls:Calls prog 92 #[.slice (some ⟨g,0,none⟩) l.length cap] w fun e w'=>e = .returned (.tuple #[]) ∧ ∃ n os,w' = Go.Sort.grow (Go.Sort.putRow (Value.int .i64) (Go.Sort.ahead w n) g 0 (l.mergeSort leI).toArray) os:=Go.Proofs.Any.slices_Sort_int Zkw g 0 cap l w hH hgs hbig
   refine hcalls.mono ?_
   rintro e w' ⟨rfl,n,os,rfl⟩
   have hsl:(l.mergeSort leI).length=l.length:=Ybl l
   have hheap:=fun b hb=>Zjg (n:=n) (d:=l.mergeSort leI) (os:=os) hg b hb
   have hsz:(Go.Sort.grow (Go.Sort.putRow (Value.int .i64) (Go.Sort.ahead w n) g 0 (l.mergeSort leI).toArray) os).heap.size=w.heap.size+os.size:=by simp [Go.Sort.ahead]
   have hfg:F 1 g:=(hf g).2 rfl
   have hst:Stp (List.range' 1 1) w F (Go.Sort.grow (Go.Sort.putRow (Value.int .i64) (Go.Sort.ahead w n) g 0 (l.mergeSort leI).toArray) os) F:=
    ⟨rfl,rfl,rfl,by rw [hsz];omega,fun b hb hn=>by
     rw [hheap b hb,Yb (fun e=>by subst e;exact hn 1 (by simp) hfg)],fun _ _=>rfl,fun n hn b hb=>.inl ⟨n,hn,hb⟩⟩
   refine ⟨.tuple #[],F,rfl,⟨hw.dis,fun n b hb=>by rw [hsz];have:=hw.bd n b hb;omega⟩,hst,hle,⟨[],rfl,tv⟩,fun i h hi=>?_⟩
   match i,hi with
   | 0,hi=>
    simp only [Ybu,Y1] at hi
    subst hi
    refine ⟨(l.mergeSort leI).map (Value.int .i64),⟨by simp,.inr ⟨g,cap,_,by rw [hsl],Yx _,(hheap g hgs).trans (Ye rfl),by omega,hcap,by simp [Go.Sort.putCells,hcs],?_⟩⟩,ZfS fun x hx=>hin x ((YaI l leI).mem_iff.1 hx),hf⟩
    rw [Nat.mul_one];exact Zqx ow
structure Zf where
 src:Int
 dst:Int
 kind:Int
 key:Int
 deriving DecidableEq,Inhabited
structure Zbh where
 tx:Int
 key:Int
 nth:Int
 deriving DecidableEq,Inhabited
def Zp (e:Zf):List PV:=[.int .i64 e.src,.int .i64 e.dst,.int .i64 e.kind,.int .i64 e.key]
def ZN (v:Zbh):List PV:=[.int .i64 v.tx,.int .i64 v.key,.int .i64 v.nth]
def noE:Zf:=⟨0,0,0,0⟩
def noV:Zbh:=⟨0,0,0⟩
def idB (n:Int):Bool:=decide (1≤n) && decide (n≤1048575)
def Zb1 (v:Zbh):Bool:=if v.tx=0 then idB v.key && decide (v.nth=0) else ((idB v.tx && idB v.key) && decide (1≤v.nth)) && decide (v.nth≤4095)
def ZtC (v:Zbh):Int:=(v.tx*1048576+v.key)*4096+v.nth
def Zq5 (v:Zbh):Int×Int:=if Zb1 v then (ZtC v,0) else (0,1)
theorem Zd7 {n:Int} : idB n=true ↔ 1≤n∧n≤1048575:=by unfold idB;rw [Yt,Yp,Yp]
theorem Zlz (k:Int):decide (k<1) = !decide (1≤k):=by rw [← decide_not];exact decide_eq_decide.2 ow
theorem Zmt (m k:Int):decide (m<k) = !decide (k≤m):=by rw [← decide_not];exact decide_eq_decide.2 ow
theorem or64 (x y:Nat) (hx:x<18446744073709551616) (hy:y<18446744073709551616):bits .or .u64 (x:Int) (y:Int)=((x ||| y:Nat):Int):=by
 have h1:(BitVec.ofInt 64 (x:Int)).toNat=x:=by rw [Ya9];omega
 have h2:(BitVec.ofInt 64 (y:Int)).toNat=y:=by rw [Ya9];omega
 show IntKind.wrap .u64 (((BitVec.ofInt 64 (x:Int) ||| BitVec.ofInt 64 (y:Int)).toNat:Nat):Int)=_
 rw [BitVec.toNat_or,h1,h2]
 exact ZaR (by have:=Nat.or_lt_two_pow (n:=64) hx hy;omega)
theorem Zo4 {q:Nat} (h:q<18446744073709551616):IntKind.wrap .u64 (q:Int)=q:=ZaR ow
theorem ofN {q:Nat} (h:q<18446744073709551616):(BitVec.ofInt 64 (q:Int)).toNat=q:=by rw [Ya9];omega
theorem ZqR {K:Int} (k:Nat) (hk:min K.toNat (IntKind.bits .u64)=k) (x y:Int) (hx:0≤x) (hy:0≤y) (hyk:y<2 ^ k) (hb:x*2 ^ k+y<18446744073709551616):bits .or .u64 (IntKind.wrap .u64 (x*2 ^ min K.toNat (IntKind.bits .u64))) y=x*2 ^ k+y:=by
 obtain ⟨X,rfl⟩:=YaF hx
 obtain ⟨Y,rfl⟩:=YaF hy
 rw [hk]
 have e2:(X:Int)*2 ^ k=((X*2 ^ k:Nat):Int):=by rw [Int.natCast_mul,Int.natCast_pow];rfl
 have hY:Y<2 ^ k:=by exact_mod_cast hyk
 have hor:X*2 ^ k ||| Y=X*2 ^ k+Y:=by rw [Nat.mul_comm];exact (Nat.two_pow_add_eq_or_of_lt hY X).symm
 rw [e2] at hb ⊢
 generalize X*2 ^ k=Q at hb hor ⊢
 rw [Zo4 ow,or64 _ _ ow ow,hor]
 omega
theorem Zks {v:Zbh} (h:Zb1 v=true):bits .or .u64 (IntKind.wrap .u64 (bits .or .u64 (IntKind.wrap .u64 (IntKind.wrap .u64 v.tx*2 ^ min (20:Int).toNat (IntKind.bits .u64))) (IntKind.wrap .u64 v.key)*2 ^ min (12:Int).toNat (IntKind.bits .u64))) (IntKind.wrap .u64 v.nth)=ZtC v:=by
 have hb:(0≤v.tx∧v.tx≤1048575)∧(1≤v.key∧v.key≤1048575)∧(0≤v.nth∧v.nth≤4095):=by
  unfold Zb1 at h
  split at h <;> simp only [Yt,Yp,Zd7] at h <;> omega
 obtain ⟨h1,h2,h3⟩:=hb
 rw [ZaR (x:=v.tx) ow,ZaR (x:=v.key) ow,ZaR (x:=v.nth) ow]
 rw [ZqR 20 rfl v.tx v.key ow ow ow ow,ZqR 12 rfl (v.tx*2 ^ 20+v.key) v.nth ow ow ow ow]
 unfold ZtC
 omega
theorem mask {x:Int} (h:0≤x∧x≤18446744073709551615) {K:Int} (k:Nat) (hk:min K.toNat (IntKind.bits .u64)=k) (hk2:k<64):bits .and .u64 x (IntKind.wrap .u64 (IntKind.wrap .u64 (1*2 ^ min K.toNat (IntKind.bits .u64)) - 1))=x % 2 ^ k:=by
 obtain ⟨X,rfl⟩:=YaF h.1
 rw [hk,Int.one_mul]
 have hp1:2 ^ k<2 ^ 64:=Nat.pow_lt_pow_right (by decide) hk2
 have hp:2 ^ k<18446744073709551616:=hp1
 have hp0:0<2 ^ k:=Nat.two_pow_pos k
 have e2:(2:Int) ^ k=((2 ^ k:Nat):Int):=by norm_cast
 have e3:∀ q:Nat,0<q→(q:Int) - 1=((q - 1:Nat):Int):=fun q h=>by omega
 rw [e2,Zo4 hp,e3 _ hp0,Zo4 ow]
 show IntKind.wrap .u64 (((BitVec.ofInt 64 (X:Int) &&& BitVec.ofInt 64 ((2 ^ k - 1:Nat):Int)).toNat:Nat):Int)=_
 rw [YbI,ofN ow,ofN ow,Nat.and_two_pow_sub_one_eq_mod]
 have hm:=Nat.mod_le X (2 ^ k)
 rw [Zo4 ow]
 norm_cast
theorem Zt7 (n:Int):FnP prog 178 [.int .i64 n] (.bool (idB n)):=by
 refine FnP.mk func178 rfl ntmps178 rfl fun B a w F Z hfr G=>Ya ?_
 refine rZ G qB Z [2,0] [0] fun G=>Ya ?_
 refine rZ G (qR rr (qf (ZbE .t qi) r1 qz (qR rr (qm rfl rfl rfl rfl (qk rfl (fun h=>Zlf (.w h) qi) r2 qz (qf (ZH .t .t) r2 qz (qO rr qZ))))))) Z [2] [0] fun G=>Yh ?_
 refine Zv hfr G rfl rfl rfl .refl
theorem Zgm (v:Zbh):((!(decide (v.tx=0) && decide (v.nth=0)) && ((!idB v.tx || decide (v.nth<1)) || decide (4095<v.nth))) || !idB v.key) = !Zb1 v:=by
 unfold Zb1
 by_cases h:v.tx=0
 ·rw [Ye h,Yaa h]
  have hi:idB v.tx=false:=by rw [h];rfl
  rw [hi]
  cases decide (v.nth=0) <;> cases idB v.key <;> simp
 ·rw [Yb h,YF h,Zlz,Zmt 4095]
  cases idB v.tx <;> cases idB v.key <;> cases decide (1≤v.nth) <;> cases decide (v.nth≤4095) <;> rfl
theorem Zn1 (v:Zbh):FnP prog 137 [.agg (ZN v)] (.tup [.int .u64 (Zq5 v).1,.int .i64 (Zq5 v).2]):=by
 refine FnP.mk func137 rfl ntmps137 rfl fun B a w F Z hfr G=>Ya ?_
 refine Zb G (qx 101 r1 (qI (qI qZ))) Z [3,2,1] [101,0] (fun _=>rfl) (fun _=>rfl) fun τ a w F G=>?_
 try dsimp only [RS.sub,SF.sub,CF.sub,csub,Anc.sub,List.map,zCF] at G
 generalize τ 1=v1 at G
 refine Za (Ya (rZ G (qg 0 101 r1 r1 (qa 101 r1 r1 (qf (o_eql .t qi) r1 qz (qR rr (qv 2 101 rfl r2 r1 (qw 101 rfl r2 r1 (qk rfl (fun h=>o_eql (.w h) qi) r2 qz (qf (ZH .t .t) r2 qz (qO rr qZ))))))))) Z [4,3,2,1] [101,0] fun G=>(Ya (Ya ?_))))
 refine Zg G (qR rr (qf (o_not .t) r1 qz (qR rr (qv 0 101 rfl r2 r1 (qw 101 rfl r2 r1 (qk rfl (fun h=>oP (Zt7 _) func178 (Args.one (.w h))) r2 qz (qk rfl (fun h=>o_not (.w h)) r2 qz (qk rfl (fun h=>oM (.w h)) r2 qz (Zy.cons (ZaD.cond2 rfl rfl (fun h=>Z3 (off:=2) 101 .is kr (by rfl))) r2 r1 (Zy.cons (ZaD.cond2 rfl rfl (fun h=>Zbx (ag:=false) (sz:=1) 101 (.w h .adr) kr kr kr (by rfl))) r2 r1 (Zy.cons (ZaD.cond2 rfl rfl (fun h=>Zar (.w h) qi)) r2 qz (qk rfl (fun h=>Zaa (.w h) (.wc h)) r3 qz (qk rfl (fun h=>oM (.w h)) r2 qz (Zy.cons (ZaD.cond2 rfl rfl (fun h=>Z3 (off:=2) 101 .is kr (by rfl))) r2 r1 (Zy.cons (ZaD.cond2 rfl rfl (fun h=>Zbx (ag:=false) (sz:=1) 101 (.w h .adr) kr kr kr (by rfl))) r2 r1 (Zy.cons (ZaD.cond2 rfl rfl (fun h=>Za3 (.w h) qi)) r2 qz (qk rfl (fun h=>Zaa (.w h) (.wc h)) r3 qz (qf (ZH .t .t) r2 qz (qR rr (qv 1 101 rfl r2 r1 (qw 101 rfl r2 r1 (qk rfl (fun h=>oP (Zt7 _) func178 (Args.one (.w h))) r2 qz (qk rfl (fun h=>o_not (.w h)) r2 qz (qf (Zaa .t .t) r2 qz qZ)))))))))))))))))))))))) Z [36,3,2,1] [101,0] rfl rfl fun a w F G=>?_
 try dsimp only [List.map,xD,xE,xT,xU,ldSF] at G
 refine Za (Zc G rfl (fun hc0=>?_) (fun hc0=>?_))
 ·rw [Zgm] at hc0
  have hr:Zb1 v=false:=by simpa using hc0
  have hg:Zq5 v=(0,1):=by unfold Zq5;rw [hr];rfl
  refine Ya (rZ G (qI (qI qZ)) Z [3,2,1] [101,0] fun G=>(Yh (Zl ?_)))
  refine Zae hfr G rfl (.tmp rfl (.tmp rfl .nil)) (.two (.int (by rw [hg];try exact Zks hr)) (.int (by rw [hg])))
 rw [Zgm] at hc0
 have hr:Zb1 v=true:=by simpa using hc0
 have hg:Zq5 v=(ZtC v,0):=Ye hr
 refine Yf (Za (Ya (rZ G (qg 0 101 r1 r1 (qa 101 r1 r1 (qf (Zat Yce kr .t) r1 qz (qf (ZgZ .t qi (by decide)) r1 qz (qg 1 101 r1 r1 (qa 101 r1 r1 (qf (Zat Yce kr .t) r1 qz (qf (ZqN .t .t) r2 qz (qf (ZgZ .t qi (by decide)) r1 qz (qg 2 101 r1 r1 (qa 101 r1 r1 (qf (Zat Yce kr .t) r1 qz (qf (ZqN .t .t) r2 qz (qO rr (qI qZ))))))))))))))) Z [3,2] [0] fun G=>Yh ?_)))
 refine Zae hfr G rfl (.tmp rfl (.tmp rfl .nil)) (.two (.int (by rw [hg];try exact Zks hr)) (.int (by rw [hg])))
def Zb8 (x y:Int):Int:=if x<y then -1 else if y<x then 1 else 0
def ZeG (e:Zf):List Int:=[e.src,e.kind,e.key,e.dst]
def cmpL:List Int→List Int→Int
 | x :: xs,y :: ys=>if x=y then cmpL xs ys else Zb8 x y
 | _,_=>0
def cmpE (e f:Zf):Int:=cmpL (ZeG e) (ZeG f)
theorem ZbL {x y:Int} : Zb8 x y=0 ↔ x=y:=by unfold Zb8;split <;> (try split) <;> omega
theorem Zjt:∀ (k:Nat) (xs ys:List Int),k<xs.length→k<ys.length→(∀ j,j<k→Nn xs j=Nn ys j)→Nn xs k≠Nn ys k→cmpL xs ys=Zb8 (Nn xs k) (Nn ys k)
 | _,[],_,h,_,_,_=>by simp at h
 | _,_ :: _,[],_,h,_,_=>by simp at h
 | 0,x :: xs,y :: ys,_,_,_,hn=>by
  have hn':x≠y:=hn
  unfold cmpL
  rw [Yb hn']
  rfl
 | k+1,x :: xs,y :: ys,h1,h2,hj,hn=>by
  have h0:x=y:=hj 0 ow
  unfold cmpL
  rw [Ye h0]
  exact Zjt k xs ys (by simpa using h1) (by simpa using h2) (fun j h=>hj (j+1) ow) hn
theorem Zhb:∀ (xs ys:List Int),xs.length=ys.length→(∀ j,j<xs.length→Nn xs j=Nn ys j)→cmpL xs ys=0
 | [],[],_,_=>rfl
 | [],_ :: _,h,_=>by simp at h
 | _ :: _,[],h,_=>by simp at h
 | x :: xs,y :: ys,h,hj=>by
  have h0:x=y:=hj 0 (by simp)
  unfold cmpL
  rw [Ye h0]
  exact Zhb xs ys (by simpa using h) (fun j h=>hj (j+1) (by simpa using h))
theorem Znw (n:Int):FnP prog 151 [.int .i64 n] (.bool false):=by
 refine FnP.mk func151 rfl ntmps151 rfl fun B a w F Z hfr G=>Ya ?_
 refine rZ G qB Z [2,0] [0] fun G=>Ya ?_
 refine rZ G (qR rr (qR rr (qf (o_neq .t .t) r2 qz (qO rr qZ)))) Z [2] [0] fun G=>Yh ?_
 refine Zv hfr G rfl rfl rfl (.bool (by simp))
theorem ZqS (m n:Int):FnP prog 110 [.int .i64 m,.int .i64 n] (.int .i64 (Zb8 m n)):=by
 refine FnP.mk func110 rfl ntmps110 rfl fun B a w F Z hfr G=>Ya ?_
 refine rZ G (qI qZ) Z [4,1,0] [0] fun G=>Ya ?_
 refine rZ G (qR rr (qf (oP (Znw _) func151 (Args.one .t)) r1 qz (qO rr qZ))) Z [5,4,1,0] [0] fun G=>Ya ?_
 refine rZ G (qR rr (qf (oP (Znw _) func151 (Args.one .t)) r1 qz (qO rr qZ))) Z [6,5,4,1,0] [0] fun G=>(Ya (Ya ?_))
 refine rZ G (qR rr qZ) Z [11,6,4,1,0] [0] fun G=>?_
 refine Zc G rfl (fun hc0=>?_) (fun hc0=>?_)
 ·cases hc0
 refine Yf (Za (Ya (Ya (rZ G (qR rr qZ) Z [13,4,1,0] [0] fun G=>?_))))
 refine Zc G rfl (fun hc1=>?_) (fun hc1=>?_)
 ·cases hc1
 refine Yf (Za (Ya (Ya (rZ G (qR rr (qR rr (qL r2))) Z [16,4,1,0] [0] fun G=>?_))))
 refine Zc G rfl (fun hc2=>?_) (fun hc2=>?_)
 ·have hg:Zb8 m n = -1:=Ye (Yw hc2)
  refine Ya (rZ G (qI qZ) Z [4,1,0] [0] fun G=>(Yh (Zl ?_)))
  refine Zv hfr G rfl rfl rfl (.int (by rw [hg]))
 have h1:¬ m<n:=YG hc2
 refine Yf (Za (Ya (Ya (rZ G (qR rr (qR rr (qf (Za3 .t .t) r2 qz qZ))) Z [19,4] [0] fun G=>?_))))
 refine Zc G rfl (fun hc3=>?_) (fun hc3=>?_)
 ·have hg:Zb8 m n=1:=by unfold Zb8;rw [Yb h1,Ye (Yw hc3)]
  refine Ya (rZ G (qI qZ) Z [4] [0] fun G=>(Yh (Zl ?_)))
  refine Zv hfr G rfl rfl rfl (.int (by rw [hg]))
 have hg:Zb8 m n=0:=by unfold Zb8;rw [Yb h1,Yb (YG hc3)]
 refine Yf (Za (Ya (rZ G (qI qZ) Z [4] [0] fun G=>Yh ?_)))
 refine Zv hfr G rfl rfl rfl (.int (by rw [hg]))
theorem Zh2 (d e:Zf):FnP prog 174 [.agg (Zp d),.agg (Zp e)] (.int .i64 (cmpE d e)):=by
 refine FnP.mk func174 rfl ntmps174 rfl fun B a w F Z hfr G=>Ya ?_
 refine Zb G (qx 101 r1 (qx 102 r1 (qI qZ))) Z [4,3,2] [102,101,0] (fun _=>rfl) (fun _=>rfl) fun τ a w F G=>?_
 try dsimp only [RS.sub,SF.sub,CF.sub,csub,Anc.sub,List.map,zCF] at G
 generalize τ 2=v2,τ 3=v3 at G
 refine Za (Ya (Zb G (qg 0 101 r1 r1 (qa 101 r1 r1 (qg 2 101 r1 r1 (qa 101 r1 r1 (qg 3 101 r1 r1 (qa 101 r1 r1 (qg 1 101 r1 r1 (qa 101 r1 r1 (qf (ZaV (sz:=1) (r:=[(0,.tmp 10),(1,.tmp 12),(2,.tmp 14),(3,.tmp 16)]) (zs:=[.int .i64 0,.int .i64 0,.int .i64 0,.int .i64 0]) (pl:=[(0,1),(1,1),(2,1),(3,1)]) underlying289 kr kr rfl (.one rfl .t one_int kr (.one rfl .t one_int kr (.one rfl .t one_int kr (.one rfl .t one_int kr .nil)))) (by rfl)) r4 qz (qf (oH [.int .i64 0,.int .i64 0,.int .i64 0,.int .i64 0] 103) trivial qz (qS 4 103 r2 r1 qZ))))))))))) Z [5,4,3] [103,102,0] (fun _=>rfl) (fun _=>rfl) fun τ a w F G=>?_))
 try dsimp only [RS.sub,SF.sub,CF.sub,csub,Anc.sub,List.map,Ze,xL,xM,Nat.reduceAdd,xD,xE,xT,xU,xC,xN,zCF,ldSF] at G
 generalize τ 5=v5 at G
 refine Za (Ya (Zb G (qg 0 102 r1 r1 (qa 102 r1 r1 (qg 2 102 r1 r1 (qa 102 r1 r1 (qg 3 102 r1 r1 (qa 102 r1 r1 (qg 1 102 r1 r1 (qa 102 r1 r1 (qf (ZaV (sz:=1) (r:=[(0,.tmp 19),(1,.tmp 21),(2,.tmp 23),(3,.tmp 25)]) (zs:=[.int .i64 0,.int .i64 0,.int .i64 0,.int .i64 0]) (pl:=[(0,1),(1,1),(2,1),(3,1)]) underlying289 kr kr rfl (.one rfl .t one_int kr (.one rfl .t one_int kr (.one rfl .t one_int kr (.one rfl .t one_int kr .nil)))) (by rfl)) r4 qz (qf (oH [.int .i64 0,.int .i64 0,.int .i64 0,.int .i64 0] 104) trivial qz (qS 4 104 r2 r1 qZ))))))))))) Z [6,5,4] [104,103,0] (fun _=>rfl) (fun _=>rfl) fun τ a w F G=>?_))
 try dsimp only [RS.sub,SF.sub,CF.sub,csub,Anc.sub,List.map,Ze,xL,xM,Nat.reduceAdd,xD,xE,xT,xU,xC,xN,zCF,ldSF] at G
 generalize τ 6=v6 at G
 refine Za (Ya (Ya (rZ G (qJ qZ) Z [27,6,5,4] [104,103,0] fun G=>Yg ?_)))
 replace G:=G.turn 103 rfl (r':=.ob (.val v5) (Zmd 289 (fun x=>PV.int .i64 x) (ZeG d))) (fun τ w f y h=>Zhd (f:=(fun x=>PV.int .i64 x)) (l:=ZeG d) τ w f y h)
 replace G:=G.turn 104 rfl (r':=.ob (.val v6) (Zmd 289 (fun x=>PV.int .i64 x) (ZeG e))) (fun τ w f y h=>Zhd (f:=(fun x=>PV.int .i64 x)) (l:=ZeG e) τ w f y h)
 obtain ⟨F,G⟩:=G.nM [27,6,5] [104,103,0]
 refine Za9 (σ:=Nat) (fun s=>(⟨[(5,.pv (.is v5)),(6,.pv (.is v6)),(27,.pv (.int .i64 s))],[(0,frame B),(103,.ob (.val v5) (Zmd 289 (fun x=>PV.int .i64 x) (ZeG d))),(104,.ob (.val v6) (Zmd 289 (fun x=>PV.int .i64 x) (ZeG e)))]⟩:En)) (fun s=>s≤4 ∧ ∀ j,j<s→Nn (ZeG d) j=Nn (ZeG e) j) (fun s=>4 - s) 0 G ⟨by decide,fun j hj=>absurd hj (Y3 j)⟩ ?_
 clear G;intro k a w F hC G
 try dsimp only at hC
 try dsimp only at G
 obtain ⟨hk,hq⟩:=hC
 refine Ya (rZ G (qf (Zar .t qi) r1 qz qZ) Z [28,27,6,5] [104,103,0] fun G=>Ya ?_)
 refine Zc G rfl (fun hc0=>?_) (fun hc0=>?_)
 ·have hkl:k<4:=by simp at hc0;omega
  refine Yf (Za (Ya (Yg (Ya (rZ G (qR rr (qO rr qZ)) Z [27,7,6,5] [104,103,0] fun G=>Ya ?_)))))
  refine ZB G (qR rr (qf (ZbQ (sz:=1) 103 underlying289 kr .is .t ow ow) r2 r1 (qf (ZhS 103 .adr kr kr (by simp only [ZeG,Yk,Yv];omega)) r1 r1 (qR rr (qf (ZbQ (sz:=1) 104 underlying289 kr .is .t ow ow) r2 r1 (qf (ZhS 104 .adr kr kr (by simp only [ZeG,Yk,Yv];omega)) r1 r1 (qf (oP (ZqS _ _) func110 (Args.two .t .t)) r2 qz (qO rr qZ)))))))) Z [27,8,6,5] [104,103,0] rfl rfl fun a w F G=>?_
  try dsimp only [List.map,xD,xE,xT,xU,ldSF] at G
  simp only [Y7,Nat.mul_one,Yd] at G
  refine Za (Ya (rZ G (qR rr (qf (o_neq .t qi) r1 qz qZ)) Z [38,27,8,6,5] [104,103,0] fun G=>?_))
  refine Zc G rfl (fun hc1=>?_) (fun hc1=>?_)
  ·have hne:Zb8 (Nn (ZeG d) k) (Nn (ZeG e) k)≠0:=by simpa using hc1
   have hg:cmpE d e=Zb8 (Nn (ZeG d) k) (Nn (ZeG e) k):=Zjt k _ _ hkl hkl hq (fun e=>hne (ZbL.2 e))
   refine Ya (rZ G (qR rr (qO rr qZ)) Z [27,6,5,4] [104,103,0] fun G=>(Yh (Zx (Zl (Zl (Zx (Zl ?_)))))))
   refine Zv hfr G rfl rfl rfl (.int (by rw [hg]))
  have hqk:Nn (ZeG d) k=Nn (ZeG e) k:=ZbL.1 (by simpa using hc1)
  refine Yf (Zj (Za (rZ G (qp r1 (qR rr qZ)) Z [27,6,5] [104,103,0] fun G=>?_)))
  replace G:=G.ent (i:=27) (s':=.pv (.int .i64 ((k+1:Nat):Int))) rfl (.int (Zd ow))
  obtain ⟨F,G⟩:=G.nM [27,6,5] [104,103,0]
  exact ⟨k+1,F,⟨by omega,fun j hj=>by rcases YZ (Y5 hj) with h | h;exact hq j h;rw [h];exact hqk⟩,G,by omega⟩
 have hg:cmpE d e=0:=Zhb _ _ rfl fun j hj=>hq j (by simp only [ZeG,Yk,Yv] at hj;simp at hc0;omega)
 refine Yz (Zh (Zh (Zr (Za (Ya (rZ G (qI qZ) Z [4] [104,103,0] fun G=>Yh ?_))))))
 refine Zv hfr G rfl rfl rfl (.int (by rw [hg]))
theorem Ztm (d e:Zf):FnP prog 143 [.agg (Zp d),.agg (Zp e)] (.bool (decide (cmpE d e<0))):=by
 refine FnP.mk func143 rfl ntmps143 rfl fun B a w F Z hfr G=>Ya ?_
 refine Zb G (qx 101 r1 (qx 102 r1 qB)) Z [4,3,2] [102,101,0] (fun _=>rfl) (fun _=>rfl) fun τ a w F G=>?_
 try dsimp only [RS.sub,SF.sub,CF.sub,csub,Anc.sub,List.map,zCF] at G
 generalize τ 2=v2,τ 3=v3 at G
 refine Za (Ya (rZ G (qe 4 101 r1 r1 (qe 4 102 r1 r1 (qf (oP (Zh2 _ _) func174 (Args.two (.pagg .t) (.pagg .t))) r2 qz (qf (Zar .t qi) r1 qz (qO rr qZ))))) Z [4] [0] fun G=>Yh ?_))
 refine Zv hfr G rfl rfl rfl .refl
theorem Zrx (x:Int) (hx:0≤x∧x<256):FnP prog 190 [.int .u64 x] (.any):=by
 refine FnP.mk func190 rfl ntmps190 rfl fun B a w F Z hfr G=>?_
 have u8w:IntKind.wrap .u8 x=x:=ZgV ⟨by simp [IntKind.min,IntKind.signed,IntKind.bits];omega,by simp [IntKind.max,IntKind.signed,IntKind.bits];omega⟩
 have hx256:x<(256:Nat):=by omega
 refine Ya (rZ G (qI qZ) Z [2,0] [0] fun G=>(Ya (Ya ?_)))
 refine rZ G (qR rr (qf (ZbE .t qi) r1 qz qZ)) Z [4,2,0] [0] fun G=>?_
 refine Zc G rfl (fun hc0=>?_) (fun hc0=>?_)
 ·simp at hc0;omega
 refine Yf (Za (Ya (Ya (rZ G (qR rr (qf (ZbE .t qi) r1 qz qZ)) Z [8,2,0] [0] fun G=>?_))))
 refine Zc G rfl (fun hc1=>?_) (fun hc1=>?_)
 ·simp at hc1;omega
 refine Yf (Za (Ya (Ya (rZ G (qR rr (qf (ZbE .t qi) r1 qz qZ)) Z [14,2,0] [0] fun G=>?_))))
 refine Zc G rfl (fun hc2=>?_) (fun hc2=>?_)
 ·simp at hc2;omega
 refine Yf (Za (Ya (rZ G (qR rr (qR rr (qf (Zat underlying5 kr .t) r1 qz (qf (Zlj Ycd (.cs kr) .t (by rw [u8w];omega) (by rw [u8w];exact hx256)) r1 qz (qf (Zat Yb9 kr .t) r1 qz (qf (o_add .t .t) r2 qz (qO rr qZ))))))) Z [2] [0] fun G=>Yh ?_)))
 refine Zv hfr G rfl rfl rfl .any
theorem Zqh (x:Int) (hx:0≤x∧x<256):FnP prog 142 [.int .u64 x] (.any):=by
 refine FnP.mk func142 rfl ntmps142 rfl fun B a w F Z hfr G=>Ya ?_
 refine rZ G (qI qZ) Z [2,0] [0] fun G=>Ya ?_
 refine wp_cond (by rfl) ?_
 refine Yf (Za (Ya (rZ G (qR rr (qf (oP (Zrx x hx) func190 (Args.one .t)) r1 qz (qO rr qZ))) Z [2] [0] fun G=>Yh ?_)))
 refine Zv hfr G rfl rfl rfl .any
theorem ZpI (v:Value) (l:List Zf) (hl:l.length≤12) (hs:∀ j,0<j→j<l.length→¬ cmpE (Nn l j) (Nn l (j - 1))<0):FnG prog 232 1 [.is v,.int .i64 0,.int .i64 l.length,.is (.func (.func 174) #[] #[])] [ZC 42 4 Zp l v] (.tup []) (fun _=>[ZC 42 4 Zp l v]):=by
 refine FnG.mk func232 rfl ntmps232 rfl kr fun B F0 a w F Z hG G=>?_
 have G:=G.turn 1 rfl (r':=RS.ob (.val v) (ZC 42 4 Zp l)) (fun _ _ _ _ h=>h)
 obtain ⟨F,G⟩:=G.nM [3,2,1,0] [1,0]
 refine Ya (rZ G (qR rr (qp r1 (qO rr qZ))) Z [8,3,2,1,0] [1,0] fun G=>Yg ?_)
 replace G:=G.ent (i:=8) (s':=.pv (.int .i64 ((1:Nat):Int))) rfl (.int (by decide))
 obtain ⟨F,G⟩:=G.nM [8,3,2,1,0] [1,0]
 refine Za9 (σ:=Nat) (fun s=>(⟨[(0,.pv (.is v)),(1,.pv (.int .i64 0)),(2,.pv (.int .i64 l.length)),(3,.pv (.is (.func (.func 174) #[] #[]))),(8,.pv (.int .i64 s))],[(0,frame B),(1,.ob (.val v) (ZC 42 4 Zp l))]⟩:En)) (fun s=>1≤s∧s≤13) (fun s=>13 - s) 1 G ⟨by decide,by decide⟩ ?_
 clear G;intro i a w F hC G
 try dsimp only at hC
 try dsimp only at G
 obtain ⟨hi1,hi2⟩:=hC
 have hw:IntKind.wrap .i64 ((i:Int) - 1)=((i - 1:Nat):Int):=by rw [Zz ow];omega
 refine Ya (Ya (rZ G (qR rr (qR rr (qL r2))) Z [14,8,3,2,1,0] [1,0] fun G=>?_))
 refine Zc G rfl (fun hc0=>?_) (fun hc0=>?_)
 ·have hil:i<l.length:=by simp at hc0;omega
  refine Yf (Za (Ya (Yg (Ya (rZ G (qR rr (qO rr qZ)) Z [9,8,3,2,1,0] [1,0] fun G=>Yg ?_)))))
  obtain ⟨F,G⟩:=G.nM [9,8,3,2,1,0] [1,0]
  refine Za9 (σ:=Unit) (fun s=>(⟨[(0,.pv (.is v)),(1,.pv (.int .i64 0)),(2,.pv (.int .i64 l.length)),(3,.pv (.is (.func (.func 174) #[] #[]))),(8,.pv (.int .i64 i)),(9,.pv (.int .i64 i))],[(0,frame B),(1,.ob (.val v) (ZC 42 4 Zp l))]⟩:En)) (fun s=>True) (fun s=>0) () G trivial ?_
  clear G;intro u a w F hC G
  try dsimp only at hC
  try dsimp only at G
  refine Ya (Ya (ZB G (qR rr (qR rr (qf (Za3 .t .t) r2 qz (qR rr (qm rfl rfl rfl rfl (qm rfl rfl rfl rfl (qm rfl rfl rfl rfl (qk rfl (fun h=>o_indexAddr_row (sz:=4) 1 (.mk Yb1 kr) (.w h .is) (.w h) ow ow (by rfl)) r3 r1 (qk rfl (fun h=>ZD (ag:=true) (sz':=4) (sz:=4) 1 (.w h) (by intro x;rfl) ow kr kr kr) r2 r1 (qm rfl rfl rfl rfl (qm rfl rfl rfl rfl (qk rfl (fun h=>o_sub (.w h) qi) r2 qz (qk rfl (fun h=>o_indexAddr_row (sz:=4) 1 (.mk Yb1 kr) (.w h .is) (.w h) (by rw [hw];omega) (by rw [hw];omega) (by rfl)) r3 r1 (qk rfl (fun h=>ZD (ag:=true) (sz':=4) (sz:=4) 1 (.w h) (by intro x;rfl) (by rw [hw];omega) kr kr kr) r2 r1 (qk rfl (fun h=>ZoX (.w h) (Zh2 _ _) func174 rfl kr (Args.two (.pagg (.w h)) (.pagg (.w h)))) r4 qz (qk rfl (fun h=>Zar (.w h) qi) r2 qz (qf (ZH .t .t) r2 qz qZ))))))))))))))))) Z [34,9,8,3,2,1,0] [1,0] rfl rfl fun a w F G=>?_))
  try dsimp only [List.map,xD,xE,xT,xU,ldSF] at G
  refine Za (Zc G rfl (fun hc1=>?_) (fun hc1=>?_))
  ·simp only [Yt,Yp,Yd,hw] at hc1
   exact (hs i ow ow hc1.2).elim
  refine Yz (Zh (Zh (Zr (Zj (Za (rZ G (qR rr (qp r1 (qO rr qZ))) Z [8,3,2,1,0] [1,0] fun G=>?_))))))
  replace G:=G.ent (i:=8) (s':=.pv (.int .i64 ((i+1:Nat):Int))) rfl (.int (Zd ow))
  obtain ⟨F,G⟩:=G.nM [8,3,2,1,0] [1,0]
  exact ⟨i+1,F,⟨by omega,by omega⟩,G,by omega⟩
 refine Yz (Zh (Zh (Zr ?_)))
 have G:=G.turn 1 rfl (r':=RS.hp (ZC 42 4 Zp l v)) (fun _ _ _ _ h=>h)
 refine Zbb hG G rfl .nil Zbm.none rfl
theorem ZtL (v:Value) (l:List Zf) (hl:l.length≤12) (hs:∀ j,0<j→j<l.length→¬ cmpE (Nn l j) (Nn l (j - 1))<0):FnG prog 211 1 [.is v,.int .i64 0,.int .i64 l.length,.any,.is (.func (.func 174) #[] #[])] [ZC 42 4 Zp l v] (.tup []) (fun _=>[ZC 42 4 Zp l v]):=by
 refine FnG.mk func211 rfl ntmps211 rfl kr fun B F0 a w F Z hG G=>?_
 have G:=G.turn 1 rfl (r':=RS.ob (.val v) (ZC 42 4 Zp l)) (fun _ _ _ _ h=>h)
 obtain ⟨F,G⟩:=G.nM [4,3,2,1,0] [1,0]
 refine Ya (rZ G qB Z [10,4,3,2,1,0] [1,0] fun G=>Ya ?_)
 refine rZ G qB Z [11,10,4,3,2,1,0] [1,0] fun G=>Yg ?_
 obtain ⟨F,G⟩:=G.nM [4,2,1,0] [1,0]
 refine Za9 (σ:=Unit) (fun s=>(⟨[(0,.pv (.is v)),(1,.pv (.int .i64 0)),(2,.pv (.int .i64 l.length)),(4,.pv (.is (.func (.func 174) #[] #[])))],[(0,frame B),(1,.ob (.val v) (ZC 42 4 Zp l))]⟩:En)) (fun s=>True) (fun s=>0) () G trivial ?_
 clear G;intro u a w F hC G
 try dsimp only at hC
 try dsimp only at G
 refine Yg (Ya (Zg G (qR rr (qR rr (qf (o_sub .t .t) r2 qz (qO rr qZ)))) Z [12,4,2,1,0] [1,0] rfl rfl fun a w F G=>?_))
 skip
 refine Za (Ya (Ya (rZ G (qR rr (qf (Zlf .t qi) r1 qz qZ)) Z [25,12,4,2,1,0] [1,0] fun G=>?_)))
 refine Zc G rfl (fun hc0=>?_) (fun hc0=>?_)
 ·refine Ya (rZ G (qR rr (qR rr (qR rr (qR rr (qf (Zbe 1 (ZpI v l hl hs) func232 rfl kr (Args.four .t .t .t .t)) r4 r1 qZ))))) Z [12,4,2,1,0] [1,0] fun G=>(Yh (Zl (Zx (Zl (Zx ?_))))))
  have G:=G.turn 1 rfl (r':=RS.hp (ZC 42 4 Zp l v)) (fun _ _ _ _ h=>h)
  refine Zbb hG G rfl .nil Zbm.none rfl
 rw [Zz ow] at hc0
 simp at hc0
 omega
theorem Zlg (v:Value) (l:List Zf) (hl:l.length≤12) (hs:∀ j,0<j→j<l.length→¬ cmpE (Nn l j) (Nn l (j - 1))<0):FnG prog 173 1 [.is v,.is (.func (.func 174) #[] #[])] [ZC 42 4 Zp l v] (.tup []) (fun _=>[ZC 42 4 Zp l v]):=by
 refine FnG.mk func173 rfl ntmps173 rfl kr fun B F0 a w F Z hG G=>?_
 have G:=G.turn 1 rfl (r':=RS.ob (.val v) (ZC 42 4 Zp l)) (fun _ _ _ _ h=>h)
 obtain ⟨F,G⟩:=G.nM [1,0] [1,0]
 refine Ya (Zg G (qR rr (qf (Zav 1 Yb1 .is) r1 r1 (qO rr qZ))) Z [4,1,0] [1,0] rfl rfl fun a w F G=>?_)
 have hxl:0≤IntKind.wrap .u64 (l.length:Int)∧IntKind.wrap .u64 (l.length:Int)<256:=by rw [Zap];omega
 refine Za (Zg G (qR rr (qR rr (qR rr (qf (Zat Yb8 kr .t) r1 qz (qf (oP (Zqh _ hxl) func142 (Args.one .t)) r1 qz (qR rr (qf (Zbe 1 (ZtL v l hl hs) func211 rfl kr (Args.five .t qi .t .t .t)) r4 r1 qZ))))))) Z [] [1,0] rfl rfl fun a w F G=>?_)
 have G:=G.turn 1 rfl (r':=RS.hp (ZC 42 4 Zp l v)) (fun _ _ _ _ h=>h)
 refine Zbb hG G rfl .nil Zbm.none rfl
theorem Zp0 (w:World) (yy:Ys):PVs (Zp noE) [.int .i64 0,.int .i64 0,.int .i64 0,.int .i64 0] w yy:=by
 have h:inR .i64 0:=by simp [inR,IntKind.min,IntKind.max,IntKind.signed,IntKind.bits]
 exact ⟨⟨rfl,rfl,h⟩,⟨rfl,rfl,h⟩,⟨rfl,rfl,h⟩,⟨rfl,rfl,h⟩,tv⟩
theorem Zdj:inR .i64 0:=by show IntKind.min .i64≤0∧0≤IntKind.max .i64;decide
def Zq {α:Type} [DecidableEq α]:List α→List α
 | []=>[]
 | [x]=>[x]
 | x :: y :: l=>if x=y then Zq (y :: l) else x :: Zq (y :: l)
theorem Zcm {α:Type} [DecidableEq α] (a b:α):∀ l:List α,Zq (l ++ [a,b])=if a=b then Zq (l ++ [a]) else Zq (l ++ [a]) ++ [b]
 | []=>by
  show (if a=b then [b] else a :: [b])=if a=b then [a] else [a] ++ [b]
  split
  ·rename_i h;rw [h]
  ·rfl
 | [x]=>by
  have ih:=Zcm a b []
  show (if x=a then Zq ([] ++ [a,b]) else x :: Zq ([] ++ [a,b]))=if a=b then (if x=a then Zq ([] ++ [a]) else x :: Zq ([] ++ [a])) else (if x=a then Zq ([] ++ [a]) else x :: Zq ([] ++ [a])) ++ [b]
  rw [ih]
  by_cases h1:x=a <;> by_cases h2:a=b <;> simp [h1,h2]
 | x :: y :: l=>by
  have ih:=Zcm a b (y :: l)
  show (if x=y then Zq (y :: l ++ [a,b]) else x :: Zq (y :: l ++ [a,b]))=if a=b then (if x=y then Zq (y :: l ++ [a]) else x :: Zq (y :: l ++ [a])) else (if x=y then Zq (y :: l ++ [a]) else x :: Zq (y :: l ++ [a])) ++ [b]
  rw [ih]
  by_cases h1:x=y <;> by_cases h2:a=b <;> simp [h1,h2]
theorem Zbk {α:Type} [DecidableEq α] [Inhabited α] {l:List α} {p:Nat} (h1:1≤p) (h2:p<l.length):Zq (l.take (p+1))=if Nn l (p - 1)=Nn l p then Zq (l.take p) else Zq (l.take p) ++ [Nn l p]:=by
 obtain ⟨q,rfl⟩:∃ q,p=q+1:=⟨p - 1,by omega⟩
 rw [Zs h2,Zs (show q<l.length by omega),YS]
 exact Zcm _ _ _
theorem ZbI {α:Type} [DecidableEq α]:∀ {l:List α},l.length≤1→Zq l=l
 | [],_=>rfl
 | [x],_=>rfl
 | x :: y :: l,h=>by simp at h
structure STO {α:Type} (lt:α→α→Bool):Prop where
 irr:∀ a,lt a a=false
 tr:∀ a b c,lt a b=true→lt b c=true→lt a c=true
 tot:∀ a b,lt a b=false→lt b a=false→a=b
section
variable {α:Type} {lt:α→α→Bool}
theorem STO.asym (h:STO lt) {a b:α} (k:lt a b=true):lt b a=false:=by
 cases e:lt b a with
 | false=>rfl
 | true=>have:=h.tr a b a k e;rw [h.irr] at this;cases this
theorem STO.ne (h:STO lt) {a b:α} (k:lt a b=true):a≠b:=fun e=>by subst e;rw [h.irr] at k;cases k
theorem STO.le (h:STO lt) {a b c:α} (h1:lt a b=true) (h2:lt c b=false):lt a c=true:=by
 cases e:lt a c with
 | true=>rfl
 | false=>
  cases e2:lt c a with
  | true=>have:=h.tr c a b e2 h1;rw [h2] at this;cases this
  | false=>have:=h.tot a c e e2;subst this;rw [h1] at h2;cases h2
abbrev ZoC (lt:α→α→Bool) (l:List α):Prop:=l.Pairwise fun a b=>lt a b=true
theorem ZfL (h:STO lt):∀ {a b:List α},ZoC lt a→ZoC lt b→(∀ x,x ∈ a ↔ x ∈ b)→a=b
 | [],[],_,_,_=>rfl
 | [],y :: b,_,_,k=>by have:=(k y).2 (by simp);cases this
 | x :: a,[],_,_,k=>by have:=(k x).1 (by simp);cases this
 | x :: a,y :: b,ha,hb,k=>by
  have ha':=Yr.1 ha
  have hb':=Yr.1 hb
  have e:x=y:=by
   rcases Yl.1 ((k x).1 (by simp)) with e | e
   ·exact e
   ·rcases Yl.1 ((k y).2 (by simp)) with e2 | e2
    ·exact e2.symm
    ·have h1:=h.asym (hb'.1 x e);rw [ha'.1 y e2] at h1;cases h1
  subst e
  congr 1
  refine ZfL h ha'.2 hb'.2 fun z=>⟨fun hz=>?_,fun hz=>?_⟩
  ·rcases Yl.1 ((k z).1 (by simp [hz])) with e | e
   ·exact absurd e.symm (h.ne (ha'.1 z hz))
   ·exact e
  ·rcases Yl.1 ((k z).2 (by simp [hz])) with e | e
   ·exact absurd e.symm (h.ne (hb'.1 z hz))
   ·exact e
theorem Zkl (h:STO lt) (l:List α):(l.mergeSort fun x y=>!lt y x).Pairwise (fun a b=>lt b a=false):=by
 have:=List.pairwise_mergeSort (le:=fun x y=>!lt y x) (fun a b c h1 h2=>by
  simp at h1 h2 ⊢
  cases e:lt c a with
  | false=>rfl
  | true=>have:=h.le e h1;rw [h2] at this;cases this) (fun a b=>by
  cases e:lt b a with
  | false=>simp
  | true=>simp [h.asym e]) l
 exact this.imp fun h=>by simpa using h
variable [DecidableEq α]
def Zd0 (lt:α→α→Bool) (e:α):List α→Bool→List α
 | [],d=>if d then [] else [e]
 | x :: l,d=>(if d=false∧lt x e=false then [e] else [])++(if x=e then [] else [x])++Zd0 lt e l (d || !lt x e)
def Zl1 (lt:α→α→Bool) (l:List α) (e:α):List α:=Zd0 lt e l false
theorem Zis (lt:α→α→Bool) (e:α):∀ (l:List α) (d:Bool),(Zd0 lt e l d).length≤l.length+(if d then 0 else 1)
 | [],d=>by cases d <;> simp [Zd0]
 | x :: l,d=>by
  have ih:=Zis lt e l (d || !lt x e)
  have h1:(if x=e then ([]:List α) else [x]).length≤1:=by split <;> simp
  have h2:(if d=false∧lt x e=false then [e] else ([]:List α)).length+(if (d || !lt x e)=true then 0 else 1)≤if d=true then 0 else 1:=by
   cases d <;> cases lt x e <;> simp
  rw [Zd0,Yc,Yc,Yk]
  omega
theorem Zd4 (h:STO lt) {e:α} : ∀ {l:List α},(∀ x ∈ l,lt e x=true)→Zd0 lt e l true=l
 | [],_=>rfl
 | x :: l,k=>by
  have h1:=k x (by simp)
  rw [Zd0,YbU,Zd4 h fun y hy=>k y (by simp [hy]),Yb (by simp),Yb (h.ne h1).symm]
  rfl
theorem ZkM (h:STO lt) {e:α} : ∀ {l:List α},ZoC lt l→ZoC lt (Zl1 lt l e) ∧ ∀ x,x ∈ Zl1 lt l e ↔ x ∈ l∨x=e
 | [],_=>by simp [Zl1,Zd0]
 | y :: l,k=>by
  have h':=Yr.1 k
  unfold Zl1
  cases h1:lt y e with
  | true=>
   have e1:Zd0 lt e (y :: l) false=y :: Zd0 lt e l false:=by
    rw [Zd0,Yb (by rw [h1];simp),Yb (h.ne h1),h1];rfl
   have ih:=ZkM h (e:=e) h'.2
   rw [e1]
   refine ⟨Yr.2 ⟨fun p hp=>?_,ih.1⟩,fun x=>?_⟩
   ·rcases (ih.2 p).1 hp with hp | rfl
    ·exact h'.1 p hp
    ·exact h1
   ·have:=ih.2 x
    unfold Zl1 at this
    simp only [Yl,this,or_assoc]
  | false=>
   by_cases h2:y=e
   ·subst h2
    rw [Zd0,Ye ⟨rfl,h1⟩,Ye rfl,h1,show (false || !false)=true from rfl,Zd4 h h'.1]
    exact ⟨k,fun x=>by simp;intro e;exact .inl e⟩
   ·have h3:lt e y=true:=by
     cases e3:lt e y with
     | true=>rfl
     | false=>exact absurd (h.tot y e h1 e3) h2
    rw [Zd0,Ye ⟨rfl,h1⟩,Yb h2,h1,show (false || !false)=true from rfl,Zd4 h fun x hx=>h.tr e y x h3 (h'.1 x hx)]
    refine ⟨Yr.2 ⟨fun p hp=>?_,k⟩,fun x=>by simp;constructor <;> (rintro (h | h | h) <;> simp [h])⟩
    rcases Yl.1 hp with rfl | hp
    ·exact h3
    ·exact h.tr e y p h3 (h'.1 p hp)
def Zbt (lt:α→α→Bool) (l:List α):List α:=l.foldl (Zl1 lt) []
theorem ZbB (h:STO lt) (l:List α):ZoC lt (Zbt lt l) ∧ ∀ x,x ∈ Zbt lt l ↔ x ∈ l:=by
 have key:∀ (l acc:List α),ZoC lt acc→ZoC lt (l.foldl (Zl1 lt) acc) ∧ ∀ x,x ∈ l.foldl (Zl1 lt) acc ↔ x ∈ acc∨x ∈ l:=by
  intro l
  induction l with
  | nil=>intro acc k;exact ⟨k,fun x=>by simp⟩
  | cons y l ih=>
   intro acc k
   have h1:=ZkM h (e:=y) k
   have h2:=ih (Zl1 lt acc y) h1.1
   refine ⟨h2.1,fun x=>?_⟩
   rw [Yal,h2.2 x,h1.2 x,Yl,or_assoc]
 have:=key l [] List.Pairwise.nil
 exact ⟨this.1,fun x=>by rw [show Zbt lt l=l.foldl (Zl1 lt) [] from rfl,this.2 x];simp⟩
theorem ZcD (h:STO lt):∀ {l:List α},l.Pairwise (fun a b=>lt b a=false)→ZoC lt (Zq l) ∧ ∀ x,x ∈ Zq l ↔ x ∈ l
 | [],_=>by simp [Zq]
 | [x],_=>by simp [Zq]
 | x :: y :: l,k=>by
  have h':=Yr.1 k
  have ih:=ZcD h h'.2
  show ZoC lt (if x=y then Zq (y :: l) else x :: Zq (y :: l)) ∧ ∀ z,z ∈ (if x=y then Zq (y :: l) else x :: Zq (y :: l)) ↔ _
  split
  ·rename_i e
   subst e
   exact ⟨ih.1,fun z=>by rw [ih.2 z];simp⟩
  ·rename_i e
   have hxy:lt x y=true:=by
    cases e2:lt x y with
    | true=>rfl
    | false=>exact absurd (h.tot x y e2 (h'.1 y (by simp))) e
   refine ⟨Yr.2 ⟨fun z hz=>?_,ih.1⟩,fun z=>by rw [Yl,ih.2 z,← Yl]⟩
   rcases Yl.1 ((ih.2 z).1 hz) with rfl | hz2
   ·exact hxy
   ·exact h.le hxy ((Yr.1 h'.2).1 z hz2)
theorem Zia (h:STO lt) (l:List α):Zq (l.mergeSort fun x y=>!lt y x)=Zbt lt l:=
 ZfL h (ZcD h (Zkl h l)).1 (ZbB h l).1 fun x=>by rw [(ZcD h (Zkl h l)).2,(ZbB h l).2];exact (YaI l _).mem_iff
end
theorem ZsN (d e:Zf):(decide (d.src=e.src) && (decide (d.dst=e.dst) && (decide (d.kind=e.kind) && (decide (d.key=e.key) && true))))=decide (d=e):=by
 cases d;cases e
 rw [Ya4]
 simp
def ltE (a b:Zf):Bool:=decide (cmpE a b<0)
theorem ZhA (a b:Zf):(cmpE a b<0 ↔ a.src<b.src∨a.src=b.src∧(a.kind<b.kind∨a.kind=b.kind∧(a.key<b.key∨a.key=b.key∧a.dst<b.dst))):=by
 unfold cmpE ZeG cmpL
 by_cases h1:a.src=b.src
 ·rw [Ye h1]
  unfold cmpL
  by_cases h2:a.kind=b.kind
  ·rw [Ye h2]
   unfold cmpL
   by_cases h3:a.key=b.key
   ·rw [Ye h3]
    unfold cmpL
    by_cases h4:a.dst=b.dst
    ·rw [Ye h4];unfold cmpL;simp;omega
    ·rw [Yb h4];unfold Zb8;split <;> (try split) <;> omega
   ·rw [Yb h3];unfold Zb8;split <;> (try split) <;> omega
  ·rw [Yb h2];unfold Zb8;split <;> (try split) <;> omega
 ·rw [Yb h1];unfold Zb8;split <;> (try split) <;> omega
theorem Zrj (a b:Zf):ltE a b=true ↔ a.src<b.src∨a.src=b.src∧(a.kind<b.kind∨a.kind=b.kind∧(a.key<b.key∨a.key=b.key∧a.dst<b.dst)):=by unfold ltE;rw [Yp,ZhA]
theorem Zjs (a b:Zf):ltE a b=false ↔ ¬ (a.src<b.src∨a.src=b.src∧(a.kind<b.kind∨a.kind=b.kind∧(a.key<b.key∨a.key=b.key∧a.dst<b.dst))):=by unfold ltE;rw [YA,ZhA]
theorem ZbT:STO ltE where
 irr a:=by rw [Zjs];omega
 tr a b c h1 h2:=by rw [Zrj] at *;omega
 tot a b h1 h2:=by
  rw [Zjs] at h1 h2
  cases a;cases b
  simp only [Zf.mk.injEq] at *
  omega
def Zcq (l:List Zf):List Zf:=l.mergeSort fun x y=>!ltE y x
theorem ZlF (l:List Zf):Zq (Zcq l)=Zbt ltE l:=Zia ZbT l
theorem Zit (l:List Zf):(Zcq l).length=l.length:=Ybl l
theorem ZeK {α:Type} [Inhabited α] {p:α→Bool} {l:List α} {j:Nat} (h:j<l.length):(l.take (j+1)).filter p=(l.take j).filter p++if p (Nn l j)=true then [Nn l j] else []:=by
 rw [Zs h,Yae]
 congr 1
 by_cases e:p (Nn l j)=true
 ·rw [Ye e];simp [e]
 ·rw [Yb e];simp at e;simp [e]
def Z4 {α:Type} [Inhabited α] (p:α→Bool) (l:List α):Int:=match l.findIdx? p with
 | some i=>i
 | none=>-1
theorem Zcv {α:Type} [Inhabited α] {p:α→Bool} {l:List α} (h:∀ k,k<l.length→p (Nn l k)=false):Z4 p l = -1:=by
 unfold Z4
 have:l.findIdx? p=none:=List.findIdx?_eq_none_iff.2 fun x hx=>by
  obtain ⟨k,hk,rfl⟩:=YaS.1 hx
  rw [← nth_eq hk];exact h k hk
 rw [this]
theorem ZdV {α:Type} [Inhabited α] {p:α→Bool} {l:List α} {i:Nat} (hi:i<l.length) (h:p (Nn l i)=true) (h2:∀ k,k<i→p (Nn l k)=false):Z4 p l=i:=by
 unfold Z4
 have:l.findIdx? p=some i:=List.findIdx?_eq_some_iff_getElem.2 ⟨hi,by rw [← nth_eq hi];exact h,fun k hk=>by rw [← nth_eq ow,h2 k hk];decide⟩
 rw [this]
theorem ZbO {α:Type} [Inhabited α] (p:α→Bool) (l:List α):(Z4 p l = -1 ∧ ∀ k,k<l.length→p (Nn l k)=false) ∨ ∃ i:Nat,Z4 p l=i∧i<l.length∧p (Nn l i)=true ∧ ∀ k,k<i→p (Nn l k)=false:=by
 cases h:l.findIdx? p with
 | none=>
  left
  refine ⟨by unfold Z4;rw [h],fun k hk=>?_⟩
  have:=List.findIdx?_eq_none_iff.1 h l[k] (YaH hk)
  rw [nth_eq hk];exact this
 | some i=>
  right
  obtain ⟨h1,h2,h3⟩:=List.findIdx?_eq_some_iff_getElem.1 h
  refine ⟨i,by unfold Z4;rw [h],h1,by rw [nth_eq h1];exact h2,fun k hk=>?_⟩
  rw [nth_eq ow]
  simpa using h3 k hk
theorem Zge {α:Type} [Inhabited α] {p:α→Bool} {l:List α} (h:∀ k,k<l.length→p (Nn l k)=false):l.filter (fun x=>!p x)=l:=by
 rw [Ybg]
 intro x hx
 obtain ⟨k,hk,rfl⟩:=YaS.1 hx
 rw [← nth_eq hk,h k hk];rfl
theorem ZlS {α:Type} [Inhabited α] {p:α→Bool} {l:List α} {i:Nat} (hi:i<l.length) (hip:p (Nn l i)=true) (hib:∀ k,k<i→p (Nn l k)=false):l.take i=(l.take (i+1)).filter fun x=>!p x:=by
 have h:(l.take i).filter (fun x=>!p x)=l.take i:=Zge fun k hk=>by
  rw [Yj] at hk
  rw [nth_eq (by rw [Yj];omega),List.getElem_take,← nth_eq ow]
  exact hib k ow
 rw [ZeK (p:=fun x=>!p x) hi,hip,h];simp
theorem ZkR (l:List Int) (hl:l.length≤1000000):FnG prog 42 1 [.sl Zn l] [.star []] (PV.one) (fun v=>[ZC 3 1 Zn l v]):=by
 refine FnG.mk func42 rfl ntmps42 rfl kr fun B F0 a w F Z hG G=>?_
 obtain ⟨F,G⟩:=G.nM [0] [0]
 refine Ya (rZ G (qC qZ) Z [2,0] [0] fun G=>(Ya (Ya ?_)))
 refine Zg G (qR rr (qf (Zby Yb0 .t) r1 qz qZ)) Z [4,2,0] [0] rfl rfl fun a w F G=>?_
 obtain ⟨β4,hβ4,G⟩:=G.pickBool 4 rfl
 obtain ⟨F,G⟩:=G.nM [4,2,0] [0]
 refine Za (Zc G rfl (fun hc0=>?_) (fun hc0=>?_))
 ·have hg:l = []:=hβ4 hc0
  refine Ya (rZ G (qC qZ) Z [2,0] [0] fun G=>(Yh (Zl ?_)))
  have G:=G.fresh 1 rfl
  have G:=G.turn 1 rfl (Zas (T:=3) (sz:=1) (R:=Zn))
  have G:=G.turn 1 rfl (r':=RS.hp (ZC 3 1 Zn l (.slice none 0 0))) (fun _ _ _ _ h=>by rw [hg];exact h)
  refine Zab (h':=fun v=>ZC 3 1 Zn l v) hG G rfl (.tmp rfl .nil) (.one .one) rfl
 have hg:l = [] ++ l:=rfl
 refine Yf (Za (Ya (Zb G (qf (o_buildSlice0 (R:=Zn) (sz:=1) 101 Yb0 kr) trivial qz (qR rr (qf (o_append (sz:=1) (bs:=8) 101 (.mk' Yb0 kr kr) (by intro x;rfl) .same (.sl .t) (by simp only [Yc,Yv];omega) (by decide)) ⟨rfl,rfl,tv⟩ ⟨rfl,tv⟩ (qO rr qZ)))) Z [2] [101,0] (fun _=>rfl) (fun _=>rfl) fun τ a w F G=>?_)))
 try dsimp only [RS.sub,SF.sub,CF.sub,csub,Anc.sub,List.map,Ze,xL,xM,Nat.reduceAdd,xD,xE,xT,xU,xC,xN,zCF,Zn] at G
 generalize τ 7=v7 at G
 refine Za (Yh ?_)
 obtain ⟨F,G⟩:=G.rename 101 1 rfl rfl
 have G:=G.turn 1 rfl (r':=RS.hp (ZC 3 1 Zn l v7)) (fun _ _ _ _ h=>by rw [hg];exact h)
 refine Zab (h':=fun v=>ZC 3 1 Zn l v) hG G rfl (.tmp rfl .nil) (.one .one) rfl
theorem Zjo (v:Value) (l:List Int) (hll:l.length≤1000000):FnG prog 179 1 [.is v] [ZC 3 1 Zn l v] (PV.one) (fun v=>[ZC 3 1 Zn (Zq l) v]):=by
 refine FnG.mk func179 rfl ntmps179 rfl kr fun B F0 a w F Z hG G=>?_
 replace G:=G.turn 1 rfl (r':=.ob (.val v) (ZC 3 1 Zn l)) (fun _ _ _ _ h=>h)
 refine Ya (rZ G (qC qZ) Z [2,0] [1,0] fun G=>(Ya (Ya ?_)))
 refine rZ G (qR rr (qf (Zav 1 Yb0 .is) r1 r1 (qf (Zar .t qi) r1 qz qZ))) Z [8,2,0] [1,0] fun G=>?_
 refine Zc G rfl (fun hc0=>?_) (fun hc0=>?_)
 ·have hg:(Zq l)=l:=ZbI (by simp at hc0;omega)
  refine Ya (rZ G (qR rr (qO rr qZ)) Z [2,0] [1,0] fun G=>(Yh (Zl ?_)))
  have G:=G.turn 1 rfl (r':=RS.hp (ZC 3 1 Zn (Zq l) v)) (fun _ _ _ _ h=>by rw [hg];exact h)
  refine Zab (h':=fun v=>ZC 3 1 Zn (Zq l) v) hG G rfl (.tmp rfl .nil) (.one .one) rfl
 have hl2:2≤l.length:=by simp at hc0;omega
 refine Yf (Za (Ya (Ya (rZ G (qI qZ) Z [3,2,0] [1,0] fun G=>Yg ?_))))
 refine Zm (σ:=Nat) [0,2] [0,1] (fun s=>[(3,.pv (.int .i64 (s:Int)))]) (fun s=>[]) (fun s=>1≤s∧s≤l.length∧Zq (l.take s)=l.take s) (fun s=>l.length - s) (1) G ⟨rfl,rfl,rfl,tv⟩ ⟨rfl,rfl,tv⟩ ⟨by omega,by omega,ZbI (by rw [Yj];omega)⟩ ?_
 clear G;intro k a w F hC G
 try dsimp only at hC
 obtain ⟨F,G⟩:=G.nM [3,2,0] [1,0]
 try dsimp only at G
 obtain ⟨hk1,hkl,hkc⟩:=hC
 have hkw:IntKind.wrap .i64 ((k:Int) - 1)=(k:Int) - 1:=Zz ow
 refine Ya (Ya (rZ G (qR rr (qR rr (qf (Zav 1 Yb0 .is) r1 r1 (qL r2)))) Z [13,3,2,0] [1,0] fun G=>?_))
 refine Zc G rfl (fun hc1=>?_) (fun hc1=>?_)
 ·have hil:k<l.length:=by simp at hc1;omega
  have hst:=Zbk (l:=l) hk1 hil
  have hy0:(IntKind.wrap .i64 ((k:Int) - 1)).toNat=k - 1:=by rw [hkw];omega
  refine Yf (Za (Ya (Yg (Ya (ZB G (qR rr (qR rr (qf (o_indexAddr_row (sz:=1) 1 (.mk Yb0 kr) .is .t ow ow (by rfl)) r2 r1 (qf (ZD (ag:=false) (sz':=1) (sz:=1) 1 .t (by intro x;rfl) ow kr kr kr) r1 r1 (qR rr (qR rr (qf (o_sub .t qi) r1 qz (qf (o_indexAddr_row (sz:=1) 1 (.mk Yb0 kr) .is .t (by rw [hkw];omega) (by rw [hkw];omega) (by rfl)) r2 r1 (qf (ZD (ag:=false) (sz':=1) (sz:=1) 1 .t (by intro x;rfl) (by rw [hkw];omega) kr kr kr) r1 r1 (qf (o_eql .t .t) r2 qz qZ)))))))))) Z [25,3,2,0] [1,0] rfl rfl fun a w F G=>?_)))))
  try dsimp only [List.map,xD,xE,xT,xU,ldSF,Zn] at G
  try simp only [Yd] at G
  refine Za (Zc G rfl (fun hc2=>?_) (fun hc2=>?_))
  ·have heq:Nn l (k - 1)=Nn l k:=by rw [hy0] at hc2;simp at hc2;exact hc2.symm
   rw [Ye heq,hkc] at hst
   have hst0:=hst.symm
   refine Ya (rZ G (qR rr (qR rr (qf (ZaX (sz:=1) 1 (.mk Yb0 kr) .is .t ow ow) r2 r1 (qO rr qZ)))) Z [4,3,2,0] [1,0] fun G=>(Ya (Ya ?_)))
   refine rZ G (qI qZ) Z [5,4,3,2,0] [1,0] fun G=>Yg ?_
   have hC0:1≤1∧1≤l.length - k∧k≤k∧k≤k+1 - 1∧l.length=l.length∧l.take k=Zq (l.take (k+1)) ∧ ∀ q,k+1 - 1≤q→q<l.length→Nn l q=Nn l q:=⟨by omega,by omega,by omega,by omega,rfl,hst0,fun q _ _=>rfl⟩
   refine Zm (σ:=Nat×Nat×List Int) [0,2,4] [0] (fun s=>[(3,.pv (.int .i64 (s.1:Int))),(5,.pv (.int .i64 (s.2.1:Int)))]) (fun s=>[(1,.ob (.val v) (ZC 3 1 Zn s.2.2))]) (fun s=>1≤s.2.1∧s.2.1≤l.length - k∧k≤s.1∧s.1≤k+s.2.1 - 1∧s.2.2.length=l.length∧s.2.2.take s.1=Zq (l.take (k+s.2.1)) ∧ ∀ q,k+s.2.1 - 1≤q→q<l.length→Nn s.2.2 q=Nn l q) (fun s=>l.length - s.2.1) ((k),(1),(l)) G ⟨rfl,rfl,rfl,rfl,rfl,tv⟩ ⟨rfl,rfl,tv⟩ hC0 ?_
   clear G;intro s a w F hC G
   obtain ⟨k1,j,l1⟩:=s
   try dsimp only at hC
   obtain ⟨F,G⟩:=G.nM [5,4,3,2,0] [1,0]
   try dsimp only at G
   obtain ⟨hj1,hjk,hkk,hkj,hl1,htk,hrest⟩:=hC
   have hjw:IntKind.wrap .i64 ((j:Int) - 1)=(j:Int) - 1:=Zz ow
   refine Ya (Ya (rZ G (qR rr (qR rr (qf (Zh8 1 Yb0 .t ow) r1 r1 (qL r2)))) Z [32,5,4,3,2,0] [1,0] fun G=>?_))
   refine Zc G rfl (fun hc3=>?_) (fun hc3=>?_)
   ·have hjl:k+j<l.length:=by simp at hc3;omega
    have hx1:(Nn l1 (((k:Int)).toNat+((j:Int)).toNat))=Nn l (k+j):=by rw [Yd,Yd];exact hrest _ ow hjl
    have hx0:Nn l1 (((k:Int)).toNat+(IntKind.wrap .i64 ((j:Int) - 1)).toNat)=Nn l (k+j - 1):=by rw [hjw,show ((k:Int)).toNat+((j:Int) - 1).toNat=k+j - 1 by omega];exact hrest _ ow ow
    have hstp:=Zbk (l:=l) (p:=k+j) ow hjl
    refine Yf (Za (Ya (Yg (Ya (ZB G (qR rr (qR rr (qf (o_indexAddr_sub (sz:=1) 1 (.mk Yb0 kr) .t .t ow ow (by rfl)) r2 r1 (qf (ZD (ag:=false) (sz':=1) (sz:=1) 1 .t (by intro x;rfl) ow kr kr kr) r1 r1 (qR rr (qR rr (qf (o_sub .t qi) r1 qz (qf (o_indexAddr_sub (sz:=1) 1 (.mk Yb0 kr) .t .t (by rw [hjw];omega) (by rw [hjw];omega) (by rfl)) r2 r1 (qf (ZD (ag:=false) (sz':=1) (sz:=1) 1 .t (by intro x;rfl) (by rw [hjw];omega) kr kr kr) r1 r1 (qf (o_neq .t .t) r2 qz qZ)))))))))) Z [44,5,4,3,2,0] [1,0] rfl rfl fun a w F G=>?_)))))
    try dsimp only [List.map,xD,xE,xT,xU,ldSF,Zn] at G
    try simp only [Yd] at G
    refine Za (Zc G rfl (fun hc4=>?_) (fun hc4=>?_))
    ·have hne:¬ Nn l (k+j - 1)=Nn l (k+j):=by rw [← hx1,← hx0];simp at hc4 ⊢;exact fun e=>hc4 e.symm
     rw [Yb hne] at hstp
     obtain ⟨i2,hi2e⟩:∃ i2,i2=k1+1:=⟨_,rfl⟩
     have hi2:IntKind.wrap .i64 ((k1:Int)+1)=(i2:Int):=by rw [hi2e];exact Zd ow
     obtain ⟨l2,hl2e⟩:∃ l2,l2=l1.set k1 (Nn l1 (k+j)):=⟨_,rfl⟩
     have hx1b:Nn l1 (k+j)=Nn l (k+j):=hrest _ ow hjl
     have hC2:1≤j+1∧j+1≤l.length - k∧k≤i2∧i2≤k+(j+1) - 1∧l2.length=l.length∧l2.take i2=Zq (l.take (k+(j+1))) ∧ ∀ q,k+(j+1) - 1≤q→q<l.length→Nn l2 q=Nn l q:=⟨by omega,by omega,by omega,by omega,by rw [hl2e,YU];exact hl1,by rw [hl2e,hi2e,Zs (by rw [YU];omega),List.take_set_of_le (YO _),htk,nth_eq (by rw [YU];omega),YbA,hx1b];exact hstp.symm,fun q hq hq2=>by rw [hl2e,nth_eq (by rw [YU];omega),List.getElem_set_ne ow,← nth_eq ow];exact hrest q ow hq2⟩
     refine Ya (Zg G (qR rr (qR rr (qR rr (qR rr (qf (o_indexAddr_sub (sz:=1) 1 (.mk Yb0 kr) .t .t ow ow (by rfl)) r2 r1 (qf (ZD (ag:=false) (sz':=1) (sz:=1) 1 .t (by intro x;rfl) ow kr kr kr) r1 r1 (qf (o_indexAddr_row (sz:=1) 1 (.mk Yb0 kr) .is .t ow ow (by rfl)) r2 r1 (qf (ZW (R:=Zn) (sz:=1) (v:=(Nn l1 (((k:Int)).toNat+((j:Int)).toNat))) 1 .t (by intro x;rfl) ow .t rfl one_int kr) r2 r1 qZ)))))))) Z [5,4,3,2,0] [1,0] rfl rfl fun a w F G=>?_)
     try simp only [Yd] at G
     rw [← hl2e] at G
     refine Za (Zg G (qR rr (qp r1 (qO rr qZ))) Z [5,4,3,2,0] [1,0] rfl rfl fun a w F G=>Zj (Za ?_))
     refine rZ G (qR rr (qp r1 (qO rr qZ))) Z [5,4,3,2,0] [1,0] fun G=>?_
     have hmu:l.length - (j+1)<l.length - j:=by omega
     replace G:=G.ent (i:=3) (s':=.pv (.int .i64 (i2:Int))) rfl (.int hi2)
     replace G:=G.ent (i:=5) (s':=.pv (.int .i64 ((j+1:Nat):Int))) rfl (.int (Zd ow))
     obtain ⟨F,G⟩:=G.nM [4,2,0,5,3] [0,1]
     exact ⟨((i2),(j+1),(l2)),F,hC2,G,hmu⟩
    have heq2:Nn l (k+j - 1)=Nn l (k+j):=by rw [← hx1,← hx0];simp at hc4 ⊢;exact hc4.symm
    rw [Ye heq2] at hstp
    obtain ⟨i2,hi2e⟩:∃ i2,i2=k1:=⟨_,rfl⟩
    have hi2:(k1:Int)=(i2:Int):=by rw [hi2e]
    obtain ⟨l2,hl2e⟩:∃ l2,l2=l1:=⟨_,rfl⟩
    rw [← hl2e] at G
    have hC2:1≤j+1∧j+1≤l.length - k∧k≤i2∧i2≤k+(j+1) - 1∧l2.length=l.length∧l2.take i2=Zq (l.take (k+(j+1))) ∧ ∀ q,k+(j+1) - 1≤q→q<l.length→Nn l2 q=Nn l q:=⟨by omega,by omega,by omega,by omega,by rw [hl2e];exact hl1,by rw [hl2e,hi2e,htk];exact hstp.symm,fun q hq hq2=>by rw [hl2e];exact hrest q ow hq2⟩
    refine Yf (Zj (Za (rZ G (qR rr (qp r1 (qO rr qZ))) Z [5,4,3,2,0] [1,0] fun G=>?_)))
    have hmu:l.length - (j+1)<l.length - j:=by omega
    replace G:=G.ent (i:=3) (s':=.pv (.int .i64 (i2:Int))) rfl (.int hi2)
    replace G:=G.ent (i:=5) (s':=.pv (.int .i64 ((j+1:Nat):Int))) rfl (.int (Zd ow))
    obtain ⟨F,G⟩:=G.nM [4,2,0,5,3] [0,1]
    exact ⟨((i2),(j+1),(l2)),F,hC2,G,hmu⟩
   have hjl:k+j=l.length:=by simp at hc3;omega
   have hg:(Zq l)=(l1.take k1++List.replicate (l1.length - k1) (0:Int)).take k1:=by rw [Y4 (by rw [Yj];omega),Ya1,Nat.min_self,htk,hjl,YD]
   refine Yz (Zh (Zh (Zr (Za (Ya (rZ G (qR rr (qR rr (qf (ZaX (sz:=1) 1 (.mk Yb0 kr) .is .t ow ow) r2 r1 (qf (Zdn (R:=Zn) (z:=(0:Int)) (zs:=[.int .i64 0]) 1 Yb0 kr rfl rfl (fun _ _=>⟨⟨rfl,rfl,Zdj⟩,tv⟩) (by intro x;rfl) .t (by simp;omega)) r1 r1 qZ)))) Z [3,2,0] [1,0] fun G=>Ya ?_))))))
   refine Zb G (qR rr (qR rr (qf (ZfM (sz:=1) 1 (.mk Yb0 kr) (by intro x;rfl) .is .t ow (by simp;omega)) r2 r1 (qO rr qZ)))) Z [3,2,0] [1,0] (fun _=>rfl) (fun _=>rfl) fun τ a w F G=>?_
   try dsimp only [RS.sub,SF.sub,CF.sub,csub,Anc.sub,List.map,Zn] at G
   generalize τ 59=v59 at G
   refine Za (Yh (Zx (Zl (Zl (Zx (Zl ?_))))))
   have G:=G.turn 1 rfl (r':=RS.hp (ZC 3 1 Zn (Zq l) v59)) (fun _ _ _ _ h=>by rw [hg];exact h)
   refine Zab (h':=fun v=>ZC 3 1 Zn (Zq l) v) hG G rfl (.tmp rfl .nil) (.one .one) rfl
  have hne:¬ Nn l (k - 1)=Nn l k:=by rw [hy0] at hc2;simp at hc2;exact fun e=>hc2 e.symm
  rw [Yb hne] at hst
  refine Yf (Zj (Za (rZ G (qR rr (qp r1 (qO rr qZ))) Z [3,2,0] [1,0] fun G=>?_)))
  replace G:=G.ent (i:=3) (s':=.pv (.int .i64 ((k+1:Nat):Int))) rfl (.int (Zd ow))
  obtain ⟨F,G⟩:=G.nM [2,0,3] [1,0]
  exact ⟨(k+1),F,⟨by omega,by omega,by rw [hst,hkc,← Zs hil]⟩,G,by omega⟩
 have hg:(Zq l)=l:=by rw [show k=l.length by simp at hc1;omega,YD] at hkc;exact hkc
 refine Yz (Zh (Zh (Zr (Za (Ya (rZ G (qR rr (qO rr qZ)) Z [2] [1,0] fun G=>Yh ?_))))))
 have G:=G.turn 1 rfl (r':=RS.hp (ZC 3 1 Zn (Zq l) v)) (fun _ _ _ _ h=>by rw [hg];exact h)
 refine Zab (h':=fun v=>ZC 3 1 Zn (Zq l) v) hG G rfl (.tmp rfl .nil) (.one .one) rfl
def Zc5 (n:Int):List Int→Bool→List Int
 | [],d=>if d then [] else [n]
 | x :: l,d=>(if d=false∧n≤x then [n] else [])++(if x=n then [] else [x])++Zc5 n l (d || decide (n≤x))
def Zk9 (l:List Int) (n:Int):List Int:=Zc5 n l false
abbrev Zdm (l:List Int):Prop:=l.Pairwise fun a b=>a<b
theorem Zd3 {n:Int} : ∀ {l:List Int},(∀ x ∈ l,n<x)→Zc5 n l true=l
 | [],_=>rfl
 | x :: l,h=>by
  have:=h x (by simp)
  rw [Zc5,YbU,Zd3 fun y hy=>h y (by simp [hy]),Yb (by simp),Yb ow]
  rfl
theorem ZkU {n:Int} : ∀ {l:List Int},Zdm l→Zdm (Zk9 l n) ∧ ∀ x,x ∈ Zk9 l n ↔ x ∈ l∨x=n
 | [],_=>by simp [Zk9,Zc5]
 | y :: l,h=>by
  have h':=Yr.1 h
  unfold Zk9
  by_cases h1:y<n
  ·have e:Zc5 n (y :: l) false=y :: Zc5 n l false:=by
    rw [Zc5,Yb ow,Yb ow,show (false || decide (n≤y))=false by simp;omega];rfl
   have ih:=ZkU (n:=n) h'.2
   rw [e]
   refine ⟨Yr.2 ⟨fun p hp=>?_,ih.1⟩,fun x=>?_⟩
   ·rcases (ih.2 p).1 hp with hp | rfl
    ·exact h'.1 p hp
    ·exact h1
   ·have:=ih.2 x
    unfold Zk9 at this
    simp only [Yl,this]
    constructor
    ·rintro (h | h | h)
     ·exact .inl (.inl h)
     ·exact .inl (.inr h)
     ·exact .inr h
    ·rintro ((h | h) | h)
     ·exact .inl h
     ·exact .inr (.inl h)
     ·exact .inr (.inr h)
  ·by_cases h2:y=n
   ·subst h2
    rw [Zc5,Ye ⟨rfl,Yam _⟩,Ye rfl,show (false || decide (y≤y))=true by simp,Zd3 h'.1]
    exact ⟨h,fun x=>by simp;intro e;exact .inl e⟩
   ·rw [Zc5,Ye ⟨rfl,by omega⟩,Yb h2,show (false || decide (n≤y))=true by simp;omega,Zd3 fun x hx=>by have:=h'.1 x hx;omega]
    refine ⟨Yr.2 ⟨fun p hp=>?_,h⟩,fun x=>by simp;constructor <;> (rintro (h | h | h) <;> simp [h])⟩
    rcases Yl.1 hp with rfl | hp
    ·omega
    ·have:=h'.1 p hp;omega
def Zbu (l:List Int):List Int:=l.foldl Zk9 []
theorem ZL (l:List Int):Zdm (Zbu l) ∧ ∀ x,x ∈ Zbu l ↔ x ∈ l:=by
 have key:∀ (l acc:List Int),Zdm acc→Zdm (l.foldl Zk9 acc) ∧ ∀ x,x ∈ l.foldl Zk9 acc ↔ x ∈ acc∨x ∈ l:=by
  intro l
  induction l with
  | nil=>intro acc h;exact ⟨h,fun x=>by simp⟩
  | cons y l ih=>
   intro acc h
   have h1:=ZkU (n:=y) h
   have h2:=ih (Zk9 acc y) h1.1
   refine ⟨h2.1,fun x=>?_⟩
   rw [Yal,h2.2 x,h1.2 x,Yl]
   constructor
   ·rintro ((h | h) | h)
    ·exact .inl h
    ·exact .inr (.inl h)
    ·exact .inr (.inr h)
   ·rintro (h | h | h)
    ·exact .inl (.inl h)
    ·exact .inl (.inr h)
    ·exact .inr h
 have:=key l [] List.Pairwise.nil
 exact ⟨this.1,fun x=>by rw [show Zbu l=l.foldl Zk9 [] from rfl,this.2 x];simp⟩
theorem ZcP:∀ {a b:List Int},Zdm a→Zdm b→(∀ x,x ∈ a ↔ x ∈ b)→a=b
 | [],[],_,_,_=>rfl
 | [],y :: b,_,_,h=>by have:=(h y).2 (by simp);cases this
 | x :: a,[],_,_,h=>by have:=(h x).1 (by simp);cases this
 | x :: a,y :: b,ha,hb,h=>by
  have ha':=Yr.1 ha
  have hb':=Yr.1 hb
  have e:x=y:=by
   rcases Yl.1 ((h x).1 (by simp)) with e | e
   ·exact e
   ·rcases Yl.1 ((h y).2 (by simp)) with e2 | e2
    ·exact e2.symm
    ·have:=hb'.1 x e;have:=ha'.1 y e2;omega
  subst e
  congr 1
  refine ZcP ha'.2 hb'.2 fun z=>⟨fun hz=>?_,fun hz=>?_⟩
  ·rcases Yl.1 ((h z).1 (by simp [hz])) with e | e
   ·have:=ha'.1 z hz;omega
   ·exact e
  ·rcases Yl.1 ((h z).2 (by simp [hz])) with e | e
   ·have:=hb'.1 z hz;omega
   ·exact e
def Zaw:List Int→List Int
 | []=>[]
 | x :: l=>match Zaw l with
  | []=>[x]
  | y :: m=>if x=y then y :: m else x :: y :: m
theorem ZdB:∀ (x:Int) (l:List Int),∃ m,Zaw (x :: l)=x :: m
 | x,[]=>⟨[],rfl⟩
 | x,y :: l=>by
  obtain ⟨m,hm⟩:=ZdB y l
  unfold Zaw
  rw [hm]
  by_cases h:x=y
  ·subst h;exact ⟨m,Ye rfl⟩
  ·exact ⟨y :: m,Yb h⟩
theorem Zdt (x y:Int) (l:List Int):Zaw (x :: y :: l)=if x=y then Zaw (y :: l) else x :: Zaw (y :: l):=by
 obtain ⟨m,hm⟩:=ZdB y l
 conv=>lhs;unfold Zaw
 rw [hm]
theorem ZcH:∀ {l:List Int},l.Pairwise (fun a b=>a≤b)→Zdm (Zaw l) ∧ ∀ x,x ∈ Zaw l ↔ x ∈ l
 | [],_=>by simp [Zaw]
 | [x],_=>by simp [Zaw]
 | x :: y :: l,h=>by
  have h':=Yr.1 h
  have ih:=ZcH h'.2
  rw [Zdt]
  split
  ·rename_i e
   subst e
   exact ⟨ih.1,fun z=>by rw [ih.2 z];simp⟩
  ·rename_i e
   refine ⟨Yr.2 ⟨fun z hz=>?_,ih.1⟩,fun z=>by rw [Yl,ih.2 z,← Yl]⟩
   have h1:=h'.1 y (by simp)
   rcases Yl.1 ((ih.2 z).1 hz) with rfl | hz2
   ·omega
   ·have:=(Yr.1 h'.2).1 z hz2
    omega
theorem Zni (l:List Int):List.Pairwise (fun x y=>x≤y) (l.mergeSort leI):=by
 have:=List.pairwise_mergeSort (le:=leI) (fun a b c h1 h2=>by simp [leI] at *;omega) (fun a b=>by simp [leI];omega) l
 exact this.imp fun h=>by simpa [leI] using h
theorem Zdl (l:List Int):Zaw (l.mergeSort leI)=Zbu l:=
 ZcP (ZcH (Zni l)).1 (ZL l).1 fun x=>by rw [(ZcH (Zni l)).2,(ZL l).2];exact (YaI l leI).mem_iff
theorem ZcY:∀ l:List Int,Zq l=Zaw l
 | []=>rfl
 | [x]=>rfl
 | x :: y :: l=>by
  rw [Zdt,← ZcY (y :: l)];rfl
theorem ZhO {n:Int} : ∀ (l:List Int) (d:Bool),(Zc5 n l d).length≤l.length+1
 | [],d=>by cases d <;> simp [Zc5]
 | x :: l,d=>by
  have h1:=ZhO (n:=n) l (d || decide (n≤x))
  have h2:∀ l:List Int,(Zc5 n l true).length≤l.length:=fun l=>by
   induction l with
   | nil=>simp [Zc5]
   | cons y l ih=>
    rw [Zc5,Yb (by simp),Yc,Yc,YbU]
    split <;> simp <;> omega
  rw [Zc5,Yc,Yc]
  have h3:=h2 l
  by_cases hA:d=false∧n≤x
  ·rw [show (d || decide (n≤x))=true by simp [hA.2],Ye hA]
   split <;> simp <;> omega
  ·rw [Yb hA]
   split <;> simp <;> omega
structure OpD where
 read:Bool
 key:Int
 tx:Int
 nth:Int
 deriving DecidableEq,Inhabited
structure TxD where
 id:Int
 done:Bool
 ops:List OpD
 deriving DecidableEq,Inhabited
structure OrdD where
 key:Int
 txs:List Int
 deriving DecidableEq,Inhabited
structure Zo where
 txs:List TxD
 orders:List OrdD
 deriving DecidableEq,Inhabited
structure ZgE where
 was:List TxD
 now:List TxD
 old:List OrdD
 new:List OrdD
 deriving DecidableEq,Inhabited
def rOp (o:OpD):List PV:=[.bool o.read,.int .i64 o.key,.int .i64 o.tx,.int .i64 o.nth]
def rTx (t:TxD):List PV:=[.int .i64 t.id,.bool t.done,.sl rOp t.ops]
def ZP (o:OrdD):List PV:=[.int .i64 o.key,.sl Zn o.txs]
def Zu (h:Zo):List PV:=[.sl rTx h.txs,.sl ZP h.orders]
theorem ZpC (l:List OpD) (hl:l.length≤1000000):FnG prog 102 1 [.sl rOp l] [.star []] (PV.one) (fun v=>[ZC 60 4 rOp l v]):=by
 refine FnG.mk func102 rfl ntmps102 rfl kr fun B F0 a w F Z hG G=>?_
 obtain ⟨F,G⟩:=G.nM [0] [0]
 refine Ya (rZ G (qC qZ) Z [2,0] [0] fun G=>(Ya (Ya ?_)))
 refine Zg G (qR rr (qf (Zby Yb2 .t) r1 qz qZ)) Z [4,2,0] [0] rfl rfl fun a w F G=>?_
 obtain ⟨β4,hβ4,G⟩:=G.pickBool 4 rfl
 obtain ⟨F,G⟩:=G.nM [4,2,0] [0]
 refine Za (Zc G rfl (fun hc0=>?_) (fun hc0=>?_))
 ·have hg:l = []:=hβ4 hc0
  refine Ya (rZ G (qC qZ) Z [2,0] [0] fun G=>(Yh (Zl ?_)))
  have G:=G.fresh 1 rfl
  have G:=G.turn 1 rfl (Zas (T:=60) (sz:=4) (R:=rOp))
  have G:=G.turn 1 rfl (r':=RS.hp (ZC 60 4 rOp l (.slice none 0 0))) (fun _ _ _ _ h=>by rw [hg];exact h)
  refine Zab (h':=fun v=>ZC 60 4 rOp l v) hG G rfl (.tmp rfl .nil) (.one .one) rfl
 have hg:l = [] ++ l:=rfl
 refine Yf (Za (Ya (Zb G (qf (o_buildSlice0 (R:=rOp) (sz:=4) 101 Yb2 kr) trivial qz (qR rr (qf (o_append (sz:=4) (bs:=32) 101 (.mk' Yb2 kr kr) (by intro x;rfl) .same (.sl .t) (by simp only [Yc,Yv];omega) (by decide)) ⟨rfl,rfl,tv⟩ ⟨rfl,tv⟩ (qO rr qZ)))) Z [2] [101,0] (fun _=>rfl) (fun _=>rfl) fun τ a w F G=>?_)))
 try dsimp only [RS.sub,SF.sub,CF.sub,csub,Anc.sub,List.map,Ze,xL,xM,Nat.reduceAdd,xD,xE,xT,xU,xC,xN,zCF,rOp] at G
 generalize τ 7=v7 at G
 refine Za (Yh ?_)
 obtain ⟨F,G⟩:=G.rename 101 1 rfl rfl
 have G:=G.turn 1 rfl (r':=RS.hp (ZC 60 4 rOp l v7)) (fun _ _ _ _ h=>by rw [hg];exact h)
 refine Zab (h':=fun v=>ZC 60 4 rOp l v) hG G rfl (.tmp rfl .nil) (.one .one) rfl
def ZaA (o:OpD):Bool:=if o.read=true then Zb1 ⟨o.tx,o.key,o.nth⟩ else (idB o.key && decide (o.tx=0)) && decide (o.nth=0)
def ofO (o:OpD):Zbh:=if o.read=true then ⟨o.tx,o.key,o.nth⟩ else noV
def ZcJ (o:OpD):Int:=if ZaA o=true then 0 else 1
theorem ZcB {o:OpD} (h:ZaA o=true):(1≤o.key∧o.key≤1048575)∧(0≤o.tx∧o.tx≤1048575)∧(0≤o.nth∧o.nth≤4095):=by
 unfold ZaA at h
 split at h
 ·unfold Zb1 at h
  dsimp only at h
  split at h <;> simp only [Yt,Yp,Zd7] at h <;> omega
 ·simp only [Yt,Yp,Zd7] at h
  omega
theorem Zgy {o:OpD} (h:o.read=true):ZaA o=Zb1 (ofO o):=by unfold ZaA ofO;rw [Ye h,Ye h]
theorem ZeL {o:OpD} (h:o.read=false):ZaA o=((idB o.key && decide (o.tx=0)) && decide (o.nth=0)):=by unfold ZaA;rw [Yb (by rw [h];decide)]
theorem ZlA (v:Zbh):(Zq5 v).2=if Zb1 v=true then 0 else 1:=by unfold Zq5;split <;> rfl
theorem ZkZ (o:OpD):FnP prog 120 [.agg (rOp o)] (.agg (ZN (ofO o))):=by
 refine FnP.mk func120 rfl ntmps120 rfl fun B a w F Z hfr G=>Ya ?_
 refine Zb G (qx 101 r1 (qf (oH [.int .i64 0,.int .i64 0,.int .i64 0] 102) trivial qz qZ)) Z [2,1] [102,101,0] (fun _=>rfl) (fun _=>rfl) fun τ a w F G=>?_
 try dsimp only [RS.sub,SF.sub,CF.sub,csub,Anc.sub,List.map,zCF] at G
 generalize τ 1=v1,τ 2=v2 at G
 refine Za (Ya (Ya (rZ G (qg 0 101 r1 r1 (qa 101 r1 r1 (qf (o_not .t) r1 qz qZ))) Z [5,2,1] [102,101,0] fun G=>?_)))
 refine Zc G rfl (fun hc0=>?_) (fun hc0=>?_)
 ·have hr:o.read=false:=by simpa using hc0
  refine Ya (rZ G (qf (oB [] [.int .i64 0,.int .i64 0,.int .i64 0] [(0,1),(1,1),(2,1)] .nil) trivial qz (qs 3 102 r2 r1 qZ)) Z [2,1] [102,101,0] fun G=>(Yh (Zl ?_)))
  refine Zae hfr G rfl (.cl 102 true 3 rfl rfl .nil) (.one (.aggU rfl (by unfold ofO;rw [hr];rfl)))
 have hr:o.read=true:=by simpa using hc0
 refine Yf (Za (Ya (rZ G (qg 2 101 r1 r1 (qa 101 r1 r1 (qg 1 101 r1 r1 (qa 101 r1 r1 (qg 3 101 r1 r1 (qa 101 r1 r1 (qf (oB [(0,.tmp 8),(1,.tmp 10),(2,.tmp 12)] [.int .i64 0,.int .i64 0,.int .i64 0] [(0,1),(1,1),(2,1)] (.one rfl .t one_int kr (.one rfl .t one_int kr (.one rfl .t one_int kr .nil)))) r3 qz (qs 3 102 r2 r1 qZ)))))))) Z [2] [102,101,0] fun G=>Yh ?_)))
 refine Zae hfr G rfl (.cl 102 true 3 rfl rfl .nil) (.one (.aggU rfl (by unfold ofO;rw [hr];rfl)))
theorem Zor (o:OpD):FnP prog 86 [.agg (rOp o)] (.int .i64 (ZcJ o)):=by
 refine FnP.mk func86 rfl ntmps86 rfl fun B a w F Z hfr G=>Ya ?_
 refine Zb G (qx 101 r1 (qI qZ)) Z [2,1] [101,0] (fun _=>rfl) (fun _=>rfl) fun τ a w F G=>?_
 try dsimp only [RS.sub,SF.sub,CF.sub,csub,Anc.sub,List.map,zCF] at G
 generalize τ 1=v1 at G
 refine Za (Ya (Ya (rZ G (qg 0 101 r1 r1 (qa 101 r1 r1 qZ)) Z [6,2,1] [101,0] fun G=>?_)))
 refine Zc G rfl (fun hc0=>?_) (fun hc0=>?_)
 ·have hg:(Zq5 (ofO o)).2=ZcJ o:=by rw [ZlA];unfold ZcJ;rw [Zgy hc0]
  refine Ya (rZ G (qe 4 101 r1 r1 (qf (oP (ZkZ o) func120 (Args.one (.pagg .t))) r1 qz (qf (oP (Zn1 (ofO o)) func137 (Args.one .t)) r1 qz (qR rr (qf (Zi .t rfl) r1 qz (qf (Zi .t rfl) r1 qz (qO rr (qO rr qZ)))))))) Z [4,2,1] [101,0] fun G=>Ya ?_)
  refine rZ G (qR rr (qO rr qZ)) Z [2,1] [101,0] fun G=>(Yh (Zl ?_))
  refine Zv hfr G rfl rfl rfl (.int hg)
 have hr:o.read=false:=hc0
 refine Yf (Za (Ya (Ya (rZ G (qe 4 101 r1 r1 (qg 1 101 r1 r1 (qa 101 r1 r1 (qf (oB [(1,.tmp 16)] [.bool false,.int .i64 0,.int .i64 0,.int .i64 0] [(0,1),(1,1),(2,1),(3,1)] (.one rfl .t one_int kr .nil)) r1 qz (qf (o_neqS (ks:=[false,true,true,true]) kr .t .t (.bool (.int (.int (.int .nil))))) r2 qz (qR rr (qv 1 101 rfl r2 r1 (qw 101 rfl r2 r1 (qk rfl (fun h=>Zar (.w h) qi) r2 qz (qf (Zaa .t .t) r2 qz (qR rr (qv 1 101 rfl r2 r1 (qw 101 rfl r2 r1 (qk rfl (fun h=>Za3 (.w h) qi) r2 qz (qf (Zaa .t .t) r2 qz qZ))))))))))))))) Z [28,2] [101,0] fun G=>?_))))
 refine Zc G rfl (fun hc1=>?_) (fun hc1=>?_)
 ·have hg:(1:Int)=ZcJ o:=by
    unfold ZcJ
    rw [Yb]
    rw [ZeL hr]
    simp [hr,idB] at hc1 ⊢
    omega
  refine Ya (rZ G (qI qZ) Z [2] [101,0] fun G=>(Yh (Zl ?_)))
  refine Zv hfr G rfl rfl rfl (.int hg)
 have hg:(0:Int)=ZcJ o:=by
   unfold ZcJ
   rw [Ye]
   rw [ZeL hr]
   simp [hr,idB] at hc1 ⊢
   omega
 refine Yf (Za (Ya (rZ G (qI qZ) Z [2] [101,0] fun G=>Yh ?_)))
 refine Zv hfr G rfl rfl rfl (.int hg)
end Go.Proofs.YtlkpllemoepamaaGreat
